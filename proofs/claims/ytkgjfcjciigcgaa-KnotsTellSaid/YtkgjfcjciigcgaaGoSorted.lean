/-
  refs.Sorted over a map of bools: its keys in order.
-/
import Derived.Test.YtkgjfcjciigcgaaGoSort
import Derived.Test.YtkgjfcjciigcgaaGoRefs
namespace Go.Proofs.Ytkgjfcjciigcgaa
open Go.Proofs.Ytkgjfcjciigcgaa.Sl Go.RowKit
set_option linter.unusedVariables false
set_option linter.unusedSimpArgs false
set_option maxRecDepth 100000

theorem rep3 (l : List Cell) : (cat Cell.l l).length = l.length * 3 := cat_length len_cell l
theorem ct_Sorted {m : List (Cell × Bool)} {g clock : Nat} {es : Array MapEntry} {w : World} (hb : w.heap[g]? = some (.map es clock)) (hm : Mp kCell vB m es clock) (hlen : m.length ≤ 1000000000) : Calls Try.prog 168 #[.map (some g)] w (RetOw w m.length 3 (cat Cell.l (sortC (m.map (·.1)))) 25) := by
  refine enter (args := [_]) (M := []) (K := []) Try.func168 rfl Try.ntmps168 rfl (St.refl _ _) ?_
  refine gc_old hb (by simp) (by simp) ?_
  repeat' first
    | (refine gl_gate ?_; first
      | refine gl_nil ?_
      | (refine gl_any0 ?_; (refine gl_ev (ev_range tab_ok rfl rfl rfl rfl c_mem ?_) rfl rfl; intro r_ hr_))
      | (refine gl_any0 ?_; refine gl_pure tab_ok rfl rfl rfl rfl rfl rfl ?_))
    | (refine gc_gate ?_; first
      | refine gc_seq ?_
      | refine gc_region ?_
      | refine gc_block ?_)
    | (refine ge_gate ?_; first
      | ((with_reducible refine ge_gT ?_); first | with_reducible refine ge_then ?_ | with_reducible refine ge_then_exit ?_ | with_reducible refine ge_then_ret ?_))
  refine gc_loop (α := List (Cell × Bool) × Array Nat × Option Nat × Nat × List Value) (fun x => [(2, true, .slice none 0 0), (3, true, .slice (x.2.2.1.map ad) x.1.length x.2.2.2.1), (6, true, .pointer (some ⟨r_, 0, none⟩))])
    (fun x => ow x.2.2.1 true (cat Cell.l (x.1.map (·.1)) ++ x.2.2.2.2) 25 ++ [(r_, true, .mapIter (some g) clock x.2.1 clock), (g, false, .map es clock)]) (fun x => Rng m es x.2.1 x.1 ∧ Ow x.2.2.1 x.1.length x.2.2.2.1 3 (cat Cell.l (x.1.map (·.1))) x.2.2.2.2 ∧ x.1.length ≤ m.length) (fun x => m.length - x.1.length) ([], #[], none, 0, []) c_frs (List.Sublist.refl _) ⟨Rng.start, Ow.none0, Nat.zero_le _⟩ ?_
  rintro ⟨out, seen, q, c, sp⟩ ⟨hs, ho, hl⟩
  dsimp only at hs ho hl ⊢
  repeat' first
    | refine gl_ev (ev_next rfl rfl rfl c_mem c_mem hm hs (fun hp_ => ?_) (fun y_ seen_ y1_ y2_ y3_ y4_ => ⟨_, c_ku, ?_⟩)) rfl rfl
    | refine gl_yv (yv_entry (gok_none rfl) rfl rfl (fun _ => rfl) c_mem c_mem hm y4_) rfl rfl ?_
    | (refine gl_gate ?_; first
      | refine gl_nil ?_
      | (refine gl_load0 ?_; refine gl_yv (yv_load tab_ok (gok_none rfl) rfl rfl (fun _ => rfl) c_mem (fun _ => c_lds)) rfl rfl ?_)
      | (refine gl_app0 ?_; (refine gl_ev (ev_append tab_ok rfl rfl rfl rfl rfl rfl rfl rfl c_oa (ho) (c_src) c_lim c_lim ?_) rfl rfl; intro p_ c_ sp_ hw_))
      | (refine gl_bld0 ?_; (refine gl_ev (ev_buildSlice tab_ok rfl rfl rfl rfl rfl rfl rfl rfl rfl rfl ?_) rfl rfl; intro g_ hg_))
      | (refine gl_alc0 ?_; (refine gl_alloc tab_ok rfl rfl rfl rfl rfl ?_; intro g_ hg_))
      | (refine gl_sto0 ?_; refine gl_store tab_ok rfl rfl rfl rfl rfl rfl rfl c_one rfl c_ku ?_)
      | (refine gl_any0 ?_; refine gl_pure tab_ok rfl rfl rfl rfl rfl rfl ?_))
    | (refine gc_gate ?_; first
      | refine gc_seq ?_
      | refine gc_region ?_
      | refine gc_true rfl ?_
      | refine gc_false rfl ?_
      | refine gc_block ?_
      | refine gc_exit ?_
      | refine gc_skip ?_)
    | (refine ge_gate ?_; first
      | ((with_reducible refine ge_gT ?_); first | with_reducible refine ge_then ?_ | with_reducible refine ge_then_exit ?_ | with_reducible refine ge_then_ret ?_)
      | ((with_reducible refine ge_gK ?_); first | with_reducible refine ge_block ?_ | refine ge_block_exit ?_ | refine ge_block_pass rfl ?_ | with_reducible refine ge_block_ret ?_))
  · have hkeys : (out.map (·.1)).Nodup := (hp_.map (·.1)).nodup_iff.2 hm.keys
    have hsort : sortC (out.map (·.1)) = sortC (m.map (·.1)) := sortC_of_perm hkeys (hp_.map (·.1))
    have hlen2 := hp_.length_eq
    rcases q with _ | g2
    · have h1 := ho.nil rfl
      have h2 := ho.le
      have h3 : out = [] := List.eq_nil_of_length_eq_zero (by omega)
      subst h3
      have h4 : m = [] := List.eq_nil_of_length_eq_zero (by simpa using hlen2.symm)
      subst h4
      repeat' first
        | (refine gl_gate ?_; first
          | refine gl_nil ?_
          | (refine gl_calv0 ?_; first | refine gl_yd (yd_call (gok_none rfl) rfl ent207 rfl rfl (fun _ => allT_of rfl) (fun _ W hW => ct_sortNone c none _ W)) rfl rfl ?_)
          | (refine gl_any0 ?_; refine gl_pure tab_ok rfl rfl rfl rfl rfl rfl ?_))
        | (refine gc_gate ?_; first
          | refine gc_seq ?_
          | refine gc_region ?_
          | refine gc_ret ?_)
        | (refine ge_gate ?_; first
          | ((with_reducible refine ge_gT ?_); first | with_reducible refine ge_then ?_ | with_reducible refine ge_then_exit ?_ | with_reducible refine ge_then_ret ?_)
          | ((with_reducible refine ge_gB ?_); first | refine ge_ret1 tab_ok rfl c_rvt ?_ | refine ge_end1 tab_ok rfl c_rvt ?_ | refine ge_ret2 tab_ok rfl c_rvt c_rvt ?_ | refine ge_ret_none rfl ?_ | refine ge_end_none rfl ?_))
      intro W hW
      subst h1
      have h5 : sp = [] := List.eq_nil_of_length_eq_zero (by have := ho.room; simpa using this)
      subst h5
      exact ⟨none, 0, [], rfl, ⟨by simp [sortC, cat], rfl, Nat.le_refl _, fun _ => rfl⟩, hW.drop (List.nil_sublist _)⟩
    · refine gl_ev (ev_callG (val := fun _ : Unit => .tuple #[]) (ob := fun _ => .cells (cat Cell.l (sortC (out.map (·.1))) ++ sp).toArray 25 (0, 0)) (φ := fun _ => True) (g := g2) (o1 := .cells (cat Cell.l (out.map (·.1)) ++ sp).toArray 25 (0, 0)) rfl rfl ent207 rfl rfl rfl (fun W hW => ?_) (fun x hx => ⟨_, c_ku, ?_⟩)) rfl rfl
      · have := ct_sortCells (g := g2) (c := c) (xs := out.map (·.1)) (sp := sp) (w := W) (hW.kn (wr := true) c_mem) (by rw [List.length_map]; omega)
        rw [List.length_map] at this
        exact this
      repeat' first
        | (refine gl_gate ?_; first
          | refine gl_nil ?_
          | (refine gl_any0 ?_; refine gl_pure tab_ok rfl rfl rfl rfl rfl rfl ?_))
        | (refine gc_gate ?_; first
          | refine gc_seq ?_
          | refine gc_region ?_
          | refine gc_ret ?_)
        | (refine ge_gate ?_; first
          | ((with_reducible refine ge_gT ?_); first | with_reducible refine ge_then ?_ | with_reducible refine ge_then_exit ?_ | with_reducible refine ge_then_ret ?_)
          | ((with_reducible refine ge_gB ?_); first | refine ge_ret1 tab_ok rfl c_rvt ?_ | refine ge_end1 tab_ok rfl c_rvt ?_ | refine ge_ret2 tab_ok rfl c_rvt c_rvt ?_ | refine ge_ret_none rfl ?_ | refine ge_end_none rfl ?_))
      intro W hW
      rw [← hlen2, ← hsort]
      refine ⟨some g2, c, sp, rfl, ⟨by rw [rep3, sortC_length, List.length_map], ho.room, ho.le, ho.nil⟩, hW.drop (List.Sublist.cons_cons _ (List.nil_sublist _))⟩
  · refine ge_round (out ++ [y_], seen_, p_, c_, sp_) ⟨y4_, ?_, by rw [List.length_append]; exact y3_⟩ (by show m.length - (out ++ [y_]).length < m.length - out.length; rw [List.length_append]; simp; omega) ?_ ?_
    · show Ow p_ (out ++ [y_]).length c_ 3 (cat Cell.l ((out ++ [y_]).map (·.1))) sp_
      rw [List.length_append, List.map_append, cat_append]
      exact hw_
    · dsimp only
      rw [List.length_append]
      exact c_frs
    · dsimp only
      rw [List.map_append, cat_append]
      exact List.Sublist.append (List.Sublist.refl _) (List.Sublist.cons _ (List.Sublist.cons _ (List.Sublist.refl _)))
end Go.Proofs.Ytkgjfcjciigcgaa
