/-
  deps.After: what hangs on a cell, found with a list of work.
-/
import Derived.Test.YtkgjfcjciigcgaaGoDepsP3
import Derived.Test.YtkgjfcjciigcgaaGoRefsR
namespace Go.Proofs.Ytkgjfcjciigcgaa
open Go.Proofs.Ytkgjfcjciigcgaa.Sl Go.RowKit
set_option linter.unusedVariables false
set_option linter.unusedSimpArgs false
set_option linter.unusedSectionVars false
set_option maxRecDepth 100000

theorem zero_bool (w : World) : (zeroValue 4).run Try.prog w = .ok (vB false) w := Try.zeroValue4 w
theorem Sl.src_any {P : Program} {T : Tab} {w0 : World} {M : List Nat} {K : Kl} {t' : TypeId} {s bs k n : Nat} {z : List Value} {tx : TypeId} {f : Nat → List Value} {p : Option Addr} {cap : Nat} (hT : TabOk P T) (ht : ty T tx = some ⟨.slice t', s, bs, z⟩) (h : SlA w0 k p n f) (hM : 0 < n → pb p ∉ M) (h1 : ∀ i, i < n → ∀ u ∈ f i, u.oneCell' = true) : SrcK P k tx w0 M K (.slice p n cap) n (elems n f).flatten := by
  cases p with
  | some g => exact src_slA hT ht h hM h1
  | none =>
    have h0 : n = 0 := by
      rcases Nat.eq_zero_or_pos n with h2 | h2
      · exact h2
      · have := h.ptr h2; cases this
    subst h0
    exact fun W _ => Src.ofNil W (hT tx _ ht).kind cap
theorem ct_SortedA {m : List (Cell × Bool)} {L : List Cell} {g clock : Nat} {es : Array MapEntry} {w : World} (hd : sortC (m.map (·.1)) = L) (hl : m.length = L.length) (hb : w.heap[g]? = some (.map es clock)) (hm : Mp kCell vB m es clock) (hlen : m.length ≤ 1000000000) : Calls Try.prog 168 #[.map (some g)] w (RetOw w L.length 3 (cat Cell.l L) 25) := by
  have := ct_Sorted hb hm hlen
  rw [hd, hl] at this
  exact this
structure AfS where
  m : List (Cell × Bool)
  es : Array MapEntry
  ck : Nat
  p : Option Nat
  pa : Option Addr
  c : Nat
  pre : List Value
  xs : List Cell
  sp : List Value
structure AfOk (l : List En) (x : Cell) (s : AfS) : Prop where
  mp : Mp kCell vB s.m s.es s.ck
  wk : Wk l x (s.m.map (·.1)) s.xs
  ow : OwO s.p s.pa s.xs.length s.c 3 s.pre (cat Cell.l s.xs) s.sp
  le : wkN l s.m.length s.xs.length ≤ wkN l 0 l.length
  tr : ∀ y, mgetD s.m y false = decide (y ∈ s.m.map (·.1))
theorem ct_AfterP (l : List En) (g : Nat) (x : Cell) (w : World) (h : DpP w l g) (hl : l.length ≤ 1000) : Calls Try.prog 117 #[.pointer (some (ad g)), .agg x.l.toArray] w (RetOw w (aft l x).length 3 (cat Cell.l (aft l x)) 25) := by
  have hD := h
  obtain ⟨⟨p, c, gr, gf, mr, mf, er, ef, kr, kf, hg, hsc, ⟨hgr, hmr, hrr⟩, ⟨hgf, hmf, hrf⟩⟩⟩ := h
  have hne : gf ≠ g := fun e => by rw [e, hg] at hgf; cases hgf
  have hrl := rrD_len l x
  refine enter (args := [_, _]) (M := []) (K := []) Try.func117 rfl Try.ntmps117 rfl (St.refl _ _) ?_
  refine gc_old hg (by simp) (by simp) ?_
  refine gc_old hgf (by simp) (by simp [hne]) ?_
  repeat' first
    | refine gl_ev (ev_makeMap rfl rfl ?_) rfl rfl; intro gm hgm
    | (refine gl_gate ?_; first
      | refine gl_nil ?_
      | (refine gl_load0 ?_; refine gl_yv (yv_load tab_ok (gok_none rfl) rfl rfl (fun _ => rfl) c_mem (fun _ => c_lds)) rfl rfl ?_)
      | (refine gl_box0 ?_; first | (refine gl_box_agg rfl rfl rfl rfl rfl ?_; intro g_ hg_) | (refine gl_box_one rfl rfl rfl rfl rfl rfl ?_; intro g_ hg_) | (refine gl_box rfl rfl rfl rfl rfl ?_; intro g_ hg_))
      | (refine gl_any0 ?_; refine gl_pure tab_ok rfl rfl rfl rfl rfl rfl ?_))
    | (refine gc_gate ?_; first
      | refine gc_seq ?_
      | refine gc_region ?_
      | refine gc_false rfl ?_
      | refine gc_skip ?_)
    | (refine ge_gate ?_; first
      | ((with_reducible refine ge_gT ?_); first | with_reducible refine ge_then ?_ | with_reducible refine ge_then_exit ?_ | with_reducible refine ge_then_ret ?_))
  repeat' first
    | (refine gl_gate ?_; first
      | refine gl_nil ?_
      | (refine gl_any0 ?_; (refine gl_ev (ev_callOw rfl rfl ent115 rfl rfl rfl (fun W hW => ct_ReadersP l g x W (hD.st hW) hl) ?_) rfl rfl; intro p0 c0 sp0 hw0))
      | (refine gl_any0 ?_; refine gl_pure tab_ok rfl rfl rfl rfl rfl rfl ?_))
    | (refine gc_gate ?_; first
      | refine gc_block ?_)
    | (refine ge_gate ?_; first
      | ((with_reducible refine ge_gT ?_); first | with_reducible refine ge_then ?_ | with_reducible refine ge_then_exit ?_ | with_reducible refine ge_then_ret ?_))
  refine gc_loop (α := AfS) (fun s => [(0, true, .pointer (some (ad g))), (5, true, .map (some gm)), (6, true, .slice s.pa s.xs.length s.c)])
    (fun s => ow s.p true (s.pre ++ (cat Cell.l s.xs ++ s.sp)) 25 ++ [(gm, true, .map s.es s.ck), (gf, false, .map ef kf), (g, false, .cells [.slice p (dC l).length c, .map (some gr), .map (some gf)].toArray 207 (0, 0))]) (AfOk l x) (fun s => wkN l s.m.length s.xs.length) ⟨[], #[], 0, p0, p0.map ad, c0, [], rrD l x, sp0⟩ c_frs
    (List.Sublist.append (List.Sublist.refl _) (List.Sublist.cons_cons _ (List.Sublist.cons _ (List.Sublist.refl _)))) ⟨Mp.nil, Wk.start l x, OwO.of hw0, by unfold wkN; dsimp only; simp only [List.length_nil]; omega, fun y => rfl⟩ ?_
  rintro ⟨m, es, ck, q, pa, cq, pre, xs, sp⟩ ⟨hmp, hwk, how, hle, htr⟩
  dsimp only at hmp hwk how hle htr ⊢
  have hxl := wkN_le hle hl
  have hml := hwk.len
  rw [List.length_map] at hml
  repeat' first
    | (refine gl_gate ?_; first
      | refine gl_nil ?_
      | (refine gl_any0 ?_; refine gl_pure tab_ok rfl rfl rfl rfl rfl rfl ?_))
    | (refine gc_gate ?_; first
      | refine gc_seq ?_
      | refine gc_region ?_)
    | (refine ge_gate ?_; first
      | ((with_reducible refine ge_gT ?_); first | with_reducible refine ge_then ?_ | with_reducible refine ge_then_exit ?_ | with_reducible refine ge_then_ret ?_))
  (refine gc_cond rfl ?_ ?_ <;> intro h_ <;> have hd_ := h_ <;> (try simp only [bytes_beq, cell_beq, val_beq, stamp_beq, decide_eq_true_eq, decide_eq_false_iff_not, Bool.and_eq_true, Bool.or_eq_true, Bool.or_eq_false_iff, Bool.not_eq_true', Bool.not_eq_false', Bool.not_true, Bool.not_false, Bool.false_or, Bool.true_and, Bool.and_true, Bool.or_false, beq_iff_eq, bne_iff_ne, beq_eq_false_iff_ne, bne_eq_false_iff_eq, ne_eq, Bool.false_eq_true, reduceCtorEq] at hd_) <;> (try (exfalso; omega)))
  · obtain ⟨y, ys, rfl⟩ : ∃ y ys, xs = y :: ys := by
      cases xs with
      | nil => simp at hd_
      | cons y ys => exact ⟨y, ys, rfl⟩
    have hyl := rrD_len l y
    obtain ⟨pr, cr, hv, hsr⟩ := hrf y
    repeat' first
      | (refine gl_idx0 ?_; refine gl_yv (yv_idxO0 tab_ok how (gok_none rfl) rfl rfl rfl rfl rfl (fun _ => rfl) (fun _ => rfl) (fun _ => by simp)) rfl rfl ?_)
      | (refine gl_load0 ?_; refine gl_yv (yv_ldO0 tab_ok c_oa how (gok_none rfl) rfl rfl (fun _ => rfl) (fun _ => lds_cat (i := 0) len_cell (by simp) rfl rfl rfl) (fun _ => by simp)) rfl rfl ?_)
      | (refine gl_any0 ?_; refine gl_yv ((yv_lookup (c := false) (k := y) (z0 := false) key_cell tab_ok zero_bool (gok_none rfl) rfl rfl rfl rfl (fun _ => rfl) (fun _ => rfl) hmp c_mem).cast (v' := .bool (decide (y ∈ m.map (·.1)))) (by rw [← htr]; rfl)) rfl rfl ?_)
      | (refine gl_gate ?_; first
        | refine gl_nil ?_
        | (refine gl_any0 ?_; refine gl_pure tab_ok rfl rfl rfl rfl rfl rfl ?_))
      | (refine gc_gate ?_; first
        | refine gc_seq ?_
        | refine gc_region ?_
        | refine gc_block ?_
        | refine gc_skip ?_)
      | (refine ge_gate ?_; first
        | ((with_reducible refine ge_gT ?_); first | with_reducible refine ge_then ?_ | with_reducible refine ge_then_exit ?_ | with_reducible refine ge_then_ret ?_))
    (refine gc_cond rfl ?_ ?_ <;> intro h_ <;> have hd_ := h_ <;> (try simp only [bytes_beq, cell_beq, val_beq, stamp_beq, decide_eq_true_eq, decide_eq_false_iff_not, Bool.and_eq_true, Bool.or_eq_true, Bool.or_eq_false_iff, Bool.not_eq_true', Bool.not_eq_false', Bool.not_true, Bool.not_false, Bool.false_or, Bool.true_and, Bool.and_true, Bool.or_false, beq_iff_eq, bne_iff_ne, beq_eq_false_iff_ne, bne_eq_false_iff_eq, ne_eq, Bool.false_eq_true, reduceCtorEq] at hd_) <;> (try (exfalso; omega)))
    · have hyn : y ∉ m.map (·.1) := by simpa using hd_
      repeat' first
        | (refine gl_idx0 ?_; refine gl_yv (yv_idxO0 tab_ok how (gok_none rfl) rfl rfl rfl rfl rfl (fun _ => rfl) (fun _ => rfl) (fun _ => by simp)) rfl rfl ?_)
        | (refine gl_load0 ?_; refine gl_yv (yv_ldO0 tab_ok c_oa how (gok_none rfl) rfl rfl (fun _ => rfl) (fun _ => lds_cat (i := 0) len_cell (by simp) rfl rfl rfl) (fun _ => by simp)) rfl rfl ?_)
        | refine gl_ev0 (ev_mapUpdate (kf := kCell) (vf := vB) (k := y) (u := true) key_cell tab_ok rfl rfl rfl rfl rfl rfl hmp c_mem (fun es2 clock2 hm2 => ⟨_, c_ku, ?_⟩)) rfl
        | (refine gl_gate ?_; first
          | refine gl_nil ?_
          | (refine gl_any0 ?_; refine gl_pure tab_ok rfl rfl rfl rfl rfl rfl ?_))
        | (refine gc_gate ?_; first
          | refine gc_seq ?_
          | refine gc_region ?_)
        | (refine ge_gate ?_; first
          | ((with_reducible refine ge_gT ?_); first | with_reducible refine ge_then ?_ | with_reducible refine ge_then_exit ?_ | with_reducible refine ge_then_ret ?_))
      refine gp_start [9, 10] #[false, false, false, false, false, false, false, false, false, false, false] mixed rfl rfl c_qp ?_; intro hqp_
      refine gp_take 0 #[true, false, false, false, false, false, false, false, false, false, false] hqp_ rfl (by kernel_rfl) (yv_pure tab_ok c_gok rfl rfl c_allT) c_cl rfl rfl ?_
      refine gp_take 1 #[true, true, false, false, false, false, false, false, false, false, false] hqp_ rfl (by kernel_rfl) (yv_pure tab_ok c_gok rfl rfl c_allT) c_cl rfl rfl ?_
      refine gp_take 2 #[true, true, true, false, false, false, false, false, false, false, false] hqp_ rfl (by kernel_rfl) (yv_pure tab_ok c_gok rfl rfl c_allT) c_cl rfl rfl ?_
      refine gp_take 3 #[true, true, true, true, false, false, false, false, false, false, false] hqp_ rfl (by kernel_rfl) (yv_pure tab_ok c_gok rfl rfl c_allT) c_cl rfl rfl ?_
      refine gp_take 4 #[true, true, true, true, true, false, false, false, false, false, false] hqp_ rfl (by kernel_rfl) (yv_load tab_ok c_gok rfl rfl c_imp c_mem (fun _ => c_lds)) c_cl rfl rfl ?_
      refine gp_take 5 #[true, true, true, true, true, true, false, false, false, false, false] hqp_ rfl (by kernel_rfl) (yv_pure tab_ok c_gok rfl rfl c_allT) c_cl rfl rfl ?_
      refine gp_take 6 #[true, true, true, true, true, true, true, false, false, false, false] hqp_ rfl (by kernel_rfl) (((yv_idxO0 tab_ok how c_gok rfl rfl rfl rfl rfl c_imp c_imp (fun _ => by simp)))) c_cl rfl rfl ?_
      refine gp_take 7 #[true, true, true, true, true, true, true, true, false, false, false] hqp_ rfl (by kernel_rfl) (((yv_ldO0 tab_ok c_oa how c_gok rfl rfl c_imp (fun _ => lds_cat (i := 0) len_cell (by simp) rfl rfl rfl) (fun _ => by simp)))) c_cl rfl rfl ?_
      refine gp_take 8 #[true, true, true, true, true, true, true, true, true, false, false] hqp_ rfl (by kernel_rfl) (((yv_lookup (c := false) (k := y) (z0 := nilS) key_cell tab_ok zero_cells c_gok rfl rfl rfl rfl c_imp c_imp hmf c_mem).cast (v' := .slice pr (rrD l y).length cr) (by rw [← hv]; rfl))) c_cl rfl rfl ?_
      (refine gp_last 9 #[true, true, true, true, true, true, true, true, true, true, false] rfl (by kernel_rfl) (by simp) rfl rfl (ev_appendO tab_ok rfl rfl rfl rfl rfl rfl rfl c_oa how (src_any tab_ok rfl hsr (fun _ => List.not_mem_nil) (fun i _ => ones_of rfl)) (by simp only [List.length_cons] at hxl ⊢; omega) (by simp only [List.length_cons] at hxl ⊢; omega) ?_); intro p3 pa3 c3 pre3 sp3 hw3)
      refine gp_last 10 #[true, true, true, true, true, true, true, true, true, true, true] rfl (by kernel_rfl) (by simp) rfl rfl (ev_yv (l := []) rfl (yv_pure tab_ok (gok_none rfl) rfl rfl (fun _ => allT_of rfl)) ?_)
      refine gp_done (by kernel_rfl) ?_; clear hqp_
      repeat' first
        | (refine gl_any0 ?_; refine gl_yv (yv_sliceL (lo := 1) tab_ok (gok_none rfl) rfl rfl rfl rfl rfl (fun _ => rfl) (fun _ => rfl) (fun _ => by simp; omega)) rfl rfl ?_)
        | (refine gl_gate ?_; first
          | refine gl_nil ?_
          | (refine gl_any0 ?_; refine gl_pure tab_ok rfl rfl rfl rfl rfl rfl ?_))
        | (refine gc_gate ?_; first
          | refine gc_region ?_)
        | (refine ge_gate ?_; first
          | ((with_reducible refine ge_gT ?_); first | with_reducible refine ge_then ?_ | with_reducible refine ge_then_exit ?_ | with_reducible refine ge_then_ret ?_)
          | ((with_reducible refine ge_gK ?_); first | with_reducible refine ge_block ?_ | refine ge_block_exit ?_ | refine ge_block_pass rfl ?_ | with_reducible refine ge_block_ret ?_))
      have e1 : (y :: ys).length + (rrD l y).length - 1 = (ys ++ rrD l y).length := by simp
      have e2 : cat Cell.l (y :: ys) ++ (elems (rrD l y).length fun i => ((rrD l y).getD i default).l).flatten = y.l ++ cat Cell.l (ys ++ rrD l y) := by
        rw [elemsAllC, cat_append, ← List.append_assoc]; rfl
      have e3 : (y :: ys).length + (rrD l y).length = (ys ++ rrD l y).length + 1 := by simp; omega
      rw [e1, e2]
      rw [e2, e3] at hw3
      have hms : mset m y true = m ++ [(y, true)] := by
        unfold mset
        rw [fnd_none.2 fun z hz e => hyn (List.mem_map.2 ⟨z, hz, e⟩)]
      have hwk2 := hwk.take hyn
      have hN := hwk2.len
      rw [List.length_append, List.length_map, List.length_singleton] at hN
      have hlt := wkN_take l (n := m.length) (m := ys.length) (k := (rrD l y).length) hN hyl
      have hml2 : (mset m y true).length = m.length + 1 := by rw [hms, List.length_append]; rfl
      refine ge_round ⟨mset m y true, es2, clock2, p3, _, _, pre3 ++ y.l, ys ++ rrD l y, sp3⟩ ⟨hm2, by rw [hms, List.map_append]; exact hwk2, hw3.cut rfl, ?_, fun z => ?_⟩ ?_ c_frs ?_
      · dsimp only
        rw [hml2, List.length_append]
        exact Nat.le_trans (Nat.le_of_lt hlt) hle
      · dsimp only
        rw [mgetD_msetM, hms, List.map_append]
        by_cases hz : y = z
        · rw [if_pos hz, hz]; simp
        · rw [if_neg hz, htr, decide_eq_decide, List.mem_append]
          exact ⟨.inl, fun h => h.resolve_right fun h2 => hz (List.mem_singleton.1 h2).symm⟩
      · dsimp only
        rw [hml2, List.length_append]
        exact hlt
      · dsimp only
        rw [show pre3 ++ y.l ++ (cat Cell.l (ys ++ rrD l y) ++ sp3) = pre3 ++ (y.l ++ cat Cell.l (ys ++ rrD l y) ++ sp3) by simp]
        exact List.Sublist.refl _
    · have hyn : y ∈ m.map (·.1) := by simpa using hd_
      repeat' first
        | (refine gl_any0 ?_; refine gl_yv (yv_sliceL (lo := 1) tab_ok (gok_none rfl) rfl rfl rfl rfl rfl (fun _ => rfl) (fun _ => rfl) (fun _ => by simp)) rfl rfl ?_)
        | (refine gl_gate ?_; first
          | refine gl_nil ?_
          | (refine gl_any0 ?_; refine gl_pure tab_ok rfl rfl rfl rfl rfl rfl ?_))
        | (refine gc_gate ?_; first
          | refine gc_region ?_
          | refine gc_skip ?_)
        | (refine ge_gate ?_; first
          | ((with_reducible refine ge_gT ?_); first | with_reducible refine ge_then ?_ | with_reducible refine ge_then_exit ?_ | with_reducible refine ge_then_ret ?_)
          | ((with_reducible refine ge_gK ?_); first | with_reducible refine ge_block ?_ | refine ge_block_exit ?_ | refine ge_block_pass rfl ?_ | with_reducible refine ge_block_ret ?_))
      refine ge_round ⟨m, es, ck, q, _, _, pre ++ y.l, ys, sp⟩ ⟨hmp, hwk.skip hyn, how.cut rfl, Nat.le_trans (Nat.le_of_lt (wkN_skip l _ _)) hle, htr⟩ (wkN_skip l _ _) c_frs ?_
      dsimp only
      rw [show pre ++ y.l ++ (cat Cell.l ys ++ sp) = pre ++ (cat Cell.l (y :: ys) ++ sp) by rw [List.append_assoc, ← List.append_assoc y.l]; rfl]
      exact List.Sublist.refl _
  · have hx0 : xs = [] := by
      cases xs with
      | nil => rfl
      | cons y ys => simp at hd_
    subst hx0
    have hdone := hwk.done
    have hlen : m.length = (aft l x).length := by rw [← hdone, sortC_length, List.length_map]
    repeat' first
      | (refine gl_gate ?_; first
        | refine gl_nil ?_
        | (refine gl_any0 ?_; (refine gl_ev (ev_callOw rfl rfl ent168 rfl rfl rfl (fun W hW => ct_SortedA hdone hlen (hW.kn (wr := true) c_mem) hmp (by omega)) ?_) rfl rfl; intro p_ c_ sp_ hw_))
        | (refine gl_any0 ?_; refine gl_pure tab_ok rfl rfl rfl rfl rfl rfl ?_))
      | (refine gc_gate ?_; first
        | refine gc_seq ?_
        | refine gc_region ?_
        | refine gc_exit ?_
        | refine gc_ret ?_)
      | (refine ge_gate ?_; first
        | ((with_reducible refine ge_gT ?_); first | with_reducible refine ge_then ?_ | with_reducible refine ge_then_exit ?_ | with_reducible refine ge_then_ret ?_)
        | ((with_reducible refine ge_gK ?_); first | with_reducible refine ge_block ?_ | refine ge_block_exit ?_ | refine ge_block_pass rfl ?_ | with_reducible refine ge_block_ret ?_)
        | ((with_reducible refine ge_gB ?_); first | refine ge_ret1 tab_ok rfl c_rvt ?_ | refine ge_end1 tab_ok rfl c_rvt ?_ | refine ge_ret2 tab_ok rfl c_rvt c_rvt ?_ | refine ge_ret_none rfl ?_ | refine ge_end_none rfl ?_))
    intro W hW
    exact ⟨p_, c_, sp_, rfl, hw_, hW.drop (List.sublist_append_left _ _)⟩
end Go.Proofs.Ytkgjfcjciigcgaa
