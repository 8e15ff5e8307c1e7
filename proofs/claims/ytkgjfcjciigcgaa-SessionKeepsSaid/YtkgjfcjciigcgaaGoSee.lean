/-
  window.See, window.of; the reference's Set.
-/
import Derived.Test.YtkgjfcjciigcgaaGoPlay
import Derived.Test.YtkgjfcjciigcgaaGoOrd
namespace Go.Proofs.Ytkgjfcjciigcgaa
open Go.Proofs.Ytkgjfcjciigcgaa.Sl Go.RowKit
set_option linter.unusedVariables false
set_option linter.unusedSimpArgs false
set_option maxRecDepth 100000

def seen1 (a b : Cell) (x : Shown) : Bool := inR a b x.cell && !(x.val.kind == 0)
def seeL (a b : Cell) (l : List Shown) : List Shown := l.filter (seen1 a b)
theorem seeL_snoc (a b : Cell) (l : List Shown) (x : Shown) : seeL a b (l ++ [x]) = if seen1 a b x then seeL a b l ++ [x] else seeL a b l := by
  unfold seeL
  rw [List.filter_append]
  cases h : seen1 a b x <;> simp [h]
theorem seeL_len (a b : Cell) (l : List Shown) : (seeL a b l).length ≤ l.length := List.length_filter_le ..
theorem ct_See (a b : Cell) (l : List Shown) (p : Option Addr) (n cap : Nat) (w : World) (hn : n = l.length) (hs : SlA w 6 p n (fun i => (l.getD i default).l)) (hl : n ≤ 1000000000) : Calls Try.prog 103 #[.agg (a.l ++ b.l).toArray, .slice p n cap] w (RetOw w (seeL a b l).length 6 (cat Shown.l (seeL a b l)) 120) := by
  refine enter (args := [_, _]) (M := []) (K := []) Try.func103 rfl Try.ntmps103 rfl (St.refl _ _) ?_
  repeat' first
    | (refine gl_gate ?_; first
      | refine gl_nil ?_
      | (refine gl_box0 ?_; first | (refine gl_box_agg rfl rfl rfl rfl rfl ?_; intro g_ hg_) | (refine gl_box_one rfl rfl rfl rfl rfl rfl ?_; intro g_ hg_) | (refine gl_box rfl rfl rfl rfl rfl ?_; intro g_ hg_))
      | (refine gl_any0 ?_; refine gl_pure tab_ok rfl rfl rfl rfl rfl rfl ?_))
    | (refine gc_gate ?_; first
      | refine gc_seq ?_
      | refine gc_region ?_
      | refine gc_block ?_)
    | (refine ge_gate ?_; first
      | ((with_reducible refine ge_gT ?_); first | with_reducible refine ge_then ?_ | with_reducible refine ge_then_exit ?_ | with_reducible refine ge_then_ret ?_))
  refine gc_loop (α := Nat × Option Nat × Nat × List Value) (fun x => [(2, true, .pointer (some ⟨g_, 0, none⟩)), (5, true, .slice (x.2.1.map ad) (seeL a b (l.take x.1)).length x.2.2.1), (8, true, .slice p n cap), (9, true, .int .i64 n), (10, true, .int .i64 (x.1 : Int))])
    (fun x => ow x.2.1 true (cat Shown.l (seeL a b (l.take x.1)) ++ x.2.2.2) 120 ++ [(g_, true, .cells (a.l ++ b.l).toArray 55 (0, 0))]) (fun x => x.1 ≤ n ∧ Ow x.2.1 (seeL a b (l.take x.1)).length x.2.2.1 6 (cat Shown.l (seeL a b (l.take x.1))) x.2.2.2) (fun x => n - x.1) (0, none, 0, []) c_frs (List.Sublist.refl _) ⟨Nat.zero_le _, Ow.none0⟩ ?_
  rintro ⟨i, q, c, sp⟩ ⟨hi, ho⟩
  dsimp only at hi ho ⊢
  have hll : (seeL a b (l.take i)).length ≤ 1000000000 := by have := seeL_len a b (l.take i); rw [List.length_take] at this; omega
  repeat' first
    | (refine gl_gate ?_; first
      | refine gl_nil ?_
      | (refine gl_load0 ?_; refine gl_yv (yv_load tab_ok (gok_none rfl) rfl rfl (fun _ => rfl) c_mem (fun _ => c_lds)) rfl rfl ?_)
      | (refine gl_add0 ?_; refine gl_yv (yv_add tab_ok (gok_none rfl) rfl rfl rfl rfl (fun _ => allT_of rfl) (by intro _; omega)) rfl rfl ?_)
      | (refine gl_idx0 ?_; refine gl_yv (yv_idxA tab_ok hs (gok_none rfl) rfl rfl rfl rfl rfl rfl (fun _ => rfl) (fun _ => rfl) c_bnd) rfl rfl ?_)
      | (refine gl_load0 ?_; refine gl_yv (yv_ldA0 tab_ok hs c_nm (gok_none rfl) rfl rfl (fun _ => rfl) c_bnd (fun _ => c_lds)) rfl rfl ?_)
      | (refine gl_app0 ?_; (refine gl_ev (ev_append tab_ok rfl rfl rfl rfl rfl rfl rfl rfl c_oa (ho) (c_src) c_lim c_lim ?_) rfl rfl; intro p_ c_ sp_ hw_))
      | (refine gl_bld0 ?_; (refine gl_ev (ev_buildSlice tab_ok rfl rfl rfl rfl rfl rfl rfl rfl rfl rfl ?_) rfl rfl; intro g_ hg_))
      | (refine gl_calv0 ?_; first | refine gl_yd (yd_call (gok_none rfl) rfl ent175 rfl rfl (fun _ => allT_of rfl) (fun _ W hW => ct_addrIn a b (l.getD i default).cell W)) rfl rfl ?_ | refine gl_yd (yd_call (gok_none rfl) rfl ent176 rfl rfl (fun _ => allT_of rfl) (fun _ W hW => ct_blank (l.getD i default) W)) rfl rfl ?_)
      | (refine gl_calvG ?_; first | refine gl_yd (yd_call c_gok rfl ent175 rfl rfl c_allT (fun _ W hW => ct_addrIn a b (l.getD i default).cell W)) rfl rfl ?_ | refine gl_yd (yd_call c_gok rfl ent176 rfl rfl c_allT (fun _ W hW => ct_blank (l.getD i default) W)) rfl rfl ?_)
      | (refine gl_pick0 ?_; first | refine gl_yv (yv_and (gok_none rfl) rfl rfl rfl (fun _ => rfl) c_imp2) rfl rfl ?_ | refine gl_yv (yv_or (gok_none rfl) rfl rfl rfl (fun _ => rfl) c_imp2) rfl rfl ?_)
      | (refine gl_loadG ?_; refine gl_yv (yv_load tab_ok c_gok rfl rfl c_imp c_mem (fun _ => c_lds)) rfl rfl ?_)
      | (refine gl_alc0 ?_; (refine gl_alloc tab_ok rfl rfl rfl rfl rfl ?_; intro g_ hg_))
      | (refine gl_sto0 ?_; refine gl_store tab_ok rfl rfl rfl rfl rfl rfl rfl c_one rfl c_ku ?_)
      | (refine gl_any0 ?_; refine gl_pure tab_ok rfl rfl rfl rfl rfl rfl ?_)
      | (refine gl_anyG ?_; first | refine gl_yv (yv_pure tab_ok c_gok rfl rfl c_allT) rfl rfl ?_ | refine gl_yv (yv_indexS tab_ok c_gok rfl rfl rfl rfl c_imp c_imp (by intro hq_; (try simp only [Bool.and_eq_true, Bool.not_eq_true', Bool.not_eq_false', Bool.or_eq_false_iff, Bool.or_eq_true, decide_eq_true_eq, decide_eq_false_iff_not, Bool.true_and, Bool.and_true] at hq_); omega)) rfl rfl ?_ | refine gl_yv (yv_indexS (i := 0) tab_ok c_gok rfl rfl rfl rfl c_imp c_imp (by intro hq_; (try simp only [Bool.and_eq_true, Bool.not_eq_true', Bool.not_eq_false', Bool.or_eq_false_iff, Bool.or_eq_true, decide_eq_true_eq, decide_eq_false_iff_not, Bool.true_and, Bool.and_true] at hq_); omega)) rfl rfl ?_))
    | (refine gc_gate ?_; first
      | refine gc_seq ?_
      | refine gc_region ?_
      | (refine gc_cond rfl ?_ ?_ <;> intro h_ <;> have hd_ := h_ <;> (try simp only [bytes_beq, cell_beq, val_beq, stamp_beq, decide_eq_true_eq, decide_eq_false_iff_not, Bool.and_eq_true, Bool.or_eq_true, Bool.or_eq_false_iff, Bool.not_eq_true', Bool.not_eq_false', Bool.not_true, Bool.not_false, Bool.false_or, Bool.true_and, Bool.and_true, Bool.or_false, beq_iff_eq, bne_iff_ne, beq_eq_false_iff_ne, bne_eq_false_iff_eq, ne_eq, Bool.false_eq_true, reduceCtorEq] at hd_) <;> (try (exfalso; omega)))
      | refine gc_block ?_
      | refine gc_exit ?_
      | refine gc_ret ?_
      | refine gc_skip ?_)
    | (refine ge_gate ?_; first
      | ((with_reducible refine ge_gT ?_); first | with_reducible refine ge_then ?_ | with_reducible refine ge_then_exit ?_ | with_reducible refine ge_then_ret ?_)
      | ((with_reducible refine ge_gK ?_); first | with_reducible refine ge_block ?_ | refine ge_block_exit ?_ | refine ge_block_pass rfl ?_ | with_reducible refine ge_block_ret ?_)
      | ((with_reducible refine ge_gB ?_); first | refine ge_ret1 tab_ok rfl c_rvt ?_ | refine ge_end1 tab_ok rfl c_rvt ?_ | refine ge_ret2 tab_ok rfl c_rvt c_rvt ?_ | refine ge_ret_none rfl ?_ | refine ge_end_none rfl ?_))
  · have hs1 : seen1 a b (l.getD i default) = true := h_
    have e : seeL a b (l.take (i + 1)) = seeL a b (l.take i) ++ [l.getD i default] := by rw [take_succD _ _ (by omega), seeL_snoc, if_pos hs1]
    refine ge_round (i + 1, p_, c_, sp_) ⟨by omega, ?_⟩ (by show n - (i + 1) < n - i; omega) ?_ ?_
    · show Ow p_ (seeL a b (l.take (i + 1))).length c_ 6 (cat Shown.l (seeL a b (l.take (i + 1)))) sp_
      rw [e, List.length_append, cat_snoc]
      exact hw_
    · dsimp only
      rw [e, List.length_append]
      exact c_frs
    · dsimp only
      rw [e, cat_snoc]
      exact List.Sublist.append (List.Sublist.refl _) (List.Sublist.cons _ (List.Sublist.cons _ (List.Sublist.refl _)))
  · have hs1 : seen1 a b (l.getD i default) = false := h_
    have e : seeL a b (l.take (i + 1)) = seeL a b (l.take i) := by rw [take_succD _ _ (by omega), seeL_snoc, hs1]; rfl
    refine ge_round (i + 1, q, c, sp) ⟨by omega, ?_⟩ (by show n - (i + 1) < n - i; omega) ?_ ?_
    · show Ow q (seeL a b (l.take (i + 1))).length c 6 (cat Shown.l (seeL a b (l.take (i + 1)))) sp
      rw [e]
      exact ho
    · dsimp only
      rw [e]
      exact c_frs
    · dsimp only
      rw [e]
      exact List.Sublist.cons _ (List.Sublist.refl _)
  · intro W hW
    have h1 : i = l.length := by omega
    rw [h1, List.take_length] at ho hW
    rw [h1, List.take_length]
    exact ⟨q, c, sp, rfl, ho, hW.drop (List.sublist_append_left _ _)⟩
/-! ### of -/
def ofL (l : List Shown) : List (Cell × Val) := l.foldl (fun m x => mset m x.cell x.val) []
theorem ofL_snoc (l : List Shown) (x : Shown) : ofL (l ++ [x]) = mset (ofL l) x.cell x.val := by simp [ofL]
theorem ofL_len (l : List Shown) : (ofL l).length ≤ l.length := by
  have key : ∀ (l : List Shown) (m : List (Cell × Val)), (l.foldl (fun m x => mset m x.cell x.val) m).length ≤ m.length + l.length := by
    intro l
    induction l with
    | nil => intro m; simp
    | cons x r ih =>
      intro m
      have h1 := ih (mset m x.cell x.val)
      have h2 : (mset m x.cell x.val).length ≤ m.length + 1 := by unfold mset; split <;> simp
      simp only [List.foldl_cons, List.length_cons]
      omega
  have := key l []
  simp only [List.length_nil, Nat.zero_add] at this
  exact this
def RetMp (w : World) (m : List (Cell × Val)) : Ending → World → Prop := fun e w' => ∃ g es clock, e = .returned (.map (some g)) ∧ Mp kCell vV m es clock ∧ St w [] [(g, true, .map es clock)] w'
theorem ct_of (l : List Shown) (p : Option Addr) (n cap : Nat) (w : World) (hn : n = l.length) (hs : SlA w 6 p n (fun i => (l.getD i default).l)) (hl : n ≤ 1000000000) : Calls Try.prog 171 #[.slice p n cap] w (RetMp w (ofL l)) := by
  refine enter (args := [_]) (M := []) (K := []) Try.func171 rfl Try.ntmps171 rfl (St.refl _ _) ?_
  repeat' first
    | refine gl_ev (ev_makeMap rfl rfl ?_) rfl rfl; intro g2_ hg2_
    | (refine gl_gate ?_; first
      | refine gl_nil ?_
      | (refine gl_any0 ?_; refine gl_pure tab_ok rfl rfl rfl rfl rfl rfl ?_))
    | (refine gc_gate ?_; first
      | refine gc_seq ?_
      | refine gc_region ?_
      | refine gc_block ?_)
    | (refine ge_gate ?_; first
      | ((with_reducible refine ge_gT ?_); first | with_reducible refine ge_then ?_ | with_reducible refine ge_then_exit ?_ | with_reducible refine ge_then_ret ?_))
  refine gc_loop (α := Nat × Array MapEntry × Nat) (fun x => [(3, true, .map (some g2_)), (7, true, .slice p n cap), (8, true, .int .i64 n), (9, true, .int .i64 (x.1 : Int))])
    (fun x => [(g2_, true, .map x.2.1 x.2.2)]) (fun x => x.1 ≤ n ∧ Mp kCell vV (ofL (l.take x.1)) x.2.1 x.2.2) (fun x => n - x.1) (0, #[], 0) c_frs (List.Sublist.refl _) ⟨Nat.zero_le _, Mp.nil⟩ ?_
  rintro ⟨i, es1, clock1⟩ ⟨hi, hm1⟩
  dsimp only at hi hm1 ⊢
  repeat' first
    | refine gl_ev0 (ev_mapUpdate (kf := kCell) (vf := vV) (k := (l.getD i default).cell) (u := (l.getD i default).val) key_cell tab_ok rfl rfl rfl rfl rfl rfl hm1 c_mem (fun es2 clock2 hm2 => ⟨_, c_ku, ?_⟩)) rfl
    | (refine gl_gate ?_; first
      | refine gl_nil ?_
      | (refine gl_load0 ?_; refine gl_yv (yv_load tab_ok (gok_none rfl) rfl rfl (fun _ => rfl) c_mem (fun _ => c_lds)) rfl rfl ?_)
      | (refine gl_add0 ?_; refine gl_yv (yv_add tab_ok (gok_none rfl) rfl rfl rfl rfl (fun _ => allT_of rfl) (by intro _; omega)) rfl rfl ?_)
      | (refine gl_idx0 ?_; refine gl_yv (yv_idxA tab_ok hs (gok_none rfl) rfl rfl rfl rfl rfl rfl (fun _ => rfl) (fun _ => rfl) c_bnd) rfl rfl ?_)
      | (refine gl_load0 ?_; refine gl_yv (yv_ldA0 tab_ok hs c_nm (gok_none rfl) rfl rfl (fun _ => rfl) c_bnd (fun _ => c_lds)) rfl rfl ?_)
      | (refine gl_alc0 ?_; (refine gl_alloc tab_ok rfl rfl rfl rfl rfl ?_; intro g_ hg_))
      | (refine gl_sto0 ?_; refine gl_store tab_ok rfl rfl rfl rfl rfl rfl rfl c_one rfl c_ku ?_)
      | (refine gl_any0 ?_; refine gl_pure tab_ok rfl rfl rfl rfl rfl rfl ?_))
    | (refine gc_gate ?_; first
      | refine gc_seq ?_
      | refine gc_region ?_
      | (refine gc_cond rfl ?_ ?_ <;> intro h_ <;> have hd_ := h_ <;> (try simp only [bytes_beq, cell_beq, val_beq, stamp_beq, decide_eq_true_eq, decide_eq_false_iff_not, Bool.and_eq_true, Bool.or_eq_true, Bool.or_eq_false_iff, Bool.not_eq_true', Bool.not_eq_false', Bool.not_true, Bool.not_false, Bool.false_or, Bool.true_and, Bool.and_true, Bool.or_false, beq_iff_eq, bne_iff_ne, beq_eq_false_iff_ne, bne_eq_false_iff_eq, ne_eq, Bool.false_eq_true, reduceCtorEq] at hd_) <;> (try (exfalso; omega)))
      | refine gc_block ?_
      | refine gc_exit ?_
      | refine gc_ret ?_
      | refine gc_skip ?_)
    | (refine ge_gate ?_; first
      | ((with_reducible refine ge_gT ?_); first | with_reducible refine ge_then ?_ | with_reducible refine ge_then_exit ?_ | with_reducible refine ge_then_ret ?_)
      | ((with_reducible refine ge_gK ?_); first | with_reducible refine ge_block ?_ | refine ge_block_exit ?_ | refine ge_block_pass rfl ?_ | with_reducible refine ge_block_ret ?_)
      | ((with_reducible refine ge_gB ?_); first | refine ge_ret1 tab_ok rfl c_rvt ?_ | refine ge_end1 tab_ok rfl c_rvt ?_ | refine ge_ret2 tab_ok rfl c_rvt c_rvt ?_ | refine ge_ret_none rfl ?_ | refine ge_end_none rfl ?_))
  · refine ge_round (i + 1, es2, clock2) ⟨by omega, ?_⟩ (by show n - (i + 1) < n - i; omega) c_frs (List.Sublist.cons _ (List.Sublist.refl _))
    show Mp kCell vV (ofL (l.take (i + 1))) es2 clock2
    rw [take_succD _ _ (by omega), ofL_snoc]
    exact hm2
  · intro W hW
    have h1 : i = l.length := by omega
    rw [h1, List.take_length] at hm1
    exact ⟨g2_, es1, clock1, rfl, hm1, hW⟩
end Go.Proofs.Ytkgjfcjciigcgaa
