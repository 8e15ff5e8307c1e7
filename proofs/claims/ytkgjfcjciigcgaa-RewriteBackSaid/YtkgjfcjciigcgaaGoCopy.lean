/-
  tree.Copy: a formula in memory of its own.
-/
import Derived.Test.YtkgjfcjciigcgaaGoTree
namespace Go.Proofs.Ytkgjfcjciigcgaa
open Go.Proofs.Ytkgjfcjciigcgaa.Sl Go.RowKit
set_option linter.unusedVariables false
set_option linter.unusedSimpArgs false
set_option maxRecDepth 100000

theorem node_length (n : Node) (p : Option Addr) (c : Nat) : (n.l p c).length = 13 := rfl
theorem node_ones (n : Node) (p : Option Addr) (c : Nat) : ∀ u ∈ n.l p c, u.oneCell' = true := ones_of rfl
/-- The cells of a node's kids. -/
def kidsL (t : Node) (kp : Nat → Option Addr) (kc : Nat → Nat) : List (List Value) := elems t.kids.length (fun i => (t.kids.getD i default).l (kp i) (kc i))
theorem ct_CloneN (w : World) (pa : Option Addr) (n cap : Nat) (f : Nat → List Value) (hs : SlA w 13 pa n f) (h1 : ∀ i, i < n → ∀ u ∈ f i, u.oneCell' = true) (hl : n ≤ 1000000) : Calls Try.prog 210 #[.slice pa n cap] w (RetOw w n 13 (elems n f).flatten 28) := by
  rcases pa with _ | a
  · have h0 : n = 0 := by
      rcases Nat.eq_zero_or_pos n with h | h
      · exact h
      · have := hs.ptr h; cases this
    subst h0
    refine enter (args := [_]) (M := []) (K := []) Try.func210 rfl Try.ntmps210 rfl (St.refl _ _) ?_
    repeat' first
      | (refine gl_gate ?_; first
        | refine gl_nil ?_
        | (refine gl_load0 ?_; refine gl_yv (yv_load tab_ok (gok_none rfl) rfl rfl (fun _ => rfl) c_mem (fun _ => c_lds)) rfl rfl ?_)
        | (refine gl_add0 ?_; refine gl_yv (yv_add tab_ok (gok_none rfl) rfl rfl rfl rfl (fun _ => allT_of rfl) (by intro _; omega)) rfl rfl ?_)
        | (refine gl_sub0 ?_; refine gl_yv (yv_sub tab_ok (gok_none rfl) rfl rfl rfl rfl (fun _ => allT_of rfl) (by intro _; omega)) rfl rfl ?_)
        | (refine gl_idx0 ?_; refine gl_yv (yv_idxC tab_ok (gok_none rfl) rfl rfl rfl rfl rfl (fun _ => rfl) (fun _ => rfl) c_bnd) rfl rfl ?_)
        | (refine gl_bld0 ?_; (refine gl_ev (ev_buildSlice tab_ok rfl rfl rfl rfl rfl rfl rfl rfl rfl rfl ?_) rfl rfl; intro g_ hg_))
        | (refine gl_mul0 ?_; refine gl_yv (yv_mul tab_ok (gok_none rfl) rfl rfl rfl rfl (fun _ => allT_of rfl) c_bnd) rfl rfl ?_)
        | (refine gl_pick0 ?_; first | refine gl_yv (yv_and (gok_none rfl) rfl rfl rfl (fun _ => rfl) c_imp2) rfl rfl ?_ | refine gl_yv (yv_or (gok_none rfl) rfl rfl rfl (fun _ => rfl) c_imp2) rfl rfl ?_)
        | (refine gl_idx0 ?_; refine gl_yv (yv_indexAddr tab_ok (gok_none rfl) rfl rfl rfl rfl rfl (fun _ => rfl) (fun _ => rfl) (by intro _; omega)) rfl rfl ?_)
        | (refine gl_addG ?_; refine gl_yv (yv_add tab_ok c_gok rfl rfl rfl rfl c_allT c_bnd) rfl rfl ?_)
        | (refine gl_subG ?_; refine gl_yv (yv_sub tab_ok c_gok rfl rfl rfl rfl c_allT c_bnd) rfl rfl ?_)
        | (refine gl_loadG ?_; refine gl_yv (yv_load tab_ok c_gok rfl rfl c_imp c_mem (fun _ => c_lds)) rfl rfl ?_)
        | (refine gl_pickG ?_; first | refine gl_yv (yv_and c_gok rfl rfl rfl c_imp c_imp2) rfl rfl ?_ | refine gl_yv (yv_or c_gok rfl rfl rfl c_imp c_imp2) rfl rfl ?_)
        | (refine gl_idxG ?_; refine gl_yv (yv_indexAddr tab_ok c_gok rfl rfl rfl rfl rfl c_imp c_imp c_bnd) rfl rfl ?_)
        | (refine gl_box0 ?_; first | (refine gl_box_agg rfl rfl rfl rfl rfl ?_; intro g_ hg_) | (refine gl_box_one rfl rfl rfl rfl rfl rfl ?_; intro g_ hg_) | (refine gl_box rfl rfl rfl rfl rfl ?_; intro g_ hg_))
        | (refine gl_alc0 ?_; (refine gl_alloc tab_ok rfl rfl rfl rfl rfl ?_; intro g_ hg_))
        | (refine gl_sto0 ?_; refine gl_store tab_ok rfl rfl rfl rfl rfl rfl rfl c_one rfl c_ku ?_)
        | (refine gl_any0 ?_; refine gl_pure tab_ok rfl rfl rfl rfl rfl rfl ?_)
        | (refine gl_any0 ?_; first | refine gl_yv (yv_shr tab_ok (gok_none rfl) rfl rfl rfl (fun _ => rfl) (fun _ => rfl) c_bnd) rfl rfl ?_ | refine gl_yv (yv_rem tab_ok (gok_none rfl) rfl rfl rfl (fun _ => rfl) (fun _ => rfl) c_bnd) rfl rfl ?_ | refine gl_yv (yv_indexS tab_ok (gok_none rfl) rfl rfl rfl rfl (fun _ => rfl) (fun _ => rfl) c_bnd) rfl rfl ?_ | refine gl_yv (yv_sliceH tab_ok (gok_none rfl) rfl rfl rfl rfl rfl (fun _ => rfl) (fun _ => rfl) c_bnd) rfl rfl ?_)
        | (refine gl_arr0 ?_; refine gl_yv (yv_buildA tab_ok (gok_none rfl) rfl rfl rfl rfl (fun _ => allT_of rfl) rfl) rfl rfl ?_)
        | (refine gl_eqS ?_; first | refine gl_yv (yv_eqS tab_ok eqs_ok c_gok rfl rfl rfl rfl c_allT rfl rfl rfl) rfl rfl ?_)
        | (refine gl_neS ?_; first | refine gl_yv (yv_neS tab_ok eqs_ok c_gok rfl rfl rfl rfl c_allT rfl rfl rfl) rfl rfl ?_)
        | (refine gl_anyG ?_; refine gl_yv (yv_pure tab_ok c_gok rfl rfl c_allT) rfl rfl ?_))
      | (refine gc_gate ?_; first
        | refine gc_seq ?_
        | refine gc_region ?_
        | refine gc_quietRo rfl mixed (by decide +kernel) ?_
        | refine gc_true rfl ?_
        | refine gc_false rfl ?_
        | (refine gc_cond rfl ?_ ?_ <;> intro h_ <;> have hd_ := h_ <;> (try simp only [bytes_beq, cell_beq, val_beq, stamp_beq, decide_eq_true_eq, decide_eq_false_iff_not, Bool.and_eq_true, Bool.or_eq_true, Bool.or_eq_false_iff, Bool.not_eq_true', Bool.not_eq_false', Bool.not_true, Bool.not_false, Bool.false_or, Bool.true_and, Bool.and_true, Bool.or_false, beq_iff_eq, bne_iff_ne, beq_eq_false_iff_ne, bne_eq_false_iff_eq, ne_eq, Bool.false_eq_true, reduceCtorEq] at hd_) <;> (try (exfalso; omega)))
        | refine gc_block ?_
        | refine gc_exit ?_
        | refine gc_ret ?_
        | refine gc_skip ?_
        | refine gc_label ?_)
      | (refine ge_gate ?_; first
        | ((with_reducible refine ge_gT ?_); first | with_reducible refine ge_then ?_ | with_reducible refine ge_then_exit ?_ | with_reducible refine ge_then_ret ?_)
        | ((with_reducible refine ge_gK ?_); first | with_reducible refine ge_block ?_ | refine ge_block_exit ?_ | refine ge_block_pass rfl ?_ | with_reducible refine ge_block_ret ?_)
        | ((with_reducible refine ge_gB ?_); first | refine ge_ret1 tab_ok rfl c_rvt ?_ | refine ge_end1 tab_ok rfl c_rvt ?_ | refine ge_ret2 tab_ok rfl c_rvt c_rvt ?_ | refine ge_ret_none rfl ?_ | refine ge_end_none rfl ?_))
      | (refine gq_gate ?_; first
        | refine gq_nil ?_
        | (refine gq_load0 ?_; refine gq_yv (yv_load tab_ok (gok_none rfl) rfl rfl (fun _ => rfl) c_mem (fun _ => c_lds)) rfl rfl ?_)
        | (refine gq_add0 ?_; refine gq_yv (yv_add tab_ok (gok_none rfl) rfl rfl rfl rfl (fun _ => allT_of rfl) (by intro _; omega)) rfl rfl ?_)
        | (refine gq_sub0 ?_; refine gq_yv (yv_sub tab_ok (gok_none rfl) rfl rfl rfl rfl (fun _ => allT_of rfl) (by intro _; omega)) rfl rfl ?_)
        | (refine gq_idx0 ?_; refine gq_yv (yv_idxC tab_ok (gok_none rfl) rfl rfl rfl rfl rfl (fun _ => rfl) (fun _ => rfl) c_bnd) rfl rfl ?_)
        | (refine gq_pick0 ?_; first | refine gq_yv (yv_and (gok_none rfl) rfl rfl rfl (fun _ => rfl) c_imp2) rfl rfl ?_ | refine gq_yv (yv_or (gok_none rfl) rfl rfl rfl (fun _ => rfl) c_imp2) rfl rfl ?_)
        | (refine gq_idx0 ?_; refine gq_yv (yv_indexAddr tab_ok (gok_none rfl) rfl rfl rfl rfl rfl (fun _ => rfl) (fun _ => rfl) (by intro _; omega)) rfl rfl ?_)
        | (refine gq_addG ?_; refine gq_yv (yv_add tab_ok c_gok rfl rfl rfl rfl c_allT c_bnd) rfl rfl ?_)
        | (refine gq_subG ?_; refine gq_yv (yv_sub tab_ok c_gok rfl rfl rfl rfl c_allT c_bnd) rfl rfl ?_)
        | (refine gq_loadG ?_; refine gq_yv (yv_load tab_ok c_gok rfl rfl c_imp c_mem (fun _ => c_lds)) rfl rfl ?_)
        | (refine gq_pickG ?_; first | refine gq_yv (yv_and c_gok rfl rfl rfl c_imp c_imp2) rfl rfl ?_ | refine gq_yv (yv_or c_gok rfl rfl rfl c_imp c_imp2) rfl rfl ?_)
        | (refine gq_idxG ?_; refine gq_yv (yv_indexAddr tab_ok c_gok rfl rfl rfl rfl rfl c_imp c_imp c_bnd) rfl rfl ?_)
        | (refine gq_any0 ?_; refine gq_pure tab_ok rfl rfl rfl rfl rfl rfl ?_)
        | (refine gq_any0 ?_; first | refine gq_yv (yv_shr tab_ok (gok_none rfl) rfl rfl rfl (fun _ => rfl) (fun _ => rfl) c_bnd) rfl rfl ?_ | refine gq_yv (yv_rem tab_ok (gok_none rfl) rfl rfl rfl (fun _ => rfl) (fun _ => rfl) c_bnd) rfl rfl ?_ | refine gq_yv (yv_indexS tab_ok (gok_none rfl) rfl rfl rfl rfl (fun _ => rfl) (fun _ => rfl) c_bnd) rfl rfl ?_ | refine gq_yv (yv_sliceH tab_ok (gok_none rfl) rfl rfl rfl rfl rfl (fun _ => rfl) (fun _ => rfl) c_bnd) rfl rfl ?_)
        | (refine gq_arr0 ?_; refine gq_yv (yv_buildA tab_ok (gok_none rfl) rfl rfl rfl rfl (fun _ => allT_of rfl) rfl) rfl rfl ?_)
        | (refine gq_eqS ?_; first | refine gq_yv (yv_eqS tab_ok eqs_ok c_gok rfl rfl rfl rfl c_allT rfl rfl rfl) rfl rfl ?_)
        | (refine gq_neS ?_; first | refine gq_yv (yv_neS tab_ok eqs_ok c_gok rfl rfl rfl rfl c_allT rfl rfl rfl) rfl rfl ?_)
        | (refine gq_anyG ?_; refine gq_yv (yv_pure tab_ok c_gok rfl rfl c_allT) rfl rfl ?_))
    intro W hW
    exact ⟨none, 0, [], rfl, by simpa [elems] using Ow.none0, hW⟩
  · refine enter (args := [_]) (M := []) (K := []) Try.func210 rfl Try.ntmps210 rfl (St.refl _ _) ?_
    repeat' first
      | (refine gl_gate ?_; first
        | refine gl_nil ?_
        | (refine gl_load0 ?_; refine gl_yv (yv_load tab_ok (gok_none rfl) rfl rfl (fun _ => rfl) c_mem (fun _ => c_lds)) rfl rfl ?_)
        | (refine gl_add0 ?_; refine gl_yv (yv_add tab_ok (gok_none rfl) rfl rfl rfl rfl (fun _ => allT_of rfl) (by intro _; omega)) rfl rfl ?_)
        | (refine gl_sub0 ?_; refine gl_yv (yv_sub tab_ok (gok_none rfl) rfl rfl rfl rfl (fun _ => allT_of rfl) (by intro _; omega)) rfl rfl ?_)
        | (refine gl_idx0 ?_; refine gl_yv (yv_idxC tab_ok (gok_none rfl) rfl rfl rfl rfl rfl (fun _ => rfl) (fun _ => rfl) c_bnd) rfl rfl ?_)
        | (refine gl_any0 ?_; (refine gl_ev (ev_buildSlice0 tab_ok rfl rfl rfl rfl ?_) rfl rfl; intro g_ hg_))
        | (refine gl_app0 ?_; (refine gl_ev (ev_append tab_ok rfl rfl rfl rfl rfl rfl rfl rfl c_oa ((Ow.some0 (g := g_) (k := 13))) (c_src) c_lim c_lim ?_) rfl rfl; intro p_ c_ sp_ hw_))
        | (refine gl_app0 ?_; (refine gl_ev (ev_append tab_ok rfl rfl rfl rfl rfl rfl rfl rfl c_oa (hw_) (c_src) c_lim c_lim ?_) rfl rfl; intro p_ c_ sp_ hw_))
        | (refine gl_app0 ?_; (refine gl_ev (ev_append tab_ok rfl rfl rfl rfl rfl rfl rfl rfl c_oa ((Ow.some0 (g := g_) (k := 13))) (src_slA tab_ok rfl hs (fun _ => List.not_mem_nil) h1) c_lim c_lim ?_) rfl rfl; intro p_ c_ sp_ hw_))
        | (refine gl_app0 ?_; (refine gl_ev (ev_append tab_ok rfl rfl rfl rfl rfl rfl rfl rfl c_oa (hw_) (src_slA tab_ok rfl hs (fun _ => List.not_mem_nil) h1) c_lim c_lim ?_) rfl rfl; intro p_ c_ sp_ hw_))
        | (refine gl_bld0 ?_; (refine gl_ev (ev_buildSlice tab_ok rfl rfl rfl rfl rfl rfl rfl rfl rfl rfl ?_) rfl rfl; intro g_ hg_))
        | (refine gl_mul0 ?_; refine gl_yv (yv_mul tab_ok (gok_none rfl) rfl rfl rfl rfl (fun _ => allT_of rfl) c_bnd) rfl rfl ?_)
        | (refine gl_pick0 ?_; first | refine gl_yv (yv_and (gok_none rfl) rfl rfl rfl (fun _ => rfl) c_imp2) rfl rfl ?_ | refine gl_yv (yv_or (gok_none rfl) rfl rfl rfl (fun _ => rfl) c_imp2) rfl rfl ?_)
        | (refine gl_idx0 ?_; refine gl_yv (yv_indexAddr tab_ok (gok_none rfl) rfl rfl rfl rfl rfl (fun _ => rfl) (fun _ => rfl) (by intro _; omega)) rfl rfl ?_)
        | (refine gl_addG ?_; refine gl_yv (yv_add tab_ok c_gok rfl rfl rfl rfl c_allT c_bnd) rfl rfl ?_)
        | (refine gl_subG ?_; refine gl_yv (yv_sub tab_ok c_gok rfl rfl rfl rfl c_allT c_bnd) rfl rfl ?_)
        | (refine gl_loadG ?_; refine gl_yv (yv_load tab_ok c_gok rfl rfl c_imp c_mem (fun _ => c_lds)) rfl rfl ?_)
        | (refine gl_pickG ?_; first | refine gl_yv (yv_and c_gok rfl rfl rfl c_imp c_imp2) rfl rfl ?_ | refine gl_yv (yv_or c_gok rfl rfl rfl c_imp c_imp2) rfl rfl ?_)
        | (refine gl_idxG ?_; refine gl_yv (yv_indexAddr tab_ok c_gok rfl rfl rfl rfl rfl c_imp c_imp c_bnd) rfl rfl ?_)
        | (refine gl_box0 ?_; first | (refine gl_box_agg rfl rfl rfl rfl rfl ?_; intro g_ hg_) | (refine gl_box_one rfl rfl rfl rfl rfl rfl ?_; intro g_ hg_) | (refine gl_box rfl rfl rfl rfl rfl ?_; intro g_ hg_))
        | (refine gl_alc0 ?_; (refine gl_alloc tab_ok rfl rfl rfl rfl rfl ?_; intro g_ hg_))
        | (refine gl_sto0 ?_; refine gl_store tab_ok rfl rfl rfl rfl rfl rfl rfl c_one rfl c_ku ?_)
        | (refine gl_any0 ?_; refine gl_pure tab_ok rfl rfl rfl rfl rfl rfl ?_)
        | (refine gl_any0 ?_; first | refine gl_yv (yv_shr tab_ok (gok_none rfl) rfl rfl rfl (fun _ => rfl) (fun _ => rfl) c_bnd) rfl rfl ?_ | refine gl_yv (yv_rem tab_ok (gok_none rfl) rfl rfl rfl (fun _ => rfl) (fun _ => rfl) c_bnd) rfl rfl ?_ | refine gl_yv (yv_indexS tab_ok (gok_none rfl) rfl rfl rfl rfl (fun _ => rfl) (fun _ => rfl) c_bnd) rfl rfl ?_ | refine gl_yv (yv_sliceH tab_ok (gok_none rfl) rfl rfl rfl rfl rfl (fun _ => rfl) (fun _ => rfl) c_bnd) rfl rfl ?_)
        | (refine gl_arr0 ?_; refine gl_yv (yv_buildA tab_ok (gok_none rfl) rfl rfl rfl rfl (fun _ => allT_of rfl) rfl) rfl rfl ?_)
        | (refine gl_eqS ?_; first | refine gl_yv (yv_eqS tab_ok eqs_ok c_gok rfl rfl rfl rfl c_allT rfl rfl rfl) rfl rfl ?_)
        | (refine gl_neS ?_; first | refine gl_yv (yv_neS tab_ok eqs_ok c_gok rfl rfl rfl rfl c_allT rfl rfl rfl) rfl rfl ?_)
        | (refine gl_anyG ?_; refine gl_yv (yv_pure tab_ok c_gok rfl rfl c_allT) rfl rfl ?_))
      | (refine gc_gate ?_; first
        | refine gc_seq ?_
        | refine gc_region ?_
        | refine gc_quietRo rfl mixed (by decide +kernel) ?_
        | refine gc_true rfl ?_
        | refine gc_false rfl ?_
        | (refine gc_cond rfl ?_ ?_ <;> intro h_ <;> have hd_ := h_ <;> (try simp only [bytes_beq, cell_beq, val_beq, stamp_beq, decide_eq_true_eq, decide_eq_false_iff_not, Bool.and_eq_true, Bool.or_eq_true, Bool.or_eq_false_iff, Bool.not_eq_true', Bool.not_eq_false', Bool.not_true, Bool.not_false, Bool.false_or, Bool.true_and, Bool.and_true, Bool.or_false, beq_iff_eq, bne_iff_ne, beq_eq_false_iff_ne, bne_eq_false_iff_eq, ne_eq, Bool.false_eq_true, reduceCtorEq] at hd_) <;> (try (exfalso; omega)))
        | refine gc_block ?_
        | refine gc_exit ?_
        | refine gc_ret ?_
        | refine gc_skip ?_
        | refine gc_label ?_)
      | (refine ge_gate ?_; first
        | ((with_reducible refine ge_gT ?_); first | with_reducible refine ge_then ?_ | with_reducible refine ge_then_exit ?_ | with_reducible refine ge_then_ret ?_)
        | ((with_reducible refine ge_gK ?_); first | with_reducible refine ge_block ?_ | refine ge_block_exit ?_ | refine ge_block_pass rfl ?_ | with_reducible refine ge_block_ret ?_)
        | ((with_reducible refine ge_gB ?_); first | refine ge_ret1 tab_ok rfl c_rvt ?_ | refine ge_end1 tab_ok rfl c_rvt ?_ | refine ge_ret2 tab_ok rfl c_rvt c_rvt ?_ | refine ge_ret_none rfl ?_ | refine ge_end_none rfl ?_))
      | (refine gq_gate ?_; first
        | refine gq_nil ?_
        | (refine gq_load0 ?_; refine gq_yv (yv_load tab_ok (gok_none rfl) rfl rfl (fun _ => rfl) c_mem (fun _ => c_lds)) rfl rfl ?_)
        | (refine gq_add0 ?_; refine gq_yv (yv_add tab_ok (gok_none rfl) rfl rfl rfl rfl (fun _ => allT_of rfl) (by intro _; omega)) rfl rfl ?_)
        | (refine gq_sub0 ?_; refine gq_yv (yv_sub tab_ok (gok_none rfl) rfl rfl rfl rfl (fun _ => allT_of rfl) (by intro _; omega)) rfl rfl ?_)
        | (refine gq_idx0 ?_; refine gq_yv (yv_idxC tab_ok (gok_none rfl) rfl rfl rfl rfl rfl (fun _ => rfl) (fun _ => rfl) c_bnd) rfl rfl ?_)
        | (refine gq_pick0 ?_; first | refine gq_yv (yv_and (gok_none rfl) rfl rfl rfl (fun _ => rfl) c_imp2) rfl rfl ?_ | refine gq_yv (yv_or (gok_none rfl) rfl rfl rfl (fun _ => rfl) c_imp2) rfl rfl ?_)
        | (refine gq_idx0 ?_; refine gq_yv (yv_indexAddr tab_ok (gok_none rfl) rfl rfl rfl rfl rfl (fun _ => rfl) (fun _ => rfl) (by intro _; omega)) rfl rfl ?_)
        | (refine gq_addG ?_; refine gq_yv (yv_add tab_ok c_gok rfl rfl rfl rfl c_allT c_bnd) rfl rfl ?_)
        | (refine gq_subG ?_; refine gq_yv (yv_sub tab_ok c_gok rfl rfl rfl rfl c_allT c_bnd) rfl rfl ?_)
        | (refine gq_loadG ?_; refine gq_yv (yv_load tab_ok c_gok rfl rfl c_imp c_mem (fun _ => c_lds)) rfl rfl ?_)
        | (refine gq_pickG ?_; first | refine gq_yv (yv_and c_gok rfl rfl rfl c_imp c_imp2) rfl rfl ?_ | refine gq_yv (yv_or c_gok rfl rfl rfl c_imp c_imp2) rfl rfl ?_)
        | (refine gq_idxG ?_; refine gq_yv (yv_indexAddr tab_ok c_gok rfl rfl rfl rfl rfl c_imp c_imp c_bnd) rfl rfl ?_)
        | (refine gq_any0 ?_; refine gq_pure tab_ok rfl rfl rfl rfl rfl rfl ?_)
        | (refine gq_any0 ?_; first | refine gq_yv (yv_shr tab_ok (gok_none rfl) rfl rfl rfl (fun _ => rfl) (fun _ => rfl) c_bnd) rfl rfl ?_ | refine gq_yv (yv_rem tab_ok (gok_none rfl) rfl rfl rfl (fun _ => rfl) (fun _ => rfl) c_bnd) rfl rfl ?_ | refine gq_yv (yv_indexS tab_ok (gok_none rfl) rfl rfl rfl rfl (fun _ => rfl) (fun _ => rfl) c_bnd) rfl rfl ?_ | refine gq_yv (yv_sliceH tab_ok (gok_none rfl) rfl rfl rfl rfl rfl (fun _ => rfl) (fun _ => rfl) c_bnd) rfl rfl ?_)
        | (refine gq_arr0 ?_; refine gq_yv (yv_buildA tab_ok (gok_none rfl) rfl rfl rfl rfl (fun _ => allT_of rfl) rfl) rfl rfl ?_)
        | (refine gq_eqS ?_; first | refine gq_yv (yv_eqS tab_ok eqs_ok c_gok rfl rfl rfl rfl c_allT rfl rfl rfl) rfl rfl ?_)
        | (refine gq_neS ?_; first | refine gq_yv (yv_neS tab_ok eqs_ok c_gok rfl rfl rfl rfl c_allT rfl rfl rfl) rfl rfl ?_)
        | (refine gq_anyG ?_; refine gq_yv (yv_pure tab_ok c_gok rfl rfl c_allT) rfl rfl ?_))
    intro W hW
    rw [Nat.zero_add] at hw_
    exact ⟨p_, c_, sp_, by simp, hw_, hW.drop (List.sublist_append_left _ _)⟩
structure NRet where
  q : Option Nat
  c : Nat
  sp : List Value
  kp : Nat → Option Addr
  kc : Nat → Nat
/-- It answers that formula, the kids in a block of its own, what they have in other ones of its own. -/
def RetNode (w : World) (t : Node) (e : Ending) (w' : World) : Prop :=
  ∃ x : NRet, e = .returned (.agg (t.l (x.q.map ad) x.c).toArray) ∧ (Ow x.q t.kids.length x.c 13 (kidsL t x.kp x.kc).flatten x.sp ∧ ∀ i, i < t.kids.length → NodeR (fun b => w.heap.size ≤ b ∧ x.q ≠ some b) w' (t.kids.getD i default) (x.kp i)) ∧ St w [] (ow x.q true ((kidsL t x.kp x.kc).flatten ++ x.sp) 28) w'
/-- It answers that formula, in new blocks. -/
def RetNodeR (w : World) (t : Node) (e : Ending) (w' : World) : Prop :=
  ∃ x : Option Addr × Nat, e = .returned (.agg (t.l x.1 x.2).toArray) ∧ NodeR (fun b => w.heap.size ≤ b) w' t x.1 ∧ Below w.heap.size w w'
theorem kidsL_ek (t : Node) (kp : Nat → Option Addr) (kc : Nat → Nat) : Ek 13 (kidsL t kp kc) := elems_ek' fun _ _ => rfl
theorem kidsL_length (t : Node) (kp : Nat → Option Addr) (kc : Nat → Nat) : (kidsL t kp kc).flatten.length = t.kids.length * 13 := by
  rw [flat_length (kidsL_ek t kp kc)]; simp [kidsL, elems_length]
theorem nodeR_own {S : Nat → Prop} {w W : World} {M : List Nat} {K Kx : Kl} {t : Node} {q : Option Nat} {c : Nat} {sp : List Value} {kp : Nat → Option Addr} {kc : Nat → Nat} (hW : St w M K W) (hk : Oa K q ((kidsL t kp kc).flatten ++ sp) 28 Kx) (hw : Ow q t.kids.length c 13 (kidsL t kp kc).flatten sp) (hS : ∀ g, q = some g → S g)
    (hN : ∀ i, i < t.kids.length → NodeR S W (t.kids.getD i default) (kp i)) : NodeR S W t (q.map ad) := by
  refine .mk (kp := kp) (kc := kc) ?_ (fun h => ?_) hN
  · have := slA_flat (kidsL_ek t kp kc) (by simp [kidsL, elems_length]) hW hk hw
    exact this.congr fun i hi => by simp only [kidsL]; rw [elems_get hi]
  · cases q with
    | none => have := hw.nil rfl; have := hw.le; omega
    | some g => simpa [pb, ad] using hS g rfl
theorem RetNode.weak {w w' : World} {t : Node} {e : Ending} (h : RetNode w t e w') : RetNodeR w t e w' := by
  obtain ⟨x, h1, ⟨h2, h3⟩, h4⟩ := h
  refine ⟨(x.q.map ad, x.c), h1, nodeR_own h4 Oa.self h2 (fun g hg => ?_) (fun i hi => (h3 i hi).mono (fun b hb _ => hb.1) (fun _ _ _ => rfl)), h4.below0⟩
  have := h4.wr (g, true, .cells ((kidsL t x.kp x.kc).flatten ++ x.sp).toArray 28 (0, 0)) (by rw [hg]; simp [ow]) rfl
  simpa using this

theorem ct_Copy {S : Nat → Prop} : ∀ (t : Node) (p : Option Addr) (c : Nat) (w : World), NodeR S w t p → t.count ≤ 1000000 → Calls Try.prog 186 #[.agg (t.l p c).toArray] w (RetNode w t) := by
  intro t
  induction t using Node.ind with
  | h t ih =>
  intro p c w hR hc
  cases hR with
  | @mk _ _ kp kc hs hS hk =>
  have hkl := t.kids_len
  refine enter (args := [_]) (M := []) (K := []) Try.func186 rfl Try.ntmps186 rfl (St.refl _ _) ?_
  repeat' first
    | (refine gl_gate ?_; first
      | refine gl_nil ?_
      | (refine gl_load0 ?_; refine gl_yv (yv_load tab_ok (gok_none rfl) rfl rfl (fun _ => rfl) c_mem (fun _ => c_lds)) rfl rfl ?_)
      | (refine gl_add0 ?_; refine gl_yv (yv_add tab_ok (gok_none rfl) rfl rfl rfl rfl (fun _ => allT_of rfl) (by intro _; omega)) rfl rfl ?_)
      | (refine gl_sub0 ?_; refine gl_yv (yv_sub tab_ok (gok_none rfl) rfl rfl rfl rfl (fun _ => allT_of rfl) (by intro _; omega)) rfl rfl ?_)
      | (refine gl_idx0 ?_; refine gl_yv (yv_idxC tab_ok (gok_none rfl) rfl rfl rfl rfl rfl (fun _ => rfl) (fun _ => rfl) c_bnd) rfl rfl ?_)
      | (refine gl_any0 ?_; (refine gl_ev (ev_callOw rfl rfl ent210 rfl rfl rfl (fun W hW => ct_CloneN W p t.kids.length c _ (hs.st hW) (fun i _ => node_ones _ _ _) (by omega)) ?_) rfl rfl; intro p_ c_ sp_ hw_))
      | (refine gl_bld0 ?_; (refine gl_ev (ev_buildSlice tab_ok rfl rfl rfl rfl rfl rfl rfl rfl rfl rfl ?_) rfl rfl; intro g_ hg_))
      | (refine gl_mul0 ?_; refine gl_yv (yv_mul tab_ok (gok_none rfl) rfl rfl rfl rfl (fun _ => allT_of rfl) c_bnd) rfl rfl ?_)
      | (refine gl_pick0 ?_; first | refine gl_yv (yv_and (gok_none rfl) rfl rfl rfl (fun _ => rfl) c_imp2) rfl rfl ?_ | refine gl_yv (yv_or (gok_none rfl) rfl rfl rfl (fun _ => rfl) c_imp2) rfl rfl ?_)
      | (refine gl_idx0 ?_; refine gl_yv (yv_indexAddr tab_ok (gok_none rfl) rfl rfl rfl rfl rfl (fun _ => rfl) (fun _ => rfl) (by intro _; omega)) rfl rfl ?_)
      | (refine gl_addG ?_; refine gl_yv (yv_add tab_ok c_gok rfl rfl rfl rfl c_allT c_bnd) rfl rfl ?_)
      | (refine gl_subG ?_; refine gl_yv (yv_sub tab_ok c_gok rfl rfl rfl rfl c_allT c_bnd) rfl rfl ?_)
      | (refine gl_loadG ?_; refine gl_yv (yv_load tab_ok c_gok rfl rfl c_imp c_mem (fun _ => c_lds)) rfl rfl ?_)
      | (refine gl_pickG ?_; first | refine gl_yv (yv_and c_gok rfl rfl rfl c_imp c_imp2) rfl rfl ?_ | refine gl_yv (yv_or c_gok rfl rfl rfl c_imp c_imp2) rfl rfl ?_)
      | (refine gl_idxG ?_; refine gl_yv (yv_indexAddr tab_ok c_gok rfl rfl rfl rfl rfl c_imp c_imp c_bnd) rfl rfl ?_)
      | (refine gl_box0 ?_; first | (refine gl_box_agg rfl rfl rfl rfl rfl ?_; intro g_ hg_) | (refine gl_box_one rfl rfl rfl rfl rfl rfl ?_; intro g_ hg_) | (refine gl_box rfl rfl rfl rfl rfl ?_; intro g_ hg_))
      | (refine gl_alc0 ?_; (refine gl_alloc tab_ok rfl rfl rfl rfl rfl ?_; intro g_ hg_))
      | (refine gl_sto0 ?_; refine gl_store tab_ok rfl rfl rfl rfl rfl rfl rfl c_one rfl c_ku ?_)
      | (refine gl_any0 ?_; refine gl_pure tab_ok rfl rfl rfl rfl rfl rfl ?_)
      | (refine gl_any0 ?_; first | refine gl_yv (yv_shr tab_ok (gok_none rfl) rfl rfl rfl (fun _ => rfl) (fun _ => rfl) c_bnd) rfl rfl ?_ | refine gl_yv (yv_rem tab_ok (gok_none rfl) rfl rfl rfl (fun _ => rfl) (fun _ => rfl) c_bnd) rfl rfl ?_ | refine gl_yv (yv_indexS tab_ok (gok_none rfl) rfl rfl rfl rfl (fun _ => rfl) (fun _ => rfl) c_bnd) rfl rfl ?_ | refine gl_yv (yv_sliceH tab_ok (gok_none rfl) rfl rfl rfl rfl rfl (fun _ => rfl) (fun _ => rfl) c_bnd) rfl rfl ?_)
      | (refine gl_arr0 ?_; refine gl_yv (yv_buildA tab_ok (gok_none rfl) rfl rfl rfl rfl (fun _ => allT_of rfl) rfl) rfl rfl ?_)
      | (refine gl_eqS ?_; first | refine gl_yv (yv_eqS tab_ok eqs_ok c_gok rfl rfl rfl rfl c_allT rfl rfl rfl) rfl rfl ?_)
      | (refine gl_neS ?_; first | refine gl_yv (yv_neS tab_ok eqs_ok c_gok rfl rfl rfl rfl c_allT rfl rfl rfl) rfl rfl ?_)
      | (refine gl_anyG ?_; refine gl_yv (yv_pure tab_ok c_gok rfl rfl c_allT) rfl rfl ?_))
    | (refine gc_gate ?_; first
      | refine gc_seq ?_
      | refine gc_region ?_
      | refine gc_true rfl ?_
      | refine gc_false rfl ?_
      | refine gc_block ?_
      | (refine gc_cond rfl ?_ ?_ <;> intro h_ <;> have hd_ := h_ <;> (try simp only [bytes_beq, cell_beq, val_beq, stamp_beq, decide_eq_true_eq, decide_eq_false_iff_not, Bool.and_eq_true, Bool.or_eq_true, Bool.or_eq_false_iff, Bool.not_eq_true', Bool.not_eq_false', Bool.not_true, Bool.not_false, Bool.false_or, Bool.true_and, Bool.and_true, Bool.or_false, beq_iff_eq, bne_iff_ne, beq_eq_false_iff_ne, bne_eq_false_iff_eq, ne_eq, Bool.false_eq_true, reduceCtorEq] at hd_) <;> (try (exfalso; omega)))
      | refine gc_exit ?_
      | refine gc_ret ?_
      | refine gc_skip ?_
      | refine gc_label ?_)
    | (refine ge_gate ?_; first
      | ((with_reducible refine ge_gT ?_); first | with_reducible refine ge_then ?_ | with_reducible refine ge_then_exit ?_ | with_reducible refine ge_then_ret ?_)
      | ((with_reducible refine ge_gK ?_); first | with_reducible refine ge_block ?_ | refine ge_block_exit ?_ | refine ge_block_pass rfl ?_ | with_reducible refine ge_block_ret ?_)
      | ((with_reducible refine ge_gB ?_); first | refine ge_ret1 tab_ok rfl c_rvt ?_ | refine ge_end1 tab_ok rfl c_rvt ?_ | refine ge_ret2 tab_ok rfl c_rvt c_rvt ?_ | refine ge_ret_none rfl ?_ | refine ge_end_none rfl ?_))
    | (refine gq_gate ?_; first
      | refine gq_nil ?_
      | (refine gq_load0 ?_; refine gq_yv (yv_load tab_ok (gok_none rfl) rfl rfl (fun _ => rfl) c_mem (fun _ => c_lds)) rfl rfl ?_)
      | (refine gq_add0 ?_; refine gq_yv (yv_add tab_ok (gok_none rfl) rfl rfl rfl rfl (fun _ => allT_of rfl) (by intro _; omega)) rfl rfl ?_)
      | (refine gq_sub0 ?_; refine gq_yv (yv_sub tab_ok (gok_none rfl) rfl rfl rfl rfl (fun _ => allT_of rfl) (by intro _; omega)) rfl rfl ?_)
      | (refine gq_idx0 ?_; refine gq_yv (yv_idxC tab_ok (gok_none rfl) rfl rfl rfl rfl rfl (fun _ => rfl) (fun _ => rfl) c_bnd) rfl rfl ?_)
      | (refine gq_pick0 ?_; first | refine gq_yv (yv_and (gok_none rfl) rfl rfl rfl (fun _ => rfl) c_imp2) rfl rfl ?_ | refine gq_yv (yv_or (gok_none rfl) rfl rfl rfl (fun _ => rfl) c_imp2) rfl rfl ?_)
      | (refine gq_idx0 ?_; refine gq_yv (yv_indexAddr tab_ok (gok_none rfl) rfl rfl rfl rfl rfl (fun _ => rfl) (fun _ => rfl) (by intro _; omega)) rfl rfl ?_)
      | (refine gq_addG ?_; refine gq_yv (yv_add tab_ok c_gok rfl rfl rfl rfl c_allT c_bnd) rfl rfl ?_)
      | (refine gq_subG ?_; refine gq_yv (yv_sub tab_ok c_gok rfl rfl rfl rfl c_allT c_bnd) rfl rfl ?_)
      | (refine gq_loadG ?_; refine gq_yv (yv_load tab_ok c_gok rfl rfl c_imp c_mem (fun _ => c_lds)) rfl rfl ?_)
      | (refine gq_pickG ?_; first | refine gq_yv (yv_and c_gok rfl rfl rfl c_imp c_imp2) rfl rfl ?_ | refine gq_yv (yv_or c_gok rfl rfl rfl c_imp c_imp2) rfl rfl ?_)
      | (refine gq_idxG ?_; refine gq_yv (yv_indexAddr tab_ok c_gok rfl rfl rfl rfl rfl c_imp c_imp c_bnd) rfl rfl ?_)
      | (refine gq_any0 ?_; refine gq_pure tab_ok rfl rfl rfl rfl rfl rfl ?_)
      | (refine gq_any0 ?_; first | refine gq_yv (yv_shr tab_ok (gok_none rfl) rfl rfl rfl (fun _ => rfl) (fun _ => rfl) c_bnd) rfl rfl ?_ | refine gq_yv (yv_rem tab_ok (gok_none rfl) rfl rfl rfl (fun _ => rfl) (fun _ => rfl) c_bnd) rfl rfl ?_ | refine gq_yv (yv_indexS tab_ok (gok_none rfl) rfl rfl rfl rfl (fun _ => rfl) (fun _ => rfl) c_bnd) rfl rfl ?_ | refine gq_yv (yv_sliceH tab_ok (gok_none rfl) rfl rfl rfl rfl rfl (fun _ => rfl) (fun _ => rfl) c_bnd) rfl rfl ?_)
      | (refine gq_arr0 ?_; refine gq_yv (yv_buildA tab_ok (gok_none rfl) rfl rfl rfl rfl (fun _ => allT_of rfl) rfl) rfl rfl ?_)
      | (refine gq_eqS ?_; first | refine gq_yv (yv_eqS tab_ok eqs_ok c_gok rfl rfl rfl rfl c_allT rfl rfl rfl) rfl rfl ?_)
      | (refine gq_neS ?_; first | refine gq_yv (yv_neS tab_ok eqs_ok c_gok rfl rfl rfl rfl c_allT rfl rfl rfl) rfl rfl ?_)
      | (refine gq_anyG ?_; refine gq_yv (yv_pure tab_ok c_gok rfl rfl c_allT) rfl rfl ?_))
  rename_i g1 hg1
  rcases p_ with _ | q
  · have h0 : t.kids.length = 0 := by have := hw_.nil rfl; have := hw_.le; omega
    refine gc_rounds 0 ?_
    repeat' first
      | (refine gl_gate ?_; first
        | refine gl_nil ?_
        | (refine gl_load0 ?_; refine gl_yv (yv_load tab_ok (gok_none rfl) rfl rfl (fun _ => rfl) c_mem (fun _ => c_lds)) rfl rfl ?_)
        | (refine gl_add0 ?_; refine gl_yv (yv_add tab_ok (gok_none rfl) rfl rfl rfl rfl (fun _ => allT_of rfl) (by intro _; omega)) rfl rfl ?_)
        | (refine gl_sub0 ?_; refine gl_yv (yv_sub tab_ok (gok_none rfl) rfl rfl rfl rfl (fun _ => allT_of rfl) (by intro _; omega)) rfl rfl ?_)
        | (refine gl_idx0 ?_; refine gl_yv (yv_idxC tab_ok (gok_none rfl) rfl rfl rfl rfl rfl (fun _ => rfl) (fun _ => rfl) c_bnd) rfl rfl ?_)
        | (refine gl_bld0 ?_; (refine gl_ev (ev_buildSlice tab_ok rfl rfl rfl rfl rfl rfl rfl rfl rfl rfl ?_) rfl rfl; intro g_ hg_))
        | (refine gl_mul0 ?_; refine gl_yv (yv_mul tab_ok (gok_none rfl) rfl rfl rfl rfl (fun _ => allT_of rfl) c_bnd) rfl rfl ?_)
        | (refine gl_pick0 ?_; first | refine gl_yv (yv_and (gok_none rfl) rfl rfl rfl (fun _ => rfl) c_imp2) rfl rfl ?_ | refine gl_yv (yv_or (gok_none rfl) rfl rfl rfl (fun _ => rfl) c_imp2) rfl rfl ?_)
        | (refine gl_idx0 ?_; refine gl_yv (yv_indexAddr tab_ok (gok_none rfl) rfl rfl rfl rfl rfl (fun _ => rfl) (fun _ => rfl) (by intro _; omega)) rfl rfl ?_)
        | (refine gl_addG ?_; refine gl_yv (yv_add tab_ok c_gok rfl rfl rfl rfl c_allT c_bnd) rfl rfl ?_)
        | (refine gl_subG ?_; refine gl_yv (yv_sub tab_ok c_gok rfl rfl rfl rfl c_allT c_bnd) rfl rfl ?_)
        | (refine gl_loadG ?_; refine gl_yv (yv_load tab_ok c_gok rfl rfl c_imp c_mem (fun _ => c_lds)) rfl rfl ?_)
        | (refine gl_pickG ?_; first | refine gl_yv (yv_and c_gok rfl rfl rfl c_imp c_imp2) rfl rfl ?_ | refine gl_yv (yv_or c_gok rfl rfl rfl c_imp c_imp2) rfl rfl ?_)
        | (refine gl_idxG ?_; refine gl_yv (yv_indexAddr tab_ok c_gok rfl rfl rfl rfl rfl c_imp c_imp c_bnd) rfl rfl ?_)
        | (refine gl_box0 ?_; first | (refine gl_box_agg rfl rfl rfl rfl rfl ?_; intro g_ hg_) | (refine gl_box_one rfl rfl rfl rfl rfl rfl ?_; intro g_ hg_) | (refine gl_box rfl rfl rfl rfl rfl ?_; intro g_ hg_))
        | (refine gl_alc0 ?_; (refine gl_alloc tab_ok rfl rfl rfl rfl rfl ?_; intro g_ hg_))
        | (refine gl_sto0 ?_; refine gl_store tab_ok rfl rfl rfl rfl rfl rfl rfl c_one rfl c_ku ?_)
        | (refine gl_any0 ?_; refine gl_pure tab_ok rfl rfl rfl rfl rfl rfl ?_)
        | (refine gl_any0 ?_; first | refine gl_yv (yv_shr tab_ok (gok_none rfl) rfl rfl rfl (fun _ => rfl) (fun _ => rfl) c_bnd) rfl rfl ?_ | refine gl_yv (yv_rem tab_ok (gok_none rfl) rfl rfl rfl (fun _ => rfl) (fun _ => rfl) c_bnd) rfl rfl ?_ | refine gl_yv (yv_indexS tab_ok (gok_none rfl) rfl rfl rfl rfl (fun _ => rfl) (fun _ => rfl) c_bnd) rfl rfl ?_ | refine gl_yv (yv_sliceH tab_ok (gok_none rfl) rfl rfl rfl rfl rfl (fun _ => rfl) (fun _ => rfl) c_bnd) rfl rfl ?_)
        | (refine gl_arr0 ?_; refine gl_yv (yv_buildA tab_ok (gok_none rfl) rfl rfl rfl rfl (fun _ => allT_of rfl) rfl) rfl rfl ?_)
        | (refine gl_eqS ?_; first | refine gl_yv (yv_eqS tab_ok eqs_ok c_gok rfl rfl rfl rfl c_allT rfl rfl rfl) rfl rfl ?_)
        | (refine gl_neS ?_; first | refine gl_yv (yv_neS tab_ok eqs_ok c_gok rfl rfl rfl rfl c_allT rfl rfl rfl) rfl rfl ?_)
        | (refine gl_anyG ?_; refine gl_yv (yv_pure tab_ok c_gok rfl rfl c_allT) rfl rfl ?_))
      | (refine gc_gate ?_; first
        | refine gc_seq ?_
        | refine gc_region ?_
        | refine gc_quietRo rfl mixed (by decide +kernel) ?_
        | refine gc_true rfl ?_
        | refine gc_false rfl ?_
        | (refine gc_cond rfl ?_ ?_ <;> intro h_ <;> have hd_ := h_ <;> (try simp only [bytes_beq, cell_beq, val_beq, stamp_beq, decide_eq_true_eq, decide_eq_false_iff_not, Bool.and_eq_true, Bool.or_eq_true, Bool.or_eq_false_iff, Bool.not_eq_true', Bool.not_eq_false', Bool.not_true, Bool.not_false, Bool.false_or, Bool.true_and, Bool.and_true, Bool.or_false, beq_iff_eq, bne_iff_ne, beq_eq_false_iff_ne, bne_eq_false_iff_eq, ne_eq, Bool.false_eq_true, reduceCtorEq] at hd_) <;> (try (exfalso; omega)))
        | refine gc_block ?_
        | refine gc_exit ?_
        | refine gc_ret ?_
        | refine gc_skip ?_
        | refine gc_label ?_)
      | (refine ge_gate ?_; first
        | ((with_reducible refine ge_gT ?_); first | with_reducible refine ge_then ?_ | with_reducible refine ge_then_exit ?_ | with_reducible refine ge_then_ret ?_)
        | ((with_reducible refine ge_gK ?_); first | with_reducible refine ge_block ?_ | refine ge_block_exit ?_ | refine ge_block_pass rfl ?_ | with_reducible refine ge_block_ret ?_)
        | ((with_reducible refine ge_gB ?_); first | refine ge_ret1 tab_ok rfl c_rvt ?_ | refine ge_end1 tab_ok rfl c_rvt ?_ | refine ge_ret2 tab_ok rfl c_rvt c_rvt ?_ | refine ge_ret_none rfl ?_ | refine ge_end_none rfl ?_))
      | (refine gq_gate ?_; first
        | refine gq_nil ?_
        | (refine gq_load0 ?_; refine gq_yv (yv_load tab_ok (gok_none rfl) rfl rfl (fun _ => rfl) c_mem (fun _ => c_lds)) rfl rfl ?_)
        | (refine gq_add0 ?_; refine gq_yv (yv_add tab_ok (gok_none rfl) rfl rfl rfl rfl (fun _ => allT_of rfl) (by intro _; omega)) rfl rfl ?_)
        | (refine gq_sub0 ?_; refine gq_yv (yv_sub tab_ok (gok_none rfl) rfl rfl rfl rfl (fun _ => allT_of rfl) (by intro _; omega)) rfl rfl ?_)
        | (refine gq_idx0 ?_; refine gq_yv (yv_idxC tab_ok (gok_none rfl) rfl rfl rfl rfl rfl (fun _ => rfl) (fun _ => rfl) c_bnd) rfl rfl ?_)
        | (refine gq_pick0 ?_; first | refine gq_yv (yv_and (gok_none rfl) rfl rfl rfl (fun _ => rfl) c_imp2) rfl rfl ?_ | refine gq_yv (yv_or (gok_none rfl) rfl rfl rfl (fun _ => rfl) c_imp2) rfl rfl ?_)
        | (refine gq_idx0 ?_; refine gq_yv (yv_indexAddr tab_ok (gok_none rfl) rfl rfl rfl rfl rfl (fun _ => rfl) (fun _ => rfl) (by intro _; omega)) rfl rfl ?_)
        | (refine gq_addG ?_; refine gq_yv (yv_add tab_ok c_gok rfl rfl rfl rfl c_allT c_bnd) rfl rfl ?_)
        | (refine gq_subG ?_; refine gq_yv (yv_sub tab_ok c_gok rfl rfl rfl rfl c_allT c_bnd) rfl rfl ?_)
        | (refine gq_loadG ?_; refine gq_yv (yv_load tab_ok c_gok rfl rfl c_imp c_mem (fun _ => c_lds)) rfl rfl ?_)
        | (refine gq_pickG ?_; first | refine gq_yv (yv_and c_gok rfl rfl rfl c_imp c_imp2) rfl rfl ?_ | refine gq_yv (yv_or c_gok rfl rfl rfl c_imp c_imp2) rfl rfl ?_)
        | (refine gq_idxG ?_; refine gq_yv (yv_indexAddr tab_ok c_gok rfl rfl rfl rfl rfl c_imp c_imp c_bnd) rfl rfl ?_)
        | (refine gq_any0 ?_; refine gq_pure tab_ok rfl rfl rfl rfl rfl rfl ?_)
        | (refine gq_any0 ?_; first | refine gq_yv (yv_shr tab_ok (gok_none rfl) rfl rfl rfl (fun _ => rfl) (fun _ => rfl) c_bnd) rfl rfl ?_ | refine gq_yv (yv_rem tab_ok (gok_none rfl) rfl rfl rfl (fun _ => rfl) (fun _ => rfl) c_bnd) rfl rfl ?_ | refine gq_yv (yv_indexS tab_ok (gok_none rfl) rfl rfl rfl rfl (fun _ => rfl) (fun _ => rfl) c_bnd) rfl rfl ?_ | refine gq_yv (yv_sliceH tab_ok (gok_none rfl) rfl rfl rfl rfl rfl (fun _ => rfl) (fun _ => rfl) c_bnd) rfl rfl ?_)
        | (refine gq_arr0 ?_; refine gq_yv (yv_buildA tab_ok (gok_none rfl) rfl rfl rfl rfl (fun _ => allT_of rfl) rfl) rfl rfl ?_)
        | (refine gq_eqS ?_; first | refine gq_yv (yv_eqS tab_ok eqs_ok c_gok rfl rfl rfl rfl c_allT rfl rfl rfl) rfl rfl ?_)
        | (refine gq_neS ?_; first | refine gq_yv (yv_neS tab_ok eqs_ok c_gok rfl rfl rfl rfl c_allT rfl rfl rfl) rfl rfl ?_)
        | (refine gq_anyG ?_; refine gq_yv (yv_pure tab_ok c_gok rfl rfl c_allT) rfl rfl ?_))
    intro W hW
    refine ⟨⟨none, c_, sp_, kp, kc⟩, rfl, ⟨hw_, fun i hi => by omega⟩, hW.drop (List.nil_sublist _)⟩
  refine gc_loopW (α := Nat × (Nat → Option Addr) × (Nat → Nat)) (fun x => [(1, true, .pointer (some ⟨g1, 0, none⟩)), (2, true, .pointer (some ⟨g_, 0, none⟩)), (10, true, .slice (some (ad q)) t.kids.length c_), (11, true, .int .i64 t.kids.length), (12, true, .int .i64 (x.1 : Int))])
    (fun x => [(q, true, .cells ((kidsL t x.2.1 x.2.2).flatten ++ sp_).toArray 28 (0, 0)), (g_, true, .cells ((default : Node).l none 0).toArray 28 (0, 0)), (g1, true, .cells (t.l (some (ad q)) c_).toArray 28 (0, 0))])
    (fun x W => x.1 ≤ t.kids.length ∧ (∀ j, j < x.1 → NodeR (fun b => w.heap.size ≤ b ∧ b ∉ [q, g_, g1]) W (t.kids.getD j default) (x.2.1 j)) ∧ (∀ j, x.1 ≤ j → x.2.1 j = kp j ∧ x.2.2 j = kc j)) (fun x => t.kids.length - x.1) (0, kp, kc) c_frs c_sub (fun W _ => ⟨Nat.zero_le _, fun j hj => by omega, fun j _ => ⟨rfl, rfl⟩⟩) ?_
  generalize hgg : g_ = g2 at *
  rintro ⟨i, kp', kc'⟩ W1 h1 ⟨hi, hd, he⟩
  dsimp only at hi hd he h1 ⊢
  have hw' : Ow (some q) t.kids.length c_ 13 (kidsL t kp' kc').flatten sp_ := ⟨kidsL_length t kp' kc', hw_.room, hw_.le, fun h => by cases h⟩
  repeat' first
    | refine gl_yv (yv_idxO tab_ok hw' (gok_none rfl) rfl rfl rfl rfl rfl rfl (fun _ => rfl) (fun _ => rfl) c_bnd) rfl rfl ?_
    | refine gl_yv (yv_ldO tab_ok c_oa hw' (gok_none rfl) rfl rfl (fun _ => rfl) (fun _ => lds_elems (fun _ _ => rfl) (by omega) rfl rfl rfl) c_bnd) rfl rfl ?_
    | (refine gl_gate ?_; first
      | refine gl_nil ?_
      | (refine gl_load0 ?_; refine gl_yv (yv_load tab_ok (gok_none rfl) rfl rfl (fun _ => rfl) c_mem (fun _ => c_lds)) rfl rfl ?_)
      | (refine gl_add0 ?_; refine gl_yv (yv_add tab_ok (gok_none rfl) rfl rfl rfl rfl (fun _ => allT_of rfl) (by intro _; omega)) rfl rfl ?_)
      | (refine gl_sub0 ?_; refine gl_yv (yv_sub tab_ok (gok_none rfl) rfl rfl rfl rfl (fun _ => allT_of rfl) (by intro _; omega)) rfl rfl ?_)
      | (refine gl_idx0 ?_; refine gl_yv (yv_idxC tab_ok (gok_none rfl) rfl rfl rfl rfl rfl (fun _ => rfl) (fun _ => rfl) c_bnd) rfl rfl ?_)
      | (refine gl_bld0 ?_; (refine gl_ev (ev_buildSlice tab_ok rfl rfl rfl rfl rfl rfl rfl rfl rfl rfl ?_) rfl rfl; intro g_ hg_))
      | (refine gl_mul0 ?_; refine gl_yv (yv_mul tab_ok (gok_none rfl) rfl rfl rfl rfl (fun _ => allT_of rfl) c_bnd) rfl rfl ?_)
      | (refine gl_pick0 ?_; first | refine gl_yv (yv_and (gok_none rfl) rfl rfl rfl (fun _ => rfl) c_imp2) rfl rfl ?_ | refine gl_yv (yv_or (gok_none rfl) rfl rfl rfl (fun _ => rfl) c_imp2) rfl rfl ?_)
      | (refine gl_idx0 ?_; refine gl_yv (yv_indexAddr tab_ok (gok_none rfl) rfl rfl rfl rfl rfl (fun _ => rfl) (fun _ => rfl) (by intro _; omega)) rfl rfl ?_)
      | (refine gl_addG ?_; refine gl_yv (yv_add tab_ok c_gok rfl rfl rfl rfl c_allT c_bnd) rfl rfl ?_)
      | (refine gl_subG ?_; refine gl_yv (yv_sub tab_ok c_gok rfl rfl rfl rfl c_allT c_bnd) rfl rfl ?_)
      | (refine gl_loadG ?_; refine gl_yv (yv_load tab_ok c_gok rfl rfl c_imp c_mem (fun _ => c_lds)) rfl rfl ?_)
      | (refine gl_pickG ?_; first | refine gl_yv (yv_and c_gok rfl rfl rfl c_imp c_imp2) rfl rfl ?_ | refine gl_yv (yv_or c_gok rfl rfl rfl c_imp c_imp2) rfl rfl ?_)
      | (refine gl_idxG ?_; refine gl_yv (yv_indexAddr tab_ok c_gok rfl rfl rfl rfl rfl c_imp c_imp c_bnd) rfl rfl ?_)
      | (refine gl_box0 ?_; first | (refine gl_box_agg rfl rfl rfl rfl rfl ?_; intro g_ hg_) | (refine gl_box_one rfl rfl rfl rfl rfl rfl ?_; intro g_ hg_) | (refine gl_box rfl rfl rfl rfl rfl ?_; intro g_ hg_))
      | (refine gl_alc0 ?_; (refine gl_alloc tab_ok rfl rfl rfl rfl rfl ?_; intro g_ hg_))
      | (refine gl_sto0 ?_; refine gl_store tab_ok rfl rfl rfl rfl rfl rfl rfl c_one rfl c_ku ?_)
      | (refine gl_any0 ?_; refine gl_pure tab_ok rfl rfl rfl rfl rfl rfl ?_)
      | (refine gl_any0 ?_; first | refine gl_yv (yv_shr tab_ok (gok_none rfl) rfl rfl rfl (fun _ => rfl) (fun _ => rfl) c_bnd) rfl rfl ?_ | refine gl_yv (yv_rem tab_ok (gok_none rfl) rfl rfl rfl (fun _ => rfl) (fun _ => rfl) c_bnd) rfl rfl ?_ | refine gl_yv (yv_indexS tab_ok (gok_none rfl) rfl rfl rfl rfl (fun _ => rfl) (fun _ => rfl) c_bnd) rfl rfl ?_ | refine gl_yv (yv_sliceH tab_ok (gok_none rfl) rfl rfl rfl rfl rfl (fun _ => rfl) (fun _ => rfl) c_bnd) rfl rfl ?_)
      | (refine gl_arr0 ?_; refine gl_yv (yv_buildA tab_ok (gok_none rfl) rfl rfl rfl rfl (fun _ => allT_of rfl) rfl) rfl rfl ?_)
      | (refine gl_eqS ?_; first | refine gl_yv (yv_eqS tab_ok eqs_ok c_gok rfl rfl rfl rfl c_allT rfl rfl rfl) rfl rfl ?_)
      | (refine gl_neS ?_; first | refine gl_yv (yv_neS tab_ok eqs_ok c_gok rfl rfl rfl rfl c_allT rfl rfl rfl) rfl rfl ?_)
      | (refine gl_anyG ?_; refine gl_yv (yv_pure tab_ok c_gok rfl rfl c_allT) rfl rfl ?_))
    | (refine gc_gate ?_; first
      | refine gc_seq ?_
      | refine gc_region ?_
      | refine gc_true rfl ?_
      | refine gc_false rfl ?_
      | refine gc_block ?_
      | (refine gc_cond rfl ?_ ?_ <;> intro h_ <;> have hd_ := h_ <;> (try simp only [bytes_beq, cell_beq, val_beq, stamp_beq, decide_eq_true_eq, decide_eq_false_iff_not, Bool.and_eq_true, Bool.or_eq_true, Bool.or_eq_false_iff, Bool.not_eq_true', Bool.not_eq_false', Bool.not_true, Bool.not_false, Bool.false_or, Bool.true_and, Bool.and_true, Bool.or_false, beq_iff_eq, bne_iff_ne, beq_eq_false_iff_ne, bne_eq_false_iff_eq, ne_eq, Bool.false_eq_true, reduceCtorEq] at hd_) <;> (try (exfalso; omega)))
      | refine gc_exit ?_
      | refine gc_ret ?_
      | refine gc_skip ?_
      | refine gc_label ?_)
    | (refine ge_gate ?_; first
      | ((with_reducible refine ge_gT ?_); first | with_reducible refine ge_then ?_ | with_reducible refine ge_then_exit ?_ | with_reducible refine ge_then_ret ?_)
      | ((with_reducible refine ge_gK ?_); first | with_reducible refine ge_block ?_ | refine ge_block_exit ?_ | refine ge_block_pass rfl ?_ | with_reducible refine ge_block_ret ?_)
      | ((with_reducible refine ge_gB ?_); first | refine ge_ret1 tab_ok rfl c_rvt ?_ | refine ge_end1 tab_ok rfl c_rvt ?_ | refine ge_ret2 tab_ok rfl c_rvt c_rvt ?_ | refine ge_ret_none rfl ?_ | refine ge_end_none rfl ?_))
    | (refine gq_gate ?_; first
      | refine gq_nil ?_
      | (refine gq_load0 ?_; refine gq_yv (yv_load tab_ok (gok_none rfl) rfl rfl (fun _ => rfl) c_mem (fun _ => c_lds)) rfl rfl ?_)
      | (refine gq_add0 ?_; refine gq_yv (yv_add tab_ok (gok_none rfl) rfl rfl rfl rfl (fun _ => allT_of rfl) (by intro _; omega)) rfl rfl ?_)
      | (refine gq_sub0 ?_; refine gq_yv (yv_sub tab_ok (gok_none rfl) rfl rfl rfl rfl (fun _ => allT_of rfl) (by intro _; omega)) rfl rfl ?_)
      | (refine gq_idx0 ?_; refine gq_yv (yv_idxC tab_ok (gok_none rfl) rfl rfl rfl rfl rfl (fun _ => rfl) (fun _ => rfl) c_bnd) rfl rfl ?_)
      | (refine gq_pick0 ?_; first | refine gq_yv (yv_and (gok_none rfl) rfl rfl rfl (fun _ => rfl) c_imp2) rfl rfl ?_ | refine gq_yv (yv_or (gok_none rfl) rfl rfl rfl (fun _ => rfl) c_imp2) rfl rfl ?_)
      | (refine gq_idx0 ?_; refine gq_yv (yv_indexAddr tab_ok (gok_none rfl) rfl rfl rfl rfl rfl (fun _ => rfl) (fun _ => rfl) (by intro _; omega)) rfl rfl ?_)
      | (refine gq_addG ?_; refine gq_yv (yv_add tab_ok c_gok rfl rfl rfl rfl c_allT c_bnd) rfl rfl ?_)
      | (refine gq_subG ?_; refine gq_yv (yv_sub tab_ok c_gok rfl rfl rfl rfl c_allT c_bnd) rfl rfl ?_)
      | (refine gq_loadG ?_; refine gq_yv (yv_load tab_ok c_gok rfl rfl c_imp c_mem (fun _ => c_lds)) rfl rfl ?_)
      | (refine gq_pickG ?_; first | refine gq_yv (yv_and c_gok rfl rfl rfl c_imp c_imp2) rfl rfl ?_ | refine gq_yv (yv_or c_gok rfl rfl rfl c_imp c_imp2) rfl rfl ?_)
      | (refine gq_idxG ?_; refine gq_yv (yv_indexAddr tab_ok c_gok rfl rfl rfl rfl rfl c_imp c_imp c_bnd) rfl rfl ?_)
      | (refine gq_any0 ?_; refine gq_pure tab_ok rfl rfl rfl rfl rfl rfl ?_)
      | (refine gq_any0 ?_; first | refine gq_yv (yv_shr tab_ok (gok_none rfl) rfl rfl rfl (fun _ => rfl) (fun _ => rfl) c_bnd) rfl rfl ?_ | refine gq_yv (yv_rem tab_ok (gok_none rfl) rfl rfl rfl (fun _ => rfl) (fun _ => rfl) c_bnd) rfl rfl ?_ | refine gq_yv (yv_indexS tab_ok (gok_none rfl) rfl rfl rfl rfl (fun _ => rfl) (fun _ => rfl) c_bnd) rfl rfl ?_ | refine gq_yv (yv_sliceH tab_ok (gok_none rfl) rfl rfl rfl rfl rfl (fun _ => rfl) (fun _ => rfl) c_bnd) rfl rfl ?_)
      | (refine gq_arr0 ?_; refine gq_yv (yv_buildA tab_ok (gok_none rfl) rfl rfl rfl rfl (fun _ => allT_of rfl) rfl) rfl rfl ?_)
      | (refine gq_eqS ?_; first | refine gq_yv (yv_eqS tab_ok eqs_ok c_gok rfl rfl rfl rfl c_allT rfl rfl rfl) rfl rfl ?_)
      | (refine gq_neS ?_; first | refine gq_yv (yv_neS tab_ok eqs_ok c_gok rfl rfl rfl rfl c_allT rfl rfl rfl) rfl rfl ?_)
      | (refine gq_anyG ?_; refine gq_yv (yv_pure tab_ok c_gok rfl rfl c_allT) rfl rfl ?_))
  · have hci : (t.kids.getD i default).count ≤ 1000000 := by have := Node.kid_count (getD_mem t.kids i (by omega)); omega
    have hNi : NodeR S w (t.kids.getD i default) (kp' i) := by rw [(he i (Nat.le_refl _)).1]; exact hk i (by omega)
    refine gp_start [6] #[false, false, false, false, false, false, false] mixed rfl rfl c_qp ?_; intro hqp_
    refine gp_take 0 #[true, false, false, false, false, false, false] hqp_ rfl (by kernel_rfl) (yv_pure tab_ok c_gok rfl rfl c_allT) c_cl rfl rfl ?_
    refine gp_take 1 #[true, true, false, false, false, false, false] hqp_ rfl (by kernel_rfl) (yv_load tab_ok c_gok rfl rfl c_imp c_mem (fun _ => c_lds)) c_cl rfl rfl ?_
    refine gp_take 2 #[true, true, true, false, false, false, false] hqp_ rfl (by kernel_rfl) (yv_pure tab_ok c_gok rfl rfl c_allT) c_cl rfl rfl ?_
    refine gp_take 3 #[true, true, true, true, false, false, false] hqp_ rfl (by kernel_rfl) (yv_load tab_ok c_gok rfl rfl c_imp c_mem (fun _ => c_lds)) c_cl rfl rfl ?_
    (refine gp_evB 4 #[true, true, true, true, true, false, false] rfl (by kernel_rfl) rfl rfl rfl (evb_call (val := fun x : Option Addr × Nat => .agg ((t.kids.getD i default).l x.1 x.2).toArray) (φ := fun W W' x => NodeR (fun b => W.heap.size ≤ b) W' (t.kids.getD i default) x.1) rfl rfl ent186 rfl rfl rfl (fun W hW => (ih _ (getD_mem t.kids i (by omega)) _ _ W (hNi.st (h1.trans hW)) hci).mono fun e w' h => h.weak) ?_); intro W2 W3 x2 hB2 hB3 hb3 hN3; refine ⟨c_cl, ?_⟩)
    first | refine gp_take 5 #[true, true, true, true, true, true, false] hqp_ rfl (by kernel_rfl) ((yv_idxO tab_ok hw' c_gok rfl rfl rfl rfl rfl rfl c_imp c_imp c_bnd)) c_cl rfl rfl ?_ | refine gp_take 5 #[true, true, true, true, true, true, false] hqp_ rfl (by kernel_rfl) (yv_indexAddr tab_ok c_gok rfl rfl rfl rfl rfl c_imp c_imp c_bnd) c_cl rfl rfl ?_ | refine gp_take 5 #[true, true, true, true, true, true, false] hqp_ rfl (by kernel_rfl) (yv_idxC tab_ok c_gok rfl rfl rfl rfl rfl c_imp c_imp c_bnd) c_cl rfl rfl ?_
    refine gp_last0 6 #[true, true, true, true, true, true, true] rfl (by kernel_rfl) (by simp) rfl (ev_storeE (n := t.kids.length) (f := fun j => (t.kids.getD j default).l (kp' j) (kc' j)) tab_ok rfl rfl rfl rfl rfl rfl rfl (node_ones _ _ _) (fun _ _ => rfl) (by omega) (Ku.tail Ku.head) ?_)
    refine gp_done (by kernel_rfl) ?_; clear hqp_
    have hke : kidsL t (fun j => if j = i then x2.1 else kp' j) (fun j => if j = i then x2.2 else kc' j) = elems t.kids.length (fun j => if j = i then (t.kids.getD i default).l x2.1 x2.2 else (t.kids.getD j default).l (kp' j) (kc' j)) := elems_congr fun j _ => by
      by_cases hj : j = i
      · subst hj; simp
      · simp [hj]
    repeat' first
      | (refine gl_gate ?_; first
        | refine gl_nil ?_
        | (refine gl_load0 ?_; refine gl_yv (yv_load tab_ok (gok_none rfl) rfl rfl (fun _ => rfl) c_mem (fun _ => c_lds)) rfl rfl ?_)
        | (refine gl_add0 ?_; refine gl_yv (yv_add tab_ok (gok_none rfl) rfl rfl rfl rfl (fun _ => allT_of rfl) (by intro _; omega)) rfl rfl ?_)
        | (refine gl_sub0 ?_; refine gl_yv (yv_sub tab_ok (gok_none rfl) rfl rfl rfl rfl (fun _ => allT_of rfl) (by intro _; omega)) rfl rfl ?_)
        | (refine gl_idx0 ?_; refine gl_yv (yv_idxC tab_ok (gok_none rfl) rfl rfl rfl rfl rfl (fun _ => rfl) (fun _ => rfl) c_bnd) rfl rfl ?_)
        | (refine gl_bld0 ?_; (refine gl_ev (ev_buildSlice tab_ok rfl rfl rfl rfl rfl rfl rfl rfl rfl rfl ?_) rfl rfl; intro g_ hg_))
        | (refine gl_mul0 ?_; refine gl_yv (yv_mul tab_ok (gok_none rfl) rfl rfl rfl rfl (fun _ => allT_of rfl) c_bnd) rfl rfl ?_)
        | (refine gl_pick0 ?_; first | refine gl_yv (yv_and (gok_none rfl) rfl rfl rfl (fun _ => rfl) c_imp2) rfl rfl ?_ | refine gl_yv (yv_or (gok_none rfl) rfl rfl rfl (fun _ => rfl) c_imp2) rfl rfl ?_)
        | (refine gl_idx0 ?_; refine gl_yv (yv_indexAddr tab_ok (gok_none rfl) rfl rfl rfl rfl rfl (fun _ => rfl) (fun _ => rfl) (by intro _; omega)) rfl rfl ?_)
        | (refine gl_addG ?_; refine gl_yv (yv_add tab_ok c_gok rfl rfl rfl rfl c_allT c_bnd) rfl rfl ?_)
        | (refine gl_subG ?_; refine gl_yv (yv_sub tab_ok c_gok rfl rfl rfl rfl c_allT c_bnd) rfl rfl ?_)
        | (refine gl_loadG ?_; refine gl_yv (yv_load tab_ok c_gok rfl rfl c_imp c_mem (fun _ => c_lds)) rfl rfl ?_)
        | (refine gl_pickG ?_; first | refine gl_yv (yv_and c_gok rfl rfl rfl c_imp c_imp2) rfl rfl ?_ | refine gl_yv (yv_or c_gok rfl rfl rfl c_imp c_imp2) rfl rfl ?_)
        | (refine gl_idxG ?_; refine gl_yv (yv_indexAddr tab_ok c_gok rfl rfl rfl rfl rfl c_imp c_imp c_bnd) rfl rfl ?_)
        | (refine gl_box0 ?_; first | (refine gl_box_agg rfl rfl rfl rfl rfl ?_; intro g_ hg_) | (refine gl_box_one rfl rfl rfl rfl rfl rfl ?_; intro g_ hg_) | (refine gl_box rfl rfl rfl rfl rfl ?_; intro g_ hg_))
        | (refine gl_alc0 ?_; (refine gl_alloc tab_ok rfl rfl rfl rfl rfl ?_; intro g_ hg_))
        | (refine gl_sto0 ?_; refine gl_store tab_ok rfl rfl rfl rfl rfl rfl rfl c_one rfl c_ku ?_)
        | (refine gl_any0 ?_; refine gl_pure tab_ok rfl rfl rfl rfl rfl rfl ?_)
        | (refine gl_any0 ?_; first | refine gl_yv (yv_shr tab_ok (gok_none rfl) rfl rfl rfl (fun _ => rfl) (fun _ => rfl) c_bnd) rfl rfl ?_ | refine gl_yv (yv_rem tab_ok (gok_none rfl) rfl rfl rfl (fun _ => rfl) (fun _ => rfl) c_bnd) rfl rfl ?_ | refine gl_yv (yv_indexS tab_ok (gok_none rfl) rfl rfl rfl rfl (fun _ => rfl) (fun _ => rfl) c_bnd) rfl rfl ?_ | refine gl_yv (yv_sliceH tab_ok (gok_none rfl) rfl rfl rfl rfl rfl (fun _ => rfl) (fun _ => rfl) c_bnd) rfl rfl ?_)
        | (refine gl_arr0 ?_; refine gl_yv (yv_buildA tab_ok (gok_none rfl) rfl rfl rfl rfl (fun _ => allT_of rfl) rfl) rfl rfl ?_)
        | (refine gl_eqS ?_; first | refine gl_yv (yv_eqS tab_ok eqs_ok c_gok rfl rfl rfl rfl c_allT rfl rfl rfl) rfl rfl ?_)
        | (refine gl_neS ?_; first | refine gl_yv (yv_neS tab_ok eqs_ok c_gok rfl rfl rfl rfl c_allT rfl rfl rfl) rfl rfl ?_)
        | (refine gl_anyG ?_; refine gl_yv (yv_pure tab_ok c_gok rfl rfl c_allT) rfl rfl ?_))
      | (refine gc_gate ?_; first
        | refine gc_seq ?_
        | refine gc_region ?_
        | refine gc_quietRo rfl mixed (by decide +kernel) ?_
        | refine gc_true rfl ?_
        | refine gc_false rfl ?_
        | (refine gc_cond rfl ?_ ?_ <;> intro h_ <;> have hd_ := h_ <;> (try simp only [bytes_beq, cell_beq, val_beq, stamp_beq, decide_eq_true_eq, decide_eq_false_iff_not, Bool.and_eq_true, Bool.or_eq_true, Bool.or_eq_false_iff, Bool.not_eq_true', Bool.not_eq_false', Bool.not_true, Bool.not_false, Bool.false_or, Bool.true_and, Bool.and_true, Bool.or_false, beq_iff_eq, bne_iff_ne, beq_eq_false_iff_ne, bne_eq_false_iff_eq, ne_eq, Bool.false_eq_true, reduceCtorEq] at hd_) <;> (try (exfalso; omega)))
        | refine gc_block ?_
        | refine gc_exit ?_
        | refine gc_ret ?_
        | refine gc_skip ?_
        | refine gc_label ?_)
      | (refine ge_gate ?_; first
        | ((with_reducible refine ge_gT ?_); first | with_reducible refine ge_then ?_ | with_reducible refine ge_then_exit ?_ | with_reducible refine ge_then_ret ?_)
        | ((with_reducible refine ge_gK ?_); first | with_reducible refine ge_block ?_ | refine ge_block_exit ?_ | refine ge_block_pass rfl ?_ | with_reducible refine ge_block_ret ?_)
        | ((with_reducible refine ge_gB ?_); first | refine ge_ret1 tab_ok rfl c_rvt ?_ | refine ge_end1 tab_ok rfl c_rvt ?_ | refine ge_ret2 tab_ok rfl c_rvt c_rvt ?_ | refine ge_ret_none rfl ?_ | refine ge_end_none rfl ?_))
      | (refine gq_gate ?_; first
        | refine gq_nil ?_
        | (refine gq_load0 ?_; refine gq_yv (yv_load tab_ok (gok_none rfl) rfl rfl (fun _ => rfl) c_mem (fun _ => c_lds)) rfl rfl ?_)
        | (refine gq_add0 ?_; refine gq_yv (yv_add tab_ok (gok_none rfl) rfl rfl rfl rfl (fun _ => allT_of rfl) (by intro _; omega)) rfl rfl ?_)
        | (refine gq_sub0 ?_; refine gq_yv (yv_sub tab_ok (gok_none rfl) rfl rfl rfl rfl (fun _ => allT_of rfl) (by intro _; omega)) rfl rfl ?_)
        | (refine gq_idx0 ?_; refine gq_yv (yv_idxC tab_ok (gok_none rfl) rfl rfl rfl rfl rfl (fun _ => rfl) (fun _ => rfl) c_bnd) rfl rfl ?_)
        | (refine gq_pick0 ?_; first | refine gq_yv (yv_and (gok_none rfl) rfl rfl rfl (fun _ => rfl) c_imp2) rfl rfl ?_ | refine gq_yv (yv_or (gok_none rfl) rfl rfl rfl (fun _ => rfl) c_imp2) rfl rfl ?_)
        | (refine gq_idx0 ?_; refine gq_yv (yv_indexAddr tab_ok (gok_none rfl) rfl rfl rfl rfl rfl (fun _ => rfl) (fun _ => rfl) (by intro _; omega)) rfl rfl ?_)
        | (refine gq_addG ?_; refine gq_yv (yv_add tab_ok c_gok rfl rfl rfl rfl c_allT c_bnd) rfl rfl ?_)
        | (refine gq_subG ?_; refine gq_yv (yv_sub tab_ok c_gok rfl rfl rfl rfl c_allT c_bnd) rfl rfl ?_)
        | (refine gq_loadG ?_; refine gq_yv (yv_load tab_ok c_gok rfl rfl c_imp c_mem (fun _ => c_lds)) rfl rfl ?_)
        | (refine gq_pickG ?_; first | refine gq_yv (yv_and c_gok rfl rfl rfl c_imp c_imp2) rfl rfl ?_ | refine gq_yv (yv_or c_gok rfl rfl rfl c_imp c_imp2) rfl rfl ?_)
        | (refine gq_idxG ?_; refine gq_yv (yv_indexAddr tab_ok c_gok rfl rfl rfl rfl rfl c_imp c_imp c_bnd) rfl rfl ?_)
        | (refine gq_any0 ?_; refine gq_pure tab_ok rfl rfl rfl rfl rfl rfl ?_)
        | (refine gq_any0 ?_; first | refine gq_yv (yv_shr tab_ok (gok_none rfl) rfl rfl rfl (fun _ => rfl) (fun _ => rfl) c_bnd) rfl rfl ?_ | refine gq_yv (yv_rem tab_ok (gok_none rfl) rfl rfl rfl (fun _ => rfl) (fun _ => rfl) c_bnd) rfl rfl ?_ | refine gq_yv (yv_indexS tab_ok (gok_none rfl) rfl rfl rfl rfl (fun _ => rfl) (fun _ => rfl) c_bnd) rfl rfl ?_ | refine gq_yv (yv_sliceH tab_ok (gok_none rfl) rfl rfl rfl rfl rfl (fun _ => rfl) (fun _ => rfl) c_bnd) rfl rfl ?_)
        | (refine gq_arr0 ?_; refine gq_yv (yv_buildA tab_ok (gok_none rfl) rfl rfl rfl rfl (fun _ => allT_of rfl) rfl) rfl rfl ?_)
        | (refine gq_eqS ?_; first | refine gq_yv (yv_eqS tab_ok eqs_ok c_gok rfl rfl rfl rfl c_allT rfl rfl rfl) rfl rfl ?_)
        | (refine gq_neS ?_; first | refine gq_yv (yv_neS tab_ok eqs_ok c_gok rfl rfl rfl rfl c_allT rfl rfl rfl) rfl rfl ?_)
        | (refine gq_anyG ?_; refine gq_yv (yv_pure tab_ok c_gok rfl rfl c_allT) rfl rfl ?_))
    refine ge_roundW (i + 1, (fun j => if j = i then x2.1 else kp' j), (fun j => if j = i then x2.2 else kc' j)) (h1.trans hB3) ?_ ?_ ?_ ?_
    · dsimp only; omega
    · exact c_frs
    · dsimp only
      rw [hke]
      exact c_sub
    intro W hW
    refine ⟨by dsimp only; omega, fun j hj => ?_, fun j hj => ?_⟩
    · by_cases hji : j = i
      · subst hji
        simp only [if_true]
        refine hN3.mono (fun b hb _ => ⟨Nat.le_trans h1.size (Nat.le_trans hB2.size hb), ?_⟩) (fun b hb hlt => hW.frame b hlt (hB2.fresh hb))
        have := hB2.fresh hb
        simp only [wrs, cond_true, List.mem_cons, not_or] at this
        simp [this]
      · simp only [hji, if_false]
        exact (hd j (by dsimp only at hj; omega)).stM (hB3.trans hW) (fun b hb => by simpa [wrs] using hb.2)
    · have hji : ¬ j = i := by dsimp only at hj; omega
      simp only [hji, if_false]
      exact he j (by dsimp only at hj; omega)
  · intro W hW
    have hin : i = t.kids.length := by omega
    refine ⟨⟨some q, c_, sp_, kp', kc'⟩, rfl, ⟨hw', fun j hj => ?_⟩, (h1.trans hW).drop c_sub⟩
    refine ((hd j (by omega)).stM hW (fun b hb => ?_)).mono (fun b hb _ => ⟨hb.1, ?_⟩) (fun _ _ _ => rfl)
    · simpa [wrs] using hb.2
    · intro e
      have := hb.2
      simp at e this
      omega
end Go.Proofs.Ytkgjfcjciigcgaa
