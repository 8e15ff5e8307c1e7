/-
  ShardTells and ShardAll, walked.
-/
import Derived.Test.YtkgjfcjciigcgaaGoMine
namespace Go.Proofs.Ytkgjfcjciigcgaa
open Go.Proofs.Ytkgjfcjciigcgaa.Sl Go.RowKit
set_option linter.unusedVariables false
set_option linter.unusedSimpArgs false
set_option maxRecDepth 100000

def cell1 : Cell := ⟨⟨#[115]⟩, 1, 1⟩
theorem worker1 (c : Cell) : worker c 1 = 0 := by simp [worker, Int.tmod_one]
theorem mine1 (c : Cell) : mine [c] 0 1 = [c] := by simp [mine, worker1]
theorem ct_Worker1 (w : World) : Calls Try.prog 49 #[.agg #[.string ⟨#[115]⟩, .int .i64 1, .int .i64 1], .int .i64 1] w fun e w' => e = .returned (.int .i64 0) ∧ Below w.heap.size w w' := by
  have := ct_Worker cell1 1 (by decide) w
  rw [worker1] at this
  exact this
theorem ct_Mine1 (w : World) (g : Nat) (hb : w.heap[g]? = some (.cells cell1.l.toArray 25 (0, 0))) : Calls Try.prog 52 #[.slice (some ⟨g, 0, none⟩) 1 1, .int .i64 0, .int .i64 1] w (RetOw w 1 3 cell1.l 25) := by
  have hs : SlA w 3 (some ⟨g, 0, none⟩) 1 (fun i => ([cell1].getD i default).l) := ⟨fun _ => by simp [pb, po], fun i hi => by
    obtain rfl : i = 0 := by omega
    rfl, fun _ => ⟨_, _, _, by simp only [pb, Option.getD_some]; exact hb, fun i hi j hj => by
    obtain rfl : i = 0 := by omega
    simp [po]⟩⟩
  have := ct_Mine w [cell1] (some ⟨g, 0, none⟩) 1 1 rfl hs (by omega) (by intro c hc; simp at hc; subst hc; decide) 0 1
  rw [mine1] at this
  exact this
theorem ct_alive18 (w : World) : Calls Try.prog 46 #[] w fun e w' => e = .returned (.bool true) ∧ Below w.heap.size w w' := by
  refine enter (args := []) (M := []) (K := []) Try.func46 rfl Try.ntmps46 rfl (St.refl _ _) ?_
  repeat' first
    | (refine gl_gate ?_; first
      | refine gl_nil ?_
      | (refine gl_load0 ?_; refine gl_yv (yv_load tab_ok (gok_none rfl) rfl rfl (fun _ => rfl) c_mem (fun _ => c_lds)) rfl rfl ?_)
      | (refine gl_add0 ?_; refine gl_yv (yv_add tab_ok (gok_none rfl) rfl rfl rfl rfl (fun _ => allT_of rfl) (by intro _; omega)) rfl rfl ?_)
      | (refine gl_sub0 ?_; refine gl_yv (yv_sub tab_ok (gok_none rfl) rfl rfl rfl rfl (fun _ => allT_of rfl) (by intro _; omega)) rfl rfl ?_)
      | (refine gl_idx0 ?_; refine gl_yv (yv_idxC tab_ok (gok_none rfl) rfl rfl rfl rfl rfl (fun _ => rfl) (fun _ => rfl) c_bnd) rfl rfl ?_)
      | (refine gl_any0 ?_; (refine gl_ev (ev_callOw rfl rfl ent52 rfl rfl rfl (fun W hW => ct_Mine1 W _ (hW.kn c_mem)) ?_) rfl rfl; intro p_ c_ sp_ hw_))
      | (refine gl_bld0 ?_; (refine gl_ev (ev_buildSlice tab_ok rfl rfl rfl rfl rfl rfl rfl rfl rfl rfl ?_) rfl rfl; intro g_ hg_))
      | (refine gl_mul0 ?_; refine gl_yv (yv_mul tab_ok (gok_none rfl) rfl rfl rfl rfl (fun _ => allT_of rfl) c_bnd) rfl rfl ?_)
      | (refine gl_pick0 ?_; first | refine gl_yv (yv_and (gok_none rfl) rfl rfl rfl (fun _ => rfl) c_imp2) rfl rfl ?_ | refine gl_yv (yv_or (gok_none rfl) rfl rfl rfl (fun _ => rfl) c_imp2) rfl rfl ?_)
      | (refine gl_idx0 ?_; refine gl_yv (yv_indexAddr tab_ok (gok_none rfl) rfl rfl rfl rfl rfl (fun _ => rfl) (fun _ => rfl) (by intro _; omega)) rfl rfl ?_)
      | (refine gl_addG ?_; refine gl_yv (yv_add tab_ok c_gok rfl rfl rfl rfl c_allT c_bnd) rfl rfl ?_)
      | (refine gl_subG ?_; refine gl_yv (yv_sub tab_ok c_gok rfl rfl rfl rfl c_allT c_bnd) rfl rfl ?_)
      | (refine gl_loadG ?_; refine gl_yv (yv_load tab_ok c_gok rfl rfl c_imp c_mem (fun _ => c_lds)) rfl rfl ?_)
      | (refine gl_pickG ?_; first | refine gl_yv (yv_and c_gok rfl rfl rfl c_imp c_imp2) rfl rfl ?_ | refine gl_yv (yv_or c_gok rfl rfl rfl c_imp c_imp2) rfl rfl ?_)
      | (refine gl_idxG ?_; refine gl_yv (yv_indexAddr tab_ok c_gok rfl rfl rfl rfl rfl c_imp c_imp c_bnd) rfl rfl ?_)
      | (refine gl_box0 ?_; first | (refine gl_box_agg rfl rfl rfl rfl rfl ?_; intro g_ hg_) | (refine gl_box_one rfl rfl rfl rfl rfl rfl ?_; intro g_ hg_) | (refine gl_box rfl rfl rfl rfl rfl ?_; intro g_ hg_))
      | (refine gl_alc0 ?_; (refine gl_alloc tab_ok rfl rfl rfl rfl rfl ?_; intro g_ hg_))
      | (refine gl_sto0 ?_; refine gl_store tab_ok rfl rfl rfl rfl rfl rfl rfl c_one rfl c_ku ?_)
      | (refine gl_any0 ?_; refine gl_pure tab_ok rfl rfl rfl rfl rfl rfl ?_)
      | (refine gl_any0 ?_; first | refine gl_yv (yv_shr tab_ok (gok_none rfl) rfl rfl rfl (fun _ => rfl) (fun _ => rfl) c_bnd) rfl rfl ?_ | refine gl_yv (yv_rem tab_ok (gok_none rfl) rfl rfl rfl (fun _ => rfl) (fun _ => rfl) c_bnd) rfl rfl ?_ | refine gl_yv (yv_indexS tab_ok (gok_none rfl) rfl rfl rfl rfl (fun _ => rfl) (fun _ => rfl) c_bnd) rfl rfl ?_ | refine gl_yv (yv_sliceH tab_ok (gok_none rfl) rfl rfl rfl rfl rfl (fun _ => rfl) (fun _ => rfl) c_bnd) rfl rfl ?_)
      | (refine gl_arr0 ?_; refine gl_yv (yv_buildA tab_ok (gok_none rfl) rfl rfl rfl rfl (fun _ => allT_of rfl) rfl) rfl rfl ?_)
      | (refine gl_eqS ?_; first | refine gl_yv (yv_eqS tab_ok eqs_ok c_gok rfl rfl rfl rfl c_allT rfl rfl rfl) rfl rfl ?_)
      | (refine gl_neS ?_; first | refine gl_yv (yv_neS tab_ok eqs_ok c_gok rfl rfl rfl rfl c_allT rfl rfl rfl) rfl rfl ?_)
      | (refine gl_anyG ?_; refine gl_yv (yv_pure tab_ok c_gok rfl rfl c_allT) rfl rfl ?_))
    | (refine gc_gate ?_; first
      | refine gc_seq ?_
      | refine gc_region ?_
      | refine gc_true rfl ?_
      | refine gc_false rfl ?_
      | refine gc_block ?_
      | (refine gc_cond rfl ?_ ?_ <;> intro h_ <;> have hd_ := h_ <;> (try simp only [bytes_beq, cell_beq, val_beq, stamp_beq, decide_eq_true_eq, decide_eq_false_iff_not, Bool.and_eq_true, Bool.or_eq_true, Bool.or_eq_false_iff, Bool.not_eq_true', Bool.not_eq_false', Bool.not_true, Bool.not_false, Bool.false_or, Bool.true_and, Bool.and_true, Bool.or_false, beq_iff_eq, bne_iff_ne, beq_eq_false_iff_ne, bne_eq_false_iff_eq, ne_eq, Bool.false_eq_true, reduceCtorEq] at hd_) <;> (try (exfalso; omega)))
      | refine gc_exit ?_
      | refine gc_ret ?_
      | refine gc_skip ?_
      | refine gc_label ?_)
    | (refine ge_gate ?_; first
      | ((with_reducible refine ge_gT ?_); first | with_reducible refine ge_then ?_ | with_reducible refine ge_then_exit ?_ | with_reducible refine ge_then_ret ?_)
      | ((with_reducible refine ge_gK ?_); first | with_reducible refine ge_block ?_ | refine ge_block_exit ?_ | refine ge_block_pass rfl ?_ | with_reducible refine ge_block_ret ?_)
      | ((with_reducible refine ge_gB ?_); first | refine ge_ret1 tab_ok rfl c_rvt ?_ | refine ge_end1 tab_ok rfl c_rvt ?_ | refine ge_ret2 tab_ok rfl c_rvt c_rvt ?_ | refine ge_ret_none rfl ?_ | refine ge_end_none rfl ?_))
    | (refine gq_gate ?_; first
      | refine gq_nil ?_
      | (refine gq_load0 ?_; refine gq_yv (yv_load tab_ok (gok_none rfl) rfl rfl (fun _ => rfl) c_mem (fun _ => c_lds)) rfl rfl ?_)
      | (refine gq_add0 ?_; refine gq_yv (yv_add tab_ok (gok_none rfl) rfl rfl rfl rfl (fun _ => allT_of rfl) (by intro _; omega)) rfl rfl ?_)
      | (refine gq_sub0 ?_; refine gq_yv (yv_sub tab_ok (gok_none rfl) rfl rfl rfl rfl (fun _ => allT_of rfl) (by intro _; omega)) rfl rfl ?_)
      | (refine gq_idx0 ?_; refine gq_yv (yv_idxC tab_ok (gok_none rfl) rfl rfl rfl rfl rfl (fun _ => rfl) (fun _ => rfl) c_bnd) rfl rfl ?_)
      | (refine gq_pick0 ?_; first | refine gq_yv (yv_and (gok_none rfl) rfl rfl rfl (fun _ => rfl) c_imp2) rfl rfl ?_ | refine gq_yv (yv_or (gok_none rfl) rfl rfl rfl (fun _ => rfl) c_imp2) rfl rfl ?_)
      | (refine gq_idx0 ?_; refine gq_yv (yv_indexAddr tab_ok (gok_none rfl) rfl rfl rfl rfl rfl (fun _ => rfl) (fun _ => rfl) (by intro _; omega)) rfl rfl ?_)
      | (refine gq_addG ?_; refine gq_yv (yv_add tab_ok c_gok rfl rfl rfl rfl c_allT c_bnd) rfl rfl ?_)
      | (refine gq_subG ?_; refine gq_yv (yv_sub tab_ok c_gok rfl rfl rfl rfl c_allT c_bnd) rfl rfl ?_)
      | (refine gq_loadG ?_; refine gq_yv (yv_load tab_ok c_gok rfl rfl c_imp c_mem (fun _ => c_lds)) rfl rfl ?_)
      | (refine gq_pickG ?_; first | refine gq_yv (yv_and c_gok rfl rfl rfl c_imp c_imp2) rfl rfl ?_ | refine gq_yv (yv_or c_gok rfl rfl rfl c_imp c_imp2) rfl rfl ?_)
      | (refine gq_idxG ?_; refine gq_yv (yv_indexAddr tab_ok c_gok rfl rfl rfl rfl rfl c_imp c_imp c_bnd) rfl rfl ?_)
      | (refine gq_any0 ?_; refine gq_pure tab_ok rfl rfl rfl rfl rfl rfl ?_)
      | (refine gq_any0 ?_; first | refine gq_yv (yv_shr tab_ok (gok_none rfl) rfl rfl rfl (fun _ => rfl) (fun _ => rfl) c_bnd) rfl rfl ?_ | refine gq_yv (yv_rem tab_ok (gok_none rfl) rfl rfl rfl (fun _ => rfl) (fun _ => rfl) c_bnd) rfl rfl ?_ | refine gq_yv (yv_indexS tab_ok (gok_none rfl) rfl rfl rfl rfl (fun _ => rfl) (fun _ => rfl) c_bnd) rfl rfl ?_ | refine gq_yv (yv_sliceH tab_ok (gok_none rfl) rfl rfl rfl rfl rfl (fun _ => rfl) (fun _ => rfl) c_bnd) rfl rfl ?_)
      | (refine gq_arr0 ?_; refine gq_yv (yv_buildA tab_ok (gok_none rfl) rfl rfl rfl rfl (fun _ => allT_of rfl) rfl) rfl rfl ?_)
      | (refine gq_eqS ?_; first | refine gq_yv (yv_eqS tab_ok eqs_ok c_gok rfl rfl rfl rfl c_allT rfl rfl rfl) rfl rfl ?_)
      | (refine gq_neS ?_; first | refine gq_yv (yv_neS tab_ok eqs_ok c_gok rfl rfl rfl rfl c_allT rfl rfl rfl) rfl rfl ?_)
      | (refine gq_anyG ?_; refine gq_yv (yv_pure tab_ok c_gok rfl rfl c_allT) rfl rfl ?_))
  repeat' first
    | refine gq_yv (yv_idxO (i := 0) tab_ok hw_ c_gok rfl rfl rfl rfl rfl rfl c_imp c_imp c_bnd) rfl rfl ?_
    | refine gq_yv (yv_ldO tab_ok c_oa hw_ c_gok rfl rfl c_imp (fun _ => lds_whole rfl rfl rfl) c_bnd) rfl rfl ?_
    | (refine gl_gate ?_; first
      | refine gl_nil ?_
      | (refine gl_load0 ?_; refine gl_yv (yv_load tab_ok (gok_none rfl) rfl rfl (fun _ => rfl) c_mem (fun _ => c_lds)) rfl rfl ?_)
      | (refine gl_add0 ?_; refine gl_yv (yv_add tab_ok (gok_none rfl) rfl rfl rfl rfl (fun _ => allT_of rfl) (by intro _; omega)) rfl rfl ?_)
      | (refine gl_sub0 ?_; refine gl_yv (yv_sub tab_ok (gok_none rfl) rfl rfl rfl rfl (fun _ => allT_of rfl) (by intro _; omega)) rfl rfl ?_)
      | (refine gl_idx0 ?_; refine gl_yv (yv_idxC tab_ok (gok_none rfl) rfl rfl rfl rfl rfl (fun _ => rfl) (fun _ => rfl) c_bnd) rfl rfl ?_)
      | (refine gl_bld0 ?_; (refine gl_ev (ev_buildSlice tab_ok rfl rfl rfl rfl rfl rfl rfl rfl rfl rfl ?_) rfl rfl; intro g_ hg_))
      | (refine gl_mul0 ?_; refine gl_yv (yv_mul tab_ok (gok_none rfl) rfl rfl rfl rfl (fun _ => allT_of rfl) c_bnd) rfl rfl ?_)
      | (refine gl_calv0 ?_; first | refine gl_yd (yd_call (gok_none rfl) rfl ent49 rfl rfl (fun _ => allT_of rfl) (fun _ W hW => ct_Worker1 W)) rfl rfl ?_)
      | (refine gl_calvG ?_; first | refine gl_yd (yd_call c_gok rfl ent49 rfl rfl c_allT (fun _ W hW => ct_Worker1 W)) rfl rfl ?_)
      | (refine gl_pick0 ?_; first | refine gl_yv (yv_and (gok_none rfl) rfl rfl rfl (fun _ => rfl) c_imp2) rfl rfl ?_ | refine gl_yv (yv_or (gok_none rfl) rfl rfl rfl (fun _ => rfl) c_imp2) rfl rfl ?_)
      | (refine gl_idx0 ?_; refine gl_yv (yv_indexAddr tab_ok (gok_none rfl) rfl rfl rfl rfl rfl (fun _ => rfl) (fun _ => rfl) (by intro _; omega)) rfl rfl ?_)
      | (refine gl_addG ?_; refine gl_yv (yv_add tab_ok c_gok rfl rfl rfl rfl c_allT c_bnd) rfl rfl ?_)
      | (refine gl_subG ?_; refine gl_yv (yv_sub tab_ok c_gok rfl rfl rfl rfl c_allT c_bnd) rfl rfl ?_)
      | (refine gl_loadG ?_; refine gl_yv (yv_load tab_ok c_gok rfl rfl c_imp c_mem (fun _ => c_lds)) rfl rfl ?_)
      | (refine gl_pickG ?_; first | refine gl_yv (yv_and c_gok rfl rfl rfl c_imp c_imp2) rfl rfl ?_ | refine gl_yv (yv_or c_gok rfl rfl rfl c_imp c_imp2) rfl rfl ?_)
      | (refine gl_idxG ?_; refine gl_yv (yv_indexAddr tab_ok c_gok rfl rfl rfl rfl rfl c_imp c_imp c_bnd) rfl rfl ?_)
      | (refine gl_box0 ?_; first | (refine gl_box_agg rfl rfl rfl rfl rfl ?_; intro g_ hg_) | (refine gl_box_one rfl rfl rfl rfl rfl rfl ?_; intro g_ hg_) | (refine gl_box rfl rfl rfl rfl rfl ?_; intro g_ hg_))
      | (refine gl_alc0 ?_; (refine gl_alloc tab_ok rfl rfl rfl rfl rfl ?_; intro g_ hg_))
      | (refine gl_sto0 ?_; refine gl_store tab_ok rfl rfl rfl rfl rfl rfl rfl c_one rfl c_ku ?_)
      | (refine gl_any0 ?_; refine gl_pure tab_ok rfl rfl rfl rfl rfl rfl ?_)
      | (refine gl_any0 ?_; first | refine gl_yv (yv_shr tab_ok (gok_none rfl) rfl rfl rfl (fun _ => rfl) (fun _ => rfl) c_bnd) rfl rfl ?_ | refine gl_yv (yv_rem tab_ok (gok_none rfl) rfl rfl rfl (fun _ => rfl) (fun _ => rfl) c_bnd) rfl rfl ?_ | refine gl_yv (yv_indexS tab_ok (gok_none rfl) rfl rfl rfl rfl (fun _ => rfl) (fun _ => rfl) c_bnd) rfl rfl ?_ | refine gl_yv (yv_sliceH tab_ok (gok_none rfl) rfl rfl rfl rfl rfl (fun _ => rfl) (fun _ => rfl) c_bnd) rfl rfl ?_)
      | (refine gl_arr0 ?_; refine gl_yv (yv_buildA tab_ok (gok_none rfl) rfl rfl rfl rfl (fun _ => allT_of rfl) rfl) rfl rfl ?_)
      | (refine gl_eqS ?_; first | refine gl_yv (yv_eqS tab_ok eqs_ok c_gok rfl rfl rfl rfl c_allT rfl rfl rfl) rfl rfl ?_)
      | (refine gl_neS ?_; first | refine gl_yv (yv_neS tab_ok eqs_ok c_gok rfl rfl rfl rfl c_allT rfl rfl rfl) rfl rfl ?_)
      | (refine gl_anyG ?_; refine gl_yv (yv_pure tab_ok c_gok rfl rfl c_allT) rfl rfl ?_))
    | (refine gc_gate ?_; first
      | refine gc_seq ?_
      | refine gc_region ?_
      | refine gc_quietRo rfl mixed (by decide +kernel) ?_
      | refine gc_true rfl ?_
      | refine gc_false rfl ?_
      | (refine gc_cond rfl ?_ ?_ <;> intro h_ <;> have hd_ := h_ <;> (try simp only [bytes_beq, cell_beq, val_beq, stamp_beq, decide_eq_true_eq, decide_eq_false_iff_not, Bool.and_eq_true, Bool.or_eq_true, Bool.or_eq_false_iff, Bool.not_eq_true', Bool.not_eq_false', Bool.not_true, Bool.not_false, Bool.false_or, Bool.true_and, Bool.and_true, Bool.or_false, beq_iff_eq, bne_iff_ne, beq_eq_false_iff_ne, bne_eq_false_iff_eq, ne_eq, Bool.false_eq_true, reduceCtorEq] at hd_) <;> (try (exfalso; omega)))
      | refine gc_block ?_
      | refine gc_exit ?_
      | refine gc_ret ?_
      | refine gc_skip ?_
      | refine gc_label ?_)
    | (refine ge_gate ?_; first
      | ((with_reducible refine ge_gT ?_); first | with_reducible refine ge_then ?_ | with_reducible refine ge_then_exit ?_ | with_reducible refine ge_then_ret ?_)
      | ((with_reducible refine ge_gK ?_); first | with_reducible refine ge_block ?_ | refine ge_block_exit ?_ | refine ge_block_pass rfl ?_ | with_reducible refine ge_block_ret ?_)
      | ((with_reducible refine ge_gB ?_); first | refine ge_ret1 tab_ok rfl c_rvt ?_ | refine ge_end1 tab_ok rfl c_rvt ?_ | refine ge_ret2 tab_ok rfl c_rvt c_rvt ?_ | refine ge_ret_none rfl ?_ | refine ge_end_none rfl ?_))
    | (refine gq_gate ?_; first
      | refine gq_nil ?_
      | (refine gq_load0 ?_; refine gq_yv (yv_load tab_ok (gok_none rfl) rfl rfl (fun _ => rfl) c_mem (fun _ => c_lds)) rfl rfl ?_)
      | (refine gq_add0 ?_; refine gq_yv (yv_add tab_ok (gok_none rfl) rfl rfl rfl rfl (fun _ => allT_of rfl) (by intro _; omega)) rfl rfl ?_)
      | (refine gq_sub0 ?_; refine gq_yv (yv_sub tab_ok (gok_none rfl) rfl rfl rfl rfl (fun _ => allT_of rfl) (by intro _; omega)) rfl rfl ?_)
      | (refine gq_idx0 ?_; refine gq_yv (yv_idxC tab_ok (gok_none rfl) rfl rfl rfl rfl rfl (fun _ => rfl) (fun _ => rfl) c_bnd) rfl rfl ?_)
      | (refine gq_calv0 ?_; first | refine gq_yd (yd_call (gok_none rfl) rfl ent49 rfl rfl (fun _ => allT_of rfl) (fun _ W hW => ct_Worker1 W)) rfl rfl ?_)
      | (refine gq_calvG ?_; first | refine gq_yd (yd_call c_gok rfl ent49 rfl rfl c_allT (fun _ W hW => ct_Worker1 W)) rfl rfl ?_)
      | (refine gq_pick0 ?_; first | refine gq_yv (yv_and (gok_none rfl) rfl rfl rfl (fun _ => rfl) c_imp2) rfl rfl ?_ | refine gq_yv (yv_or (gok_none rfl) rfl rfl rfl (fun _ => rfl) c_imp2) rfl rfl ?_)
      | (refine gq_idx0 ?_; refine gq_yv (yv_indexAddr tab_ok (gok_none rfl) rfl rfl rfl rfl rfl (fun _ => rfl) (fun _ => rfl) (by intro _; omega)) rfl rfl ?_)
      | (refine gq_addG ?_; refine gq_yv (yv_add tab_ok c_gok rfl rfl rfl rfl c_allT c_bnd) rfl rfl ?_)
      | (refine gq_subG ?_; refine gq_yv (yv_sub tab_ok c_gok rfl rfl rfl rfl c_allT c_bnd) rfl rfl ?_)
      | (refine gq_loadG ?_; refine gq_yv (yv_load tab_ok c_gok rfl rfl c_imp c_mem (fun _ => c_lds)) rfl rfl ?_)
      | (refine gq_pickG ?_; first | refine gq_yv (yv_and c_gok rfl rfl rfl c_imp c_imp2) rfl rfl ?_ | refine gq_yv (yv_or c_gok rfl rfl rfl c_imp c_imp2) rfl rfl ?_)
      | (refine gq_idxG ?_; refine gq_yv (yv_indexAddr tab_ok c_gok rfl rfl rfl rfl rfl c_imp c_imp c_bnd) rfl rfl ?_)
      | (refine gq_any0 ?_; refine gq_pure tab_ok rfl rfl rfl rfl rfl rfl ?_)
      | (refine gq_any0 ?_; first | refine gq_yv (yv_shr tab_ok (gok_none rfl) rfl rfl rfl (fun _ => rfl) (fun _ => rfl) c_bnd) rfl rfl ?_ | refine gq_yv (yv_rem tab_ok (gok_none rfl) rfl rfl rfl (fun _ => rfl) (fun _ => rfl) c_bnd) rfl rfl ?_ | refine gq_yv (yv_indexS tab_ok (gok_none rfl) rfl rfl rfl rfl (fun _ => rfl) (fun _ => rfl) c_bnd) rfl rfl ?_ | refine gq_yv (yv_sliceH tab_ok (gok_none rfl) rfl rfl rfl rfl rfl (fun _ => rfl) (fun _ => rfl) c_bnd) rfl rfl ?_)
      | (refine gq_arr0 ?_; refine gq_yv (yv_buildA tab_ok (gok_none rfl) rfl rfl rfl rfl (fun _ => allT_of rfl) rfl) rfl rfl ?_)
      | (refine gq_eqS ?_; first | refine gq_yv (yv_eqS tab_ok eqs_ok c_gok rfl rfl rfl rfl c_allT rfl rfl rfl) rfl rfl ?_)
      | (refine gq_neS ?_; first | refine gq_yv (yv_neS tab_ok eqs_ok c_gok rfl rfl rfl rfl c_allT rfl rfl rfl) rfl rfl ?_)
      | (refine gq_anyG ?_; refine gq_yv (yv_pure tab_ok c_gok rfl rfl c_allT) rfl rfl ?_))
  intro W hW
  exact ⟨by simp [bytes_beq, cell1], hW.below0⟩

theorem walk_ShardTells (c : Cell) (hc : c.Ok) (l : List Cell) (p : Option Addr) (n cap : Nat) (hn : n = l.length) (hok : ∀ x ∈ l, x.Ok) (v k : Int) (hk : In64 k) (w : World) (hs : SlA w 3 p n (fun i => (l.getD i default).l)) :
    Calls Try.prog 7 #[.agg #[.string c.sheet, .int .i64 c.col, .int .i64 c.row], .slice p n cap, .int .i64 v, .int .i64 k] w fun e w' => e = .returned (.bool true) ∧ Below w.heap.size w w' := by
  have hc1 := hc.1
  have hc2 : c.sheet.size ≤ 9223372036854775806 := by omega
  have hok1 : ∀ x ∈ l, x.sheet.size ≤ 140737488351232 := fun x hx => (hok x hx).1
  refine enter (args := [_, _, _, _]) (M := []) (K := []) Try.func7 rfl Try.ntmps7 rfl (St.refl _ _) ?_
  repeat' first
    | (refine gl_gate ?_; first
      | refine gl_nil ?_
      | (refine gl_load0 ?_; refine gl_yv (yv_load tab_ok (gok_none rfl) rfl rfl (fun _ => rfl) c_mem (fun _ => c_lds)) rfl rfl ?_)
      | (refine gl_add0 ?_; refine gl_yv (yv_add tab_ok (gok_none rfl) rfl rfl rfl rfl (fun _ => allT_of rfl) (by intro _; omega)) rfl rfl ?_)
      | (refine gl_sub0 ?_; refine gl_yv (yv_sub tab_ok (gok_none rfl) rfl rfl rfl rfl (fun _ => allT_of rfl) (by intro _; omega)) rfl rfl ?_)
      | (refine gl_idx0 ?_; refine gl_yv (yv_idxC tab_ok (gok_none rfl) rfl rfl rfl rfl rfl (fun _ => rfl) (fun _ => rfl) c_bnd) rfl rfl ?_)
      | (refine gl_bld0 ?_; (refine gl_ev (ev_buildSlice tab_ok rfl rfl rfl rfl rfl rfl rfl rfl rfl rfl ?_) rfl rfl; intro g_ hg_))
      | (refine gl_mul0 ?_; refine gl_yv (yv_mul tab_ok (gok_none rfl) rfl rfl rfl rfl (fun _ => allT_of rfl) c_bnd) rfl rfl ?_)
      | (refine gl_calv0 ?_; first | refine gl_yd (yd_call (gok_none rfl) rfl ent46 rfl rfl (fun _ => allT_of rfl) (fun _ W hW => ct_alive18 W)) rfl rfl ?_)
      | (refine gl_calvG ?_; first | refine gl_yd (yd_call c_gok rfl ent46 rfl rfl c_allT (fun _ W hW => ct_alive18 W)) rfl rfl ?_)
      | (refine gl_pick0 ?_; first | refine gl_yv (yv_and (gok_none rfl) rfl rfl rfl (fun _ => rfl) c_imp2) rfl rfl ?_ | refine gl_yv (yv_or (gok_none rfl) rfl rfl rfl (fun _ => rfl) c_imp2) rfl rfl ?_)
      | (refine gl_idx0 ?_; refine gl_yv (yv_indexAddr tab_ok (gok_none rfl) rfl rfl rfl rfl rfl (fun _ => rfl) (fun _ => rfl) (by intro _; omega)) rfl rfl ?_)
      | (refine gl_addG ?_; refine gl_yv (yv_add tab_ok c_gok rfl rfl rfl rfl c_allT c_bnd) rfl rfl ?_)
      | (refine gl_subG ?_; refine gl_yv (yv_sub tab_ok c_gok rfl rfl rfl rfl c_allT c_bnd) rfl rfl ?_)
      | (refine gl_loadG ?_; refine gl_yv (yv_load tab_ok c_gok rfl rfl c_imp c_mem (fun _ => c_lds)) rfl rfl ?_)
      | (refine gl_pickG ?_; first | refine gl_yv (yv_and c_gok rfl rfl rfl c_imp c_imp2) rfl rfl ?_ | refine gl_yv (yv_or c_gok rfl rfl rfl c_imp c_imp2) rfl rfl ?_)
      | (refine gl_idxG ?_; refine gl_yv (yv_indexAddr tab_ok c_gok rfl rfl rfl rfl rfl c_imp c_imp c_bnd) rfl rfl ?_)
      | (refine gl_box0 ?_; first | (refine gl_box_agg rfl rfl rfl rfl rfl ?_; intro g_ hg_) | (refine gl_box_one rfl rfl rfl rfl rfl rfl ?_; intro g_ hg_) | (refine gl_box rfl rfl rfl rfl rfl ?_; intro g_ hg_))
      | (refine gl_alc0 ?_; (refine gl_alloc tab_ok rfl rfl rfl rfl rfl ?_; intro g_ hg_))
      | (refine gl_sto0 ?_; refine gl_store tab_ok rfl rfl rfl rfl rfl rfl rfl c_one rfl c_ku ?_)
      | (refine gl_any0 ?_; refine gl_pure tab_ok rfl rfl rfl rfl rfl rfl ?_)
      | (refine gl_any0 ?_; first | refine gl_yv (yv_shr tab_ok (gok_none rfl) rfl rfl rfl (fun _ => rfl) (fun _ => rfl) c_bnd) rfl rfl ?_ | refine gl_yv (yv_rem tab_ok (gok_none rfl) rfl rfl rfl (fun _ => rfl) (fun _ => rfl) c_bnd) rfl rfl ?_ | refine gl_yv (yv_indexS tab_ok (gok_none rfl) rfl rfl rfl rfl (fun _ => rfl) (fun _ => rfl) c_bnd) rfl rfl ?_ | refine gl_yv (yv_sliceH tab_ok (gok_none rfl) rfl rfl rfl rfl rfl (fun _ => rfl) (fun _ => rfl) c_bnd) rfl rfl ?_)
      | (refine gl_arr0 ?_; refine gl_yv (yv_buildA tab_ok (gok_none rfl) rfl rfl rfl rfl (fun _ => allT_of rfl) rfl) rfl rfl ?_)
      | (refine gl_eqS ?_; first | refine gl_yv (yv_eqS tab_ok eqs_ok c_gok rfl rfl rfl rfl c_allT rfl rfl rfl) rfl rfl ?_)
      | (refine gl_neS ?_; first | refine gl_yv (yv_neS tab_ok eqs_ok c_gok rfl rfl rfl rfl c_allT rfl rfl rfl) rfl rfl ?_)
      | (refine gl_anyG ?_; refine gl_yv (yv_pure tab_ok c_gok rfl rfl c_allT) rfl rfl ?_))
    | (refine gc_gate ?_; first
      | refine gc_seq ?_
      | refine gc_region ?_
      | refine gc_quietRo rfl mixed (by decide +kernel) ?_
      | refine gc_true rfl ?_
      | refine gc_false rfl ?_
      | (refine gc_cond rfl ?_ ?_ <;> intro h_ <;> have hd_ := h_ <;> (try simp only [bytes_beq, cell_beq, val_beq, stamp_beq, decide_eq_true_eq, decide_eq_false_iff_not, Bool.and_eq_true, Bool.or_eq_true, Bool.or_eq_false_iff, Bool.not_eq_true', Bool.not_eq_false', Bool.not_true, Bool.not_false, Bool.false_or, Bool.true_and, Bool.and_true, Bool.or_false, beq_iff_eq, bne_iff_ne, beq_eq_false_iff_ne, bne_eq_false_iff_eq, ne_eq, Bool.false_eq_true, reduceCtorEq] at hd_) <;> (try (exfalso; omega)))
      | refine gc_block ?_
      | refine gc_exit ?_
      | refine gc_ret ?_
      | refine gc_skip ?_
      | refine gc_label ?_)
    | (refine ge_gate ?_; first
      | ((with_reducible refine ge_gT ?_); first | with_reducible refine ge_then ?_ | with_reducible refine ge_then_exit ?_ | with_reducible refine ge_then_ret ?_)
      | ((with_reducible refine ge_gK ?_); first | with_reducible refine ge_block ?_ | refine ge_block_exit ?_ | refine ge_block_pass rfl ?_ | with_reducible refine ge_block_ret ?_)
      | ((with_reducible refine ge_gB ?_); first | refine ge_ret1 tab_ok rfl c_rvt ?_ | refine ge_end1 tab_ok rfl c_rvt ?_ | refine ge_ret2 tab_ok rfl c_rvt c_rvt ?_ | refine ge_ret_none rfl ?_ | refine ge_end_none rfl ?_))
    | (refine gq_gate ?_; first
      | refine gq_nil ?_
      | (refine gq_load0 ?_; refine gq_yv (yv_load tab_ok (gok_none rfl) rfl rfl (fun _ => rfl) c_mem (fun _ => c_lds)) rfl rfl ?_)
      | (refine gq_add0 ?_; refine gq_yv (yv_add tab_ok (gok_none rfl) rfl rfl rfl rfl (fun _ => allT_of rfl) (by intro _; omega)) rfl rfl ?_)
      | (refine gq_sub0 ?_; refine gq_yv (yv_sub tab_ok (gok_none rfl) rfl rfl rfl rfl (fun _ => allT_of rfl) (by intro _; omega)) rfl rfl ?_)
      | (refine gq_idx0 ?_; refine gq_yv (yv_idxC tab_ok (gok_none rfl) rfl rfl rfl rfl rfl (fun _ => rfl) (fun _ => rfl) c_bnd) rfl rfl ?_)
      | (refine gq_calv0 ?_; first | refine gq_yd (yd_call (gok_none rfl) rfl ent46 rfl rfl (fun _ => allT_of rfl) (fun _ W hW => ct_alive18 W)) rfl rfl ?_)
      | (refine gq_calvG ?_; first | refine gq_yd (yd_call c_gok rfl ent46 rfl rfl c_allT (fun _ W hW => ct_alive18 W)) rfl rfl ?_)
      | (refine gq_pick0 ?_; first | refine gq_yv (yv_and (gok_none rfl) rfl rfl rfl (fun _ => rfl) c_imp2) rfl rfl ?_ | refine gq_yv (yv_or (gok_none rfl) rfl rfl rfl (fun _ => rfl) c_imp2) rfl rfl ?_)
      | (refine gq_idx0 ?_; refine gq_yv (yv_indexAddr tab_ok (gok_none rfl) rfl rfl rfl rfl rfl (fun _ => rfl) (fun _ => rfl) (by intro _; omega)) rfl rfl ?_)
      | (refine gq_addG ?_; refine gq_yv (yv_add tab_ok c_gok rfl rfl rfl rfl c_allT c_bnd) rfl rfl ?_)
      | (refine gq_subG ?_; refine gq_yv (yv_sub tab_ok c_gok rfl rfl rfl rfl c_allT c_bnd) rfl rfl ?_)
      | (refine gq_loadG ?_; refine gq_yv (yv_load tab_ok c_gok rfl rfl c_imp c_mem (fun _ => c_lds)) rfl rfl ?_)
      | (refine gq_pickG ?_; first | refine gq_yv (yv_and c_gok rfl rfl rfl c_imp c_imp2) rfl rfl ?_ | refine gq_yv (yv_or c_gok rfl rfl rfl c_imp c_imp2) rfl rfl ?_)
      | (refine gq_idxG ?_; refine gq_yv (yv_indexAddr tab_ok c_gok rfl rfl rfl rfl rfl c_imp c_imp c_bnd) rfl rfl ?_)
      | (refine gq_any0 ?_; refine gq_pure tab_ok rfl rfl rfl rfl rfl rfl ?_)
      | (refine gq_any0 ?_; first | refine gq_yv (yv_shr tab_ok (gok_none rfl) rfl rfl rfl (fun _ => rfl) (fun _ => rfl) c_bnd) rfl rfl ?_ | refine gq_yv (yv_rem tab_ok (gok_none rfl) rfl rfl rfl (fun _ => rfl) (fun _ => rfl) c_bnd) rfl rfl ?_ | refine gq_yv (yv_indexS tab_ok (gok_none rfl) rfl rfl rfl rfl (fun _ => rfl) (fun _ => rfl) c_bnd) rfl rfl ?_ | refine gq_yv (yv_sliceH tab_ok (gok_none rfl) rfl rfl rfl rfl rfl (fun _ => rfl) (fun _ => rfl) c_bnd) rfl rfl ?_)
      | (refine gq_arr0 ?_; refine gq_yv (yv_buildA tab_ok (gok_none rfl) rfl rfl rfl rfl (fun _ => allT_of rfl) rfl) rfl rfl ?_)
      | (refine gq_eqS ?_; first | refine gq_yv (yv_eqS tab_ok eqs_ok c_gok rfl rfl rfl rfl c_allT rfl rfl rfl) rfl rfl ?_)
      | (refine gq_neS ?_; first | refine gq_yv (yv_neS tab_ok eqs_ok c_gok rfl rfl rfl rfl c_allT rfl rfl rfl) rfl rfl ?_)
      | (refine gq_anyG ?_; refine gq_yv (yv_pure tab_ok c_gok rfl rfl c_allT) rfl rfl ?_))
  · intro W hW
    exact ⟨rfl, hW.below0⟩
  refine gc_loop (α := Nat) (fun i => [(1, true, .slice p n cap), (2, true, .int .i64 v), (3, true, .int .i64 k), (4, true, .pointer (some ⟨g_, 0, none⟩)), (10, true, .int .i64 (i : Int))]) (fun _ => [(g_, true, .cells c.l.toArray 25 (0, 0))]) (fun i => i ≤ n) (fun i => n - i) 0 c_frs c_sub (Nat.zero_le _) ?_
  intro i hi
  repeat' first
    | (refine gl_gate ?_; first
      | refine gl_nil ?_
      | (refine gl_load0 ?_; refine gl_yv (yv_load tab_ok (gok_none rfl) rfl rfl (fun _ => rfl) c_mem (fun _ => c_lds)) rfl rfl ?_)
      | (refine gl_add0 ?_; refine gl_yv (yv_add tab_ok (gok_none rfl) rfl rfl rfl rfl (fun _ => allT_of rfl) (by intro _; omega)) rfl rfl ?_)
      | (refine gl_sub0 ?_; refine gl_yv (yv_sub tab_ok (gok_none rfl) rfl rfl rfl rfl (fun _ => allT_of rfl) (by intro _; omega)) rfl rfl ?_)
      | (refine gl_idx0 ?_; refine gl_yv (yv_idxA tab_ok hs (gok_none rfl) rfl rfl rfl rfl rfl rfl (fun _ => rfl) (fun _ => rfl) c_bnd) rfl rfl ?_)
      | (refine gl_idxG ?_; refine gl_yv (yv_idxA tab_ok hs c_gok rfl rfl rfl rfl rfl rfl c_imp c_imp c_bnd) rfl rfl ?_)
      | (refine gl_load0 ?_; refine gl_yv (yv_ldA tab_ok hs c_nm (gok_none rfl) rfl rfl (fun _ => rfl) c_bnd (fun _ => c_lds)) rfl rfl ?_)
      | (refine gl_loadG ?_; refine gl_yv (yv_ldA tab_ok hs c_nm c_gok rfl rfl c_imp c_bnd (fun _ => c_lds)) rfl rfl ?_)
      | (refine gl_load0 ?_; refine gl_yv (yv_ldA0 tab_ok hs c_nm (gok_none rfl) rfl rfl (fun _ => rfl) c_bnd (fun _ => c_lds)) rfl rfl ?_)
      | (refine gl_loadG ?_; refine gl_yv (yv_ldA0 tab_ok hs c_nm c_gok rfl rfl c_imp c_bnd (fun _ => c_lds)) rfl rfl ?_)
      | (refine gl_idx0 ?_; refine gl_yv (yv_idxC tab_ok (gok_none rfl) rfl rfl rfl rfl rfl (fun _ => rfl) (fun _ => rfl) c_bnd) rfl rfl ?_)
      | (refine gl_bld0 ?_; (refine gl_ev (ev_buildSlice tab_ok rfl rfl rfl rfl rfl rfl rfl rfl rfl rfl ?_) rfl rfl; intro g_ hg_))
      | (refine gl_mul0 ?_; refine gl_yv (yv_mul tab_ok (gok_none rfl) rfl rfl rfl rfl (fun _ => allT_of rfl) c_bnd) rfl rfl ?_)
      | (refine gl_pick0 ?_; first | refine gl_yv (yv_and (gok_none rfl) rfl rfl rfl (fun _ => rfl) c_imp2) rfl rfl ?_ | refine gl_yv (yv_or (gok_none rfl) rfl rfl rfl (fun _ => rfl) c_imp2) rfl rfl ?_)
      | (refine gl_idx0 ?_; refine gl_yv (yv_indexAddr tab_ok (gok_none rfl) rfl rfl rfl rfl rfl (fun _ => rfl) (fun _ => rfl) (by intro _; omega)) rfl rfl ?_)
      | (refine gl_addG ?_; refine gl_yv (yv_add tab_ok c_gok rfl rfl rfl rfl c_allT c_bnd) rfl rfl ?_)
      | (refine gl_subG ?_; refine gl_yv (yv_sub tab_ok c_gok rfl rfl rfl rfl c_allT c_bnd) rfl rfl ?_)
      | (refine gl_loadG ?_; refine gl_yv (yv_load tab_ok c_gok rfl rfl c_imp c_mem (fun _ => c_lds)) rfl rfl ?_)
      | (refine gl_pickG ?_; first | refine gl_yv (yv_and c_gok rfl rfl rfl c_imp c_imp2) rfl rfl ?_ | refine gl_yv (yv_or c_gok rfl rfl rfl c_imp c_imp2) rfl rfl ?_)
      | (refine gl_idxG ?_; refine gl_yv (yv_indexAddr tab_ok c_gok rfl rfl rfl rfl rfl c_imp c_imp c_bnd) rfl rfl ?_)
      | (refine gl_box0 ?_; first | (refine gl_box_agg rfl rfl rfl rfl rfl ?_; intro g_ hg_) | (refine gl_box_one rfl rfl rfl rfl rfl rfl ?_; intro g_ hg_) | (refine gl_box rfl rfl rfl rfl rfl ?_; intro g_ hg_))
      | (refine gl_alc0 ?_; (refine gl_alloc tab_ok rfl rfl rfl rfl rfl ?_; intro g_ hg_))
      | (refine gl_sto0 ?_; refine gl_store tab_ok rfl rfl rfl rfl rfl rfl rfl c_one rfl c_ku ?_)
      | (refine gl_any0 ?_; refine gl_pure tab_ok rfl rfl rfl rfl rfl rfl ?_)
      | (refine gl_any0 ?_; first | refine gl_yv (yv_shr tab_ok (gok_none rfl) rfl rfl rfl (fun _ => rfl) (fun _ => rfl) c_bnd) rfl rfl ?_ | refine gl_yv (yv_rem tab_ok (gok_none rfl) rfl rfl rfl (fun _ => rfl) (fun _ => rfl) c_bnd) rfl rfl ?_ | refine gl_yv (yv_indexS tab_ok (gok_none rfl) rfl rfl rfl rfl (fun _ => rfl) (fun _ => rfl) c_bnd) rfl rfl ?_ | refine gl_yv (yv_sliceH tab_ok (gok_none rfl) rfl rfl rfl rfl rfl (fun _ => rfl) (fun _ => rfl) c_bnd) rfl rfl ?_)
      | (refine gl_arr0 ?_; refine gl_yv (yv_buildA tab_ok (gok_none rfl) rfl rfl rfl rfl (fun _ => allT_of rfl) rfl) rfl rfl ?_)
      | (refine gl_eqS ?_; first | refine gl_yv (yv_eqS tab_ok eqs_ok c_gok rfl rfl rfl rfl c_allT rfl rfl rfl) rfl rfl ?_)
      | (refine gl_neS ?_; first | refine gl_yv (yv_neS tab_ok eqs_ok c_gok rfl rfl rfl rfl c_allT rfl rfl rfl) rfl rfl ?_)
      | (refine gl_anyG ?_; refine gl_yv (yv_pure tab_ok c_gok rfl rfl c_allT) rfl rfl ?_))
    | (refine gc_gate ?_; first
      | refine gc_seq ?_
      | refine gc_region ?_
      | refine gc_true rfl ?_
      | refine gc_false rfl ?_
      | refine gc_block ?_
      | (refine gc_cond rfl ?_ ?_ <;> intro h_ <;> have hd_ := h_ <;> (try simp only [bytes_beq, cell_beq, val_beq, stamp_beq, decide_eq_true_eq, decide_eq_false_iff_not, Bool.and_eq_true, Bool.or_eq_true, Bool.or_eq_false_iff, Bool.not_eq_true', Bool.not_eq_false', Bool.not_true, Bool.not_false, Bool.false_or, Bool.true_and, Bool.and_true, Bool.or_false, beq_iff_eq, bne_iff_ne, beq_eq_false_iff_ne, bne_eq_false_iff_eq, ne_eq, Bool.false_eq_true, reduceCtorEq] at hd_) <;> (try (exfalso; omega)))
      | refine gc_exit ?_
      | refine gc_ret ?_
      | refine gc_skip ?_
      | refine gc_label ?_)
    | (refine ge_gate ?_; first
      | ((with_reducible refine ge_gT ?_); first | with_reducible refine ge_then ?_ | with_reducible refine ge_then_exit ?_ | with_reducible refine ge_then_ret ?_)
      | ((with_reducible refine ge_gK ?_); first | with_reducible refine ge_block ?_ | refine ge_block_exit ?_ | refine ge_block_pass rfl ?_ | with_reducible refine ge_block_ret ?_)
      | ((with_reducible refine ge_gB ?_); first | refine ge_ret1 tab_ok rfl c_rvt ?_ | refine ge_end1 tab_ok rfl c_rvt ?_ | refine ge_ret2 tab_ok rfl c_rvt c_rvt ?_ | refine ge_ret_none rfl ?_ | refine ge_end_none rfl ?_))
    | (refine gq_gate ?_; first
      | refine gq_nil ?_
      | (refine gq_load0 ?_; refine gq_yv (yv_load tab_ok (gok_none rfl) rfl rfl (fun _ => rfl) c_mem (fun _ => c_lds)) rfl rfl ?_)
      | (refine gq_add0 ?_; refine gq_yv (yv_add tab_ok (gok_none rfl) rfl rfl rfl rfl (fun _ => allT_of rfl) (by intro _; omega)) rfl rfl ?_)
      | (refine gq_sub0 ?_; refine gq_yv (yv_sub tab_ok (gok_none rfl) rfl rfl rfl rfl (fun _ => allT_of rfl) (by intro _; omega)) rfl rfl ?_)
      | (refine gq_idx0 ?_; refine gq_yv (yv_idxA tab_ok hs (gok_none rfl) rfl rfl rfl rfl rfl rfl (fun _ => rfl) (fun _ => rfl) c_bnd) rfl rfl ?_)
      | (refine gq_idxG ?_; refine gq_yv (yv_idxA tab_ok hs c_gok rfl rfl rfl rfl rfl rfl c_imp c_imp c_bnd) rfl rfl ?_)
      | (refine gq_load0 ?_; refine gq_yv (yv_ldA tab_ok hs c_nm (gok_none rfl) rfl rfl (fun _ => rfl) c_bnd (fun _ => c_lds)) rfl rfl ?_)
      | (refine gq_loadG ?_; refine gq_yv (yv_ldA tab_ok hs c_nm c_gok rfl rfl c_imp c_bnd (fun _ => c_lds)) rfl rfl ?_)
      | (refine gq_load0 ?_; refine gq_yv (yv_ldA0 tab_ok hs c_nm (gok_none rfl) rfl rfl (fun _ => rfl) c_bnd (fun _ => c_lds)) rfl rfl ?_)
      | (refine gq_loadG ?_; refine gq_yv (yv_ldA0 tab_ok hs c_nm c_gok rfl rfl c_imp c_bnd (fun _ => c_lds)) rfl rfl ?_)
      | (refine gq_idx0 ?_; refine gq_yv (yv_idxC tab_ok (gok_none rfl) rfl rfl rfl rfl rfl (fun _ => rfl) (fun _ => rfl) c_bnd) rfl rfl ?_)
      | (refine gq_pick0 ?_; first | refine gq_yv (yv_and (gok_none rfl) rfl rfl rfl (fun _ => rfl) c_imp2) rfl rfl ?_ | refine gq_yv (yv_or (gok_none rfl) rfl rfl rfl (fun _ => rfl) c_imp2) rfl rfl ?_)
      | (refine gq_idx0 ?_; refine gq_yv (yv_indexAddr tab_ok (gok_none rfl) rfl rfl rfl rfl rfl (fun _ => rfl) (fun _ => rfl) (by intro _; omega)) rfl rfl ?_)
      | (refine gq_addG ?_; refine gq_yv (yv_add tab_ok c_gok rfl rfl rfl rfl c_allT c_bnd) rfl rfl ?_)
      | (refine gq_subG ?_; refine gq_yv (yv_sub tab_ok c_gok rfl rfl rfl rfl c_allT c_bnd) rfl rfl ?_)
      | (refine gq_loadG ?_; refine gq_yv (yv_load tab_ok c_gok rfl rfl c_imp c_mem (fun _ => c_lds)) rfl rfl ?_)
      | (refine gq_pickG ?_; first | refine gq_yv (yv_and c_gok rfl rfl rfl c_imp c_imp2) rfl rfl ?_ | refine gq_yv (yv_or c_gok rfl rfl rfl c_imp c_imp2) rfl rfl ?_)
      | (refine gq_idxG ?_; refine gq_yv (yv_indexAddr tab_ok c_gok rfl rfl rfl rfl rfl c_imp c_imp c_bnd) rfl rfl ?_)
      | (refine gq_any0 ?_; refine gq_pure tab_ok rfl rfl rfl rfl rfl rfl ?_)
      | (refine gq_any0 ?_; first | refine gq_yv (yv_shr tab_ok (gok_none rfl) rfl rfl rfl (fun _ => rfl) (fun _ => rfl) c_bnd) rfl rfl ?_ | refine gq_yv (yv_rem tab_ok (gok_none rfl) rfl rfl rfl (fun _ => rfl) (fun _ => rfl) c_bnd) rfl rfl ?_ | refine gq_yv (yv_indexS tab_ok (gok_none rfl) rfl rfl rfl rfl (fun _ => rfl) (fun _ => rfl) c_bnd) rfl rfl ?_ | refine gq_yv (yv_sliceH tab_ok (gok_none rfl) rfl rfl rfl rfl rfl (fun _ => rfl) (fun _ => rfl) c_bnd) rfl rfl ?_)
      | (refine gq_arr0 ?_; refine gq_yv (yv_buildA tab_ok (gok_none rfl) rfl rfl rfl rfl (fun _ => allT_of rfl) rfl) rfl rfl ?_)
      | (refine gq_eqS ?_; first | refine gq_yv (yv_eqS tab_ok eqs_ok c_gok rfl rfl rfl rfl c_allT rfl rfl rfl) rfl rfl ?_)
      | (refine gq_neS ?_; first | refine gq_yv (yv_neS tab_ok eqs_ok c_gok rfl rfl rfl rfl c_allT rfl rfl rfl) rfl rfl ?_)
      | (refine gq_anyG ?_; refine gq_yv (yv_pure tab_ok c_gok rfl rfl c_allT) rfl rfl ?_))
  · intro W hW
    exact ⟨rfl, hW.below0⟩
  · exact ge_round (i + 1) (by omega) (by omega) c_frs c_sub
  have hn2 : n ≤ 100 := by omega
  refine gp_start [] #[false, false, false, false, false, false, false, false, false, false, false, false, false, false, false, false, false, false, false, false, false, false, false, false, false, false] mixed rfl rfl c_qp ?_; intro hqp_
  refine gp_take 0 #[true, false, false, false, false, false, false, false, false, false, false, false, false, false, false, false, false, false, false, false, false, false, false, false, false, false] hqp_ rfl (by kernel_rfl) (yv_load tab_ok c_gok rfl rfl c_imp c_mem (fun _ => c_lds)) c_cl rfl rfl ?_
  refine gp_take 2 #[true, false, true, false, false, false, false, false, false, false, false, false, false, false, false, false, false, false, false, false, false, false, false, false, false, false] hqp_ rfl (by kernel_rfl) (yv_load tab_ok c_gok rfl rfl c_imp c_mem (fun _ => c_lds)) c_cl rfl rfl ?_
  refine gp_ev 1 #[true, true, true, false, false, false, false, false, false, false, false, false, false, false, false, false, false, false, false, false, false, false, false, false, false, false] rfl (by kernel_rfl) rfl rfl rfl (ev_callq rfl rfl ent47 rfl rfl rfl (fun W hW => ct_Hash c hc1 W) ⟨c_cl, ?_⟩)
  refine gp_ev 3 #[true, true, true, true, false, false, false, false, false, false, false, false, false, false, false, false, false, false, false, false, false, false, false, false, false, false] rfl (by kernel_rfl) rfl rfl rfl (ev_callq rfl rfl ent48 rfl rfl rfl (fun W hW => ct_HashR c W hc2) ⟨c_cl, ?_⟩)
  first | refine gp_take 4 #[true, true, true, true, true, false, false, false, false, false, false, false, false, false, false, false, false, false, false, false, false, false, false, false, false, false] hqp_ rfl (by kernel_rfl) ((yv_pure tab_ok c_gok rfl rfl c_allT).cast (v' := .bool true) (by simp)) c_cl rfl rfl ?_ | refine gp_take 4 #[true, true, true, true, true, false, false, false, false, false, false, false, false, false, false, false, false, false, false, false, false, false, false, false, false, false] hqp_ rfl (by kernel_rfl) (yv_eqS tab_ok eqs_ok c_gok rfl rfl rfl rfl c_allT rfl rfl rfl) c_cl rfl rfl ?_ | refine gp_take 4 #[true, true, true, true, true, false, false, false, false, false, false, false, false, false, false, false, false, false, false, false, false, false, false, false, false, false] hqp_ rfl (by kernel_rfl) (yv_pure tab_ok c_gok rfl rfl c_allT) c_cl rfl rfl ?_
  refine gp_take 5 #[true, true, true, true, true, true, false, false, false, false, false, false, false, false, false, false, false, false, false, false, false, false, false, false, false, false] hqp_ rfl (by kernel_rfl) (yv_pure tab_ok c_gok rfl rfl c_allT) c_cl rfl rfl ?_
  refine gp_take 6 #[true, true, true, true, true, true, true, false, false, false, false, false, false, false, false, false, false, false, false, false, false, false, false, false, false, false] hqp_ rfl (by kernel_rfl) (yv_load tab_ok c_gok rfl rfl c_imp c_mem (fun _ => c_lds)) c_cl rfl rfl ?_
  refine gp_take 7 #[true, true, true, true, true, true, true, true, false, false, false, false, false, false, false, false, false, false, false, false, false, false, false, false, false, false] hqp_ rfl (by kernel_rfl) (yv_pure tab_ok c_gok rfl rfl c_allT) c_cl rfl rfl ?_
  refine gp_take 9 #[true, true, true, true, true, true, true, true, false, true, false, false, false, false, false, false, false, false, false, false, false, false, false, false, false, false] hqp_ rfl (by kernel_rfl) (yv_load tab_ok c_gok rfl rfl c_imp c_mem (fun _ => c_lds)) c_cl rfl rfl ?_
  refine gp_take 10 #[true, true, true, true, true, true, true, true, false, true, true, false, false, false, false, false, false, false, false, false, false, false, false, false, false, false] hqp_ rfl (by kernel_rfl) (yv_pure tab_ok c_gok rfl rfl c_allT) c_cl rfl rfl ?_
  refine gp_evG 8 #[true, true, true, true, true, true, true, true, true, true, true, false, false, false, false, false, false, false, false, false, false, false, false, false, false, false] rfl (by kernel_rfl) rfl rfl rfl c_gok (ev_callq rfl rfl ent49 rfl rfl rfl (fun W hW => ct_Worker c k hc1 W) ⟨c_cl, ?_⟩)
  refine gp_evG 11 #[true, true, true, true, true, true, true, true, true, true, true, true, false, false, false, false, false, false, false, false, false, false, false, false, false, false] rfl (by kernel_rfl) rfl rfl rfl c_gok (ev_callq rfl rfl ent50 rfl rfl rfl (fun W hW => ct_WorkerR c k hk hc1 W) ⟨c_cl, ?_⟩)
  first | refine gp_take 12 #[true, true, true, true, true, true, true, true, true, true, true, true, true, false, false, false, false, false, false, false, false, false, false, false, false, false] hqp_ rfl (by kernel_rfl) ((yv_pure tab_ok c_gok rfl rfl c_allT).cast (v' := .bool true) (by simp)) c_cl rfl rfl ?_ | refine gp_take 12 #[true, true, true, true, true, true, true, true, true, true, true, true, true, false, false, false, false, false, false, false, false, false, false, false, false, false] hqp_ rfl (by kernel_rfl) (yv_eqS tab_ok eqs_ok c_gok rfl rfl rfl rfl c_allT rfl rfl rfl) c_cl rfl rfl ?_ | refine gp_take 12 #[true, true, true, true, true, true, true, true, true, true, true, true, true, false, false, false, false, false, false, false, false, false, false, false, false, false] hqp_ rfl (by kernel_rfl) (yv_pure tab_ok c_gok rfl rfl c_allT) c_cl rfl rfl ?_
  first | refine gp_take 13 #[true, true, true, true, true, true, true, true, true, true, true, true, true, true, false, false, false, false, false, false, false, false, false, false, false, false] hqp_ rfl (by kernel_rfl) (yv_and c_gok rfl rfl rfl c_imp c_imp2) c_cl rfl rfl ?_ | refine gp_take 13 #[true, true, true, true, true, true, true, true, true, true, true, true, true, true, false, false, false, false, false, false, false, false, false, false, false, false] hqp_ rfl (by kernel_rfl) (yv_or c_gok rfl rfl rfl c_imp c_imp2) c_cl rfl rfl ?_
  refine gp_take 14 #[true, true, true, true, true, true, true, true, true, true, true, true, true, true, true, false, false, false, false, false, false, false, false, false, false, false] hqp_ rfl (by kernel_rfl) (yv_pure tab_ok c_gok rfl rfl c_allT) c_cl rfl rfl ?_
  refine gp_take 15 #[true, true, true, true, true, true, true, true, true, true, true, true, true, true, true, true, false, false, false, false, false, false, false, false, false, false] hqp_ rfl (by kernel_rfl) (yv_pure tab_ok c_gok rfl rfl c_allT) c_cl rfl rfl ?_
  refine gp_take 16 #[true, true, true, true, true, true, true, true, true, true, true, true, true, true, true, true, true, false, false, false, false, false, false, false, false, false] hqp_ rfl (by kernel_rfl) (yv_pure tab_ok c_gok rfl rfl c_allT) c_cl rfl rfl ?_
  refine gp_take 17 #[true, true, true, true, true, true, true, true, true, true, true, true, true, true, true, true, true, true, false, false, false, false, false, false, false, false] hqp_ rfl (by kernel_rfl) (yv_pure tab_ok c_gok rfl rfl c_allT) c_cl rfl rfl ?_
  refine gp_take 19 #[true, true, true, true, true, true, true, true, true, true, true, true, true, true, true, true, true, true, false, true, false, false, false, false, false, false] hqp_ rfl (by kernel_rfl) (yv_pure tab_ok c_gok rfl rfl c_allT) c_cl rfl rfl ?_
  refine gp_take 20 #[true, true, true, true, true, true, true, true, true, true, true, true, true, true, true, true, true, true, false, true, true, false, false, false, false, false] hqp_ rfl (by kernel_rfl) (yv_pure tab_ok c_gok rfl rfl c_allT) c_cl rfl rfl ?_
  refine gp_take 21 #[true, true, true, true, true, true, true, true, true, true, true, true, true, true, true, true, true, true, false, true, true, true, false, false, false, false] hqp_ rfl (by kernel_rfl) (yv_pure tab_ok c_gok rfl rfl c_allT) c_cl rfl rfl ?_
  (refine gp_evG 18 #[true, true, true, true, true, true, true, true, true, true, true, true, true, true, true, true, true, true, true, true, true, true, false, false, false, false] rfl (by kernel_rfl) rfl rfl rfl c_gok (ev_callOw rfl rfl ent52 rfl rfl rfl (fun W hW => ct_Mine W l p n cap hn (hs.st hW) (by omega) hok1 v k) ?_); intro p_ c_ sp_ hw_; refine ⟨c_cl, ?_⟩)
  (refine gp_evG 22 #[true, true, true, true, true, true, true, true, true, true, true, true, true, true, true, true, true, true, true, true, true, true, true, false, false, false] rfl (by kernel_rfl) rfl rfl rfl c_gok (ev_callOw rfl rfl ent53 rfl rfl rfl (fun W hW => ct_MineR W l p n cap hn (hs.st hW) (by omega) hok1 v k hk) ?_); intro p_ c_ sp_ hw_; refine ⟨c_cl, ?_⟩)
  refine gp_evG 23 #[true, true, true, true, true, true, true, true, true, true, true, true, true, true, true, true, true, true, true, true, true, true, true, true, false, false] rfl (by kernel_rfl) rfl rfl rfl c_gok (ev_callq rfl rfl ent51 rfl rfl rfl (fun W hW => ct_SameCells W (mine l v k) (mine l v k) _ _ _ _ _ _ rfl rfl (slA_cat cell_length rfl hW c_oa (by assumption)) (slA_cat cell_length rfl hW c_oa (by assumption)) (by have := mine_le l v k; omega) (by have := mine_le l v k; omega)) ⟨c_cl, ?_⟩)
  first | refine gp_take 24 #[true, true, true, true, true, true, true, true, true, true, true, true, true, true, true, true, true, true, true, true, true, true, true, true, true, false] hqp_ rfl (by kernel_rfl) (yv_and c_gok rfl rfl rfl c_imp c_imp2) c_cl rfl rfl ?_ | refine gp_take 24 #[true, true, true, true, true, true, true, true, true, true, true, true, true, true, true, true, true, true, true, true, true, true, true, true, true, false] hqp_ rfl (by kernel_rfl) (yv_or c_gok rfl rfl rfl c_imp c_imp2) c_cl rfl rfl ?_
  refine gp_take 25 #[true, true, true, true, true, true, true, true, true, true, true, true, true, true, true, true, true, true, true, true, true, true, true, true, true, true] hqp_ rfl (by kernel_rfl) (yv_pure tab_ok c_gok rfl rfl c_allT) c_cl rfl rfl ?_
  refine gp_done (by kernel_rfl) ?_; clear hqp_
  repeat' first
    | (refine gl_gate ?_; first
      | refine gl_nil ?_
      | (refine gl_load0 ?_; refine gl_yv (yv_load tab_ok (gok_none rfl) rfl rfl (fun _ => rfl) c_mem (fun _ => c_lds)) rfl rfl ?_)
      | (refine gl_add0 ?_; refine gl_yv (yv_add tab_ok (gok_none rfl) rfl rfl rfl rfl (fun _ => allT_of rfl) (by intro _; omega)) rfl rfl ?_)
      | (refine gl_sub0 ?_; refine gl_yv (yv_sub tab_ok (gok_none rfl) rfl rfl rfl rfl (fun _ => allT_of rfl) (by intro _; omega)) rfl rfl ?_)
      | (refine gl_idx0 ?_; refine gl_yv (yv_idxC tab_ok (gok_none rfl) rfl rfl rfl rfl rfl (fun _ => rfl) (fun _ => rfl) c_bnd) rfl rfl ?_)
      | (refine gl_bld0 ?_; (refine gl_ev (ev_buildSlice tab_ok rfl rfl rfl rfl rfl rfl rfl rfl rfl rfl ?_) rfl rfl; intro g_ hg_))
      | (refine gl_mul0 ?_; refine gl_yv (yv_mul tab_ok (gok_none rfl) rfl rfl rfl rfl (fun _ => allT_of rfl) c_bnd) rfl rfl ?_)
      | (refine gl_pick0 ?_; first | refine gl_yv (yv_and (gok_none rfl) rfl rfl rfl (fun _ => rfl) c_imp2) rfl rfl ?_ | refine gl_yv (yv_or (gok_none rfl) rfl rfl rfl (fun _ => rfl) c_imp2) rfl rfl ?_)
      | (refine gl_idx0 ?_; refine gl_yv (yv_indexAddr tab_ok (gok_none rfl) rfl rfl rfl rfl rfl (fun _ => rfl) (fun _ => rfl) (by intro _; omega)) rfl rfl ?_)
      | (refine gl_addG ?_; refine gl_yv (yv_add tab_ok c_gok rfl rfl rfl rfl c_allT c_bnd) rfl rfl ?_)
      | (refine gl_subG ?_; refine gl_yv (yv_sub tab_ok c_gok rfl rfl rfl rfl c_allT c_bnd) rfl rfl ?_)
      | (refine gl_loadG ?_; refine gl_yv (yv_load tab_ok c_gok rfl rfl c_imp c_mem (fun _ => c_lds)) rfl rfl ?_)
      | (refine gl_pickG ?_; first | refine gl_yv (yv_and c_gok rfl rfl rfl c_imp c_imp2) rfl rfl ?_ | refine gl_yv (yv_or c_gok rfl rfl rfl c_imp c_imp2) rfl rfl ?_)
      | (refine gl_idxG ?_; refine gl_yv (yv_indexAddr tab_ok c_gok rfl rfl rfl rfl rfl c_imp c_imp c_bnd) rfl rfl ?_)
      | (refine gl_box0 ?_; first | (refine gl_box_agg rfl rfl rfl rfl rfl ?_; intro g_ hg_) | (refine gl_box_one rfl rfl rfl rfl rfl rfl ?_; intro g_ hg_) | (refine gl_box rfl rfl rfl rfl rfl ?_; intro g_ hg_))
      | (refine gl_alc0 ?_; (refine gl_alloc tab_ok rfl rfl rfl rfl rfl ?_; intro g_ hg_))
      | (refine gl_sto0 ?_; refine gl_store tab_ok rfl rfl rfl rfl rfl rfl rfl c_one rfl c_ku ?_)
      | (refine gl_any0 ?_; refine gl_pure tab_ok rfl rfl rfl rfl rfl rfl ?_)
      | (refine gl_any0 ?_; first | refine gl_yv (yv_shr tab_ok (gok_none rfl) rfl rfl rfl (fun _ => rfl) (fun _ => rfl) c_bnd) rfl rfl ?_ | refine gl_yv (yv_rem tab_ok (gok_none rfl) rfl rfl rfl (fun _ => rfl) (fun _ => rfl) c_bnd) rfl rfl ?_ | refine gl_yv (yv_indexS tab_ok (gok_none rfl) rfl rfl rfl rfl (fun _ => rfl) (fun _ => rfl) c_bnd) rfl rfl ?_ | refine gl_yv (yv_sliceH tab_ok (gok_none rfl) rfl rfl rfl rfl rfl (fun _ => rfl) (fun _ => rfl) c_bnd) rfl rfl ?_)
      | (refine gl_arr0 ?_; refine gl_yv (yv_buildA tab_ok (gok_none rfl) rfl rfl rfl rfl (fun _ => allT_of rfl) rfl) rfl rfl ?_)
      | (refine gl_eqS ?_; first | refine gl_yv (yv_eqS tab_ok eqs_ok c_gok rfl rfl rfl rfl c_allT rfl rfl rfl) rfl rfl ?_)
      | (refine gl_neS ?_; first | refine gl_yv (yv_neS tab_ok eqs_ok c_gok rfl rfl rfl rfl c_allT rfl rfl rfl) rfl rfl ?_)
      | (refine gl_anyG ?_; refine gl_yv (yv_pure tab_ok c_gok rfl rfl c_allT) rfl rfl ?_))
    | (refine gc_gate ?_; first
      | refine gc_seq ?_
      | refine gc_region ?_
      | refine gc_quietRo rfl mixed (by decide +kernel) ?_
      | refine gc_true rfl ?_
      | refine gc_false rfl ?_
      | (refine gc_cond rfl ?_ ?_ <;> intro h_ <;> have hd_ := h_ <;> (try simp only [bytes_beq, cell_beq, val_beq, stamp_beq, decide_eq_true_eq, decide_eq_false_iff_not, Bool.and_eq_true, Bool.or_eq_true, Bool.or_eq_false_iff, Bool.not_eq_true', Bool.not_eq_false', Bool.not_true, Bool.not_false, Bool.false_or, Bool.true_and, Bool.and_true, Bool.or_false, beq_iff_eq, bne_iff_ne, beq_eq_false_iff_ne, bne_eq_false_iff_eq, ne_eq, Bool.false_eq_true, reduceCtorEq] at hd_) <;> (try (exfalso; omega)))
      | refine gc_block ?_
      | refine gc_exit ?_
      | refine gc_ret ?_
      | refine gc_skip ?_
      | refine gc_label ?_)
    | (refine ge_gate ?_; first
      | ((with_reducible refine ge_gT ?_); first | with_reducible refine ge_then ?_ | with_reducible refine ge_then_exit ?_ | with_reducible refine ge_then_ret ?_)
      | ((with_reducible refine ge_gK ?_); first | with_reducible refine ge_block ?_ | refine ge_block_exit ?_ | refine ge_block_pass rfl ?_ | with_reducible refine ge_block_ret ?_)
      | ((with_reducible refine ge_gB ?_); first | refine ge_ret1 tab_ok rfl c_rvt ?_ | refine ge_end1 tab_ok rfl c_rvt ?_ | refine ge_ret2 tab_ok rfl c_rvt c_rvt ?_ | refine ge_ret_none rfl ?_ | refine ge_end_none rfl ?_))
    | (refine gq_gate ?_; first
      | refine gq_nil ?_
      | (refine gq_load0 ?_; refine gq_yv (yv_load tab_ok (gok_none rfl) rfl rfl (fun _ => rfl) c_mem (fun _ => c_lds)) rfl rfl ?_)
      | (refine gq_add0 ?_; refine gq_yv (yv_add tab_ok (gok_none rfl) rfl rfl rfl rfl (fun _ => allT_of rfl) (by intro _; omega)) rfl rfl ?_)
      | (refine gq_sub0 ?_; refine gq_yv (yv_sub tab_ok (gok_none rfl) rfl rfl rfl rfl (fun _ => allT_of rfl) (by intro _; omega)) rfl rfl ?_)
      | (refine gq_idx0 ?_; refine gq_yv (yv_idxC tab_ok (gok_none rfl) rfl rfl rfl rfl rfl (fun _ => rfl) (fun _ => rfl) c_bnd) rfl rfl ?_)
      | (refine gq_pick0 ?_; first | refine gq_yv (yv_and (gok_none rfl) rfl rfl rfl (fun _ => rfl) c_imp2) rfl rfl ?_ | refine gq_yv (yv_or (gok_none rfl) rfl rfl rfl (fun _ => rfl) c_imp2) rfl rfl ?_)
      | (refine gq_idx0 ?_; refine gq_yv (yv_indexAddr tab_ok (gok_none rfl) rfl rfl rfl rfl rfl (fun _ => rfl) (fun _ => rfl) (by intro _; omega)) rfl rfl ?_)
      | (refine gq_addG ?_; refine gq_yv (yv_add tab_ok c_gok rfl rfl rfl rfl c_allT c_bnd) rfl rfl ?_)
      | (refine gq_subG ?_; refine gq_yv (yv_sub tab_ok c_gok rfl rfl rfl rfl c_allT c_bnd) rfl rfl ?_)
      | (refine gq_loadG ?_; refine gq_yv (yv_load tab_ok c_gok rfl rfl c_imp c_mem (fun _ => c_lds)) rfl rfl ?_)
      | (refine gq_pickG ?_; first | refine gq_yv (yv_and c_gok rfl rfl rfl c_imp c_imp2) rfl rfl ?_ | refine gq_yv (yv_or c_gok rfl rfl rfl c_imp c_imp2) rfl rfl ?_)
      | (refine gq_idxG ?_; refine gq_yv (yv_indexAddr tab_ok c_gok rfl rfl rfl rfl rfl c_imp c_imp c_bnd) rfl rfl ?_)
      | (refine gq_any0 ?_; refine gq_pure tab_ok rfl rfl rfl rfl rfl rfl ?_)
      | (refine gq_any0 ?_; first | refine gq_yv (yv_shr tab_ok (gok_none rfl) rfl rfl rfl (fun _ => rfl) (fun _ => rfl) c_bnd) rfl rfl ?_ | refine gq_yv (yv_rem tab_ok (gok_none rfl) rfl rfl rfl (fun _ => rfl) (fun _ => rfl) c_bnd) rfl rfl ?_ | refine gq_yv (yv_indexS tab_ok (gok_none rfl) rfl rfl rfl rfl (fun _ => rfl) (fun _ => rfl) c_bnd) rfl rfl ?_ | refine gq_yv (yv_sliceH tab_ok (gok_none rfl) rfl rfl rfl rfl rfl (fun _ => rfl) (fun _ => rfl) c_bnd) rfl rfl ?_)
      | (refine gq_arr0 ?_; refine gq_yv (yv_buildA tab_ok (gok_none rfl) rfl rfl rfl rfl (fun _ => allT_of rfl) rfl) rfl rfl ?_)
      | (refine gq_eqS ?_; first | refine gq_yv (yv_eqS tab_ok eqs_ok c_gok rfl rfl rfl rfl c_allT rfl rfl rfl) rfl rfl ?_)
      | (refine gq_neS ?_; first | refine gq_yv (yv_neS tab_ok eqs_ok c_gok rfl rfl rfl rfl c_allT rfl rfl rfl) rfl rfl ?_)
      | (refine gq_anyG ?_; refine gq_yv (yv_pure tab_ok c_gok rfl rfl c_allT) rfl rfl ?_))
  intro W hW
  exact ⟨by simp, hW.below0⟩

theorem law_ShardTells (W : World) {b0 b1 b2 b3 : Nat} {v0 v1 v2 v3 : Value} (o0 : Value.okWide Try.prog W .any b0 25 v0) (o1 : Value.okWide Try.prog W .any b1 44 v1) (o2 : Value.okWide Try.prog W .any b2 3 v2) (o3 : Value.okWide Try.prog W .any b3 3 v3)
    (r0 : ∃ m, Rd tab W m 25 v0.cells.toList) (r1 : ∃ m, Rd tab W m 44 v1.cells.toList) (r2 : ∃ m, Rd tab W m 3 v2.cells.toList) (r3 : ∃ m, Rd tab W m 3 v3.cells.toList) : Calls Try.prog 7 #[v0, v1, v2, v3] W fun e w' => e = .returned (.bool true) ∧ Below W.heap.size W w' := by
  obtain ⟨cs, rfl⟩ := arg_struct tab_ok (t := 25) rfl o0
  rw [arg_one tab_ok (t := 44) rfl rfl o1] at r1
  rw [arg_one tab_ok (t := 3) rfl rfl o2] at r2
  rw [arg_one tab_ok (t := 3) rfl rfl o3] at r3
  obtain ⟨m0, r0⟩ := r0
  obtain ⟨m1, r1⟩ := r1
  obtain ⟨m2, r2⟩ := r2
  obtain ⟨m3, r3⟩ := r3
  obtain ⟨c, h0, hc⟩ := rdCell r0
  obtain ⟨p, n, cap, l, h1, hn, _, _, hs, hok⟩ := rdCells r1
  obtain ⟨x, h2, _⟩ := rd_i64 r2 rfl
  obtain ⟨y, h3, hy⟩ := rd_i64 r3 rfl
  cases h1
  cases h2
  cases h3
  have h0' : cs = c.l := by simpa [Value.cells] using h0
  subst h0'
  exact walk_ShardTells c hc l p n cap hn hok x y hy W hs

def cnt (l : List Cell) (j : Nat) (k : Int) : Nat := (l.filter fun c => decide (0 ≤ worker c k ∧ worker c k < j)).length
theorem cnt_le (l : List Cell) (j : Nat) (k : Int) : cnt l j k ≤ l.length := List.length_filter_le ..
theorem cnt_zero (l : List Cell) (k : Int) : cnt l 0 k = 0 := by
  unfold cnt
  rw [List.length_eq_zero_iff, List.filter_eq_nil_iff]
  intro c _
  simp only [decide_eq_true_eq]; omega
theorem cnt_succ (k : Int) (j : Nat) : ∀ l : List Cell, cnt l (j + 1) k = cnt l j k + (mine l j k).length
  | [] => by simp [cnt, mine]
  | c :: r => by
    have := cnt_succ k j r
    unfold cnt mine at *
    rw [List.filter_cons, List.filter_cons, List.filter_cons]
    generalize worker c k = x
    by_cases h1 : 0 ≤ x ∧ x < j
    · have h2 : 0 ≤ x ∧ x < ((j + 1 : Nat) : Int) := by omega
      have h3 : ¬ x = j := by omega
      rw [if_pos (by simpa using h2), if_pos (by simpa using h1), if_neg (by simpa using h3)]
      simp only [List.length_cons]
      omega
    · by_cases h3 : x = j
      · have h2 : 0 ≤ x ∧ x < ((j + 1 : Nat) : Int) := by omega
        rw [if_pos (by simpa using h2), if_neg (by simpa using h1), if_pos (by simpa using h3)]
        simp only [List.length_cons]
        omega
      · have h2 : ¬ (0 ≤ x ∧ x < ((j + 1 : Nat) : Int)) := by omega
        rw [if_neg (by simpa using h2), if_neg (by simpa using h1), if_neg (by simpa using h3)]
        exact this
theorem worker_range (c : Cell) (k : Int) (hk : 1 ≤ k) : 0 ≤ worker c k ∧ worker c k < k := by
  have h := hash_range c
  unfold worker
  rw [if_neg (by omega), Int.tmod_eq_emod_of_nonneg h.1]
  exact ⟨Int.emod_nonneg _ (by omega), Int.emod_lt_of_pos _ (by omega)⟩
theorem cnt_all (l : List Cell) (j : Nat) (k : Int) (hk : 1 ≤ k) (hj : (j : Int) = k) : cnt l j k = l.length := by
  unfold cnt
  rw [List.filter_eq_self.2 fun c _ => by
    have := worker_range c k hk
    rw [decide_eq_true_eq]; omega]
theorem mine_none (l : List Cell) (v k : Int) (hk : 1 ≤ k) (hv : v < 0 ∨ k ≤ v) : mine l v k = [] := by
  unfold mine
  rw [List.filter_eq_nil_iff]
  intro c _
  have := worker_range c k hk
  simp; omega
theorem ct_MineN (w : World) (l : List Cell) (p : Option Addr) (m cap : Nat) (hm : m = l.length) (hs : SlA w 3 p m (fun i => (l.getD i default).l)) (hl : m ≤ 1000000) (hb : ∀ c ∈ l, c.sheet.size ≤ 140737488351232) (v n : Int) (hk : 1 ≤ n) (hv : v < 0 ∨ n ≤ v) : Calls Try.prog 52 #[.slice p m cap, .int .i64 v, .int .i64 n] w (RetOw w 0 3 [] 25) := by
  have := ct_Mine w l p m cap hm hs hl hb v n
  rw [mine_none l v n hk hv] at this
  exact this

set_option maxHeartbeats 1000000 in
theorem walk_ShardAll (l : List Cell) (p : Option Addr) (n cap : Nat) (hn : n = l.length) (hok : ∀ x ∈ l, x.Ok) (k : Int) (hk : In64 k) (w : World) (hs : SlA w 3 p n (fun i => (l.getD i default).l)) :
    Calls Try.prog 8 #[.slice p n cap, .int .i64 k] w fun e w' => e = .returned (.bool true) ∧ Below w.heap.size w w' := by
  have hok1 : ∀ x ∈ l, x.sheet.size ≤ 140737488351232 := fun x hx => (hok x hx).1
  refine enter (args := [_, _]) (M := []) (K := []) Try.func8 rfl Try.ntmps8 rfl (St.refl _ _) ?_
  repeat' first
    | (refine gl_gate ?_; first
      | refine gl_nil ?_
      | (refine gl_load0 ?_; refine gl_yv (yv_load tab_ok (gok_none rfl) rfl rfl (fun _ => rfl) c_mem (fun _ => c_lds)) rfl rfl ?_)
      | (refine gl_add0 ?_; refine gl_yv (yv_add tab_ok (gok_none rfl) rfl rfl rfl rfl (fun _ => allT_of rfl) (by intro _; omega)) rfl rfl ?_)
      | (refine gl_sub0 ?_; refine gl_yv (yv_sub tab_ok (gok_none rfl) rfl rfl rfl rfl (fun _ => allT_of rfl) (by intro _; omega)) rfl rfl ?_)
      | (refine gl_idx0 ?_; refine gl_yv (yv_idxC tab_ok (gok_none rfl) rfl rfl rfl rfl rfl (fun _ => rfl) (fun _ => rfl) c_bnd) rfl rfl ?_)
      | (refine gl_bld0 ?_; (refine gl_ev (ev_buildSlice tab_ok rfl rfl rfl rfl rfl rfl rfl rfl rfl rfl ?_) rfl rfl; intro g_ hg_))
      | (refine gl_mul0 ?_; refine gl_yv (yv_mul tab_ok (gok_none rfl) rfl rfl rfl rfl (fun _ => allT_of rfl) c_bnd) rfl rfl ?_)
      | (refine gl_calv0 ?_; first | refine gl_yd (yd_call (gok_none rfl) rfl ent46 rfl rfl (fun _ => allT_of rfl) (fun _ W hW => ct_alive18 W)) rfl rfl ?_)
      | (refine gl_calvG ?_; first | refine gl_yd (yd_call c_gok rfl ent46 rfl rfl c_allT (fun _ W hW => ct_alive18 W)) rfl rfl ?_)
      | (refine gl_pick0 ?_; first | refine gl_yv (yv_and (gok_none rfl) rfl rfl rfl (fun _ => rfl) c_imp2) rfl rfl ?_ | refine gl_yv (yv_or (gok_none rfl) rfl rfl rfl (fun _ => rfl) c_imp2) rfl rfl ?_)
      | (refine gl_idx0 ?_; refine gl_yv (yv_indexAddr tab_ok (gok_none rfl) rfl rfl rfl rfl rfl (fun _ => rfl) (fun _ => rfl) (by intro _; omega)) rfl rfl ?_)
      | (refine gl_addG ?_; refine gl_yv (yv_add tab_ok c_gok rfl rfl rfl rfl c_allT c_bnd) rfl rfl ?_)
      | (refine gl_subG ?_; refine gl_yv (yv_sub tab_ok c_gok rfl rfl rfl rfl c_allT c_bnd) rfl rfl ?_)
      | (refine gl_loadG ?_; refine gl_yv (yv_load tab_ok c_gok rfl rfl c_imp c_mem (fun _ => c_lds)) rfl rfl ?_)
      | (refine gl_pickG ?_; first | refine gl_yv (yv_and c_gok rfl rfl rfl c_imp c_imp2) rfl rfl ?_ | refine gl_yv (yv_or c_gok rfl rfl rfl c_imp c_imp2) rfl rfl ?_)
      | (refine gl_idxG ?_; refine gl_yv (yv_indexAddr tab_ok c_gok rfl rfl rfl rfl rfl c_imp c_imp c_bnd) rfl rfl ?_)
      | (refine gl_box0 ?_; first | (refine gl_box_agg rfl rfl rfl rfl rfl ?_; intro g_ hg_) | (refine gl_box_one rfl rfl rfl rfl rfl rfl ?_; intro g_ hg_) | (refine gl_box rfl rfl rfl rfl rfl ?_; intro g_ hg_))
      | (refine gl_alc0 ?_; (refine gl_alloc tab_ok rfl rfl rfl rfl rfl ?_; intro g_ hg_))
      | (refine gl_sto0 ?_; refine gl_store tab_ok rfl rfl rfl rfl rfl rfl rfl c_one rfl c_ku ?_)
      | (refine gl_any0 ?_; refine gl_pure tab_ok rfl rfl rfl rfl rfl rfl ?_)
      | (refine gl_any0 ?_; first | refine gl_yv (yv_shr tab_ok (gok_none rfl) rfl rfl rfl (fun _ => rfl) (fun _ => rfl) c_bnd) rfl rfl ?_ | refine gl_yv (yv_rem tab_ok (gok_none rfl) rfl rfl rfl (fun _ => rfl) (fun _ => rfl) c_bnd) rfl rfl ?_ | refine gl_yv (yv_indexS tab_ok (gok_none rfl) rfl rfl rfl rfl (fun _ => rfl) (fun _ => rfl) c_bnd) rfl rfl ?_ | refine gl_yv (yv_sliceH tab_ok (gok_none rfl) rfl rfl rfl rfl rfl (fun _ => rfl) (fun _ => rfl) c_bnd) rfl rfl ?_)
      | (refine gl_arr0 ?_; refine gl_yv (yv_buildA tab_ok (gok_none rfl) rfl rfl rfl rfl (fun _ => allT_of rfl) rfl) rfl rfl ?_)
      | (refine gl_eqS ?_; first | refine gl_yv (yv_eqS tab_ok eqs_ok c_gok rfl rfl rfl rfl c_allT rfl rfl rfl) rfl rfl ?_)
      | (refine gl_neS ?_; first | refine gl_yv (yv_neS tab_ok eqs_ok c_gok rfl rfl rfl rfl c_allT rfl rfl rfl) rfl rfl ?_)
      | (refine gl_anyG ?_; refine gl_yv (yv_pure tab_ok c_gok rfl rfl c_allT) rfl rfl ?_))
    | (refine gc_gate ?_; first
      | refine gc_seq ?_
      | refine gc_region ?_
      | refine gc_quietRo rfl mixed (by decide +kernel) ?_
      | refine gc_true rfl ?_
      | refine gc_false rfl ?_
      | (refine gc_cond rfl ?_ ?_ <;> intro h_ <;> have hd_ := h_ <;> (try simp only [bytes_beq, cell_beq, val_beq, stamp_beq, decide_eq_true_eq, decide_eq_false_iff_not, Bool.and_eq_true, Bool.or_eq_true, Bool.or_eq_false_iff, Bool.not_eq_true', Bool.not_eq_false', Bool.not_true, Bool.not_false, Bool.false_or, Bool.true_and, Bool.and_true, Bool.or_false, beq_iff_eq, bne_iff_ne, beq_eq_false_iff_ne, bne_eq_false_iff_eq, ne_eq, Bool.false_eq_true, reduceCtorEq] at hd_) <;> (try (exfalso; omega)))
      | refine gc_block ?_
      | refine gc_exit ?_
      | refine gc_ret ?_
      | refine gc_skip ?_
      | refine gc_label ?_)
    | (refine ge_gate ?_; first
      | ((with_reducible refine ge_gT ?_); first | with_reducible refine ge_then ?_ | with_reducible refine ge_then_exit ?_ | with_reducible refine ge_then_ret ?_)
      | ((with_reducible refine ge_gK ?_); first | with_reducible refine ge_block ?_ | refine ge_block_exit ?_ | refine ge_block_pass rfl ?_ | with_reducible refine ge_block_ret ?_)
      | ((with_reducible refine ge_gB ?_); first | refine ge_ret1 tab_ok rfl c_rvt ?_ | refine ge_end1 tab_ok rfl c_rvt ?_ | refine ge_ret2 tab_ok rfl c_rvt c_rvt ?_ | refine ge_ret_none rfl ?_ | refine ge_end_none rfl ?_))
    | (refine gq_gate ?_; first
      | refine gq_nil ?_
      | (refine gq_load0 ?_; refine gq_yv (yv_load tab_ok (gok_none rfl) rfl rfl (fun _ => rfl) c_mem (fun _ => c_lds)) rfl rfl ?_)
      | (refine gq_add0 ?_; refine gq_yv (yv_add tab_ok (gok_none rfl) rfl rfl rfl rfl (fun _ => allT_of rfl) (by intro _; omega)) rfl rfl ?_)
      | (refine gq_sub0 ?_; refine gq_yv (yv_sub tab_ok (gok_none rfl) rfl rfl rfl rfl (fun _ => allT_of rfl) (by intro _; omega)) rfl rfl ?_)
      | (refine gq_idx0 ?_; refine gq_yv (yv_idxC tab_ok (gok_none rfl) rfl rfl rfl rfl rfl (fun _ => rfl) (fun _ => rfl) c_bnd) rfl rfl ?_)
      | (refine gq_calv0 ?_; first | refine gq_yd (yd_call (gok_none rfl) rfl ent46 rfl rfl (fun _ => allT_of rfl) (fun _ W hW => ct_alive18 W)) rfl rfl ?_)
      | (refine gq_calvG ?_; first | refine gq_yd (yd_call c_gok rfl ent46 rfl rfl c_allT (fun _ W hW => ct_alive18 W)) rfl rfl ?_)
      | (refine gq_pick0 ?_; first | refine gq_yv (yv_and (gok_none rfl) rfl rfl rfl (fun _ => rfl) c_imp2) rfl rfl ?_ | refine gq_yv (yv_or (gok_none rfl) rfl rfl rfl (fun _ => rfl) c_imp2) rfl rfl ?_)
      | (refine gq_idx0 ?_; refine gq_yv (yv_indexAddr tab_ok (gok_none rfl) rfl rfl rfl rfl rfl (fun _ => rfl) (fun _ => rfl) (by intro _; omega)) rfl rfl ?_)
      | (refine gq_addG ?_; refine gq_yv (yv_add tab_ok c_gok rfl rfl rfl rfl c_allT c_bnd) rfl rfl ?_)
      | (refine gq_subG ?_; refine gq_yv (yv_sub tab_ok c_gok rfl rfl rfl rfl c_allT c_bnd) rfl rfl ?_)
      | (refine gq_loadG ?_; refine gq_yv (yv_load tab_ok c_gok rfl rfl c_imp c_mem (fun _ => c_lds)) rfl rfl ?_)
      | (refine gq_pickG ?_; first | refine gq_yv (yv_and c_gok rfl rfl rfl c_imp c_imp2) rfl rfl ?_ | refine gq_yv (yv_or c_gok rfl rfl rfl c_imp c_imp2) rfl rfl ?_)
      | (refine gq_idxG ?_; refine gq_yv (yv_indexAddr tab_ok c_gok rfl rfl rfl rfl rfl c_imp c_imp c_bnd) rfl rfl ?_)
      | (refine gq_any0 ?_; refine gq_pure tab_ok rfl rfl rfl rfl rfl rfl ?_)
      | (refine gq_any0 ?_; first | refine gq_yv (yv_shr tab_ok (gok_none rfl) rfl rfl rfl (fun _ => rfl) (fun _ => rfl) c_bnd) rfl rfl ?_ | refine gq_yv (yv_rem tab_ok (gok_none rfl) rfl rfl rfl (fun _ => rfl) (fun _ => rfl) c_bnd) rfl rfl ?_ | refine gq_yv (yv_indexS tab_ok (gok_none rfl) rfl rfl rfl rfl (fun _ => rfl) (fun _ => rfl) c_bnd) rfl rfl ?_ | refine gq_yv (yv_sliceH tab_ok (gok_none rfl) rfl rfl rfl rfl rfl (fun _ => rfl) (fun _ => rfl) c_bnd) rfl rfl ?_)
      | (refine gq_arr0 ?_; refine gq_yv (yv_buildA tab_ok (gok_none rfl) rfl rfl rfl rfl (fun _ => allT_of rfl) rfl) rfl rfl ?_)
      | (refine gq_eqS ?_; first | refine gq_yv (yv_eqS tab_ok eqs_ok c_gok rfl rfl rfl rfl c_allT rfl rfl rfl) rfl rfl ?_)
      | (refine gq_neS ?_; first | refine gq_yv (yv_neS tab_ok eqs_ok c_gok rfl rfl rfl rfl c_allT rfl rfl rfl) rfl rfl ?_)
      | (refine gq_anyG ?_; refine gq_yv (yv_pure tab_ok c_gok rfl rfl c_allT) rfl rfl ?_))
  · intro W hW
    exact ⟨rfl, hW.below0⟩
  refine gc_loop (α := Nat) (fun i => [(0, true, .slice p n cap), (1, true, .int .i64 k), (6, true, .int .i64 (cnt l i k : Int)), (7, true, .int .i64 (i : Int))]) (fun _ => []) (fun i => (i : Int) ≤ k) (fun i => (k - i).toNat) 0 (by rw [cnt_zero]; exact c_frs) c_sub (by omega) ?_
  intro j hj
  have hle1 := cnt_le l (j + 1) k
  have hsu := cnt_succ k j l
  have hml := mine_le l j k
  repeat' first
    | refine gl_yv ((yv_pure tab_ok (gok_none rfl) rfl rfl (fun _ => allT_of rfl)).cast (v' := .bool true) (by have := cnt_all l j k (by omega) (by omega); simp; omega)) rfl rfl ?_
    | (refine gl_evG c_gok (ev_callOw rfl rfl ent52 rfl rfl rfl (fun W hW => ct_MineN W l p n cap hn (hs.st hW) (by omega) hok1 _ k (by omega) (by omega)) ?_) rfl rfl; intro p_ c_ sp_ hw_)
    | (refine gl_gate ?_; first
      | refine gl_nil ?_
      | (refine gl_load0 ?_; refine gl_yv (yv_load tab_ok (gok_none rfl) rfl rfl (fun _ => rfl) c_mem (fun _ => c_lds)) rfl rfl ?_)
      | (refine gl_add0 ?_; refine gl_yv (yv_add tab_ok (gok_none rfl) rfl rfl rfl rfl (fun _ => allT_of rfl) (by intro _; omega)) rfl rfl ?_)
      | (refine gl_sub0 ?_; refine gl_yv (yv_sub tab_ok (gok_none rfl) rfl rfl rfl rfl (fun _ => allT_of rfl) (by intro _; omega)) rfl rfl ?_)
      | (refine gl_idx0 ?_; refine gl_yv (yv_idxC tab_ok (gok_none rfl) rfl rfl rfl rfl rfl (fun _ => rfl) (fun _ => rfl) c_bnd) rfl rfl ?_)
      | (refine gl_any0 ?_; (refine gl_ev (ev_callOw rfl rfl ent52 rfl rfl rfl (fun W hW => ct_Mine W l p n cap hn (hs.st hW) (by omega) hok1 j k) ?_) rfl rfl; intro p_ c_ sp_ hw_))
      | (refine gl_bld0 ?_; (refine gl_ev (ev_buildSlice tab_ok rfl rfl rfl rfl rfl rfl rfl rfl rfl rfl ?_) rfl rfl; intro g_ hg_))
      | (refine gl_mul0 ?_; refine gl_yv (yv_mul tab_ok (gok_none rfl) rfl rfl rfl rfl (fun _ => allT_of rfl) c_bnd) rfl rfl ?_)
      | (refine gl_pick0 ?_; first | refine gl_yv (yv_and (gok_none rfl) rfl rfl rfl (fun _ => rfl) c_imp2) rfl rfl ?_ | refine gl_yv (yv_or (gok_none rfl) rfl rfl rfl (fun _ => rfl) c_imp2) rfl rfl ?_)
      | (refine gl_idx0 ?_; refine gl_yv (yv_indexAddr tab_ok (gok_none rfl) rfl rfl rfl rfl rfl (fun _ => rfl) (fun _ => rfl) (by intro _; omega)) rfl rfl ?_)
      | (refine gl_addG ?_; refine gl_yv (yv_add tab_ok c_gok rfl rfl rfl rfl c_allT c_bnd) rfl rfl ?_)
      | (refine gl_subG ?_; refine gl_yv (yv_sub tab_ok c_gok rfl rfl rfl rfl c_allT c_bnd) rfl rfl ?_)
      | (refine gl_loadG ?_; refine gl_yv (yv_load tab_ok c_gok rfl rfl c_imp c_mem (fun _ => c_lds)) rfl rfl ?_)
      | (refine gl_pickG ?_; first | refine gl_yv (yv_and c_gok rfl rfl rfl c_imp c_imp2) rfl rfl ?_ | refine gl_yv (yv_or c_gok rfl rfl rfl c_imp c_imp2) rfl rfl ?_)
      | (refine gl_idxG ?_; refine gl_yv (yv_indexAddr tab_ok c_gok rfl rfl rfl rfl rfl c_imp c_imp c_bnd) rfl rfl ?_)
      | (refine gl_box0 ?_; first | (refine gl_box_agg rfl rfl rfl rfl rfl ?_; intro g_ hg_) | (refine gl_box_one rfl rfl rfl rfl rfl rfl ?_; intro g_ hg_) | (refine gl_box rfl rfl rfl rfl rfl ?_; intro g_ hg_))
      | (refine gl_alc0 ?_; (refine gl_alloc tab_ok rfl rfl rfl rfl rfl ?_; intro g_ hg_))
      | (refine gl_sto0 ?_; refine gl_store tab_ok rfl rfl rfl rfl rfl rfl rfl c_one rfl c_ku ?_)
      | (refine gl_any0 ?_; refine gl_pure tab_ok rfl rfl rfl rfl rfl rfl ?_)
      | (refine gl_any0 ?_; first | refine gl_yv (yv_shr tab_ok (gok_none rfl) rfl rfl rfl (fun _ => rfl) (fun _ => rfl) c_bnd) rfl rfl ?_ | refine gl_yv (yv_rem tab_ok (gok_none rfl) rfl rfl rfl (fun _ => rfl) (fun _ => rfl) c_bnd) rfl rfl ?_ | refine gl_yv (yv_indexS tab_ok (gok_none rfl) rfl rfl rfl rfl (fun _ => rfl) (fun _ => rfl) c_bnd) rfl rfl ?_ | refine gl_yv (yv_sliceH tab_ok (gok_none rfl) rfl rfl rfl rfl rfl (fun _ => rfl) (fun _ => rfl) c_bnd) rfl rfl ?_)
      | (refine gl_arr0 ?_; refine gl_yv (yv_buildA tab_ok (gok_none rfl) rfl rfl rfl rfl (fun _ => allT_of rfl) rfl) rfl rfl ?_)
      | (refine gl_eqS ?_; first | refine gl_yv (yv_eqS tab_ok eqs_ok c_gok rfl rfl rfl rfl c_allT rfl rfl rfl) rfl rfl ?_)
      | (refine gl_neS ?_; first | refine gl_yv (yv_neS tab_ok eqs_ok c_gok rfl rfl rfl rfl c_allT rfl rfl rfl) rfl rfl ?_)
      | (refine gl_anyG ?_; refine gl_yv (yv_pure tab_ok c_gok rfl rfl c_allT) rfl rfl ?_))
    | (refine gc_gate ?_; first
      | refine gc_seq ?_
      | refine gc_region ?_
      | refine gc_quietRo rfl mixed (by decide +kernel) ?_
      | refine gc_true rfl ?_
      | refine gc_false rfl ?_
      | (refine gc_cond rfl ?_ ?_ <;> intro h_ <;> have hd_ := h_ <;> (try simp only [bytes_beq, cell_beq, val_beq, stamp_beq, decide_eq_true_eq, decide_eq_false_iff_not, Bool.and_eq_true, Bool.or_eq_true, Bool.or_eq_false_iff, Bool.not_eq_true', Bool.not_eq_false', Bool.not_true, Bool.not_false, Bool.false_or, Bool.true_and, Bool.and_true, Bool.or_false, beq_iff_eq, bne_iff_ne, beq_eq_false_iff_ne, bne_eq_false_iff_eq, ne_eq, Bool.false_eq_true, reduceCtorEq] at hd_) <;> (try (exfalso; omega)))
      | refine gc_block ?_
      | refine gc_exit ?_
      | refine gc_ret ?_
      | refine gc_skip ?_
      | refine gc_label ?_)
    | (refine ge_gate ?_; first
      | ((with_reducible refine ge_gT ?_); first | with_reducible refine ge_then ?_ | with_reducible refine ge_then_exit ?_ | with_reducible refine ge_then_ret ?_)
      | ((with_reducible refine ge_gK ?_); first | with_reducible refine ge_block ?_ | refine ge_block_exit ?_ | refine ge_block_pass rfl ?_ | with_reducible refine ge_block_ret ?_)
      | ((with_reducible refine ge_gB ?_); first | refine ge_ret1 tab_ok rfl c_rvt ?_ | refine ge_end1 tab_ok rfl c_rvt ?_ | refine ge_ret2 tab_ok rfl c_rvt c_rvt ?_ | refine ge_ret_none rfl ?_ | refine ge_end_none rfl ?_))
    | (refine gq_gate ?_; first
      | refine gq_nil ?_
      | (refine gq_load0 ?_; refine gq_yv (yv_load tab_ok (gok_none rfl) rfl rfl (fun _ => rfl) c_mem (fun _ => c_lds)) rfl rfl ?_)
      | (refine gq_add0 ?_; refine gq_yv (yv_add tab_ok (gok_none rfl) rfl rfl rfl rfl (fun _ => allT_of rfl) (by intro _; omega)) rfl rfl ?_)
      | (refine gq_sub0 ?_; refine gq_yv (yv_sub tab_ok (gok_none rfl) rfl rfl rfl rfl (fun _ => allT_of rfl) (by intro _; omega)) rfl rfl ?_)
      | (refine gq_idx0 ?_; refine gq_yv (yv_idxC tab_ok (gok_none rfl) rfl rfl rfl rfl rfl (fun _ => rfl) (fun _ => rfl) c_bnd) rfl rfl ?_)
      | (refine gq_pick0 ?_; first | refine gq_yv (yv_and (gok_none rfl) rfl rfl rfl (fun _ => rfl) c_imp2) rfl rfl ?_ | refine gq_yv (yv_or (gok_none rfl) rfl rfl rfl (fun _ => rfl) c_imp2) rfl rfl ?_)
      | (refine gq_idx0 ?_; refine gq_yv (yv_indexAddr tab_ok (gok_none rfl) rfl rfl rfl rfl rfl (fun _ => rfl) (fun _ => rfl) (by intro _; omega)) rfl rfl ?_)
      | (refine gq_addG ?_; refine gq_yv (yv_add tab_ok c_gok rfl rfl rfl rfl c_allT c_bnd) rfl rfl ?_)
      | (refine gq_subG ?_; refine gq_yv (yv_sub tab_ok c_gok rfl rfl rfl rfl c_allT c_bnd) rfl rfl ?_)
      | (refine gq_loadG ?_; refine gq_yv (yv_load tab_ok c_gok rfl rfl c_imp c_mem (fun _ => c_lds)) rfl rfl ?_)
      | (refine gq_pickG ?_; first | refine gq_yv (yv_and c_gok rfl rfl rfl c_imp c_imp2) rfl rfl ?_ | refine gq_yv (yv_or c_gok rfl rfl rfl c_imp c_imp2) rfl rfl ?_)
      | (refine gq_idxG ?_; refine gq_yv (yv_indexAddr tab_ok c_gok rfl rfl rfl rfl rfl c_imp c_imp c_bnd) rfl rfl ?_)
      | (refine gq_any0 ?_; refine gq_pure tab_ok rfl rfl rfl rfl rfl rfl ?_)
      | (refine gq_any0 ?_; first | refine gq_yv (yv_shr tab_ok (gok_none rfl) rfl rfl rfl (fun _ => rfl) (fun _ => rfl) c_bnd) rfl rfl ?_ | refine gq_yv (yv_rem tab_ok (gok_none rfl) rfl rfl rfl (fun _ => rfl) (fun _ => rfl) c_bnd) rfl rfl ?_ | refine gq_yv (yv_indexS tab_ok (gok_none rfl) rfl rfl rfl rfl (fun _ => rfl) (fun _ => rfl) c_bnd) rfl rfl ?_ | refine gq_yv (yv_sliceH tab_ok (gok_none rfl) rfl rfl rfl rfl rfl (fun _ => rfl) (fun _ => rfl) c_bnd) rfl rfl ?_)
      | (refine gq_arr0 ?_; refine gq_yv (yv_buildA tab_ok (gok_none rfl) rfl rfl rfl rfl (fun _ => allT_of rfl) rfl) rfl rfl ?_)
      | (refine gq_eqS ?_; first | refine gq_yv (yv_eqS tab_ok eqs_ok c_gok rfl rfl rfl rfl c_allT rfl rfl rfl) rfl rfl ?_)
      | (refine gq_neS ?_; first | refine gq_yv (yv_neS tab_ok eqs_ok c_gok rfl rfl rfl rfl c_allT rfl rfl rfl) rfl rfl ?_)
      | (refine gq_anyG ?_; refine gq_yv (yv_pure tab_ok c_gok rfl rfl c_allT) rfl rfl ?_))
  rotate_left
  · intro W hW
    exact ⟨rfl, (hW.drop (List.nil_sublist _)).below⟩
  refine gc_loop (α := Nat) (fun i => [(0, true, .slice p n cap), (1, true, .int .i64 k), (6, true, .int .i64 (cnt l (j + 1) k : Int)), (7, true, .int .i64 (j : Int)), (8, true, .slice (p_.map ad) (mine l j k).length c_), (9, true, .int .i64 (i : Int))]) (fun _ => ow p_ true (cat Cell.l (mine l j k) ++ sp_) 25) (fun i => i ≤ (mine l j k).length) (fun i => (mine l j k).length - i) 0 (by rw [hsu]; exact c_frs) c_sub (Nat.zero_le _) ?_
  intro i hi
  have hmem : i < (mine l j k).length → (mine l j k).getD i default ∈ l ∧ worker ((mine l j k).getD i default) k = j := fun h => by
    have := getD_mem (mine l j k) i h
    generalize (mine l j k).getD i default = x at this ⊢
    unfold mine at this
    rw [List.mem_filter] at this
    exact ⟨this.1, by simpa using this.2⟩
  repeat' first
    | refine gl_yv (yv_idxO tab_ok hw_ c_gok rfl rfl rfl rfl rfl rfl c_imp c_imp c_bnd) rfl rfl ?_
    | refine gl_yv (yv_ldO tab_ok c_oa hw_ c_gok rfl rfl c_imp (fun hq_ => lds_cat cell_length (by omega) rfl rfl rfl) c_bnd) rfl rfl ?_
    | (refine gl_gate ?_; first
      | refine gl_nil ?_
      | (refine gl_load0 ?_; refine gl_yv (yv_load tab_ok (gok_none rfl) rfl rfl (fun _ => rfl) c_mem (fun _ => c_lds)) rfl rfl ?_)
      | (refine gl_add0 ?_; refine gl_yv (yv_add tab_ok (gok_none rfl) rfl rfl rfl rfl (fun _ => allT_of rfl) (by intro _; omega)) rfl rfl ?_)
      | (refine gl_sub0 ?_; refine gl_yv (yv_sub tab_ok (gok_none rfl) rfl rfl rfl rfl (fun _ => allT_of rfl) (by intro _; omega)) rfl rfl ?_)
      | (refine gl_idx0 ?_; refine gl_yv (yv_idxC tab_ok (gok_none rfl) rfl rfl rfl rfl rfl (fun _ => rfl) (fun _ => rfl) c_bnd) rfl rfl ?_)
      | (refine gl_bld0 ?_; (refine gl_ev (ev_buildSlice tab_ok rfl rfl rfl rfl rfl rfl rfl rfl rfl rfl ?_) rfl rfl; intro g_ hg_))
      | (refine gl_mul0 ?_; refine gl_yv (yv_mul tab_ok (gok_none rfl) rfl rfl rfl rfl (fun _ => allT_of rfl) c_bnd) rfl rfl ?_)
      | (refine gl_calv0 ?_; first | refine gl_yd (yd_call (gok_none rfl) rfl ent49 rfl rfl (fun _ => allT_of rfl) (fun _ W hW => ct_Worker ((mine l j k).getD i default) k (hok1 _ (hmem (by omega)).1) W)) rfl rfl ?_ | refine gl_yd (yd_call (gok_none rfl) rfl ent54 rfl rfl (fun _ => allT_of rfl) (fun _ W hW => ct_Has W l ((mine l j k).getD i default) p n cap hn (hs.st hW) (by omega))) rfl rfl ?_)
      | (refine gl_calvG ?_; first | refine gl_yd (yd_call c_gok rfl ent49 rfl rfl c_allT (fun _ W hW => ct_Worker ((mine l j k).getD i default) k (hok1 _ (hmem (by omega)).1) W)) rfl rfl ?_ | refine gl_yd (yd_call c_gok rfl ent54 rfl rfl c_allT (fun _ W hW => ct_Has W l ((mine l j k).getD i default) p n cap hn (hs.st hW) (by omega))) rfl rfl ?_)
      | (refine gl_pick0 ?_; first | refine gl_yv (yv_and (gok_none rfl) rfl rfl rfl (fun _ => rfl) c_imp2) rfl rfl ?_ | refine gl_yv (yv_or (gok_none rfl) rfl rfl rfl (fun _ => rfl) c_imp2) rfl rfl ?_)
      | (refine gl_idx0 ?_; refine gl_yv (yv_indexAddr tab_ok (gok_none rfl) rfl rfl rfl rfl rfl (fun _ => rfl) (fun _ => rfl) (by intro _; omega)) rfl rfl ?_)
      | (refine gl_addG ?_; refine gl_yv (yv_add tab_ok c_gok rfl rfl rfl rfl c_allT c_bnd) rfl rfl ?_)
      | (refine gl_subG ?_; refine gl_yv (yv_sub tab_ok c_gok rfl rfl rfl rfl c_allT c_bnd) rfl rfl ?_)
      | (refine gl_loadG ?_; refine gl_yv (yv_load tab_ok c_gok rfl rfl c_imp c_mem (fun _ => c_lds)) rfl rfl ?_)
      | (refine gl_pickG ?_; first | refine gl_yv (yv_and c_gok rfl rfl rfl c_imp c_imp2) rfl rfl ?_ | refine gl_yv (yv_or c_gok rfl rfl rfl c_imp c_imp2) rfl rfl ?_)
      | (refine gl_idxG ?_; refine gl_yv (yv_indexAddr tab_ok c_gok rfl rfl rfl rfl rfl c_imp c_imp c_bnd) rfl rfl ?_)
      | (refine gl_box0 ?_; first | (refine gl_box_agg rfl rfl rfl rfl rfl ?_; intro g_ hg_) | (refine gl_box_one rfl rfl rfl rfl rfl rfl ?_; intro g_ hg_) | (refine gl_box rfl rfl rfl rfl rfl ?_; intro g_ hg_))
      | (refine gl_alc0 ?_; (refine gl_alloc tab_ok rfl rfl rfl rfl rfl ?_; intro g_ hg_))
      | (refine gl_sto0 ?_; refine gl_store tab_ok rfl rfl rfl rfl rfl rfl rfl c_one rfl c_ku ?_)
      | (refine gl_any0 ?_; refine gl_pure tab_ok rfl rfl rfl rfl rfl rfl ?_)
      | (refine gl_any0 ?_; first | refine gl_yv (yv_shr tab_ok (gok_none rfl) rfl rfl rfl (fun _ => rfl) (fun _ => rfl) c_bnd) rfl rfl ?_ | refine gl_yv (yv_rem tab_ok (gok_none rfl) rfl rfl rfl (fun _ => rfl) (fun _ => rfl) c_bnd) rfl rfl ?_ | refine gl_yv (yv_indexS tab_ok (gok_none rfl) rfl rfl rfl rfl (fun _ => rfl) (fun _ => rfl) c_bnd) rfl rfl ?_ | refine gl_yv (yv_sliceH tab_ok (gok_none rfl) rfl rfl rfl rfl rfl (fun _ => rfl) (fun _ => rfl) c_bnd) rfl rfl ?_)
      | (refine gl_arr0 ?_; refine gl_yv (yv_buildA tab_ok (gok_none rfl) rfl rfl rfl rfl (fun _ => allT_of rfl) rfl) rfl rfl ?_)
      | (refine gl_eqS ?_; first | refine gl_yv (yv_eqS tab_ok eqs_ok c_gok rfl rfl rfl rfl c_allT rfl rfl rfl) rfl rfl ?_)
      | (refine gl_neS ?_; first | refine gl_yv (yv_neS tab_ok eqs_ok c_gok rfl rfl rfl rfl c_allT rfl rfl rfl) rfl rfl ?_)
      | (refine gl_anyG ?_; refine gl_yv (yv_pure tab_ok c_gok rfl rfl c_allT) rfl rfl ?_))
    | (refine gc_gate ?_; first
      | refine gc_seq ?_
      | refine gc_region ?_
      | refine gc_quietRo rfl mixed (by decide +kernel) ?_
      | refine gc_true rfl ?_
      | refine gc_false rfl ?_
      | (refine gc_cond rfl ?_ ?_ <;> intro h_ <;> have hd_ := h_ <;> (try simp only [bytes_beq, cell_beq, val_beq, stamp_beq, decide_eq_true_eq, decide_eq_false_iff_not, Bool.and_eq_true, Bool.or_eq_true, Bool.or_eq_false_iff, Bool.not_eq_true', Bool.not_eq_false', Bool.not_true, Bool.not_false, Bool.false_or, Bool.true_and, Bool.and_true, Bool.or_false, beq_iff_eq, bne_iff_ne, beq_eq_false_iff_ne, bne_eq_false_iff_eq, ne_eq, Bool.false_eq_true, reduceCtorEq] at hd_) <;> (try (exfalso; omega)))
      | refine gc_block ?_
      | refine gc_exit ?_
      | refine gc_ret ?_
      | refine gc_skip ?_
      | refine gc_label ?_)
    | (refine ge_gate ?_; first
      | ((with_reducible refine ge_gT ?_); first | with_reducible refine ge_then ?_ | with_reducible refine ge_then_exit ?_ | with_reducible refine ge_then_ret ?_)
      | ((with_reducible refine ge_gK ?_); first | with_reducible refine ge_block ?_ | refine ge_block_exit ?_ | refine ge_block_pass rfl ?_ | with_reducible refine ge_block_ret ?_)
      | ((with_reducible refine ge_gB ?_); first | refine ge_ret1 tab_ok rfl c_rvt ?_ | refine ge_end1 tab_ok rfl c_rvt ?_ | refine ge_ret2 tab_ok rfl c_rvt c_rvt ?_ | refine ge_ret_none rfl ?_ | refine ge_end_none rfl ?_))
    | (refine gq_gate ?_; first
      | refine gq_nil ?_
      | (refine gq_load0 ?_; refine gq_yv (yv_load tab_ok (gok_none rfl) rfl rfl (fun _ => rfl) c_mem (fun _ => c_lds)) rfl rfl ?_)
      | (refine gq_add0 ?_; refine gq_yv (yv_add tab_ok (gok_none rfl) rfl rfl rfl rfl (fun _ => allT_of rfl) (by intro _; omega)) rfl rfl ?_)
      | (refine gq_sub0 ?_; refine gq_yv (yv_sub tab_ok (gok_none rfl) rfl rfl rfl rfl (fun _ => allT_of rfl) (by intro _; omega)) rfl rfl ?_)
      | (refine gq_idx0 ?_; refine gq_yv (yv_idxC tab_ok (gok_none rfl) rfl rfl rfl rfl rfl (fun _ => rfl) (fun _ => rfl) c_bnd) rfl rfl ?_)
      | (refine gq_calv0 ?_; first | refine gq_yd (yd_call (gok_none rfl) rfl ent49 rfl rfl (fun _ => allT_of rfl) (fun _ W hW => ct_Worker ((mine l j k).getD i default) k (hok1 _ (hmem (by omega)).1) W)) rfl rfl ?_ | refine gq_yd (yd_call (gok_none rfl) rfl ent54 rfl rfl (fun _ => allT_of rfl) (fun _ W hW => ct_Has W l ((mine l j k).getD i default) p n cap hn (hs.st hW) (by omega))) rfl rfl ?_)
      | (refine gq_calvG ?_; first | refine gq_yd (yd_call c_gok rfl ent49 rfl rfl c_allT (fun _ W hW => ct_Worker ((mine l j k).getD i default) k (hok1 _ (hmem (by omega)).1) W)) rfl rfl ?_ | refine gq_yd (yd_call c_gok rfl ent54 rfl rfl c_allT (fun _ W hW => ct_Has W l ((mine l j k).getD i default) p n cap hn (hs.st hW) (by omega))) rfl rfl ?_)
      | (refine gq_pick0 ?_; first | refine gq_yv (yv_and (gok_none rfl) rfl rfl rfl (fun _ => rfl) c_imp2) rfl rfl ?_ | refine gq_yv (yv_or (gok_none rfl) rfl rfl rfl (fun _ => rfl) c_imp2) rfl rfl ?_)
      | (refine gq_idx0 ?_; refine gq_yv (yv_indexAddr tab_ok (gok_none rfl) rfl rfl rfl rfl rfl (fun _ => rfl) (fun _ => rfl) (by intro _; omega)) rfl rfl ?_)
      | (refine gq_addG ?_; refine gq_yv (yv_add tab_ok c_gok rfl rfl rfl rfl c_allT c_bnd) rfl rfl ?_)
      | (refine gq_subG ?_; refine gq_yv (yv_sub tab_ok c_gok rfl rfl rfl rfl c_allT c_bnd) rfl rfl ?_)
      | (refine gq_loadG ?_; refine gq_yv (yv_load tab_ok c_gok rfl rfl c_imp c_mem (fun _ => c_lds)) rfl rfl ?_)
      | (refine gq_pickG ?_; first | refine gq_yv (yv_and c_gok rfl rfl rfl c_imp c_imp2) rfl rfl ?_ | refine gq_yv (yv_or c_gok rfl rfl rfl c_imp c_imp2) rfl rfl ?_)
      | (refine gq_idxG ?_; refine gq_yv (yv_indexAddr tab_ok c_gok rfl rfl rfl rfl rfl c_imp c_imp c_bnd) rfl rfl ?_)
      | (refine gq_any0 ?_; refine gq_pure tab_ok rfl rfl rfl rfl rfl rfl ?_)
      | (refine gq_any0 ?_; first | refine gq_yv (yv_shr tab_ok (gok_none rfl) rfl rfl rfl (fun _ => rfl) (fun _ => rfl) c_bnd) rfl rfl ?_ | refine gq_yv (yv_rem tab_ok (gok_none rfl) rfl rfl rfl (fun _ => rfl) (fun _ => rfl) c_bnd) rfl rfl ?_ | refine gq_yv (yv_indexS tab_ok (gok_none rfl) rfl rfl rfl rfl (fun _ => rfl) (fun _ => rfl) c_bnd) rfl rfl ?_ | refine gq_yv (yv_sliceH tab_ok (gok_none rfl) rfl rfl rfl rfl rfl (fun _ => rfl) (fun _ => rfl) c_bnd) rfl rfl ?_)
      | (refine gq_arr0 ?_; refine gq_yv (yv_buildA tab_ok (gok_none rfl) rfl rfl rfl rfl (fun _ => allT_of rfl) rfl) rfl rfl ?_)
      | (refine gq_eqS ?_; first | refine gq_yv (yv_eqS tab_ok eqs_ok c_gok rfl rfl rfl rfl c_allT rfl rfl rfl) rfl rfl ?_)
      | (refine gq_neS ?_; first | refine gq_yv (yv_neS tab_ok eqs_ok c_gok rfl rfl rfl rfl c_allT rfl rfl rfl) rfl rfl ?_)
      | (refine gq_anyG ?_; refine gq_yv (yv_pure tab_ok c_gok rfl rfl c_allT) rfl rfl ?_))
  · intro W hW
    exfalso
    obtain ⟨h1, h2⟩ := hmem (by omega)
    rcases hd_ with h | h
    · exact h h2
    · exact h h1
  · exact ge_round (i + 1) (by omega) (by omega) c_frs c_sub
  · exact ge_round (j + 1) (by omega) (by omega) c_frs c_sub

theorem law_ShardAll (W : World) {b0 b1 : Nat} {v0 v1 : Value} (o0 : Value.okWide Try.prog W .any b0 44 v0) (o1 : Value.okWide Try.prog W .any b1 3 v1)
    (r0 : ∃ m, Rd tab W m 44 v0.cells.toList) (r1 : ∃ m, Rd tab W m 3 v1.cells.toList) : Calls Try.prog 8 #[v0, v1] W fun e w' => e = .returned (.bool true) ∧ Below W.heap.size W w' := by
  rw [arg_one tab_ok (t := 44) rfl rfl o0] at r0
  rw [arg_one tab_ok (t := 3) rfl rfl o1] at r1
  obtain ⟨m0, r0⟩ := r0
  obtain ⟨m1, r1⟩ := r1
  obtain ⟨p, n, cap, l, h1, hn, _, _, hs, hok⟩ := rdCells r0
  obtain ⟨y, h3, hy⟩ := rd_i64 r1 rfl
  cases h1
  cases h3
  exact walk_ShardAll l p n cap hn hok y hy W hs
end Go.Proofs.Ytkgjfcjciigcgaa
