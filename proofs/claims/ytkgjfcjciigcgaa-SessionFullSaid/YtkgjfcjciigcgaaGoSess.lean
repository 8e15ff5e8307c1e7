/-
  The session of a user to whom nothing but empty replies is told: Len, Tell, Take, snap, Watch: what each does to it.
-/
import Derived.Test.YtkgjfcjciigcgaaGoTreeA
import Derived.Test.YtkgjfcjciigcgaaSlMod
namespace Go.Proofs.Ytkgjfcjciigcgaa
open Go.Proofs.Ytkgjfcjciigcgaa.Sl Go.RowKit
set_option linter.unusedVariables false
set_option linter.unusedSimpArgs false
set_option maxRecDepth 100000

/-- What a session keeps: whether it watches, whether it is behind, the range's ends, and the replies that wait (kind and version). -/
structure SS where
  wt : Bool
  bh : Bool
  a : Cell
  b : Cell
  l : List (Int × Int)
def rep (x : Int × Int) : List Value := [.int .i64 x.1, .int .i64 x.2, .int .i64 0, .slice none 0 0]
def SS.cells (s : SS) (q : Option Nat) (c : Nat) : List Value := [.bool s.wt, .bool s.bh, .string s.a.sheet, .int .i64 s.a.col, .int .i64 s.a.row, .string s.b.sheet, .int .i64 s.b.col, .int .i64 s.b.row, .slice none 0 0, .slice (q.map ad) s.l.length c]
def SS.K (s : SS) (g : Nat) (q : Option Nat) (c : Nat) (sp : List Value) (K2 : Kl) : Kl := (g, true, .cells (s.cells q c).toArray 59 (0, 0)) :: (ow q true (cat rep s.l ++ sp) 65 ++ K2)
theorem perm3 {α : Type} (A : List α) (a b z : α) : (A ++ [a, b, z]).Perm ((z :: (A ++ [])) ++ [a, b]) := by
  rw [List.append_nil, show A ++ [a, b, z] = (A ++ [a, b]) ++ [z] by simp]
  exact List.perm_append_comm
theorem perm4 {α : Type} (a b c d : α) : [a, b, c, d].Perm ([d, a] ++ [b, c]) := by
  rw [show [a, b, c, d] = [a, b, c] ++ [d] by simp]
  exact List.perm_append_comm
theorem ct_CloneNil (w : World) : Calls Try.prog 147 #[.slice none 0 0] w fun e w' => e = .returned (.slice none 0 0) ∧ Bl w w' := by
  refine enter (args := [_]) (M := []) (K := []) Try.func147 rfl Try.ntmps147 rfl (St.refl _ _) ?_
  repeat' first
    | (refine gl_gate ?_; first
      | refine gl_nil ?_
      | (refine gl_load0 ?_; refine gl_yv (yv_load tab_ok (gok_none rfl) rfl rfl (fun _ => rfl) c_mem (fun _ => c_lds)) rfl rfl ?_)
      | (refine gl_add0 ?_; refine gl_yv (yv_add tab_ok (gok_none rfl) rfl rfl rfl rfl (fun _ => allT_of rfl) (by intro _; omega)) rfl rfl ?_)
      | (refine gl_sub0 ?_; refine gl_yv (yv_sub tab_ok (gok_none rfl) rfl rfl rfl rfl (fun _ => allT_of rfl) (by intro _; omega)) rfl rfl ?_)
      | (refine gl_idx0 ?_; refine gl_yv (yv_idxC tab_ok (gok_none rfl) rfl rfl rfl rfl rfl (fun _ => rfl) (fun _ => rfl) c_bnd) rfl rfl ?_)
      | (refine gl_bld0 ?_; (refine gl_ev (ev_buildSlice tab_ok rfl rfl rfl rfl rfl rfl rfl rfl rfl rfl ?_) rfl rfl; intro g_ hg_))
      | (refine gl_mul0 ?_; refine gl_yv (yv_mul tab_ok (gok_none rfl) rfl rfl rfl rfl (fun _ => allT_of rfl) c_bnd) rfl rfl ?_)
      | (refine gl_pick0 ?_; first | refine gl_yv (yv_and (gok_none rfl) rfl rfl rfl (fun _ => rfl) c_imp2) rfl rfl ?_ | refine gl_yv (yv_or (gok_none rfl) rfl rfl rfl (fun _ => rfl) c_imp2) rfl rfl ?_)
      | (refine gl_idx0 ?_; refine gl_yv (yv_indexAddr tab_ok (gok_none rfl) rfl rfl rfl rfl rfl (fun _ => rfl) (fun _ => rfl) (by intro _; omega)) rfl rfl ?_)
      | (refine gl_addG ?_; refine gl_yv (yv_add tab_ok c_gok rfl rfl rfl rfl c_allT c_bnd) rfl rfl ?_)
      | (refine gl_subG ?_; refine gl_yv (yv_sub tab_ok c_gok rfl rfl rfl rfl c_allT c_bnd) rfl rfl ?_)
      | (refine gl_loadG ?_; refine gl_yv (yv_load tab_ok c_gok rfl rfl c_imp c_mem (fun _ => c_lds)) rfl rfl ?_)
      | (refine gl_pickG ?_; first | refine gl_yv (yv_and c_gok rfl rfl rfl c_imp c_imp2) rfl rfl ?_ | refine gl_yv (yv_or c_gok rfl rfl rfl c_imp c_imp2) rfl rfl ?_)
      | (refine gl_idxG ?_; refine gl_yv (yv_indexAddr tab_ok c_gok rfl rfl rfl rfl rfl c_imp c_imp c_bnd) rfl rfl ?_)
      | (refine gl_box0 ?_; first | (refine gl_box_agg rfl rfl rfl rfl rfl ?_; intro g_ hg_) | (refine gl_box_one rfl rfl rfl rfl rfl rfl ?_; intro g_ hg_) | (refine gl_box rfl rfl rfl rfl rfl ?_; intro g_ hg_))
      | (refine gl_alc0 ?_; (refine gl_alloc tab_ok rfl rfl rfl rfl rfl ?_; intro g_ hg_))
      | (refine gl_sto0 ?_; refine gl_store tab_ok rfl rfl rfl rfl rfl rfl rfl c_one rfl c_ku ?_)
      | (refine gl_any0 ?_; refine gl_pure tab_ok rfl rfl rfl rfl rfl rfl ?_)
      | (refine gl_any0 ?_; first | refine gl_yv (yv_shr tab_ok (gok_none rfl) rfl rfl rfl (fun _ => rfl) (fun _ => rfl) c_bnd) rfl rfl ?_ | refine gl_yv (yv_rem tab_ok (gok_none rfl) rfl rfl rfl (fun _ => rfl) (fun _ => rfl) c_bnd) rfl rfl ?_ | refine gl_yv (yv_indexS tab_ok (gok_none rfl) rfl rfl rfl rfl (fun _ => rfl) (fun _ => rfl) c_bnd) rfl rfl ?_ | refine gl_yv (yv_sliceH tab_ok (gok_none rfl) rfl rfl rfl rfl rfl (fun _ => rfl) (fun _ => rfl) c_bnd) rfl rfl ?_)
      | (refine gl_arr0 ?_; refine gl_yv (yv_buildA tab_ok (gok_none rfl) rfl rfl rfl rfl (fun _ => allT_of rfl) rfl) rfl rfl ?_)
      | (refine gl_eqS ?_; first | refine gl_yv (yv_eqS tab_ok eqs_ok c_gok rfl rfl rfl rfl c_allT rfl rfl rfl) rfl rfl ?_)
      | (refine gl_neS ?_; first | refine gl_yv (yv_neS tab_ok eqs_ok c_gok rfl rfl rfl rfl c_allT rfl rfl rfl) rfl rfl ?_)
      | (refine gl_anyG ?_; first | refine gl_yv (yv_pure tab_ok c_gok rfl rfl c_allT) rfl rfl ?_ | refine gl_yv (yv_indexS tab_ok c_gok rfl rfl rfl rfl c_imp c_imp (by intro hq_; (try simp only [Bool.and_eq_true, Bool.not_eq_true', Bool.not_eq_false', Bool.or_eq_false_iff, Bool.or_eq_true, decide_eq_true_eq, decide_eq_false_iff_not, Bool.true_and, Bool.and_true] at hq_); omega)) rfl rfl ?_ | refine gl_yv (yv_indexS (i := 0) tab_ok c_gok rfl rfl rfl rfl c_imp c_imp (by intro hq_; (try simp only [Bool.and_eq_true, Bool.not_eq_true', Bool.not_eq_false', Bool.or_eq_false_iff, Bool.or_eq_true, decide_eq_true_eq, decide_eq_false_iff_not, Bool.true_and, Bool.and_true] at hq_); omega)) rfl rfl ?_))
    | (refine gc_gate ?_; first
      | refine gc_seq ?_
      | refine gc_region ?_
      | refine gc_quietRo rfl mixed (by decide +kernel) ?_
      | refine gc_true rfl ?_
      | refine gc_false rfl ?_
      | (refine gc_cond rfl ?_ ?_ <;> intro h_ <;> have hd_ := h_ <;> (try simp only [bytes_beq, cell_beq, val_beq, stamp_beq, decide_eq_true_eq, decide_eq_false_iff_not, Bool.and_eq_true, Bool.or_eq_true, Bool.or_eq_false_iff, Bool.not_eq_true', Bool.not_eq_false', Bool.not_true, Bool.not_false, Bool.false_or, Bool.true_and, Bool.and_true, Bool.or_false, beq_iff_eq, bne_iff_ne, beq_eq_false_iff_ne, bne_eq_false_iff_eq, ne_eq, Bool.false_eq_true, reduceCtorEq] at hd_) <;> (try (exfalso; omega)))
      | refine gc_block ?_
      | refine gc_exit ?_
      | refine gc_ret ?_
      | refine gc_skip ?_
      | refine gc_label ?_)
    | (refine ge_gate ?_; first
      | ((with_reducible refine ge_gT ?_); first | with_reducible refine ge_then ?_ | with_reducible refine ge_then_exit ?_ | with_reducible refine ge_then_ret ?_)
      | ((with_reducible refine ge_gK ?_); first | with_reducible refine ge_block ?_ | refine ge_block_exit ?_ | refine ge_block_pass rfl ?_ | with_reducible refine ge_block_ret ?_)
      | ((with_reducible refine ge_gB ?_); first | refine ge_ret1 tab_ok rfl c_rvt ?_ | refine ge_end1 tab_ok rfl c_rvt ?_ | refine ge_ret2 tab_ok rfl c_rvt c_rvt ?_ | refine ge_ret_none rfl ?_ | refine ge_end_none rfl ?_))
    | (refine gq_gate ?_; first
      | refine gq_nil ?_
      | (refine gq_load0 ?_; refine gq_yv (yv_load tab_ok (gok_none rfl) rfl rfl (fun _ => rfl) c_mem (fun _ => c_lds)) rfl rfl ?_)
      | (refine gq_add0 ?_; refine gq_yv (yv_add tab_ok (gok_none rfl) rfl rfl rfl rfl (fun _ => allT_of rfl) (by intro _; omega)) rfl rfl ?_)
      | (refine gq_sub0 ?_; refine gq_yv (yv_sub tab_ok (gok_none rfl) rfl rfl rfl rfl (fun _ => allT_of rfl) (by intro _; omega)) rfl rfl ?_)
      | (refine gq_idx0 ?_; refine gq_yv (yv_idxC tab_ok (gok_none rfl) rfl rfl rfl rfl rfl (fun _ => rfl) (fun _ => rfl) c_bnd) rfl rfl ?_)
      | (refine gq_pick0 ?_; first | refine gq_yv (yv_and (gok_none rfl) rfl rfl rfl (fun _ => rfl) c_imp2) rfl rfl ?_ | refine gq_yv (yv_or (gok_none rfl) rfl rfl rfl (fun _ => rfl) c_imp2) rfl rfl ?_)
      | (refine gq_idx0 ?_; refine gq_yv (yv_indexAddr tab_ok (gok_none rfl) rfl rfl rfl rfl rfl (fun _ => rfl) (fun _ => rfl) (by intro _; omega)) rfl rfl ?_)
      | (refine gq_addG ?_; refine gq_yv (yv_add tab_ok c_gok rfl rfl rfl rfl c_allT c_bnd) rfl rfl ?_)
      | (refine gq_subG ?_; refine gq_yv (yv_sub tab_ok c_gok rfl rfl rfl rfl c_allT c_bnd) rfl rfl ?_)
      | (refine gq_loadG ?_; refine gq_yv (yv_load tab_ok c_gok rfl rfl c_imp c_mem (fun _ => c_lds)) rfl rfl ?_)
      | (refine gq_pickG ?_; first | refine gq_yv (yv_and c_gok rfl rfl rfl c_imp c_imp2) rfl rfl ?_ | refine gq_yv (yv_or c_gok rfl rfl rfl c_imp c_imp2) rfl rfl ?_)
      | (refine gq_idxG ?_; refine gq_yv (yv_indexAddr tab_ok c_gok rfl rfl rfl rfl rfl c_imp c_imp c_bnd) rfl rfl ?_)
      | (refine gq_any0 ?_; refine gq_pure tab_ok rfl rfl rfl rfl rfl rfl ?_)
      | (refine gq_any0 ?_; first | refine gq_yv (yv_shr tab_ok (gok_none rfl) rfl rfl rfl (fun _ => rfl) (fun _ => rfl) c_bnd) rfl rfl ?_ | refine gq_yv (yv_rem tab_ok (gok_none rfl) rfl rfl rfl (fun _ => rfl) (fun _ => rfl) c_bnd) rfl rfl ?_ | refine gq_yv (yv_indexS tab_ok (gok_none rfl) rfl rfl rfl rfl (fun _ => rfl) (fun _ => rfl) c_bnd) rfl rfl ?_ | refine gq_yv (yv_sliceH tab_ok (gok_none rfl) rfl rfl rfl rfl rfl (fun _ => rfl) (fun _ => rfl) c_bnd) rfl rfl ?_)
      | (refine gq_arr0 ?_; refine gq_yv (yv_buildA tab_ok (gok_none rfl) rfl rfl rfl rfl (fun _ => allT_of rfl) rfl) rfl rfl ?_)
      | (refine gq_eqS ?_; first | refine gq_yv (yv_eqS tab_ok eqs_ok c_gok rfl rfl rfl rfl c_allT rfl rfl rfl) rfl rfl ?_)
      | (refine gq_neS ?_; first | refine gq_yv (yv_neS tab_ok eqs_ok c_gok rfl rfl rfl rfl c_allT rfl rfl rfl) rfl rfl ?_)
      | (refine gq_anyG ?_; first | refine gq_yv (yv_pure tab_ok c_gok rfl rfl c_allT) rfl rfl ?_ | refine gq_yv (yv_indexS tab_ok c_gok rfl rfl rfl rfl c_imp c_imp (by intro hq_; (try simp only [Bool.and_eq_true, Bool.not_eq_true', Bool.not_eq_false', Bool.or_eq_false_iff, Bool.or_eq_true, decide_eq_true_eq, decide_eq_false_iff_not, Bool.true_and, Bool.and_true] at hq_); omega)) rfl rfl ?_ | refine gq_yv (yv_indexS (i := 0) tab_ok c_gok rfl rfl rfl rfl c_imp c_imp (by intro hq_; (try simp only [Bool.and_eq_true, Bool.not_eq_true', Bool.not_eq_false', Bool.or_eq_false_iff, Bool.or_eq_true, decide_eq_true_eq, decide_eq_false_iff_not, Bool.true_and, Bool.and_true] at hq_); omega)) rfl rfl ?_))
  intro W hW
  exact ⟨rfl, hW.below0⟩
theorem ct_SeeNil (a b : Cell) (w : World) : Calls Try.prog 103 #[.agg (a.l ++ b.l).toArray, .slice none 0 0] w fun e w' => e = .returned (.slice none 0 0) ∧ Bl w w' := by
  refine enter (args := [_, _]) (M := []) (K := []) Try.func103 rfl Try.ntmps103 rfl (St.refl _ _) ?_
  repeat' first
    | (refine gl_gate ?_; first
      | refine gl_nil ?_
      | (refine gl_load0 ?_; refine gl_yv (yv_load tab_ok (gok_none rfl) rfl rfl (fun _ => rfl) c_mem (fun _ => c_lds)) rfl rfl ?_)
      | (refine gl_add0 ?_; refine gl_yv (yv_add tab_ok (gok_none rfl) rfl rfl rfl rfl (fun _ => allT_of rfl) (by intro _; omega)) rfl rfl ?_)
      | (refine gl_sub0 ?_; refine gl_yv (yv_sub tab_ok (gok_none rfl) rfl rfl rfl rfl (fun _ => allT_of rfl) (by intro _; omega)) rfl rfl ?_)
      | (refine gl_idx0 ?_; refine gl_yv (yv_idxC tab_ok (gok_none rfl) rfl rfl rfl rfl rfl (fun _ => rfl) (fun _ => rfl) c_bnd) rfl rfl ?_)
      | (refine gl_bld0 ?_; (refine gl_ev (ev_buildSlice tab_ok rfl rfl rfl rfl rfl rfl rfl rfl rfl rfl ?_) rfl rfl; intro g_ hg_))
      | (refine gl_mul0 ?_; refine gl_yv (yv_mul tab_ok (gok_none rfl) rfl rfl rfl rfl (fun _ => allT_of rfl) c_bnd) rfl rfl ?_)
      | (refine gl_pick0 ?_; first | refine gl_yv (yv_and (gok_none rfl) rfl rfl rfl (fun _ => rfl) c_imp2) rfl rfl ?_ | refine gl_yv (yv_or (gok_none rfl) rfl rfl rfl (fun _ => rfl) c_imp2) rfl rfl ?_)
      | (refine gl_idx0 ?_; refine gl_yv (yv_indexAddr tab_ok (gok_none rfl) rfl rfl rfl rfl rfl (fun _ => rfl) (fun _ => rfl) (by intro _; omega)) rfl rfl ?_)
      | (refine gl_addG ?_; refine gl_yv (yv_add tab_ok c_gok rfl rfl rfl rfl c_allT c_bnd) rfl rfl ?_)
      | (refine gl_subG ?_; refine gl_yv (yv_sub tab_ok c_gok rfl rfl rfl rfl c_allT c_bnd) rfl rfl ?_)
      | (refine gl_loadG ?_; refine gl_yv (yv_load tab_ok c_gok rfl rfl c_imp c_mem (fun _ => c_lds)) rfl rfl ?_)
      | (refine gl_pickG ?_; first | refine gl_yv (yv_and c_gok rfl rfl rfl c_imp c_imp2) rfl rfl ?_ | refine gl_yv (yv_or c_gok rfl rfl rfl c_imp c_imp2) rfl rfl ?_)
      | (refine gl_idxG ?_; refine gl_yv (yv_indexAddr tab_ok c_gok rfl rfl rfl rfl rfl c_imp c_imp c_bnd) rfl rfl ?_)
      | (refine gl_box0 ?_; first | (refine gl_box_agg rfl rfl rfl rfl rfl ?_; intro g_ hg_) | (refine gl_box_one rfl rfl rfl rfl rfl rfl ?_; intro g_ hg_) | (refine gl_box rfl rfl rfl rfl rfl ?_; intro g_ hg_))
      | (refine gl_alc0 ?_; (refine gl_alloc tab_ok rfl rfl rfl rfl rfl ?_; intro g_ hg_))
      | (refine gl_sto0 ?_; refine gl_store tab_ok rfl rfl rfl rfl rfl rfl rfl c_one rfl c_ku ?_)
      | (refine gl_any0 ?_; refine gl_pure tab_ok rfl rfl rfl rfl rfl rfl ?_)
      | (refine gl_any0 ?_; first | refine gl_yv (yv_shr tab_ok (gok_none rfl) rfl rfl rfl (fun _ => rfl) (fun _ => rfl) c_bnd) rfl rfl ?_ | refine gl_yv (yv_rem tab_ok (gok_none rfl) rfl rfl rfl (fun _ => rfl) (fun _ => rfl) c_bnd) rfl rfl ?_ | refine gl_yv (yv_indexS tab_ok (gok_none rfl) rfl rfl rfl rfl (fun _ => rfl) (fun _ => rfl) c_bnd) rfl rfl ?_ | refine gl_yv (yv_sliceH tab_ok (gok_none rfl) rfl rfl rfl rfl rfl (fun _ => rfl) (fun _ => rfl) c_bnd) rfl rfl ?_)
      | (refine gl_arr0 ?_; refine gl_yv (yv_buildA tab_ok (gok_none rfl) rfl rfl rfl rfl (fun _ => allT_of rfl) rfl) rfl rfl ?_)
      | (refine gl_eqS ?_; first | refine gl_yv (yv_eqS tab_ok eqs_ok c_gok rfl rfl rfl rfl c_allT rfl rfl rfl) rfl rfl ?_)
      | (refine gl_neS ?_; first | refine gl_yv (yv_neS tab_ok eqs_ok c_gok rfl rfl rfl rfl c_allT rfl rfl rfl) rfl rfl ?_)
      | (refine gl_anyG ?_; first | refine gl_yv (yv_pure tab_ok c_gok rfl rfl c_allT) rfl rfl ?_ | refine gl_yv (yv_indexS tab_ok c_gok rfl rfl rfl rfl c_imp c_imp (by intro hq_; (try simp only [Bool.and_eq_true, Bool.not_eq_true', Bool.not_eq_false', Bool.or_eq_false_iff, Bool.or_eq_true, decide_eq_true_eq, decide_eq_false_iff_not, Bool.true_and, Bool.and_true] at hq_); omega)) rfl rfl ?_ | refine gl_yv (yv_indexS (i := 0) tab_ok c_gok rfl rfl rfl rfl c_imp c_imp (by intro hq_; (try simp only [Bool.and_eq_true, Bool.not_eq_true', Bool.not_eq_false', Bool.or_eq_false_iff, Bool.or_eq_true, decide_eq_true_eq, decide_eq_false_iff_not, Bool.true_and, Bool.and_true] at hq_); omega)) rfl rfl ?_))
    | (refine gc_gate ?_; first
      | refine gc_seq ?_
      | refine gc_region ?_
      | refine gc_quietRo rfl mixed (by decide +kernel) ?_
      | refine gc_true rfl ?_
      | refine gc_false rfl ?_
      | (refine gc_cond rfl ?_ ?_ <;> intro h_ <;> have hd_ := h_ <;> (try simp only [bytes_beq, cell_beq, val_beq, stamp_beq, decide_eq_true_eq, decide_eq_false_iff_not, Bool.and_eq_true, Bool.or_eq_true, Bool.or_eq_false_iff, Bool.not_eq_true', Bool.not_eq_false', Bool.not_true, Bool.not_false, Bool.false_or, Bool.true_and, Bool.and_true, Bool.or_false, beq_iff_eq, bne_iff_ne, beq_eq_false_iff_ne, bne_eq_false_iff_eq, ne_eq, Bool.false_eq_true, reduceCtorEq] at hd_) <;> (try (exfalso; omega)))
      | refine gc_block ?_
      | refine gc_exit ?_
      | refine gc_ret ?_
      | refine gc_skip ?_
      | refine gc_label ?_)
    | (refine ge_gate ?_; first
      | ((with_reducible refine ge_gT ?_); first | with_reducible refine ge_then ?_ | with_reducible refine ge_then_exit ?_ | with_reducible refine ge_then_ret ?_)
      | ((with_reducible refine ge_gK ?_); first | with_reducible refine ge_block ?_ | refine ge_block_exit ?_ | refine ge_block_pass rfl ?_ | with_reducible refine ge_block_ret ?_)
      | ((with_reducible refine ge_gB ?_); first | refine ge_ret1 tab_ok rfl c_rvt ?_ | refine ge_end1 tab_ok rfl c_rvt ?_ | refine ge_ret2 tab_ok rfl c_rvt c_rvt ?_ | refine ge_ret_none rfl ?_ | refine ge_end_none rfl ?_))
    | (refine gq_gate ?_; first
      | refine gq_nil ?_
      | (refine gq_load0 ?_; refine gq_yv (yv_load tab_ok (gok_none rfl) rfl rfl (fun _ => rfl) c_mem (fun _ => c_lds)) rfl rfl ?_)
      | (refine gq_add0 ?_; refine gq_yv (yv_add tab_ok (gok_none rfl) rfl rfl rfl rfl (fun _ => allT_of rfl) (by intro _; omega)) rfl rfl ?_)
      | (refine gq_sub0 ?_; refine gq_yv (yv_sub tab_ok (gok_none rfl) rfl rfl rfl rfl (fun _ => allT_of rfl) (by intro _; omega)) rfl rfl ?_)
      | (refine gq_idx0 ?_; refine gq_yv (yv_idxC tab_ok (gok_none rfl) rfl rfl rfl rfl rfl (fun _ => rfl) (fun _ => rfl) c_bnd) rfl rfl ?_)
      | (refine gq_pick0 ?_; first | refine gq_yv (yv_and (gok_none rfl) rfl rfl rfl (fun _ => rfl) c_imp2) rfl rfl ?_ | refine gq_yv (yv_or (gok_none rfl) rfl rfl rfl (fun _ => rfl) c_imp2) rfl rfl ?_)
      | (refine gq_idx0 ?_; refine gq_yv (yv_indexAddr tab_ok (gok_none rfl) rfl rfl rfl rfl rfl (fun _ => rfl) (fun _ => rfl) (by intro _; omega)) rfl rfl ?_)
      | (refine gq_addG ?_; refine gq_yv (yv_add tab_ok c_gok rfl rfl rfl rfl c_allT c_bnd) rfl rfl ?_)
      | (refine gq_subG ?_; refine gq_yv (yv_sub tab_ok c_gok rfl rfl rfl rfl c_allT c_bnd) rfl rfl ?_)
      | (refine gq_loadG ?_; refine gq_yv (yv_load tab_ok c_gok rfl rfl c_imp c_mem (fun _ => c_lds)) rfl rfl ?_)
      | (refine gq_pickG ?_; first | refine gq_yv (yv_and c_gok rfl rfl rfl c_imp c_imp2) rfl rfl ?_ | refine gq_yv (yv_or c_gok rfl rfl rfl c_imp c_imp2) rfl rfl ?_)
      | (refine gq_idxG ?_; refine gq_yv (yv_indexAddr tab_ok c_gok rfl rfl rfl rfl rfl c_imp c_imp c_bnd) rfl rfl ?_)
      | (refine gq_any0 ?_; refine gq_pure tab_ok rfl rfl rfl rfl rfl rfl ?_)
      | (refine gq_any0 ?_; first | refine gq_yv (yv_shr tab_ok (gok_none rfl) rfl rfl rfl (fun _ => rfl) (fun _ => rfl) c_bnd) rfl rfl ?_ | refine gq_yv (yv_rem tab_ok (gok_none rfl) rfl rfl rfl (fun _ => rfl) (fun _ => rfl) c_bnd) rfl rfl ?_ | refine gq_yv (yv_indexS tab_ok (gok_none rfl) rfl rfl rfl rfl (fun _ => rfl) (fun _ => rfl) c_bnd) rfl rfl ?_ | refine gq_yv (yv_sliceH tab_ok (gok_none rfl) rfl rfl rfl rfl rfl (fun _ => rfl) (fun _ => rfl) c_bnd) rfl rfl ?_)
      | (refine gq_arr0 ?_; refine gq_yv (yv_buildA tab_ok (gok_none rfl) rfl rfl rfl rfl (fun _ => allT_of rfl) rfl) rfl rfl ?_)
      | (refine gq_eqS ?_; first | refine gq_yv (yv_eqS tab_ok eqs_ok c_gok rfl rfl rfl rfl c_allT rfl rfl rfl) rfl rfl ?_)
      | (refine gq_neS ?_; first | refine gq_yv (yv_neS tab_ok eqs_ok c_gok rfl rfl rfl rfl c_allT rfl rfl rfl) rfl rfl ?_)
      | (refine gq_anyG ?_; first | refine gq_yv (yv_pure tab_ok c_gok rfl rfl c_allT) rfl rfl ?_ | refine gq_yv (yv_indexS tab_ok c_gok rfl rfl rfl rfl c_imp c_imp (by intro hq_; (try simp only [Bool.and_eq_true, Bool.not_eq_true', Bool.not_eq_false', Bool.or_eq_false_iff, Bool.or_eq_true, decide_eq_true_eq, decide_eq_false_iff_not, Bool.true_and, Bool.and_true] at hq_); omega)) rfl rfl ?_ | refine gq_yv (yv_indexS (i := 0) tab_ok c_gok rfl rfl rfl rfl c_imp c_imp (by intro hq_; (try simp only [Bool.and_eq_true, Bool.not_eq_true', Bool.not_eq_false', Bool.or_eq_false_iff, Bool.or_eq_true, decide_eq_true_eq, decide_eq_false_iff_not, Bool.true_and, Bool.and_true] at hq_); omega)) rfl rfl ?_))
  refine gc_rounds 0 ?_
  repeat' first
    | (refine gl_gate ?_; first
      | refine gl_nil ?_
      | (refine gl_load0 ?_; refine gl_yv (yv_load tab_ok (gok_none rfl) rfl rfl (fun _ => rfl) c_mem (fun _ => c_lds)) rfl rfl ?_)
      | (refine gl_add0 ?_; refine gl_yv (yv_add tab_ok (gok_none rfl) rfl rfl rfl rfl (fun _ => allT_of rfl) (by intro _; omega)) rfl rfl ?_)
      | (refine gl_sub0 ?_; refine gl_yv (yv_sub tab_ok (gok_none rfl) rfl rfl rfl rfl (fun _ => allT_of rfl) (by intro _; omega)) rfl rfl ?_)
      | (refine gl_idx0 ?_; refine gl_yv (yv_idxC tab_ok (gok_none rfl) rfl rfl rfl rfl rfl (fun _ => rfl) (fun _ => rfl) c_bnd) rfl rfl ?_)
      | (refine gl_bld0 ?_; (refine gl_ev (ev_buildSlice tab_ok rfl rfl rfl rfl rfl rfl rfl rfl rfl rfl ?_) rfl rfl; intro g_ hg_))
      | (refine gl_mul0 ?_; refine gl_yv (yv_mul tab_ok (gok_none rfl) rfl rfl rfl rfl (fun _ => allT_of rfl) c_bnd) rfl rfl ?_)
      | (refine gl_pick0 ?_; first | refine gl_yv (yv_and (gok_none rfl) rfl rfl rfl (fun _ => rfl) c_imp2) rfl rfl ?_ | refine gl_yv (yv_or (gok_none rfl) rfl rfl rfl (fun _ => rfl) c_imp2) rfl rfl ?_)
      | (refine gl_idx0 ?_; refine gl_yv (yv_indexAddr tab_ok (gok_none rfl) rfl rfl rfl rfl rfl (fun _ => rfl) (fun _ => rfl) (by intro _; omega)) rfl rfl ?_)
      | (refine gl_addG ?_; refine gl_yv (yv_add tab_ok c_gok rfl rfl rfl rfl c_allT c_bnd) rfl rfl ?_)
      | (refine gl_subG ?_; refine gl_yv (yv_sub tab_ok c_gok rfl rfl rfl rfl c_allT c_bnd) rfl rfl ?_)
      | (refine gl_loadG ?_; refine gl_yv (yv_load tab_ok c_gok rfl rfl c_imp c_mem (fun _ => c_lds)) rfl rfl ?_)
      | (refine gl_pickG ?_; first | refine gl_yv (yv_and c_gok rfl rfl rfl c_imp c_imp2) rfl rfl ?_ | refine gl_yv (yv_or c_gok rfl rfl rfl c_imp c_imp2) rfl rfl ?_)
      | (refine gl_idxG ?_; refine gl_yv (yv_indexAddr tab_ok c_gok rfl rfl rfl rfl rfl c_imp c_imp c_bnd) rfl rfl ?_)
      | (refine gl_box0 ?_; first | (refine gl_box_agg rfl rfl rfl rfl rfl ?_; intro g_ hg_) | (refine gl_box_one rfl rfl rfl rfl rfl rfl ?_; intro g_ hg_) | (refine gl_box rfl rfl rfl rfl rfl ?_; intro g_ hg_))
      | (refine gl_alc0 ?_; (refine gl_alloc tab_ok rfl rfl rfl rfl rfl ?_; intro g_ hg_))
      | (refine gl_sto0 ?_; refine gl_store tab_ok rfl rfl rfl rfl rfl rfl rfl c_one rfl c_ku ?_)
      | (refine gl_any0 ?_; refine gl_pure tab_ok rfl rfl rfl rfl rfl rfl ?_)
      | (refine gl_any0 ?_; first | refine gl_yv (yv_shr tab_ok (gok_none rfl) rfl rfl rfl (fun _ => rfl) (fun _ => rfl) c_bnd) rfl rfl ?_ | refine gl_yv (yv_rem tab_ok (gok_none rfl) rfl rfl rfl (fun _ => rfl) (fun _ => rfl) c_bnd) rfl rfl ?_ | refine gl_yv (yv_indexS tab_ok (gok_none rfl) rfl rfl rfl rfl (fun _ => rfl) (fun _ => rfl) c_bnd) rfl rfl ?_ | refine gl_yv (yv_sliceH tab_ok (gok_none rfl) rfl rfl rfl rfl rfl (fun _ => rfl) (fun _ => rfl) c_bnd) rfl rfl ?_)
      | (refine gl_arr0 ?_; refine gl_yv (yv_buildA tab_ok (gok_none rfl) rfl rfl rfl rfl (fun _ => allT_of rfl) rfl) rfl rfl ?_)
      | (refine gl_eqS ?_; first | refine gl_yv (yv_eqS tab_ok eqs_ok c_gok rfl rfl rfl rfl c_allT rfl rfl rfl) rfl rfl ?_)
      | (refine gl_neS ?_; first | refine gl_yv (yv_neS tab_ok eqs_ok c_gok rfl rfl rfl rfl c_allT rfl rfl rfl) rfl rfl ?_)
      | (refine gl_anyG ?_; first | refine gl_yv (yv_pure tab_ok c_gok rfl rfl c_allT) rfl rfl ?_ | refine gl_yv (yv_indexS tab_ok c_gok rfl rfl rfl rfl c_imp c_imp (by intro hq_; (try simp only [Bool.and_eq_true, Bool.not_eq_true', Bool.not_eq_false', Bool.or_eq_false_iff, Bool.or_eq_true, decide_eq_true_eq, decide_eq_false_iff_not, Bool.true_and, Bool.and_true] at hq_); omega)) rfl rfl ?_ | refine gl_yv (yv_indexS (i := 0) tab_ok c_gok rfl rfl rfl rfl c_imp c_imp (by intro hq_; (try simp only [Bool.and_eq_true, Bool.not_eq_true', Bool.not_eq_false', Bool.or_eq_false_iff, Bool.or_eq_true, decide_eq_true_eq, decide_eq_false_iff_not, Bool.true_and, Bool.and_true] at hq_); omega)) rfl rfl ?_))
    | (refine gc_gate ?_; first
      | refine gc_seq ?_
      | refine gc_region ?_
      | refine gc_quietRo rfl mixed (by decide +kernel) ?_
      | refine gc_true rfl ?_
      | refine gc_false rfl ?_
      | (refine gc_cond rfl ?_ ?_ <;> intro h_ <;> have hd_ := h_ <;> (try simp only [bytes_beq, cell_beq, val_beq, stamp_beq, decide_eq_true_eq, decide_eq_false_iff_not, Bool.and_eq_true, Bool.or_eq_true, Bool.or_eq_false_iff, Bool.not_eq_true', Bool.not_eq_false', Bool.not_true, Bool.not_false, Bool.false_or, Bool.true_and, Bool.and_true, Bool.or_false, beq_iff_eq, bne_iff_ne, beq_eq_false_iff_ne, bne_eq_false_iff_eq, ne_eq, Bool.false_eq_true, reduceCtorEq] at hd_) <;> (try (exfalso; omega)))
      | refine gc_block ?_
      | refine gc_exit ?_
      | refine gc_ret ?_
      | refine gc_skip ?_
      | refine gc_label ?_)
    | (refine ge_gate ?_; first
      | ((with_reducible refine ge_gT ?_); first | with_reducible refine ge_then ?_ | with_reducible refine ge_then_exit ?_ | with_reducible refine ge_then_ret ?_)
      | ((with_reducible refine ge_gK ?_); first | with_reducible refine ge_block ?_ | refine ge_block_exit ?_ | refine ge_block_pass rfl ?_ | with_reducible refine ge_block_ret ?_)
      | ((with_reducible refine ge_gB ?_); first | refine ge_ret1 tab_ok rfl c_rvt ?_ | refine ge_end1 tab_ok rfl c_rvt ?_ | refine ge_ret2 tab_ok rfl c_rvt c_rvt ?_ | refine ge_ret_none rfl ?_ | refine ge_end_none rfl ?_))
    | (refine gq_gate ?_; first
      | refine gq_nil ?_
      | (refine gq_load0 ?_; refine gq_yv (yv_load tab_ok (gok_none rfl) rfl rfl (fun _ => rfl) c_mem (fun _ => c_lds)) rfl rfl ?_)
      | (refine gq_add0 ?_; refine gq_yv (yv_add tab_ok (gok_none rfl) rfl rfl rfl rfl (fun _ => allT_of rfl) (by intro _; omega)) rfl rfl ?_)
      | (refine gq_sub0 ?_; refine gq_yv (yv_sub tab_ok (gok_none rfl) rfl rfl rfl rfl (fun _ => allT_of rfl) (by intro _; omega)) rfl rfl ?_)
      | (refine gq_idx0 ?_; refine gq_yv (yv_idxC tab_ok (gok_none rfl) rfl rfl rfl rfl rfl (fun _ => rfl) (fun _ => rfl) c_bnd) rfl rfl ?_)
      | (refine gq_pick0 ?_; first | refine gq_yv (yv_and (gok_none rfl) rfl rfl rfl (fun _ => rfl) c_imp2) rfl rfl ?_ | refine gq_yv (yv_or (gok_none rfl) rfl rfl rfl (fun _ => rfl) c_imp2) rfl rfl ?_)
      | (refine gq_idx0 ?_; refine gq_yv (yv_indexAddr tab_ok (gok_none rfl) rfl rfl rfl rfl rfl (fun _ => rfl) (fun _ => rfl) (by intro _; omega)) rfl rfl ?_)
      | (refine gq_addG ?_; refine gq_yv (yv_add tab_ok c_gok rfl rfl rfl rfl c_allT c_bnd) rfl rfl ?_)
      | (refine gq_subG ?_; refine gq_yv (yv_sub tab_ok c_gok rfl rfl rfl rfl c_allT c_bnd) rfl rfl ?_)
      | (refine gq_loadG ?_; refine gq_yv (yv_load tab_ok c_gok rfl rfl c_imp c_mem (fun _ => c_lds)) rfl rfl ?_)
      | (refine gq_pickG ?_; first | refine gq_yv (yv_and c_gok rfl rfl rfl c_imp c_imp2) rfl rfl ?_ | refine gq_yv (yv_or c_gok rfl rfl rfl c_imp c_imp2) rfl rfl ?_)
      | (refine gq_idxG ?_; refine gq_yv (yv_indexAddr tab_ok c_gok rfl rfl rfl rfl rfl c_imp c_imp c_bnd) rfl rfl ?_)
      | (refine gq_any0 ?_; refine gq_pure tab_ok rfl rfl rfl rfl rfl rfl ?_)
      | (refine gq_any0 ?_; first | refine gq_yv (yv_shr tab_ok (gok_none rfl) rfl rfl rfl (fun _ => rfl) (fun _ => rfl) c_bnd) rfl rfl ?_ | refine gq_yv (yv_rem tab_ok (gok_none rfl) rfl rfl rfl (fun _ => rfl) (fun _ => rfl) c_bnd) rfl rfl ?_ | refine gq_yv (yv_indexS tab_ok (gok_none rfl) rfl rfl rfl rfl (fun _ => rfl) (fun _ => rfl) c_bnd) rfl rfl ?_ | refine gq_yv (yv_sliceH tab_ok (gok_none rfl) rfl rfl rfl rfl rfl (fun _ => rfl) (fun _ => rfl) c_bnd) rfl rfl ?_)
      | (refine gq_arr0 ?_; refine gq_yv (yv_buildA tab_ok (gok_none rfl) rfl rfl rfl rfl (fun _ => allT_of rfl) rfl) rfl rfl ?_)
      | (refine gq_eqS ?_; first | refine gq_yv (yv_eqS tab_ok eqs_ok c_gok rfl rfl rfl rfl c_allT rfl rfl rfl) rfl rfl ?_)
      | (refine gq_neS ?_; first | refine gq_yv (yv_neS tab_ok eqs_ok c_gok rfl rfl rfl rfl c_allT rfl rfl rfl) rfl rfl ?_)
      | (refine gq_anyG ?_; first | refine gq_yv (yv_pure tab_ok c_gok rfl rfl c_allT) rfl rfl ?_ | refine gq_yv (yv_indexS tab_ok c_gok rfl rfl rfl rfl c_imp c_imp (by intro hq_; (try simp only [Bool.and_eq_true, Bool.not_eq_true', Bool.not_eq_false', Bool.or_eq_false_iff, Bool.or_eq_true, decide_eq_true_eq, decide_eq_false_iff_not, Bool.true_and, Bool.and_true] at hq_); omega)) rfl rfl ?_ | refine gq_yv (yv_indexS (i := 0) tab_ok c_gok rfl rfl rfl rfl c_imp c_imp (by intro hq_; (try simp only [Bool.and_eq_true, Bool.not_eq_true', Bool.not_eq_false', Bool.or_eq_false_iff, Bool.or_eq_true, decide_eq_true_eq, decide_eq_false_iff_not, Bool.true_and, Bool.and_true] at hq_); omega)) rfl rfl ?_))
  intro W hW
  exact ⟨rfl, hW.below0⟩
theorem ct_Len (s : SS) (g c : Nat) (q : Option Nat) (w : World) (hg : w.heap[g]? = some (.cells (s.cells q c).toArray 59 (0, 0))) : Calls Try.prog 59 #[.pointer (some ⟨g, 0, none⟩)] w fun e w' => e = .returned (.int .i64 s.l.length) ∧ Bl w w' := by
  refine enter (args := [_]) (M := []) (K := []) Try.func59 rfl Try.ntmps59 rfl (St.refl _ _) ?_
  refine gc_old hg (by simp) (by simp) ?_
  repeat' first
    | (refine gl_gate ?_; first
      | refine gl_nil ?_
      | (refine gl_load0 ?_; refine gl_yv (yv_load tab_ok (gok_none rfl) rfl rfl (fun _ => rfl) c_mem (fun _ => c_lds)) rfl rfl ?_)
      | (refine gl_add0 ?_; refine gl_yv (yv_add tab_ok (gok_none rfl) rfl rfl rfl rfl (fun _ => allT_of rfl) (by intro _; omega)) rfl rfl ?_)
      | (refine gl_sub0 ?_; refine gl_yv (yv_sub tab_ok (gok_none rfl) rfl rfl rfl rfl (fun _ => allT_of rfl) (by intro _; omega)) rfl rfl ?_)
      | (refine gl_idx0 ?_; refine gl_yv (yv_idxC tab_ok (gok_none rfl) rfl rfl rfl rfl rfl (fun _ => rfl) (fun _ => rfl) c_bnd) rfl rfl ?_)
      | (refine gl_bld0 ?_; (refine gl_ev (ev_buildSlice tab_ok rfl rfl rfl rfl rfl rfl rfl rfl rfl rfl ?_) rfl rfl; intro g_ hg_))
      | (refine gl_mul0 ?_; refine gl_yv (yv_mul tab_ok (gok_none rfl) rfl rfl rfl rfl (fun _ => allT_of rfl) c_bnd) rfl rfl ?_)
      | (refine gl_pick0 ?_; first | refine gl_yv (yv_and (gok_none rfl) rfl rfl rfl (fun _ => rfl) c_imp2) rfl rfl ?_ | refine gl_yv (yv_or (gok_none rfl) rfl rfl rfl (fun _ => rfl) c_imp2) rfl rfl ?_)
      | (refine gl_idx0 ?_; refine gl_yv (yv_indexAddr tab_ok (gok_none rfl) rfl rfl rfl rfl rfl (fun _ => rfl) (fun _ => rfl) (by intro _; omega)) rfl rfl ?_)
      | (refine gl_addG ?_; refine gl_yv (yv_add tab_ok c_gok rfl rfl rfl rfl c_allT c_bnd) rfl rfl ?_)
      | (refine gl_subG ?_; refine gl_yv (yv_sub tab_ok c_gok rfl rfl rfl rfl c_allT c_bnd) rfl rfl ?_)
      | (refine gl_loadG ?_; refine gl_yv (yv_load tab_ok c_gok rfl rfl c_imp c_mem (fun _ => c_lds)) rfl rfl ?_)
      | (refine gl_pickG ?_; first | refine gl_yv (yv_and c_gok rfl rfl rfl c_imp c_imp2) rfl rfl ?_ | refine gl_yv (yv_or c_gok rfl rfl rfl c_imp c_imp2) rfl rfl ?_)
      | (refine gl_idxG ?_; refine gl_yv (yv_indexAddr tab_ok c_gok rfl rfl rfl rfl rfl c_imp c_imp c_bnd) rfl rfl ?_)
      | (refine gl_box0 ?_; first | (refine gl_box_agg rfl rfl rfl rfl rfl ?_; intro g_ hg_) | (refine gl_box_one rfl rfl rfl rfl rfl rfl ?_; intro g_ hg_) | (refine gl_box rfl rfl rfl rfl rfl ?_; intro g_ hg_))
      | (refine gl_alc0 ?_; (refine gl_alloc tab_ok rfl rfl rfl rfl rfl ?_; intro g_ hg_))
      | (refine gl_sto0 ?_; refine gl_store tab_ok rfl rfl rfl rfl rfl rfl rfl c_one rfl c_ku ?_)
      | (refine gl_any0 ?_; refine gl_pure tab_ok rfl rfl rfl rfl rfl rfl ?_)
      | (refine gl_any0 ?_; first | refine gl_yv (yv_shr tab_ok (gok_none rfl) rfl rfl rfl (fun _ => rfl) (fun _ => rfl) c_bnd) rfl rfl ?_ | refine gl_yv (yv_rem tab_ok (gok_none rfl) rfl rfl rfl (fun _ => rfl) (fun _ => rfl) c_bnd) rfl rfl ?_ | refine gl_yv (yv_indexS tab_ok (gok_none rfl) rfl rfl rfl rfl (fun _ => rfl) (fun _ => rfl) c_bnd) rfl rfl ?_ | refine gl_yv (yv_sliceH tab_ok (gok_none rfl) rfl rfl rfl rfl rfl (fun _ => rfl) (fun _ => rfl) c_bnd) rfl rfl ?_)
      | (refine gl_arr0 ?_; refine gl_yv (yv_buildA tab_ok (gok_none rfl) rfl rfl rfl rfl (fun _ => allT_of rfl) rfl) rfl rfl ?_)
      | (refine gl_eqS ?_; first | refine gl_yv (yv_eqS tab_ok eqs_ok c_gok rfl rfl rfl rfl c_allT rfl rfl rfl) rfl rfl ?_)
      | (refine gl_neS ?_; first | refine gl_yv (yv_neS tab_ok eqs_ok c_gok rfl rfl rfl rfl c_allT rfl rfl rfl) rfl rfl ?_)
      | (refine gl_anyG ?_; first | refine gl_yv (yv_pure tab_ok c_gok rfl rfl c_allT) rfl rfl ?_ | refine gl_yv (yv_indexS tab_ok c_gok rfl rfl rfl rfl c_imp c_imp (by intro hq_; (try simp only [Bool.and_eq_true, Bool.not_eq_true', Bool.not_eq_false', Bool.or_eq_false_iff, Bool.or_eq_true, decide_eq_true_eq, decide_eq_false_iff_not, Bool.true_and, Bool.and_true] at hq_); omega)) rfl rfl ?_ | refine gl_yv (yv_indexS (i := 0) tab_ok c_gok rfl rfl rfl rfl c_imp c_imp (by intro hq_; (try simp only [Bool.and_eq_true, Bool.not_eq_true', Bool.not_eq_false', Bool.or_eq_false_iff, Bool.or_eq_true, decide_eq_true_eq, decide_eq_false_iff_not, Bool.true_and, Bool.and_true] at hq_); omega)) rfl rfl ?_))
    | (refine gc_gate ?_; first
      | refine gc_seq ?_
      | refine gc_region ?_
      | refine gc_quietRo rfl mixed (by decide +kernel) ?_
      | refine gc_true rfl ?_
      | refine gc_false rfl ?_
      | (refine gc_cond rfl ?_ ?_ <;> intro h_ <;> have hd_ := h_ <;> (try simp only [bytes_beq, cell_beq, val_beq, stamp_beq, decide_eq_true_eq, decide_eq_false_iff_not, Bool.and_eq_true, Bool.or_eq_true, Bool.or_eq_false_iff, Bool.not_eq_true', Bool.not_eq_false', Bool.not_true, Bool.not_false, Bool.false_or, Bool.true_and, Bool.and_true, Bool.or_false, beq_iff_eq, bne_iff_ne, beq_eq_false_iff_ne, bne_eq_false_iff_eq, ne_eq, Bool.false_eq_true, reduceCtorEq] at hd_) <;> (try (exfalso; omega)))
      | refine gc_block ?_
      | refine gc_exit ?_
      | refine gc_ret ?_
      | refine gc_skip ?_
      | refine gc_label ?_)
    | (refine ge_gate ?_; first
      | ((with_reducible refine ge_gT ?_); first | with_reducible refine ge_then ?_ | with_reducible refine ge_then_exit ?_ | with_reducible refine ge_then_ret ?_)
      | ((with_reducible refine ge_gK ?_); first | with_reducible refine ge_block ?_ | refine ge_block_exit ?_ | refine ge_block_pass rfl ?_ | with_reducible refine ge_block_ret ?_)
      | ((with_reducible refine ge_gB ?_); first | refine ge_ret1 tab_ok rfl c_rvt ?_ | refine ge_end1 tab_ok rfl c_rvt ?_ | refine ge_ret2 tab_ok rfl c_rvt c_rvt ?_ | refine ge_ret_none rfl ?_ | refine ge_end_none rfl ?_))
    | (refine gq_gate ?_; first
      | refine gq_nil ?_
      | (refine gq_load0 ?_; refine gq_yv (yv_load tab_ok (gok_none rfl) rfl rfl (fun _ => rfl) c_mem (fun _ => c_lds)) rfl rfl ?_)
      | (refine gq_add0 ?_; refine gq_yv (yv_add tab_ok (gok_none rfl) rfl rfl rfl rfl (fun _ => allT_of rfl) (by intro _; omega)) rfl rfl ?_)
      | (refine gq_sub0 ?_; refine gq_yv (yv_sub tab_ok (gok_none rfl) rfl rfl rfl rfl (fun _ => allT_of rfl) (by intro _; omega)) rfl rfl ?_)
      | (refine gq_idx0 ?_; refine gq_yv (yv_idxC tab_ok (gok_none rfl) rfl rfl rfl rfl rfl (fun _ => rfl) (fun _ => rfl) c_bnd) rfl rfl ?_)
      | (refine gq_pick0 ?_; first | refine gq_yv (yv_and (gok_none rfl) rfl rfl rfl (fun _ => rfl) c_imp2) rfl rfl ?_ | refine gq_yv (yv_or (gok_none rfl) rfl rfl rfl (fun _ => rfl) c_imp2) rfl rfl ?_)
      | (refine gq_idx0 ?_; refine gq_yv (yv_indexAddr tab_ok (gok_none rfl) rfl rfl rfl rfl rfl (fun _ => rfl) (fun _ => rfl) (by intro _; omega)) rfl rfl ?_)
      | (refine gq_addG ?_; refine gq_yv (yv_add tab_ok c_gok rfl rfl rfl rfl c_allT c_bnd) rfl rfl ?_)
      | (refine gq_subG ?_; refine gq_yv (yv_sub tab_ok c_gok rfl rfl rfl rfl c_allT c_bnd) rfl rfl ?_)
      | (refine gq_loadG ?_; refine gq_yv (yv_load tab_ok c_gok rfl rfl c_imp c_mem (fun _ => c_lds)) rfl rfl ?_)
      | (refine gq_pickG ?_; first | refine gq_yv (yv_and c_gok rfl rfl rfl c_imp c_imp2) rfl rfl ?_ | refine gq_yv (yv_or c_gok rfl rfl rfl c_imp c_imp2) rfl rfl ?_)
      | (refine gq_idxG ?_; refine gq_yv (yv_indexAddr tab_ok c_gok rfl rfl rfl rfl rfl c_imp c_imp c_bnd) rfl rfl ?_)
      | (refine gq_any0 ?_; refine gq_pure tab_ok rfl rfl rfl rfl rfl rfl ?_)
      | (refine gq_any0 ?_; first | refine gq_yv (yv_shr tab_ok (gok_none rfl) rfl rfl rfl (fun _ => rfl) (fun _ => rfl) c_bnd) rfl rfl ?_ | refine gq_yv (yv_rem tab_ok (gok_none rfl) rfl rfl rfl (fun _ => rfl) (fun _ => rfl) c_bnd) rfl rfl ?_ | refine gq_yv (yv_indexS tab_ok (gok_none rfl) rfl rfl rfl rfl (fun _ => rfl) (fun _ => rfl) c_bnd) rfl rfl ?_ | refine gq_yv (yv_sliceH tab_ok (gok_none rfl) rfl rfl rfl rfl rfl (fun _ => rfl) (fun _ => rfl) c_bnd) rfl rfl ?_)
      | (refine gq_arr0 ?_; refine gq_yv (yv_buildA tab_ok (gok_none rfl) rfl rfl rfl rfl (fun _ => allT_of rfl) rfl) rfl rfl ?_)
      | (refine gq_eqS ?_; first | refine gq_yv (yv_eqS tab_ok eqs_ok c_gok rfl rfl rfl rfl c_allT rfl rfl rfl) rfl rfl ?_)
      | (refine gq_neS ?_; first | refine gq_yv (yv_neS tab_ok eqs_ok c_gok rfl rfl rfl rfl c_allT rfl rfl rfl) rfl rfl ?_)
      | (refine gq_anyG ?_; first | refine gq_yv (yv_pure tab_ok c_gok rfl rfl c_allT) rfl rfl ?_ | refine gq_yv (yv_indexS tab_ok c_gok rfl rfl rfl rfl c_imp c_imp (by intro hq_; (try simp only [Bool.and_eq_true, Bool.not_eq_true', Bool.not_eq_false', Bool.or_eq_false_iff, Bool.or_eq_true, decide_eq_true_eq, decide_eq_false_iff_not, Bool.true_and, Bool.and_true] at hq_); omega)) rfl rfl ?_ | refine gq_yv (yv_indexS (i := 0) tab_ok c_gok rfl rfl rfl rfl c_imp c_imp (by intro hq_; (try simp only [Bool.and_eq_true, Bool.not_eq_true', Bool.not_eq_false', Bool.or_eq_false_iff, Bool.or_eq_true, decide_eq_true_eq, decide_eq_false_iff_not, Bool.true_and, Bool.and_true] at hq_); omega)) rfl rfl ?_))
  intro W hW
  exact ⟨rfl, hW.below0⟩
theorem ct_Tell1 (s : SS) (g c : Nat) (q : Option Nat) (sp : List Value) (x : Int × Int) (w : World) (hK : ∀ e ∈ s.K g q c sp [], w.heap[e.1]? = some e.2.2) (hp : (s.K g q c sp []).Pairwise (fun p q => p.1 ≠ q.1)) (ho : Ow q s.l.length c 4 (cat rep s.l) sp) (hc : s.l.length ≤ 8) (h8 : s.l.length < 8) :
    Calls Try.prog 58 #[.pointer (some ⟨g, 0, none⟩), .agg (rep x).toArray] w (RetM w ((s.K g q c sp []).map (·.1)) (fun _ => .tuple #[]) (fun y : SS × Option Nat × Nat × List Value => y.1.K g y.2.1 y.2.2.1 y.2.2.2 []) (fun y => y.1 = { s with l := s.l ++ [x] } ∧ Ow y.2.1 y.1.l.length y.2.2.1 4 (cat rep y.1.l) y.2.2.2)) := by
  refine enter (args := [_, _]) (M := []) (K := []) Try.func58 rfl Try.ntmps58 rfl (St.refl _ _) ?_
  refine gc_own (s.K g q c sp []) hK hp ?_
  generalize hM : (s.K g q c sp []).map (·.1) = M
  unfold SS.K
  repeat' first
    | (refine gl_gate ?_; first
      | refine gl_nil ?_
      | (refine gl_load0 ?_; refine gl_yv (yv_load tab_ok (gok_none rfl) rfl rfl (fun _ => rfl) c_mem (fun _ => c_lds)) rfl rfl ?_)
      | (refine gl_add0 ?_; refine gl_yv (yv_add tab_ok (gok_none rfl) rfl rfl rfl rfl (fun _ => allT_of rfl) (by intro _; omega)) rfl rfl ?_)
      | (refine gl_sub0 ?_; refine gl_yv (yv_sub tab_ok (gok_none rfl) rfl rfl rfl rfl (fun _ => allT_of rfl) (by intro _; omega)) rfl rfl ?_)
      | (refine gl_idx0 ?_; refine gl_yv (yv_idxC tab_ok (gok_none rfl) rfl rfl rfl rfl rfl (fun _ => rfl) (fun _ => rfl) c_bnd) rfl rfl ?_)
      | (refine gl_app0 ?_; (refine gl_ev (ev_append tab_ok rfl rfl rfl rfl rfl rfl rfl rfl c_oa (ho) (c_src) c_lim c_lim ?_) rfl rfl; intro p_ c_ sp_ hw_))
      | (refine gl_app0 ?_; (refine gl_ev (ev_append tab_ok rfl rfl rfl rfl rfl rfl rfl rfl c_oa (hw_) (c_src) c_lim c_lim ?_) rfl rfl; intro p_ c_ sp_ hw_))
      | (refine gl_bld0 ?_; (refine gl_ev (ev_buildSlice tab_ok rfl rfl rfl rfl rfl rfl rfl rfl rfl rfl ?_) rfl rfl; intro g_ hg_))
      | (refine gl_mul0 ?_; refine gl_yv (yv_mul tab_ok (gok_none rfl) rfl rfl rfl rfl (fun _ => allT_of rfl) c_bnd) rfl rfl ?_)
      | (refine gl_calv0 ?_; first | refine gl_yd (yd_call (gok_none rfl) rfl ent147 rfl rfl (fun _ => allT_of rfl) (fun _ W hW => ct_CloneNil W)) rfl rfl ?_)
      | (refine gl_calvG ?_; first | refine gl_yd (yd_call c_gok rfl ent147 rfl rfl c_allT (fun _ W hW => ct_CloneNil W)) rfl rfl ?_)
      | (refine gl_pick0 ?_; first | refine gl_yv (yv_and (gok_none rfl) rfl rfl rfl (fun _ => rfl) c_imp2) rfl rfl ?_ | refine gl_yv (yv_or (gok_none rfl) rfl rfl rfl (fun _ => rfl) c_imp2) rfl rfl ?_)
      | (refine gl_idx0 ?_; refine gl_yv (yv_indexAddr tab_ok (gok_none rfl) rfl rfl rfl rfl rfl (fun _ => rfl) (fun _ => rfl) (by intro _; omega)) rfl rfl ?_)
      | (refine gl_addG ?_; refine gl_yv (yv_add tab_ok c_gok rfl rfl rfl rfl c_allT c_bnd) rfl rfl ?_)
      | (refine gl_subG ?_; refine gl_yv (yv_sub tab_ok c_gok rfl rfl rfl rfl c_allT c_bnd) rfl rfl ?_)
      | (refine gl_loadG ?_; refine gl_yv (yv_load tab_ok c_gok rfl rfl c_imp c_mem (fun _ => c_lds)) rfl rfl ?_)
      | (refine gl_pickG ?_; first | refine gl_yv (yv_and c_gok rfl rfl rfl c_imp c_imp2) rfl rfl ?_ | refine gl_yv (yv_or c_gok rfl rfl rfl c_imp c_imp2) rfl rfl ?_)
      | (refine gl_idxG ?_; refine gl_yv (yv_indexAddr tab_ok c_gok rfl rfl rfl rfl rfl c_imp c_imp c_bnd) rfl rfl ?_)
      | (refine gl_box0 ?_; first | (refine gl_box_agg rfl rfl rfl rfl rfl ?_; intro g_ hg_) | (refine gl_box_one rfl rfl rfl rfl rfl rfl ?_; intro g_ hg_) | (refine gl_box rfl rfl rfl rfl rfl ?_; intro g_ hg_))
      | (refine gl_alc0 ?_; (refine gl_alloc tab_ok rfl rfl rfl rfl rfl ?_; intro g_ hg_))
      | (refine gl_sto0 ?_; refine gl_store tab_ok rfl rfl rfl rfl rfl rfl rfl c_one rfl c_ku ?_)
      | (refine gl_any0 ?_; refine gl_pure tab_ok rfl rfl rfl rfl rfl rfl ?_)
      | (refine gl_any0 ?_; first | refine gl_yv (yv_shr tab_ok (gok_none rfl) rfl rfl rfl (fun _ => rfl) (fun _ => rfl) c_bnd) rfl rfl ?_ | refine gl_yv (yv_rem tab_ok (gok_none rfl) rfl rfl rfl (fun _ => rfl) (fun _ => rfl) c_bnd) rfl rfl ?_ | refine gl_yv (yv_indexS tab_ok (gok_none rfl) rfl rfl rfl rfl (fun _ => rfl) (fun _ => rfl) c_bnd) rfl rfl ?_ | refine gl_yv (yv_sliceH tab_ok (gok_none rfl) rfl rfl rfl rfl rfl (fun _ => rfl) (fun _ => rfl) c_bnd) rfl rfl ?_)
      | (refine gl_arr0 ?_; refine gl_yv (yv_buildA tab_ok (gok_none rfl) rfl rfl rfl rfl (fun _ => allT_of rfl) rfl) rfl rfl ?_)
      | (refine gl_eqS ?_; first | refine gl_yv (yv_eqS tab_ok eqs_ok c_gok rfl rfl rfl rfl c_allT rfl rfl rfl) rfl rfl ?_)
      | (refine gl_neS ?_; first | refine gl_yv (yv_neS tab_ok eqs_ok c_gok rfl rfl rfl rfl c_allT rfl rfl rfl) rfl rfl ?_)
      | (refine gl_anyG ?_; first | refine gl_yv (yv_pure tab_ok c_gok rfl rfl c_allT) rfl rfl ?_ | refine gl_yv (yv_indexS tab_ok c_gok rfl rfl rfl rfl c_imp c_imp (by intro hq_; (try simp only [Bool.and_eq_true, Bool.not_eq_true', Bool.not_eq_false', Bool.or_eq_false_iff, Bool.or_eq_true, decide_eq_true_eq, decide_eq_false_iff_not, Bool.true_and, Bool.and_true] at hq_); omega)) rfl rfl ?_ | refine gl_yv (yv_indexS (i := 0) tab_ok c_gok rfl rfl rfl rfl c_imp c_imp (by intro hq_; (try simp only [Bool.and_eq_true, Bool.not_eq_true', Bool.not_eq_false', Bool.or_eq_false_iff, Bool.or_eq_true, decide_eq_true_eq, decide_eq_false_iff_not, Bool.true_and, Bool.and_true] at hq_); omega)) rfl rfl ?_))
    | (refine gc_gate ?_; first
      | refine gc_seq ?_
      | refine gc_region ?_
      | refine gc_quietRo rfl mixed (by decide +kernel) ?_
      | refine gc_true rfl ?_
      | refine gc_false rfl ?_
      | (refine gc_cond rfl ?_ ?_ <;> intro h_ <;> have hd_ := h_ <;> (try simp only [bytes_beq, cell_beq, val_beq, stamp_beq, decide_eq_true_eq, decide_eq_false_iff_not, Bool.and_eq_true, Bool.or_eq_true, Bool.or_eq_false_iff, Bool.not_eq_true', Bool.not_eq_false', Bool.not_true, Bool.not_false, Bool.false_or, Bool.true_and, Bool.and_true, Bool.or_false, beq_iff_eq, bne_iff_ne, beq_eq_false_iff_ne, bne_eq_false_iff_eq, ne_eq, Bool.false_eq_true, reduceCtorEq] at hd_) <;> (try (exfalso; omega)))
      | refine gc_block ?_
      | refine gc_exit ?_
      | refine gc_ret ?_
      | refine gc_skip ?_
      | refine gc_label ?_)
    | (refine ge_gate ?_; first
      | ((with_reducible refine ge_gT ?_); first | with_reducible refine ge_then ?_ | with_reducible refine ge_then_exit ?_ | with_reducible refine ge_then_ret ?_)
      | ((with_reducible refine ge_gK ?_); first | with_reducible refine ge_block ?_ | refine ge_block_exit ?_ | refine ge_block_pass rfl ?_ | with_reducible refine ge_block_ret ?_)
      | ((with_reducible refine ge_gB ?_); first | refine ge_ret1 tab_ok rfl c_rvt ?_ | refine ge_end1 tab_ok rfl c_rvt ?_ | refine ge_ret2 tab_ok rfl c_rvt c_rvt ?_ | refine ge_ret_none rfl ?_ | refine ge_end_none rfl ?_))
    | (refine gq_gate ?_; first
      | refine gq_nil ?_
      | (refine gq_load0 ?_; refine gq_yv (yv_load tab_ok (gok_none rfl) rfl rfl (fun _ => rfl) c_mem (fun _ => c_lds)) rfl rfl ?_)
      | (refine gq_add0 ?_; refine gq_yv (yv_add tab_ok (gok_none rfl) rfl rfl rfl rfl (fun _ => allT_of rfl) (by intro _; omega)) rfl rfl ?_)
      | (refine gq_sub0 ?_; refine gq_yv (yv_sub tab_ok (gok_none rfl) rfl rfl rfl rfl (fun _ => allT_of rfl) (by intro _; omega)) rfl rfl ?_)
      | (refine gq_idx0 ?_; refine gq_yv (yv_idxC tab_ok (gok_none rfl) rfl rfl rfl rfl rfl (fun _ => rfl) (fun _ => rfl) c_bnd) rfl rfl ?_)
      | (refine gq_calv0 ?_; first | refine gq_yd (yd_call (gok_none rfl) rfl ent147 rfl rfl (fun _ => allT_of rfl) (fun _ W hW => ct_CloneNil W)) rfl rfl ?_)
      | (refine gq_calvG ?_; first | refine gq_yd (yd_call c_gok rfl ent147 rfl rfl c_allT (fun _ W hW => ct_CloneNil W)) rfl rfl ?_)
      | (refine gq_pick0 ?_; first | refine gq_yv (yv_and (gok_none rfl) rfl rfl rfl (fun _ => rfl) c_imp2) rfl rfl ?_ | refine gq_yv (yv_or (gok_none rfl) rfl rfl rfl (fun _ => rfl) c_imp2) rfl rfl ?_)
      | (refine gq_idx0 ?_; refine gq_yv (yv_indexAddr tab_ok (gok_none rfl) rfl rfl rfl rfl rfl (fun _ => rfl) (fun _ => rfl) (by intro _; omega)) rfl rfl ?_)
      | (refine gq_addG ?_; refine gq_yv (yv_add tab_ok c_gok rfl rfl rfl rfl c_allT c_bnd) rfl rfl ?_)
      | (refine gq_subG ?_; refine gq_yv (yv_sub tab_ok c_gok rfl rfl rfl rfl c_allT c_bnd) rfl rfl ?_)
      | (refine gq_loadG ?_; refine gq_yv (yv_load tab_ok c_gok rfl rfl c_imp c_mem (fun _ => c_lds)) rfl rfl ?_)
      | (refine gq_pickG ?_; first | refine gq_yv (yv_and c_gok rfl rfl rfl c_imp c_imp2) rfl rfl ?_ | refine gq_yv (yv_or c_gok rfl rfl rfl c_imp c_imp2) rfl rfl ?_)
      | (refine gq_idxG ?_; refine gq_yv (yv_indexAddr tab_ok c_gok rfl rfl rfl rfl rfl c_imp c_imp c_bnd) rfl rfl ?_)
      | (refine gq_any0 ?_; refine gq_pure tab_ok rfl rfl rfl rfl rfl rfl ?_)
      | (refine gq_any0 ?_; first | refine gq_yv (yv_shr tab_ok (gok_none rfl) rfl rfl rfl (fun _ => rfl) (fun _ => rfl) c_bnd) rfl rfl ?_ | refine gq_yv (yv_rem tab_ok (gok_none rfl) rfl rfl rfl (fun _ => rfl) (fun _ => rfl) c_bnd) rfl rfl ?_ | refine gq_yv (yv_indexS tab_ok (gok_none rfl) rfl rfl rfl rfl (fun _ => rfl) (fun _ => rfl) c_bnd) rfl rfl ?_ | refine gq_yv (yv_sliceH tab_ok (gok_none rfl) rfl rfl rfl rfl rfl (fun _ => rfl) (fun _ => rfl) c_bnd) rfl rfl ?_)
      | (refine gq_arr0 ?_; refine gq_yv (yv_buildA tab_ok (gok_none rfl) rfl rfl rfl rfl (fun _ => allT_of rfl) rfl) rfl rfl ?_)
      | (refine gq_eqS ?_; first | refine gq_yv (yv_eqS tab_ok eqs_ok c_gok rfl rfl rfl rfl c_allT rfl rfl rfl) rfl rfl ?_)
      | (refine gq_neS ?_; first | refine gq_yv (yv_neS tab_ok eqs_ok c_gok rfl rfl rfl rfl c_allT rfl rfl rfl) rfl rfl ?_)
      | (refine gq_anyG ?_; first | refine gq_yv (yv_pure tab_ok c_gok rfl rfl c_allT) rfl rfl ?_ | refine gq_yv (yv_indexS tab_ok c_gok rfl rfl rfl rfl c_imp c_imp (by intro hq_; (try simp only [Bool.and_eq_true, Bool.not_eq_true', Bool.not_eq_false', Bool.or_eq_false_iff, Bool.or_eq_true, decide_eq_true_eq, decide_eq_false_iff_not, Bool.true_and, Bool.and_true] at hq_); omega)) rfl rfl ?_ | refine gq_yv (yv_indexS (i := 0) tab_ok c_gok rfl rfl rfl rfl c_imp c_imp (by intro hq_; (try simp only [Bool.and_eq_true, Bool.not_eq_true', Bool.not_eq_false', Bool.or_eq_false_iff, Bool.or_eq_true, decide_eq_true_eq, decide_eq_false_iff_not, Bool.true_and, Bool.and_true] at hq_); omega)) rfl rfl ?_))
  refine gp_startC (St w M [(g_, true, .cells (rep x).toArray 65 (0, 0)), (g, true, .cells (s.cells q c).toArray 59 (0, 0))]) c_cl [7, 10] #[false, false, false, false, false, false, false, false, false, false, false] mixed rfl rfl c_qp ?_; intro hqp_
  refine gp_take 1 #[false, true, false, false, false, false, false, false, false, false, false] hqp_ rfl (by kernel_rfl) (yv_pure tab_ok c_gok rfl rfl c_allT) c_cl rfl rfl ?_
  refine gp_take 2 #[false, true, true, false, false, false, false, false, false, false, false] hqp_ rfl (by kernel_rfl) (yv_pure tab_ok c_gok rfl rfl c_allT) c_cl rfl rfl ?_
  refine gp_take 3 #[false, true, true, true, false, false, false, false, false, false, false] hqp_ rfl (by kernel_rfl) (yv_pure tab_ok c_gok rfl rfl c_allT) c_cl rfl rfl ?_
  refine gp_take 4 #[false, true, true, true, true, false, false, false, false, false, false] hqp_ rfl (by kernel_rfl) (yv_load tab_ok c_gok rfl rfl c_imp c_mem (fun _ => c_lds)) c_cl rfl rfl ?_
  refine gp_take 5 #[false, true, true, true, true, true, false, false, false, false, false] hqp_ rfl (by kernel_rfl) (yv_load tab_ok c_gok rfl rfl c_imp c_mem (fun _ => c_lds)) c_cl rfl rfl ?_
  refine gp_rs [0, 6] (by kernel_rfl) rfl (gr_ev 0 #[true, true, true, true, true, true, false, false, false, false, false] rfl rfl rfl rfl rfl (ev_yv (l := []) rfl (yv_pure tab_ok (gok_none rfl) rfl rfl (fun _ => allT_of rfl)) ⟨c_cl, ?_⟩) (gr_ev 6 #[false, true, true, true, true, true, true, false, false, false, false] rfl rfl rfl rfl rfl (ev_buildSlice tab_ok rfl rfl rfl rfl rfl rfl rfl rfl rfl rfl ?_) gr_nil))
  (refine gp_ev 6 #[true, true, true, true, true, true, true, false, false, false, false] rfl (by kernel_rfl) rfl rfl rfl (ev_buildSlice tab_ok rfl rfl rfl rfl rfl rfl rfl rfl rfl rfl ?_); intro g_ hg_; refine ⟨c_cl, ?_⟩)
  (refine gp_last 7 #[true, true, true, true, true, true, true, true, false, false, false] rfl (by kernel_rfl) (by simp) rfl rfl (ev_append tab_ok rfl rfl rfl rfl rfl rfl rfl rfl c_oa ho c_src c_lim c_lim ?_); intro p_ c_ sp_ hw_)
  refine gp_take 8 #[true, true, true, true, true, true, true, true, true, false, false] hqp_ rfl (by kernel_rfl) (yv_pure tab_ok c_gok rfl rfl c_allT) c_cl rfl rfl ?_
  refine gp_take 9 #[true, true, true, true, true, true, true, true, true, true, false] hqp_ rfl (by kernel_rfl) (yv_pure tab_ok c_gok rfl rfl c_allT) c_cl rfl rfl ?_
  refine gp_last0 10 #[true, true, true, true, true, true, true, true, true, true, true] rfl (by kernel_rfl) (by simp) rfl (ev_store tab_ok rfl rfl rfl rfl rfl rfl c_one rfl c_ku ?_)
  refine gp_done (by kernel_rfl) ?_; clear hqp_
  rotate_left 1
  intro g_ hg_; refine ⟨c_cl, ?_⟩
  refine gp_rs [0, 7] (by kernel_rfl) rfl (gr_ev 0 #[true, true, true, true, true, true, true, false, false, false, false] rfl rfl rfl rfl rfl (ev_yv (l := []) rfl (yv_pure tab_ok (gok_none rfl) rfl rfl (fun _ => allT_of rfl)) ⟨c_cl, ?_⟩) (gr_last 7 #[false, true, true, true, true, true, true, true, false, false, false] rfl rfl (by simp) rfl rfl (ev_append tab_ok rfl rfl rfl rfl rfl rfl rfl rfl c_oa ho c_src c_lim c_lim ?_) gr_nil))
  (refine gp_last 7 #[true, true, true, true, true, true, true, true, false, false, false] rfl (by kernel_rfl) (by simp) rfl rfl (ev_append tab_ok rfl rfl rfl rfl rfl rfl rfl rfl c_oa ho c_src c_lim c_lim ?_); intro p_ c_ sp_ hw_)
  refine gp_take 8 #[true, true, true, true, true, true, true, true, true, false, false] hqp_ rfl (by kernel_rfl) (yv_pure tab_ok c_gok rfl rfl c_allT) c_cl rfl rfl ?_
  refine gp_take 9 #[true, true, true, true, true, true, true, true, true, true, false] hqp_ rfl (by kernel_rfl) (yv_pure tab_ok c_gok rfl rfl c_allT) c_cl rfl rfl ?_
  refine gp_last0 10 #[true, true, true, true, true, true, true, true, true, true, true] rfl (by kernel_rfl) (by simp) rfl (ev_store tab_ok rfl rfl rfl rfl rfl rfl c_one rfl c_ku ?_)
  refine gp_done (by kernel_rfl) ?_; clear hqp_
  rotate_left 1
  intro p_ c_ sp_ hw_
  refine gp_take 0 #[true, true, true, true, true, true, true, true, false, false, false] hqp_ rfl (by kernel_rfl) (yv_pure tab_ok c_gok rfl rfl c_allT) c_cl rfl rfl ?_
  refine gp_take 8 #[true, true, true, true, true, true, true, true, true, false, false] hqp_ rfl (by kernel_rfl) (yv_pure tab_ok c_gok rfl rfl c_allT) c_cl rfl rfl ?_
  refine gp_take 9 #[true, true, true, true, true, true, true, true, true, true, false] hqp_ rfl (by kernel_rfl) (yv_pure tab_ok c_gok rfl rfl c_allT) c_cl rfl rfl ?_
  refine gp_last0 10 #[true, true, true, true, true, true, true, true, true, true, true] rfl (by kernel_rfl) (by simp) rfl (ev_store tab_ok rfl rfl rfl rfl rfl rfl c_one rfl c_ku ?_)
  refine gp_done (by kernel_rfl) ?_; clear hqp_
  all_goals
    repeat' first
      | (refine gl_gate ?_; first
        | refine gl_nil ?_
        | (refine gl_load0 ?_; refine gl_yv (yv_load tab_ok (gok_none rfl) rfl rfl (fun _ => rfl) c_mem (fun _ => c_lds)) rfl rfl ?_)
        | (refine gl_add0 ?_; refine gl_yv (yv_add tab_ok (gok_none rfl) rfl rfl rfl rfl (fun _ => allT_of rfl) (by intro _; omega)) rfl rfl ?_)
        | (refine gl_sub0 ?_; refine gl_yv (yv_sub tab_ok (gok_none rfl) rfl rfl rfl rfl (fun _ => allT_of rfl) (by intro _; omega)) rfl rfl ?_)
        | (refine gl_idx0 ?_; refine gl_yv (yv_idxC tab_ok (gok_none rfl) rfl rfl rfl rfl rfl (fun _ => rfl) (fun _ => rfl) c_bnd) rfl rfl ?_)
        | (refine gl_bld0 ?_; (refine gl_ev (ev_buildSlice tab_ok rfl rfl rfl rfl rfl rfl rfl rfl rfl rfl ?_) rfl rfl; intro g_ hg_))
        | (refine gl_mul0 ?_; refine gl_yv (yv_mul tab_ok (gok_none rfl) rfl rfl rfl rfl (fun _ => allT_of rfl) c_bnd) rfl rfl ?_)
        | (refine gl_pick0 ?_; first | refine gl_yv (yv_and (gok_none rfl) rfl rfl rfl (fun _ => rfl) c_imp2) rfl rfl ?_ | refine gl_yv (yv_or (gok_none rfl) rfl rfl rfl (fun _ => rfl) c_imp2) rfl rfl ?_)
        | (refine gl_idx0 ?_; refine gl_yv (yv_indexAddr tab_ok (gok_none rfl) rfl rfl rfl rfl rfl (fun _ => rfl) (fun _ => rfl) (by intro _; omega)) rfl rfl ?_)
        | (refine gl_addG ?_; refine gl_yv (yv_add tab_ok c_gok rfl rfl rfl rfl c_allT c_bnd) rfl rfl ?_)
        | (refine gl_subG ?_; refine gl_yv (yv_sub tab_ok c_gok rfl rfl rfl rfl c_allT c_bnd) rfl rfl ?_)
        | (refine gl_loadG ?_; refine gl_yv (yv_load tab_ok c_gok rfl rfl c_imp c_mem (fun _ => c_lds)) rfl rfl ?_)
        | (refine gl_pickG ?_; first | refine gl_yv (yv_and c_gok rfl rfl rfl c_imp c_imp2) rfl rfl ?_ | refine gl_yv (yv_or c_gok rfl rfl rfl c_imp c_imp2) rfl rfl ?_)
        | (refine gl_idxG ?_; refine gl_yv (yv_indexAddr tab_ok c_gok rfl rfl rfl rfl rfl c_imp c_imp c_bnd) rfl rfl ?_)
        | (refine gl_box0 ?_; first | (refine gl_box_agg rfl rfl rfl rfl rfl ?_; intro g_ hg_) | (refine gl_box_one rfl rfl rfl rfl rfl rfl ?_; intro g_ hg_) | (refine gl_box rfl rfl rfl rfl rfl ?_; intro g_ hg_))
        | (refine gl_alc0 ?_; (refine gl_alloc tab_ok rfl rfl rfl rfl rfl ?_; intro g_ hg_))
        | (refine gl_sto0 ?_; refine gl_store tab_ok rfl rfl rfl rfl rfl rfl rfl c_one rfl c_ku ?_)
        | (refine gl_any0 ?_; refine gl_pure tab_ok rfl rfl rfl rfl rfl rfl ?_)
        | (refine gl_any0 ?_; first | refine gl_yv (yv_shr tab_ok (gok_none rfl) rfl rfl rfl (fun _ => rfl) (fun _ => rfl) c_bnd) rfl rfl ?_ | refine gl_yv (yv_rem tab_ok (gok_none rfl) rfl rfl rfl (fun _ => rfl) (fun _ => rfl) c_bnd) rfl rfl ?_ | refine gl_yv (yv_indexS tab_ok (gok_none rfl) rfl rfl rfl rfl (fun _ => rfl) (fun _ => rfl) c_bnd) rfl rfl ?_ | refine gl_yv (yv_sliceH tab_ok (gok_none rfl) rfl rfl rfl rfl rfl (fun _ => rfl) (fun _ => rfl) c_bnd) rfl rfl ?_)
        | (refine gl_arr0 ?_; refine gl_yv (yv_buildA tab_ok (gok_none rfl) rfl rfl rfl rfl (fun _ => allT_of rfl) rfl) rfl rfl ?_)
        | (refine gl_eqS ?_; first | refine gl_yv (yv_eqS tab_ok eqs_ok c_gok rfl rfl rfl rfl c_allT rfl rfl rfl) rfl rfl ?_)
        | (refine gl_neS ?_; first | refine gl_yv (yv_neS tab_ok eqs_ok c_gok rfl rfl rfl rfl c_allT rfl rfl rfl) rfl rfl ?_)
        | (refine gl_anyG ?_; first | refine gl_yv (yv_pure tab_ok c_gok rfl rfl c_allT) rfl rfl ?_ | refine gl_yv (yv_indexS tab_ok c_gok rfl rfl rfl rfl c_imp c_imp (by intro hq_; (try simp only [Bool.and_eq_true, Bool.not_eq_true', Bool.not_eq_false', Bool.or_eq_false_iff, Bool.or_eq_true, decide_eq_true_eq, decide_eq_false_iff_not, Bool.true_and, Bool.and_true] at hq_); omega)) rfl rfl ?_ | refine gl_yv (yv_indexS (i := 0) tab_ok c_gok rfl rfl rfl rfl c_imp c_imp (by intro hq_; (try simp only [Bool.and_eq_true, Bool.not_eq_true', Bool.not_eq_false', Bool.or_eq_false_iff, Bool.or_eq_true, decide_eq_true_eq, decide_eq_false_iff_not, Bool.true_and, Bool.and_true] at hq_); omega)) rfl rfl ?_))
      | (refine gc_gate ?_; first
        | refine gc_seq ?_
        | refine gc_region ?_
        | refine gc_quietRo rfl mixed (by decide +kernel) ?_
        | refine gc_true rfl ?_
        | refine gc_false rfl ?_
        | (refine gc_cond rfl ?_ ?_ <;> intro h_ <;> have hd_ := h_ <;> (try simp only [bytes_beq, cell_beq, val_beq, stamp_beq, decide_eq_true_eq, decide_eq_false_iff_not, Bool.and_eq_true, Bool.or_eq_true, Bool.or_eq_false_iff, Bool.not_eq_true', Bool.not_eq_false', Bool.not_true, Bool.not_false, Bool.false_or, Bool.true_and, Bool.and_true, Bool.or_false, beq_iff_eq, bne_iff_ne, beq_eq_false_iff_ne, bne_eq_false_iff_eq, ne_eq, Bool.false_eq_true, reduceCtorEq] at hd_) <;> (try (exfalso; omega)))
        | refine gc_block ?_
        | refine gc_exit ?_
        | refine gc_ret ?_
        | refine gc_skip ?_
        | refine gc_label ?_)
      | (refine ge_gate ?_; first
        | ((with_reducible refine ge_gT ?_); first | with_reducible refine ge_then ?_ | with_reducible refine ge_then_exit ?_ | with_reducible refine ge_then_ret ?_)
        | ((with_reducible refine ge_gK ?_); first | with_reducible refine ge_block ?_ | refine ge_block_exit ?_ | refine ge_block_pass rfl ?_ | with_reducible refine ge_block_ret ?_)
        | ((with_reducible refine ge_gB ?_); first | refine ge_ret1 tab_ok rfl c_rvt ?_ | refine ge_end1 tab_ok rfl c_rvt ?_ | refine ge_ret2 tab_ok rfl c_rvt c_rvt ?_ | refine ge_ret_none rfl ?_ | refine ge_end_none rfl ?_))
      | (refine gq_gate ?_; first
        | refine gq_nil ?_
        | (refine gq_load0 ?_; refine gq_yv (yv_load tab_ok (gok_none rfl) rfl rfl (fun _ => rfl) c_mem (fun _ => c_lds)) rfl rfl ?_)
        | (refine gq_add0 ?_; refine gq_yv (yv_add tab_ok (gok_none rfl) rfl rfl rfl rfl (fun _ => allT_of rfl) (by intro _; omega)) rfl rfl ?_)
        | (refine gq_sub0 ?_; refine gq_yv (yv_sub tab_ok (gok_none rfl) rfl rfl rfl rfl (fun _ => allT_of rfl) (by intro _; omega)) rfl rfl ?_)
        | (refine gq_idx0 ?_; refine gq_yv (yv_idxC tab_ok (gok_none rfl) rfl rfl rfl rfl rfl (fun _ => rfl) (fun _ => rfl) c_bnd) rfl rfl ?_)
        | (refine gq_pick0 ?_; first | refine gq_yv (yv_and (gok_none rfl) rfl rfl rfl (fun _ => rfl) c_imp2) rfl rfl ?_ | refine gq_yv (yv_or (gok_none rfl) rfl rfl rfl (fun _ => rfl) c_imp2) rfl rfl ?_)
        | (refine gq_idx0 ?_; refine gq_yv (yv_indexAddr tab_ok (gok_none rfl) rfl rfl rfl rfl rfl (fun _ => rfl) (fun _ => rfl) (by intro _; omega)) rfl rfl ?_)
        | (refine gq_addG ?_; refine gq_yv (yv_add tab_ok c_gok rfl rfl rfl rfl c_allT c_bnd) rfl rfl ?_)
        | (refine gq_subG ?_; refine gq_yv (yv_sub tab_ok c_gok rfl rfl rfl rfl c_allT c_bnd) rfl rfl ?_)
        | (refine gq_loadG ?_; refine gq_yv (yv_load tab_ok c_gok rfl rfl c_imp c_mem (fun _ => c_lds)) rfl rfl ?_)
        | (refine gq_pickG ?_; first | refine gq_yv (yv_and c_gok rfl rfl rfl c_imp c_imp2) rfl rfl ?_ | refine gq_yv (yv_or c_gok rfl rfl rfl c_imp c_imp2) rfl rfl ?_)
        | (refine gq_idxG ?_; refine gq_yv (yv_indexAddr tab_ok c_gok rfl rfl rfl rfl rfl c_imp c_imp c_bnd) rfl rfl ?_)
        | (refine gq_any0 ?_; refine gq_pure tab_ok rfl rfl rfl rfl rfl rfl ?_)
        | (refine gq_any0 ?_; first | refine gq_yv (yv_shr tab_ok (gok_none rfl) rfl rfl rfl (fun _ => rfl) (fun _ => rfl) c_bnd) rfl rfl ?_ | refine gq_yv (yv_rem tab_ok (gok_none rfl) rfl rfl rfl (fun _ => rfl) (fun _ => rfl) c_bnd) rfl rfl ?_ | refine gq_yv (yv_indexS tab_ok (gok_none rfl) rfl rfl rfl rfl (fun _ => rfl) (fun _ => rfl) c_bnd) rfl rfl ?_ | refine gq_yv (yv_sliceH tab_ok (gok_none rfl) rfl rfl rfl rfl rfl (fun _ => rfl) (fun _ => rfl) c_bnd) rfl rfl ?_)
        | (refine gq_arr0 ?_; refine gq_yv (yv_buildA tab_ok (gok_none rfl) rfl rfl rfl rfl (fun _ => allT_of rfl) rfl) rfl rfl ?_)
        | (refine gq_eqS ?_; first | refine gq_yv (yv_eqS tab_ok eqs_ok c_gok rfl rfl rfl rfl c_allT rfl rfl rfl) rfl rfl ?_)
        | (refine gq_neS ?_; first | refine gq_yv (yv_neS tab_ok eqs_ok c_gok rfl rfl rfl rfl c_allT rfl rfl rfl) rfl rfl ?_)
        | (refine gq_anyG ?_; first | refine gq_yv (yv_pure tab_ok c_gok rfl rfl c_allT) rfl rfl ?_ | refine gq_yv (yv_indexS tab_ok c_gok rfl rfl rfl rfl c_imp c_imp (by intro hq_; (try simp only [Bool.and_eq_true, Bool.not_eq_true', Bool.not_eq_false', Bool.or_eq_false_iff, Bool.or_eq_true, decide_eq_true_eq, decide_eq_false_iff_not, Bool.true_and, Bool.and_true] at hq_); omega)) rfl rfl ?_ | refine gq_yv (yv_indexS (i := 0) tab_ok c_gok rfl rfl rfl rfl c_imp c_imp (by intro hq_; (try simp only [Bool.and_eq_true, Bool.not_eq_true', Bool.not_eq_false', Bool.or_eq_false_iff, Bool.or_eq_true, decide_eq_true_eq, decide_eq_false_iff_not, Bool.true_and, Bool.and_true] at hq_); omega)) rfl rfl ?_))
  all_goals
    intro W hW
    have e : cat rep (s.l ++ [x]) = cat rep s.l ++ rep x := cat_snoc _ _
    refine ⟨({ s with l := s.l ++ [x] }, p_, c_, sp_), rfl, ⟨rfl, ?_⟩, ?_⟩
    · show Ow p_ (s.l ++ [x]).length c_ 4 (cat rep (s.l ++ [x])) sp_
      rw [e, List.length_append]
      exact hw_
    · have h := (hW.perm (perm3 _ _ _ _)).drop (List.sublist_append_left _ _)
      show St w M ((g, true, .cells (({ s with l := s.l ++ [x] } : SS).cells p_ c_).toArray 59 (0, 0)) :: (ow p_ true (cat rep (s.l ++ [x]) ++ sp_) 65 ++ [])) W
      rw [e]
      unfold SS.cells
      dsimp only
      rw [List.length_append]
      exact h

/-- The session lies in w as said. -/
structure SIn (s : SS) (g : Nat) (q : Option Nat) (c : Nat) (sp : List Value) (w : World) : Prop where
  k : ∀ e ∈ s.K g q c sp [], w.heap[e.1]? = some e.2.2
  p : (s.K g q c sp []).Pairwise (fun p q => p.1 ≠ q.1)
  o : Ow q s.l.length c 4 (cat rep s.l) sp
/-- A method answers v, and the session is s' then. -/
def RetS (w : World) (s : SS) (g : Nat) (q : Option Nat) (c : Nat) (sp : List Value) (v : Value) (s' : SS) : Ending → World → Prop :=
  RetM w ((s.K g q c sp []).map (·.1)) (fun _ : Option Nat × Nat × List Value => v) (fun y => s'.K g y.1 y.2.1 y.2.2 []) (fun y => Ow y.1 s'.l.length y.2.1 4 (cat rep s'.l) y.2.2)
inductive Sa (s : SS) (g : Nat) (q : Option Nat) (c : Nat) (sp : List Value) : Kl → Kl → Prop
  | hd {K : Kl} : Sa s g q c sp (s.K g q c sp K) K
  | tl {K Kx : Kl} {x : Nat × Bool × Obj} : Sa s g q c sp K Kx → Sa s g q c sp (x :: K) (x :: Kx)
theorem Sa.perm {s : SS} {g : Nat} {q : Option Nat} {c : Nat} {sp : List Value} {K Kx : Kl} (h : Sa s g q c sp K Kx) : K.Perm (s.K g q c sp Kx) := by
  induction h with
  | hd => exact List.Perm.refl _
  | @tl K Kx x h ih =>
    refine (ih.cons x).trans ?_
    show (x :: (s.K g q c sp Kx)).Perm (s.K g q c sp (x :: Kx))
    unfold SS.K
    rw [← List.cons_append, ← List.cons_append]
    exact List.perm_middle.symm
theorem SS.K_app (s : SS) (g : Nat) (q : Option Nat) (c : Nat) (sp : List Value) (K : Kl) : s.K g q c sp [] ++ K = s.K g q c sp K := by simp [SS.K]
theorem SS.K_wr (s : SS) (g : Nat) (q : Option Nat) (c : Nat) (sp : List Value) : ∀ e ∈ s.K g q c sp [], e.2.1 = true := by
  intro e he
  unfold SS.K at he
  rw [List.append_nil] at he
  rcases List.mem_cons.1 he with rfl | he
  · rfl
  · exact ow_wr e he
section
variable {N : Nat} {w0 W : World} {M : List Nat} {F : Fl} {K Kx : Kl} {o : Oper}
theorem SIn.of {s : SS} {g : Nat} {q : Option Nat} {c : Nat} {sp : List Value} (hW : St w0 M (s.K g q c sp Kx) W) (ho : Ow q s.l.length c 4 (cat rep s.l) sp) : SIn s g q c sp W := by
  rw [← SS.K_app] at hW
  exact ⟨fun e he => hW.known e (List.mem_append_left _ he), (List.pairwise_append.1 hW.apart).1, ho⟩
theorem ev_sess {R : Value → Kl → Prop} {f : FuncId} {args : Array Operand} {ts : Array TypeId} {vs : List Value} {ps : List Bool} {s s' : SS} {g : Nat} {q : Option Nat} {c : Nat} {sp : List Value} {v : Value} (hg : o.guard = none) (ho : o.op = .call ⟨.value (.func f), args, ts⟩) (hf : Ent Try.prog f) (hv : vals F args.toList = some vs) (hc : cdl F args.toList = some ps) (hp : ps.all id = true)
    (hk : Sa s g q c sp K Kx) (hw : Ow q s.l.length c 4 (cat rep s.l) sp) (h : ∀ W, SIn s g q c sp W → Calls Try.prog f vs.toArray W (RetS W s g q c sp v s'))
    (hR : ∀ q' c' sp', Ow q' s'.l.length c' 4 (cat rep s'.l) sp' → R v (s'.K g q' c' sp' Kx)) : Ev Try.prog o N w0 M F K R :=
  ev_call hg ho hf hv hc hp fun W hW0 => by
    have hW := hW0.perm hk.perm
    refine (h W (SIn.of hW hw)).mono fun e W' ⟨y, h1, h2, h3⟩ => ⟨v, s'.K g y.1 y.2.1 y.2.2 Kx, h1, ?_, hR _ _ _ h2⟩
    have hap := hW.apart
    rw [← SS.K_app] at hap
    rw [← SS.K_app]
    refine hW.over h3 (fun b hb => ?_) (SS.K_wr _ _ _ _ _) ?_ (fun e he hm => ?_)
    · obtain ⟨⟨b', tr, ob⟩, he, rfl⟩ := List.mem_map.1 hb
      have := SS.K_wr _ _ _ _ _ _ he
      simp only at this
      subst this
      refine mem_wrs (o := ob) ?_
      rw [← SS.K_app]
      exact List.mem_append_left _ he
    · rw [← SS.K_app]; exact List.sublist_append_right _ _
    · obtain ⟨e', he', hee⟩ := List.mem_map.1 hm
      exact (List.pairwise_append.1 hap).2.2 e' he' e he hee
end
def SS.tell (s : SS) (x : Int × Int) : SS := if s.l.length < 8 then { s with l := s.l ++ [x] } else { s with bh := true }
theorem c_sa {P : Prop} (h : P := by repeat first | exact Sa.hd | apply Sa.tl) : P := h
theorem ct_Tell (s : SS) (g c : Nat) (q : Option Nat) (sp : List Value) (x : Int × Int) (w : World) (h : SIn s g q c sp w) (hc : s.l.length ≤ 8) : Calls Try.prog 58 #[.pointer (some ⟨g, 0, none⟩), .agg (rep x).toArray] w (RetS w s g q c sp (.tuple #[]) (s.tell x)) := by
  rcases Nat.lt_or_ge s.l.length 8 with h8 | h8
  · refine (ct_Tell1 s g c q sp x w h.k h.p h.o hc h8).mono fun e w' ⟨y, h1, ⟨h2, h3⟩, h4⟩ => ?_
    have e1 : s.tell x = y.1 := by rw [h2]; simp [SS.tell, h8]
    rw [e1]
    exact ⟨(y.2.1, y.2.2.1, y.2.2.2), h1, h3, h4⟩
  · have e1 : s.tell x = { s with bh := true } := by simp [SS.tell]; omega
    have ho := h.o
    refine enter (args := [_, _]) (M := []) (K := []) Try.func58 rfl Try.ntmps58 rfl (St.refl _ _) ?_
    refine gc_own (s.K g q c sp []) h.k h.p ?_
    unfold RetS
    rw [e1]
    generalize hM : (s.K g q c sp []).map (·.1) = M
    unfold SS.K
    repeat' first
      | (refine gl_gate ?_; first
        | refine gl_nil ?_
        | (refine gl_load0 ?_; refine gl_yv (yv_load tab_ok (gok_none rfl) rfl rfl (fun _ => rfl) c_mem (fun _ => c_lds)) rfl rfl ?_)
        | (refine gl_add0 ?_; refine gl_yv (yv_add tab_ok (gok_none rfl) rfl rfl rfl rfl (fun _ => allT_of rfl) (by intro _; omega)) rfl rfl ?_)
        | (refine gl_sub0 ?_; refine gl_yv (yv_sub tab_ok (gok_none rfl) rfl rfl rfl rfl (fun _ => allT_of rfl) (by intro _; omega)) rfl rfl ?_)
        | (refine gl_idx0 ?_; refine gl_yv (yv_idxC tab_ok (gok_none rfl) rfl rfl rfl rfl rfl (fun _ => rfl) (fun _ => rfl) c_bnd) rfl rfl ?_)
        | (refine gl_bld0 ?_; (refine gl_ev (ev_buildSlice tab_ok rfl rfl rfl rfl rfl rfl rfl rfl rfl rfl ?_) rfl rfl; intro g_ hg_))
        | (refine gl_mul0 ?_; refine gl_yv (yv_mul tab_ok (gok_none rfl) rfl rfl rfl rfl (fun _ => allT_of rfl) c_bnd) rfl rfl ?_)
        | (refine gl_pick0 ?_; first | refine gl_yv (yv_and (gok_none rfl) rfl rfl rfl (fun _ => rfl) c_imp2) rfl rfl ?_ | refine gl_yv (yv_or (gok_none rfl) rfl rfl rfl (fun _ => rfl) c_imp2) rfl rfl ?_)
        | (refine gl_idx0 ?_; refine gl_yv (yv_indexAddr tab_ok (gok_none rfl) rfl rfl rfl rfl rfl (fun _ => rfl) (fun _ => rfl) (by intro _; omega)) rfl rfl ?_)
        | (refine gl_addG ?_; refine gl_yv (yv_add tab_ok c_gok rfl rfl rfl rfl c_allT c_bnd) rfl rfl ?_)
        | (refine gl_subG ?_; refine gl_yv (yv_sub tab_ok c_gok rfl rfl rfl rfl c_allT c_bnd) rfl rfl ?_)
        | (refine gl_loadG ?_; refine gl_yv (yv_load tab_ok c_gok rfl rfl c_imp c_mem (fun _ => c_lds)) rfl rfl ?_)
        | (refine gl_pickG ?_; first | refine gl_yv (yv_and c_gok rfl rfl rfl c_imp c_imp2) rfl rfl ?_ | refine gl_yv (yv_or c_gok rfl rfl rfl c_imp c_imp2) rfl rfl ?_)
        | (refine gl_idxG ?_; refine gl_yv (yv_indexAddr tab_ok c_gok rfl rfl rfl rfl rfl c_imp c_imp c_bnd) rfl rfl ?_)
        | (refine gl_box0 ?_; first | (refine gl_box_agg rfl rfl rfl rfl rfl ?_; intro g_ hg_) | (refine gl_box_one rfl rfl rfl rfl rfl rfl ?_; intro g_ hg_) | (refine gl_box rfl rfl rfl rfl rfl ?_; intro g_ hg_))
        | (refine gl_alc0 ?_; (refine gl_alloc tab_ok rfl rfl rfl rfl rfl ?_; intro g_ hg_))
        | (refine gl_sto0 ?_; refine gl_store tab_ok rfl rfl rfl rfl rfl rfl rfl c_one rfl c_ku ?_)
        | (refine gl_any0 ?_; refine gl_pure tab_ok rfl rfl rfl rfl rfl rfl ?_)
        | (refine gl_any0 ?_; first | refine gl_yv (yv_shr tab_ok (gok_none rfl) rfl rfl rfl (fun _ => rfl) (fun _ => rfl) c_bnd) rfl rfl ?_ | refine gl_yv (yv_rem tab_ok (gok_none rfl) rfl rfl rfl (fun _ => rfl) (fun _ => rfl) c_bnd) rfl rfl ?_ | refine gl_yv (yv_indexS tab_ok (gok_none rfl) rfl rfl rfl rfl (fun _ => rfl) (fun _ => rfl) c_bnd) rfl rfl ?_ | refine gl_yv (yv_sliceH tab_ok (gok_none rfl) rfl rfl rfl rfl rfl (fun _ => rfl) (fun _ => rfl) c_bnd) rfl rfl ?_)
        | (refine gl_arr0 ?_; refine gl_yv (yv_buildA tab_ok (gok_none rfl) rfl rfl rfl rfl (fun _ => allT_of rfl) rfl) rfl rfl ?_)
        | (refine gl_eqS ?_; first | refine gl_yv (yv_eqS tab_ok eqs_ok c_gok rfl rfl rfl rfl c_allT rfl rfl rfl) rfl rfl ?_)
        | (refine gl_neS ?_; first | refine gl_yv (yv_neS tab_ok eqs_ok c_gok rfl rfl rfl rfl c_allT rfl rfl rfl) rfl rfl ?_)
        | (refine gl_anyG ?_; first | refine gl_yv (yv_pure tab_ok c_gok rfl rfl c_allT) rfl rfl ?_ | refine gl_yv (yv_indexS tab_ok c_gok rfl rfl rfl rfl c_imp c_imp (by intro hq_; (try simp only [Bool.and_eq_true, Bool.not_eq_true', Bool.not_eq_false', Bool.or_eq_false_iff, Bool.or_eq_true, decide_eq_true_eq, decide_eq_false_iff_not, Bool.true_and, Bool.and_true] at hq_); omega)) rfl rfl ?_ | refine gl_yv (yv_indexS (i := 0) tab_ok c_gok rfl rfl rfl rfl c_imp c_imp (by intro hq_; (try simp only [Bool.and_eq_true, Bool.not_eq_true', Bool.not_eq_false', Bool.or_eq_false_iff, Bool.or_eq_true, decide_eq_true_eq, decide_eq_false_iff_not, Bool.true_and, Bool.and_true] at hq_); omega)) rfl rfl ?_))
      | (refine gc_gate ?_; first
        | refine gc_seq ?_
        | refine gc_region ?_
        | refine gc_quietRo rfl mixed (by decide +kernel) ?_
        | refine gc_true rfl ?_
        | refine gc_false rfl ?_
        | (refine gc_cond rfl ?_ ?_ <;> intro h_ <;> have hd_ := h_ <;> (try simp only [bytes_beq, cell_beq, val_beq, stamp_beq, decide_eq_true_eq, decide_eq_false_iff_not, Bool.and_eq_true, Bool.or_eq_true, Bool.or_eq_false_iff, Bool.not_eq_true', Bool.not_eq_false', Bool.not_true, Bool.not_false, Bool.false_or, Bool.true_and, Bool.and_true, Bool.or_false, beq_iff_eq, bne_iff_ne, beq_eq_false_iff_ne, bne_eq_false_iff_eq, ne_eq, Bool.false_eq_true, reduceCtorEq] at hd_) <;> (try (exfalso; omega)))
        | refine gc_block ?_
        | refine gc_exit ?_
        | refine gc_ret ?_
        | refine gc_skip ?_
        | refine gc_label ?_)
      | (refine ge_gate ?_; first
        | ((with_reducible refine ge_gT ?_); first | with_reducible refine ge_then ?_ | with_reducible refine ge_then_exit ?_ | with_reducible refine ge_then_ret ?_)
        | ((with_reducible refine ge_gK ?_); first | with_reducible refine ge_block ?_ | refine ge_block_exit ?_ | refine ge_block_pass rfl ?_ | with_reducible refine ge_block_ret ?_)
        | ((with_reducible refine ge_gB ?_); first | refine ge_ret1 tab_ok rfl c_rvt ?_ | refine ge_end1 tab_ok rfl c_rvt ?_ | refine ge_ret2 tab_ok rfl c_rvt c_rvt ?_ | refine ge_ret_none rfl ?_ | refine ge_end_none rfl ?_))
      | (refine gq_gate ?_; first
        | refine gq_nil ?_
        | (refine gq_load0 ?_; refine gq_yv (yv_load tab_ok (gok_none rfl) rfl rfl (fun _ => rfl) c_mem (fun _ => c_lds)) rfl rfl ?_)
        | (refine gq_add0 ?_; refine gq_yv (yv_add tab_ok (gok_none rfl) rfl rfl rfl rfl (fun _ => allT_of rfl) (by intro _; omega)) rfl rfl ?_)
        | (refine gq_sub0 ?_; refine gq_yv (yv_sub tab_ok (gok_none rfl) rfl rfl rfl rfl (fun _ => allT_of rfl) (by intro _; omega)) rfl rfl ?_)
        | (refine gq_idx0 ?_; refine gq_yv (yv_idxC tab_ok (gok_none rfl) rfl rfl rfl rfl rfl (fun _ => rfl) (fun _ => rfl) c_bnd) rfl rfl ?_)
        | (refine gq_pick0 ?_; first | refine gq_yv (yv_and (gok_none rfl) rfl rfl rfl (fun _ => rfl) c_imp2) rfl rfl ?_ | refine gq_yv (yv_or (gok_none rfl) rfl rfl rfl (fun _ => rfl) c_imp2) rfl rfl ?_)
        | (refine gq_idx0 ?_; refine gq_yv (yv_indexAddr tab_ok (gok_none rfl) rfl rfl rfl rfl rfl (fun _ => rfl) (fun _ => rfl) (by intro _; omega)) rfl rfl ?_)
        | (refine gq_addG ?_; refine gq_yv (yv_add tab_ok c_gok rfl rfl rfl rfl c_allT c_bnd) rfl rfl ?_)
        | (refine gq_subG ?_; refine gq_yv (yv_sub tab_ok c_gok rfl rfl rfl rfl c_allT c_bnd) rfl rfl ?_)
        | (refine gq_loadG ?_; refine gq_yv (yv_load tab_ok c_gok rfl rfl c_imp c_mem (fun _ => c_lds)) rfl rfl ?_)
        | (refine gq_pickG ?_; first | refine gq_yv (yv_and c_gok rfl rfl rfl c_imp c_imp2) rfl rfl ?_ | refine gq_yv (yv_or c_gok rfl rfl rfl c_imp c_imp2) rfl rfl ?_)
        | (refine gq_idxG ?_; refine gq_yv (yv_indexAddr tab_ok c_gok rfl rfl rfl rfl rfl c_imp c_imp c_bnd) rfl rfl ?_)
        | (refine gq_any0 ?_; refine gq_pure tab_ok rfl rfl rfl rfl rfl rfl ?_)
        | (refine gq_any0 ?_; first | refine gq_yv (yv_shr tab_ok (gok_none rfl) rfl rfl rfl (fun _ => rfl) (fun _ => rfl) c_bnd) rfl rfl ?_ | refine gq_yv (yv_rem tab_ok (gok_none rfl) rfl rfl rfl (fun _ => rfl) (fun _ => rfl) c_bnd) rfl rfl ?_ | refine gq_yv (yv_indexS tab_ok (gok_none rfl) rfl rfl rfl rfl (fun _ => rfl) (fun _ => rfl) c_bnd) rfl rfl ?_ | refine gq_yv (yv_sliceH tab_ok (gok_none rfl) rfl rfl rfl rfl rfl (fun _ => rfl) (fun _ => rfl) c_bnd) rfl rfl ?_)
        | (refine gq_arr0 ?_; refine gq_yv (yv_buildA tab_ok (gok_none rfl) rfl rfl rfl rfl (fun _ => allT_of rfl) rfl) rfl rfl ?_)
        | (refine gq_eqS ?_; first | refine gq_yv (yv_eqS tab_ok eqs_ok c_gok rfl rfl rfl rfl c_allT rfl rfl rfl) rfl rfl ?_)
        | (refine gq_neS ?_; first | refine gq_yv (yv_neS tab_ok eqs_ok c_gok rfl rfl rfl rfl c_allT rfl rfl rfl) rfl rfl ?_)
        | (refine gq_anyG ?_; first | refine gq_yv (yv_pure tab_ok c_gok rfl rfl c_allT) rfl rfl ?_ | refine gq_yv (yv_indexS tab_ok c_gok rfl rfl rfl rfl c_imp c_imp (by intro hq_; (try simp only [Bool.and_eq_true, Bool.not_eq_true', Bool.not_eq_false', Bool.or_eq_false_iff, Bool.or_eq_true, decide_eq_true_eq, decide_eq_false_iff_not, Bool.true_and, Bool.and_true] at hq_); omega)) rfl rfl ?_ | refine gq_yv (yv_indexS (i := 0) tab_ok c_gok rfl rfl rfl rfl c_imp c_imp (by intro hq_; (try simp only [Bool.and_eq_true, Bool.not_eq_true', Bool.not_eq_false', Bool.or_eq_false_iff, Bool.or_eq_true, decide_eq_true_eq, decide_eq_false_iff_not, Bool.true_and, Bool.and_true] at hq_); omega)) rfl rfl ?_))
    intro W hW
    refine ⟨(q, c, sp), rfl, ho, ?_⟩
    exact hW.drop c_sub
theorem ct_snap (s : SS) (g c : Nat) (q : Option Nat) (sp : List Value) (v : Int) (w : World) (h : SIn s g q c sp w) : Calls Try.prog 146 #[.pointer (some ⟨g, 0, none⟩), .int .i64 v, .slice none 0 0] w (RetS w s g q c sp (.agg (rep (2, v)).toArray) s) := by
  have ho := h.o
  refine enter (args := [_, _, _]) (M := []) (K := []) Try.func146 rfl Try.ntmps146 rfl (St.refl _ _) ?_
  refine gc_own (s.K g q c sp []) h.k h.p ?_
  unfold RetS
  generalize hM : (s.K g q c sp []).map (·.1) = M
  unfold SS.K
  repeat' first
    | (refine gl_gate ?_; first
      | refine gl_nil ?_
      | (refine gl_load0 ?_; refine gl_yv (yv_load tab_ok (gok_none rfl) rfl rfl (fun _ => rfl) c_mem (fun _ => c_lds)) rfl rfl ?_)
      | (refine gl_add0 ?_; refine gl_yv (yv_add tab_ok (gok_none rfl) rfl rfl rfl rfl (fun _ => allT_of rfl) (by intro _; omega)) rfl rfl ?_)
      | (refine gl_sub0 ?_; refine gl_yv (yv_sub tab_ok (gok_none rfl) rfl rfl rfl rfl (fun _ => allT_of rfl) (by intro _; omega)) rfl rfl ?_)
      | (refine gl_idx0 ?_; refine gl_yv (yv_idxC tab_ok (gok_none rfl) rfl rfl rfl rfl rfl (fun _ => rfl) (fun _ => rfl) c_bnd) rfl rfl ?_)
      | (refine gl_bld0 ?_; (refine gl_ev (ev_buildSlice tab_ok rfl rfl rfl rfl rfl rfl rfl rfl rfl rfl ?_) rfl rfl; intro g_ hg_))
      | (refine gl_mul0 ?_; refine gl_yv (yv_mul tab_ok (gok_none rfl) rfl rfl rfl rfl (fun _ => allT_of rfl) c_bnd) rfl rfl ?_)
      | (refine gl_calv0 ?_; first | refine gl_yd (yd_call (gok_none rfl) rfl ent103 rfl rfl (fun _ => allT_of rfl) (fun _ W hW => ct_SeeNil s.a s.b W)) rfl rfl ?_ | refine gl_yd (yd_call (gok_none rfl) rfl ent147 rfl rfl (fun _ => allT_of rfl) (fun _ W hW => ct_CloneNil W)) rfl rfl ?_)
      | (refine gl_calvG ?_; first | refine gl_yd (yd_call c_gok rfl ent103 rfl rfl c_allT (fun _ W hW => ct_SeeNil s.a s.b W)) rfl rfl ?_ | refine gl_yd (yd_call c_gok rfl ent147 rfl rfl c_allT (fun _ W hW => ct_CloneNil W)) rfl rfl ?_)
      | (refine gl_pick0 ?_; first | refine gl_yv (yv_and (gok_none rfl) rfl rfl rfl (fun _ => rfl) c_imp2) rfl rfl ?_ | refine gl_yv (yv_or (gok_none rfl) rfl rfl rfl (fun _ => rfl) c_imp2) rfl rfl ?_)
      | (refine gl_idx0 ?_; refine gl_yv (yv_indexAddr tab_ok (gok_none rfl) rfl rfl rfl rfl rfl (fun _ => rfl) (fun _ => rfl) (by intro _; omega)) rfl rfl ?_)
      | (refine gl_addG ?_; refine gl_yv (yv_add tab_ok c_gok rfl rfl rfl rfl c_allT c_bnd) rfl rfl ?_)
      | (refine gl_subG ?_; refine gl_yv (yv_sub tab_ok c_gok rfl rfl rfl rfl c_allT c_bnd) rfl rfl ?_)
      | (refine gl_loadG ?_; refine gl_yv (yv_load tab_ok c_gok rfl rfl c_imp c_mem (fun _ => c_lds)) rfl rfl ?_)
      | (refine gl_pickG ?_; first | refine gl_yv (yv_and c_gok rfl rfl rfl c_imp c_imp2) rfl rfl ?_ | refine gl_yv (yv_or c_gok rfl rfl rfl c_imp c_imp2) rfl rfl ?_)
      | (refine gl_idxG ?_; refine gl_yv (yv_indexAddr tab_ok c_gok rfl rfl rfl rfl rfl c_imp c_imp c_bnd) rfl rfl ?_)
      | (refine gl_box0 ?_; first | (refine gl_box_agg rfl rfl rfl rfl rfl ?_; intro g_ hg_) | (refine gl_box_one rfl rfl rfl rfl rfl rfl ?_; intro g_ hg_) | (refine gl_box rfl rfl rfl rfl rfl ?_; intro g_ hg_))
      | (refine gl_alc0 ?_; (refine gl_alloc tab_ok rfl rfl rfl rfl rfl ?_; intro g_ hg_))
      | (refine gl_sto0 ?_; refine gl_store tab_ok rfl rfl rfl rfl rfl rfl rfl c_one rfl c_ku ?_)
      | (refine gl_any0 ?_; refine gl_pure tab_ok rfl rfl rfl rfl rfl rfl ?_)
      | (refine gl_any0 ?_; first | refine gl_yv (yv_shr tab_ok (gok_none rfl) rfl rfl rfl (fun _ => rfl) (fun _ => rfl) c_bnd) rfl rfl ?_ | refine gl_yv (yv_rem tab_ok (gok_none rfl) rfl rfl rfl (fun _ => rfl) (fun _ => rfl) c_bnd) rfl rfl ?_ | refine gl_yv (yv_indexS tab_ok (gok_none rfl) rfl rfl rfl rfl (fun _ => rfl) (fun _ => rfl) c_bnd) rfl rfl ?_ | refine gl_yv (yv_sliceH tab_ok (gok_none rfl) rfl rfl rfl rfl rfl (fun _ => rfl) (fun _ => rfl) c_bnd) rfl rfl ?_)
      | (refine gl_arr0 ?_; refine gl_yv (yv_buildA tab_ok (gok_none rfl) rfl rfl rfl rfl (fun _ => allT_of rfl) rfl) rfl rfl ?_)
      | (refine gl_eqS ?_; first | refine gl_yv (yv_eqS tab_ok eqs_ok c_gok rfl rfl rfl rfl c_allT rfl rfl rfl) rfl rfl ?_)
      | (refine gl_neS ?_; first | refine gl_yv (yv_neS tab_ok eqs_ok c_gok rfl rfl rfl rfl c_allT rfl rfl rfl) rfl rfl ?_)
      | (refine gl_anyG ?_; first | refine gl_yv (yv_pure tab_ok c_gok rfl rfl c_allT) rfl rfl ?_ | refine gl_yv (yv_indexS tab_ok c_gok rfl rfl rfl rfl c_imp c_imp (by intro hq_; (try simp only [Bool.and_eq_true, Bool.not_eq_true', Bool.not_eq_false', Bool.or_eq_false_iff, Bool.or_eq_true, decide_eq_true_eq, decide_eq_false_iff_not, Bool.true_and, Bool.and_true] at hq_); omega)) rfl rfl ?_ | refine gl_yv (yv_indexS (i := 0) tab_ok c_gok rfl rfl rfl rfl c_imp c_imp (by intro hq_; (try simp only [Bool.and_eq_true, Bool.not_eq_true', Bool.not_eq_false', Bool.or_eq_false_iff, Bool.or_eq_true, decide_eq_true_eq, decide_eq_false_iff_not, Bool.true_and, Bool.and_true] at hq_); omega)) rfl rfl ?_))
    | (refine gc_gate ?_; first
      | refine gc_seq ?_
      | refine gc_region ?_
      | refine gc_quietRo rfl mixed (by decide +kernel) ?_
      | refine gc_true rfl ?_
      | refine gc_false rfl ?_
      | (refine gc_cond rfl ?_ ?_ <;> intro h_ <;> have hd_ := h_ <;> (try simp only [bytes_beq, cell_beq, val_beq, stamp_beq, decide_eq_true_eq, decide_eq_false_iff_not, Bool.and_eq_true, Bool.or_eq_true, Bool.or_eq_false_iff, Bool.not_eq_true', Bool.not_eq_false', Bool.not_true, Bool.not_false, Bool.false_or, Bool.true_and, Bool.and_true, Bool.or_false, beq_iff_eq, bne_iff_ne, beq_eq_false_iff_ne, bne_eq_false_iff_eq, ne_eq, Bool.false_eq_true, reduceCtorEq] at hd_) <;> (try (exfalso; omega)))
      | refine gc_block ?_
      | refine gc_exit ?_
      | refine gc_ret ?_
      | refine gc_skip ?_
      | refine gc_label ?_)
    | (refine ge_gate ?_; first
      | ((with_reducible refine ge_gT ?_); first | with_reducible refine ge_then ?_ | with_reducible refine ge_then_exit ?_ | with_reducible refine ge_then_ret ?_)
      | ((with_reducible refine ge_gK ?_); first | with_reducible refine ge_block ?_ | refine ge_block_exit ?_ | refine ge_block_pass rfl ?_ | with_reducible refine ge_block_ret ?_)
      | ((with_reducible refine ge_gB ?_); first | refine ge_ret1 tab_ok rfl c_rvt ?_ | refine ge_end1 tab_ok rfl c_rvt ?_ | refine ge_ret2 tab_ok rfl c_rvt c_rvt ?_ | refine ge_ret_none rfl ?_ | refine ge_end_none rfl ?_))
    | (refine gq_gate ?_; first
      | refine gq_nil ?_
      | (refine gq_load0 ?_; refine gq_yv (yv_load tab_ok (gok_none rfl) rfl rfl (fun _ => rfl) c_mem (fun _ => c_lds)) rfl rfl ?_)
      | (refine gq_add0 ?_; refine gq_yv (yv_add tab_ok (gok_none rfl) rfl rfl rfl rfl (fun _ => allT_of rfl) (by intro _; omega)) rfl rfl ?_)
      | (refine gq_sub0 ?_; refine gq_yv (yv_sub tab_ok (gok_none rfl) rfl rfl rfl rfl (fun _ => allT_of rfl) (by intro _; omega)) rfl rfl ?_)
      | (refine gq_idx0 ?_; refine gq_yv (yv_idxC tab_ok (gok_none rfl) rfl rfl rfl rfl rfl (fun _ => rfl) (fun _ => rfl) c_bnd) rfl rfl ?_)
      | (refine gq_calv0 ?_; first | refine gq_yd (yd_call (gok_none rfl) rfl ent103 rfl rfl (fun _ => allT_of rfl) (fun _ W hW => ct_SeeNil s.a s.b W)) rfl rfl ?_ | refine gq_yd (yd_call (gok_none rfl) rfl ent147 rfl rfl (fun _ => allT_of rfl) (fun _ W hW => ct_CloneNil W)) rfl rfl ?_)
      | (refine gq_calvG ?_; first | refine gq_yd (yd_call c_gok rfl ent103 rfl rfl c_allT (fun _ W hW => ct_SeeNil s.a s.b W)) rfl rfl ?_ | refine gq_yd (yd_call c_gok rfl ent147 rfl rfl c_allT (fun _ W hW => ct_CloneNil W)) rfl rfl ?_)
      | (refine gq_pick0 ?_; first | refine gq_yv (yv_and (gok_none rfl) rfl rfl rfl (fun _ => rfl) c_imp2) rfl rfl ?_ | refine gq_yv (yv_or (gok_none rfl) rfl rfl rfl (fun _ => rfl) c_imp2) rfl rfl ?_)
      | (refine gq_idx0 ?_; refine gq_yv (yv_indexAddr tab_ok (gok_none rfl) rfl rfl rfl rfl rfl (fun _ => rfl) (fun _ => rfl) (by intro _; omega)) rfl rfl ?_)
      | (refine gq_addG ?_; refine gq_yv (yv_add tab_ok c_gok rfl rfl rfl rfl c_allT c_bnd) rfl rfl ?_)
      | (refine gq_subG ?_; refine gq_yv (yv_sub tab_ok c_gok rfl rfl rfl rfl c_allT c_bnd) rfl rfl ?_)
      | (refine gq_loadG ?_; refine gq_yv (yv_load tab_ok c_gok rfl rfl c_imp c_mem (fun _ => c_lds)) rfl rfl ?_)
      | (refine gq_pickG ?_; first | refine gq_yv (yv_and c_gok rfl rfl rfl c_imp c_imp2) rfl rfl ?_ | refine gq_yv (yv_or c_gok rfl rfl rfl c_imp c_imp2) rfl rfl ?_)
      | (refine gq_idxG ?_; refine gq_yv (yv_indexAddr tab_ok c_gok rfl rfl rfl rfl rfl c_imp c_imp c_bnd) rfl rfl ?_)
      | (refine gq_any0 ?_; refine gq_pure tab_ok rfl rfl rfl rfl rfl rfl ?_)
      | (refine gq_any0 ?_; first | refine gq_yv (yv_shr tab_ok (gok_none rfl) rfl rfl rfl (fun _ => rfl) (fun _ => rfl) c_bnd) rfl rfl ?_ | refine gq_yv (yv_rem tab_ok (gok_none rfl) rfl rfl rfl (fun _ => rfl) (fun _ => rfl) c_bnd) rfl rfl ?_ | refine gq_yv (yv_indexS tab_ok (gok_none rfl) rfl rfl rfl rfl (fun _ => rfl) (fun _ => rfl) c_bnd) rfl rfl ?_ | refine gq_yv (yv_sliceH tab_ok (gok_none rfl) rfl rfl rfl rfl rfl (fun _ => rfl) (fun _ => rfl) c_bnd) rfl rfl ?_)
      | (refine gq_arr0 ?_; refine gq_yv (yv_buildA tab_ok (gok_none rfl) rfl rfl rfl rfl (fun _ => allT_of rfl) rfl) rfl rfl ?_)
      | (refine gq_eqS ?_; first | refine gq_yv (yv_eqS tab_ok eqs_ok c_gok rfl rfl rfl rfl c_allT rfl rfl rfl) rfl rfl ?_)
      | (refine gq_neS ?_; first | refine gq_yv (yv_neS tab_ok eqs_ok c_gok rfl rfl rfl rfl c_allT rfl rfl rfl) rfl rfl ?_)
      | (refine gq_anyG ?_; first | refine gq_yv (yv_pure tab_ok c_gok rfl rfl c_allT) rfl rfl ?_ | refine gq_yv (yv_indexS tab_ok c_gok rfl rfl rfl rfl c_imp c_imp (by intro hq_; (try simp only [Bool.and_eq_true, Bool.not_eq_true', Bool.not_eq_false', Bool.or_eq_false_iff, Bool.or_eq_true, decide_eq_true_eq, decide_eq_false_iff_not, Bool.true_and, Bool.and_true] at hq_); omega)) rfl rfl ?_ | refine gq_yv (yv_indexS (i := 0) tab_ok c_gok rfl rfl rfl rfl c_imp c_imp (by intro hq_; (try simp only [Bool.and_eq_true, Bool.not_eq_true', Bool.not_eq_false', Bool.or_eq_false_iff, Bool.or_eq_true, decide_eq_true_eq, decide_eq_false_iff_not, Bool.true_and, Bool.and_true] at hq_); omega)) rfl rfl ?_))
  intro W hW
  exact ⟨(q, c, sp), rfl, ho, hW.drop c_sub⟩
def SS.watch (s : SS) (a b : Cell) (v : Int) : SS := SS.tell { s with wt := true, a := a, b := b } (2, v)
theorem ct_Watch (s : SS) (g c : Nat) (q : Option Nat) (sp : List Value) (a b : Cell) (v : Int) (w : World) (h : SIn s g q c sp w) (hc : s.l.length ≤ 8) (hs : small400 a b = true) : Calls Try.prog 57 #[.pointer (some ⟨g, 0, none⟩), .agg (a.l ++ b.l).toArray, .int .i64 v, .slice none 0 0] w (RetS w s g q c sp (.int .i64 0) (s.watch a b v)) := by
  have ho := h.o
  have hsm := fun W => ct_addrSmall a b W
  rw [hs] at hsm
  refine enter (args := [_, _, _, _]) (M := []) (K := []) Try.func57 rfl Try.ntmps57 rfl (St.refl _ _) ?_
  refine gc_own (s.K g q c sp []) h.k h.p ?_
  unfold RetS SS.watch
  generalize hM : (s.K g q c sp []).map (·.1) = M
  unfold SS.K
  repeat' first
    | (refine gl_gate ?_; first
      | refine gl_nil ?_
      | (refine gl_load0 ?_; refine gl_yv (yv_load tab_ok (gok_none rfl) rfl rfl (fun _ => rfl) c_mem (fun _ => c_lds)) rfl rfl ?_)
      | (refine gl_add0 ?_; refine gl_yv (yv_add tab_ok (gok_none rfl) rfl rfl rfl rfl (fun _ => allT_of rfl) (by intro _; omega)) rfl rfl ?_)
      | (refine gl_sub0 ?_; refine gl_yv (yv_sub tab_ok (gok_none rfl) rfl rfl rfl rfl (fun _ => allT_of rfl) (by intro _; omega)) rfl rfl ?_)
      | (refine gl_idx0 ?_; refine gl_yv (yv_idxC tab_ok (gok_none rfl) rfl rfl rfl rfl rfl (fun _ => rfl) (fun _ => rfl) c_bnd) rfl rfl ?_)
      | (refine gl_bld0 ?_; (refine gl_ev (ev_buildSlice tab_ok rfl rfl rfl rfl rfl rfl rfl rfl rfl rfl ?_) rfl rfl; intro g_ hg_))
      | (refine gl_mul0 ?_; refine gl_yv (yv_mul tab_ok (gok_none rfl) rfl rfl rfl rfl (fun _ => allT_of rfl) c_bnd) rfl rfl ?_)
      | (refine gl_calv0 ?_; first | refine gl_yd (yd_call (gok_none rfl) rfl ent145 rfl rfl (fun _ => allT_of rfl) (fun _ W hW => hsm W)) rfl rfl ?_)
      | (refine gl_calvG ?_; first | refine gl_yd (yd_call c_gok rfl ent145 rfl rfl c_allT (fun _ W hW => hsm W)) rfl rfl ?_)
      | (refine gl_pick0 ?_; first | refine gl_yv (yv_and (gok_none rfl) rfl rfl rfl (fun _ => rfl) c_imp2) rfl rfl ?_ | refine gl_yv (yv_or (gok_none rfl) rfl rfl rfl (fun _ => rfl) c_imp2) rfl rfl ?_)
      | (refine gl_idx0 ?_; refine gl_yv (yv_indexAddr tab_ok (gok_none rfl) rfl rfl rfl rfl rfl (fun _ => rfl) (fun _ => rfl) (by intro _; omega)) rfl rfl ?_)
      | (refine gl_addG ?_; refine gl_yv (yv_add tab_ok c_gok rfl rfl rfl rfl c_allT c_bnd) rfl rfl ?_)
      | (refine gl_subG ?_; refine gl_yv (yv_sub tab_ok c_gok rfl rfl rfl rfl c_allT c_bnd) rfl rfl ?_)
      | (refine gl_loadG ?_; refine gl_yv (yv_load tab_ok c_gok rfl rfl c_imp c_mem (fun _ => c_lds)) rfl rfl ?_)
      | (refine gl_pickG ?_; first | refine gl_yv (yv_and c_gok rfl rfl rfl c_imp c_imp2) rfl rfl ?_ | refine gl_yv (yv_or c_gok rfl rfl rfl c_imp c_imp2) rfl rfl ?_)
      | (refine gl_idxG ?_; refine gl_yv (yv_indexAddr tab_ok c_gok rfl rfl rfl rfl rfl c_imp c_imp c_bnd) rfl rfl ?_)
      | (refine gl_box0 ?_; first | (refine gl_box_agg rfl rfl rfl rfl rfl ?_; intro g_ hg_) | (refine gl_box_one rfl rfl rfl rfl rfl rfl ?_; intro g_ hg_) | (refine gl_box rfl rfl rfl rfl rfl ?_; intro g_ hg_))
      | (refine gl_alc0 ?_; (refine gl_alloc tab_ok rfl rfl rfl rfl rfl ?_; intro g_ hg_))
      | (refine gl_sto0 ?_; refine gl_store tab_ok rfl rfl rfl rfl rfl rfl rfl c_one rfl c_ku ?_)
      | (refine gl_any0 ?_; refine gl_pure tab_ok rfl rfl rfl rfl rfl rfl ?_)
      | (refine gl_any0 ?_; first | refine gl_yv (yv_shr tab_ok (gok_none rfl) rfl rfl rfl (fun _ => rfl) (fun _ => rfl) c_bnd) rfl rfl ?_ | refine gl_yv (yv_rem tab_ok (gok_none rfl) rfl rfl rfl (fun _ => rfl) (fun _ => rfl) c_bnd) rfl rfl ?_ | refine gl_yv (yv_indexS tab_ok (gok_none rfl) rfl rfl rfl rfl (fun _ => rfl) (fun _ => rfl) c_bnd) rfl rfl ?_ | refine gl_yv (yv_sliceH tab_ok (gok_none rfl) rfl rfl rfl rfl rfl (fun _ => rfl) (fun _ => rfl) c_bnd) rfl rfl ?_)
      | (refine gl_arr0 ?_; refine gl_yv (yv_buildA tab_ok (gok_none rfl) rfl rfl rfl rfl (fun _ => allT_of rfl) rfl) rfl rfl ?_)
      | (refine gl_eqS ?_; first | refine gl_yv (yv_eqS tab_ok eqs_ok c_gok rfl rfl rfl rfl c_allT rfl rfl rfl) rfl rfl ?_)
      | (refine gl_neS ?_; first | refine gl_yv (yv_neS tab_ok eqs_ok c_gok rfl rfl rfl rfl c_allT rfl rfl rfl) rfl rfl ?_)
      | (refine gl_anyG ?_; first | refine gl_yv (yv_pure tab_ok c_gok rfl rfl c_allT) rfl rfl ?_ | refine gl_yv (yv_indexS tab_ok c_gok rfl rfl rfl rfl c_imp c_imp (by intro hq_; (try simp only [Bool.and_eq_true, Bool.not_eq_true', Bool.not_eq_false', Bool.or_eq_false_iff, Bool.or_eq_true, decide_eq_true_eq, decide_eq_false_iff_not, Bool.true_and, Bool.and_true] at hq_); omega)) rfl rfl ?_ | refine gl_yv (yv_indexS (i := 0) tab_ok c_gok rfl rfl rfl rfl c_imp c_imp (by intro hq_; (try simp only [Bool.and_eq_true, Bool.not_eq_true', Bool.not_eq_false', Bool.or_eq_false_iff, Bool.or_eq_true, decide_eq_true_eq, decide_eq_false_iff_not, Bool.true_and, Bool.and_true] at hq_); omega)) rfl rfl ?_))
    | (refine gc_gate ?_; first
      | refine gc_seq ?_
      | refine gc_region ?_
      | refine gc_quietRo rfl mixed (by decide +kernel) ?_
      | refine gc_true rfl ?_
      | refine gc_false rfl ?_
      | (refine gc_cond rfl ?_ ?_ <;> intro h_ <;> have hd_ := h_ <;> (try simp only [bytes_beq, cell_beq, val_beq, stamp_beq, decide_eq_true_eq, decide_eq_false_iff_not, Bool.and_eq_true, Bool.or_eq_true, Bool.or_eq_false_iff, Bool.not_eq_true', Bool.not_eq_false', Bool.not_true, Bool.not_false, Bool.false_or, Bool.true_and, Bool.and_true, Bool.or_false, beq_iff_eq, bne_iff_ne, beq_eq_false_iff_ne, bne_eq_false_iff_eq, ne_eq, Bool.false_eq_true, reduceCtorEq] at hd_) <;> (try (exfalso; omega)))
      | refine gc_block ?_
      | refine gc_exit ?_
      | refine gc_ret ?_
      | refine gc_skip ?_
      | refine gc_label ?_)
    | (refine ge_gate ?_; first
      | ((with_reducible refine ge_gT ?_); first | with_reducible refine ge_then ?_ | with_reducible refine ge_then_exit ?_ | with_reducible refine ge_then_ret ?_)
      | ((with_reducible refine ge_gK ?_); first | with_reducible refine ge_block ?_ | refine ge_block_exit ?_ | refine ge_block_pass rfl ?_ | with_reducible refine ge_block_ret ?_)
      | ((with_reducible refine ge_gB ?_); first | refine ge_ret1 tab_ok rfl c_rvt ?_ | refine ge_end1 tab_ok rfl c_rvt ?_ | refine ge_ret2 tab_ok rfl c_rvt c_rvt ?_ | refine ge_ret_none rfl ?_ | refine ge_end_none rfl ?_))
    | (refine gq_gate ?_; first
      | refine gq_nil ?_
      | (refine gq_load0 ?_; refine gq_yv (yv_load tab_ok (gok_none rfl) rfl rfl (fun _ => rfl) c_mem (fun _ => c_lds)) rfl rfl ?_)
      | (refine gq_add0 ?_; refine gq_yv (yv_add tab_ok (gok_none rfl) rfl rfl rfl rfl (fun _ => allT_of rfl) (by intro _; omega)) rfl rfl ?_)
      | (refine gq_sub0 ?_; refine gq_yv (yv_sub tab_ok (gok_none rfl) rfl rfl rfl rfl (fun _ => allT_of rfl) (by intro _; omega)) rfl rfl ?_)
      | (refine gq_idx0 ?_; refine gq_yv (yv_idxC tab_ok (gok_none rfl) rfl rfl rfl rfl rfl (fun _ => rfl) (fun _ => rfl) c_bnd) rfl rfl ?_)
      | (refine gq_calv0 ?_; first | refine gq_yd (yd_call (gok_none rfl) rfl ent145 rfl rfl (fun _ => allT_of rfl) (fun _ W hW => hsm W)) rfl rfl ?_)
      | (refine gq_calvG ?_; first | refine gq_yd (yd_call c_gok rfl ent145 rfl rfl c_allT (fun _ W hW => hsm W)) rfl rfl ?_)
      | (refine gq_pick0 ?_; first | refine gq_yv (yv_and (gok_none rfl) rfl rfl rfl (fun _ => rfl) c_imp2) rfl rfl ?_ | refine gq_yv (yv_or (gok_none rfl) rfl rfl rfl (fun _ => rfl) c_imp2) rfl rfl ?_)
      | (refine gq_idx0 ?_; refine gq_yv (yv_indexAddr tab_ok (gok_none rfl) rfl rfl rfl rfl rfl (fun _ => rfl) (fun _ => rfl) (by intro _; omega)) rfl rfl ?_)
      | (refine gq_addG ?_; refine gq_yv (yv_add tab_ok c_gok rfl rfl rfl rfl c_allT c_bnd) rfl rfl ?_)
      | (refine gq_subG ?_; refine gq_yv (yv_sub tab_ok c_gok rfl rfl rfl rfl c_allT c_bnd) rfl rfl ?_)
      | (refine gq_loadG ?_; refine gq_yv (yv_load tab_ok c_gok rfl rfl c_imp c_mem (fun _ => c_lds)) rfl rfl ?_)
      | (refine gq_pickG ?_; first | refine gq_yv (yv_and c_gok rfl rfl rfl c_imp c_imp2) rfl rfl ?_ | refine gq_yv (yv_or c_gok rfl rfl rfl c_imp c_imp2) rfl rfl ?_)
      | (refine gq_idxG ?_; refine gq_yv (yv_indexAddr tab_ok c_gok rfl rfl rfl rfl rfl c_imp c_imp c_bnd) rfl rfl ?_)
      | (refine gq_any0 ?_; refine gq_pure tab_ok rfl rfl rfl rfl rfl rfl ?_)
      | (refine gq_any0 ?_; first | refine gq_yv (yv_shr tab_ok (gok_none rfl) rfl rfl rfl (fun _ => rfl) (fun _ => rfl) c_bnd) rfl rfl ?_ | refine gq_yv (yv_rem tab_ok (gok_none rfl) rfl rfl rfl (fun _ => rfl) (fun _ => rfl) c_bnd) rfl rfl ?_ | refine gq_yv (yv_indexS tab_ok (gok_none rfl) rfl rfl rfl rfl (fun _ => rfl) (fun _ => rfl) c_bnd) rfl rfl ?_ | refine gq_yv (yv_sliceH tab_ok (gok_none rfl) rfl rfl rfl rfl rfl (fun _ => rfl) (fun _ => rfl) c_bnd) rfl rfl ?_)
      | (refine gq_arr0 ?_; refine gq_yv (yv_buildA tab_ok (gok_none rfl) rfl rfl rfl rfl (fun _ => allT_of rfl) rfl) rfl rfl ?_)
      | (refine gq_eqS ?_; first | refine gq_yv (yv_eqS tab_ok eqs_ok c_gok rfl rfl rfl rfl c_allT rfl rfl rfl) rfl rfl ?_)
      | (refine gq_neS ?_; first | refine gq_yv (yv_neS tab_ok eqs_ok c_gok rfl rfl rfl rfl c_allT rfl rfl rfl) rfl rfl ?_)
      | (refine gq_anyG ?_; first | refine gq_yv (yv_pure tab_ok c_gok rfl rfl c_allT) rfl rfl ?_ | refine gq_yv (yv_indexS tab_ok c_gok rfl rfl rfl rfl c_imp c_imp (by intro hq_; (try simp only [Bool.and_eq_true, Bool.not_eq_true', Bool.not_eq_false', Bool.or_eq_false_iff, Bool.or_eq_true, decide_eq_true_eq, decide_eq_false_iff_not, Bool.true_and, Bool.and_true] at hq_); omega)) rfl rfl ?_ | refine gq_yv (yv_indexS (i := 0) tab_ok c_gok rfl rfl rfl rfl c_imp c_imp (by intro hq_; (try simp only [Bool.and_eq_true, Bool.not_eq_true', Bool.not_eq_false', Bool.or_eq_false_iff, Bool.or_eq_true, decide_eq_true_eq, decide_eq_false_iff_not, Bool.true_and, Bool.and_true] at hq_); omega)) rfl rfl ?_))
  refine gp_startC (St w M [(g_, true, .cells (a.l ++ b.l).toArray 55 (0, 0))]) c_cl [8] #[false, false, false, false, false, false, false, false, false] mixed rfl rfl c_qp ?_; intro hqp_
  refine gp_take 0 #[true, false, false, false, false, false, false, false, false] hqp_ rfl (by kernel_rfl) (yv_pure tab_ok c_gok rfl rfl c_allT) c_cl rfl rfl ?_
  refine gp_take 1 #[true, true, false, false, false, false, false, false, false] hqp_ rfl (by kernel_rfl) (yv_pure tab_ok c_gok rfl rfl c_allT) c_cl rfl rfl ?_
  refine gp_take 2 #[true, true, true, false, false, false, false, false, false] hqp_ rfl (by kernel_rfl) (yv_load tab_ok c_gok rfl rfl c_imp c_mem (fun _ => c_lds)) c_cl rfl rfl ?_
  refine gp_take 3 #[true, true, true, true, false, false, false, false, false] hqp_ rfl (by kernel_rfl) (yv_pure tab_ok c_gok rfl rfl c_allT) c_cl rfl rfl ?_
  refine gp_take 4 #[true, true, true, true, true, false, false, false, false] hqp_ rfl (by kernel_rfl) (yv_pure tab_ok c_gok rfl rfl c_allT) c_cl rfl rfl ?_
  refine gp_ev0 5 #[true, true, true, true, true, true, false, false, false] rfl (by kernel_rfl) rfl rfl (ev_store tab_ok rfl rfl rfl rfl rfl rfl c_one rfl c_ku ⟨c_cl, ?_⟩)
  refine gp_take 6 #[true, true, true, true, true, true, true, false, false] hqp_ rfl (by kernel_rfl) (yv_pure tab_ok c_gok rfl rfl c_allT) c_cl rfl rfl ?_
  refine gp_take 7 #[true, true, true, true, true, true, true, true, false] hqp_ rfl (by kernel_rfl) (yv_pure tab_ok c_gok rfl rfl c_allT) c_cl rfl rfl ?_
  refine gp_last0 8 #[true, true, true, true, true, true, true, true, true] rfl (by kernel_rfl) (by simp) rfl (ev_store tab_ok rfl rfl rfl rfl rfl rfl c_one rfl c_ku ?_)
  refine gp_done (by kernel_rfl) ?_; clear hqp_
  repeat' first
    | (refine gl_gate ?_; first
      | refine gl_nil ?_
      | (refine gl_load0 ?_; refine gl_yv (yv_load tab_ok (gok_none rfl) rfl rfl (fun _ => rfl) c_mem (fun _ => c_lds)) rfl rfl ?_)
      | (refine gl_add0 ?_; refine gl_yv (yv_add tab_ok (gok_none rfl) rfl rfl rfl rfl (fun _ => allT_of rfl) (by intro _; omega)) rfl rfl ?_)
      | (refine gl_sub0 ?_; refine gl_yv (yv_sub tab_ok (gok_none rfl) rfl rfl rfl rfl (fun _ => allT_of rfl) (by intro _; omega)) rfl rfl ?_)
      | (refine gl_idx0 ?_; refine gl_yv (yv_idxC tab_ok (gok_none rfl) rfl rfl rfl rfl rfl (fun _ => rfl) (fun _ => rfl) c_bnd) rfl rfl ?_)
      | (refine gl_any0 ?_; (refine gl_ev (ev_sess (s := { s with wt := true, a := a, b := b }) (s' := { s with wt := true, a := a, b := b }) (g := g) (q := q) (c := c) (sp := sp) rfl rfl ent146 rfl rfl rfl c_sa ho (fun W hi => ct_snap _ g c q sp v W hi) ?_) rfl rfl; intro q_ c_ sp_ hw_))
      | (refine gl_any0 ?_; (refine gl_ev (ev_sess (s := { s with wt := true, a := a, b := b }) (s' := { s with wt := true, a := a, b := b }.tell (2, v)) (g := g) (q := q_) (c := c_) (sp := sp_) rfl rfl ent58 rfl rfl rfl c_sa hw_ (fun W hi => ct_Tell _ g c_ q_ sp_ (2, v) W hi hc) ?_) rfl rfl; intro q2 c2 sp2 hw2))
      | (refine gl_bld0 ?_; (refine gl_ev (ev_buildSlice tab_ok rfl rfl rfl rfl rfl rfl rfl rfl rfl rfl ?_) rfl rfl; intro g_ hg_))
      | (refine gl_mul0 ?_; refine gl_yv (yv_mul tab_ok (gok_none rfl) rfl rfl rfl rfl (fun _ => allT_of rfl) c_bnd) rfl rfl ?_)
      | (refine gl_pick0 ?_; first | refine gl_yv (yv_and (gok_none rfl) rfl rfl rfl (fun _ => rfl) c_imp2) rfl rfl ?_ | refine gl_yv (yv_or (gok_none rfl) rfl rfl rfl (fun _ => rfl) c_imp2) rfl rfl ?_)
      | (refine gl_idx0 ?_; refine gl_yv (yv_indexAddr tab_ok (gok_none rfl) rfl rfl rfl rfl rfl (fun _ => rfl) (fun _ => rfl) (by intro _; omega)) rfl rfl ?_)
      | (refine gl_addG ?_; refine gl_yv (yv_add tab_ok c_gok rfl rfl rfl rfl c_allT c_bnd) rfl rfl ?_)
      | (refine gl_subG ?_; refine gl_yv (yv_sub tab_ok c_gok rfl rfl rfl rfl c_allT c_bnd) rfl rfl ?_)
      | (refine gl_loadG ?_; refine gl_yv (yv_load tab_ok c_gok rfl rfl c_imp c_mem (fun _ => c_lds)) rfl rfl ?_)
      | (refine gl_pickG ?_; first | refine gl_yv (yv_and c_gok rfl rfl rfl c_imp c_imp2) rfl rfl ?_ | refine gl_yv (yv_or c_gok rfl rfl rfl c_imp c_imp2) rfl rfl ?_)
      | (refine gl_idxG ?_; refine gl_yv (yv_indexAddr tab_ok c_gok rfl rfl rfl rfl rfl c_imp c_imp c_bnd) rfl rfl ?_)
      | (refine gl_box0 ?_; first | (refine gl_box_agg rfl rfl rfl rfl rfl ?_; intro g_ hg_) | (refine gl_box_one rfl rfl rfl rfl rfl rfl ?_; intro g_ hg_) | (refine gl_box rfl rfl rfl rfl rfl ?_; intro g_ hg_))
      | (refine gl_alc0 ?_; (refine gl_alloc tab_ok rfl rfl rfl rfl rfl ?_; intro g_ hg_))
      | (refine gl_sto0 ?_; refine gl_store tab_ok rfl rfl rfl rfl rfl rfl rfl c_one rfl c_ku ?_)
      | (refine gl_any0 ?_; refine gl_pure tab_ok rfl rfl rfl rfl rfl rfl ?_)
      | (refine gl_any0 ?_; first | refine gl_yv (yv_shr tab_ok (gok_none rfl) rfl rfl rfl (fun _ => rfl) (fun _ => rfl) c_bnd) rfl rfl ?_ | refine gl_yv (yv_rem tab_ok (gok_none rfl) rfl rfl rfl (fun _ => rfl) (fun _ => rfl) c_bnd) rfl rfl ?_ | refine gl_yv (yv_indexS tab_ok (gok_none rfl) rfl rfl rfl rfl (fun _ => rfl) (fun _ => rfl) c_bnd) rfl rfl ?_ | refine gl_yv (yv_sliceH tab_ok (gok_none rfl) rfl rfl rfl rfl rfl (fun _ => rfl) (fun _ => rfl) c_bnd) rfl rfl ?_)
      | (refine gl_arr0 ?_; refine gl_yv (yv_buildA tab_ok (gok_none rfl) rfl rfl rfl rfl (fun _ => allT_of rfl) rfl) rfl rfl ?_)
      | (refine gl_eqS ?_; first | refine gl_yv (yv_eqS tab_ok eqs_ok c_gok rfl rfl rfl rfl c_allT rfl rfl rfl) rfl rfl ?_)
      | (refine gl_neS ?_; first | refine gl_yv (yv_neS tab_ok eqs_ok c_gok rfl rfl rfl rfl c_allT rfl rfl rfl) rfl rfl ?_)
      | (refine gl_anyG ?_; first | refine gl_yv (yv_pure tab_ok c_gok rfl rfl c_allT) rfl rfl ?_ | refine gl_yv (yv_indexS tab_ok c_gok rfl rfl rfl rfl c_imp c_imp (by intro hq_; (try simp only [Bool.and_eq_true, Bool.not_eq_true', Bool.not_eq_false', Bool.or_eq_false_iff, Bool.or_eq_true, decide_eq_true_eq, decide_eq_false_iff_not, Bool.true_and, Bool.and_true] at hq_); omega)) rfl rfl ?_ | refine gl_yv (yv_indexS (i := 0) tab_ok c_gok rfl rfl rfl rfl c_imp c_imp (by intro hq_; (try simp only [Bool.and_eq_true, Bool.not_eq_true', Bool.not_eq_false', Bool.or_eq_false_iff, Bool.or_eq_true, decide_eq_true_eq, decide_eq_false_iff_not, Bool.true_and, Bool.and_true] at hq_); omega)) rfl rfl ?_))
    | (refine gc_gate ?_; first
      | refine gc_seq ?_
      | refine gc_region ?_
      | refine gc_quietRo rfl mixed (by decide +kernel) ?_
      | refine gc_true rfl ?_
      | refine gc_false rfl ?_
      | (refine gc_cond rfl ?_ ?_ <;> intro h_ <;> have hd_ := h_ <;> (try simp only [bytes_beq, cell_beq, val_beq, stamp_beq, decide_eq_true_eq, decide_eq_false_iff_not, Bool.and_eq_true, Bool.or_eq_true, Bool.or_eq_false_iff, Bool.not_eq_true', Bool.not_eq_false', Bool.not_true, Bool.not_false, Bool.false_or, Bool.true_and, Bool.and_true, Bool.or_false, beq_iff_eq, bne_iff_ne, beq_eq_false_iff_ne, bne_eq_false_iff_eq, ne_eq, Bool.false_eq_true, reduceCtorEq] at hd_) <;> (try (exfalso; omega)))
      | refine gc_block ?_
      | refine gc_exit ?_
      | refine gc_ret ?_
      | refine gc_skip ?_
      | refine gc_label ?_)
    | (refine ge_gate ?_; first
      | ((with_reducible refine ge_gT ?_); first | with_reducible refine ge_then ?_ | with_reducible refine ge_then_exit ?_ | with_reducible refine ge_then_ret ?_)
      | ((with_reducible refine ge_gK ?_); first | with_reducible refine ge_block ?_ | refine ge_block_exit ?_ | refine ge_block_pass rfl ?_ | with_reducible refine ge_block_ret ?_)
      | ((with_reducible refine ge_gB ?_); first | refine ge_ret1 tab_ok rfl c_rvt ?_ | refine ge_end1 tab_ok rfl c_rvt ?_ | refine ge_ret2 tab_ok rfl c_rvt c_rvt ?_ | refine ge_ret_none rfl ?_ | refine ge_end_none rfl ?_))
    | (refine gq_gate ?_; first
      | refine gq_nil ?_
      | (refine gq_load0 ?_; refine gq_yv (yv_load tab_ok (gok_none rfl) rfl rfl (fun _ => rfl) c_mem (fun _ => c_lds)) rfl rfl ?_)
      | (refine gq_add0 ?_; refine gq_yv (yv_add tab_ok (gok_none rfl) rfl rfl rfl rfl (fun _ => allT_of rfl) (by intro _; omega)) rfl rfl ?_)
      | (refine gq_sub0 ?_; refine gq_yv (yv_sub tab_ok (gok_none rfl) rfl rfl rfl rfl (fun _ => allT_of rfl) (by intro _; omega)) rfl rfl ?_)
      | (refine gq_idx0 ?_; refine gq_yv (yv_idxC tab_ok (gok_none rfl) rfl rfl rfl rfl rfl (fun _ => rfl) (fun _ => rfl) c_bnd) rfl rfl ?_)
      | (refine gq_pick0 ?_; first | refine gq_yv (yv_and (gok_none rfl) rfl rfl rfl (fun _ => rfl) c_imp2) rfl rfl ?_ | refine gq_yv (yv_or (gok_none rfl) rfl rfl rfl (fun _ => rfl) c_imp2) rfl rfl ?_)
      | (refine gq_idx0 ?_; refine gq_yv (yv_indexAddr tab_ok (gok_none rfl) rfl rfl rfl rfl rfl (fun _ => rfl) (fun _ => rfl) (by intro _; omega)) rfl rfl ?_)
      | (refine gq_addG ?_; refine gq_yv (yv_add tab_ok c_gok rfl rfl rfl rfl c_allT c_bnd) rfl rfl ?_)
      | (refine gq_subG ?_; refine gq_yv (yv_sub tab_ok c_gok rfl rfl rfl rfl c_allT c_bnd) rfl rfl ?_)
      | (refine gq_loadG ?_; refine gq_yv (yv_load tab_ok c_gok rfl rfl c_imp c_mem (fun _ => c_lds)) rfl rfl ?_)
      | (refine gq_pickG ?_; first | refine gq_yv (yv_and c_gok rfl rfl rfl c_imp c_imp2) rfl rfl ?_ | refine gq_yv (yv_or c_gok rfl rfl rfl c_imp c_imp2) rfl rfl ?_)
      | (refine gq_idxG ?_; refine gq_yv (yv_indexAddr tab_ok c_gok rfl rfl rfl rfl rfl c_imp c_imp c_bnd) rfl rfl ?_)
      | (refine gq_any0 ?_; refine gq_pure tab_ok rfl rfl rfl rfl rfl rfl ?_)
      | (refine gq_any0 ?_; first | refine gq_yv (yv_shr tab_ok (gok_none rfl) rfl rfl rfl (fun _ => rfl) (fun _ => rfl) c_bnd) rfl rfl ?_ | refine gq_yv (yv_rem tab_ok (gok_none rfl) rfl rfl rfl (fun _ => rfl) (fun _ => rfl) c_bnd) rfl rfl ?_ | refine gq_yv (yv_indexS tab_ok (gok_none rfl) rfl rfl rfl rfl (fun _ => rfl) (fun _ => rfl) c_bnd) rfl rfl ?_ | refine gq_yv (yv_sliceH tab_ok (gok_none rfl) rfl rfl rfl rfl rfl (fun _ => rfl) (fun _ => rfl) c_bnd) rfl rfl ?_)
      | (refine gq_arr0 ?_; refine gq_yv (yv_buildA tab_ok (gok_none rfl) rfl rfl rfl rfl (fun _ => allT_of rfl) rfl) rfl rfl ?_)
      | (refine gq_eqS ?_; first | refine gq_yv (yv_eqS tab_ok eqs_ok c_gok rfl rfl rfl rfl c_allT rfl rfl rfl) rfl rfl ?_)
      | (refine gq_neS ?_; first | refine gq_yv (yv_neS tab_ok eqs_ok c_gok rfl rfl rfl rfl c_allT rfl rfl rfl) rfl rfl ?_)
      | (refine gq_anyG ?_; first | refine gq_yv (yv_pure tab_ok c_gok rfl rfl c_allT) rfl rfl ?_ | refine gq_yv (yv_indexS tab_ok c_gok rfl rfl rfl rfl c_imp c_imp (by intro hq_; (try simp only [Bool.and_eq_true, Bool.not_eq_true', Bool.not_eq_false', Bool.or_eq_false_iff, Bool.or_eq_true, decide_eq_true_eq, decide_eq_false_iff_not, Bool.true_and, Bool.and_true] at hq_); omega)) rfl rfl ?_ | refine gq_yv (yv_indexS (i := 0) tab_ok c_gok rfl rfl rfl rfl c_imp c_imp (by intro hq_; (try simp only [Bool.and_eq_true, Bool.not_eq_true', Bool.not_eq_false', Bool.or_eq_false_iff, Bool.or_eq_true, decide_eq_true_eq, decide_eq_false_iff_not, Bool.true_and, Bool.and_true] at hq_); omega)) rfl rfl ?_))
  intro W hW
  rw [← SS.K_app] at hW
  exact ⟨(q2, c2, sp2), rfl, hw2, hW.drop (List.sublist_append_left _ _)⟩
def z65 : List Value := [.int .i64 0, .int .i64 0, .int .i64 0, .slice none 0 0]
theorem rep_len (l : List (Int × Int)) : (cat rep l).length = l.length * 4 := cat_length (f := rep) (k := 4) (fun _ => rfl) l
theorem ct_Delete (x : Int × Int) (r : List (Int × Int)) (g c : Nat) (sp : List Value) (w : World) (hb : w.heap[g]? = some (.cells (cat rep (x :: r) ++ sp).toArray 65 (0, 0))) (ho : Ow (some g) (r.length + 1) c 4 (cat rep (x :: r)) sp) :
    Calls Try.prog 148 #[.slice (some (ad g)) (r.length + 1 : Nat) c, .int .i64 0, .int .i64 1] w (RetM w [g] (fun _ : Unit => .slice (some (ad g)) r.length c) (fun _ => [(g, true, .cells (cat rep r ++ (z65 ++ sp)).toArray 65 (0, 0))]) (fun _ => True)) := by
  have hle := ho.le
  have ho0 : Ow (some g) 0 c 4 [] (cat rep (x :: r) ++ sp) := ⟨by simp, by rw [List.length_append, ho.len, ho.room, Nat.sub_zero, ← Nat.add_mul]; congr 1; omega, by omega, fun h => by cases h⟩
  refine enter (args := [_, _, _]) (M := []) (K := []) Try.func148 rfl Try.ntmps148 rfl (St.refl _ _) ?_
  refine gc_own [(g, true, .cells (cat rep (x :: r) ++ sp).toArray 65 (0, 0))] (by simpa using hb) (by simp) ?_
  generalize hM : ([(g, true, Obj.cells (cat rep (x :: r) ++ sp).toArray 65 (0, 0))] : Kl).map (·.1) = M
  repeat' first
    | refine gl_yv (yv_sliceLHM (lo := 0) (h := 1) (m := r.length + 1) tab_ok (gok_none rfl) rfl rfl rfl rfl rfl rfl rfl (fun _ => rfl) (fun _ => rfl) (fun _ => rfl) (fun _ => rfl) (fun _ => by omega) (fun _ => by omega) (fun _ => hle)) rfl rfl ?_
    | (refine gl_gate ?_; first
      | refine gl_nil ?_
      | (refine gl_load0 ?_; refine gl_yv (yv_load tab_ok (gok_none rfl) rfl rfl (fun _ => rfl) c_mem (fun _ => c_lds)) rfl rfl ?_)
      | (refine gl_add0 ?_; refine gl_yv (yv_add tab_ok (gok_none rfl) rfl rfl rfl rfl (fun _ => allT_of rfl) (by intro _; omega)) rfl rfl ?_)
      | (refine gl_sub0 ?_; refine gl_yv (yv_sub tab_ok (gok_none rfl) rfl rfl rfl rfl (fun _ => allT_of rfl) (by intro _; omega)) rfl rfl ?_)
      | (refine gl_idx0 ?_; refine gl_yv (yv_idxC tab_ok (gok_none rfl) rfl rfl rfl rfl rfl (fun _ => rfl) (fun _ => rfl) c_bnd) rfl rfl ?_)
      | (refine gl_bld0 ?_; (refine gl_ev (ev_buildSlice tab_ok rfl rfl rfl rfl rfl rfl rfl rfl rfl rfl ?_) rfl rfl; intro g_ hg_))
      | (refine gl_mul0 ?_; refine gl_yv (yv_mul tab_ok (gok_none rfl) rfl rfl rfl rfl (fun _ => allT_of rfl) c_bnd) rfl rfl ?_)
      | (refine gl_pick0 ?_; first | refine gl_yv (yv_and (gok_none rfl) rfl rfl rfl (fun _ => rfl) c_imp2) rfl rfl ?_ | refine gl_yv (yv_or (gok_none rfl) rfl rfl rfl (fun _ => rfl) c_imp2) rfl rfl ?_)
      | (refine gl_idx0 ?_; refine gl_yv (yv_indexAddr tab_ok (gok_none rfl) rfl rfl rfl rfl rfl (fun _ => rfl) (fun _ => rfl) (by intro _; omega)) rfl rfl ?_)
      | (refine gl_addG ?_; refine gl_yv (yv_add tab_ok c_gok rfl rfl rfl rfl c_allT c_bnd) rfl rfl ?_)
      | (refine gl_subG ?_; refine gl_yv (yv_sub tab_ok c_gok rfl rfl rfl rfl c_allT c_bnd) rfl rfl ?_)
      | (refine gl_loadG ?_; refine gl_yv (yv_load tab_ok c_gok rfl rfl c_imp c_mem (fun _ => c_lds)) rfl rfl ?_)
      | (refine gl_pickG ?_; first | refine gl_yv (yv_and c_gok rfl rfl rfl c_imp c_imp2) rfl rfl ?_ | refine gl_yv (yv_or c_gok rfl rfl rfl c_imp c_imp2) rfl rfl ?_)
      | (refine gl_idxG ?_; refine gl_yv (yv_indexAddr tab_ok c_gok rfl rfl rfl rfl rfl c_imp c_imp c_bnd) rfl rfl ?_)
      | (refine gl_box0 ?_; first | (refine gl_box_agg rfl rfl rfl rfl rfl ?_; intro g_ hg_) | (refine gl_box_one rfl rfl rfl rfl rfl rfl ?_; intro g_ hg_) | (refine gl_box rfl rfl rfl rfl rfl ?_; intro g_ hg_))
      | (refine gl_alc0 ?_; (refine gl_alloc tab_ok rfl rfl rfl rfl rfl ?_; intro g_ hg_))
      | (refine gl_sto0 ?_; refine gl_store tab_ok rfl rfl rfl rfl rfl rfl rfl c_one rfl c_ku ?_)
      | (refine gl_any0 ?_; refine gl_pure tab_ok rfl rfl rfl rfl rfl rfl ?_)
      | (refine gl_any0 ?_; first | refine gl_yv (yv_shr tab_ok (gok_none rfl) rfl rfl rfl (fun _ => rfl) (fun _ => rfl) c_bnd) rfl rfl ?_ | refine gl_yv (yv_rem tab_ok (gok_none rfl) rfl rfl rfl (fun _ => rfl) (fun _ => rfl) c_bnd) rfl rfl ?_ | refine gl_yv (yv_indexS tab_ok (gok_none rfl) rfl rfl rfl rfl (fun _ => rfl) (fun _ => rfl) c_bnd) rfl rfl ?_ | refine gl_yv (yv_sliceH tab_ok (gok_none rfl) rfl rfl rfl rfl rfl (fun _ => rfl) (fun _ => rfl) c_bnd) rfl rfl ?_)
      | (refine gl_arr0 ?_; refine gl_yv (yv_buildA tab_ok (gok_none rfl) rfl rfl rfl rfl (fun _ => allT_of rfl) rfl) rfl rfl ?_)
      | (refine gl_eqS ?_; first | refine gl_yv (yv_eqS tab_ok eqs_ok c_gok rfl rfl rfl rfl c_allT rfl rfl rfl) rfl rfl ?_)
      | (refine gl_neS ?_; first | refine gl_yv (yv_neS tab_ok eqs_ok c_gok rfl rfl rfl rfl c_allT rfl rfl rfl) rfl rfl ?_)
      | (refine gl_anyG ?_; first | refine gl_yv (yv_pure tab_ok c_gok rfl rfl c_allT) rfl rfl ?_ | refine gl_yv (yv_indexS tab_ok c_gok rfl rfl rfl rfl c_imp c_imp (by intro hq_; (try simp only [Bool.and_eq_true, Bool.not_eq_true', Bool.not_eq_false', Bool.or_eq_false_iff, Bool.or_eq_true, decide_eq_true_eq, decide_eq_false_iff_not, Bool.true_and, Bool.and_true] at hq_); omega)) rfl rfl ?_ | refine gl_yv (yv_indexS (i := 0) tab_ok c_gok rfl rfl rfl rfl c_imp c_imp (by intro hq_; (try simp only [Bool.and_eq_true, Bool.not_eq_true', Bool.not_eq_false', Bool.or_eq_false_iff, Bool.or_eq_true, decide_eq_true_eq, decide_eq_false_iff_not, Bool.true_and, Bool.and_true] at hq_); omega)) rfl rfl ?_))
    | (refine gc_gate ?_; first
      | refine gc_seq ?_
      | refine gc_region ?_
      | refine gc_quietRo rfl mixed (by decide +kernel) ?_
      | refine gc_true rfl ?_
      | refine gc_false rfl ?_
      | (refine gc_cond rfl ?_ ?_ <;> intro h_ <;> have hd_ := h_ <;> (try simp only [bytes_beq, cell_beq, val_beq, stamp_beq, decide_eq_true_eq, decide_eq_false_iff_not, Bool.and_eq_true, Bool.or_eq_true, Bool.or_eq_false_iff, Bool.not_eq_true', Bool.not_eq_false', Bool.not_true, Bool.not_false, Bool.false_or, Bool.true_and, Bool.and_true, Bool.or_false, beq_iff_eq, bne_iff_ne, beq_eq_false_iff_ne, bne_eq_false_iff_eq, ne_eq, Bool.false_eq_true, reduceCtorEq] at hd_) <;> (try (exfalso; omega)))
      | refine gc_block ?_
      | refine gc_exit ?_
      | refine gc_ret ?_
      | refine gc_skip ?_
      | refine gc_label ?_)
    | (refine ge_gate ?_; first
      | ((with_reducible refine ge_gT ?_); first | with_reducible refine ge_then ?_ | with_reducible refine ge_then_exit ?_ | with_reducible refine ge_then_ret ?_)
      | ((with_reducible refine ge_gK ?_); first | with_reducible refine ge_block ?_ | refine ge_block_exit ?_ | refine ge_block_pass rfl ?_ | with_reducible refine ge_block_ret ?_)
      | ((with_reducible refine ge_gB ?_); first | refine ge_ret1 tab_ok rfl c_rvt ?_ | refine ge_end1 tab_ok rfl c_rvt ?_ | refine ge_ret2 tab_ok rfl c_rvt c_rvt ?_ | refine ge_ret_none rfl ?_ | refine ge_end_none rfl ?_))
    | (refine gq_gate ?_; first
      | refine gq_nil ?_
      | (refine gq_load0 ?_; refine gq_yv (yv_load tab_ok (gok_none rfl) rfl rfl (fun _ => rfl) c_mem (fun _ => c_lds)) rfl rfl ?_)
      | (refine gq_add0 ?_; refine gq_yv (yv_add tab_ok (gok_none rfl) rfl rfl rfl rfl (fun _ => allT_of rfl) (by intro _; omega)) rfl rfl ?_)
      | (refine gq_sub0 ?_; refine gq_yv (yv_sub tab_ok (gok_none rfl) rfl rfl rfl rfl (fun _ => allT_of rfl) (by intro _; omega)) rfl rfl ?_)
      | (refine gq_idx0 ?_; refine gq_yv (yv_idxC tab_ok (gok_none rfl) rfl rfl rfl rfl rfl (fun _ => rfl) (fun _ => rfl) c_bnd) rfl rfl ?_)
      | (refine gq_pick0 ?_; first | refine gq_yv (yv_and (gok_none rfl) rfl rfl rfl (fun _ => rfl) c_imp2) rfl rfl ?_ | refine gq_yv (yv_or (gok_none rfl) rfl rfl rfl (fun _ => rfl) c_imp2) rfl rfl ?_)
      | (refine gq_idx0 ?_; refine gq_yv (yv_indexAddr tab_ok (gok_none rfl) rfl rfl rfl rfl rfl (fun _ => rfl) (fun _ => rfl) (by intro _; omega)) rfl rfl ?_)
      | (refine gq_addG ?_; refine gq_yv (yv_add tab_ok c_gok rfl rfl rfl rfl c_allT c_bnd) rfl rfl ?_)
      | (refine gq_subG ?_; refine gq_yv (yv_sub tab_ok c_gok rfl rfl rfl rfl c_allT c_bnd) rfl rfl ?_)
      | (refine gq_loadG ?_; refine gq_yv (yv_load tab_ok c_gok rfl rfl c_imp c_mem (fun _ => c_lds)) rfl rfl ?_)
      | (refine gq_pickG ?_; first | refine gq_yv (yv_and c_gok rfl rfl rfl c_imp c_imp2) rfl rfl ?_ | refine gq_yv (yv_or c_gok rfl rfl rfl c_imp c_imp2) rfl rfl ?_)
      | (refine gq_idxG ?_; refine gq_yv (yv_indexAddr tab_ok c_gok rfl rfl rfl rfl rfl c_imp c_imp c_bnd) rfl rfl ?_)
      | (refine gq_any0 ?_; refine gq_pure tab_ok rfl rfl rfl rfl rfl rfl ?_)
      | (refine gq_any0 ?_; first | refine gq_yv (yv_shr tab_ok (gok_none rfl) rfl rfl rfl (fun _ => rfl) (fun _ => rfl) c_bnd) rfl rfl ?_ | refine gq_yv (yv_rem tab_ok (gok_none rfl) rfl rfl rfl (fun _ => rfl) (fun _ => rfl) c_bnd) rfl rfl ?_ | refine gq_yv (yv_indexS tab_ok (gok_none rfl) rfl rfl rfl rfl (fun _ => rfl) (fun _ => rfl) c_bnd) rfl rfl ?_ | refine gq_yv (yv_sliceH tab_ok (gok_none rfl) rfl rfl rfl rfl rfl (fun _ => rfl) (fun _ => rfl) c_bnd) rfl rfl ?_)
      | (refine gq_arr0 ?_; refine gq_yv (yv_buildA tab_ok (gok_none rfl) rfl rfl rfl rfl (fun _ => allT_of rfl) rfl) rfl rfl ?_)
      | (refine gq_eqS ?_; first | refine gq_yv (yv_eqS tab_ok eqs_ok c_gok rfl rfl rfl rfl c_allT rfl rfl rfl) rfl rfl ?_)
      | (refine gq_neS ?_; first | refine gq_yv (yv_neS tab_ok eqs_ok c_gok rfl rfl rfl rfl c_allT rfl rfl rfl) rfl rfl ?_)
      | (refine gq_anyG ?_; first | refine gq_yv (yv_pure tab_ok c_gok rfl rfl c_allT) rfl rfl ?_ | refine gq_yv (yv_indexS tab_ok c_gok rfl rfl rfl rfl c_imp c_imp (by intro hq_; (try simp only [Bool.and_eq_true, Bool.not_eq_true', Bool.not_eq_false', Bool.or_eq_false_iff, Bool.or_eq_true, decide_eq_true_eq, decide_eq_false_iff_not, Bool.true_and, Bool.and_true] at hq_); omega)) rfl rfl ?_ | refine gq_yv (yv_indexS (i := 0) tab_ok c_gok rfl rfl rfl rfl c_imp c_imp (by intro hq_; (try simp only [Bool.and_eq_true, Bool.not_eq_true', Bool.not_eq_false', Bool.or_eq_false_iff, Bool.or_eq_true, decide_eq_true_eq, decide_eq_false_iff_not, Bool.true_and, Bool.and_true] at hq_); omega)) rfl rfl ?_))
  have hsrc : SrcK Try.prog 4 57 w M [(g, true, .cells (cat rep (x :: r) ++ sp).toArray 65 (0, 0))] (.slice (if c = 1 then some (ad g) else (some (ad g)).map (·.add (1 * 4))) r.length (c - 1)) r.length (cat rep r) := by
    have hl : (cat rep r).length = r.length * 4 := rep_len r
    have h1 : ∀ u ∈ cat rep r, u.oneCell' = true := cat_ones (by intro x u hu; simp [rep] at hu; rcases hu with rfl | rfl | rfl | rfl <;> rfl) r
    have hadd : (ad g).add (1 * 4) = ⟨g, 4, none⟩ := by simp [Addr.add]
    split
    · have : r = [] := List.eq_nil_of_length_eq_zero (by omega)
      subst this
      exact src_blk tab_ok rfl (List.Mem.head _) hl (fun j hj => by simp [cat] at hj) h1
    · simp only [Option.map_some, hadd]
      refine src_blk tab_ok rfl (List.Mem.head _) hl (fun j hj => ?_) h1
      have e : cat rep (x :: r) = rep x ++ cat rep r := by simp [cat]
      rw [e, List.append_assoc, List.getElem?_append_right (by simp [rep]), List.getElem?_append_left (by simpa [rep] using hj)]
      simp [rep]
  have hval : ∀ de : TyD, de.size = 4 → Value.slice (if c = r.length then some (ad g) else (some (ad g)).map (·.add (r.length * de.size))) (r.length + 1 - r.length) (c - r.length) = .slice (some ⟨g, r.length * 4, none⟩) 1 (c - r.length) := fun de h => by
    rw [if_neg (by omega), h]
    have : r.length + 1 - r.length = 1 := by omega
    rw [this]
    unfold Addr.add
    split <;> simp_all
  refine gp_startC (St w M []) c_cl [6] #[false, false, false, false, false, false, false, false] mixed rfl rfl c_qp ?_; intro hqp_
  refine gp_take 0 #[true, false, false, false, false, false, false, false] hqp_ rfl (by kernel_rfl) (yv_pure tab_ok c_gok rfl rfl c_allT) c_cl rfl rfl ?_
  refine gp_take 1 #[true, true, false, false, false, false, false, false] hqp_ rfl (by kernel_rfl) (yv_pure tab_ok c_gok rfl rfl c_allT) c_cl rfl rfl ?_
  first | refine gp_take 2 #[true, true, true, false, false, false, false, false] hqp_ rfl (by kernel_rfl) ((yv_sliceH (h := 0) tab_ok (gok_none rfl) rfl rfl rfl rfl rfl (fun _ => rfl) (fun _ => rfl) (fun _ => by omega))) c_cl rfl rfl ?_ | refine gp_take 2 #[true, true, true, false, false, false, false, false] hqp_ rfl (by kernel_rfl) (yv_pure tab_ok c_gok rfl rfl c_allT) c_cl rfl rfl ?_
  refine gp_take 3 #[true, true, true, true, false, false, false, false] hqp_ rfl (by kernel_rfl) (yv_pure tab_ok c_gok rfl rfl c_allT) c_cl rfl rfl ?_
  refine gp_take 4 #[true, true, true, true, true, false, false, false] hqp_ rfl (by kernel_rfl) (yv_pure tab_ok c_gok rfl rfl c_allT) c_cl rfl rfl ?_
  first | refine gp_take 5 #[true, true, true, true, true, true, false, false] hqp_ rfl (by kernel_rfl) ((yv_sliceL (lo := 1) tab_ok (gok_none rfl) rfl rfl rfl rfl rfl (fun _ => rfl) (fun _ => rfl) (fun _ => by omega))) c_cl rfl rfl ?_ | refine gp_take 5 #[true, true, true, true, true, true, false, false] hqp_ rfl (by kernel_rfl) (yv_pure tab_ok c_gok rfl rfl c_allT) c_cl rfl rfl ?_
  refine gp_last 6 #[true, true, true, true, true, true, true, false] rfl (by kernel_rfl) (by simp) rfl rfl (ev_appendIn (xs := []) (sp := cat rep (x :: r) ++ sp) tab_ok rfl rfl rfl rfl rfl rfl Oa.one ho0 hsrc (by omega) (Nat.zero_add _) ?_)
  refine gp_take 7 #[true, true, true, true, true, true, true, true] hqp_ rfl (by kernel_rfl) (yv_pure tab_ok c_gok rfl rfl c_allT) c_cl rfl rfl ?_
  refine gp_done (by kernel_rfl) ?_; clear hqp_
  repeat' first
    | refine gl_yv ((yv_sliceLH (lo := r.length) (h := r.length + 1) tab_ok (gok_none rfl) rfl rfl rfl rfl rfl rfl (fun _ => rfl) (fun _ => rfl) (fun _ => rfl) (fun _ => by omega) (fun _ => by omega)).cast (v' := .slice (some ⟨g, r.length * 4, none⟩) 1 (c - r.length)) (hval _ rfl)) rfl rfl ?_
    | (refine gl_gate ?_; first
      | refine gl_nil ?_
      | (refine gl_load0 ?_; refine gl_yv (yv_load tab_ok (gok_none rfl) rfl rfl (fun _ => rfl) c_mem (fun _ => c_lds)) rfl rfl ?_)
      | (refine gl_add0 ?_; refine gl_yv (yv_add tab_ok (gok_none rfl) rfl rfl rfl rfl (fun _ => allT_of rfl) (by intro _; omega)) rfl rfl ?_)
      | (refine gl_sub0 ?_; refine gl_yv (yv_sub tab_ok (gok_none rfl) rfl rfl rfl rfl (fun _ => allT_of rfl) (by intro _; omega)) rfl rfl ?_)
      | (refine gl_idx0 ?_; refine gl_yv (yv_idxC tab_ok (gok_none rfl) rfl rfl rfl rfl rfl (fun _ => rfl) (fun _ => rfl) c_bnd) rfl rfl ?_)
      | (refine gl_bld0 ?_; (refine gl_ev (ev_buildSlice tab_ok rfl rfl rfl rfl rfl rfl rfl rfl rfl rfl ?_) rfl rfl; intro g_ hg_))
      | (refine gl_mul0 ?_; refine gl_yv (yv_mul tab_ok (gok_none rfl) rfl rfl rfl rfl (fun _ => allT_of rfl) c_bnd) rfl rfl ?_)
      | (refine gl_pick0 ?_; first | refine gl_yv (yv_and (gok_none rfl) rfl rfl rfl (fun _ => rfl) c_imp2) rfl rfl ?_ | refine gl_yv (yv_or (gok_none rfl) rfl rfl rfl (fun _ => rfl) c_imp2) rfl rfl ?_)
      | (refine gl_idx0 ?_; refine gl_yv (yv_indexAddr tab_ok (gok_none rfl) rfl rfl rfl rfl rfl (fun _ => rfl) (fun _ => rfl) (by intro _; omega)) rfl rfl ?_)
      | (refine gl_addG ?_; refine gl_yv (yv_add tab_ok c_gok rfl rfl rfl rfl c_allT c_bnd) rfl rfl ?_)
      | (refine gl_subG ?_; refine gl_yv (yv_sub tab_ok c_gok rfl rfl rfl rfl c_allT c_bnd) rfl rfl ?_)
      | (refine gl_loadG ?_; refine gl_yv (yv_load tab_ok c_gok rfl rfl c_imp c_mem (fun _ => c_lds)) rfl rfl ?_)
      | (refine gl_pickG ?_; first | refine gl_yv (yv_and c_gok rfl rfl rfl c_imp c_imp2) rfl rfl ?_ | refine gl_yv (yv_or c_gok rfl rfl rfl c_imp c_imp2) rfl rfl ?_)
      | (refine gl_idxG ?_; refine gl_yv (yv_indexAddr tab_ok c_gok rfl rfl rfl rfl rfl c_imp c_imp c_bnd) rfl rfl ?_)
      | (refine gl_box0 ?_; first | (refine gl_box_agg rfl rfl rfl rfl rfl ?_; intro g_ hg_) | (refine gl_box_one rfl rfl rfl rfl rfl rfl ?_; intro g_ hg_) | (refine gl_box rfl rfl rfl rfl rfl ?_; intro g_ hg_))
      | (refine gl_alc0 ?_; (refine gl_alloc tab_ok rfl rfl rfl rfl rfl ?_; intro g_ hg_))
      | (refine gl_sto0 ?_; refine gl_store tab_ok rfl rfl rfl rfl rfl rfl rfl c_one rfl c_ku ?_)
      | (refine gl_any0 ?_; refine gl_pure tab_ok rfl rfl rfl rfl rfl rfl ?_)
      | (refine gl_any0 ?_; first | refine gl_yv (yv_shr tab_ok (gok_none rfl) rfl rfl rfl (fun _ => rfl) (fun _ => rfl) c_bnd) rfl rfl ?_ | refine gl_yv (yv_rem tab_ok (gok_none rfl) rfl rfl rfl (fun _ => rfl) (fun _ => rfl) c_bnd) rfl rfl ?_ | refine gl_yv (yv_indexS tab_ok (gok_none rfl) rfl rfl rfl rfl (fun _ => rfl) (fun _ => rfl) c_bnd) rfl rfl ?_ | refine gl_yv (yv_sliceH tab_ok (gok_none rfl) rfl rfl rfl rfl rfl (fun _ => rfl) (fun _ => rfl) c_bnd) rfl rfl ?_)
      | (refine gl_arr0 ?_; refine gl_yv (yv_buildA tab_ok (gok_none rfl) rfl rfl rfl rfl (fun _ => allT_of rfl) rfl) rfl rfl ?_)
      | (refine gl_eqS ?_; first | refine gl_yv (yv_eqS tab_ok eqs_ok c_gok rfl rfl rfl rfl c_allT rfl rfl rfl) rfl rfl ?_)
      | (refine gl_neS ?_; first | refine gl_yv (yv_neS tab_ok eqs_ok c_gok rfl rfl rfl rfl c_allT rfl rfl rfl) rfl rfl ?_)
      | (refine gl_anyG ?_; first | refine gl_yv (yv_pure tab_ok c_gok rfl rfl c_allT) rfl rfl ?_ | refine gl_yv (yv_indexS tab_ok c_gok rfl rfl rfl rfl c_imp c_imp (by intro hq_; (try simp only [Bool.and_eq_true, Bool.not_eq_true', Bool.not_eq_false', Bool.or_eq_false_iff, Bool.or_eq_true, decide_eq_true_eq, decide_eq_false_iff_not, Bool.true_and, Bool.and_true] at hq_); omega)) rfl rfl ?_ | refine gl_yv (yv_indexS (i := 0) tab_ok c_gok rfl rfl rfl rfl c_imp c_imp (by intro hq_; (try simp only [Bool.and_eq_true, Bool.not_eq_true', Bool.not_eq_false', Bool.or_eq_false_iff, Bool.or_eq_true, decide_eq_true_eq, decide_eq_false_iff_not, Bool.true_and, Bool.and_true] at hq_); omega)) rfl rfl ?_))
    | (refine gc_gate ?_; first
      | refine gc_seq ?_
      | refine gc_region ?_
      | refine gc_quietRo rfl mixed (by decide +kernel) ?_
      | refine gc_true rfl ?_
      | refine gc_false rfl ?_
      | (refine gc_cond rfl ?_ ?_ <;> intro h_ <;> have hd_ := h_ <;> (try simp only [bytes_beq, cell_beq, val_beq, stamp_beq, decide_eq_true_eq, decide_eq_false_iff_not, Bool.and_eq_true, Bool.or_eq_true, Bool.or_eq_false_iff, Bool.not_eq_true', Bool.not_eq_false', Bool.not_true, Bool.not_false, Bool.false_or, Bool.true_and, Bool.and_true, Bool.or_false, beq_iff_eq, bne_iff_ne, beq_eq_false_iff_ne, bne_eq_false_iff_eq, ne_eq, Bool.false_eq_true, reduceCtorEq] at hd_) <;> (try (exfalso; omega)))
      | refine gc_block ?_
      | refine gc_exit ?_
      | refine gc_ret ?_
      | refine gc_skip ?_
      | refine gc_label ?_)
    | (refine ge_gate ?_; first
      | ((with_reducible refine ge_gT ?_); first | with_reducible refine ge_then ?_ | with_reducible refine ge_then_exit ?_ | with_reducible refine ge_then_ret ?_)
      | ((with_reducible refine ge_gK ?_); first | with_reducible refine ge_block ?_ | refine ge_block_exit ?_ | refine ge_block_pass rfl ?_ | with_reducible refine ge_block_ret ?_)
      | ((with_reducible refine ge_gB ?_); first | refine ge_ret1 tab_ok rfl c_rvt ?_ | refine ge_end1 tab_ok rfl c_rvt ?_ | refine ge_ret2 tab_ok rfl c_rvt c_rvt ?_ | refine ge_ret_none rfl ?_ | refine ge_end_none rfl ?_))
    | (refine gq_gate ?_; first
      | refine gq_nil ?_
      | (refine gq_load0 ?_; refine gq_yv (yv_load tab_ok (gok_none rfl) rfl rfl (fun _ => rfl) c_mem (fun _ => c_lds)) rfl rfl ?_)
      | (refine gq_add0 ?_; refine gq_yv (yv_add tab_ok (gok_none rfl) rfl rfl rfl rfl (fun _ => allT_of rfl) (by intro _; omega)) rfl rfl ?_)
      | (refine gq_sub0 ?_; refine gq_yv (yv_sub tab_ok (gok_none rfl) rfl rfl rfl rfl (fun _ => allT_of rfl) (by intro _; omega)) rfl rfl ?_)
      | (refine gq_idx0 ?_; refine gq_yv (yv_idxC tab_ok (gok_none rfl) rfl rfl rfl rfl rfl (fun _ => rfl) (fun _ => rfl) c_bnd) rfl rfl ?_)
      | (refine gq_pick0 ?_; first | refine gq_yv (yv_and (gok_none rfl) rfl rfl rfl (fun _ => rfl) c_imp2) rfl rfl ?_ | refine gq_yv (yv_or (gok_none rfl) rfl rfl rfl (fun _ => rfl) c_imp2) rfl rfl ?_)
      | (refine gq_idx0 ?_; refine gq_yv (yv_indexAddr tab_ok (gok_none rfl) rfl rfl rfl rfl rfl (fun _ => rfl) (fun _ => rfl) (by intro _; omega)) rfl rfl ?_)
      | (refine gq_addG ?_; refine gq_yv (yv_add tab_ok c_gok rfl rfl rfl rfl c_allT c_bnd) rfl rfl ?_)
      | (refine gq_subG ?_; refine gq_yv (yv_sub tab_ok c_gok rfl rfl rfl rfl c_allT c_bnd) rfl rfl ?_)
      | (refine gq_loadG ?_; refine gq_yv (yv_load tab_ok c_gok rfl rfl c_imp c_mem (fun _ => c_lds)) rfl rfl ?_)
      | (refine gq_pickG ?_; first | refine gq_yv (yv_and c_gok rfl rfl rfl c_imp c_imp2) rfl rfl ?_ | refine gq_yv (yv_or c_gok rfl rfl rfl c_imp c_imp2) rfl rfl ?_)
      | (refine gq_idxG ?_; refine gq_yv (yv_indexAddr tab_ok c_gok rfl rfl rfl rfl rfl c_imp c_imp c_bnd) rfl rfl ?_)
      | (refine gq_any0 ?_; refine gq_pure tab_ok rfl rfl rfl rfl rfl rfl ?_)
      | (refine gq_any0 ?_; first | refine gq_yv (yv_shr tab_ok (gok_none rfl) rfl rfl rfl (fun _ => rfl) (fun _ => rfl) c_bnd) rfl rfl ?_ | refine gq_yv (yv_rem tab_ok (gok_none rfl) rfl rfl rfl (fun _ => rfl) (fun _ => rfl) c_bnd) rfl rfl ?_ | refine gq_yv (yv_indexS tab_ok (gok_none rfl) rfl rfl rfl rfl (fun _ => rfl) (fun _ => rfl) c_bnd) rfl rfl ?_ | refine gq_yv (yv_sliceH tab_ok (gok_none rfl) rfl rfl rfl rfl rfl (fun _ => rfl) (fun _ => rfl) c_bnd) rfl rfl ?_)
      | (refine gq_arr0 ?_; refine gq_yv (yv_buildA tab_ok (gok_none rfl) rfl rfl rfl rfl (fun _ => allT_of rfl) rfl) rfl rfl ?_)
      | (refine gq_eqS ?_; first | refine gq_yv (yv_eqS tab_ok eqs_ok c_gok rfl rfl rfl rfl c_allT rfl rfl rfl) rfl rfl ?_)
      | (refine gq_neS ?_; first | refine gq_yv (yv_neS tab_ok eqs_ok c_gok rfl rfl rfl rfl c_allT rfl rfl rfl) rfl rfl ?_)
      | (refine gq_anyG ?_; first | refine gq_yv (yv_pure tab_ok c_gok rfl rfl c_allT) rfl rfl ?_ | refine gq_yv (yv_indexS tab_ok c_gok rfl rfl rfl rfl c_imp c_imp (by intro hq_; (try simp only [Bool.and_eq_true, Bool.not_eq_true', Bool.not_eq_false', Bool.or_eq_false_iff, Bool.or_eq_true, decide_eq_true_eq, decide_eq_false_iff_not, Bool.true_and, Bool.and_true] at hq_); omega)) rfl rfl ?_ | refine gq_yv (yv_indexS (i := 0) tab_ok c_gok rfl rfl rfl rfl c_imp c_imp (by intro hq_; (try simp only [Bool.and_eq_true, Bool.not_eq_true', Bool.not_eq_false', Bool.or_eq_false_iff, Bool.or_eq_true, decide_eq_true_eq, decide_eq_false_iff_not, Bool.true_and, Bool.and_true] at hq_); omega)) rfl rfl ?_))
  have hl1 := rep_len r
  have hl2 := rep_len (x :: r)
  refine gl_ev0 (ev_clear tab_ok rfl rfl rfl rfl rfl (ones_of rfl) ?_ Ku.head ?_) rfl
  · show r.length * 4 + 1 * 4 ≤ _
    rw [List.nil_append, List.length_append, List.length_drop, List.length_append, hl1, hl2, List.length_cons]
    show _ ≤ r.length * 4 + ((r.length + 1) * 4 + sp.length - r.length * 4)
    omega
  repeat' first
    | (refine gl_gate ?_; first
      | refine gl_nil ?_
      | (refine gl_load0 ?_; refine gl_yv (yv_load tab_ok (gok_none rfl) rfl rfl (fun _ => rfl) c_mem (fun _ => c_lds)) rfl rfl ?_)
      | (refine gl_add0 ?_; refine gl_yv (yv_add tab_ok (gok_none rfl) rfl rfl rfl rfl (fun _ => allT_of rfl) (by intro _; omega)) rfl rfl ?_)
      | (refine gl_sub0 ?_; refine gl_yv (yv_sub tab_ok (gok_none rfl) rfl rfl rfl rfl (fun _ => allT_of rfl) (by intro _; omega)) rfl rfl ?_)
      | (refine gl_idx0 ?_; refine gl_yv (yv_idxC tab_ok (gok_none rfl) rfl rfl rfl rfl rfl (fun _ => rfl) (fun _ => rfl) c_bnd) rfl rfl ?_)
      | (refine gl_bld0 ?_; (refine gl_ev (ev_buildSlice tab_ok rfl rfl rfl rfl rfl rfl rfl rfl rfl rfl ?_) rfl rfl; intro g_ hg_))
      | (refine gl_mul0 ?_; refine gl_yv (yv_mul tab_ok (gok_none rfl) rfl rfl rfl rfl (fun _ => allT_of rfl) c_bnd) rfl rfl ?_)
      | (refine gl_pick0 ?_; first | refine gl_yv (yv_and (gok_none rfl) rfl rfl rfl (fun _ => rfl) c_imp2) rfl rfl ?_ | refine gl_yv (yv_or (gok_none rfl) rfl rfl rfl (fun _ => rfl) c_imp2) rfl rfl ?_)
      | (refine gl_idx0 ?_; refine gl_yv (yv_indexAddr tab_ok (gok_none rfl) rfl rfl rfl rfl rfl (fun _ => rfl) (fun _ => rfl) (by intro _; omega)) rfl rfl ?_)
      | (refine gl_addG ?_; refine gl_yv (yv_add tab_ok c_gok rfl rfl rfl rfl c_allT c_bnd) rfl rfl ?_)
      | (refine gl_subG ?_; refine gl_yv (yv_sub tab_ok c_gok rfl rfl rfl rfl c_allT c_bnd) rfl rfl ?_)
      | (refine gl_loadG ?_; refine gl_yv (yv_load tab_ok c_gok rfl rfl c_imp c_mem (fun _ => c_lds)) rfl rfl ?_)
      | (refine gl_pickG ?_; first | refine gl_yv (yv_and c_gok rfl rfl rfl c_imp c_imp2) rfl rfl ?_ | refine gl_yv (yv_or c_gok rfl rfl rfl c_imp c_imp2) rfl rfl ?_)
      | (refine gl_idxG ?_; refine gl_yv (yv_indexAddr tab_ok c_gok rfl rfl rfl rfl rfl c_imp c_imp c_bnd) rfl rfl ?_)
      | (refine gl_box0 ?_; first | (refine gl_box_agg rfl rfl rfl rfl rfl ?_; intro g_ hg_) | (refine gl_box_one rfl rfl rfl rfl rfl rfl ?_; intro g_ hg_) | (refine gl_box rfl rfl rfl rfl rfl ?_; intro g_ hg_))
      | (refine gl_alc0 ?_; (refine gl_alloc tab_ok rfl rfl rfl rfl rfl ?_; intro g_ hg_))
      | (refine gl_sto0 ?_; refine gl_store tab_ok rfl rfl rfl rfl rfl rfl rfl c_one rfl c_ku ?_)
      | (refine gl_any0 ?_; refine gl_pure tab_ok rfl rfl rfl rfl rfl rfl ?_)
      | (refine gl_any0 ?_; first | refine gl_yv (yv_shr tab_ok (gok_none rfl) rfl rfl rfl (fun _ => rfl) (fun _ => rfl) c_bnd) rfl rfl ?_ | refine gl_yv (yv_rem tab_ok (gok_none rfl) rfl rfl rfl (fun _ => rfl) (fun _ => rfl) c_bnd) rfl rfl ?_ | refine gl_yv (yv_indexS tab_ok (gok_none rfl) rfl rfl rfl rfl (fun _ => rfl) (fun _ => rfl) c_bnd) rfl rfl ?_ | refine gl_yv (yv_sliceH tab_ok (gok_none rfl) rfl rfl rfl rfl rfl (fun _ => rfl) (fun _ => rfl) c_bnd) rfl rfl ?_)
      | (refine gl_arr0 ?_; refine gl_yv (yv_buildA tab_ok (gok_none rfl) rfl rfl rfl rfl (fun _ => allT_of rfl) rfl) rfl rfl ?_)
      | (refine gl_eqS ?_; first | refine gl_yv (yv_eqS tab_ok eqs_ok c_gok rfl rfl rfl rfl c_allT rfl rfl rfl) rfl rfl ?_)
      | (refine gl_neS ?_; first | refine gl_yv (yv_neS tab_ok eqs_ok c_gok rfl rfl rfl rfl c_allT rfl rfl rfl) rfl rfl ?_)
      | (refine gl_anyG ?_; first | refine gl_yv (yv_pure tab_ok c_gok rfl rfl c_allT) rfl rfl ?_ | refine gl_yv (yv_indexS tab_ok c_gok rfl rfl rfl rfl c_imp c_imp (by intro hq_; (try simp only [Bool.and_eq_true, Bool.not_eq_true', Bool.not_eq_false', Bool.or_eq_false_iff, Bool.or_eq_true, decide_eq_true_eq, decide_eq_false_iff_not, Bool.true_and, Bool.and_true] at hq_); omega)) rfl rfl ?_ | refine gl_yv (yv_indexS (i := 0) tab_ok c_gok rfl rfl rfl rfl c_imp c_imp (by intro hq_; (try simp only [Bool.and_eq_true, Bool.not_eq_true', Bool.not_eq_false', Bool.or_eq_false_iff, Bool.or_eq_true, decide_eq_true_eq, decide_eq_false_iff_not, Bool.true_and, Bool.and_true] at hq_); omega)) rfl rfl ?_))
    | (refine gc_gate ?_; first
      | refine gc_seq ?_
      | refine gc_region ?_
      | refine gc_quietRo rfl mixed (by decide +kernel) ?_
      | refine gc_true rfl ?_
      | refine gc_false rfl ?_
      | (refine gc_cond rfl ?_ ?_ <;> intro h_ <;> have hd_ := h_ <;> (try simp only [bytes_beq, cell_beq, val_beq, stamp_beq, decide_eq_true_eq, decide_eq_false_iff_not, Bool.and_eq_true, Bool.or_eq_true, Bool.or_eq_false_iff, Bool.not_eq_true', Bool.not_eq_false', Bool.not_true, Bool.not_false, Bool.false_or, Bool.true_and, Bool.and_true, Bool.or_false, beq_iff_eq, bne_iff_ne, beq_eq_false_iff_ne, bne_eq_false_iff_eq, ne_eq, Bool.false_eq_true, reduceCtorEq] at hd_) <;> (try (exfalso; omega)))
      | refine gc_block ?_
      | refine gc_exit ?_
      | refine gc_ret ?_
      | refine gc_skip ?_
      | refine gc_label ?_)
    | (refine ge_gate ?_; first
      | ((with_reducible refine ge_gT ?_); first | with_reducible refine ge_then ?_ | with_reducible refine ge_then_exit ?_ | with_reducible refine ge_then_ret ?_)
      | ((with_reducible refine ge_gK ?_); first | with_reducible refine ge_block ?_ | refine ge_block_exit ?_ | refine ge_block_pass rfl ?_ | with_reducible refine ge_block_ret ?_)
      | ((with_reducible refine ge_gB ?_); first | refine ge_ret1 tab_ok rfl c_rvt ?_ | refine ge_end1 tab_ok rfl c_rvt ?_ | refine ge_ret2 tab_ok rfl c_rvt c_rvt ?_ | refine ge_ret_none rfl ?_ | refine ge_end_none rfl ?_))
    | (refine gq_gate ?_; first
      | refine gq_nil ?_
      | (refine gq_load0 ?_; refine gq_yv (yv_load tab_ok (gok_none rfl) rfl rfl (fun _ => rfl) c_mem (fun _ => c_lds)) rfl rfl ?_)
      | (refine gq_add0 ?_; refine gq_yv (yv_add tab_ok (gok_none rfl) rfl rfl rfl rfl (fun _ => allT_of rfl) (by intro _; omega)) rfl rfl ?_)
      | (refine gq_sub0 ?_; refine gq_yv (yv_sub tab_ok (gok_none rfl) rfl rfl rfl rfl (fun _ => allT_of rfl) (by intro _; omega)) rfl rfl ?_)
      | (refine gq_idx0 ?_; refine gq_yv (yv_idxC tab_ok (gok_none rfl) rfl rfl rfl rfl rfl (fun _ => rfl) (fun _ => rfl) c_bnd) rfl rfl ?_)
      | (refine gq_pick0 ?_; first | refine gq_yv (yv_and (gok_none rfl) rfl rfl rfl (fun _ => rfl) c_imp2) rfl rfl ?_ | refine gq_yv (yv_or (gok_none rfl) rfl rfl rfl (fun _ => rfl) c_imp2) rfl rfl ?_)
      | (refine gq_idx0 ?_; refine gq_yv (yv_indexAddr tab_ok (gok_none rfl) rfl rfl rfl rfl rfl (fun _ => rfl) (fun _ => rfl) (by intro _; omega)) rfl rfl ?_)
      | (refine gq_addG ?_; refine gq_yv (yv_add tab_ok c_gok rfl rfl rfl rfl c_allT c_bnd) rfl rfl ?_)
      | (refine gq_subG ?_; refine gq_yv (yv_sub tab_ok c_gok rfl rfl rfl rfl c_allT c_bnd) rfl rfl ?_)
      | (refine gq_loadG ?_; refine gq_yv (yv_load tab_ok c_gok rfl rfl c_imp c_mem (fun _ => c_lds)) rfl rfl ?_)
      | (refine gq_pickG ?_; first | refine gq_yv (yv_and c_gok rfl rfl rfl c_imp c_imp2) rfl rfl ?_ | refine gq_yv (yv_or c_gok rfl rfl rfl c_imp c_imp2) rfl rfl ?_)
      | (refine gq_idxG ?_; refine gq_yv (yv_indexAddr tab_ok c_gok rfl rfl rfl rfl rfl c_imp c_imp c_bnd) rfl rfl ?_)
      | (refine gq_any0 ?_; refine gq_pure tab_ok rfl rfl rfl rfl rfl rfl ?_)
      | (refine gq_any0 ?_; first | refine gq_yv (yv_shr tab_ok (gok_none rfl) rfl rfl rfl (fun _ => rfl) (fun _ => rfl) c_bnd) rfl rfl ?_ | refine gq_yv (yv_rem tab_ok (gok_none rfl) rfl rfl rfl (fun _ => rfl) (fun _ => rfl) c_bnd) rfl rfl ?_ | refine gq_yv (yv_indexS tab_ok (gok_none rfl) rfl rfl rfl rfl (fun _ => rfl) (fun _ => rfl) c_bnd) rfl rfl ?_ | refine gq_yv (yv_sliceH tab_ok (gok_none rfl) rfl rfl rfl rfl rfl (fun _ => rfl) (fun _ => rfl) c_bnd) rfl rfl ?_)
      | (refine gq_arr0 ?_; refine gq_yv (yv_buildA tab_ok (gok_none rfl) rfl rfl rfl rfl (fun _ => allT_of rfl) rfl) rfl rfl ?_)
      | (refine gq_eqS ?_; first | refine gq_yv (yv_eqS tab_ok eqs_ok c_gok rfl rfl rfl rfl c_allT rfl rfl rfl) rfl rfl ?_)
      | (refine gq_neS ?_; first | refine gq_yv (yv_neS tab_ok eqs_ok c_gok rfl rfl rfl rfl c_allT rfl rfl rfl) rfl rfl ?_)
      | (refine gq_anyG ?_; first | refine gq_yv (yv_pure tab_ok c_gok rfl rfl c_allT) rfl rfl ?_ | refine gq_yv (yv_indexS tab_ok c_gok rfl rfl rfl rfl c_imp c_imp (by intro hq_; (try simp only [Bool.and_eq_true, Bool.not_eq_true', Bool.not_eq_false', Bool.or_eq_false_iff, Bool.or_eq_true, decide_eq_true_eq, decide_eq_false_iff_not, Bool.true_and, Bool.and_true] at hq_); omega)) rfl rfl ?_ | refine gq_yv (yv_indexS (i := 0) tab_ok c_gok rfl rfl rfl rfl c_imp c_imp (by intro hq_; (try simp only [Bool.and_eq_true, Bool.not_eq_true', Bool.not_eq_false', Bool.or_eq_false_iff, Bool.or_eq_true, decide_eq_true_eq, decide_eq_false_iff_not, Bool.true_and, Bool.and_true] at hq_); omega)) rfl rfl ?_))
  intro W hW
  refine ⟨(), rfl, trivial, ?_⟩
  have e : (([] : List Value) ++ (cat rep r ++ (cat rep (x :: r) ++ sp).drop (r.length * 4))).take (r.length * 4) ++ repZ 1 z65 ++ (([] : List Value) ++ (cat rep r ++ (cat rep (x :: r) ++ sp).drop (r.length * 4))).drop (r.length * 4 + 1 * 4) = cat rep r ++ (z65 ++ sp) := by
    rw [List.nil_append, ← hl1, List.take_left' rfl, List.drop_append, List.drop_eq_nil_of_le (by omega), List.nil_append, List.drop_drop, List.drop_append, List.drop_eq_nil_of_le (by rw [hl2, hl1, List.length_cons]; omega), List.nil_append, hl1, hl2, List.length_cons]
    rw [show r.length * 4 + 1 * 4 - r.length * 4 = 4 by omega, show r.length * 4 + 4 - (r.length + 1) * 4 = 0 by omega]
    simp [repZ]
  rw [← e]
  subst hM
  exact hW

section
variable {N : Nat} {w0 : World} {M : List Nat} {F : Fl} {K Kx : Kl} {o : Oper}
theorem ev_delete {R : Value → Kl → Prop} {args : Array Operand} {ts : Array TypeId} {ps : List Bool} {x : Int × Int} {r : List (Int × Int)} {g c : Nat} {sp : List Value} (hg : o.guard = none) (ho : o.op = .call ⟨.value (.func 148), args, ts⟩) (hv : vals F args.toList = some [.slice (some (ad g)) (r.length + 1 : Nat) c, .int .i64 0, .int .i64 1]) (hc : cdl F args.toList = some ps) (hp : ps.all id = true)
    (hk : Oa K (some g) (cat rep (x :: r) ++ sp) 65 Kx) (hw : Ow (some g) (r.length + 1) c 4 (cat rep (x :: r)) sp) (hR : R (.slice (some (ad g)) r.length c) ((g, true, .cells (cat rep r ++ (z65 ++ sp)).toArray 65 (0, 0)) :: Kx)) : Ev Try.prog o N w0 M F K R :=
  ev_call hg ho ent148 hv hc hp fun W hW0 => by
    have hW := hk.st hW0
    refine (ct_Delete x r g c sp W (hW.known (g, true, .cells (cat rep (x :: r) ++ sp).toArray 65 (0, 0)) (by simp [ow])) hw).mono fun e W' ⟨y, h1, h2, h3⟩ => ⟨_, _, h1, ?_, hR⟩
    have hap := hW.apart
    refine St.over (M' := [g]) (K2 := Kx) hW h3 (fun b hb => ?_) (fun e he => ?_) ?_ (fun e he hm => ?_)
    · simp at hb; subst hb; exact mem_wrs (by simp only [ow, List.cons_append]; exact List.Mem.head _)
    · simp at he; subst he; rfl
    · exact List.sublist_append_right _ _
    · simp at hm
      exact (List.pairwise_append.1 hap).2.2 (g, true, .cells (cat rep (x :: r) ++ sp).toArray 65 (0, 0)) (by simp [ow]) e he hm.symm
end
theorem Ow.tl4 {x : Int × Int} {r : List (Int × Int)} {g c : Nat} {sp : List Value} (hw : Ow (some g) (r.length + 1) c 4 (cat rep (x :: r)) sp) : Ow (some g) r.length c 4 (cat rep r) (z65 ++ sp) :=
  ⟨rep_len r, by have := hw.room; have := hw.le; rw [List.length_append, hw.room]; show 4 + _ = _; omega, by have := hw.le; omega, fun h => by cases h⟩
def SS.take (s : SS) (v : Int) : Value × SS := match s.l with
  | x :: r => (.tuple #[.agg (rep x).toArray, .bool true], { s with l := r })
  | [] => if s.bh && s.wt then (.tuple #[.agg (rep (2, v)).toArray, .bool true], { s with bh := false }) else (.tuple #[.agg z65.toArray, .bool false], s)
theorem ct_Take1 (s : SS) (g c : Nat) (q : Option Nat) (sp : List Value) (v : Int) (x : Int × Int) (r : List (Int × Int)) (w : World) (h : SIn s g q c sp w) (hl : s.l = x :: r) : Calls Try.prog 60 #[.pointer (some ⟨g, 0, none⟩), .int .i64 v, .slice none 0 0] w (RetS w s g q c sp (.tuple #[.agg (rep x).toArray, .bool true]) { s with l := r }) := by
  have ho := h.o
  obtain ⟨wt, bh, a, b, l⟩ := s
  simp only at hl
  subst hl
  rcases q with _ | g2
  · have := ho.nil rfl
    have := ho.le
    simp at this
    omega
  refine enter (args := [_, _, _]) (M := []) (K := []) Try.func60 rfl Try.ntmps60 rfl (St.refl _ _) ?_
  refine gc_own (SS.K ⟨wt, bh, a, b, x :: r⟩ g (some g2) c sp []) h.k h.p ?_
  unfold RetS
  generalize hM : (SS.K ⟨wt, bh, a, b, x :: r⟩ g (some g2) c sp []).map (·.1) = M
  unfold SS.K SS.cells
  simp only [Option.map_some, List.length_cons]
  simp only [List.length_cons] at ho
  repeat' first
    | (refine gl_gate ?_; first
      | refine gl_nil ?_
      | (refine gl_load0 ?_; refine gl_yv (yv_load tab_ok (gok_none rfl) rfl rfl (fun _ => rfl) c_mem (fun _ => c_lds)) rfl rfl ?_)
      | (refine gl_add0 ?_; refine gl_yv (yv_add tab_ok (gok_none rfl) rfl rfl rfl rfl (fun _ => allT_of rfl) (by intro _; omega)) rfl rfl ?_)
      | (refine gl_sub0 ?_; refine gl_yv (yv_sub tab_ok (gok_none rfl) rfl rfl rfl rfl (fun _ => allT_of rfl) (by intro _; omega)) rfl rfl ?_)
      | (refine gl_idx0 ?_; refine gl_yv (yv_idxC tab_ok (gok_none rfl) rfl rfl rfl rfl rfl (fun _ => rfl) (fun _ => rfl) c_bnd) rfl rfl ?_)
      | (refine gl_any0 ?_; (refine gl_ev (ev_delete (x := x) (r := r) (g := g2) (c := c) (sp := sp) rfl rfl rfl rfl rfl c_oa ho ?_) rfl rfl))
      | (refine gl_bld0 ?_; (refine gl_ev (ev_buildSlice tab_ok rfl rfl rfl rfl rfl rfl rfl rfl rfl rfl ?_) rfl rfl; intro g_ hg_))
      | (refine gl_mul0 ?_; refine gl_yv (yv_mul tab_ok (gok_none rfl) rfl rfl rfl rfl (fun _ => allT_of rfl) c_bnd) rfl rfl ?_)
      | (refine gl_pick0 ?_; first | refine gl_yv (yv_and (gok_none rfl) rfl rfl rfl (fun _ => rfl) c_imp2) rfl rfl ?_ | refine gl_yv (yv_or (gok_none rfl) rfl rfl rfl (fun _ => rfl) c_imp2) rfl rfl ?_)
      | (refine gl_idx0 ?_; refine gl_yv (yv_indexAddr tab_ok (gok_none rfl) rfl rfl rfl rfl rfl (fun _ => rfl) (fun _ => rfl) (by intro _; omega)) rfl rfl ?_)
      | (refine gl_addG ?_; refine gl_yv (yv_add tab_ok c_gok rfl rfl rfl rfl c_allT c_bnd) rfl rfl ?_)
      | (refine gl_subG ?_; refine gl_yv (yv_sub tab_ok c_gok rfl rfl rfl rfl c_allT c_bnd) rfl rfl ?_)
      | (refine gl_loadG ?_; refine gl_yv (yv_load tab_ok c_gok rfl rfl c_imp c_mem (fun _ => c_lds)) rfl rfl ?_)
      | (refine gl_pickG ?_; first | refine gl_yv (yv_and c_gok rfl rfl rfl c_imp c_imp2) rfl rfl ?_ | refine gl_yv (yv_or c_gok rfl rfl rfl c_imp c_imp2) rfl rfl ?_)
      | (refine gl_idxG ?_; refine gl_yv (yv_indexAddr tab_ok c_gok rfl rfl rfl rfl rfl c_imp c_imp c_bnd) rfl rfl ?_)
      | (refine gl_box0 ?_; first | (refine gl_box_agg rfl rfl rfl rfl rfl ?_; intro g_ hg_) | (refine gl_box_one rfl rfl rfl rfl rfl rfl ?_; intro g_ hg_) | (refine gl_box rfl rfl rfl rfl rfl ?_; intro g_ hg_))
      | (refine gl_alc0 ?_; (refine gl_alloc tab_ok rfl rfl rfl rfl rfl ?_; intro g_ hg_))
      | (refine gl_sto0 ?_; refine gl_store tab_ok rfl rfl rfl rfl rfl rfl rfl c_one rfl c_ku ?_)
      | (refine gl_any0 ?_; refine gl_pure tab_ok rfl rfl rfl rfl rfl rfl ?_)
      | (refine gl_any0 ?_; first | refine gl_yv (yv_shr tab_ok (gok_none rfl) rfl rfl rfl (fun _ => rfl) (fun _ => rfl) c_bnd) rfl rfl ?_ | refine gl_yv (yv_rem tab_ok (gok_none rfl) rfl rfl rfl (fun _ => rfl) (fun _ => rfl) c_bnd) rfl rfl ?_ | refine gl_yv (yv_indexS tab_ok (gok_none rfl) rfl rfl rfl rfl (fun _ => rfl) (fun _ => rfl) c_bnd) rfl rfl ?_ | refine gl_yv (yv_sliceH tab_ok (gok_none rfl) rfl rfl rfl rfl rfl (fun _ => rfl) (fun _ => rfl) c_bnd) rfl rfl ?_)
      | (refine gl_arr0 ?_; refine gl_yv (yv_buildA tab_ok (gok_none rfl) rfl rfl rfl rfl (fun _ => allT_of rfl) rfl) rfl rfl ?_)
      | (refine gl_eqS ?_; first | refine gl_yv (yv_eqS tab_ok eqs_ok c_gok rfl rfl rfl rfl c_allT rfl rfl rfl) rfl rfl ?_)
      | (refine gl_neS ?_; first | refine gl_yv (yv_neS tab_ok eqs_ok c_gok rfl rfl rfl rfl c_allT rfl rfl rfl) rfl rfl ?_)
      | (refine gl_anyG ?_; first | refine gl_yv (yv_pure tab_ok c_gok rfl rfl c_allT) rfl rfl ?_ | refine gl_yv (yv_indexS tab_ok c_gok rfl rfl rfl rfl c_imp c_imp (by intro hq_; (try simp only [Bool.and_eq_true, Bool.not_eq_true', Bool.not_eq_false', Bool.or_eq_false_iff, Bool.or_eq_true, decide_eq_true_eq, decide_eq_false_iff_not, Bool.true_and, Bool.and_true] at hq_); omega)) rfl rfl ?_ | refine gl_yv (yv_indexS (i := 0) tab_ok c_gok rfl rfl rfl rfl c_imp c_imp (by intro hq_; (try simp only [Bool.and_eq_true, Bool.not_eq_true', Bool.not_eq_false', Bool.or_eq_false_iff, Bool.or_eq_true, decide_eq_true_eq, decide_eq_false_iff_not, Bool.true_and, Bool.and_true] at hq_); omega)) rfl rfl ?_))
    | (refine gc_gate ?_; first
      | refine gc_seq ?_
      | refine gc_region ?_
      | refine gc_quietRo rfl mixed (by decide +kernel) ?_
      | refine gc_true rfl ?_
      | refine gc_false rfl ?_
      | (refine gc_cond rfl ?_ ?_ <;> intro h_ <;> have hd_ := h_ <;> (try simp only [bytes_beq, cell_beq, val_beq, stamp_beq, decide_eq_true_eq, decide_eq_false_iff_not, Bool.and_eq_true, Bool.or_eq_true, Bool.or_eq_false_iff, Bool.not_eq_true', Bool.not_eq_false', Bool.not_true, Bool.not_false, Bool.false_or, Bool.true_and, Bool.and_true, Bool.or_false, beq_iff_eq, bne_iff_ne, beq_eq_false_iff_ne, bne_eq_false_iff_eq, ne_eq, Bool.false_eq_true, reduceCtorEq] at hd_) <;> (try (exfalso; omega)))
      | refine gc_block ?_
      | refine gc_exit ?_
      | refine gc_ret ?_
      | refine gc_skip ?_
      | refine gc_label ?_)
    | (refine ge_gate ?_; first
      | ((with_reducible refine ge_gT ?_); first | with_reducible refine ge_then ?_ | with_reducible refine ge_then_exit ?_ | with_reducible refine ge_then_ret ?_)
      | ((with_reducible refine ge_gK ?_); first | with_reducible refine ge_block ?_ | refine ge_block_exit ?_ | refine ge_block_pass rfl ?_ | with_reducible refine ge_block_ret ?_)
      | ((with_reducible refine ge_gB ?_); first | refine ge_ret1 tab_ok rfl c_rvt ?_ | refine ge_end1 tab_ok rfl c_rvt ?_ | refine ge_ret2 tab_ok rfl c_rvt c_rvt ?_ | refine ge_ret_none rfl ?_ | refine ge_end_none rfl ?_))
    | (refine gq_gate ?_; first
      | refine gq_nil ?_
      | (refine gq_load0 ?_; refine gq_yv (yv_load tab_ok (gok_none rfl) rfl rfl (fun _ => rfl) c_mem (fun _ => c_lds)) rfl rfl ?_)
      | (refine gq_add0 ?_; refine gq_yv (yv_add tab_ok (gok_none rfl) rfl rfl rfl rfl (fun _ => allT_of rfl) (by intro _; omega)) rfl rfl ?_)
      | (refine gq_sub0 ?_; refine gq_yv (yv_sub tab_ok (gok_none rfl) rfl rfl rfl rfl (fun _ => allT_of rfl) (by intro _; omega)) rfl rfl ?_)
      | (refine gq_idx0 ?_; refine gq_yv (yv_idxC tab_ok (gok_none rfl) rfl rfl rfl rfl rfl (fun _ => rfl) (fun _ => rfl) c_bnd) rfl rfl ?_)
      | (refine gq_pick0 ?_; first | refine gq_yv (yv_and (gok_none rfl) rfl rfl rfl (fun _ => rfl) c_imp2) rfl rfl ?_ | refine gq_yv (yv_or (gok_none rfl) rfl rfl rfl (fun _ => rfl) c_imp2) rfl rfl ?_)
      | (refine gq_idx0 ?_; refine gq_yv (yv_indexAddr tab_ok (gok_none rfl) rfl rfl rfl rfl rfl (fun _ => rfl) (fun _ => rfl) (by intro _; omega)) rfl rfl ?_)
      | (refine gq_addG ?_; refine gq_yv (yv_add tab_ok c_gok rfl rfl rfl rfl c_allT c_bnd) rfl rfl ?_)
      | (refine gq_subG ?_; refine gq_yv (yv_sub tab_ok c_gok rfl rfl rfl rfl c_allT c_bnd) rfl rfl ?_)
      | (refine gq_loadG ?_; refine gq_yv (yv_load tab_ok c_gok rfl rfl c_imp c_mem (fun _ => c_lds)) rfl rfl ?_)
      | (refine gq_pickG ?_; first | refine gq_yv (yv_and c_gok rfl rfl rfl c_imp c_imp2) rfl rfl ?_ | refine gq_yv (yv_or c_gok rfl rfl rfl c_imp c_imp2) rfl rfl ?_)
      | (refine gq_idxG ?_; refine gq_yv (yv_indexAddr tab_ok c_gok rfl rfl rfl rfl rfl c_imp c_imp c_bnd) rfl rfl ?_)
      | (refine gq_any0 ?_; refine gq_pure tab_ok rfl rfl rfl rfl rfl rfl ?_)
      | (refine gq_any0 ?_; first | refine gq_yv (yv_shr tab_ok (gok_none rfl) rfl rfl rfl (fun _ => rfl) (fun _ => rfl) c_bnd) rfl rfl ?_ | refine gq_yv (yv_rem tab_ok (gok_none rfl) rfl rfl rfl (fun _ => rfl) (fun _ => rfl) c_bnd) rfl rfl ?_ | refine gq_yv (yv_indexS tab_ok (gok_none rfl) rfl rfl rfl rfl (fun _ => rfl) (fun _ => rfl) c_bnd) rfl rfl ?_ | refine gq_yv (yv_sliceH tab_ok (gok_none rfl) rfl rfl rfl rfl rfl (fun _ => rfl) (fun _ => rfl) c_bnd) rfl rfl ?_)
      | (refine gq_arr0 ?_; refine gq_yv (yv_buildA tab_ok (gok_none rfl) rfl rfl rfl rfl (fun _ => allT_of rfl) rfl) rfl rfl ?_)
      | (refine gq_eqS ?_; first | refine gq_yv (yv_eqS tab_ok eqs_ok c_gok rfl rfl rfl rfl c_allT rfl rfl rfl) rfl rfl ?_)
      | (refine gq_neS ?_; first | refine gq_yv (yv_neS tab_ok eqs_ok c_gok rfl rfl rfl rfl c_allT rfl rfl rfl) rfl rfl ?_)
      | (refine gq_anyG ?_; first | refine gq_yv (yv_pure tab_ok c_gok rfl rfl c_allT) rfl rfl ?_ | refine gq_yv (yv_indexS tab_ok c_gok rfl rfl rfl rfl c_imp c_imp (by intro hq_; (try simp only [Bool.and_eq_true, Bool.not_eq_true', Bool.not_eq_false', Bool.or_eq_false_iff, Bool.or_eq_true, decide_eq_true_eq, decide_eq_false_iff_not, Bool.true_and, Bool.and_true] at hq_); omega)) rfl rfl ?_ | refine gq_yv (yv_indexS (i := 0) tab_ok c_gok rfl rfl rfl rfl c_imp c_imp (by intro hq_; (try simp only [Bool.and_eq_true, Bool.not_eq_true', Bool.not_eq_false', Bool.or_eq_false_iff, Bool.or_eq_true, decide_eq_true_eq, decide_eq_false_iff_not, Bool.true_and, Bool.and_true] at hq_); omega)) rfl rfl ?_))
  intro W hW
  exact ⟨(some g2, c, z65 ++ sp), rfl, Ow.tl4 ho, (hW.perm (perm4 _ _ _ _)).drop (List.sublist_append_left _ _)⟩
theorem ct_Take2 (s : SS) (g c : Nat) (q : Option Nat) (sp : List Value) (v : Int) (w : World) (h : SIn s g q c sp w) (hl : s.l = []) : Calls Try.prog 60 #[.pointer (some ⟨g, 0, none⟩), .int .i64 v, .slice none 0 0] w (RetS w s g q c sp (if s.bh && s.wt then .tuple #[.agg (rep (2, v)).toArray, .bool true] else .tuple #[.agg z65.toArray, .bool false]) (if s.bh && s.wt then { s with bh := false } else s)) := by
  have ho := h.o
  obtain ⟨wt, bh, a, b, l⟩ := s
  simp only at hl
  subst hl
  refine enter (args := [_, _, _]) (M := []) (K := []) Try.func60 rfl Try.ntmps60 rfl (St.refl _ _) ?_
  refine gc_own (SS.K ⟨wt, bh, a, b, []⟩ g q c sp []) h.k h.p ?_
  unfold RetS
  generalize hM : (SS.K ⟨wt, bh, a, b, []⟩ g q c sp []).map (·.1) = M
  unfold SS.K SS.cells
  simp only [List.length_nil]
  simp only [List.length_nil] at ho
  repeat' first
    | (refine gl_gate ?_; first
      | refine gl_nil ?_
      | (refine gl_load0 ?_; refine gl_yv (yv_load tab_ok (gok_none rfl) rfl rfl (fun _ => rfl) c_mem (fun _ => c_lds)) rfl rfl ?_)
      | (refine gl_add0 ?_; refine gl_yv (yv_add tab_ok (gok_none rfl) rfl rfl rfl rfl (fun _ => allT_of rfl) (by intro _; omega)) rfl rfl ?_)
      | (refine gl_sub0 ?_; refine gl_yv (yv_sub tab_ok (gok_none rfl) rfl rfl rfl rfl (fun _ => allT_of rfl) (by intro _; omega)) rfl rfl ?_)
      | (refine gl_idx0 ?_; refine gl_yv (yv_idxC tab_ok (gok_none rfl) rfl rfl rfl rfl rfl (fun _ => rfl) (fun _ => rfl) c_bnd) rfl rfl ?_)
      | (refine gl_any0 ?_; (refine gl_ev (ev_sess (s := ⟨wt, false, a, b, []⟩) (s' := ⟨wt, false, a, b, []⟩) (g := g) (q := q) (c := c) (sp := sp) rfl rfl ent146 rfl rfl rfl c_sa ho (fun W hi => ct_snap _ g c q sp v W hi) ?_) rfl rfl; intro q_ c_ sp_ hw_))
      | (refine gl_bld0 ?_; (refine gl_ev (ev_buildSlice tab_ok rfl rfl rfl rfl rfl rfl rfl rfl rfl rfl ?_) rfl rfl; intro g_ hg_))
      | (refine gl_mul0 ?_; refine gl_yv (yv_mul tab_ok (gok_none rfl) rfl rfl rfl rfl (fun _ => allT_of rfl) c_bnd) rfl rfl ?_)
      | (refine gl_pick0 ?_; first | refine gl_yv (yv_and (gok_none rfl) rfl rfl rfl (fun _ => rfl) c_imp2) rfl rfl ?_ | refine gl_yv (yv_or (gok_none rfl) rfl rfl rfl (fun _ => rfl) c_imp2) rfl rfl ?_)
      | (refine gl_idx0 ?_; refine gl_yv (yv_indexAddr tab_ok (gok_none rfl) rfl rfl rfl rfl rfl (fun _ => rfl) (fun _ => rfl) (by intro _; omega)) rfl rfl ?_)
      | (refine gl_addG ?_; refine gl_yv (yv_add tab_ok c_gok rfl rfl rfl rfl c_allT c_bnd) rfl rfl ?_)
      | (refine gl_subG ?_; refine gl_yv (yv_sub tab_ok c_gok rfl rfl rfl rfl c_allT c_bnd) rfl rfl ?_)
      | (refine gl_loadG ?_; refine gl_yv (yv_load tab_ok c_gok rfl rfl c_imp c_mem (fun _ => c_lds)) rfl rfl ?_)
      | (refine gl_pickG ?_; first | refine gl_yv (yv_and c_gok rfl rfl rfl c_imp c_imp2) rfl rfl ?_ | refine gl_yv (yv_or c_gok rfl rfl rfl c_imp c_imp2) rfl rfl ?_)
      | (refine gl_idxG ?_; refine gl_yv (yv_indexAddr tab_ok c_gok rfl rfl rfl rfl rfl c_imp c_imp c_bnd) rfl rfl ?_)
      | (refine gl_box0 ?_; first | (refine gl_box_agg rfl rfl rfl rfl rfl ?_; intro g_ hg_) | (refine gl_box_one rfl rfl rfl rfl rfl rfl ?_; intro g_ hg_) | (refine gl_box rfl rfl rfl rfl rfl ?_; intro g_ hg_))
      | (refine gl_alc0 ?_; (refine gl_alloc tab_ok rfl rfl rfl rfl rfl ?_; intro g_ hg_))
      | (refine gl_sto0 ?_; refine gl_store tab_ok rfl rfl rfl rfl rfl rfl rfl c_one rfl c_ku ?_)
      | (refine gl_any0 ?_; refine gl_pure tab_ok rfl rfl rfl rfl rfl rfl ?_)
      | (refine gl_any0 ?_; first | refine gl_yv (yv_shr tab_ok (gok_none rfl) rfl rfl rfl (fun _ => rfl) (fun _ => rfl) c_bnd) rfl rfl ?_ | refine gl_yv (yv_rem tab_ok (gok_none rfl) rfl rfl rfl (fun _ => rfl) (fun _ => rfl) c_bnd) rfl rfl ?_ | refine gl_yv (yv_indexS tab_ok (gok_none rfl) rfl rfl rfl rfl (fun _ => rfl) (fun _ => rfl) c_bnd) rfl rfl ?_ | refine gl_yv (yv_sliceH tab_ok (gok_none rfl) rfl rfl rfl rfl rfl (fun _ => rfl) (fun _ => rfl) c_bnd) rfl rfl ?_)
      | (refine gl_arr0 ?_; refine gl_yv (yv_buildA tab_ok (gok_none rfl) rfl rfl rfl rfl (fun _ => allT_of rfl) rfl) rfl rfl ?_)
      | (refine gl_eqS ?_; first | refine gl_yv (yv_eqS tab_ok eqs_ok c_gok rfl rfl rfl rfl c_allT rfl rfl rfl) rfl rfl ?_)
      | (refine gl_neS ?_; first | refine gl_yv (yv_neS tab_ok eqs_ok c_gok rfl rfl rfl rfl c_allT rfl rfl rfl) rfl rfl ?_)
      | (refine gl_anyG ?_; first | refine gl_yv (yv_pure tab_ok c_gok rfl rfl c_allT) rfl rfl ?_ | refine gl_yv (yv_indexS tab_ok c_gok rfl rfl rfl rfl c_imp c_imp (by intro hq_; (try simp only [Bool.and_eq_true, Bool.not_eq_true', Bool.not_eq_false', Bool.or_eq_false_iff, Bool.or_eq_true, decide_eq_true_eq, decide_eq_false_iff_not, Bool.true_and, Bool.and_true] at hq_); omega)) rfl rfl ?_ | refine gl_yv (yv_indexS (i := 0) tab_ok c_gok rfl rfl rfl rfl c_imp c_imp (by intro hq_; (try simp only [Bool.and_eq_true, Bool.not_eq_true', Bool.not_eq_false', Bool.or_eq_false_iff, Bool.or_eq_true, decide_eq_true_eq, decide_eq_false_iff_not, Bool.true_and, Bool.and_true] at hq_); omega)) rfl rfl ?_))
    | (refine gc_gate ?_; first
      | refine gc_seq ?_
      | refine gc_region ?_
      | refine gc_quietRo rfl mixed (by decide +kernel) ?_
      | refine gc_true rfl ?_
      | refine gc_false rfl ?_
      | (refine gc_cond rfl ?_ ?_ <;> intro h_ <;> have hd_ := h_ <;> (try simp only [bytes_beq, cell_beq, val_beq, stamp_beq, decide_eq_true_eq, decide_eq_false_iff_not, Bool.and_eq_true, Bool.or_eq_true, Bool.or_eq_false_iff, Bool.not_eq_true', Bool.not_eq_false', Bool.not_true, Bool.not_false, Bool.false_or, Bool.true_and, Bool.and_true, Bool.or_false, beq_iff_eq, bne_iff_ne, beq_eq_false_iff_ne, bne_eq_false_iff_eq, ne_eq, Bool.false_eq_true, reduceCtorEq] at hd_) <;> (try (exfalso; omega)))
      | refine gc_block ?_
      | refine gc_exit ?_
      | refine gc_ret ?_
      | refine gc_skip ?_
      | refine gc_label ?_)
    | (refine ge_gate ?_; first
      | ((with_reducible refine ge_gT ?_); first | with_reducible refine ge_then ?_ | with_reducible refine ge_then_exit ?_ | with_reducible refine ge_then_ret ?_)
      | ((with_reducible refine ge_gK ?_); first | with_reducible refine ge_block ?_ | refine ge_block_exit ?_ | refine ge_block_pass rfl ?_ | with_reducible refine ge_block_ret ?_)
      | ((with_reducible refine ge_gB ?_); first | refine ge_ret1 tab_ok rfl c_rvt ?_ | refine ge_end1 tab_ok rfl c_rvt ?_ | refine ge_ret2 tab_ok rfl c_rvt c_rvt ?_ | refine ge_ret_none rfl ?_ | refine ge_end_none rfl ?_))
    | (refine gq_gate ?_; first
      | refine gq_nil ?_
      | (refine gq_load0 ?_; refine gq_yv (yv_load tab_ok (gok_none rfl) rfl rfl (fun _ => rfl) c_mem (fun _ => c_lds)) rfl rfl ?_)
      | (refine gq_add0 ?_; refine gq_yv (yv_add tab_ok (gok_none rfl) rfl rfl rfl rfl (fun _ => allT_of rfl) (by intro _; omega)) rfl rfl ?_)
      | (refine gq_sub0 ?_; refine gq_yv (yv_sub tab_ok (gok_none rfl) rfl rfl rfl rfl (fun _ => allT_of rfl) (by intro _; omega)) rfl rfl ?_)
      | (refine gq_idx0 ?_; refine gq_yv (yv_idxC tab_ok (gok_none rfl) rfl rfl rfl rfl rfl (fun _ => rfl) (fun _ => rfl) c_bnd) rfl rfl ?_)
      | (refine gq_pick0 ?_; first | refine gq_yv (yv_and (gok_none rfl) rfl rfl rfl (fun _ => rfl) c_imp2) rfl rfl ?_ | refine gq_yv (yv_or (gok_none rfl) rfl rfl rfl (fun _ => rfl) c_imp2) rfl rfl ?_)
      | (refine gq_idx0 ?_; refine gq_yv (yv_indexAddr tab_ok (gok_none rfl) rfl rfl rfl rfl rfl (fun _ => rfl) (fun _ => rfl) (by intro _; omega)) rfl rfl ?_)
      | (refine gq_addG ?_; refine gq_yv (yv_add tab_ok c_gok rfl rfl rfl rfl c_allT c_bnd) rfl rfl ?_)
      | (refine gq_subG ?_; refine gq_yv (yv_sub tab_ok c_gok rfl rfl rfl rfl c_allT c_bnd) rfl rfl ?_)
      | (refine gq_loadG ?_; refine gq_yv (yv_load tab_ok c_gok rfl rfl c_imp c_mem (fun _ => c_lds)) rfl rfl ?_)
      | (refine gq_pickG ?_; first | refine gq_yv (yv_and c_gok rfl rfl rfl c_imp c_imp2) rfl rfl ?_ | refine gq_yv (yv_or c_gok rfl rfl rfl c_imp c_imp2) rfl rfl ?_)
      | (refine gq_idxG ?_; refine gq_yv (yv_indexAddr tab_ok c_gok rfl rfl rfl rfl rfl c_imp c_imp c_bnd) rfl rfl ?_)
      | (refine gq_any0 ?_; refine gq_pure tab_ok rfl rfl rfl rfl rfl rfl ?_)
      | (refine gq_any0 ?_; first | refine gq_yv (yv_shr tab_ok (gok_none rfl) rfl rfl rfl (fun _ => rfl) (fun _ => rfl) c_bnd) rfl rfl ?_ | refine gq_yv (yv_rem tab_ok (gok_none rfl) rfl rfl rfl (fun _ => rfl) (fun _ => rfl) c_bnd) rfl rfl ?_ | refine gq_yv (yv_indexS tab_ok (gok_none rfl) rfl rfl rfl rfl (fun _ => rfl) (fun _ => rfl) c_bnd) rfl rfl ?_ | refine gq_yv (yv_sliceH tab_ok (gok_none rfl) rfl rfl rfl rfl rfl (fun _ => rfl) (fun _ => rfl) c_bnd) rfl rfl ?_)
      | (refine gq_arr0 ?_; refine gq_yv (yv_buildA tab_ok (gok_none rfl) rfl rfl rfl rfl (fun _ => allT_of rfl) rfl) rfl rfl ?_)
      | (refine gq_eqS ?_; first | refine gq_yv (yv_eqS tab_ok eqs_ok c_gok rfl rfl rfl rfl c_allT rfl rfl rfl) rfl rfl ?_)
      | (refine gq_neS ?_; first | refine gq_yv (yv_neS tab_ok eqs_ok c_gok rfl rfl rfl rfl c_allT rfl rfl rfl) rfl rfl ?_)
      | (refine gq_anyG ?_; first | refine gq_yv (yv_pure tab_ok c_gok rfl rfl c_allT) rfl rfl ?_ | refine gq_yv (yv_indexS tab_ok c_gok rfl rfl rfl rfl c_imp c_imp (by intro hq_; (try simp only [Bool.and_eq_true, Bool.not_eq_true', Bool.not_eq_false', Bool.or_eq_false_iff, Bool.or_eq_true, decide_eq_true_eq, decide_eq_false_iff_not, Bool.true_and, Bool.and_true] at hq_); omega)) rfl rfl ?_ | refine gq_yv (yv_indexS (i := 0) tab_ok c_gok rfl rfl rfl rfl c_imp c_imp (by intro hq_; (try simp only [Bool.and_eq_true, Bool.not_eq_true', Bool.not_eq_false', Bool.or_eq_false_iff, Bool.or_eq_true, decide_eq_true_eq, decide_eq_false_iff_not, Bool.true_and, Bool.and_true] at hq_); omega)) rfl rfl ?_))
  · intro W hW
    have e : (bh && wt) = true := by first | assumption | simp_all
    simp only [e, if_true]
    refine ⟨(q_, c_, sp_), rfl, hw_, ?_⟩
    have h := hW.drop (K' := (g, true, .cells ((⟨wt, false, a, b, []⟩ : SS).cells q_ c_).toArray 59 (0, 0)) :: (ow q_ true (cat rep [] ++ sp_) 65 ++ [])) (List.Sublist.cons_cons _ (List.Sublist.append_left (List.nil_sublist _) _))
    exact h
  · intro W hW
    have e : (bh && wt) = false := by first | assumption | simp_all
    simp only [e, Bool.false_eq_true, if_false]
    exact ⟨(q, c, sp), rfl, ho, hW.drop c_sub⟩
theorem ct_Take (s : SS) (g c : Nat) (q : Option Nat) (sp : List Value) (v : Int) (w : World) (h : SIn s g q c sp w) : Calls Try.prog 60 #[.pointer (some ⟨g, 0, none⟩), .int .i64 v, .slice none 0 0] w (RetS w s g q c sp (s.take v).1 (s.take v).2) := by
  cases hl : s.l with
  | nil =>
    have h1 := ct_Take2 s g c q sp v w h hl
    unfold SS.take
    rw [hl]
    cases hb : (s.bh && s.wt) <;> simpa [hb, hl] using h1
  | cons x r =>
    have h1 := ct_Take1 s g c q sp v x r w h hl
    unfold SS.take
    rw [hl]
    exact h1
end Go.Proofs.Ytkgjfcjciigcgaa
