/-
  addr.Compare: which of two cells is ahead; that it orders cells.
-/
import Derived.Test.YtkgjfcjciigcgaaGoStamp
import Derived.Sort.Walk0
namespace Go.Proofs.Ytkgjfcjciigcgaa
open Go.Proofs.Ytkgjfcjciigcgaa.Sl Go.RowKit
set_option linter.unusedVariables false
set_option linter.unusedSimpArgs false
set_option maxRecDepth 100000

/-! ### texts in order -/
@[irreducible] def sLt (a b : ByteArray) : Prop := a.data.toList < b.data.toList
theorem bytesLess_sLt (a b : ByteArray) : Op.bytesLess a.toList b.toList = true ↔ sLt a b := by
  unfold sLt
  rw [bytesLess_eq, ByteArray.toList_eq, ByteArray.toList_eq, decide_eq_true_eq]
theorem sLt_irrefl (a : ByteArray) : ¬ sLt a a := by unfold sLt; exact List.lt_irrefl _
theorem sLt_trans {a b c : ByteArray} (h : sLt a b) (h' : sLt b c) : sLt a c := by unfold sLt at *; exact List.lt_trans h h'
theorem sLt_total (a b : ByteArray) : sLt a b ∨ a = b ∨ sLt b a := by
  unfold sLt
  by_cases h : a.data.toList < b.data.toList
  · exact .inl h
  · by_cases h' : b.data.toList < a.data.toList
    · exact .inr (.inr h')
    · refine .inr (.inl (ByteArray.ext (Array.toList_inj.mp ?_)))
      exact List.le_antisymm (List.not_lt.1 h') (List.not_lt.1 h)
theorem sLt_asymm {a b : ByteArray} (h : sLt a b) : ¬ sLt b a := fun h' => sLt_irrefl _ (sLt_trans h h')
def cmpT (a b : ByteArray) : Int := if Op.bytesLess a.toList b.toList then -1 else if Op.bytesLess b.toList a.toList then 1 else 0
theorem bl_false {a b : ByteArray} : Op.bytesLess a.toList b.toList = false ↔ ¬ sLt a b := by rw [← bytesLess_sLt]; simp
theorem cmpT_neg {a b : ByteArray} : cmpT a b = -1 ↔ sLt a b := by
  unfold cmpT
  rw [← bytesLess_sLt]
  split
  · simp [*]
  · split <;> simp [*]
theorem cmpT_zero {a b : ByteArray} : cmpT a b = 0 ↔ a = b := by
  constructor
  · intro h
    rcases sLt_total a b with h1 | h1 | h1
    · rw [cmpT_neg.2 h1] at h; cases h
    · exact h1
    · unfold cmpT at h
      rw [bl_false.2 (sLt_asymm h1), (bytesLess_sLt b a).2 h1] at h
      cases h
  · rintro rfl
    unfold cmpT
    rw [bl_false.2 (sLt_irrefl a)]
    rfl
theorem cmpT_range (a b : ByteArray) : cmpT a b = -1 ∨ cmpT a b = 0 ∨ cmpT a b = 1 := by
  unfold cmpT
  split
  · simp
  · split <;> simp

theorem ct_isNaN_string (x : ByteArray) (w : World) : Calls Try.prog 258 #[.string x] w fun e w' => e = .returned (.bool false) ∧ Bl w w' := by
  refine enter (args := [_]) (M := []) (K := []) Try.func258 rfl Try.ntmps258 rfl (St.refl _ _) ?_
  repeat' first
    | (refine gl_gate ?_; first
      | refine gl_nil ?_
      | (refine gl_any0 ?_; refine gl_pure tab_ok rfl rfl rfl rfl rfl rfl ?_))
    | (refine gc_gate ?_; first
      | refine gc_seq ?_
      | refine gc_region ?_
      | refine gc_ret ?_)
    | (refine ge_gate ?_; first
      | ((with_reducible refine ge_gT ?_); first | with_reducible refine ge_then ?_ | with_reducible refine ge_then_exit ?_ | with_reducible refine ge_then_ret ?_)
      | ((with_reducible refine ge_gB ?_); first | refine ge_ret1 tab_ok rfl c_rvt ?_ | refine ge_end1 tab_ok rfl c_rvt ?_ | refine ge_ret2 tab_ok rfl c_rvt c_rvt ?_ | refine ge_ret_none rfl ?_ | refine ge_end_none rfl ?_))
  intro W hW
  exact ⟨by simp, hW.below⟩
theorem ct_Compare_string (x y : ByteArray) (w : World) : Calls Try.prog 232 #[.string x, .string y] w fun e w' => e = .returned (.int .i64 (cmpT x y)) ∧ Bl w w' := by
  refine enter (args := [_, _]) (M := []) (K := []) Try.func232 rfl Try.ntmps232 rfl (St.refl _ _) ?_
  repeat' first
    | (refine gl_gate ?_; first
      | refine gl_nil ?_
      | (refine gl_calv0 ?_; first | refine gl_yd (yd_call (gok_none rfl) rfl ent258 rfl rfl (fun _ => allT_of rfl) (fun _ W hW => ct_isNaN_string _ W)) rfl rfl ?_)
      | (refine gl_any0 ?_; refine gl_pure tab_ok rfl rfl rfl rfl rfl rfl ?_))
    | (refine gc_gate ?_; first
      | refine gc_seq ?_
      | refine gc_region ?_
      | refine gc_false rfl ?_
      | (refine gc_cond rfl ?_ ?_ <;> intro h_ <;> have hd_ := h_ <;> (try simp only [bytes_beq, cell_beq, val_beq, stamp_beq, decide_eq_true_eq, decide_eq_false_iff_not, Bool.and_eq_true, Bool.or_eq_true, Bool.or_eq_false_iff, Bool.not_eq_true', Bool.not_eq_false', Bool.not_true, Bool.not_false, Bool.false_or, Bool.true_and, Bool.and_true, Bool.or_false, beq_iff_eq, bne_iff_ne, beq_eq_false_iff_ne, bne_eq_false_iff_eq, ne_eq, Bool.false_eq_true, reduceCtorEq] at hd_) <;> (try (exfalso; omega)))
      | refine gc_ret ?_
      | refine gc_skip ?_)
    | (refine ge_gate ?_; first
      | ((with_reducible refine ge_gT ?_); first | with_reducible refine ge_then ?_ | with_reducible refine ge_then_exit ?_ | with_reducible refine ge_then_ret ?_)
      | ((with_reducible refine ge_gB ?_); first | refine ge_ret1 tab_ok rfl c_rvt ?_ | refine ge_end1 tab_ok rfl c_rvt ?_ | refine ge_ret2 tab_ok rfl c_rvt c_rvt ?_ | refine ge_ret_none rfl ?_ | refine ge_end_none rfl ?_))
  · intro W hW
    exact ⟨by simp [cmpT, *], hW.below0⟩
  · intro W hW
    refine ⟨?_, hW.below0⟩
    have h1 := bl_false.1 hd_.1
    have h2 : sLt y x := by
      rcases sLt_total x y with h | h | h
      · contradiction
      · exact absurd h hd_.2
      · exact h
    simp [cmpT, hd_.1, (bytesLess_sLt _ _).2 h2]
  · intro W hW
    refine ⟨?_, hW.below0⟩
    rename_i h1 h2
    have h3 : x = y := by
      rcases hd_ with h | h
      · rw [h] at h1; cases h1
      · exact h
    subst h3
    rw [cmpT_zero.2 rfl]
def cmpC (a b : Cell) : Int := or3 (cmpT a.sheet b.sheet) (cmpI a.row b.row) (cmpI a.col b.col)
theorem ct_addrCompare (a b : Cell) (w : World) : Calls Try.prog 208 #[.agg a.l.toArray, .agg b.l.toArray] w fun e w' => e = .returned (.int .i64 (cmpC a b)) ∧ Bl w w' := by
  refine enter (args := [_, _]) (M := []) (K := []) Try.func208 rfl Try.ntmps208 rfl (St.refl _ _) ?_
  repeat' first
    | (refine gl_gate ?_; first
      | refine gl_nil ?_
      | (refine gl_box0 ?_; first | (refine gl_box_agg rfl rfl rfl rfl rfl ?_; intro g_ hg_) | (refine gl_box_one rfl rfl rfl rfl rfl rfl ?_; intro g_ hg_) | (refine gl_box rfl rfl rfl rfl rfl ?_; intro g_ hg_))
      | (refine gl_any0 ?_; refine gl_pure tab_ok rfl rfl rfl rfl rfl rfl ?_))
    | (refine gc_gate ?_; first
      | refine gc_seq ?_
      | refine gc_region ?_)
    | (refine ge_gate ?_; first
      | ((with_reducible refine ge_gT ?_); first | with_reducible refine ge_then ?_ | with_reducible refine ge_then_exit ?_ | with_reducible refine ge_then_ret ?_))
  refine gp_start [] #[false, false, false, false, false, false, false, false, false, false, false, false, false, false, false, false, false, false] mixed rfl rfl c_qp ?_; intro hqp_
  refine gp_take 0 #[true, false, false, false, false, false, false, false, false, false, false, false, false, false, false, false, false, false] hqp_ rfl (by kernel_rfl) (yv_pure tab_ok c_gok rfl rfl c_allT) c_cl rfl rfl ?_
  refine gp_take 1 #[true, true, false, false, false, false, false, false, false, false, false, false, false, false, false, false, false, false] hqp_ rfl (by kernel_rfl) (yv_load tab_ok c_gok rfl rfl c_imp c_mem (fun _ => c_lds)) c_cl rfl rfl ?_
  refine gp_take 2 #[true, true, true, false, false, false, false, false, false, false, false, false, false, false, false, false, false, false] hqp_ rfl (by kernel_rfl) (yv_pure tab_ok c_gok rfl rfl c_allT) c_cl rfl rfl ?_
  refine gp_take 3 #[true, true, true, true, false, false, false, false, false, false, false, false, false, false, false, false, false, false] hqp_ rfl (by kernel_rfl) (yv_load tab_ok c_gok rfl rfl c_imp c_mem (fun _ => c_lds)) c_cl rfl rfl ?_
  refine gp_take 5 #[true, true, true, true, false, true, false, false, false, false, false, false, false, false, false, false, false, false] hqp_ rfl (by kernel_rfl) (yv_pure tab_ok c_gok rfl rfl c_allT) c_cl rfl rfl ?_
  refine gp_take 6 #[true, true, true, true, false, true, true, false, false, false, false, false, false, false, false, false, false, false] hqp_ rfl (by kernel_rfl) (yv_load tab_ok c_gok rfl rfl c_imp c_mem (fun _ => c_lds)) c_cl rfl rfl ?_
  refine gp_take 7 #[true, true, true, true, false, true, true, true, false, false, false, false, false, false, false, false, false, false] hqp_ rfl (by kernel_rfl) (yv_pure tab_ok c_gok rfl rfl c_allT) c_cl rfl rfl ?_
  refine gp_take 8 #[true, true, true, true, false, true, true, true, true, false, false, false, false, false, false, false, false, false] hqp_ rfl (by kernel_rfl) (yv_load tab_ok c_gok rfl rfl c_imp c_mem (fun _ => c_lds)) c_cl rfl rfl ?_
  refine gp_take 10 #[true, true, true, true, false, true, true, true, true, false, true, false, false, false, false, false, false, false] hqp_ rfl (by kernel_rfl) (yv_pure tab_ok c_gok rfl rfl c_allT) c_cl rfl rfl ?_
  refine gp_take 11 #[true, true, true, true, false, true, true, true, true, false, true, true, false, false, false, false, false, false] hqp_ rfl (by kernel_rfl) (yv_load tab_ok c_gok rfl rfl c_imp c_mem (fun _ => c_lds)) c_cl rfl rfl ?_
  refine gp_take 12 #[true, true, true, true, false, true, true, true, true, false, true, true, true, false, false, false, false, false] hqp_ rfl (by kernel_rfl) (yv_pure tab_ok c_gok rfl rfl c_allT) c_cl rfl rfl ?_
  refine gp_take 13 #[true, true, true, true, false, true, true, true, true, false, true, true, true, true, false, false, false, false] hqp_ rfl (by kernel_rfl) (yv_load tab_ok c_gok rfl rfl c_imp c_mem (fun _ => c_lds)) c_cl rfl rfl ?_
  refine gp_ev 4 #[true, true, true, true, true, true, true, true, true, false, true, true, true, true, false, false, false, false] rfl (by kernel_rfl) rfl rfl rfl (ev_callq rfl rfl ent232 rfl rfl rfl (fun W hW => ct_Compare_string _ _ W) ⟨c_cl, ?_⟩)
  refine gp_ev 9 #[true, true, true, true, true, true, true, true, true, true, true, true, true, true, false, false, false, false] rfl (by kernel_rfl) rfl rfl rfl (ev_callq rfl rfl ent192 rfl rfl rfl (fun W hW => ct_Compare_int _ _ W) ⟨c_cl, ?_⟩)
  refine gp_ev 14 #[true, true, true, true, true, true, true, true, true, true, true, true, true, true, true, false, false, false] rfl (by kernel_rfl) rfl rfl rfl (ev_callq rfl rfl ent192 rfl rfl rfl (fun W hW => ct_Compare_int _ _ W) ⟨c_cl, ?_⟩)
  (refine gp_ev 15 #[true, true, true, true, true, true, true, true, true, true, true, true, true, true, true, true, false, false] rfl (by kernel_rfl) rfl rfl rfl (ev_buildSlice tab_ok rfl rfl rfl rfl rfl rfl rfl rfl rfl rfl ?_); intro g_ hg_; refine ⟨c_cl, ?_⟩)
  refine gp_ev 16 #[true, true, true, true, true, true, true, true, true, true, true, true, true, true, true, true, true, false] rfl (by kernel_rfl) rfl rfl rfl (ev_callq rfl rfl ent191 rfl rfl rfl (fun W hW => ct_Or3 _ _ _ _ W (hW.kn c_mem)) ⟨c_cl, ?_⟩)
  refine gp_take 17 #[true, true, true, true, true, true, true, true, true, true, true, true, true, true, true, true, true, true] hqp_ rfl (by kernel_rfl) (yv_pure tab_ok c_gok rfl rfl c_allT) c_cl rfl rfl ?_
  refine gp_done (by kernel_rfl) ?_; clear hqp_
  repeat' first
    | (refine gc_gate ?_; first
      | refine gc_ret ?_)
    | (refine ge_gate ?_; first
      | ((with_reducible refine ge_gT ?_); first | with_reducible refine ge_then ?_ | with_reducible refine ge_then_exit ?_ | with_reducible refine ge_then_ret ?_)
      | ((with_reducible refine ge_gB ?_); first | refine ge_ret1 tab_ok rfl c_rvt ?_ | refine ge_end1 tab_ok rfl c_rvt ?_ | refine ge_ret2 tab_ok rfl c_rvt c_rvt ?_ | refine ge_ret_none rfl ?_ | refine ge_end_none rfl ?_))
  intro W hW
  exact ⟨rfl, hW.below⟩
/-! ### the order of cells -/
def cLt (a b : Cell) : Prop := sLt a.sheet b.sheet ∨ (a.sheet = b.sheet ∧ (a.row < b.row ∨ (a.row = b.row ∧ a.col < b.col)))
theorem cmpI_neg {x y : Int} : cmpI x y < 0 ↔ x < y := by unfold cmpI; split <;> (try split) <;> omega
theorem cmpI_zero {x y : Int} : cmpI x y = 0 ↔ x = y := by unfold cmpI; split <;> (try split) <;> omega
theorem cmpC_neg (a b : Cell) : cmpC a b < 0 ↔ cLt a b := by
  unfold cmpC or3 cLt
  by_cases h1 : cmpT a.sheet b.sheet = 0
  · have e := cmpT_zero.1 h1
    rw [if_pos h1, e]
    have hn := sLt_irrefl b.sheet
    by_cases h2 : cmpI a.row b.row = 0
    · have e2 := cmpI_zero.1 h2
      rw [if_pos h2, cmpI_neg, e2]
      simp [hn]
    · rw [if_neg h2, cmpI_neg]
      have : a.row ≠ b.row := fun e => h2 (cmpI_zero.2 e)
      simp [hn, this]
  · have e : a.sheet ≠ b.sheet := fun e => h1 (cmpT_zero.2 e)
    rw [if_neg h1]
    simp only [e, false_and, or_false]
    rw [← cmpT_neg]
    rcases cmpT_range a.sheet b.sheet with h | h | h <;> simp [h]
theorem cLt_irrefl (a : Cell) : ¬ cLt a a := by
  rintro (h | ⟨_, h | ⟨_, h⟩⟩)
  · exact sLt_irrefl _ h
  · omega
  · omega
theorem cLt_trans {a b c : Cell} (h : cLt a b) (h' : cLt b c) : cLt a c := by
  rcases h with h | ⟨e, h⟩
  · rcases h' with h' | ⟨e', h'⟩
    · exact .inl (sLt_trans h h')
    · exact .inl (e' ▸ h)
  · rcases h' with h' | ⟨e', h'⟩
    · exact .inl (e ▸ h')
    · exact .inr ⟨e.trans e', by omega⟩
theorem cLt_total (a b : Cell) : cLt a b ∨ a = b ∨ cLt b a := by
  rcases sLt_total a.sheet b.sheet with h | h | h
  · exact .inl (.inl h)
  · rcases Int.lt_trichotomy a.row b.row with h2 | h2 | h2
    · exact .inl (.inr ⟨h, .inl h2⟩)
    · rcases Int.lt_trichotomy a.col b.col with h3 | h3 | h3
      · exact .inl (.inr ⟨h, .inr ⟨h2, h3⟩⟩)
      · refine .inr (.inl ?_)
        cases a; cases b; simp_all
      · exact .inr (.inr (.inr ⟨h.symm, .inr ⟨h2.symm, h3⟩⟩))
    · exact .inr (.inr (.inr ⟨h.symm, .inl h2⟩))
  · exact .inr (.inr (.inl h))
end Go.Proofs.Ytkgjfcjciigcgaa
