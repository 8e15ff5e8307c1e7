/-
  StampGoes answers true for any number of ranks and any two lists of truths: what comes next is greater, and it comes to the next epoch behind so many ranks and rounds at most; the arguments stay as they were.
  Conditions: none but the row's own.
-/
import Derived.Test.YtkgjfcjciigcgaaFacts
import Derived.Test.YtkgjfcjciigcgaaGoStampGoes
import Derived.ProofKit
import Derived.OpenShut
import Derived.ChangeOld
import Derived.Carry
namespace Go.Proofs.Ytkgjfcjciigcgaa.rowStampGoes
open Go.ChangeShapes Go.WideShapes Go.ChangeAt Go.RowKit Go.Proofs.Ytkgjfcjciigcgaa.Sl
set_option linter.unusedVariables false
set_option maxRecDepth 100000

theorem lifted (os : Os) (started : os.Started) (H : Type) (enc : TypeId × Value → H) :
    ReturnsInHanded {} Try.checked os 6 .any (Rows.stampGoesSpec.pre6 enc Try.prog Try.f6 Rows.stampGoesRow.domain false) (Rows.stampGoesSpec.post enc Try.prog Try.f6 false true false false) := by
  refine returnsInHanded_of_change (C := Try.checked) own_knob started (by as_aux_lemma => kernel_rfl) Try.func6
    (ChangeSpec.witness6 (enc := enc) (C := Try.checked) false ⟨#[], #[.int .i64 0, .slice none 0 0, .slice none 0 0], []⟩ 8 (by kernel_rfl) (by kernel_rfl) (by kernel_rfl) (by kernel_rfl)) ?_
  intro W base args ds gs before hval0 hW hcnd _
  have hval : ∀ (j : Nat) t v, Try.f6.params[j]? = some t → args[j]? = some v → Value.okWide Try.prog W .any base t v := hval0
  have hW' := hW
  obtain ⟨p, q, hA0, hV, rfl, hfz, hnd⟩ := hW
  have hA : DataW.TrodAll enc Try.prog W 0 (fun _ => true) true Try.f6.params.toList args.toList ds p := hA0
  rw [Try.params6] at hA hval
  obtain ⟨v0, vs0, d0, ds0, p0, q0, hargs, rfl, rfl, h0, r0⟩ := trodAll_cons hA
  obtain ⟨v1, vs1, d1, ds1, p1, q1, rfl, rfl, rfl, h1, r1⟩ := trodAll_cons r0
  obtain ⟨v2, vs2, d2, ds2, p2, q2, rfl, rfl, rfl, h2, r2⟩ := trodAll_cons r1
  obtain ⟨rfl, rfl, rfl⟩ := trodAll_nil r2
  obtain rfl : args = #[v0, v1, v2] := by cases args; simp_all
  obtain ⟨rfl, rfl⟩ := trodVars_none hV
  have lt0 : ∀ x ∈ p0, x.block < W.heap.size := by obtain ⟨m, hm⟩ := h0; exact DataW.trod_lt m _ _ _ hm
  have rd0 : ∃ m, Rd tab W m 3 v0.cells.toList := by obtain ⟨m, hm⟩ := h0; exact ⟨m, rd_of_trod tab_ok m _ _ _ hm⟩
  have lt1 : ∀ x ∈ p1, x.block < W.heap.size := by obtain ⟨m, hm⟩ := h1; exact DataW.trod_lt m _ _ _ hm
  have rd1 : ∃ m, Rd tab W m 41 v1.cells.toList := by obtain ⟨m, hm⟩ := h1; exact ⟨m, rd_of_trod tab_ok m _ _ _ hm⟩
  have lt2 : ∀ x ∈ p2, x.block < W.heap.size := by obtain ⟨m, hm⟩ := h2; exact DataW.trod_lt m _ _ _ hm
  have rd2 : ∃ m, Rd tab W m 41 v2.cells.toList := by obtain ⟨m, hm⟩ := h2; exact ⟨m, rd_of_trod tab_ok m _ _ _ hm⟩
  refine (law_StampGoes W (hval 0 3 v0 rfl rfl) (hval 1 41 v1 rfl rfl) (hval 2 41 v2 rfl rfl) rd0 rd1 rd2).mono fun e W' ⟨he, bel⟩ => ?_
  subst he
  exact ⟨_, rfl, _, _, _, [], _, [], hW', trodAll_mk1 (shut_bool Try.underlying4 _), (trodAll_cons_mk (Below.trod laid_out (by as_aux_lemma => kernel_rfl) (of_decide_eq_true (by as_aux_lemma => kernel_rfl)) h0 bel lt0) (trodAll_cons_mk (Below.trod laid_out (by as_aux_lemma => kernel_rfl) (of_decide_eq_true (by as_aux_lemma => kernel_rfl)) h1 bel lt1) (trodAll_cons_mk (Below.trod laid_out (by as_aux_lemma => kernel_rfl) (of_decide_eq_true (by as_aux_lemma => kernel_rfl)) h2 bel lt2) trodAll_mk0))), rfl, bel.frame _, fun h => by cases h⟩

theorem inPlace_is : (Rows.stampGoesRow.inPlace == Try.prog.inPlace 6) = true := by kernel_rfl
theorem unfollowed_is : (Rows.stampGoesRow.unfollowed == Try.prog.unfollowed 6) = true := by kernel_rfl
theorem recurses_is : (Rows.stampGoesRow.recurses == Try.prog.recurses 6) = true := by kernel_rfl
theorem named_is : (Rows.stampGoesRow.named == Try.prog.varsNamed 6) = true := by kernel_rfl
theorem joined : joinedFacts Try.pinned.checked.prog 6 Try.f6 Rows.stampGoesSpec Rows.stampGoesRow = true :=
  joined_facts 6 Try.f6 Rows.stampGoesSpec Rows.stampGoesRow (by kernel_rfl) (by kernel_rfl) inPlace_is unfollowed_is recurses_is named_is (by kernel_rfl) (by kernel_rfl) (by kernel_rfl) (by kernel_rfl) (by kernel_rfl)
theorem over : Rows.stampGoesRow.holds Try.pinned (OpenSpec.ofChange Rows.stampGoesSpec) :=
  OpenClaim.holds_of_wide 6 Try.f6 rfl rfl rfl rfl rfl rfl rfl ⟨rfl, rfl, rfl, rfl, rfl⟩ rfl rfl rfl rfl rfl (by as_aux_lemma => kernel_rfl) Try.func6 joined
    (of_decide_eq_true (by as_aux_lemma => kernel_rfl)) (by unfold Func.isWrapper; first | (rw [if_pos (by decide +kernel)]; kernel_rfl) | (rw [if_neg (by decide +kernel)]; exact ⟨rfl, rfl⟩))
    (fun os started H enc _ => lifted os started H enc)

theorem stampGoes_holds : Rows.StampGoesSaid := over
#print axioms stampGoes_holds
end Go.Proofs.Ytkgjfcjciigcgaa.rowStampGoes
