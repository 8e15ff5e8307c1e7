/-
  TopNames answers true: the numbers of package api are what the document says.
  Conditions: none but the row's own.
-/
import Derived.Test.YtkgjfcjciigcgaaFacts
import Derived.Test.YtkgjfcjciigcgaaGoTopNames
import Derived.ProofKit
import Derived.OpenShut
import Derived.ChangeOld
import Derived.Carry
namespace Go.Proofs.Ytkgjfcjciigcgaa.rowTopNames
open Go.ChangeShapes Go.WideShapes Go.ChangeAt Go.RowKit Go.Proofs.Ytkgjfcjciigcgaa.Sl
set_option linter.unusedVariables false
set_option maxRecDepth 100000

theorem lifted (os : Os) (started : os.Started) (H : Type) (enc : TypeId × Value → H) :
    ReturnsInHanded {} Try.checked os 10 .any (Rows.topNamesSpec.pre6 enc Try.prog Try.f10 Rows.topNamesRow.domain false) (Rows.topNamesSpec.post enc Try.prog Try.f10 false true false false) := by
  refine returnsInHanded_of_change (C := Try.checked) own_knob started (by as_aux_lemma => kernel_rfl) Try.func10
    (ChangeSpec.witness6 (enc := enc) (C := Try.checked) false ⟨#[], #[], []⟩ 8 (by kernel_rfl) (by kernel_rfl) (by kernel_rfl) (by kernel_rfl)) ?_
  intro W base args ds gs before hval0 hW hcnd _
  have hval : ∀ (j : Nat) t v, Try.f10.params[j]? = some t → args[j]? = some v → Value.okWide Try.prog W .any base t v := hval0
  have hW' := hW
  obtain ⟨p, q, hA0, hV, rfl, hfz, hnd⟩ := hW
  have hA : DataW.TrodAll enc Try.prog W 0 (fun _ => true) true Try.f10.params.toList args.toList ds p := hA0
  rw [Try.params10] at hA hval
  obtain ⟨rfl, rfl, rfl⟩ := trodAll_none hA
  obtain ⟨rfl, rfl⟩ := trodVars_none hV
  refine (law_TopNames W ).mono fun e W' ⟨he, bel⟩ => ?_
  subst he
  exact ⟨_, rfl, _, _, _, [], _, [], hW', trodAll_mk1 (shut_bool Try.underlying4 _), trodAll_mk0, rfl, bel.frame _, fun h => by cases h⟩

theorem inPlace_is : (Rows.topNamesRow.inPlace == Try.prog.inPlace 10) = true := by kernel_rfl
theorem unfollowed_is : (Rows.topNamesRow.unfollowed == Try.prog.unfollowed 10) = true := by kernel_rfl
theorem recurses_is : (Rows.topNamesRow.recurses == Try.prog.recurses 10) = true := by kernel_rfl
theorem named_is : (Rows.topNamesRow.named == Try.prog.varsNamed 10) = true := by kernel_rfl
theorem joined : joinedFacts Try.pinned.checked.prog 10 Try.f10 Rows.topNamesSpec Rows.topNamesRow = true :=
  joined_facts 10 Try.f10 Rows.topNamesSpec Rows.topNamesRow (by kernel_rfl) (by kernel_rfl) inPlace_is unfollowed_is recurses_is named_is (by kernel_rfl) (by kernel_rfl) (by kernel_rfl) (by kernel_rfl) (by kernel_rfl)
theorem over : Rows.topNamesRow.holds Try.pinned (OpenSpec.ofChange Rows.topNamesSpec) :=
  OpenClaim.holds_of_wide 10 Try.f10 rfl rfl rfl rfl rfl rfl rfl ⟨rfl, rfl, rfl, rfl, rfl⟩ rfl rfl rfl rfl rfl (by as_aux_lemma => kernel_rfl) Try.func10 joined
    (of_decide_eq_true (by as_aux_lemma => kernel_rfl)) (by unfold Func.isWrapper; first | (rw [if_pos (by decide +kernel)]; kernel_rfl) | (rw [if_neg (by decide +kernel)]; exact ⟨rfl, rfl⟩))
    (fun os started H enc _ => lifted os started H enc)

theorem topNames_holds : Rows.TopNamesSaid := over
#print axioms topNames_holds
end Go.Proofs.Ytkgjfcjciigcgaa.rowTopNames
