/-
  Which cells of any entries are in one knot, and in which order knots are reckoned: true for every input.
  Conditions: none but the row's own.
-/
import Derived.Test.YtkgjfcjciigcgaaFacts
import Derived.Test.YtkgjfcjciigcgaaGoKnC
import Derived.ProofKit
import Derived.SizedLaws
import Derived.OpenShut
import Derived.ChangeOld
import Derived.Carry
namespace Go.Proofs.Ytkgjfcjciigcgaa.rowKnotsTell
open Go.ChangeShapes Go.WideShapes Go.ChangeAt Go.RowKit Go.Proofs.Ytkgjfcjciigcgaa.Sl
set_option linter.unusedVariables false
set_option maxRecDepth 100000

theorem lifted (os : Os) (started : os.Started) (H : Type) (enc : TypeId × Value → H) :
    ReturnsInHanded {} Try.checked os 28 .any (Rows.knotsTellSpec.pre6 enc Try.prog Try.f28 Rows.knotsTellRow.domain false) (Rows.knotsTellSpec.post enc Try.prog Try.f28 false true false false) := by
  refine returnsInHanded_of_change_sized (C := Try.checked) own_knob started (by as_aux_lemma => kernel_rfl) Try.func28
    (ChangeSpec.witness6 (enc := enc) (C := Try.checked) false ⟨#[], #[.slice none 0 0], []⟩ 8 (by kernel_rfl) (by kernel_rfl) (by kernel_rfl) (by kernel_rfl)) ?_
  intro W base args ds gs before hval0 hW hcnd hsz _
  have hval : ∀ (j : Nat) t v, Try.f28.params[j]? = some t → args[j]? = some v → Value.okWide Try.prog W .any base t v := hval0
  have hW' := hW
  obtain ⟨p, q, hA0, hV, rfl, hfz, hnd⟩ := hW
  have hA : DataW.TrodAll enc Try.prog W 0 (fun _ => true) true Try.f28.params.toList args.toList ds p := hA0
  have hsz0 : (DataW.weightsEach Try.prog (Try.f28.params.toList ++ Rows.knotsTellSpec.plain.varTypes Try.prog) (ds ++ gs)).all (· ≤ reachBytes) = true := hsz
  rw [Try.params28] at hA hval hsz0
  have hwt : ∀ n ∈ DataW.weightsEach Try.prog ([124] ++ Rows.knotsTellSpec.plain.varTypes Try.prog) (ds ++ gs), n ≤ 140737488351232 := fun n hn => by have := List.all_eq_true.1 hsz0 n hn; exact of_decide_eq_true this
  obtain ⟨v0, vs0, d0, ds0, p0, q0, hargs, rfl, rfl, h0, r0⟩ := trodAll_cons hA
  obtain ⟨rfl, rfl, rfl⟩ := trodAll_nil r0
  obtain rfl : args = #[v0] := by cases args; simp_all
  obtain ⟨rfl, rfl⟩ := trodVars_none hV
  have lt0 : ∀ x ∈ p0, x.block < W.heap.size := by obtain ⟨m, hm⟩ := h0; exact DataW.trod_lt m _ _ _ hm
  have rd0 : ∃ m, Rd tab W m 124 v0.cells.toList := by obtain ⟨m, hm⟩ := h0; exact ⟨m, rd_of_trod tab_ok m _ _ _ hm (wt_each _ _ 0 124 d0 rfl rfl hwt)⟩
  refine (law_KnotsTell W (hval 0 124 v0 rfl rfl) rd0).mono fun e W' ⟨he, bel0⟩ => ?_
  have bel := bel0.below
  subst he
  exact ⟨_, rfl, _, _, _, [], _, [], hW', trodAll_mk1 (shut_bool Try.underlying4 _), (trodAll_cons_mk (Below.trod laid_out (by as_aux_lemma => kernel_rfl) (of_decide_eq_true (by as_aux_lemma => kernel_rfl)) h0 bel lt0) trodAll_mk0), rfl, bel.frame _, fun h => by cases h⟩

theorem inPlace_is : (Rows.knotsTellRow.inPlace == Try.prog.inPlace 28) = true := by kernel_rfl
theorem unfollowed_is : (Rows.knotsTellRow.unfollowed == Try.prog.unfollowed 28) = true := by kernel_rfl
theorem recurses_is : (Rows.knotsTellRow.recurses == Try.prog.recurses 28) = true := by kernel_rfl
theorem named_is : (Rows.knotsTellRow.named == Try.prog.varsNamed 28) = true := by kernel_rfl
theorem joined : joinedFacts Try.pinned.checked.prog 28 Try.f28 Rows.knotsTellSpec Rows.knotsTellRow = true :=
  joined_facts 28 Try.f28 Rows.knotsTellSpec Rows.knotsTellRow (by kernel_rfl) (by kernel_rfl) inPlace_is unfollowed_is recurses_is named_is (by kernel_rfl) (by kernel_rfl) (by kernel_rfl) (by kernel_rfl) (by kernel_rfl)
theorem over : Rows.knotsTellRow.holds Try.pinned (OpenSpec.ofChange Rows.knotsTellSpec) :=
  OpenClaim.holds_of_wide 28 Try.f28 rfl rfl rfl rfl rfl rfl rfl ⟨rfl, rfl, rfl, rfl, rfl⟩ rfl rfl rfl rfl rfl (by as_aux_lemma => kernel_rfl) Try.func28 joined
    (of_decide_eq_true (by as_aux_lemma => kernel_rfl)) (by unfold Func.isWrapper; first | (rw [if_pos (by decide +kernel)]; kernel_rfl) | (rw [if_neg (by decide +kernel)]; exact ⟨rfl, rfl⟩))
    (fun os started H enc _ => lifted os started H enc)

theorem knotsTell_holds : Rows.KnotsTellSaid := over
#print axioms knotsTell_holds
end Go.Proofs.Ytkgjfcjciigcgaa.rowKnotsTell
