/-
  Cells that read one another round are one knot, wherever the ring is, and with one of them cut each is a knot of its own: true for every input.
  Conditions: none but the row's own.
-/
import Derived.Test.YtkgjfcjciigcgaaFacts
import Derived.Test.YtkgjfcjciigcgaaGoKn8
import Derived.ProofKit
import Derived.SizedLaws
import Derived.OpenShut
import Derived.ChangeOld
import Derived.Carry
namespace Go.Proofs.Ytkgjfcjciigcgaa.rowKnotsRing
open Go.ChangeShapes Go.WideShapes Go.ChangeAt Go.RowKit Go.Proofs.Ytkgjfcjciigcgaa.Sl
set_option linter.unusedVariables false
set_option maxRecDepth 100000

theorem lifted (os : Os) (started : os.Started) (H : Type) (enc : TypeId × Value → H) :
    ReturnsInHanded {} Try.checked os 30 .any (Rows.knotsRingSpec.pre6 enc Try.prog Try.f30 Rows.knotsRingRow.domain false) (Rows.knotsRingSpec.post enc Try.prog Try.f30 false true false false) := by
  refine returnsInHanded_of_change_sized (C := Try.checked) own_knob started (by as_aux_lemma => kernel_rfl) Try.func30
    (ChangeSpec.witness6 (enc := enc) (C := Try.checked) false ⟨#[], #[.int .i64 0, .int .i64 0, .bool false], []⟩ 8 (by kernel_rfl) (by kernel_rfl) (by kernel_rfl) (by kernel_rfl)) ?_
  intro W base args ds gs before hval0 hW hcnd hsz _
  have hval : ∀ (j : Nat) t v, Try.f30.params[j]? = some t → args[j]? = some v → Value.okWide Try.prog W .any base t v := hval0
  have hW' := hW
  obtain ⟨p, q, hA0, hV, rfl, hfz, hnd⟩ := hW
  have hA : DataW.TrodAll enc Try.prog W 0 (fun _ => true) true Try.f30.params.toList args.toList ds p := hA0
  have hsz0 : (DataW.weightsEach Try.prog (Try.f30.params.toList ++ Rows.knotsRingSpec.plain.varTypes Try.prog) (ds ++ gs)).all (· ≤ reachBytes) = true := hsz
  rw [Try.params30] at hA hval hsz0
  have hwt : ∀ n ∈ DataW.weightsEach Try.prog ([3, 3, 4] ++ Rows.knotsRingSpec.plain.varTypes Try.prog) (ds ++ gs), n ≤ 140737488351232 := fun n hn => by have := List.all_eq_true.1 hsz0 n hn; exact of_decide_eq_true this
  obtain ⟨v0, vs0, d0, ds0, p0, q0, hargs, rfl, rfl, h0, r0⟩ := trodAll_cons hA
  obtain ⟨v1, vs1, d1, ds1, p1, q1, rfl, rfl, rfl, h1, r1⟩ := trodAll_cons r0
  obtain ⟨v2, vs2, d2, ds2, p2, q2, rfl, rfl, rfl, h2, r2⟩ := trodAll_cons r1
  obtain ⟨rfl, rfl, rfl⟩ := trodAll_nil r2
  obtain rfl : args = #[v0, v1, v2] := by cases args; simp_all
  obtain ⟨rfl, rfl⟩ := trodVars_none hV
  have lt0 : ∀ x ∈ p0, x.block < W.heap.size := by obtain ⟨m, hm⟩ := h0; exact DataW.trod_lt m _ _ _ hm
  have rd0 : ∃ m, Rd tab W m 3 v0.cells.toList := by obtain ⟨m, hm⟩ := h0; exact ⟨m, rd_of_trod tab_ok m _ _ _ hm (wt_each _ _ 0 3 d0 rfl rfl hwt)⟩
  have lt1 : ∀ x ∈ p1, x.block < W.heap.size := by obtain ⟨m, hm⟩ := h1; exact DataW.trod_lt m _ _ _ hm
  have rd1 : ∃ m, Rd tab W m 3 v1.cells.toList := by obtain ⟨m, hm⟩ := h1; exact ⟨m, rd_of_trod tab_ok m _ _ _ hm (wt_each _ _ 1 3 d1 rfl rfl hwt)⟩
  have lt2 : ∀ x ∈ p2, x.block < W.heap.size := by obtain ⟨m, hm⟩ := h2; exact DataW.trod_lt m _ _ _ hm
  have rd2 : ∃ m, Rd tab W m 4 v2.cells.toList := by obtain ⟨m, hm⟩ := h2; exact ⟨m, rd_of_trod tab_ok m _ _ _ hm (wt_each _ _ 2 4 d2 rfl rfl hwt)⟩
  refine (law_KnotsRing W (hval 0 3 v0 rfl rfl) (hval 1 3 v1 rfl rfl) (hval 2 4 v2 rfl rfl) rd0 rd1 rd2).mono fun e W' ⟨he, bel0⟩ => ?_
  have bel := bel0.below
  subst he
  exact ⟨_, rfl, _, _, _, [], _, [], hW', trodAll_mk1 (shut_bool Try.underlying4 _), (trodAll_cons_mk (Below.trod laid_out (by as_aux_lemma => kernel_rfl) (of_decide_eq_true (by as_aux_lemma => kernel_rfl)) h0 bel lt0) (trodAll_cons_mk (Below.trod laid_out (by as_aux_lemma => kernel_rfl) (of_decide_eq_true (by as_aux_lemma => kernel_rfl)) h1 bel lt1) (trodAll_cons_mk (Below.trod laid_out (by as_aux_lemma => kernel_rfl) (of_decide_eq_true (by as_aux_lemma => kernel_rfl)) h2 bel lt2) trodAll_mk0))), rfl, bel.frame _, fun h => by cases h⟩

theorem inPlace_is : (Rows.knotsRingRow.inPlace == Try.prog.inPlace 30) = true := by kernel_rfl
theorem unfollowed_is : (Rows.knotsRingRow.unfollowed == Try.prog.unfollowed 30) = true := by kernel_rfl
theorem recurses_is : (Rows.knotsRingRow.recurses == Try.prog.recurses 30) = true := by kernel_rfl
theorem named_is : (Rows.knotsRingRow.named == Try.prog.varsNamed 30) = true := by kernel_rfl
theorem joined : joinedFacts Try.pinned.checked.prog 30 Try.f30 Rows.knotsRingSpec Rows.knotsRingRow = true :=
  joined_facts 30 Try.f30 Rows.knotsRingSpec Rows.knotsRingRow (by kernel_rfl) (by kernel_rfl) inPlace_is unfollowed_is recurses_is named_is (by kernel_rfl) (by kernel_rfl) (by kernel_rfl) (by kernel_rfl) (by kernel_rfl)
theorem over : Rows.knotsRingRow.holds Try.pinned (OpenSpec.ofChange Rows.knotsRingSpec) :=
  OpenClaim.holds_of_wide 30 Try.f30 rfl rfl rfl rfl rfl rfl rfl ⟨rfl, rfl, rfl, rfl, rfl⟩ rfl rfl rfl rfl rfl (by as_aux_lemma => kernel_rfl) Try.func30 joined
    (of_decide_eq_true (by as_aux_lemma => kernel_rfl)) (by unfold Func.isWrapper; first | (rw [if_pos (by decide +kernel)]; kernel_rfl) | (rw [if_neg (by decide +kernel)]; exact ⟨rfl, rfl⟩))
    (fun os started H enc _ => lifted os started H enc)

theorem knotsRing_holds : Rows.KnotsRingSaid := over
#print axioms knotsRing_holds
end Go.Proofs.Ytkgjfcjciigcgaa.rowKnotsRing
