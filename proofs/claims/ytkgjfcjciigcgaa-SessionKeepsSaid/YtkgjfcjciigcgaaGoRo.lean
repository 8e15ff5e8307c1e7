/-
  From here on all that has been is old, and read alone.
-/
import Derived.Test.YtkgjfcjciigcgaaGoStamp
namespace Go.Proofs.Ytkgjfcjciigcgaa
open Go.Proofs.Ytkgjfcjciigcgaa.Sl Go.RowKit
set_option linter.unusedVariables false
set_option maxRecDepth 100000

namespace Sl
/-- Known, and read alone. -/
def ro : Kl → Kl
  | [] => []
  | (g, _, o) :: r => (g, false, o) :: ro r
theorem mem_ro : ∀ {K : Kl} {e : Nat × Bool × Obj}, e ∈ ro K → e.2.1 = false ∧ ∃ b, (e.1, b, e.2.2) ∈ K
  | [], e, h => by cases h
  | (g, b, o) :: r, e, h => by
    rcases List.mem_cons.1 h with rfl | h
    · exact ⟨rfl, b, List.mem_cons_self ..⟩
    · obtain ⟨h1, b', h2⟩ := mem_ro h; exact ⟨h1, b', List.mem_cons_of_mem _ h2⟩
theorem ro_fst : ∀ K : Kl, (ro K).map (·.1) = K.map (·.1)
  | [] => rfl
  | (g, b, o) :: r => by simp [ro, ro_fst r]
theorem St.ro {w0 W : World} {M : List Nat} {K : Kl} (h : St w0 M K W) : St W [] (Sl.ro K) W :=
  ⟨rfl, rfl, rfl, Nat.le_refl _, fun _ _ _ => rfl, fun e he => (mem_ro he).2.elim fun b hb => h.known (e.1, b, e.2.2) hb, fun e he hb => absurd hb (by rw [(mem_ro he).1]; simp), by
    have h' : (K.map (·.1)).Pairwise (· ≠ ·) := List.pairwise_map.2 h.apart
    rw [← ro_fst] at h'
    exact List.pairwise_map.1 h', Nat.le_refl _⟩
section
variable {P : Program} {N : Nat} {F : Fl} {Q : Exit → Act → World → Prop} {w0 : World} {M : List Nat} {K : Kl} {c : Code}
attribute [local semireducible] GC in
theorem gc_baseR (h : ∀ W, St w0 M K W → GC P c Q N W [] F (ro K)) : GC P c Q N w0 M F K := fun a W hF hW => h W hW a W hF hW.ro
end
end Sl
end Go.Proofs.Ytkgjfcjciigcgaa
