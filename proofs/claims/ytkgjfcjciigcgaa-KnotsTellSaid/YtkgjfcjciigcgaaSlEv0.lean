/-
  A store into a block that the region's class of worlds does not know: an event like another. No program in sight.
-/
import Derived.Test.YtkgjfcjciigcgaaSlFlat
namespace Go.Proofs.Ytkgjfcjciigcgaa.Sl
open Go.RowKit Go.Proofs.YtkgjfcjciigcgaaW.PrintLast
set_option linter.unusedVariables false
attribute [local semireducible] GC GE GL GQ
section
variable {P : Program} {N : Nat} {F : Fl} {l : List Oper} {o : Oper} {C : World → Prop} {Q : Exit → Act → World → Prop} {w0 : World} {M : List Nat} {K : Kl} {ds : List Nat} {n : Nat} {lt : Array Bool} {rs : List Nat}
theorem gp_ev0 (i : Nat) (lt' : Array Bool) (hi : nth l i = some o) (hc : readyB .any l.toArray lt lt' i = true) (hds : ds.all (fun j => !Nat.beq j i) = true) (hd : o.dst = none)
    (he : Ev P o N w0 M F K fun _ K' => (∀ W, St w0 M K' W → C W) ∧ GP P l Q C ds n lt' N w0 M F K') : GP P l Q C ds (n + 1) lt N w0 M F K := fun a W hF hW => by
  rw [nth_eq] at hi
  have hni : i ∉ ds := fun hm => by have := List.all_eq_true.1 hds i hm; simp at this
  refine one_ lt' (oi := o) (by simpa using hi) hd hc hni fun KK hK => ?_
  rw [if_pos (by simp [Region.wanted, he.1])]
  refine he.2 a W hF hW KK Q fun v K' W' ⟨h1, h2⟩ hW' => ?_
  rw [hd]
  exact hK _ _ (h1 _ hW') fun _ => h2 _ _ hF hW'
theorem gr_ev0 (i : Nat) (lt' : Array Bool) (hi : nth l i = some o) (hl : lt.setIfInBounds i true = lt') (hds : ds.all (fun j => !Nat.beq j i) = true) (hd : o.dst = none)
    (he : Ev P o N w0 M F K fun _ K' => (∀ W, St w0 M K' W → C W) ∧ GP P l Q C ds n lt' N w0 M F K') (hs : GR P l Q C ds n lt N w0 M F K rs) : GR P l Q C ds n lt N w0 M F K (i :: rs) := fun a W hF hW => by
  rw [nth_eq] at hi
  subst hl
  have hni : i ∉ ds := fun hm => by have := List.all_eq_true.1 hds i hm; simp at this
  refine AllReadyL.cons (by simpa using hi) hni (fun KK hK => ?_) (hs a W hF hW)
  rw [if_pos (by simp [Region.wanted, he.1])]
  refine he.2 a W hF hW KK Q fun v K' W' ⟨h1, h2⟩ hW' => ?_
  rw [hd]
  exact hK _ _ (h1 _ hW') fun _ => h2 _ _ hF hW'
/-- .. a class of one's own: it need not know what the region turns. -/
theorem gp_startC {id : Nat} (C : World → Prop) (hC : ∀ W, St w0 M K W → C W) (ds : List Nat) (lt : Array Bool) (hm : P.follows .mixedOrders = true) (hn : l.length = n) (hl : Array.replicate n false = lt) (hq : QP Q) (h : QP Q → GP P l Q C ds n lt N w0 M F K) : GC P (.region id l.toArray true) Q N w0 M F K := fun a W hF hW =>
  start_ (n := n) lt hm (by simpa using hn) hl (hC _ (hW.drawn _)) fun _ => h hq a _ hF (hW.drawn _)
end
end Go.Proofs.Ytkgjfcjciigcgaa.Sl
