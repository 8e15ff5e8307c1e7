/-
  Known blocks, picked out and put in order. No program in sight.
-/
import Derived.Test.YtkgjfcjciigcgaaSlRows
namespace Go.Proofs.Ytkgjfcjciigcgaa.Sl
open Go.RowKit
set_option linter.unusedVariables false
set_option linter.unusedSectionVars false

inductive Pq (A : Kl) : Kl → Kl → Prop
  | hd {K : Kl} : Pq A (A ++ K) K
  | fin : Pq A A []
  | tl {x : Nat × Bool × Obj} {K Kx : Kl} : Pq A K Kx → Pq A (x :: K) (x :: Kx)
  | app {L K Kx : Kl} : Pq A K Kx → Pq A (L ++ K) (L ++ Kx)
theorem Pq.perm {A K Kx : Kl} (h : Pq A K Kx) : K.Perm (A ++ Kx) := by
  induction h with
  | hd => exact List.Perm.refl _
  | fin => rw [List.append_nil]
  | @tl x K Kx h ih => exact (ih.cons x).trans List.perm_middle.symm
  | @app L K Kx h ih =>
    refine (ih.append_left L).trans ?_
    rw [← List.append_assoc, ← List.append_assoc]
    exact List.perm_append_comm.append_right Kx
inductive Pq1 (x : Nat × Bool × Obj) : Kl → Kl → Prop
  | hd {K : Kl} : Pq1 x (x :: K) K
  | tl {y : Nat × Bool × Obj} {K Kx : Kl} : Pq1 x K Kx → Pq1 x (y :: K) (y :: Kx)
  | app {L K Kx : Kl} : Pq1 x K Kx → Pq1 x (L ++ K) (L ++ Kx)
theorem Pq1.perm {x : Nat × Bool × Obj} {K Kx : Kl} (h : Pq1 x K Kx) : K.Perm (x :: Kx) := by
  induction h with
  | hd => exact List.Perm.refl _
  | @tl y K Kx h ih => exact (ih.cons y).trans (List.Perm.swap x y Kx)
  | @app L K Kx h ih => exact (ih.append_left L).trans List.perm_middle
inductive Sq : Kl → Kl → Prop
  | nil {K : Kl} : Sq [] K
  | cons {x : Nat × Bool × Obj} {B K Kx : Kl} : Pq1 x K Kx → Sq B Kx → Sq (x :: B) K
  | app {A B K Kx : Kl} : Pq A K Kx → Sq B Kx → Sq (A ++ B) K
  | one {A K Kx : Kl} : Pq A K Kx → Sq A K
theorem Sq.perm {A K : Kl} (h : Sq A K) : ∃ Kx, K.Perm (A ++ Kx) := by
  induction h with
  | @nil K => exact ⟨K, List.Perm.refl _⟩
  | @cons x B K Kx h _ ih =>
    obtain ⟨Ky, hy⟩ := ih
    exact ⟨Ky, h.perm.trans (hy.cons x)⟩
  | @app A B K Kx h _ ih =>
    obtain ⟨Ky, hy⟩ := ih
    exact ⟨Ky, h.perm.trans (by rw [List.append_assoc]; exact hy.append_left A)⟩
  | @one A K Kx h => exact ⟨Kx, h.perm⟩
theorem Sq.st {w0 W : World} {M : List Nat} {A K : Kl} (h : Sq A K) (hW : St w0 M K W) : St w0 M A W := by
  obtain ⟨Kx, hx⟩ := h.perm
  exact (hW.perm hx).drop (List.sublist_append_left _ _)
theorem c_sq {P : Prop} (h : P := by repeat first | exact Sq.nil | (refine Sq.cons (by repeat first | exact Pq1.hd | apply Pq1.tl | apply Pq1.app) ?_) | (refine Sq.app (by repeat first | exact Pq.hd | exact Pq.fin | apply Pq.tl | apply Pq.app) ?_) | exact Sq.one (by repeat first | exact Pq.hd | exact Pq.fin | apply Pq.tl | apply Pq.app)) : P := h
section
attribute [local semireducible] GC GE GL GQ
variable {P : Program} {N : Nat} {F : Fl} {Q : Exit → Act → World → Prop} {w0 : World} {M : List Nat} {K : Kl}
theorem ge_sq {e : Exit} (A : Kl) (h : Sq A K) (h2 : GE Q e N w0 M F A) : GE Q e N w0 M F K := fun a W hF hW => h2 a W hF (h.st hW)
theorem gc_sq {c : Code} (A : Kl) (h : Sq A K) (h2 : GC P c Q N w0 M F A) : GC P c Q N w0 M F K := fun a W hF hW => h2 a W hF (h.st hW)
end
end Go.Proofs.Ytkgjfcjciigcgaa.Sl
