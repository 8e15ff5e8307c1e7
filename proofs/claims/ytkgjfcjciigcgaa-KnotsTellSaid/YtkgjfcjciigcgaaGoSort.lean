/-
  Cells in order: slices.SortFunc over cells, refs.Sorted.
-/
import Derived.Test.YtkgjfcjciigcgaaGoKeys
import Derived.Test.YtkgjfcjciigcgaaSlSort
import Derived.Test.YtkgjfcjciigcgaaSortLay
namespace Go.Proofs.Ytkgjfcjciigcgaa
open Go.Proofs.Ytkgjfcjciigcgaa.Sl Go.RowKit
set_option linter.unusedVariables false
set_option linter.unusedSimpArgs false
set_option maxRecDepth 100000

theorem ltC_iff (a b : Cell) : ltOf cmpC a b = true ↔ cLt a b := by
  unfold ltOf
  rw [decide_eq_true_eq, cmpC_neg]
theorem ltC_false (a b : Cell) : ltOf cmpC a b = false ↔ ¬ cLt a b := by rw [← ltC_iff]; simp
theorem swoC : Go.Sort.SWO (ltOf cmpC) where
  irrefl x := (ltC_false x x).2 (cLt_irrefl x)
  trans x y z h h' := (ltC_iff x z).2 (cLt_trans ((ltC_iff x y).1 h) ((ltC_iff y z).1 h'))
  ntrans x y z h h' := by
    rw [ltC_false] at *
    intro h2
    rcases cLt_total x y with h3 | h3 | h3
    · exact h h3
    · exact h' (h3 ▸ h2)
    · exact h' (cLt_trans h3 h2)
theorem totC (x y : Cell) (h : ltOf cmpC x y = false) (h' : ltOf cmpC y x = false) : x = y := by
  rw [ltC_false] at *
  rcases cLt_total x y with h3 | h3 | h3
  · contradiction
  · exact h3
  · contradiction
def sortC (l : List Cell) : List Cell := l.mergeSort fun x y => !(ltOf cmpC) y x
theorem sortC_perm (l : List Cell) : (sortC l).Perm l := List.mergeSort_perm _ _
theorem sortC_mem (l : List Cell) (c : Cell) : c ∈ sortC l ↔ c ∈ l := (sortC_perm l).mem_iff
theorem sortC_length (l : List Cell) : (sortC l).length = l.length := (sortC_perm l).length_eq
theorem sortC_lt {l : List Cell} (h : l.Nodup) : (sortC l).Pairwise cLt := by
  have h1 : (sortC l).Pairwise fun x y => (!(ltOf cmpC) y x) = true := List.pairwise_mergeSort (fun a b c h1 h2 => by
    simp only [Bool.not_eq_true'] at *
    exact swoC.ntrans _ _ _ h2 h1) (fun a b => by
    cases h1 : ltOf cmpC b a with
    | false => simp
    | true =>
      have : ltOf cmpC a b = false := by
        rw [ltC_false]
        intro h2
        exact cLt_irrefl _ (cLt_trans h2 ((ltC_iff _ _).1 h1))
      simp [this]) l
  have h2 : (sortC l).Nodup := (sortC_perm l).nodup_iff.2 h
  refine (h1.and h2).imp fun {a b} ⟨h3, h4⟩ => ?_
  simp only [Bool.not_eq_true', ltC_false] at h3
  rcases cLt_total a b with h5 | h5 | h5
  · exact h5
  · contradiction
  · contradiction
theorem cLt_nodup {l : List Cell} (h : l.Pairwise cLt) : l.Nodup := h.imp fun {a b} h e => by subst e; exact cLt_irrefl _ h
theorem cLt_unique {l l' : List Cell} (h : l.Pairwise cLt) (h' : l'.Pairwise cLt) (hm : ∀ c, c ∈ l ↔ c ∈ l') : l = l' :=
  List.Perm.eq_of_pairwise (fun a b _ _ h1 h2 => absurd (cLt_trans h1 h2) (cLt_irrefl _)) h h' ((List.perm_ext_iff_of_nodup (cLt_nodup h) (cLt_nodup h')).2 hm)
theorem sortC_of_perm {l l' : List Cell} (hn : l.Nodup) (h : l.Perm l') : sortC l = sortC l' :=
  cLt_unique (sortC_lt hn) (sortC_lt (h.nodup_iff.1 hn)) fun c => by rw [sortC_mem, sortC_mem]; exact h.mem_iff
theorem ones_cell (x : Cell) : ∀ u ∈ x.l, u.oneCell' = true := by
  intro u hu
  simp [Cell.l] at hu
  rcases hu with rfl | rfl | rfl <;> rfl
theorem len_cell (x : Cell) : x.l.length = 3 := rfl
theorem ct_sortCells {g c : Nat} {xs : List Cell} {sp : List Value} {w : World} (hb : w.heap[g]? = some (.cells (cat Cell.l xs ++ sp).toArray 25 (0, 0))) (hsz : xs.length < 4611686018427387904) :
    Calls Try.prog 207 #[.slice (some (ad g)) xs.length c, .func (.func 208) #[] #[]] w (RetG w g (fun _ : Unit => .tuple #[]) (fun _ => .cells (cat Cell.l (sortC xs) ++ sp).toArray 25 (0, 0)) (fun _ => True)) :=
  sort_own (ρ := sortC_ren) (k := 3) sortC_lay (fun w => (tab_ok 25 _ rfl).isAgg w) (fun w => (tab_ok 25 _ rfl).sizeOf w) len_cell ones_cell cmpC swoC 208 #[] ent208 (fun x y W => ct_addrCompare x y W) totC hb hsz
theorem ct_sortNone (c : Nat) (p : Option Addr) (fv : Value) (w : World) : Calls Try.prog 207 #[.slice p 0 c, fv] w fun e w' => e = .returned (.tuple #[]) ∧ Bl w w' :=
  (Go.Proofs.AnyF.slices_SortFunc_none (P := Try.prog) (ρ := sortC_ren) sortC_lay p c fv w).mono fun e w' ⟨h1, h2⟩ => ⟨h1, by rw [h2]; exact ⟨rfl, rfl, rfl, Nat.le_refl _, fun _ _ => rfl, Nat.le_refl _⟩⟩
end Go.Proofs.Ytkgjfcjciigcgaa
