/-
  What deps.New has found so far: plain lists; what it leaves in memory.
-/
import Derived.Test.YtkgjfcjciigcgaaGoEnt
namespace Go.Proofs.Ytkgjfcjciigcgaa
open Go.Proofs.Ytkgjfcjciigcgaa.Sl Go.RowKit
set_option linter.unusedVariables false
set_option linter.unusedSimpArgs false
set_option maxRecDepth 100000

theorem fil_pos {p : Cell → Bool} {y : Cell} (h : p y = true) : [y].filter p = [y] := by rw [List.filter_cons_of_pos h, List.filter_nil]
theorem fil_neg {p : Cell → Bool} {y : Cell} (h : ¬ p y = true) : [y].filter p = [] := by rw [List.filter_cons_of_neg h, List.filter_nil]
theorem takeC_lt {m : List Cell} (hm : m.Pairwise cLt) {i : Nat} (hi : i < m.length) {x : Cell} (h : x ∈ m.take i) : cLt x (m.getD i default) := by
  have hsp : m = m.take i ++ (m.getD i default :: m.drop (i + 1)) := by
    rw [List.getD_eq_getElem?_getD, List.getElem?_eq_getElem hi, Option.getD_some, ← List.drop_eq_getElem_cons hi, List.take_append_drop]
  have hp := hm
  rw [hsp, List.pairwise_append] at hp
  exact hp.2.2 x h _ (List.mem_cons_self ..)
def cR (l : List En) (c : Cell) : List Cell := match lkE (lastR l) c with
  | some e => if e.fm then cellsT e.node else []
  | none => []
theorem cR_nodup (l : List En) (c : Cell) : (cR l c).Nodup := by
  unfold cR
  split
  · split
    · exact cLt_nodup (cellsT_lt _)
    · exact List.nodup_nil
  · exact List.nodup_nil
theorem rdD_cR (l : List En) (c : Cell) : rdD l c = (cR l c).filter fun x => decide (x ∈ dC l) := by
  unfold rdD cR
  cases lkE (lastR l) c with
  | none => rfl
  | some e =>
    show rdE l e = _
    unfold rdE
    dsimp only
    split <;> rfl
/-- Of the i-th cell's, j have been looked at. -/
def RX (l : List En) (i j : Nat) (x : Cell) : List Cell :=
  if x ∈ (dC l).take i then rdD l x else if x = (dC l).getD i default ∧ i < (dC l).length then ((cR l ((dC l).getD i default)).take j).filter fun y => decide (y ∈ dC l) else []
def FX (l : List En) (i j : Nat) (x : Cell) : List Cell :=
  ((dC l).take i).filter (fun y => decide (x ∈ rdD l y)) ++ (if x ∈ (cR l ((dC l).getD i default)).take j ∧ x ∈ dC l ∧ i < (dC l).length then [(dC l).getD i default] else [])
theorem RX_zero (l : List En) (x : Cell) : RX l 0 0 x = [] := by
  unfold RX
  rw [List.take_zero, List.take_zero, if_neg List.not_mem_nil]
  split <;> rfl
theorem FX_zero (l : List En) (x : Cell) : FX l 0 0 x = [] := by
  unfold FX
  rw [List.take_zero, List.take_zero, if_neg (fun h => List.not_mem_nil h.1)]
  rfl
theorem dC_not_take {l : List En} {i : Nat} (hi : i < (dC l).length) : (dC l).getD i default ∉ (dC l).take i := fun h => cLt_irrefl _ (takeC_lt (dC_lt l) hi h)
theorem RX_next {l : List En} {i : Nat} (hi : i < (dC l).length) (x : Cell) : RX l (i + 1) 0 x = RX l i (cR l ((dC l).getD i default)).length x := by
  unfold RX
  rw [List.take_length, ← rdD_cR, List.take_zero, take_succD _ _ hi]
  by_cases h : x ∈ (dC l).take i
  · rw [if_pos (List.mem_append_left _ h), if_pos h]
  · rw [if_neg h]
    by_cases h2 : x = (dC l).getD i default
    · rw [if_pos (List.mem_append_right _ (List.mem_singleton.2 h2)), if_pos ⟨h2, hi⟩, h2]
    · rw [if_neg (fun h3 => (List.mem_append.1 h3).elim h fun h4 => h2 (List.mem_singleton.1 h4)), if_neg (c := x = (dC l).getD i default ∧ _) (fun h3 => h2 h3.1)]
      split <;> rfl
theorem FX_next {l : List En} {i : Nat} (hi : i < (dC l).length) (x : Cell) : FX l (i + 1) 0 x = FX l i (cR l ((dC l).getD i default)).length x := by
  unfold FX
  rw [List.take_length, List.take_zero, if_neg (fun h => List.not_mem_nil h.1), List.append_nil, take_succD _ _ hi, List.filter_append]
  congr 1
  by_cases h : x ∈ rdD l ((dC l).getD i default)
  · rw [fil_pos (decide_eq_true h)]
    rw [rdD_cR, List.mem_filter, decide_eq_true_eq] at h
    rw [if_pos ⟨h.1, h.2, hi⟩]
  · rw [fil_neg (by rw [decide_eq_true_eq]; exact h)]
    rw [rdD_cR, List.mem_filter, decide_eq_true_eq] at h
    rw [if_neg (fun h2 => h ⟨h2.1, h2.2.1⟩)]
section
variable {l : List En} {i j : Nat}
theorem RX_no (hj : j < (cR l ((dC l).getD i default)).length) (hy : (cR l ((dC l).getD i default)).getD j default ∉ dC l) (x : Cell) : RX l i (j + 1) x = RX l i j x := by
  unfold RX
  rw [take_succD _ _ hj, List.filter_append, fil_neg (by rw [decide_eq_true_eq]; exact hy), List.append_nil]
theorem FX_no (hj : j < (cR l ((dC l).getD i default)).length) (hy : (cR l ((dC l).getD i default)).getD j default ∉ dC l) (x : Cell) : FX l i (j + 1) x = FX l i j x := by
  unfold FX
  rw [take_succD _ _ hj]
  congr 1
  by_cases h : x ∈ (cR l ((dC l).getD i default)).take j ∧ x ∈ dC l ∧ i < (dC l).length
  · rw [if_pos h, if_pos ⟨List.mem_append_left _ h.1, h.2⟩]
  · rw [if_neg h, if_neg]
    rintro ⟨h1, h2⟩
    rcases List.mem_append.1 h1 with h3 | h3
    · exact h ⟨h3, h2⟩
    · exact hy (List.mem_singleton.1 h3 ▸ h2.1)
theorem RX_self (hi : i < (dC l).length) (hj : j < (cR l ((dC l).getD i default)).length) (hy : (cR l ((dC l).getD i default)).getD j default ∈ dC l) : RX l i (j + 1) ((dC l).getD i default) = RX l i j ((dC l).getD i default) ++ [(cR l ((dC l).getD i default)).getD j default] := by
  unfold RX
  rw [if_neg (dC_not_take hi), if_neg (dC_not_take hi), if_pos ⟨rfl, hi⟩, if_pos ⟨rfl, hi⟩, take_succD _ _ hj, List.filter_append, fil_pos (decide_eq_true hy)]
theorem RX_ne {x : Cell} (h : (dC l).getD i default ≠ x) : RX l i (j + 1) x = RX l i j x := by
  unfold RX
  rw [if_neg (c := x = _ ∧ _) (fun h2 => h h2.1.symm), if_neg (c := x = _ ∧ _) (fun h2 => h h2.1.symm)]
theorem FX_self (hi : i < (dC l).length) (hj : j < (cR l ((dC l).getD i default)).length) (hy : (cR l ((dC l).getD i default)).getD j default ∈ dC l) : FX l i (j + 1) ((cR l ((dC l).getD i default)).getD j default) = FX l i j ((cR l ((dC l).getD i default)).getD j default) ++ [(dC l).getD i default] := by
  unfold FX
  rw [take_succD _ _ hj, if_pos ⟨List.mem_append_right _ (List.mem_singleton.2 rfl), hy, hi⟩, if_neg, List.append_nil]
  rintro ⟨h1, _⟩
  have h2 := cR_nodup l ((dC l).getD i default)
  rw [← List.take_append_drop (j + 1) (cR l ((dC l).getD i default)), take_succD _ _ hj, List.append_assoc, List.nodup_append] at h2
  exact h2.2.2 _ h1 _ (List.mem_append_left _ (List.mem_singleton.2 rfl)) rfl
theorem FX_ne {x : Cell} (hj : j < (cR l ((dC l).getD i default)).length) (h : (cR l ((dC l).getD i default)).getD j default ≠ x) : FX l i (j + 1) x = FX l i j x := by
  unfold FX
  rw [take_succD _ _ hj]
  congr 1
  by_cases h2 : x ∈ (cR l ((dC l).getD i default)).take j ∧ x ∈ dC l ∧ i < (dC l).length
  · rw [if_pos h2, if_pos ⟨List.mem_append_left _ h2.1, h2.2⟩]
  · rw [if_neg h2, if_neg]
    rintro ⟨h1, h3⟩
    rcases List.mem_append.1 h1 with h4 | h4
    · exact h2 ⟨h4, h3⟩
    · exact h (List.mem_singleton.1 h4).symm
theorem RX_len (l : List En) (i j : Nat) (x : Cell) : (RX l i j x).length ≤ l.length := by
  unfold RX
  split
  · exact rdD_len l x
  · split
    · refine Nat.le_trans ?_ (dC_len l)
      refine List.Nodup.length_le_of_subset ?_ fun y hy => of_decide_eq_true (List.mem_filter.1 hy).2
      exact ((cR_nodup l _).sublist (List.take_sublist _ _)).sublist List.filter_sublist
    · exact Nat.zero_le _
theorem FX_len (l : List En) (i j : Nat) (x : Cell) : (FX l i j x).length ≤ l.length + 1 := by
  unfold FX
  rw [List.length_append]
  have h1 := Nat.le_trans (List.length_filter_le (fun y => decide (x ∈ rdD l y)) ((dC l).take i)) (Nat.le_trans (List.length_take_le' ..) (dC_len l))
  have h2 : (if x ∈ (cR l ((dC l).getD i default)).take j ∧ x ∈ dC l ∧ i < (dC l).length then [(dC l).getD i default] else []).length ≤ 1 := by split <;> simp
  omega
end
theorem RX_end (l : List En) (x : Cell) : RX l (dC l).length 0 x = rdD l x := by
  unfold RX
  rw [List.take_length]
  by_cases h : x ∈ dC l
  · rw [if_pos h]
  · rw [if_neg h, if_neg (fun h2 => Nat.lt_irrefl _ h2.2)]
    cases h2 : rdD l x with
    | nil => rfl
    | cons y r => exact absurd (rdD_in (l := l) (c := x) (x := y) (by rw [h2]; exact List.mem_cons_self ..)) h
theorem FX_end (l : List En) (x : Cell) : FX l (dC l).length 0 x = rrD l x := by
  unfold FX
  rw [List.take_length, if_neg (fun h => Nat.lt_irrefl _ h.2.2), List.append_nil]
  rfl
end Go.Proofs.Ytkgjfcjciigcgaa
