/-
  The reference's Into and what it makes of a formula's cells: plain lists.
-/
import Derived.Test.YtkgjfcjciigcgaaGoRefsR
namespace Go.Proofs.Ytkgjfcjciigcgaa
open Go.Proofs.Ytkgjfcjciigcgaa.Sl Go.RowKit
set_option linter.unusedVariables false
set_option linter.unusedSimpArgs false
set_option maxRecDepth 100000

def intoI (c : Cell) : List Cell → Nat
  | [] => 0
  | x :: r => if ltOf cmpC x c then intoI c r + 1 else 0
def intoL (l : List Cell) (c : Cell) : List Cell := if c ∈ l then l else l.take (intoI c l) ++ (c :: l.drop (intoI c l))
theorem intoI_le (c : Cell) : ∀ l : List Cell, intoI c l ≤ l.length
  | [] => by simp [intoI]
  | x :: r => by
    have := intoI_le c r
    unfold intoI
    split
    · simp; omega
    · simp
theorem intoI_eq (c : Cell) : ∀ (l : List Cell) (i : Nat), i ≤ l.length → (∀ j, j < i → ltOf cmpC (l.getD j default) c = true) → (i < l.length → ltOf cmpC (l.getD i default) c = false) → intoI c l = i
  | [], i, hi, _, _ => by simp at hi; subst hi; rfl
  | x :: r, 0, _, _, h2 => by
    have := h2 (by simp)
    unfold intoI
    rw [show x = ((x :: r).getD 0 default) from rfl, this]
    rfl
  | x :: r, i + 1, hi, h1, h2 => by
    have h3 := h1 0 (by omega)
    have h4 := intoI_eq c r i (by simpa using hi) (fun j hj => h1 (j + 1) (by omega)) (fun hlt => h2 (by simpa using hlt))
    unfold intoI
    rw [show x = ((x :: r).getD 0 default) from rfl, h3, if_pos rfl, h4]
theorem intoL_len (l : List Cell) (c : Cell) : (intoL l c).length ≤ l.length + 1 := by
  have := intoI_le c l
  unfold intoL
  split
  · omega
  · simp
    omega
theorem intoL_mem (l : List Cell) (c d : Cell) : d ∈ intoL l c ↔ d = c ∨ d ∈ l := by
  unfold intoL
  split
  · rename_i h
    constructor
    · exact .inr
    · rintro (rfl | h')
      · exact h
      · exact h'
  · have h := List.take_append_drop (intoI c l) l
    constructor
    · intro h1
      rw [List.mem_append, List.mem_cons] at h1
      rcases h1 with h1 | h1 | h1
      · exact .inr (List.mem_of_mem_take h1)
      · exact .inl h1
      · exact .inr (List.mem_of_mem_drop h1)
    · intro h1
      rw [List.mem_append, List.mem_cons]
      rcases h1 with h1 | h1
      · exact .inr (.inl h1)
      · rw [← h, List.mem_append] at h1
        rcases h1 with h1 | h1
        · exact .inl h1
        · exact .inr (.inr h1)
theorem insI_lt {c : Cell} : ∀ {l : List Cell}, l.Pairwise cLt → c ∉ l → (l.take (intoI c l) ++ (c :: l.drop (intoI c l))).Pairwise cLt
  | [], _, _ => by simp [intoI]
  | x :: r, h, hn => by
    have h' := List.pairwise_cons.1 h
    unfold intoI
    by_cases h3 : ltOf cmpC x c = true
    · rw [if_pos h3]
      rw [List.take_succ_cons, List.drop_succ_cons, List.cons_append, List.pairwise_cons]
      refine ⟨fun d hd => ?_, insI_lt h'.2 (fun hm => hn (List.mem_cons_of_mem _ hm))⟩
      rw [List.mem_append, List.mem_cons] at hd
      rcases hd with hd | hd | hd
      · exact h'.1 d (List.mem_of_mem_take hd)
      · subst hd; exact (ltC_iff _ _).1 h3
      · exact h'.1 d (List.mem_of_mem_drop hd)
    · rw [if_neg h3, List.take_zero, List.drop_zero, List.nil_append, List.pairwise_cons]
      have h5 : cLt c x := by
        rcases cLt_total c x with h6 | h6 | h6
        · exact h6
        · exact absurd (h6 ▸ List.mem_cons_self) hn
        · exact absurd ((ltC_iff _ _).2 h6) h3
      refine ⟨fun d hd => ?_, h⟩
      rcases List.mem_cons.1 hd with rfl | hd
      · exact h5
      · exact cLt_trans h5 (h'.1 d hd)
theorem intoL_lt {l : List Cell} (h : l.Pairwise cLt) (c : Cell) : (intoL l c).Pairwise cLt := by
  unfold intoL
  split
  · exact h
  · rename_i hn
    exact insI_lt h hn
def intoAll (l s : List Cell) : List Cell := l.foldl intoL s
theorem intoAll_take (l s : List Cell) (i : Nat) (hi : i < l.length) : intoAll (l.take (i + 1)) s = intoL (intoAll (l.take i) s) (l.getD i default) := by
  unfold intoAll
  rw [take_succD _ _ hi, List.foldl_append]
  rfl
theorem intoAll_len : ∀ l s : List Cell, (intoAll l s).length ≤ s.length + l.length
  | [], s => by simp [intoAll]
  | x :: r, s => by
    have h1 := intoAll_len r (intoL s x)
    have h2 := intoL_len s x
    show (intoAll r (intoL s x)).length ≤ _
    simp only [List.length_cons]
    omega
theorem intoAll_mem (d : Cell) : ∀ l s : List Cell, d ∈ intoAll l s ↔ d ∈ l ∨ d ∈ s
  | [], s => by simp [intoAll]
  | x :: r, s => by
    show d ∈ intoAll r (intoL s x) ↔ _
    rw [intoAll_mem d r, intoL_mem, List.mem_cons]
    constructor
    · rintro (h | h | h) <;> simp [h]
    · rintro ((h | h) | h) <;> simp [h]
theorem intoAll_lt : ∀ (l : List Cell) {s : List Cell}, s.Pairwise cLt → (intoAll l s).Pairwise cLt
  | [], _, h => h
  | x :: r, _, h => intoAll_lt r (intoL_lt h x)
mutual
def readsR : Node → List Cell
  | .mk k o nm v c t kids => readsRL kids (intoAll (own (.mk k o nm v c t kids)) [])
def readsRL : List Node → List Cell → List Cell
  | [], s => s
  | k :: ks, s => readsRL ks (intoAll (readsR k) s)
end
theorem readsR_eq (t : Node) : readsR t = readsRL t.kids (intoAll (own t) []) := by cases t; rw [readsR]; rfl
theorem readsRL_snoc : ∀ (l : List Node) (k : Node) (s : List Cell), readsRL (l ++ [k]) s = intoAll (readsR k) (readsRL l s)
  | [], k, s => by simp [readsRL]
  | x :: r, k, s => by rw [List.cons_append, readsRL, readsRL, readsRL_snoc r]
theorem readsR_spec (t : Node) : (∀ d, d ∈ readsR t ↔ d ∈ keysT t) ∧ (readsR t).Pairwise cLt ∧ (readsR t).length ≤ 400 * t.count := by
  induction t using Node.ind with
  | h t ih =>
  rw [readsR_eq, keysT_eq]
  have key : ∀ (l : List Node), (∀ x ∈ l, x ∈ t.kids) → ∀ s : List Cell, s.Pairwise cLt → (∀ d, d ∈ readsRL l s ↔ d ∈ keysL l ∨ d ∈ s) ∧ (readsRL l s).Pairwise cLt ∧ (readsRL l s).length ≤ s.length + 400 * Node.countL l := by
    intro l
    induction l with
    | nil => intro _ s hs; exact ⟨fun d => by simp [readsRL, keysL], hs, by simp [readsRL]⟩
    | cons k ks ihl =>
      intro hk s hs
      obtain ⟨a1, a2, a3⟩ := ih k (hk k (by simp))
      obtain ⟨b1, b2, b3⟩ := ihl (fun x hx => hk x (by simp [hx])) (intoAll (readsR k) s) (intoAll_lt _ hs)
      have h4 := intoAll_len (readsR k) s
      rw [readsRL, keysL, Node.countL]
      refine ⟨fun d => ?_, b2, by omega⟩
      rw [b1, intoAll_mem, a1, List.mem_append]
      constructor
      · rintro (h | h | h) <;> simp [h]
      · rintro ((h | h) | h) <;> simp [h]
  obtain ⟨k1, k2, k3⟩ := key t.kids (fun x hx => hx) (intoAll (own t) []) (intoAll_lt _ List.Pairwise.nil)
  have h1 := intoAll_len (own t) []
  have h2 := own_small t
  rw [Node.count_eq]
  refine ⟨fun d => ?_, k2, by simp at h1; omega⟩
  rw [k1, intoAll_mem, List.mem_append]
  simp [or_comm]
theorem readsR_len (t : Node) : (readsR t).length ≤ 400 * t.count := (readsR_spec t).2.2
theorem readsR_cells (t : Node) : cellsT t = readsR t := cellsT_unique (readsR_spec t).2.1 (readsR_spec t).1
/-- Part of the way: its length. -/
theorem readsRL_take_len (t : Node) (i j : Nat) (hi : i < t.kids.length) : (intoAll ((readsR (t.kids.getD i default)).take j) (readsRL (t.kids.take i) (intoAll (own t) []))).length ≤ 400 + 400 * t.count := by
  have h2 := own_small t
  have key : ∀ (l : List Node) (s : List Cell), (readsRL l s).length ≤ s.length + 400 * Node.countL l := by
    intro l
    induction l with
    | nil => intro s; simp [readsRL]
    | cons k ks ihl =>
      intro s
      have h1 := ihl (intoAll (readsR k) s)
      have h3 := intoAll_len (readsR k) s
      have h4 := readsR_len k
      rw [readsRL, Node.countL]
      omega
  have h3 := key (t.kids.take (i + 1)) (intoAll (own t) [])
  have h4 := key (t.kids.take i) (intoAll (own t) [])
  have h5 := intoAll_len ((readsR (t.kids.getD i default)).take j) (readsRL (t.kids.take i) (intoAll (own t) []))
  have h6 := intoAll_len (own t) []
  have h7 := readsR_len (t.kids.getD i default)
  have hc : Node.countL (t.kids.take i) + (t.kids.getD i default).count ≤ Node.countL t.kids := by
    have aux : ∀ (l : List Node) (i : Nat), i < l.length → Node.countL (l.take i) + (l.getD i default).count ≤ Node.countL l := by
      intro l
      induction l with
      | nil => intro i hi; simp at hi
      | cons k ks ih =>
        intro i hi
        cases i with
        | zero => simp [Node.countL]
        | succ i =>
          have := ih i (by simpa using hi)
          simp only [List.take_succ_cons, Node.countL, List.getD_cons_succ]
          omega
    exact aux _ _ hi
  rw [Node.count_eq]
  simp only [List.length_take, List.length_nil] at h5 h6
  omega
theorem readsRL_take_len0 (t : Node) (i : Nat) (hi : i ≤ t.kids.length) : (readsRL (t.kids.take i) (intoAll (own t) [])).length ≤ 400 + 400 * t.count := by
  rcases Nat.lt_or_ge i t.kids.length with h | h
  · have := readsRL_take_len t i 0 h
    simpa [intoAll] using this
  · have h1 : i = t.kids.length := by omega
    rw [h1, List.take_length, ← readsR_eq]
    have := readsR_len t
    omega
/-! ### sheets -/
def addS (l : List ByteArray) (s : ByteArray) : List ByteArray := if l = [] ∨ l.getLast? ≠ some s then l ++ [s] else l
def sheetsOf (l : List ByteArray) : List ByteArray := l.foldl addS []
theorem sheetsOf_take (l : List ByteArray) (i : Nat) (hi : i < l.length) : sheetsOf (l.take (i + 1)) = addS (sheetsOf (l.take i)) (l.getD i default) := by
  unfold sheetsOf
  rw [take_succD _ _ hi, List.foldl_append]
  rfl
theorem addS_len (l : List ByteArray) (s : ByteArray) : (addS l s).length ≤ l.length + 1 := by
  unfold addS
  split <;> simp
theorem sheetsOf_len (l : List ByteArray) : (sheetsOf l).length ≤ l.length := by
  have key : ∀ (l s : List ByteArray), (l.foldl addS s).length ≤ s.length + l.length := by
    intro l
    induction l with
    | nil => intro s; simp
    | cons x r ih =>
      intro s
      have h1 := ih (addS s x)
      have h2 := addS_len s x
      simp only [List.foldl_cons, List.length_cons]
      omega
  have := key l []
  simp only [List.length_nil, Nat.zero_add] at this
  exact this
/-- What is last of it, is the last. -/
theorem sheetsOf_last (l : List ByteArray) : (sheetsOf l).getLast? = l.getLast? := by
  have key : ∀ (l s : List ByteArray), (l.foldl addS s).getLast? = (s ++ l).getLast? := by
    intro l
    induction l with
    | nil => intro s; simp
    | cons x r ih =>
      intro s
      rw [List.foldl_cons, ih]
      have h1 : (addS s x).getLast? = some x := by
        unfold addS
        split
        · simp
        · rename_i h
          simp only [not_or, ne_eq, Decidable.not_not] at h
          exact h.2
      rcases List.eq_nil_or_concat r with rfl | ⟨r', y, rfl⟩
      · simp [h1]
      · rw [List.concat_eq_append, show s ++ x :: (r' ++ [y]) = (s ++ x :: r') ++ [y] by simp, ← List.append_assoc, List.getLast?_concat, List.getLast?_concat]
  have := key l []
  rw [List.nil_append] at this
  exact this
theorem sheetsOf_nil : sheetsOf [] = [] := rfl
theorem addS_at (l : List ByteArray) (i : Nat) (hi : 0 < i) (hl : i < l.length) : addS (sheetsOf (l.take i)) (l.getD i default) = if l.getD i default = l.getD (i - 1) default then sheetsOf (l.take i) else sheetsOf (l.take i) ++ [l.getD i default] := by
  have h1 : (sheetsOf (l.take i)).getLast? = some (l.getD (i - 1) default) := by
    rw [sheetsOf_last, List.getLast?_eq_getElem?, List.length_take, Nat.min_eq_left (by omega), List.getElem?_take_of_lt (by omega)]
    simp [List.getD, show i - 1 < l.length by omega]
  unfold addS
  rw [h1]
  by_cases h : l.getD i default = l.getD (i - 1) default
  · rw [if_pos h, if_neg]
    rintro (h2 | h2)
    · rw [h2] at h1; cases h1
    · exact h2 (by rw [h])
  · rw [if_neg h, if_pos]
    refine .inr fun h2 => h ?_
    injection h2 with h2
    exact h2.symm
end Go.Proofs.Ytkgjfcjciigcgaa
