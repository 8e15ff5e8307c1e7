/-
  How what hangs on a cell is found: with a list of work, and by adding until nothing comes to it: plain lists.
-/
import Derived.Test.YtkgjfcjciigcgaaGoDepsM
namespace Go.Proofs.Ytkgjfcjciigcgaa
open Go.Proofs.Ytkgjfcjciigcgaa.Sl Go.RowKit
set_option linter.unusedVariables false
set_option linter.unusedSimpArgs false
set_option maxRecDepth 100000

structure Wk (l : List En) (c : Cell) (ks xs : List Cell) : Prop where
  k1 : ∀ y ∈ ks, Rch l c y
  k2 : ∀ y ∈ xs, Rch l c y
  k3 : ∀ y ∈ rrD l c, y ∈ ks ∨ y ∈ xs
  k4 : ∀ y ∈ ks, ∀ z ∈ rrD l y, z ∈ ks ∨ z ∈ xs
  nd : ks.Nodup
def wkN (l : List En) (n m : Nat) : Nat := (l.length - n) * (l.length + 1) + m
theorem Wk.start (l : List En) (c : Cell) : Wk l c [] (rrD l c) :=
  ⟨fun y h => (List.not_mem_nil h).elim, fun y h => .one h, fun y h => .inr h, fun y h => (List.not_mem_nil h).elim, List.nodup_nil⟩
theorem Wk.len {l : List En} {c : Cell} {ks xs : List Cell} (h : Wk l c ks xs) : ks.length ≤ l.length :=
  Nat.le_trans (h.nd.length_le_of_subset (l₂ := dC l) fun x hx => (h.k1 x hx).in) (dC_len l)
theorem Wk.skip {l : List En} {c x : Cell} {ks xs : List Cell} (h : Wk l c ks (x :: xs)) (hx : x ∈ ks) : Wk l c ks xs := by
  have key : ∀ z, z ∈ ks ∨ z ∈ x :: xs → z ∈ ks ∨ z ∈ xs := fun z hz => by
    rcases hz with h1 | h1
    · exact .inl h1
    · rcases List.mem_cons.1 h1 with rfl | h1
      · exact .inl hx
      · exact .inr h1
  exact ⟨h.k1, fun y hy => h.k2 y (List.mem_cons_of_mem _ hy), fun y hy => key y (h.k3 y hy), fun y hy z hz => key z (h.k4 y hy z hz), h.nd⟩
theorem Wk.take {l : List En} {c x : Cell} {ks xs : List Cell} (h : Wk l c ks (x :: xs)) (hx : x ∉ ks) : Wk l c (ks ++ [x]) (xs ++ rrD l x) := by
  have hr := h.k2 x (List.mem_cons_self ..)
  have key : ∀ z, z ∈ ks ∨ z ∈ x :: xs → z ∈ ks ++ [x] ∨ z ∈ xs ++ rrD l x := fun z hz => by
    rcases hz with h1 | h1
    · exact .inl (List.mem_append_left _ h1)
    · rcases List.mem_cons.1 h1 with rfl | h1
      · exact .inl (by simp)
      · exact .inr (List.mem_append_left _ h1)
  refine ⟨fun y hy => ?_, fun y hy => ?_, fun y hy => key y (h.k3 y hy), fun y hy z hz => ?_, ?_⟩
  · rcases List.mem_append.1 hy with h1 | h1
    · exact h.k1 y h1
    · rw [List.mem_singleton.1 h1]; exact hr
  · rcases List.mem_append.1 hy with h1 | h1
    · exact h.k2 y (List.mem_cons_of_mem _ h1)
    · exact .more hr h1
  · rcases List.mem_append.1 hy with h1 | h1
    · exact key z (h.k4 y h1 z hz)
    · rw [List.mem_singleton.1 h1] at hz
      exact .inr (List.mem_append_right _ hz)
  · rw [List.nodup_append]
    refine ⟨h.nd, by simp, fun a ha b hb => ?_⟩
    rw [List.mem_singleton.1 hb]
    exact fun e => hx (e ▸ ha)
theorem wkN_skip (l : List En) (n m : Nat) : wkN l n m < wkN l n (m + 1) := by unfold wkN; omega
theorem wkN_take (l : List En) {n m k : Nat} (hn : n + 1 ≤ l.length) (hk : k ≤ l.length) : wkN l (n + 1) (m + k) < wkN l n (m + 1) := by
  unfold wkN
  have h1 : l.length - n = (l.length - (n + 1)) + 1 := by omega
  rw [h1, Nat.add_mul, Nat.one_mul]
  omega
theorem wkN_le {l : List En} {n m : Nat} (h : wkN l n m ≤ wkN l 0 l.length) (hl : l.length ≤ 1000) : m ≤ 1002000 := by
  unfold wkN at h
  have h1 : l.length * (l.length + 1) ≤ 1000 * 1001 := Nat.mul_le_mul hl (by omega)
  have h2 : m ≤ (l.length - n) * (l.length + 1) + m := Nat.le_add_left _ _
  rw [Nat.sub_zero] at h
  omega
theorem Wk.done {l : List En} {c : Cell} {ks : List Cell} (h : Wk l c ks []) : sortC ks = aft l c :=
  aft_of (sortC_lt h.nd) (fun x hx => h.k1 x ((sortC_mem _ _).1 hx)) (fun x hx => (sortC_mem _ _).2 ((h.k3 x hx).resolve_right List.not_mem_nil)) (fun x hx y hy => (sortC_mem _ _).2 ((h.k4 x ((sortC_mem _ _).1 hx) y hy).resolve_right List.not_mem_nil))
/-! ### until nothing comes to it -/
structure Cl (l : List En) (c : Cell) (L : List Cell) : Prop where
  lt : L.Pairwise cLt
  r : ∀ y ∈ L, Rch l c y
  s : ∀ y ∈ rrD l c, y ∈ L
theorem Cl.start (l : List En) (c : Cell) : Cl l c (rrD l c) := ⟨rrD_lt l c, fun y h => .one h, fun y h => h⟩
theorem Cl.len {l : List En} {c : Cell} {L : List Cell} (h : Cl l c L) : L.length ≤ l.length := Nat.le_trans (lt_len h.lt fun x hx => (h.r x hx).in) (dC_len l)
theorem Cl.into {l : List En} {c y z : Cell} {L : List Cell} (h : Cl l c L) (hz : Rch l c z) (hy : y ∈ rrD l z) : Cl l c (intoL L y) :=
  ⟨intoL_lt h.lt y, fun x hx => by
    rcases (intoL_mem _ _ _).1 hx with rfl | hx
    · exact .more hz hy
    · exact h.r x hx, fun x hx => (intoL_mem _ _ _).2 (.inr (h.s x hx))⟩
theorem intoL_cases (L : List Cell) (y : Cell) : (intoL L y = L ∧ y ∈ L) ∨ (intoL L y).length = L.length + 1 := by
  by_cases h : y ∈ L
  · exact .inl ⟨by unfold intoL; rw [if_pos h], h⟩
  · refine .inr ?_
    unfold intoL
    rw [if_neg h]
    have := intoI_le y L
    simp
    omega
/-- The pass over L0 so far: nothing came, or it is longer. -/
def Ps (l : List En) (L0 L : List Cell) (i k : Nat) : Prop :=
  (L = L0 ∧ (∀ j, j < i → ∀ y ∈ rrD l (L0.getD j default), y ∈ L0) ∧ (∀ j, j < k → (rrD l (L0.getD i default)).getD j default ∈ L0)) ∨ L0.length < L.length
theorem Ps.start (l : List En) (L0 : List Cell) : Ps l L0 L0 0 0 := .inl ⟨rfl, fun j h => absurd h (Nat.not_lt_zero _), fun j h => absurd h (Nat.not_lt_zero _)⟩
theorem Ps.le {l : List En} {L0 L : List Cell} {i k : Nat} (h : Ps l L0 L i k) : L0.length ≤ L.length := by
  rcases h with ⟨rfl, _⟩ | h
  · exact Nat.le_refl _
  · omega
theorem Ps.next {l : List En} {L0 L : List Cell} {i k : Nat} (h : Ps l L0 L i k) {y : Cell} (hy : L = L0 → y = (rrD l (L0.getD i default)).getD k default) : Ps l L0 (intoL L y) i (k + 1) := by
  rcases intoL_cases L y with ⟨h3, h4⟩ | h3
  · rw [h3]
    rcases h with ⟨rfl, h1, h2⟩ | h
    · refine .inl ⟨rfl, h1, fun j hj => ?_⟩
      rcases Nat.lt_or_ge j k with h5 | h5
      · exact h2 j h5
      · rw [show j = k by omega, ← hy rfl]; exact h4
    · exact .inr h
  · have := h.le
    exact .inr (by omega)
theorem Ps.back {l : List En} {L0 L : List Cell} {i k : Nat} (h : Ps l L0 L i k) {y : Cell} (he : intoL L y = L0) : L = L0 := by
  rcases intoL_cases L y with ⟨h3, h4⟩ | h3
  · rw [← h3]; exact he
  · have := h.le
    rw [he] at h3
    omega
theorem Ps.row {l : List En} {L0 L : List Cell} {i k : Nat} (h : Ps l L0 L i k) (hk : (L = L0 → k = (rrD l (L0.getD i default)).length)) : Ps l L0 L (i + 1) 0 := by
  rcases h with ⟨rfl, h1, h2⟩ | h
  · refine .inl ⟨rfl, fun j hj y hy => ?_, fun j h => absurd h (Nat.not_lt_zero _)⟩
    rcases Nat.lt_or_ge j i with h5 | h5
    · exact h1 j h5 y hy
    · have : j = i := by omega
      subst this
      obtain ⟨n, hn, rfl⟩ := List.mem_iff_getElem.1 hy
      have := h2 n (by rw [hk rfl]; exact hn)
      rwa [List.getD_eq_getElem?_getD, List.getElem?_eq_getElem hn] at this
  · exact .inr h
theorem Ps.done {l : List En} {c : Cell} {L0 L : List Cell} (h : Ps l L0 L L0.length 0) (he : L.length = L0.length) (hc : Cl l c L) : L = aft l c := by
  rcases h with ⟨rfl, h1, h2⟩ | h
  · refine aft_of hc.lt hc.r hc.s fun x hx y hy => ?_
    obtain ⟨n, hn, rfl⟩ := List.mem_iff_getElem.1 hx
    refine h1 n hn y ?_
    rwa [List.getD_eq_getElem?_getD, List.getElem?_eq_getElem hn]
  · omega
end Go.Proofs.Ytkgjfcjciigcgaa
