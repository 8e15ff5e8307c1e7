/-
  What hangs on what: entries by cell, what each reads and what reads it, and all that hangs on a cell: plain lists.
-/
import Derived.Test.YtkgjfcjciigcgaaGoInto
namespace Go.Proofs.Ytkgjfcjciigcgaa
open Go.Proofs.Ytkgjfcjciigcgaa.Sl Go.RowKit
set_option linter.unusedVariables false
set_option linter.unusedSimpArgs false
set_option maxRecDepth 100000

theorem dec_t {p : Prop} {h : Decidable p} : (decide p = true) = p := decide_eq_true_eq
theorem dec_of {p : Prop} {h : Decidable p} (hp : p) : decide p = true := decide_eq_true hp
theorem dec_no {p : Prop} {h : Decidable p} (hp : ¬ p) : decide p = false := decide_eq_false hp
structure En where
  cell : Cell
  fm : Bool
  node : Node
  p : Option Addr
  c : Nat
  val : Val
instance : Inhabited En := ⟨⟨default, false, default, none, 0, default⟩⟩
def En.l (e : En) : List Value := e.cell.l ++ (.bool e.fm :: (e.node.l e.p e.c ++ e.val.l))
/-! ### of several of one cell the last -/
def lastI (c : Cell) : List En → Nat
  | [] => 0
  | x :: r => if ltOf cmpC x.cell c then lastI c r + 1 else 0
def lastIns (l : List En) (e : En) : List En :=
  if lastI e.cell l < l.length ∧ (l.getD (lastI e.cell l) default).cell = e.cell then l.set (lastI e.cell l) e else l.take (lastI e.cell l) ++ (e :: l.drop (lastI e.cell l))
def lastR (l : List En) : List En := l.foldl lastIns []
theorem lastI_le (c : Cell) : ∀ l : List En, lastI c l ≤ l.length
  | [] => by simp [lastI]
  | x :: r => by
    have := lastI_le c r
    unfold lastI
    split
    · simp; omega
    · simp
theorem lastI_eq (c : Cell) : ∀ (l : List En) (i : Nat), i ≤ l.length → (∀ j, j < i → ltOf cmpC (l.getD j default).cell c = true) → (i < l.length → ltOf cmpC (l.getD i default).cell c = false) → lastI c l = i
  | [], i, hi, _, _ => by simp at hi; subst hi; rfl
  | x :: r, 0, _, _, h2 => by
    have := h2 (by simp)
    unfold lastI
    rw [show x.cell = ((x :: r).getD 0 default).cell from rfl, this]
    rfl
  | x :: r, i + 1, hi, h1, h2 => by
    have h3 := h1 0 (by omega)
    have h4 := lastI_eq c r i (by simpa using hi) (fun j hj => h1 (j + 1) (by omega)) (fun hlt => h2 (by simpa using hlt))
    unfold lastI
    rw [show x.cell = ((x :: r).getD 0 default).cell from rfl, h3, if_pos rfl, h4]
theorem lastIns_cons (x : En) (r : List En) (e : En) : lastIns (x :: r) e = if ltOf cmpC x.cell e.cell then x :: lastIns r e else if x.cell = e.cell then e :: r else e :: x :: r := by
  unfold lastIns
  rw [lastI]
  by_cases h : ltOf cmpC x.cell e.cell = true
  · rw [if_pos h, if_pos h]
    have e1 : ((x :: r).getD (lastI e.cell r + 1) default) = r.getD (lastI e.cell r) default := by simp
    rw [e1, List.length_cons]
    by_cases h2 : lastI e.cell r < r.length ∧ (r.getD (lastI e.cell r) default).cell = e.cell
    · rw [if_pos h2, if_pos ⟨by omega, h2.2⟩]; rfl
    · rw [if_neg h2, if_neg (fun h3 => h2 ⟨by omega, h3.2⟩)]; rfl
  · rw [if_neg h, if_neg h]
    by_cases h2 : x.cell = e.cell
    · rw [if_pos h2, if_pos ⟨by simp, h2⟩]; rfl
    · rw [if_neg h2, if_neg (fun h3 => h2 h3.2)]; rfl
theorem lastIns_len (l : List En) (e : En) : (lastIns l e).length ≤ l.length + 1 := by
  have := lastI_le e.cell l
  unfold lastIns
  split
  · simp
  · simp
    omega
def lkE : List En → Cell → Option En
  | [], _ => none
  | x :: r, c => if x.cell = c then some x else lkE r c
theorem lkE_none {l : List En} {c : Cell} : lkE l c = none ↔ c ∉ l.map En.cell := by
  induction l with
  | nil => simp [lkE]
  | cons x r ih =>
    unfold lkE
    by_cases h : x.cell = c
    · rw [if_pos h]; simp [h]
    · rw [if_neg h, ih]
      simp only [List.map_cons, List.mem_cons, not_or]
      exact ⟨fun h' => ⟨fun e => h e.symm, h'⟩, fun h' => h'.2⟩
theorem lkE_mem {l : List En} {c : Cell} {e : En} (h : lkE l c = some e) : e ∈ l ∧ e.cell = c := by
  induction l with
  | nil => cases h
  | cons x r ih =>
    unfold lkE at h
    by_cases h2 : x.cell = c
    · rw [if_pos h2] at h
      cases h
      exact ⟨List.mem_cons_self .., h2⟩
    · rw [if_neg h2] at h
      exact ⟨List.mem_cons_of_mem _ (ih h).1, (ih h).2⟩
theorem lkE_ins (c : Cell) (e : En) : ∀ l : List En, lkE (lastIns l e) c = if e.cell = c then some e else lkE l c
  | [] => rfl
  | x :: r => by
    rw [lastIns_cons]
    by_cases h : ltOf cmpC x.cell e.cell = true
    · rw [if_pos h, lkE, lkE, lkE_ins c e r]
      by_cases h2 : x.cell = c
      · rw [if_pos h2, if_pos h2, if_neg]
        intro h3
        rw [h2, ← h3] at h
        exact cLt_irrefl _ ((ltC_iff _ _).1 h)
      · rw [if_neg h2, if_neg h2]
    · rw [if_neg h]
      by_cases h2 : x.cell = e.cell
      · rw [if_pos h2, lkE, lkE]
        by_cases h3 : e.cell = c
        · rw [if_pos h3, if_pos h3]
        · rw [if_neg h3, if_neg h3, if_neg (fun h4 => h3 (h2.symm.trans h4))]
      · rw [if_neg h2, lkE]
def SrtE (l : List En) : Prop := (l.map En.cell).Pairwise cLt
theorem insE_cells {e : En} {d : Cell} {l : List En} (h : d ∈ (lastIns l e).map En.cell) : d = e.cell ∨ d ∈ l.map En.cell := by
  by_cases h2 : e.cell = d
  · exact Or.inl h2.symm
  · refine Or.inr ?_
    have h3 : lkE (lastIns l e) d ≠ none := fun h' => lkE_none.1 h' h
    rw [lkE_ins, if_neg h2] at h3
    exact Classical.byContradiction fun h4 => h3 (lkE_none.2 h4)
theorem SrtE.ins {e : En} : ∀ {l : List En}, SrtE l → SrtE (lastIns l e)
  | [], _ => by
    show (List.map En.cell [e]).Pairwise cLt
    simp
  | x :: r, h => by
    have h' : (∀ d ∈ r.map En.cell, cLt x.cell d) ∧ SrtE r := List.pairwise_cons.1 h
    rw [lastIns_cons]
    by_cases h3 : ltOf cmpC x.cell e.cell = true
    · rw [if_pos h3]
      refine List.pairwise_cons.2 ⟨fun d hd => ?_, SrtE.ins h'.2⟩
      rcases insE_cells hd with rfl | hd
      · exact (ltC_iff _ _).1 h3
      · exact h'.1 d hd
    · rw [if_neg h3]
      by_cases h4 : x.cell = e.cell
      · rw [if_pos h4]
        exact List.pairwise_cons.2 ⟨fun d hd => h4 ▸ h'.1 d hd, h'.2⟩
      · rw [if_neg h4]
        have h5 : cLt e.cell x.cell := by
          rcases cLt_total e.cell x.cell with h6 | h6 | h6
          · exact h6
          · exact absurd h6.symm h4
          · exact absurd ((ltC_iff _ _).2 h6) h3
        refine List.pairwise_cons.2 ⟨fun d hd => ?_, h⟩
        rcases List.mem_cons.1 hd with rfl | hd
        · exact h5
        · exact cLt_trans h5 (h'.1 d hd)
theorem lastR_srt (l : List En) : SrtE (lastR l) := by
  have key : ∀ (l s : List En), SrtE s → SrtE (l.foldl lastIns s) := by
    intro l
    induction l with
    | nil => intro s h; exact h
    | cons x r ih => intro s h; exact ih _ h.ins
  exact key l [] List.Pairwise.nil
theorem lastR_take (l : List En) (i : Nat) (hi : i < l.length) : lastR (l.take (i + 1)) = lastIns (lastR (l.take i)) (l.getD i default) := by
  unfold lastR
  rw [take_succD _ _ hi, List.foldl_append]
  rfl
theorem lastR_len (l : List En) : (lastR l).length ≤ l.length := by
  have key : ∀ (l s : List En), (l.foldl lastIns s).length ≤ s.length + l.length := by
    intro l
    induction l with
    | nil => intro s; simp
    | cons x r ih =>
      intro s
      have h1 := ih (lastIns s x)
      have h2 := lastIns_len s x
      simp only [List.foldl_cons, List.length_cons]
      omega
  have := key l []
  rw [List.length_nil, Nat.zero_add] at this
  exact this
theorem lastR_mem (l : List En) : ∀ e ∈ lastR l, e ∈ l := by
  have ins : ∀ (s : List En) (x e : En), e ∈ lastIns s x → e = x ∨ e ∈ s := by
    intro s x e
    induction s with
    | nil => intro h; simpa [lastIns, lastI] using h
    | cons y r ih =>
      intro h
      rw [lastIns_cons] at h
      split at h
      · rcases List.mem_cons.1 h with h | h
        · exact .inr (h ▸ List.mem_cons_self ..)
        · rcases ih h with h | h
          · exact .inl h
          · exact .inr (List.mem_cons_of_mem _ h)
      · split at h
        · rcases List.mem_cons.1 h with h | h
          · exact .inl h
          · exact .inr (List.mem_cons_of_mem _ h)
        · rcases List.mem_cons.1 h with h | h
          · exact .inl h
          · exact .inr h
  have key : ∀ (l s : List En) (e : En), e ∈ l.foldl lastIns s → e ∈ s ∨ e ∈ l := by
    intro l
    induction l with
    | nil => intro s e h; exact .inl h
    | cons x r ih =>
      intro s e h
      rcases ih _ _ h with h | h
      · rcases ins _ _ _ h with h | h
        · exact .inr (h ▸ List.mem_cons_self ..)
        · exact .inl h
      · exact .inr (List.mem_cons_of_mem _ h)
  intro e h
  rcases key l [] e h with h | h
  · cases h
  · exact h
/-! ### what reads what -/
def dC (l : List En) : List Cell := (lastR l).map En.cell
def rdE (l : List En) (e : En) : List Cell := if e.fm then (cellsT e.node).filter fun c => decide (c ∈ dC l) else []
def rdD (l : List En) (c : Cell) : List Cell := match lkE (lastR l) c with
  | some e => rdE l e
  | none => []
def rrD (l : List En) (c : Cell) : List Cell := (dC l).filter fun x => decide (c ∈ rdD l x)
theorem dC_lt (l : List En) : (dC l).Pairwise cLt := lastR_srt l
theorem dC_len (l : List En) : (dC l).length ≤ l.length := by unfold dC; rw [List.length_map]; exact lastR_len l
theorem rrD_len (l : List En) (c : Cell) : (rrD l c).length ≤ l.length := Nat.le_trans (List.length_filter_le ..) (dC_len l)
theorem rrD_lt (l : List En) (c : Cell) : (rrD l c).Pairwise cLt := (dC_lt l).sublist List.filter_sublist
theorem rrD_sub {l : List En} {c x : Cell} (h : x ∈ rrD l c) : x ∈ dC l := (List.mem_filter.1 h).1
theorem rrD_mem {l : List En} {c x : Cell} : x ∈ rrD l c ↔ x ∈ dC l ∧ c ∈ rdD l x := by unfold rrD; rw [List.mem_filter, dec_t]
theorem rdD_sub {l : List En} {c x : Cell} (h : x ∈ rdD l c) : x ∈ dC l := by
  unfold rdD at h
  split at h
  · unfold rdE at h
    split at h
    · exact of_decide_eq_true (List.mem_filter.1 h).2
    · cases h
  · cases h
theorem rdD_in {l : List En} {c x : Cell} (h : x ∈ rdD l c) : c ∈ dC l := by
  unfold rdD at h
  split at h
  · rename_i e he
    exact List.mem_map.2 ⟨e, (lkE_mem he).1, (lkE_mem he).2⟩
  · cases h
theorem rr_of_rd {l : List En} {c x : Cell} (h : c ∈ rdD l x) : x ∈ rrD l c := rrD_mem.2 ⟨rdD_in h, h⟩
theorem rdD_lt (l : List En) (c : Cell) : (rdD l c).Pairwise cLt := by
  unfold rdD
  split
  · unfold rdE
    split
    · exact (cellsT_lt _).sublist List.filter_sublist
    · exact List.Pairwise.nil
  · exact List.Pairwise.nil
theorem lt_len {l m : List Cell} (h : l.Pairwise cLt) (hs : ∀ x ∈ l, x ∈ m) : l.length ≤ m.length := (cLt_nodup h).length_le_of_subset hs
theorem rdD_len (l : List En) (c : Cell) : (rdD l c).length ≤ l.length := Nat.le_trans (lt_len (rdD_lt l c) fun x hx => rdD_sub hx) (dC_len l)
/-! ### what hangs on a cell -/
inductive Rch (l : List En) : Cell → Cell → Prop
  | one {a b : Cell} : b ∈ rrD l a → Rch l a b
  | more {a b c : Cell} : Rch l a b → c ∈ rrD l b → Rch l a c
theorem Rch.in {l : List En} {a b : Cell} (h : Rch l a b) : b ∈ dC l := by cases h with
  | one h => exact rrD_sub h
  | more _ h => exact rrD_sub h
theorem Rch.trans {l : List En} {a b c : Cell} (h : Rch l a b) (h' : Rch l b c) : Rch l a c := by
  induction h' with
  | one h2 => exact .more h h2
  | more _ h2 ih => exact .more ih h2
open Classical in
noncomputable def aft (l : List En) (c : Cell) : List Cell := (dC l).filter fun x => decide (Rch l c x)
theorem aft_lt (l : List En) (c : Cell) : (aft l c).Pairwise cLt := (dC_lt l).sublist List.filter_sublist
theorem aft_mem {l : List En} {c x : Cell} : x ∈ aft l c ↔ Rch l c x := by
  unfold aft
  rw [List.mem_filter, dec_t]
  exact ⟨fun h => h.2, fun h => ⟨h.in, h⟩⟩
theorem aft_len (l : List En) (c : Cell) : (aft l c).length ≤ l.length := Nat.le_trans (List.length_filter_le ..) (dC_len l)
/-- A list in order that hangs on it, has what reads it and is closed, is all that hangs on it. -/
theorem aft_of {l : List En} {c : Cell} {m : List Cell} (hm : m.Pairwise cLt) (h1 : ∀ x ∈ m, Rch l c x) (h2 : ∀ x ∈ rrD l c, x ∈ m) (h3 : ∀ x ∈ m, ∀ y ∈ rrD l x, y ∈ m) : m = aft l c :=
  cLt_unique hm (aft_lt l c) fun x => by
    rw [aft_mem]
    refine ⟨h1 x, fun h => ?_⟩
    induction h with
    | one h => exact h2 _ h
    | more _ h ih => exact h3 _ ih _ h
end Go.Proofs.Ytkgjfcjciigcgaa
