import Derived.Test.YtkgjfcjciigcgaaGoDepsM
import Derived.Test.YtkgjfcjciigcgaaGoDepsA
import Derived.Test.YtkgjfcjciigcgaaSlSel
/-
  Knots of cells that hang on each other, and the order in which they are reckoned: plain lists.
-/
namespace Go.Proofs.Ytkgjfcjciigcgaa
open Go.Proofs.Ytkgjfcjciigcgaa.Sl Go.RowKit
set_option linter.unusedVariables false
set_option linter.unusedSimpArgs false
set_option maxRecDepth 100000

open Classical in
noncomputable def clsD (l : List En) (c : Cell) : List Cell := (dC l).filter fun x => decide (x = c ∨ (Rch l c x ∧ Rch l x c))
theorem clsD_mem {l : List En} {c x : Cell} (hc : c ∈ dC l) : x ∈ clsD l c ↔ x = c ∨ (Rch l c x ∧ Rch l x c) := by
  unfold clsD
  rw [List.mem_filter, dec_t]
  refine ⟨fun h => h.2, fun h => ⟨?_, h⟩⟩
  rcases h with rfl | h
  · exact hc
  · exact h.1.in
theorem clsD_sub {l : List En} {c x : Cell} (h : x ∈ clsD l c) : x ∈ dC l := (List.mem_filter.1 h).1
theorem clsD_self {l : List En} {c : Cell} (hc : c ∈ dC l) : c ∈ clsD l c := (clsD_mem hc).2 (.inl rfl)
theorem clsD_lt (l : List En) (c : Cell) : (clsD l c).Pairwise cLt := (dC_lt l).sublist List.filter_sublist
theorem clsD_symm {l : List En} {c x : Cell} (h : x ∈ clsD l c) : c ∈ dC l → c ∈ clsD l x := fun hc => by
  rcases (clsD_mem hc).1 h with rfl | h
  · exact clsD_self hc
  · exact (clsD_mem h.1.in).2 (.inr ⟨h.2, h.1⟩)
theorem clsD_trans {l : List En} {a b c : Cell} (ha : a ∈ dC l) (h : b ∈ clsD l a) (h' : c ∈ clsD l b) : c ∈ clsD l a := by
  have hb := clsD_sub h
  rcases (clsD_mem ha).1 h with rfl | h1
  · exact h'
  · rcases (clsD_mem hb).1 h' with rfl | h2
    · exact h
    · exact (clsD_mem ha).2 (.inr ⟨h1.1.trans h2.1, h2.2.trans h1.2⟩)
theorem clsD_eq {l : List En} {a b : Cell} (ha : a ∈ dC l) (h : b ∈ clsD l a) : clsD l b = clsD l a :=
  cLt_unique (clsD_lt l b) (clsD_lt l a) fun x => ⟨fun hx => clsD_trans ha h hx, fun hx => clsD_trans (clsD_sub h) (clsD_symm h ha) hx⟩
structure Kn where
  cells : List Cell
  rnd : Bool
instance : Inhabited Kn := ⟨⟨[], false⟩⟩
open Classical in
noncomputable def rndD (l : List En) (c : Cell) : Bool := decide (Rch l c c)
theorem rndD_cls {l : List En} {a b : Cell} (ha : a ∈ dC l) (h : b ∈ clsD l a) : rndD l b = rndD l a := by
  unfold rndD
  rcases (clsD_mem ha).1 h with rfl | h1
  · rfl
  · rw [dec_of (h1.2.trans h1.1), dec_of (h1.1.trans h1.2)]
noncomputable def knD (l : List En) (c : Cell) : Kn := ⟨clsD l c, rndD l c⟩
theorem knD_eq {l : List En} {a b : Cell} (ha : a ∈ dC l) (h : b ∈ clsD l a) : knD l b = knD l a := by
  unfold knD
  rw [clsD_eq ha h, rndD_cls ha h]
open Classical in
/-- The least of its knot. -/
noncomputable def fstD (l : List En) (c : Cell) : Bool := decide (∀ x ∈ clsD l c, ¬ cLt x c)
theorem fstD_iff {l : List En} {c : Cell} : fstD l c = true ↔ ∀ x ∈ clsD l c, ¬ cLt x c := by unfold fstD; rw [dec_t]
noncomputable def allD (l : List En) : List Kn := ((dC l).filter (fstD l)).map (knD l)
theorem least {p : Cell → Prop} : ∀ (m : List Cell), m.Pairwise cLt → ∀ x ∈ m, p x → ∃ y ∈ m, p y ∧ ∀ z ∈ m, p z → ¬ cLt z y := by
  classical
  intro m
  induction m with
  | nil => intro _ x hx; cases hx
  | cons a r ih =>
    intro hm x hx hp
    have hm' := List.pairwise_cons.1 hm
    by_cases ha : p a
    · refine ⟨a, List.mem_cons_self .., ha, fun z hz _ hlt => ?_⟩
      rcases List.mem_cons.1 hz with rfl | hz
      · exact cLt_irrefl _ hlt
      · exact cLt_irrefl _ (cLt_trans hlt (hm'.1 z hz))
    · rcases List.mem_cons.1 hx with rfl | hx
      · exact absurd hp ha
      · obtain ⟨y, hy, h1, h2⟩ := ih hm'.2 x hx hp
        refine ⟨y, List.mem_cons_of_mem _ hy, h1, fun z hz hpz => ?_⟩
        rcases List.mem_cons.1 hz with rfl | hz
        · exact absurd hpz ha
        · exact h2 z hz hpz
theorem fst_ex {l : List En} {c : Cell} (hc : c ∈ dC l) : ∃ f ∈ dC l, fstD l f = true ∧ c ∈ clsD l f ∧ f ∈ clsD l c ∧ (f = c ∨ cLt f c) := by
  obtain ⟨f, hf, _, h2⟩ := least (p := fun _ => True) (clsD l c) (clsD_lt l c) c (clsD_self hc) trivial
  refine ⟨f, clsD_sub hf, fstD_iff.2 (fun x hx => h2 x (clsD_trans hc hf hx) trivial), clsD_symm hf hc, hf, ?_⟩
  rcases cLt_total f c with h | h | h
  · exact .inr h
  · exact .inl h
  · exact absurd h (h2 c (clsD_self hc) trivial)
theorem fst_eq {l : List En} {a b : Cell} (ha : fstD l a = true) (hb : fstD l b = true) (hd : a ∈ dC l) (h : b ∈ clsD l a) : a = b := by
  rcases cLt_total a b with h1 | h1 | h1
  · exact absurd h1 (fstD_iff.1 hb a (clsD_symm h hd))
  · exact h1
  · exact absurd h1 (fstD_iff.1 ha b h)
theorem allD_mem {l : List En} {k : Kn} : k ∈ allD l ↔ ∃ f ∈ dC l, fstD l f = true ∧ k = knD l f := by
  unfold allD
  rw [List.mem_map]
  constructor
  · rintro ⟨f, hf, rfl⟩
    exact ⟨f, (List.mem_filter.1 hf).1, (List.mem_filter.1 hf).2, rfl⟩
  · rintro ⟨f, h1, h2, rfl⟩
    exact ⟨f, List.mem_filter.2 ⟨h1, h2⟩, rfl⟩
theorem allD_in {l : List En} {c : Cell} (hc : c ∈ dC l) : ∃ k ∈ allD l, c ∈ k.cells := by
  obtain ⟨f, h1, h2, h3, _⟩ := fst_ex hc
  exact ⟨_, allD_mem.2 ⟨f, h1, h2, rfl⟩, h3⟩
theorem allD_of {l : List En} {k : Kn} {c : Cell} (hk : k ∈ allD l) (hc : c ∈ k.cells) : c ∈ dC l ∧ k = knD l c := by
  obtain ⟨f, h1, h2, rfl⟩ := allD_mem.1 hk
  exact ⟨clsD_sub hc, (knD_eq h1 hc).symm⟩
theorem allD_uniq {l : List En} {k k' : Kn} {c : Cell} (hk : k ∈ allD l) (hc : c ∈ k.cells) (hk' : k' ∈ allD l) (hc' : c ∈ k'.cells) : k = k' :=
  (allD_of hk hc).2.trans (allD_of hk' hc').2.symm
theorem allD_ne {l : List En} {k : Kn} (hk : k ∈ allD l) : k.cells ≠ [] := by
  obtain ⟨f, h1, h2, rfl⟩ := allD_mem.1 hk
  exact List.ne_nil_of_mem (clsD_self h1)
theorem allD_nodup (l : List En) : (allD l).Nodup := by
  unfold allD
  have h1 : ((dC l).filter (fstD l)).Nodup := (cLt_nodup (dC_lt l)).sublist List.filter_sublist
  unfold List.Nodup
  rw [List.pairwise_map]
  refine List.Pairwise.imp_of_mem ?_ h1
  intro a b ha hb hab he
  obtain ⟨ha1, ha2⟩ := List.mem_filter.1 ha
  obtain ⟨hb1, hb2⟩ := List.mem_filter.1 hb
  refine hab (fst_eq ha2 hb2 ha1 ?_)
  have : clsD l a = clsD l b := congrArg Kn.cells he
  rw [this]
  exact clsD_self hb1
theorem allD_len (l : List En) : (allD l).length ≤ l.length := by
  unfold allD
  rw [List.length_map]
  exact Nat.le_trans (List.length_filter_le ..) (dC_len l)
/-! ### which is next -/
open Classical in
noncomputable def rdyD (l : List En) (out : List Kn) (k : Kn) : Bool := decide (∀ c ∈ k.cells, ∀ r ∈ rdD l c, (∃ m ∈ out, r ∈ m.cells) ∨ r ∈ k.cells)
theorem rdyD_iff {l : List En} {out : List Kn} {k : Kn} : rdyD l out k = true ↔ ∀ c ∈ k.cells, ∀ r ∈ rdD l c, (∃ m ∈ out, r ∈ m.cells) ∨ r ∈ k.cells := by unfold rdyD; rw [dec_t]
open Classical in
noncomputable def canD (l : List En) (out : List Kn) (k : Kn) : Bool := decide (k ∉ out) && rdyD l out k
noncomputable def nxtD (l : List En) (out : List Kn) : Option Kn := (allD l).find? (canD l out)
noncomputable def ordD (l : List En) : Nat → List Kn
  | 0 => []
  | n + 1 => ordD l n ++ (nxtD l (ordD l n)).toList
theorem nxtD_some {l : List En} {out : List Kn} {k : Kn} (h : nxtD l out = some k) : k ∈ allD l ∧ k ∉ out ∧ rdyD l out k = true := by
  have h1 := List.find?_some h
  unfold canD at h1
  rw [Bool.and_eq_true, dec_t] at h1
  exact ⟨List.mem_of_find?_eq_some h, h1.1, h1.2⟩
theorem ordD_mem {l : List En} {n : Nat} {k : Kn} (h : k ∈ ordD l n) : k ∈ allD l := by
  induction n with
  | zero => cases h
  | succ n ih =>
    unfold ordD at h
    rcases List.mem_append.1 h with h | h
    · exact ih h
    · rw [Option.mem_toList] at h
      exact (nxtD_some h).1
theorem ordD_nodup (l : List En) (n : Nat) : (ordD l n).Nodup := by
  induction n with
  | zero => exact List.nodup_nil
  | succ n ih =>
    unfold ordD
    cases h : nxtD l (ordD l n) with
    | none => simpa using ih
    | some k =>
      rw [Option.toList_some, List.nodup_append]
      refine ⟨ih, by simp, fun a ha b hb => ?_⟩
      simp at hb
      subst hb
      exact fun e => (nxtD_some h).2.1 (e ▸ ha)
open Classical in
/-- All that a cell hangs on, and itself. -/
noncomputable def anc (l : List En) (c : Cell) : List Cell := (dC l).filter fun x => decide (x = c ∨ Rch l x c)
theorem anc_mem {l : List En} {c x : Cell} (hc : c ∈ dC l) : x ∈ anc l c ↔ x ∈ dC l ∧ (x = c ∨ Rch l x c) := by
  unfold anc
  rw [List.mem_filter, dec_t]
theorem anc_lt {l : List En} {c r : Cell} (hc : c ∈ dC l) (hr : r ∈ rdD l c) (hn : r ∉ clsD l c) : (anc l r).length < (anc l c).length := by
  have hr' := rdD_sub hr
  have h1 : Rch l r c := .one (rr_of_rd hr)
  have hnd : ((c :: anc l r)).Nodup := by
    rw [List.nodup_cons]
    refine ⟨fun h => ?_, (cLt_nodup (dC_lt l)).sublist List.filter_sublist⟩
    rcases ((anc_mem hr').1 h).2 with h2 | h2
    · exact hn (h2 ▸ clsD_self hc)
    · exact hn ((clsD_mem hc).2 (.inr ⟨h2, h1⟩))
  have := hnd.length_le_of_subset (l₂ := anc l c) (fun x hx => by
    rcases List.mem_cons.1 hx with rfl | hx
    · exact (anc_mem hc).2 ⟨hc, .inl rfl⟩
    · obtain ⟨h3, h4⟩ := (anc_mem hr').1 hx
      refine (anc_mem hc).2 ⟨h3, .inr ?_⟩
      rcases h4 with rfl | h4
      · exact h1
      · exact h4.trans h1)
  rw [List.length_cons] at this
  exact this
/-- One is always ready. -/
theorem ready_ex {l : List En} {out : List Kn} : ∀ (n : Nat) (k : Kn), k ∈ allD l → k ∉ out → (∃ c ∈ k.cells, (anc l c).length ≤ n) → ∃ k' ∈ allD l, canD l out k' = true := by
  intro n
  induction n with
  | zero =>
    rintro k hk hko ⟨c, hc, hn⟩
    obtain ⟨h1, _⟩ := allD_of hk hc
    have : c ∈ anc l c := (anc_mem h1).2 ⟨h1, .inl rfl⟩
    have := List.length_pos_of_mem this
    omega
  | succ n ih =>
    rintro k hk hko ⟨c, hc, hn⟩
    by_cases h : rdyD l out k = true
    · exact ⟨k, hk, by unfold canD; rw [h, Bool.and_true, dec_t]; exact hko⟩
    · rw [rdyD_iff] at h
      have h' : ∃ c' ∈ k.cells, ∃ r ∈ rdD l c', ¬ (∃ m ∈ out, r ∈ m.cells) ∧ r ∉ k.cells := by
        refine Classical.byContradiction fun h2 => h fun c' hc' r hr => ?_
        refine Classical.byContradiction fun h3 => h2 ⟨c', hc', r, hr, ?_⟩
        rw [not_or] at h3
        exact h3
      obtain ⟨c', hc', r, hr, h1, h2⟩ := h'
      obtain ⟨hd', hk'⟩ := allD_of hk hc'
      obtain ⟨hd, hkc⟩ := allD_of hk hc
      obtain ⟨m, hm, hrm⟩ := allD_in (rdD_sub hr)
      have hcls : r ∉ clsD l c' := fun h3 => h2 (by rw [hk']; exact h3)
      refine ih m hm (fun hmo => h1 ⟨m, hmo, hrm⟩) ⟨r, hrm, ?_⟩
      have h4 := anc_lt hd' hr hcls
      have h5 : (anc l c').length ≤ (anc l c).length := by
        refine lt_len ((dC_lt l).sublist List.filter_sublist) fun x hx => ?_
        obtain ⟨h6, h7⟩ := (anc_mem hd').1 hx
        refine (anc_mem hd).2 ⟨h6, ?_⟩
        have h8 : c' ∈ clsD l c := by
          have : c' ∈ (knD l c).cells := hkc ▸ hc'
          exact this
        rcases (clsD_mem hd).1 h8 with h9 | h9
        · rw [← h9]; exact h7
        · rcases h7 with rfl | h7
          · exact .inr h9.2
          · exact .inr (h7.trans h9.2)
      omega
theorem ordD_len {l : List En} : ∀ {n : Nat}, n ≤ (allD l).length → (ordD l n).length = n
  | 0, _ => rfl
  | n + 1, h => by
    have ih := ordD_len (l := l) (n := n) (by omega)
    have hex : ∃ k ∈ allD l, k ∉ ordD l n := by
      refine Classical.byContradiction fun h2 => ?_
      have h3 : ∀ k ∈ allD l, k ∈ ordD l n := fun k hk => Classical.byContradiction fun h4 => h2 ⟨k, hk, h4⟩
      have := (allD_nodup l).length_le_of_subset h3
      omega
    obtain ⟨k, hk, hko⟩ := hex
    obtain ⟨c, hc⟩ := List.exists_mem_of_ne_nil _ (allD_ne hk)
    obtain ⟨k', hk', hcan⟩ := ready_ex _ k hk hko ⟨c, hc, Nat.le_refl _⟩
    unfold ordD
    cases h5 : nxtD l (ordD l n) with
    | none =>
      unfold nxtD at h5
      rw [List.find?_eq_none] at h5
      exact absurd hcan (h5 k' hk')
    | some x => simp [ih]
theorem nxtD_ex {l : List En} {n : Nat} (h : n < (allD l).length) : ∃ k, nxtD l (ordD l n) = some k ∧ ordD l (n + 1) = ordD l n ++ [k] := by
  have h1 := ordD_len (l := l) (n := n) (by omega)
  have h2 := ordD_len (l := l) (n := n + 1) (by omega)
  rw [ordD] at h2
  cases h5 : nxtD l (ordD l n) with
  | none => rw [h5] at h2; simp at h2; omega
  | some x => exact ⟨x, rfl, by rw [ordD, h5]; rfl⟩
noncomputable def orD (l : List En) : List Kn := ordD l (allD l).length
theorem orD_len (l : List En) : (orD l).length = (allD l).length := ordD_len (Nat.le_refl _)
theorem orD_mem {l : List En} {k : Kn} : k ∈ orD l ↔ k ∈ allD l := by
  refine ⟨ordD_mem, fun hk => Classical.byContradiction fun h => ?_⟩
  have h1 : (k :: orD l).Nodup := List.nodup_cons.2 ⟨h, ordD_nodup l _⟩
  have := h1.length_le_of_subset (l₂ := allD l) (fun x hx => by
    rcases List.mem_cons.1 hx with rfl | hx
    · exact hk
    · exact ordD_mem hx)
  rw [List.length_cons, orD_len] at this
  omega
theorem ordD_pre {l : List En} {n m : Nat} (h : n ≤ m) : ordD l n <+: ordD l m := by
  induction m with
  | zero => rw [show n = 0 by omega]; exact List.prefix_refl _
  | succ m ih =>
    rcases Nat.lt_or_ge m n with h1 | h1
    · rw [show n = m + 1 by omega]; exact List.prefix_refl _
    · exact (ih h1).trans (List.prefix_append (ordD l m) (nxtD l (ordD l m)).toList)
/-! ### how knots are found -/
theorem cls_fst {l : List En} {c : Cell} (hc : c ∈ dC l) (hf : fstD l c = true) : clsD l c = c :: (aft l c).filter fun x => decide (x ≠ c) && decide (c ∈ aft l x) := by
  refine cLt_unique (clsD_lt l c) (List.pairwise_cons.2 ⟨fun x hx => ?_, (aft_lt l c).sublist List.filter_sublist⟩) fun x => ?_
  · obtain ⟨h1, h2⟩ := List.mem_filter.1 hx
    rw [Bool.and_eq_true, dec_t, dec_t] at h2
    have h3 : x ∈ clsD l c := (clsD_mem hc).2 (.inr ⟨aft_mem.1 h1, aft_mem.1 h2.2⟩)
    rcases cLt_total c x with h | h | h
    · exact h
    · exact absurd h.symm h2.1
    · exact absurd h (fstD_iff.1 hf x h3)
  · rw [clsD_mem hc, List.mem_cons, List.mem_filter, Bool.and_eq_true, dec_t, dec_t, aft_mem, aft_mem]
    by_cases h : x = c
    · simp [h]
    · simp [h]
noncomputable def allP (l : List En) (i : Nat) : List Kn := (((dC l).take i).filter (fstD l)).map (knD l)
theorem allP_all (l : List En) : allP l (dC l).length = allD l := by unfold allP allD; rw [List.take_length]
theorem allP_succ {l : List En} {i : Nat} (hi : i < (dC l).length) : allP l (i + 1) = allP l i ++ (if fstD l ((dC l).getD i default) then [knD l ((dC l).getD i default)] else []) := by
  unfold allP
  rw [take_succD _ _ hi, List.filter_append, List.map_append]
  congr 1
  by_cases h : fstD l ((dC l).getD i default) = true
  · rw [if_pos h, List.filter_cons_of_pos h]; rfl
  · rw [if_neg h, List.filter_cons_of_neg h]; rfl
theorem allP_pre (l : List En) (i : Nat) : allP l i <+: allD l := by
  unfold allP allD
  obtain ⟨t, ht⟩ := List.take_prefix i (dC l)
  refine ⟨(t.filter (fstD l)).map (knD l), ?_⟩
  rw [← List.map_append, ← List.filter_append, ht]
theorem allP_len (l : List En) (i : Nat) : (allP l i).length ≤ l.length := Nat.le_trans (allP_pre l i).length_le (allD_len l)
theorem getD_mem' {m : List Cell} {i : Nat} (hi : i < m.length) : m.getD i default ∈ m := by
  rw [List.getD_eq_getElem?_getD, List.getElem?_eq_getElem hi]
  exact List.getElem_mem hi
theorem take_lt {m : List Cell} (hm : m.Pairwise cLt) {i : Nat} (hi : i < m.length) {x : Cell} : x ∈ m.take i ↔ x ∈ m ∧ cLt x (m.getD i default) := by
  have hsp : m = m.take i ++ (m.getD i default :: m.drop (i + 1)) := by
    rw [List.getD_eq_getElem?_getD, List.getElem?_eq_getElem hi, Option.getD_some, ← List.drop_eq_getElem_cons hi, List.take_append_drop]
  have hp := hm
  rw [hsp, List.pairwise_append] at hp
  obtain ⟨h1, h2, h3⟩ := hp
  constructor
  · intro h
    exact ⟨List.mem_of_mem_take h, h3 x h _ (List.mem_cons_self ..)⟩
  · rintro ⟨h4, h5⟩
    rw [hsp, List.mem_append, List.mem_cons] at h4
    rcases h4 with h4 | h4 | h4
    · exact h4
    · rw [← h4] at h5; exact absurd h5 (cLt_irrefl _)
    · exact absurd (cLt_trans h5 ((List.pairwise_cons.1 h2).1 x h4)) (cLt_irrefl _)
/-- It is in one of the knots found so far just if it is not the first of its own. -/
theorem allP_in {l : List En} {i : Nat} (hi : i < (dC l).length) : (∃ k ∈ allP l i, (dC l).getD i default ∈ k.cells) ↔ fstD l ((dC l).getD i default) = false := by
  have hc := getD_mem' hi
  constructor
  · rintro ⟨k, hk, hck⟩
    unfold allP at hk
    obtain ⟨f, hf, rfl⟩ := List.mem_map.1 hk
    obtain ⟨h1, h2⟩ := List.mem_filter.1 hf
    obtain ⟨h3, h4⟩ := (take_lt (dC_lt l) hi).1 h1
    refine Bool.eq_false_iff.2 fun h5 => ?_
    have := fst_eq h2 h5 h3 hck
    rw [← this] at h4
    exact cLt_irrefl _ h4
  · intro h
    obtain ⟨f, h1, h2, h3, h4, h5⟩ := fst_ex hc
    have h6 : cLt f ((dC l).getD i default) := by
      rcases h5 with h5 | h5
      · rw [h5, h] at h2; cases h2
      · exact h5
    exact ⟨knD l f, List.mem_map.2 ⟨f, List.mem_filter.2 ⟨(take_lt (dC_lt l) hi).2 ⟨h1, h6⟩, h2⟩, rfl⟩, h3⟩
/-! ### of which knot a cell is -/
def ofI (L : List Kn) (c : Cell) : Option Nat := L.findIdx? fun k => decide (c ∈ k.cells)
theorem ofI_none {L : List Kn} {c : Cell} : ofI L c = none ↔ ∀ k ∈ L, c ∉ k.cells := by
  unfold ofI
  rw [List.findIdx?_eq_none_iff]
  simp
theorem ofI_some {L : List Kn} {c : Cell} {n : Nat} (h : ofI L c = some n) : n < L.length ∧ c ∈ (L.getD n default).cells := by
  unfold ofI at h
  rw [List.findIdx?_eq_some_iff_getElem] at h
  obtain ⟨h1, h2, _⟩ := h
  refine ⟨h1, ?_⟩
  rw [List.getD_eq_getElem?_getD, List.getElem?_eq_getElem h1]
  exact of_decide_eq_true h2
theorem ofI_app {L M : List Kn} {c : Cell} : ofI (L ++ M) c = match ofI L c with
    | some n => some n
    | none => (ofI M c).map (· + L.length) := by
  unfold ofI
  rw [List.findIdx?_append]
  cases List.findIdx? (fun k => decide (c ∈ k.cells)) L with
  | none => simp
  | some n => simp
theorem ofI_snoc {L : List Kn} {k : Kn} {c : Cell} (h : ofI L c = none) : ofI (L ++ [k]) c = if c ∈ k.cells then some L.length else none := by
  rw [ofI_app, h]
  unfold ofI
  by_cases hc : c ∈ k.cells
  · simp [hc, List.findIdx?_cons]
  · simp [hc, List.findIdx?_cons]
theorem ofI_snoc' {L : List Kn} {k : Kn} {c : Cell} {n : Nat} (h : ofI L c = some n) : ofI (L ++ [k]) c = some n := by rw [ofI_app, h]
theorem allD_at {l : List En} {n : Nat} (hn : n < (allD l).length) : (allD l).getD n default ∈ allD l := by
  rw [List.getD_eq_getElem?_getD, List.getElem?_eq_getElem hn]
  exact List.getElem_mem hn
theorem ofI_all {l : List En} {c : Cell} (hc : c ∈ dC l) : ∃ n, ofI (allD l) c = some n ∧ n < (allD l).length ∧ (allD l).getD n default = knD l c := by
  obtain ⟨k, hk, hck⟩ := allD_in hc
  cases h : ofI (allD l) c with
  | none => exact absurd hck (ofI_none.1 h k hk)
  | some n =>
    obtain ⟨h1, h2⟩ := ofI_some h
    exact ⟨n, rfl, h1, (allD_of (allD_at h1) h2).2⟩
theorem ofI_at {l : List En} {c : Cell} {n m : Nat} (h : ofI (allD l) c = some n) (hm : m < (allD l).length) (hc : c ∈ ((allD l).getD m default).cells) : n = m := by
  obtain ⟨h1, h2⟩ := ofI_some h
  have h3 := allD_uniq (allD_at h1) h2 (allD_at hm) hc
  rw [List.getD_eq_getElem?_getD, List.getD_eq_getElem?_getD, List.getElem?_eq_getElem h1, List.getElem?_eq_getElem hm] at h3
  exact (List.getElem_inj (allD_nodup l)).1 h3
open Classical in
/-- Which are told. -/
noncomputable def toldB (l : List En) (out : List Kn) : List Bool := (allD l).map fun k => decide (k ∈ out)
theorem toldB_get {l : List En} {out : List Kn} {n : Nat} (hn : n < (allD l).length) : (toldB l out).getD n default = true ↔ (allD l).getD n default ∈ out := by
  unfold toldB
  rw [List.getD_eq_getElem?_getD, List.getD_eq_getElem?_getD, List.getElem?_map, List.getElem?_eq_getElem hn]
  simp
theorem toldB_set {l : List En} {out : List Kn} {n : Nat} (hn : n < (allD l).length) : toldB l (out ++ [(allD l).getD n default]) = (toldB l out).set n true := by
  apply List.ext_getElem?
  intro j
  unfold toldB
  rw [List.getElem?_set, List.getElem?_map, List.getElem?_map, List.length_map]
  by_cases hj : n = j
  · subst hj
    rw [if_pos rfl, if_pos hn, List.getElem?_eq_getElem hn]
    simp [List.getD_eq_getElem?_getD, List.getElem?_eq_getElem hn]
  · rw [if_neg hj]
    rcases Nat.lt_or_ge j (allD l).length with h | h
    · rw [List.getElem?_eq_getElem h]
      simp only [Option.map_some, Option.some.injEq, List.mem_append, List.mem_singleton, decide_eq_decide]
      refine ⟨fun h1 => h1.resolve_right fun h2 => hj ?_, .inl⟩
      rw [List.getD_eq_getElem?_getD, List.getElem?_eq_getElem hn, Option.getD_some] at h2
      exact ((List.getElem_inj (allD_nodup l)).1 h2).symm
    · rw [List.getElem?_eq_none h]; rfl
/-- Ready, as the program asks it. -/
theorem rdyD_of {l : List En} {out : List Kn} (ho : ∀ k ∈ out, k ∈ allD l) {n : Nat} (hn : n < (allD l).length) {r : Cell} (hr : r ∈ dC l) {m : Nat} (hm : ofI (allD l) r = some m) : ((∃ k ∈ out, r ∈ k.cells) ∨ r ∈ ((allD l).getD n default).cells) ↔ (m = n ∨ (toldB l out).getD m default = true) := by
  obtain ⟨h1, h2⟩ := ofI_some hm
  rw [toldB_get h1]
  constructor
  · rintro (⟨k, hk, hrk⟩ | h)
    · exact .inr (allD_uniq (allD_at h1) h2 (ho k hk) hrk ▸ hk)
    · exact .inl (ofI_at hm hn h)
  · rintro (rfl | h)
    · exact .inr h2
    · exact .inl ⟨_, h, h2⟩
end Go.Proofs.Ytkgjfcjciigcgaa

/-
  Knots where nothing goes round; rings; values alone: plain lists.
-/
namespace Go.Proofs.Ytkgjfcjciigcgaa
open Go.Proofs.Ytkgjfcjciigcgaa.Sl Go.RowKit
set_option linter.unusedVariables false
set_option linter.unusedSimpArgs false
set_option maxRecDepth 100000

/-- Nothing goes round: each cell is a knot. -/
theorem clsD_one {l : List En} (h : ∀ a, ¬ Rch l a a) {c : Cell} (hc : c ∈ dC l) : clsD l c = [c] :=
  cLt_unique (clsD_lt l c) (List.pairwise_singleton _ _) fun x => by
    rw [clsD_mem hc, List.mem_singleton]
    exact ⟨fun h1 => h1.resolve_right fun h2 => h c (h2.1.trans h2.2), .inl⟩
theorem knD_one {l : List En} (h : ∀ a, ¬ Rch l a a) {c : Cell} (hc : c ∈ dC l) : knD l c = ⟨[c], false⟩ := by
  unfold knD rndD
  rw [clsD_one h hc]
  congr 1
  exact dec_no (h c)
theorem allD_one {l : List En} (h : ∀ a, ¬ Rch l a a) : allD l = (dC l).map fun c => ⟨[c], false⟩ := by
  unfold allD
  have h1 : (dC l).filter (fstD l) = dC l := by
    rw [List.filter_eq_self]
    intro c hc
    rw [fstD_iff, clsD_one h hc]
    intro x hx
    rw [List.mem_singleton.1 hx]
    exact cLt_irrefl c
  rw [h1]
  exact List.map_congr_left fun c hc => knD_one h hc
/-- Of values alone. -/
theorem no_rch {l : List En} (h : ∀ c, rdD l c = []) (a b : Cell) : ¬ Rch l a b := by
  intro hr
  have key : ∀ {a b : Cell}, b ∉ rrD l a := fun {a b} hb => by
    have := (rrD_mem.1 hb).2
    rw [h] at this
    cases this
  cases hr with
  | one h1 => exact key h1
  | more _ h1 => exact key h1
theorem ordD_alone {l : List En} (h : ∀ c, rdD l c = []) : ∀ n, n ≤ (allD l).length → ordD l n = (allD l).take n
  | 0, _ => by rw [List.take_zero]; rfl
  | n + 1, hn => by
    have ih := ordD_alone h n (by omega)
    obtain ⟨k, h1, h2⟩ := nxtD_ex (l := l) (n := n) (by omega)
    rw [h2, ih, List.take_succ_eq_append_getElem (by omega)]
    congr 2
    unfold nxtD at h1
    rw [List.find?_eq_some_iff_getElem] at h1
    obtain ⟨hcan, i, hi, hik, hj⟩ := h1
    have hrdy : ∀ k, rdyD l (ordD l n) k = true := fun k => by
      rw [rdyD_iff]
      intro c _ r hr
      rw [h] at hr
      cases hr
    have hin : ∀ j (hj : j < (allD l).length), canD l (ordD l n) (allD l)[j] = true ↔ n ≤ j := fun j hj => by
      unfold canD
      rw [hrdy, Bool.and_true, dec_t, ih]
      constructor
      · intro h3
        refine Nat.le_of_not_lt fun h4 => h3 ?_
        rw [List.mem_take_iff_getElem]
        exact ⟨j, by omega, rfl⟩
      · intro h3 h4
        rw [List.mem_take_iff_getElem] at h4
        obtain ⟨m, hm, he⟩ := h4
        have := (List.getElem_inj (allD_nodup l)).1 he
        omega
    have h5 : n ≤ i := (hin i hi).1 (by rw [hik]; exact hcan)
    rcases Nat.lt_or_ge n i with h6 | h6
    · have := hj n h6
      have h7 := (hin n (by omega)).2 (Nat.le_refl _)
      rw [h7] at this
      cases this
    · have : i = n := by omega
      subst this
      exact hik.symm
theorem orD_alone {l : List En} (h : ∀ c, rdD l c = []) : orD l = (dC l).map fun c => ⟨[c], false⟩ := by
  unfold orD
  rw [ordD_alone h _ (Nat.le_refl _), List.take_length, allD_one fun a => no_rch h a a]
/-! ### rings -/
def cRg (s : ByteArray) (i : Nat) : Cell := ⟨s, 1 + (i : Int), 1⟩
theorem cRg_inj {s : ByteArray} {i j : Nat} (h : cRg s i = cRg s j) : i = j := by
  injection h with _ h2 _
  omega
def nxR (n i : Nat) : Nat := if i + 1 = n then 0 else i + 1
theorem nxR_eq {n i : Nat} (hi : i < n) : nxR n i = (i + 1) % n := by
  unfold nxR
  split
  · rename_i h; rw [h, Nat.mod_self]
  · rw [Nat.mod_eq_of_lt (by omega)]
structure Rg (l : List En) (s : ByteArray) (n cut : Nat) (op : Bool) : Prop where
  cutL : cut < n
  cells : dC l = (List.range n).map (cRg s)
  reads : ∀ i, i < n → rdD l (cRg s i) = if op = true ∧ i = cut then [] else [cRg s (nxR n i)]
section
variable {l : List En} {s : ByteArray} {n cut : Nat} {op : Bool}
theorem Rg.mem (h : Rg l s n cut op) {c : Cell} : c ∈ dC l ↔ ∃ i, i < n ∧ c = cRg s i := by
  rw [h.cells, List.mem_map]
  constructor
  · rintro ⟨i, hi, rfl⟩
    exact ⟨i, List.mem_range.1 hi, rfl⟩
  · rintro ⟨i, hi, rfl⟩
    exact ⟨i, List.mem_range.2 hi, rfl⟩
theorem Rg.step (h : Rg l s n cut op) {i : Nat} (hi : i < n) (ho : ¬ (op = true ∧ i = cut)) : Rch l (cRg s (nxR n i)) (cRg s i) := .one (rr_of_rd (by rw [h.reads i hi, if_neg ho]; exact List.mem_singleton.2 rfl))
theorem Rg.up (h : Rg l s n cut false) {i : Nat} : ∀ {j : Nat}, i < j → j < n → Rch l (cRg s j) (cRg s i)
  | 0, h1, _ => absurd h1 (Nat.not_lt_zero _)
  | j + 1, h1, h2 => by
    have h3 := h.step (i := j) (by omega) (by simp)
    unfold nxR at h3
    rw [if_neg (by omega)] at h3
    rcases Nat.lt_or_ge i j with h4 | h4
    · exact h3.trans (h.up h4 (by omega))
    · rw [show i = j by omega]; exact h3
theorem Rg.all (h : Rg l s n cut false) {i j : Nat} (hi : i < n) (hj : j < n) : Rch l (cRg s j) (cRg s i) := by
  rcases Nat.lt_or_ge i j with h4 | h4
  · exact h.up h4 hj
  · have h3 := h.step (i := n - 1) (by omega) (by simp)
    unfold nxR at h3
    rw [if_pos (by omega)] at h3
    have h5 : Rch l (cRg s 0) (cRg s i) := by
      rcases Nat.lt_or_ge i (n - 1) with h6 | h6
      · exact h3.trans (h.up h6 (by omega))
      · rw [show i = n - 1 by omega]; exact h3
    rcases Nat.eq_zero_or_pos j with rfl | h6
    · exact h5
    · exact (h.up h6 hj).trans h5
theorem Rg.closed (h : Rg l s n cut false) : orD l = [⟨dC l, true⟩] := by
  have hn := h.cutL
  have hcls : ∀ i, i < n → knD l (cRg s i) = ⟨dC l, true⟩ := fun i hi => by
    unfold knD rndD clsD
    congr 1
    · rw [List.filter_eq_self]
      intro x hx
      obtain ⟨j, hj, rfl⟩ := h.mem.1 hx
      exact dec_of (.inr ⟨h.all hj hi, h.all hi hj⟩)
    · exact dec_of (h.all hi hi)
  have hall : ∀ k, k ∈ allD l → k = ⟨dC l, true⟩ := fun k hk => by
    obtain ⟨f, h1, h2, rfl⟩ := allD_mem.1 hk
    obtain ⟨j, hj, rfl⟩ := h.mem.1 h1
    exact hcls j hj
  have hex : (⟨dC l, true⟩ : Kn) ∈ allD l := by
    obtain ⟨k, hk, _⟩ := allD_in (h.mem.2 ⟨0, by omega, rfl⟩)
    exact hall k hk ▸ hk
  have hor : ∀ k, k ∈ orD l ↔ k = ⟨dC l, true⟩ := fun k => by
    rw [orD_mem]
    exact ⟨hall k, fun e => e ▸ hex⟩
  have hnd : (orD l).Nodup := ordD_nodup l _
  cases he : orD l with
  | nil => have := (hor _).2 rfl; rw [he] at this; cases this
  | cons a r =>
    have ha := (hor a).1 (by rw [he]; exact List.mem_cons_self ..)
    cases r with
    | nil => rw [ha]
    | cons b t =>
      have hb := (hor b).1 (by rw [he]; simp)
      rw [he, List.nodup_cons] at hnd
      exact absurd (by rw [ha, hb]; exact List.mem_cons_self ..) hnd.1
/-- How far it is to the one that is cut. -/
def dsR (n cut i : Nat) : Nat := if i ≤ cut then cut - i else cut + n - i
theorem dsR_lt {i : Nat} (hi : i < n) (hc : cut < n) : dsR n cut i < n := by unfold dsR; split <;> omega
theorem dsR_dsR {i : Nat} (hi : i < n) (hc : cut < n) : dsR n cut (dsR n cut i) = i := by
  unfold dsR
  by_cases h : i ≤ cut
  · rw [if_pos h, if_pos (by omega)]; omega
  · rw [if_neg h, if_neg (by omega)]; omega
theorem dsR_nx {i : Nat} (hi : i < n) (hc : cut < n) (hn : i ≠ cut) : dsR n cut i = dsR n cut (nxR n i) + 1 := by
  unfold dsR nxR
  by_cases h : i + 1 = n
  · rw [if_pos h, if_pos (Nat.zero_le _), if_neg (by omega)]; omega
  · rw [if_neg h]
    by_cases h2 : i ≤ cut
    · rw [if_pos h2, if_pos (by omega)]; omega
    · rw [if_neg h2, if_neg (by omega)]; omega
theorem Rg.rch (h : Rg l s n cut true) {a b : Cell} (hr : Rch l a b) : ∃ i j, i < n ∧ j < n ∧ a = cRg s i ∧ b = cRg s j ∧ dsR n cut i < dsR n cut j := by
  have hc := h.cutL
  have one : ∀ {a b : Cell}, b ∈ rrD l a → ∃ i j, i < n ∧ j < n ∧ a = cRg s i ∧ b = cRg s j ∧ dsR n cut i < dsR n cut j := fun {a b} hb => by
    obtain ⟨h1, h2⟩ := rrD_mem.1 hb
    obtain ⟨j, hj, rfl⟩ := h.mem.1 h1
    rw [h.reads j hj] at h2
    by_cases hjc : j = cut
    · rw [if_pos ⟨rfl, hjc⟩] at h2; cases h2
    · rw [if_neg (fun h3 => hjc h3.2)] at h2
      have := dsR_nx hj hc hjc
      refine ⟨nxR n j, j, ?_, hj, List.mem_singleton.1 h2, rfl, by omega⟩
      unfold nxR
      split <;> omega
  induction hr with
  | one hb => exact one hb
  | more _ hb ih =>
    obtain ⟨i, j, hi, hj, ha, hb', hlt⟩ := ih
    obtain ⟨i', j', hi', hj', ha', hc', hlt'⟩ := one hb
    have : j = i' := cRg_inj (hb'.symm.trans ha')
    subst this
    exact ⟨i, j', hi, hj', ha, hc', by omega⟩
theorem Rg.irr (h : Rg l s n cut true) (a : Cell) : ¬ Rch l a a := fun hr => by
  obtain ⟨i, j, _, _, h1, h2, h3⟩ := h.rch hr
  have := cRg_inj (h1.symm.trans h2)
  subst this
  omega
theorem Rg.allD (h : Rg l s n cut true) : allD l = (List.range n).map fun i => ⟨[cRg s i], false⟩ := by
  rw [allD_one h.irr, h.cells, List.map_map]
  rfl
theorem Rg.ordD (h : Rg l s n cut true) : ∀ k, k ≤ n → ordD l k = (List.range k).map fun i => ⟨[cRg s (dsR n cut i)], false⟩
  | 0, _ => rfl
  | k + 1, hk => by
    have hc := h.cutL
    have ih := h.ordD k (by omega)
    obtain ⟨x, h1, h2⟩ := nxtD_ex (l := l) (n := k) (by rw [h.allD]; simp; omega)
    rw [h2, ih, List.range_succ, List.map_append, List.map_singleton]
    congr 2
    obtain ⟨h3, h4, h5⟩ := nxtD_some h1
    rw [h.allD, List.mem_map] at h3
    obtain ⟨j, hj, rfl⟩ := h3
    have hj := List.mem_range.1 hj
    have hge : k ≤ dsR n cut j := Nat.le_of_not_lt fun h6 => h4 (by
      rw [ih, List.mem_map]
      exact ⟨dsR n cut j, List.mem_range.2 h6, by rw [dsR_dsR hj hc]⟩)
    have hle : dsR n cut j ≤ k := by
      by_cases hjc : j = cut
      · subst hjc
        unfold dsR
        rw [if_pos (Nat.le_refl _)]
        omega
      · have h6 := (rdyD_iff.1 h5) (cRg s j) (List.mem_singleton.2 rfl) (cRg s (nxR n j)) (by
          rw [h.reads j hj, if_neg (fun h3 => hjc h3.2)]
          exact List.mem_singleton.2 rfl)
        have h7 := dsR_nx hj hc hjc
        rcases h6 with ⟨m, hm, hm2⟩ | h6
        · rw [ih, List.mem_map] at hm
          obtain ⟨i, hi, rfl⟩ := hm
          have hi := List.mem_range.1 hi
          have h8 := cRg_inj (List.mem_singleton.1 hm2)
          rw [h8, dsR_dsR (by omega) hc] at h7
          omega
        · have h8 := cRg_inj (List.mem_singleton.1 h6)
          rw [h8] at h7
          omega
    have : dsR n cut j = k := by omega
    rw [← this, dsR_dsR hj hc]
theorem Rg.open (h : Rg l s n cut true) : orD l = (List.range n).map fun i => ⟨[cRg s (dsR n cut i)], false⟩ := by
  unfold orD
  have : (Ytkgjfcjciigcgaa.allD l).length = n := by rw [h.allD]; simp
  rw [this, h.ordD n (Nat.le_refl _)]
end
/-! ### what any order is -/
def tldD (out : List Kn) : List Cell := out.flatMap Kn.cells
theorem tldD_mem {out : List Kn} {c : Cell} : c ∈ tldD out ↔ ∃ k ∈ out, c ∈ k.cells := List.mem_flatMap
theorem orD_take {l : List En} {i : Nat} (hi : i ≤ (orD l).length) : (orD l).take i = ordD l i := by
  rw [orD_len] at hi
  have h := ordD_pre (l := l) hi
  have h2 := List.prefix_iff_eq_take.1 h
  rw [ordD_len hi] at h2
  exact h2.symm
theorem orD_at {l : List En} {i : Nat} (hi : i < (orD l).length) : nxtD l (ordD l i) = some ((orD l).getD i default) := by
  have hi' := hi
  rw [orD_len] at hi'
  obtain ⟨k, h1, h2⟩ := nxtD_ex hi'
  rw [h1]
  have h3 := orD_take (l := l) (i := i + 1) hi
  rw [List.take_succ_eq_append_getElem hi, orD_take (by omega), h2] at h3
  have h4 := List.append_cancel_left h3
  rw [List.getD_eq_getElem?_getD, List.getElem?_eq_getElem hi, Option.getD_some]
  injection h4 with h5 _
  rw [h5]
theorem orD_ok {l : List En} {i : Nat} (hi : i < (orD l).length) : ((orD l).getD i default).cells ≠ [] ∧ ∀ c ∈ ((orD l).getD i default).cells, c ∈ dC l ∧ c ∉ tldD (ordD l i) ∧ (∀ r ∈ rdD l c, r ∈ tldD (ordD l i) ∨ r ∈ ((orD l).getD i default).cells) ∧ ((orD l).getD i default).rnd = decide (c ∈ aft l c) := by
  obtain ⟨h1, h2, h3⟩ := nxtD_some (orD_at hi)
  refine ⟨allD_ne h1, fun c hc => ?_⟩
  obtain ⟨h4, h5⟩ := allD_of h1 hc
  refine ⟨h4, fun h => ?_, fun r hr => ?_, ?_⟩
  · obtain ⟨k, hk, hck⟩ := tldD_mem.1 h
    exact h2 (allD_uniq (ordD_mem hk) hck h1 hc ▸ hk)
  · rcases (rdyD_iff.1 h3) c hc r hr with h6 | h6
    · exact .inl (tldD_mem.2 h6)
    · exact .inr h6
  · rw [h5]
    unfold knD rndD
    dsimp only
    rw [Bool.eq_iff_iff, dec_t, dec_t, aft_mem]
theorem tldD_len (l : List En) : (tldD (orD l)).length = (dC l).length := by
  have hn : (tldD (orD l)).Nodup := by
    unfold tldD List.Nodup
    rw [List.pairwise_flatMap]
    refine ⟨fun k hk => ?_, ?_⟩
    · obtain ⟨f, h1, h2, rfl⟩ := allD_mem.1 (orD_mem.1 hk)
      exact cLt_nodup (clsD_lt l f)
    · refine List.Pairwise.imp_of_mem ?_ (ordD_nodup l _)
      intro a b ha hb hab x hx y hy e
      subst e
      exact hab (allD_uniq (ordD_mem ha) hx (ordD_mem hb) hy)
  refine ((List.perm_ext_iff_of_nodup hn (cLt_nodup (dC_lt l))).2 fun c => ?_).length_eq
  rw [tldD_mem]
  constructor
  · rintro ⟨k, hk, hc⟩
    exact (allD_of (orD_mem.1 hk) hc).1
  · intro hc
    obtain ⟨k, hk, hck⟩ := allD_in hc
    exact ⟨k, orD_mem.2 hk, hck⟩
theorem tldD_le {l : List En} {n : Nat} (hn : n ≤ (orD l).length) : (tldD (ordD l n)).length ≤ l.length := by
  have h := ordD_pre (l := l) (n := n) (m := (allD l).length) (by rwa [orD_len] at hn)
  obtain ⟨t, ht⟩ := h
  have h2 : tldD (orD l) = tldD (ordD l n) ++ tldD t := by
    unfold orD
    rw [← ht]
    unfold tldD
    rw [List.flatMap_append]
  have h3 := tldD_len l
  rw [h2, List.length_append] at h3
  have := dC_len l
  omega
/-! ### entries that stand in order -/
theorem lastIns_end {l : List En} {e : En} (h : ∀ x ∈ l, cLt x.cell e.cell) : lastIns l e = l ++ [e] := by
  induction l with
  | nil => rfl
  | cons x r ih =>
    rw [lastIns_cons, if_pos ((ltC_iff _ _).2 (h x (List.mem_cons_self ..))), ih fun y hy => h y (List.mem_cons_of_mem _ hy)]
    rfl
theorem lastR_id {l : List En} (h : SrtE l) : lastR l = l := by
  have key : ∀ (l s : List En), SrtE (s ++ l) → l.foldl lastIns s = s ++ l := by
    intro l
    induction l with
    | nil => intro s _; rw [List.append_nil]; rfl
    | cons x r ih =>
      intro s h
      have h2 : ∀ y ∈ s, cLt y.cell x.cell := fun y hy => by
        unfold SrtE at h
        rw [List.map_append, List.pairwise_append] at h
        exact h.2.2 _ (List.mem_map.2 ⟨y, hy, rfl⟩) _ (List.mem_map.2 ⟨x, List.mem_cons_self .., rfl⟩)
      rw [List.foldl_cons, lastIns_end h2, ih]
      · rw [List.append_assoc]; rfl
      · rw [List.append_assoc]; exact h
  exact key l [] h
theorem dC_id {l : List En} (h : SrtE l) : dC l = l.map En.cell := by unfold dC; rw [lastR_id h]
theorem lkE_of {l : List En} (h : SrtE l) {e : En} (he : e ∈ l) : lkE l e.cell = some e := by
  induction l with
  | nil => cases he
  | cons x r ih =>
    have h' := List.pairwise_cons.1 h
    unfold lkE
    rcases List.mem_cons.1 he with rfl | he
    · rw [if_pos rfl]
    · rw [if_neg, ih h'.2 he]
      intro e2
      have := h'.1 e.cell (List.mem_map.2 ⟨e, he, rfl⟩)
      rw [e2] at this
      exact cLt_irrefl _ this
theorem rdD_id {l : List En} (h : SrtE l) {e : En} (he : e ∈ l) : rdD l e.cell = rdE l e := by
  unfold rdD
  rw [lastR_id h, lkE_of h he]
theorem rdD_val {l : List En} (h : ∀ e ∈ l, e.fm = false) (c : Cell) : rdD l c = [] := by
  unfold rdD
  cases h2 : lkE (lastR l) c with
  | none => rfl
  | some e =>
    have := h e (lastR_mem l e (lkE_mem h2).1)
    show rdE l e = []
    unfold rdE
    rw [this]
    rfl
/-! ### a ring of formulas -/
def sS : ByteArray := ⟨#[115]⟩
def ringE (n cut : Nat) (op : Bool) (i : Nat) : En := ⟨cRg sS i, !(op && decide (i = cut)), nCell (cRg sS (nxR n i)), none, 0, ⟨0, 0, .empty⟩⟩
def ringL (n cut : Nat) (op : Bool) : List En := (List.range n).map (ringE n cut op)
theorem cRg_lt {s : ByteArray} {i j : Nat} (h : i < j) : cLt (cRg s i) (cRg s j) := by
  refine .inr ⟨rfl, .inr ⟨rfl, ?_⟩⟩
  show (1 + (i : Int)) < 1 + (j : Int)
  omega
theorem ring_srt (n cut : Nat) (op : Bool) : SrtE (ringL n cut op) := by
  unfold SrtE ringL
  rw [List.map_map, List.pairwise_map]
  exact List.pairwise_lt_range.imp fun h => cRg_lt h
theorem right_cRg {i : Nat} (h : i < 20) : rightCell (cRg sS i) = true := by
  have : ∀ i, i < 20 → rightCell (cRg sS i) = true := by decide +kernel
  exact this i h
theorem ring_Rg {n cut : Nat} (op : Bool) (hn : n ≤ 20) (hc : cut < n) : Rg (ringL n cut op) sS n cut op := by
  have hs := ring_srt n cut op
  have hd : dC (ringL n cut op) = (List.range n).map (cRg sS) := by
    rw [dC_id hs]
    unfold ringL
    rw [List.map_map]
    rfl
  refine ⟨hc, hd, fun i hi => ?_⟩
  have h1 := rdD_id hs (e := ringE n cut op i) (List.mem_map.2 ⟨i, List.mem_range.2 hi, rfl⟩)
  have h2 : (ringE n cut op i).cell = cRg sS i := rfl
  rw [h2] at h1
  rw [h1]
  unfold rdE
  have h3 : (ringE n cut op i).fm = !(op && decide (i = cut)) := rfl
  have h4 : (ringE n cut op i).node = nCell (cRg sS (nxR n i)) := rfl
  rw [h3, h4]
  by_cases h5 : op = true ∧ i = cut
  · rw [if_pos h5, h5.1, decide_eq_true h5.2]; rfl
  · rw [if_neg h5, if_pos (by
      by_cases h6 : op = true
      · have : ¬ i = cut := fun h7 => h5 ⟨h6, h7⟩
        simp [this]
      · simp [h6])]
    have h6 : nxR n i < n := by unfold nxR; split <;> omega
    rw [cells_cell (right_cRg (by omega)), hd]
    have : cRg sS (nxR n i) ∈ (List.range n).map (cRg sS) := List.mem_map.2 ⟨_, List.mem_range.2 h6, rfl⟩
    exact List.filter_cons_of_pos (p := fun c => decide (c ∈ (List.range n).map (cRg sS))) (decide_eq_true this)
end Go.Proofs.Ytkgjfcjciigcgaa

/-
  Knots in memory: their data.
-/
namespace Go.Proofs.Ytkgjfcjciigcgaa
open Go.Proofs.Ytkgjfcjciigcgaa.Sl Go.RowKit
set_option linter.unusedVariables false
set_option linter.unusedSimpArgs false
set_option linter.unusedSectionVars false
set_option maxRecDepth 100000

section
variable {P : Program} {T : Tab} {N : Nat} {F : Fl} {l : List Oper} {o : Oper} {q : Bool} {w0 : World} {M : List Nat} {K A : Kl} {v : Value}
theorem Sl.yv_idxF {k : Nat} {p : Option Addr} {n : Nat} {e : Nat → List Value} (hT : TabOk P T) (hz : Fz A fun W => SlA W k p n e) (hk : Kin A K) {t : TypeId} {x ix : Operand} {px pi : Bool} {kk : IntKind} {c i : Nat} {et : TypeId} {dd : TyD} {s bs : Nat} {z : List Value} (hg : Gok l F o q) (ho : o.op = .indexAddr t x ix)
    (hx : Fo F x = some (px, .slice p n c)) (hi : Fo F ix = some (pi, .int kk (i : Int))) (ht : ty T t = some ⟨.slice et, s, bs, z⟩) (he : ty T et = some dd) (hk' : dd.size = k) (hp : q = true → px = true) (hp' : q = true → pi = true) (hb : q = true → i < n) :
    Yv P (St w0 M K) l N F o q (.pointer (some ⟨pb p, po p + i * k, none⟩)) :=
  ⟨hg, fun a hF hq W hW => (yv_idxA (C := St W [] []) hT (hz.at' hW hk) hg ho hx hi ht he hk' hp hp' hb).2 a hF hq W (St.refl W [])⟩
theorem Sl.yv_ldF {k : Nat} {p : Option Addr} {n : Nat} {e : Nat → List Value} (hT : TabOk P T) (hz : Fz A fun W => SlA W k p n e) (hk : Kin A K) {t : TypeId} {x : Operand} {px : Bool} {i : Nat} (hg : Gok l F o q) (ho : o.op = .load t x)
    (hx : Fo F x = some (px, .pointer (some ⟨pb p, po p + i * k, none⟩))) (hp : q = true → px = true) (hi : q = true → i < n) (hl : q = true → Lds T t (e i) 0 v) : Yv P (St w0 M K) l N F o q v :=
  ⟨hg, fun a hF hq W hW => (yv_ldA0 (w0 := W) (M := []) (K := []) hT (hz.at' hW hk) (fun _ => List.not_mem_nil) hg ho hx hp hi hl).2 a hF hq W (St.refl W [])⟩
end
theorem ct_ContD (w : World) (l : List En) (x c : Cell) (p : Option Addr) (cap : Nat) (hs : SlA w 3 p (aft l x).length (fun i => ((aft l x).getD i default).l)) (hl : l.length ≤ 1000) : Calls Try.prog 169 #[.slice p (aft l x).length cap, .agg c.l.toArray] w fun e w' => e = .returned (.bool (decide (c ∈ aft l x))) ∧ Bl w w' :=
  ct_ContainsC w (aft l x) c p _ cap rfl hs (by have := aft_len l x; omega)
theorem rndD_aft (l : List En) (c : Cell) : rndD l c = decide (c ∈ aft l c) := by
  unfold rndD
  rw [Bool.eq_iff_iff, dec_t, dec_t, aft_mem]
def vN (n : Int) : Value := .int .i64 n
theorem zero_n (w : World) : (zeroValue 3).run Try.prog w = .ok (vN 0) w := Try.zeroValue3 w
/-- Of a knot, so far. -/
noncomputable def knL (l : List En) (c : Cell) (j : Nat) : List Cell := c :: ((aft l c).take j).filter fun x => decide (x ≠ c) && decide (c ∈ aft l x)
theorem knL_zero (l : List En) (c : Cell) : knL l c 0 = [c] := rfl
theorem knL_all {l : List En} {c : Cell} (hc : c ∈ dC l) (hf : fstD l c = true) : knL l c (aft l c).length = clsD l c := by
  unfold knL
  rw [List.take_length, cls_fst hc hf]
theorem knL_yes {l : List En} {c : Cell} {j : Nat} (hj : j < (aft l c).length) (h : (aft l c).getD j default ≠ c ∧ c ∈ aft l ((aft l c).getD j default)) : knL l c (j + 1) = knL l c j ++ [(aft l c).getD j default] := by
  unfold knL
  rw [take_succD _ _ hj, List.filter_append, fil_pos (by rw [Bool.and_eq_true, decide_eq_true_eq, decide_eq_true_eq]; exact h)]
  rfl
theorem knL_no {l : List En} {c : Cell} {j : Nat} (hj : j < (aft l c).length) (h : ¬ ((aft l c).getD j default ≠ c ∧ c ∈ aft l ((aft l c).getD j default))) : knL l c (j + 1) = knL l c j := by
  unfold knL
  rw [take_succD _ _ hj, List.filter_append, fil_neg (by rw [Bool.and_eq_true, decide_eq_true_eq, decide_eq_true_eq]; exact h), List.append_nil]
theorem knL_len (l : List En) (c : Cell) (j : Nat) : (knL l c j).length ≤ l.length + 1 := by
  unfold knL
  have h1 := Nat.le_trans (List.length_filter_le (fun x => decide (x ≠ c) && decide (c ∈ aft l x)) ((aft l c).take j)) (Nat.le_trans (List.length_take_le' ..) (aft_len l c))
  simp only [List.length_cons]
  omega
theorem ofI_next {l : List En} {i : Nat} {c : Cell} (hi : i < (dC l).length) (hc : (dC l).getD i default = c) (hf : fstD l c = true) (y : Cell) : ofI (allP l i ++ [knD l c]) y = if y ∈ clsD l c then some (allP l i).length else ofI (allP l i) y := by
  have hcD : c ∈ dC l := hc ▸ getD_mem (dC l) i hi
  have hpin := allP_in (l := l) hi
  rw [hc] at hpin
  by_cases hy : y ∈ clsD l c
  · rw [if_pos hy]
    have hn : ofI (allP l i) y = none := ofI_none.2 fun k hk hyk => by
      have hkA := (allP_pre l i).subset hk
      have h1 := (allD_of hkA hyk).2
      rw [knD_eq hcD hy] at h1
      have h2 := hpin.1 ⟨k, hk, by rw [h1]; exact clsD_self hcD⟩
      rw [hf] at h2
      cases h2
    rw [ofI_snoc hn]
    exact if_pos hy
  · rw [if_neg hy]
    cases hn : ofI (allP l i) y with
    | none =>
      rw [ofI_snoc hn]
      exact if_neg hy
    | some n => rw [ofI_snoc' hn]
structure S3 where
  j : Nat
  m : List (Cell × Int)
  es : Array MapEntry
  ck : Nat
  p : Option Nat
  c : Nat
  sp : List Value
structure S3Ok (l : List En) (i n : Nat) (c : Cell) (x : S3) : Prop where
  le : x.j ≤ (aft l c).length
  mp : Mp kCell vN x.m x.es x.ck
  lk : ∀ y, lkM x.m y = if y ∈ knL l c x.j then some (n : Int) else (ofI (allP l i) y).map fun n => (n : Int)
  ow : Ow x.p (knL l c x.j).length x.c 3 (cat Cell.l (knL l c x.j)) x.sp
structure KP where
  p : Option Addr
  kn : Kn
  c : Nat
instance : Inhabited KP := ⟨⟨none, default, 0⟩⟩
def KP.l (k : KP) : List Value := [.slice k.p k.kn.cells.length k.c, .bool k.kn.rnd]
theorem len_kp (k : KP) : k.l.length = 2 := rfl
def KsZ (Ka : Kl) (ks : List KP) : Prop := ∀ j, j < ks.length → Fz Ka fun W => SlA W 3 (ks.getD j default).p (ks.getD j default).kn.cells.length (fun i => ((ks.getD j default).kn.cells.getD i default).l)
structure SpS where
  m : List (Cell × Int)
  es : Array MapEntry
  ck : Nat
  q : Option Nat
  c : Nat
  ks : List KP
  sp : List Value
  Ka : Kl
structure SpOk (l : List En) (L : List Kn) (x : SpS) : Prop where
  mp : Mp kCell vN x.m x.es x.ck
  lk : ∀ y, lkM x.m y = (ofI L y).map fun n => (n : Int)
  kn : x.ks.map KP.kn = L
  ow : Ow x.q x.ks.length x.c 2 (cat KP.l x.ks) x.sp
  rows : KsZ x.Ka x.ks
  wr : ∀ e ∈ x.Ka, e.2.1 = true
def oK (g go gm : Nat) (x : SpS) : Kl := [(go, true, .cells [.pointer (some (ad g)), .map (some gm), .slice (x.q.map ad) x.ks.length x.c, .slice none 0 0].toArray 217 (0, 0)), (gm, true, .map x.es x.ck)]
def spS0 : SpS := ⟨[], #[], 0, none, 0, [], [], []⟩
theorem SpOk.start (l : List En) : SpOk l [] spS0 := ⟨Mp.nil, fun y => rfl, rfl, Ow.none0, fun j hj => absurd hj (Nat.not_lt_zero _), fun e he => absurd he List.not_mem_nil⟩
/-- Of the cells told of in i rounds, what hangs on each. -/
structure AfM (l : List En) (i : Nat) (mA : List (Cell × Value)) (eA : Array MapEntry) (kA : Nat) (Kb : Kl) : Prop where
  mp : Mp kCell idV mA eA kA
  row : ∀ x ∈ (dC l).take i, ∃ p c, mgetD mA x nilS = .slice p (aft l x).length c ∧ Fz Kb fun W => SlA W 3 p (aft l x).length (fun j => ((aft l x).getD j default).l)
theorem AfM.step {l : List En} {i : Nat} {mA : List (Cell × Value)} {eA eA' : Array MapEntry} {kA kA' : Nat} {Kb : Kl} (h : AfM l i mA eA kA Kb) (hi : i < (dC l).length) {p : Option Nat} {c : Nat} {sp : List Value} (hw : Ow p (aft l ((dC l).getD i default)).length c 3 (cat Cell.l (aft l ((dC l).getD i default))) sp)
    (hm : Mp kCell idV (mset mA ((dC l).getD i default) (.slice (p.map ad) (aft l ((dC l).getD i default)).length c)) eA' kA') : AfM l (i + 1) (mset mA ((dC l).getD i default) (.slice (p.map ad) (aft l ((dC l).getD i default)).length c)) eA' kA' (ow p true (cat Cell.l (aft l ((dC l).getD i default)) ++ sp) 25 ++ Kb) := by
  refine ⟨hm, fun x hx => ?_⟩
  rw [mgetD_msetM]
  by_cases hc : (dC l).getD i default = x
  · rw [if_pos hc, ← hc]
    exact ⟨_, _, rfl, (fz_cat (e := 25) len_cell rfl hw).left⟩
  · rw [if_neg hc]
    rw [take_succD _ _ hi] at hx
    rcases List.mem_append.1 hx with hx | hx
    · obtain ⟨p', c', h1, h2⟩ := h.row x hx
      exact ⟨p', c', h1, h2.right⟩
    · exact absurd (List.mem_singleton.1 hx).symm hc
def SpX := { x : SpS // ∀ e ∈ x.Ka, e.2.1 = true }
end Go.Proofs.Ytkgjfcjciigcgaa

/-
  What an order of knots is in memory; how it is found, plain.
-/
namespace Go.Proofs.Ytkgjfcjciigcgaa
open Go.Proofs.Ytkgjfcjciigcgaa.Sl Go.RowKit
set_option linter.unusedVariables false
set_option linter.unusedSimpArgs false
set_option linter.unusedSectionVars false
set_option maxRecDepth 100000

namespace Sl
theorem Sq.mem {A K : Kl} (h : Sq A K) : ∀ e ∈ A, e ∈ K := by
  obtain ⟨Kx, hx⟩ := h.perm
  exact fun e he => hx.mem_iff.2 (List.mem_append_left _ he)
theorem Fz.atS {A K : Kl} {φ : World → Prop} {w0 W : World} {M : List Nat} (h : Fz A φ) (hW : St w0 M K W) (hs : Sq A K) : φ W := h W fun e he => hW.known e (hs.mem e he)
theorem wrs_of {A K : Kl} (hA : ∀ e ∈ A, e.2.1 = true) (hs : ∀ e ∈ A, e ∈ K) : ∀ b ∈ A.map (·.1), b ∈ wrs K := by
  intro b hb
  obtain ⟨e, he, rfl⟩ := List.mem_map.1 hb
  have h1 := hs e he
  have h2 := hA e he
  obtain ⟨b, t, o⟩ := e
  simp only at h2
  subst h2
  exact mem_wrs h1
section
attribute [local semireducible] GC GE GL GQ
theorem gl_sq {P : Program} {N : Nat} {F : Fl} {Q : Exit → Act → World → Prop} {w0 : World} {M : List Nat} {K : Kl} {l rest : List Oper} (A : Kl) (h : Sq A K) (h2 : GL P l Q rest N w0 M F A) : GL P l Q rest N w0 M F K := fun a W hF hW => h2 a W hF (h.st hW)
end
theorem made_oneK (v : Value) (n : Nat) : madeCells #[v] n = (List.replicate n v).toArray := by
  apply Array.ext'
  apply List.ext_getElem?
  intro i
  by_cases h : i < n
  · simp [madeCells, Nat.mod_one, h]
  · simp [madeCells, Nat.mod_one, h]
theorem ev_makeSliceK {P : Program} {T : Tab} {N : Nat} {F : Fl} {o : Oper} {w0 : World} {M : List Nat} {K : Kl} (hT : TabOk P T) {R : Value → Kl → Prop} {t e : TypeId} {x : Operand} {n s bs : Nat} {z : List Value} {v : Value} {k : TyK} {b : Nat} (hg : o.guard = none) (ho : o.op = .makeSlice t x x) (hx : Fo F x = some (true, .int .i64 (n : Int))) (ht : ty T t = some ⟨.slice e, s, bs, z⟩) (he : ty T e = some ⟨k, 1, b, [v]⟩) (hb : (b : Int) * (n : Int) ≤ 281474976710656) (h63 : (n : Int) ≤ 9223372036854775807)
    (hR : ∀ g, w0.heap.size ≤ g → R (.slice (some (ad g)) n n) ((g, true, .cells (List.replicate n v).toArray e (0, 0)) :: K)) : Ev P o N w0 M F K R := by
  refine ev_new hg (.cells (List.replicate n v).toArray e (0, 0)) (fun g => .slice (some (ad g)) n n) (fun a W hF hW => ?_) hR
  obtain ⟨i, zv, h1, h2, h3, h4, h5⟩ := (hT e _ he).info
  have e0 := hF.eval hx rfl
  have h6 := run_make (P := P) W t e i zv (hT t _ ht).kind h1 h4 .i64 .i64 (n : Int) (n : Int) (by omega) (Int.le_refl _) (by rw [h3]; exact hb) h63
  rw [h2, h5, Int.toNat_natCast] at h6
  obtain ⟨dst, op, tp, pos, after, guard⟩ := o
  subst ho
  have h7 : (Instr.makeSlice t (.int .i64 (n : Int)) (.int .i64 (n : Int))).run P W = .ok (.slice (some ⟨W.heap.size, 0, none⟩) n n) (W.alloc (.cells (List.replicate n v).toArray e)) := by
    rw [h6, show n * 1 = n from Nat.mul_one n]
    show Result.ok _ (W.alloc (.cells (madeCells #[v] n) e)) = _
    rw [made_oneK]
  simp only [execOp, e0]
  simp only [Sem.run_bind, h7, Result.andThen_ok, Sem.run_pure]
end Sl
def blv (b : Bool) : List Value := [.bool b]
theorem len_bl (b : Bool) : (blv b).length = 1 := rfl
theorem toldB_len (l : List En) (out : List Kn) : (toldB l out).length = (allD l).length := by unfold toldB; rw [List.length_map]
theorem toldB_nil (l : List En) : cat blv (toldB l []) = List.replicate (allD l).length (.bool false) := by
  unfold toldB cat
  generalize allD l = L
  induction L with
  | nil => rfl
  | cons a r ih =>
    rw [List.map_cons, List.flatMap_cons, ih, List.length_cons, List.replicate_succ]
    rw [dec_no (p := a ∈ ([] : List Kn)) List.not_mem_nil]
    rfl
theorem nxt_at {l : List En} {out : List Kn} {k : Nat} (hk : k < (allD l).length) (h : canD l out ((allD l).getD k default) = true) (hb : ∀ j, j < k → canD l out ((allD l).getD j default) = false) : nxtD l out = some ((allD l).getD k default) := by
  unfold nxtD
  rw [List.find?_eq_some_iff_getElem]
  refine ⟨h, k, hk, ?_, fun j hj => ?_⟩
  · rw [List.getD_eq_getElem?_getD, List.getElem?_eq_getElem hk, Option.getD_some]
  · have := hb j hj
    rw [List.getD_eq_getElem?_getD, List.getElem?_eq_getElem (by omega), Option.getD_some] at this
    rw [this]
    rfl
theorem nxt_not {l : List En} {i : Nat} (hi : i < (allD l).length) (hb : ∀ j, j < (allD l).length → canD l (ordD l i) ((allD l).getD j default) = false) : False := by
  obtain ⟨k, h1, _⟩ := nxtD_ex hi
  unfold nxtD at h1
  have h2 := List.find?_some h1
  obtain ⟨j, hj, hjk⟩ := List.mem_iff_getElem.1 (List.mem_of_find?_eq_some h1)
  have h3 := hb j hj
  rw [List.getD_eq_getElem?_getD, List.getElem?_eq_getElem hj, Option.getD_some, hjk, h2] at h3
  cases h3
structure OrS where
  q : Option Nat
  c : Nat
  ks : List KP
  sp : List Value
  Ka : Kl
structure OrOk (L : List Kn) (x : OrS) : Prop where
  kn : x.ks.map KP.kn = L
  ow : Ow x.q x.ks.length x.c 2 (cat KP.l x.ks) x.sp
  rows : KsZ x.Ka x.ks
def OrX := { x : OrS // ∀ e ∈ x.Ka, e.2.1 = true }
theorem orX_wr (x : OrX) : ∀ e ∈ ow x.1.q true (cat KP.l x.1.ks ++ x.1.sp) 151 ++ x.1.Ka, e.2.1 = true := fun e he => by
  rcases List.mem_append.1 he with h | h
  · exact ow_wr e h
  · exact x.2 e h
/-! ### a knot, as the reference finds it -/
noncomputable def inD (l : List En) (c y : Cell) : Bool := decide (y = c ∨ (y ∈ aft l c ∧ c ∈ aft l y))
noncomputable def clI (l : List En) (c : Cell) (j : Nat) : List Cell := ((dC l).take j).filter (inD l c)
theorem clI_zero (l : List En) (c : Cell) : clI l c 0 = [] := rfl
theorem clI_yes {l : List En} {c : Cell} {j : Nat} (hj : j < (dC l).length) (h : inD l c ((dC l).getD j default) = true) : clI l c (j + 1) = clI l c j ++ [(dC l).getD j default] := by
  unfold clI
  rw [take_succD _ _ hj, List.filter_append, fil_pos h]
theorem clI_no {l : List En} {c : Cell} {j : Nat} (hj : j < (dC l).length) (h : inD l c ((dC l).getD j default) = false) : clI l c (j + 1) = clI l c j := by
  unfold clI
  rw [take_succD _ _ hj, List.filter_append, fil_neg (by rw [h]; simp), List.append_nil]
theorem clI_all (l : List En) (c : Cell) : clI l c (dC l).length = clsD l c := by
  unfold clI clsD
  rw [List.take_length]
  refine List.filter_congr fun x hx => ?_
  unfold inD
  rw [Bool.eq_iff_iff, dec_t, dec_t, aft_mem, aft_mem]
theorem clI_len (l : List En) (c : Cell) (j : Nat) : (clI l c j).length ≤ l.length := Nat.le_trans (List.length_filter_le ..) (Nat.le_trans (List.length_take_le' ..) (dC_len l))
open Classical in
noncomputable def fsI (l : List En) (c : Cell) (j : Nat) : Bool := decide (∀ x ∈ clI l c j, ¬ cLt x c)
theorem fsI_zero (l : List En) (c : Cell) : fsI l c 0 = true := dec_of fun x hx => absurd hx List.not_mem_nil
theorem fsI_all (l : List En) (c : Cell) : fsI l c (dC l).length = fstD l c := by
  unfold fsI fstD
  rw [clI_all]
theorem fsI_no {l : List En} {c : Cell} {j : Nat} (hj : j < (dC l).length) (h : inD l c ((dC l).getD j default) = false) : fsI l c (j + 1) = fsI l c j := by
  unfold fsI
  rw [clI_no hj h]
theorem getD_lt {m : List Cell} (hm : m.Pairwise cLt) {i j : Nat} (hi : i < m.length) (hj : j < m.length) : cLt (m.getD j default) (m.getD i default) ↔ j < i := by
  rw [List.getD_eq_getElem?_getD, List.getD_eq_getElem?_getD, List.getElem?_eq_getElem hi, List.getElem?_eq_getElem hj]
  have h := List.pairwise_iff_getElem.1 hm
  constructor
  · intro h1
    rcases Nat.lt_or_ge j i with h2 | h2
    · exact h2
    · rcases Nat.lt_or_ge i j with h3 | h3
      · exact absurd (cLt_trans h1 (h i j hi hj h3)) (cLt_irrefl _)
      · have : i = j := by omega
        subst this
        exact absurd h1 (cLt_irrefl _)
  · intro h1
    exact h j i hj hi h1
theorem fsI_yes {l : List En} {c : Cell} {i j : Nat} (hi : i < (dC l).length) (hc : (dC l).getD i default = c) (hj : j < (dC l).length) (h : inD l c ((dC l).getD j default) = true) : fsI l c (j + 1) = (fsI l c j && decide (i ≤ j)) := by
  unfold fsI
  rw [clI_yes hj h, Bool.eq_iff_iff, Bool.and_eq_true, dec_t, dec_t, dec_t]
  have h2 := getD_lt (dC_lt l) hi hj
  rw [hc] at h2
  constructor
  · intro h3
    refine ⟨fun x hx => h3 x (List.mem_append_left _ hx), ?_⟩
    have := h3 _ (List.mem_append_right _ (List.mem_singleton.2 rfl))
    rw [h2] at this
    omega
  · rintro ⟨h3, h4⟩ x hx
    rcases List.mem_append.1 hx with h5 | h5
    · exact h3 x h5
    · rw [List.mem_singleton.1 h5, h2]
      omega
/-- Round, as the reference tells it. -/
theorem rnd_ref {l : List En} {c : Cell} (hc : c ∈ dC l) : (decide (c ∈ rdD l c) || decide (1 < (clsD l c).length)) = rndD l c := by
  unfold rndD
  rw [Bool.eq_iff_iff, Bool.or_eq_true, dec_t, dec_t, dec_t]
  have hself := clsD_self hc
  have hnd := cLt_nodup (clsD_lt l c)
  constructor
  · rintro (h | h)
    · exact .one (rr_of_rd h)
    · have : ∃ x ∈ clsD l c, x ≠ c := by
        refine Classical.byContradiction fun h2 => ?_
        have h3 : ∀ x ∈ clsD l c, x ∈ [c] := fun x hx => List.mem_singleton.2 (Classical.byContradiction fun h4 => h2 ⟨x, hx, h4⟩)
        have := hnd.length_le_of_subset h3
        simp at this
        omega
      obtain ⟨x, hx, hne⟩ := this
      rcases (clsD_mem hc).1 hx with h2 | h2
      · exact absurd h2 hne
      · exact h2.1.trans h2.2
  · intro h
    have key : ∀ {a b : Cell}, Rch l a b → a = c → b = c ∨ Rch l b c → b ∈ rrD l c ∨ ∃ x, x ≠ c ∧ Rch l c x ∧ Rch l x c := by
      intro a b hab
      induction hab with
      | @one b h1 =>
        intro ha hb
        subst ha
        exact .inl h1
      | @more b d h1 h2 ih =>
        intro ha hd
        subst ha
        by_cases hbc : b = a
        · subst hbc; exact .inl h2
        · refine .inr ⟨b, hbc, h1, ?_⟩
          rcases hd with rfl | hd
          · exact .one h2
          · exact (Rch.one h2).trans hd
    rcases key h rfl (.inl rfl) with h1 | ⟨x, h1, h2, h3⟩
    · exact .inl (rrD_mem.1 h1).2
    · refine .inr ?_
      have h4 : x ∈ clsD l c := (clsD_mem hc).2 (.inr ⟨h2, h3⟩)
      have h5 : ([x, c]).Nodup := by simp [h1]
      have := h5.length_le_of_subset (l₂ := clsD l c) (fun y hy => by
        rcases List.mem_cons.1 hy with rfl | hy
        · exact h4
        · rw [List.mem_singleton.1 hy]; exact hself)
      simp only [List.length_cons, List.length_nil] at this
      omega
theorem told_fst {l : List En} {out : List Kn} (ho : ∀ k ∈ out, k ∈ allD l) {k : Kn} (hk : k ∈ allD l) {c0 : Cell} (hc : c0 ∈ k.cells) (T : List Cell) (hT : ∀ c, c ∈ T ↔ ∃ m ∈ out, c ∈ m.cells) : (!(decide (c0 ∈ T)) && rdyD l out k) = canD l out k := by
  unfold canD
  congr 1
  rw [Bool.eq_iff_iff, dec_t, Bool.not_eq_true', decide_eq_false_iff_not, hT]
  constructor
  · intro h1 h2
    exact h1 ⟨k, h2, hc⟩
  · rintro h1 ⟨m, h2, h3⟩
    exact h1 (allD_uniq (ho m h2) h3 hk hc ▸ h2)
end Go.Proofs.Ytkgjfcjciigcgaa
