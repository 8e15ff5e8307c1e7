/-
  What counts come to: the map of the one, the list of the other, and that they tell the same.
-/
import Derived.Test.YtkgjfcjciigcgaaGoAddD
namespace Go.Proofs.Ytkgjfcjciigcgaa
open Go.Proofs.Ytkgjfcjciigcgaa.Sl Go.RowKit
set_option linter.unusedVariables false
set_option linter.unusedSimpArgs false
set_option maxRecDepth 100000

/-! ### the list -/
theorem addC_nil (s : Stamp) (n : Int) : addC [] s n = if n = 0 then [] else [⟨s, n⟩] := by
  by_cases h : n = 0 <;> simp [addC, insC, bumpC, addI, h]
theorem insC_cons_lt {x : Chg} {r : List Chg} {s : Stamp} (h : ltOf cSt x.s s = true) : addI s (x :: r) = addI s r + 1 ∧ insC (x :: r) s = x :: insC r s := by
  have h1 : addI s (x :: r) = addI s r + 1 := by rw [addI, if_pos h]
  refine ⟨h1, ?_⟩
  unfold insC
  rw [h1]
  by_cases h2 : addI s r < r.length ∧ (r.getD (addI s r) default).s = s
  · rw [if_pos h2, if_pos ⟨by simpa using h2.1, by simpa using h2.2⟩]
  · rw [if_neg h2, if_neg (fun h3 => h2 ⟨by simpa using h3.1, by simpa using h3.2⟩)]
    rfl
theorem addC_cons (x : Chg) (r : List Chg) (s : Stamp) (n : Int) : addC (x :: r) s n = if ltOf cSt x.s s then x :: addC r s n else if x.s = s then (if x.n + n = 0 then r else ⟨s, x.n + n⟩ :: r) else (if n = 0 then x :: r else ⟨s, n⟩ :: x :: r) := by
  by_cases h : ltOf cSt x.s s = true
  · rw [if_pos h]
    obtain ⟨h1, h2⟩ := insC_cons_lt (r := r) h
    unfold addC
    rw [h1, h2]
    have hb : bumpC (x :: insC r s) (addI s r + 1) n = x :: bumpC (insC r s) (addI s r) n := by unfold bumpC; simp
    rw [hb]
    simp only [List.getD_cons_succ, List.take_succ_cons, List.drop_succ_cons, List.cons_append]
    split <;> rfl
  · rw [if_neg h]
    have h1 : addI s (x :: r) = 0 := by rw [addI, if_neg h]
    by_cases h2 : x.s = s
    · rw [if_pos h2]
      have h3 : insC (x :: r) s = x :: r := by
        unfold insC
        rw [h1, if_pos ⟨by simp, by simpa using h2⟩]
      unfold addC
      rw [h3, h1]
      simp [bumpC, h2]
    · rw [if_neg h2]
      have h3 : insC (x :: r) s = ⟨s, 0⟩ :: x :: r := by
        unfold insC
        rw [h1, if_neg (fun h4 => h2 (by simpa using h4.2))]
        rfl
      unfold addC
      rw [h3, h1]
      simp [bumpC]
def cnt : List Chg → Stamp → Int
  | [], _ => 0
  | x :: r, s => if x.s = s then x.n else cnt r s
def SrtC (l : List Chg) : Prop := (l.map Chg.s).Pairwise tLt
def NZ (l : List Chg) : Prop := ∀ x ∈ l, x.n ≠ 0
theorem cnt_none {l : List Chg} {s : Stamp} (h : s ∉ l.map Chg.s) : cnt l s = 0 := by
  induction l with
  | nil => rfl
  | cons x r ih =>
    simp only [List.map_cons, List.mem_cons, not_or] at h
    rw [cnt, if_neg (fun e => h.1 e.symm), ih h.2]
theorem tLt_nodup {l : List Stamp} (h : l.Pairwise tLt) : l.Nodup := h.imp fun {a b} h e => by subst e; exact tLt_irrefl _ h
theorem cnt_mem {l : List Chg} (h : SrtC l) {x : Chg} (hx : x ∈ l) : cnt l x.s = x.n := by
  have hn := tLt_nodup h
  clear h
  induction l with
  | nil => cases hx
  | cons y r ih =>
    simp only [List.map_cons, List.nodup_cons] at hn
    rw [cnt]
    rcases List.mem_cons.1 hx with rfl | hx
    · rw [if_pos rfl]
    · rw [if_neg (fun e => hn.1 (List.mem_map.2 ⟨_, hx, e.symm⟩)), ih hx hn.2]
theorem addC_mem {s : Stamp} {n : Int} {x : Chg} : ∀ {l : List Chg}, x ∈ addC l s n → x ∈ l ∨ (x = ⟨s, n⟩ ∧ n ≠ 0) ∨ ∃ y ∈ l, y.s = s ∧ x = ⟨s, y.n + n⟩ ∧ y.n + n ≠ 0
  | [], h => by
    rw [addC_nil] at h
    split at h
    · cases h
    · rename_i hn
      rw [List.mem_singleton] at h
      exact .inr (.inl ⟨h, hn⟩)
  | y :: r, h => by
    rw [addC_cons] at h
    split at h
    · rcases List.mem_cons.1 h with rfl | h
      · exact .inl (List.mem_cons_self ..)
      · rcases addC_mem h with h | h | ⟨z, hz, h⟩
        · exact .inl (List.mem_cons_of_mem _ h)
        · exact .inr (.inl h)
        · exact .inr (.inr ⟨z, List.mem_cons_of_mem _ hz, h⟩)
    · split at h
      · rename_i h2
        split at h
        · exact .inl (List.mem_cons_of_mem _ h)
        · rename_i h3
          rcases List.mem_cons.1 h with rfl | h
          · exact .inr (.inr ⟨y, List.mem_cons_self .., h2, rfl, h3⟩)
          · exact .inl (List.mem_cons_of_mem _ h)
      · split at h
        · exact .inl h
        · rename_i h3
          rcases List.mem_cons.1 h with rfl | h
          · exact .inr (.inl ⟨rfl, h3⟩)
          · exact .inl h
theorem NZ.add {l : List Chg} (h : NZ l) (s : Stamp) (n : Int) : NZ (addC l s n) := fun x hx => by
  rcases addC_mem hx with h1 | ⟨rfl, h1⟩ | ⟨y, hy, _, rfl, h1⟩
  · exact h x h1
  · exact h1
  · exact h1
theorem addC_s {s d : Stamp} {n : Int} {l : List Chg} (h : d ∈ (addC l s n).map Chg.s) : d = s ∨ d ∈ l.map Chg.s := by
  obtain ⟨x, hx, rfl⟩ := List.mem_map.1 h
  rcases addC_mem hx with h1 | ⟨rfl, _⟩ | ⟨y, hy, _, rfl, _⟩
  · exact .inr (List.mem_map.2 ⟨x, h1, rfl⟩)
  · exact .inl rfl
  · exact .inl rfl
theorem SrtC.add {s : Stamp} {n : Int} : ∀ {l : List Chg}, SrtC l → SrtC (addC l s n)
  | [], _ => by
    rw [addC_nil]
    split
    · exact List.Pairwise.nil
    · exact List.pairwise_singleton _ _
  | x :: r, h => by
    have h' : (∀ d ∈ r.map Chg.s, tLt x.s d) ∧ SrtC r := List.pairwise_cons.1 h
    rw [addC_cons]
    by_cases h3 : ltOf cSt x.s s = true
    · rw [if_pos h3]
      refine List.pairwise_cons.2 ⟨fun d hd => ?_, SrtC.add h'.2⟩
      rcases addC_s hd with rfl | hd
      · exact (ltS_iff _ _).1 h3
      · exact h'.1 d hd
    · rw [if_neg h3]
      by_cases h4 : x.s = s
      · rw [if_pos h4]
        split
        · exact h'.2
        · exact List.pairwise_cons.2 ⟨fun d hd => h4 ▸ h'.1 d hd, h'.2⟩
      · rw [if_neg h4]
        split
        · exact h
        · have h5 : tLt s x.s := by
            rcases tLt_total s x.s with h6 | h6 | h6
            · exact h6
            · exact absurd h6.symm h4
            · exact absurd ((ltS_iff _ _).2 h6) h3
          refine List.pairwise_cons.2 ⟨fun d hd => ?_, h⟩
          rcases List.mem_cons.1 hd with rfl | hd
          · exact h5
          · exact tLt_trans h5 (h'.1 d hd)
theorem cnt_add (s d : Stamp) (n : Int) : ∀ {l : List Chg}, SrtC l → cnt (addC l s n) d = if s = d then cnt l s + n else cnt l d
  | [], _ => by
    rw [addC_nil]
    by_cases h : s = d
    · rw [if_pos h]
      split
      · rename_i h2; simp [cnt, h2]
      · simp [cnt, h]
    · rw [if_neg h]
      split <;> simp [cnt, h]
  | x :: r, h => by
    have h' : (∀ d ∈ r.map Chg.s, tLt x.s d) ∧ SrtC r := List.pairwise_cons.1 h
    rw [addC_cons]
    by_cases h3 : ltOf cSt x.s s = true
    · have hne : x.s ≠ s := fun e => by rw [e] at h3; exact tLt_irrefl _ ((ltS_iff _ _).1 h3)
      rw [if_pos h3, cnt, cnt, cnt, cnt_add s d n h'.2, if_neg hne]
      by_cases h4 : x.s = d
      · rw [if_pos h4, if_pos h4, if_neg (fun e => hne (h4.trans e.symm))]
      · rw [if_neg h4, if_neg h4]
    · rw [if_neg h3]
      have hnr : s = x.s ∨ tLt s x.s := by
        rcases tLt_total s x.s with h6 | h6 | h6
        · exact .inr h6
        · exact .inl h6
        · exact absurd ((ltS_iff _ _).2 h6) h3
      have hsr : cnt r s = 0 := cnt_none fun hm => by
        have := h'.1 s hm
        rcases hnr with e | e
        · rw [e] at this; exact tLt_irrefl _ this
        · exact tLt_irrefl _ (tLt_trans this e)
      by_cases h4 : x.s = s
      · rw [if_pos h4, cnt, cnt, if_pos h4]
        by_cases h5 : s = d
        · rw [if_pos h5]
          split
          · rename_i h6; rw [← h5, hsr, h6]
          · rw [cnt, if_pos h5]
        · rw [if_neg h5, if_neg (fun e => h5 (h4.symm.trans e))]
          split
          · rfl
          · rw [cnt, if_neg h5]
      · rw [if_neg h4, cnt, cnt, if_neg h4, hsr]
        by_cases h5 : s = d
        · rw [if_pos h5]
          split
          · rename_i h6; rw [cnt, if_neg (fun e => h4 (e.trans h5.symm)), ← h5, hsr, h6]; rfl
          · rw [cnt, if_pos h5]; simp
        · rw [if_neg h5]
          split
          · rw [cnt]
          · rw [cnt, if_neg h5, cnt]
theorem addC_bound {l : List Chg} {B C : Int} (h : ∀ x ∈ l, -B ≤ x.n ∧ x.n ≤ B) {s : Stamp} {n : Int} (hn : -C ≤ n ∧ n ≤ C) (hB : 0 ≤ B) : ∀ x ∈ addC l s n, -(B + C) ≤ x.n ∧ x.n ≤ B + C := fun x hx => by
  rcases addC_mem hx with h1 | ⟨rfl, _⟩ | ⟨y, hy, _, rfl, _⟩
  · have := h x h1; omega
  · simp only; omega
  · have := h y hy; simp only; omega
theorem addC_len (l : List Chg) (s : Stamp) (n : Int) : (addC l s n).length ≤ l.length + 1 := by
  induction l with
  | nil => rw [addC_nil]; split <;> simp
  | cons x r ih =>
    rw [addC_cons]
    split
    · simp; omega
    · split
      · split
        · simp; omega
        · simp
      · split <;> simp
theorem srtC_ext {l m : List Chg} (hl : SrtC l) (hm : SrtC m) (nl : NZ l) (nm : NZ m) (h : ∀ s, cnt l s = cnt m s) : l = m := by
  have key : ∀ {a b : List Chg}, SrtC a → NZ a → SrtC b → (∀ c, cnt a c = cnt b c) → ∀ x ∈ a, x ∈ b := fun {a b} ha na hb he x hx => by
    have h1 := cnt_mem ha hx
    rw [he] at h1
    have h2 : x.s ∈ b.map Chg.s := Classical.byContradiction fun h2 => na x hx (by rw [← h1, cnt_none h2])
    obtain ⟨y, hy, e⟩ := List.mem_map.1 h2
    have h3 := cnt_mem hb hy
    rw [e, h1] at h3
    have : x = y := by cases x; cases y; simp_all
    exact this ▸ hy
  have n1 : l.Nodup := List.Pairwise.of_map Chg.s (fun a b h e => h (by rw [e])) (tLt_nodup hl)
  have n2 : m.Nodup := List.Pairwise.of_map Chg.s (fun a b h e => h (by rw [e])) (tLt_nodup hm)
  exact List.Perm.eq_of_pairwise (le := fun a b => tLt a.s b.s) (fun a b _ _ h1 h2 => absurd (tLt_trans h1 h2) (tLt_irrefl _)) (List.pairwise_map.1 hl) (List.pairwise_map.1 hm) ((List.perm_ext_iff_of_nodup n1 n2).2 fun x => ⟨key hl nl hm h x, key hm nm hl (fun c => (h c).symm) x⟩)

/-! ### the map -/
section
variable {κ ν : Type} [DecidableEq κ]
def mkO : List (κ × ν) → κ → Option ν
  | [], _ => none
  | x :: r, c => if x.1 = c then some x.2 else mkO r c
theorem fnd_shift (k : κ) : ∀ (m : List (κ × ν)) (i : Nat), fnd k m (i + 1) = (fnd k m i).map fun y => (y.1 + 1, y.2)
  | [], i => rfl
  | x :: r, i => by
    unfold fnd
    split
    · rfl
    · exact fnd_shift k r (i + 1)
theorem mgetD_mkO (m : List (κ × ν)) (k : κ) (d : ν) : mgetD m k d = (mkO m k).getD d := by
  have key : ∀ (m : List (κ × ν)) (i : Nat), (fnd k m i).map (·.2) = mkO m k := by
    intro m
    induction m with
    | nil => intro i; rfl
    | cons x r ih =>
      intro i
      unfold fnd mkO
      by_cases h : k = x.1
      · rw [if_pos h, if_pos h.symm]; rfl
      · rw [if_neg h, if_neg (fun e => h e.symm), ih]
  have := key m 0
  unfold mgetD
  cases h : fnd k m 0 with
  | none => rw [h] at this; rw [← this]; rfl
  | some y => rw [h] at this; rw [← this]; rfl
theorem mset_consO (x : κ × ν) (r : List (κ × ν)) (k : κ) (v : ν) : mset (x :: r) k v = if k = x.1 then (k, v) :: r else x :: mset r k v := by
  unfold mset
  rw [fnd]
  by_cases h : k = x.1
  · rw [if_pos h, if_pos h]; rfl
  · rw [if_neg h, if_neg h, fnd_shift]
    cases fnd k r 0 <;> rfl
theorem mkO_mset (k c : κ) (v : ν) : ∀ m : List (κ × ν), mkO (mset m k v) c = if k = c then some v else mkO m c
  | [] => by simp [mset, fnd, mkO]
  | x :: r => by
    rw [mset_consO]
    by_cases h : k = x.1
    · rw [if_pos h, mkO, mkO]
      by_cases h2 : k = c
      · rw [if_pos h2, if_pos h2]
      · rw [if_neg h2, if_neg h2, if_neg (fun e => h2 (h.trans e))]
    · rw [if_neg h, mkO, mkO, mkO_mset k c v r]
      by_cases h2 : x.1 = c
      · rw [if_pos h2, if_pos h2, if_neg (fun e => h (e.trans h2.symm))]
      · rw [if_neg h2, if_neg h2]
theorem mgetD_mset (m : List (κ × ν)) (k c : κ) (v d : ν) : mgetD (mset m k v) c d = if k = c then v else mgetD m c d := by
  rw [mgetD_mkO, mgetD_mkO, mkO_mset]
  split <;> rfl
theorem mkO_mem {m : List (κ × ν)} {c : κ} {v : ν} (h : mkO m c = some v) : (c, v) ∈ m := by
  induction m with
  | nil => cases h
  | cons x r ih =>
    unfold mkO at h
    by_cases h2 : x.1 = c
    · rw [if_pos h2] at h
      cases h
      subst h2
      exact List.Mem.head _
    · rw [if_neg h2] at h
      exact List.Mem.tail _ (ih h)
theorem mkO_of_mem {m : List (κ × ν)} {c : κ} {v : ν} (hn : (m.map (·.1)).Nodup) (h : (c, v) ∈ m) : mkO m c = some v := by
  induction m with
  | nil => cases h
  | cons x r ih =>
    simp only [List.map_cons, List.nodup_cons] at hn
    unfold mkO
    rcases List.mem_cons.1 h with h | h
    · subst h; rw [if_pos rfl]
    · rw [if_neg (fun e => hn.1 (List.mem_map.2 ⟨_, h, e.symm⟩))]
      exact ih hn.2 h
theorem mset_mem1 {m : List (κ × ν)} {k : κ} {v : ν} {x : κ × ν} (h : x ∈ mset m k v) : x = (k, v) ∨ x ∈ m := by
  induction m with
  | nil => simp [mset, fnd] at h; exact .inl h
  | cons y r ih =>
    rw [mset_consO] at h
    split at h
    · rcases List.mem_cons.1 h with h | h
      · exact .inl h
      · exact .inr (List.mem_cons_of_mem _ h)
    · rcases List.mem_cons.1 h with h | h
      · exact .inr (h ▸ List.mem_cons_self ..)
      · rcases ih h with h | h
        · exact .inl h
        · exact .inr (List.mem_cons_of_mem _ h)
theorem mset_keysO {m : List (κ × ν)} {k : κ} {v : ν} (h : (m.map (·.1)).Nodup) : ((mset m k v).map (·.1)).Nodup := by
  induction m with
  | nil => simp [mset, fnd]
  | cons y r ih =>
    simp only [List.map_cons, List.nodup_cons] at h
    rw [mset_consO]
    split
    · rename_i he
      simp only [List.map_cons, List.nodup_cons]
      exact ⟨he ▸ h.1, h.2⟩
    · rename_i he
      simp only [List.map_cons, List.nodup_cons]
      refine ⟨fun hm => ?_, ih h.2⟩
      obtain ⟨z, hz, e⟩ := List.mem_map.1 hm
      rcases mset_mem1 hz with rfl | hz
      · exact he e
      · exact h.1 (List.mem_map.2 ⟨z, hz, e⟩)
theorem mset_lenO (m : List (κ × ν)) (k : κ) (v : ν) : (mset m k v).length ≤ m.length + 1 := by
  unfold mset
  split <;> simp
end
abbrev FM := List (Stamp × Int)
def fadd (m : FM) (s : Stamp) (n : Int) : FM := mset m s (mgetD m s 0 + n)
def sortT (l : List Stamp) : List Stamp := l.mergeSort fun x y => !(ltOf cSt) y x
theorem sortT_perm (l : List Stamp) : (sortT l).Perm l := List.mergeSort_perm _ _
theorem sortT_mem (l : List Stamp) (c : Stamp) : c ∈ sortT l ↔ c ∈ l := (sortT_perm l).mem_iff
theorem sortT_length (l : List Stamp) : (sortT l).length = l.length := (sortT_perm l).length_eq
theorem sortT_lt {l : List Stamp} (h : l.Nodup) : (sortT l).Pairwise tLt := by
  have h1 : (sortT l).Pairwise fun x y => (!(ltOf cSt) y x) = true := List.pairwise_mergeSort (fun a b c h1 h2 => by
    simp only [Bool.not_eq_true'] at *
    exact swoS.ntrans _ _ _ h2 h1) (fun a b => by
    cases h1 : ltOf cSt b a with
    | false => simp
    | true =>
      have : ltOf cSt a b = false := by
        rw [ltS_false]
        intro h2
        exact tLt_irrefl _ (tLt_trans h2 ((ltS_iff _ _).1 h1))
      simp [this]) l
  have h2 : (sortT l).Nodup := (sortT_perm l).nodup_iff.2 h
  refine (h1.and h2).imp fun {a b} ⟨h3, h4⟩ => ?_
  simp only [Bool.not_eq_true', ltS_false] at h3
  rcases tLt_total a b with h5 | h5 | h5
  · exact h5
  · contradiction
  · contradiction
theorem tLt_unique {l l' : List Stamp} (h : l.Pairwise tLt) (h' : l'.Pairwise tLt) (hm : ∀ c, c ∈ l ↔ c ∈ l') : l = l' :=
  List.Perm.eq_of_pairwise (fun a b _ _ h1 h2 => absurd (tLt_trans h1 h2) (tLt_irrefl _)) h h' ((List.perm_ext_iff_of_nodup (tLt_nodup h) (tLt_nodup h')).2 hm)
theorem sortT_of_perm {l l' : List Stamp} (hn : l.Nodup) (h : l.Perm l') : sortT l = sortT l' :=
  tLt_unique (sortT_lt hn) (sortT_lt (h.nodup_iff.1 hn)) fun c => by rw [sortT_mem, sortT_mem]; exact h.mem_iff
def wi (a b : Stamp) : Bool := decide (a.epoch ≤ b.epoch) && decide (a.rank ≤ b.rank) && decide (a.round ≤ b.round)
def posM (x : Stamp × Int) : Bool := decide (x.2 > 0)
def aboveM (m : FM) : List Stamp := sortT ((m.filter posM).map (·.1))
def leastM (m : FM) : List Stamp := (aboveM m).filter fun s => !(aboveM m).any fun x => !decide (x = s) && wi x s
def passedM (m : FM) (s : Stamp) : Bool := !(aboveM m).any fun x => wi x s
/-- The map and the list count alike. -/
structure Cnt (m : FM) (l : List Chg) : Prop where
  keys : (m.map (·.1)).Nodup
  srt : SrtC l
  nz : NZ l
  eq : ∀ s, mgetD m s 0 = cnt l s
theorem Cnt.nil : Cnt [] [] := ⟨List.nodup_nil, List.Pairwise.nil, (fun x hx => absurd hx List.not_mem_nil), (fun _ => rfl)⟩
theorem Cnt.add {m : FM} {l : List Chg} (h : Cnt m l) (s : Stamp) (n : Int) : Cnt (fadd m s n) (addC l s n) :=
  ⟨mset_keysO h.keys, h.srt.add, h.nz.add s n, fun d => by
    unfold fadd
    rw [mgetD_mset, cnt_add s d n h.srt, h.eq, h.eq]⟩
def posC (x : Chg) : Bool := decide (x.n > 0)
theorem Cnt.get {m : FM} {l : List Chg} (h : Cnt m l) (s : Stamp) (v : Int) (hv : v ≠ 0) : (s, v) ∈ m ↔ ⟨s, v⟩ ∈ l := by
  constructor
  · intro hm
    have h1 := mkO_of_mem h.keys hm
    have h2 := h.eq s
    rw [mgetD_mkO, h1] at h2
    have h3 : s ∈ l.map Chg.s := Classical.byContradiction fun h3 => hv (by rw [cnt_none h3] at h2; exact h2)
    obtain ⟨y, hy, e⟩ := List.mem_map.1 h3
    have h4 := cnt_mem h.srt hy
    rw [e, ← h2] at h4
    have : y = ⟨s, v⟩ := by cases y; simp_all
    exact this ▸ hy
  · intro hm
    have h1 := cnt_mem h.srt hm
    have h2 := h.eq s
    simp only at h1
    rw [h1, mgetD_mkO] at h2
    cases h3 : mkO m s with
    | none => rw [h3] at h2; exact absurd h2.symm hv
    | some u => rw [h3] at h2; simp at h2; subst h2; exact mkO_mem h3
theorem Cnt.above {m : FM} {l : List Chg} (h : Cnt m l) : aboveM m = (l.filter posC).map Chg.s := by
  have hn : ((m.filter posM).map (·.1)).Nodup := h.keys.sublist ((List.filter_sublist ..).map _)
  refine tLt_unique (sortT_lt hn) (h.srt.sublist ((List.filter_sublist ..).map _)) fun s => ?_
  unfold aboveM
  rw [sortT_mem]
  simp only [List.mem_map, List.mem_filter, posM, posC, decide_eq_true_eq]
  constructor
  · rintro ⟨⟨s', v⟩, ⟨h1, h2⟩, rfl⟩
    exact ⟨⟨s', v⟩, ⟨(h.get s' v (by simp only at h2; omega)).1 h1, h2⟩, rfl⟩
  · rintro ⟨⟨s', v⟩, ⟨h1, h2⟩, rfl⟩
    exact ⟨(s', v), ⟨(h.get s' v (by simp only at h2; omega)).2 h1, h2⟩, rfl⟩
/-! ### the reference's Least and Passed -/
def okAt (l : List Chg) (i k : Nat) : Bool := decide ((l.getD i default).n > 0) && (List.range k).all fun j => !((!decide (j = i) && decide ((l.getD j default).n > 0)) && wi (l.getD j default).s (l.getD i default).s)
theorem okAt_zero (l : List Chg) (i : Nat) : okAt l i 0 = decide ((l.getD i default).n > 0) := by simp [okAt]
theorem okAt_succ (l : List Chg) (i k : Nat) : okAt l i (k + 1) = (okAt l i k && !((!decide (k = i) && decide ((l.getD k default).n > 0)) && wi (l.getD k default).s (l.getD i default).s)) := by
  unfold okAt
  rw [List.range_succ, List.all_append]
  simp [Bool.and_assoc]
def leastU (l : List Chg) (n : Nat) : List Stamp := ((List.range n).filter fun i => okAt l i l.length).map fun i => (l.getD i default).s
def leastR (l : List Chg) : List Stamp := leastU l l.length
theorem leastU_succ (l : List Chg) (n : Nat) : leastU l (n + 1) = if okAt l n l.length then leastU l n ++ [(l.getD n default).s] else leastU l n := by
  unfold leastU
  rw [List.range_succ, List.filter_append]
  cases h : okAt l n l.length <;> simp [h]
theorem leastU_len (l : List Chg) (n : Nat) : (leastU l n).length ≤ n := by
  unfold leastU
  rw [List.length_map]
  have := List.length_filter_le (fun i => okAt l i l.length) (List.range n)
  simpa using this
def passedR (l : List Chg) (s : Stamp) : Bool := !l.any fun x => posC x && wi x.s s
theorem range_getD {α : Type} [Inhabited α] (l : List α) : (List.range l.length).map (fun i => l.getD i default) = l := by
  apply List.ext_getElem?
  intro i
  by_cases hi : i < l.length
  · simp [hi, List.getD]
  · simp [hi]
theorem Cnt.least {m : FM} {l : List Chg} (h : Cnt m l) : leastM m = leastR l := by
  unfold leastM leastR leastU
  rw [h.above]
  have hnd := tLt_nodup h.srt
  conv => lhs; arg 2; rw [← range_getD l]
  rw [List.filter_map, List.filter_map, List.filter_map, List.map_map, List.filter_filter]
  congr 1
  apply List.filter_congr
  intro i hi
  rw [List.mem_range] at hi
  simp only [Function.comp]
  unfold okAt posC
  rw [Bool.and_comm]
  congr 1
  rw [Bool.eq_iff_iff]
  simp only [Bool.not_eq_true', List.any_eq_false, List.mem_map, List.mem_filter, decide_eq_true_eq, List.all_eq_true, List.mem_range, Bool.and_eq_true, Bool.and_eq_false_iff, not_and, Bool.not_eq_true]
  constructor
  · intro h1 j hj
    by_cases hji : j = i
    · left; left; simp [hji]
    · by_cases hpos : (l.getD j default).n > 0
      · right
        have hne : (l.getD j default).s ≠ (l.getD i default).s := fun e => by
          have := List.pairwise_iff_getElem.1 hnd
          rcases Nat.lt_or_ge j i with hlt | hge
          · refine this j i (by simpa using hj) (by simpa using hi) hlt ?_
            simpa [List.getD, hj, hi] using e
          · refine this i j (by simpa using hi) (by simpa using hj) (by omega) ?_
            simpa [List.getD, hj, hi] using e.symm
        exact h1 _ ⟨_, ⟨getD_mem l j hj, hpos⟩, rfl⟩ (decide_eq_false hne)
      · left; right; simpa using hpos
  · rintro h1 _ ⟨x, ⟨hx, hpos⟩, rfl⟩ hne
    obtain ⟨j, hj, e⟩ := List.getElem_of_mem hx
    have e2 : l.getD j default = x := by simp [List.getD, hj, e]
    rcases h1 j hj with (h2 | h2) | h2
    · have : j = i := by simpa using h2
      subst this
      have hne2 := of_decide_eq_false hne
      exact absurd (congrArg Chg.s e2.symm) hne2
    · rw [e2] at h2
      simp only [decide_eq_false_iff_not] at h2
      exact absurd hpos h2
    · rw [e2] at h2
      exact h2
theorem Cnt.passed {m : FM} {l : List Chg} (h : Cnt m l) (s : Stamp) : passedM m s = passedR l s := by
  unfold passedM passedR
  rw [h.above, List.any_map, List.any_filter]
  rfl
/-! ### the least -/
theorem wi_refl (a : Stamp) : wi a a = true := by simp [wi]
theorem wi_trans {a b c : Stamp} (h : wi a b = true) (h' : wi b c = true) : wi a c = true := by
  simp only [wi, Bool.and_eq_true, decide_eq_true_eq] at *
  omega
theorem wi_anti {a b : Stamp} (h : wi a b = true) (h' : wi b a = true) : a = b := by
  simp only [wi, Bool.and_eq_true, decide_eq_true_eq] at *
  cases a; cases b
  simp only [Stamp.mk.injEq]
  simp only at h h'
  omega
theorem least_below (L : List Stamp) (s : Stamp) (hs : s ∈ L) : ∃ x ∈ L, wi x s = true ∧ ∀ y ∈ L, y ≠ x → wi y x = false := by
  have key : ∀ (n : Nat) (s : Stamp), s ∈ L → (L.filter fun y => wi y s).length ≤ n → ∃ x ∈ L, wi x s = true ∧ ∀ y ∈ L, y ≠ x → wi y x = false := by
    intro n
    induction n with
    | zero =>
      intro s hs hl
      have : s ∈ L.filter fun y => wi y s := List.mem_filter.2 ⟨hs, wi_refl s⟩
      have h0 : (L.filter fun y => wi y s) = [] := List.eq_nil_of_length_eq_zero (by omega)
      rw [h0] at this
      cases this
    | succ n ih =>
      intro s hs hl
      by_cases h : ∃ y ∈ L, y ≠ s ∧ wi y s = true
      · obtain ⟨y, hy, hne, hw⟩ := h
        have hlt : (L.filter fun z => wi z y).length < (L.filter fun z => wi z s).length := by
          have hsub : L.filter (fun z => wi z y) = (L.filter fun z => wi z s).filter fun z => wi z y := by
            rw [List.filter_filter]
            apply List.filter_congr
            intro z _
            cases h1 : wi z y with
            | false => simp
            | true => simp [wi_trans h1 hw]
          rw [hsub]
          refine Nat.lt_of_le_of_ne (List.length_filter_le ..) fun e => ?_
          have := List.length_filter_eq_length_iff.1 e s (List.mem_filter.2 ⟨hs, wi_refl s⟩)
          exact hne (wi_anti hw this)
        obtain ⟨x, hx, h1, h2⟩ := ih y hy (by omega)
        exact ⟨x, hx, wi_trans h1 hw, h2⟩
      · refine ⟨s, hs, wi_refl s, fun y hy hne => ?_⟩
        cases h1 : wi y s with
        | false => rfl
        | true => exact absurd ⟨y, hy, hne, h1⟩ h
  exact key _ s hs (Nat.le_refl _)
theorem leastM_mem (m : FM) (s : Stamp) : s ∈ leastM m ↔ s ∈ aboveM m ∧ ∀ y ∈ aboveM m, y ≠ s → wi y s = false := by
  unfold leastM
  rw [List.mem_filter]
  simp only [Bool.not_eq_true', List.any_eq_false, Bool.and_eq_true, not_and, Bool.not_eq_true, decide_eq_false_iff_not]
theorem aboveM_mem (m : FM) (hk : (m.map (·.1)).Nodup) (s : Stamp) : s ∈ aboveM m ↔ mgetD m s 0 > 0 := by
  unfold aboveM
  rw [sortT_mem]
  simp only [List.mem_map, List.mem_filter, posM, decide_eq_true_eq]
  rw [mgetD_mkO]
  constructor
  · rintro ⟨⟨s', v⟩, ⟨h1, h2⟩, rfl⟩
    rw [mkO_of_mem hk h1]
    exact h2
  · intro h
    cases h1 : mkO m s with
    | none => rw [h1] at h; simp at h
    | some v => rw [h1] at h; exact ⟨(s, v), ⟨mkO_mem h1, h⟩, rfl⟩
theorem aboveM_lt (m : FM) (hk : (m.map (·.1)).Nodup) : (aboveM m).Pairwise tLt := sortT_lt (hk.sublist ((List.filter_sublist ..).map _))
theorem leastM_lt (m : FM) (hk : (m.map (·.1)).Nodup) : (leastM m).Pairwise tLt := (aboveM_lt m hk).sublist List.filter_sublist
theorem passedM_least (m : FM) (s : Stamp) : passedM m s = (leastM m).all fun x => !wi x s := by
  rw [Bool.eq_iff_iff]
  unfold passedM
  simp only [Bool.not_eq_true', List.any_eq_false, List.all_eq_true, Bool.not_eq_true]
  constructor
  · intro h x hx
    exact h x ((leastM_mem m x).1 hx).1
  · intro h x hx
    cases h1 : wi x s with
    | false => rfl
    | true =>
      obtain ⟨y, hy, h2, h3⟩ := least_below _ x hx
      have := h y ((leastM_mem m y).2 ⟨hy, h3⟩)
      rw [wi_trans h2 h1] at this
      cases this
/-- The same counts: the same front. -/
theorem front_ext {m m' : FM} (h : (m.map (·.1)).Nodup) (h' : (m'.map (·.1)).Nodup) (he : ∀ s, mgetD m s 0 = mgetD m' s 0) : aboveM m = aboveM m' :=
  tLt_unique (aboveM_lt m h) (aboveM_lt m' h') fun s => by rw [aboveM_mem m h, aboveM_mem m' h', he]
end Go.Proofs.Ytkgjfcjciigcgaa
