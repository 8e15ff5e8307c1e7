/-
  Maps whose rows are slices with blocks of their own; what is known, in another order. No program in sight.
-/
import Derived.Test.YtkgjfcjciigcgaaSlOff
namespace Go.Proofs.Ytkgjfcjciigcgaa.Sl
open Go.RowKit
set_option linter.unusedVariables false
set_option linter.unusedSectionVars false

/-! ### a map's entry -/
section
variable {κ ν : Type} [DecidableEq κ]
def lkM : List (κ × ν) → κ → Option ν
  | [], _ => none
  | x :: r, c => if x.1 = c then some x.2 else lkM r c
theorem fnd_shiftM (k : κ) : ∀ (m : List (κ × ν)) (i : Nat), fnd k m (i + 1) = (fnd k m i).map fun y => (y.1 + 1, y.2)
  | [], i => rfl
  | x :: r, i => by
    unfold fnd
    split
    · rfl
    · exact fnd_shiftM k r (i + 1)
theorem fnd_lk (k : κ) : ∀ (m : List (κ × ν)) (i : Nat), (fnd k m i).map (·.2) = lkM m k
  | [], i => rfl
  | x :: r, i => by
    unfold fnd lkM
    by_cases h : k = x.1
    · rw [if_pos h, if_pos h.symm]; rfl
    · rw [if_neg h, if_neg (fun e => h e.symm), fnd_lk k r]
theorem mgetD_lk (m : List (κ × ν)) (k : κ) (d : ν) : mgetD m k d = (lkM m k).getD d := by
  have := fnd_lk k m 0
  unfold mgetD
  cases h : fnd k m 0 with
  | none => rw [h] at this; rw [← this]; rfl
  | some y => rw [h] at this; rw [← this]; rfl
theorem fnd_isSome_lk (m : List (κ × ν)) (k : κ) : (fnd k m 0).isSome = (lkM m k).isSome := by rw [← fnd_lk k m 0, Option.isSome_map]
theorem mset_consM (x : κ × ν) (r : List (κ × ν)) (k : κ) (v : ν) : mset (x :: r) k v = if k = x.1 then (k, v) :: r else x :: mset r k v := by
  unfold mset
  rw [fnd]
  by_cases h : k = x.1
  · rw [if_pos h, if_pos h]; rfl
  · rw [if_neg h, if_neg h, fnd_shiftM]
    cases fnd k r 0 <;> rfl
theorem lkM_mset (k c : κ) (v : ν) : ∀ m : List (κ × ν), lkM (mset m k v) c = if k = c then some v else lkM m c
  | [] => by simp [mset, fnd, lkM]
  | x :: r => by
    rw [mset_consM]
    by_cases h : k = x.1
    · rw [if_pos h, lkM, lkM]
      by_cases h2 : k = c
      · rw [if_pos h2, if_pos h2]
      · rw [if_neg h2, if_neg h2, if_neg (fun e => h2 (h.trans e))]
    · rw [if_neg h, lkM, lkM, lkM_mset k c v r]
      by_cases h2 : x.1 = c
      · rw [if_pos h2, if_pos h2, if_neg (fun e => h (e.trans h2.symm))]
      · rw [if_neg h2, if_neg h2]
theorem mgetD_msetM (m : List (κ × ν)) (k c : κ) (v d : ν) : mgetD (mset m k v) c d = if k = c then v else mgetD m c d := by
  rw [mgetD_lk, mgetD_lk, lkM_mset]
  split <;> rfl
theorem lkM_none {m : List (κ × ν)} {k : κ} : lkM m k = none ↔ k ∉ m.map (·.1) := by
  induction m with
  | nil => simp [lkM]
  | cons x r ih =>
    unfold lkM
    by_cases h : x.1 = k
    · rw [if_pos h]; simp [h]
    · rw [if_neg h, ih]
      simp only [List.map_cons, List.mem_cons, not_or]
      exact ⟨fun h' => ⟨fun e => h e.symm, h'⟩, fun h' => h'.2⟩
theorem mset_lenM (m : List (κ × ν)) (k : κ) (v : ν) : (mset m k v).length ≤ m.length + 1 := by
  unfold mset
  split <;> simp
end

/-! ### rows -/
structure Rw (α : Type) where
  p : Option Nat
  c : Nat
  xs : List α
  sp : List Value
section
variable {α κ : Type} [DecidableEq κ]
def Rw.none : Rw α := ⟨Option.none, 0, [], []⟩
def Rw.v (r : Rw α) : Value := .slice (r.p.map ad) r.xs.length r.c
def Rw.K (f : α → List Value) (t : TypeId) (r : Rw α) : Kl := ow r.p true (cat f r.xs ++ r.sp) t
def Rw.Ow (f : α → List Value) (k : Nat) (r : Rw α) : Prop := Sl.Ow r.p r.xs.length r.c k (cat f r.xs) r.sp
theorem Rw.none_K {f : α → List Value} {t : TypeId} : (Rw.none : Rw α).K f t = [] := rfl
theorem Rw.none_Ow {f : α → List Value} {k : Nat} : (Rw.none : Rw α).Ow f k := Ow.none0
@[irreducible] def rowsK (f : α → List Value) (t : TypeId) (R : κ → Rw α) (L : List κ) : Kl := L.flatMap fun c => (R c).K f t
theorem rowsK_pick {f : α → List Value} {t : TypeId} {R : κ → Rw α} {L : List κ} {c : κ} (hc : c ∈ L) : (rowsK f t R L).Perm ((R c).K f t ++ rowsK f t R (L.erase c)) := by
  unfold rowsK
  have h := (List.perm_cons_erase hc).flatMap_right (fun c => (R c).K f t)
  rwa [List.flatMap_cons] at h
def upd (R : κ → Rw α) (c : κ) (x : Rw α) : κ → Rw α := fun d => if c = d then x else R d
theorem upd_self {R : κ → Rw α} {c : κ} {x : Rw α} : upd R c x c = x := by simp [upd]
theorem upd_ne {R : κ → Rw α} {c d : κ} {x : Rw α} (h : c ≠ d) : upd R c x d = R d := by simp [upd, h]
theorem rowsK_upd {f : α → List Value} {t : TypeId} {R : κ → Rw α} {L : List κ} {c : κ} {x : Rw α} (hn : L.Nodup) (hc : c ∈ L) : (rowsK f t (upd R c x) L).Perm (x.K f t ++ rowsK f t R (L.erase c)) := by
  have h := rowsK_pick (f := f) (t := t) (R := upd R c x) hc
  rw [upd_self] at h
  have e : rowsK f t (upd R c x) (L.erase c) = rowsK f t R (L.erase c) := by
    unfold rowsK
    rw [List.flatMap_def, List.flatMap_def]
    refine congrArg _ (List.map_congr_left fun d hd => ?_)
    rw [upd_ne]
    intro e
    subst e
    exact (hn.mem_erase_iff.1 hd).1 rfl
  rwa [e] at h
theorem rowsK_none {f : α → List Value} {t : TypeId} {L : List κ} : rowsK f t (fun _ => Rw.none) L = [] := by
  unfold rowsK
  simp [Rw.none_K]
theorem rowsK_wr {f : α → List Value} {t : TypeId} {R : κ → Rw α} {L : List κ} : ∀ e ∈ rowsK f t R L, e.2.1 = true := by
  intro e he
  unfold rowsK at he
  obtain ⟨c, _, hc⟩ := List.mem_flatMap.1 he
  exact ow_wr e hc
end

/-! ### in another order -/
section
attribute [local semireducible] GC GE GL GQ
variable {P : Program} {N : Nat} {F : Fl} {Q : Exit → Act → World → Prop} {w0 : World} {M : List Nat} {K K' : Kl}
theorem gc_perm {c : Code} (hp : K.Perm K') (h : GC P c Q N w0 M F K') : GC P c Q N w0 M F K := fun a W hF hW => h a W hF (hW.perm hp)
theorem gc_dropK {c : Code} (hp : K'.Sublist K) (h : GC P c Q N w0 M F K') : GC P c Q N w0 M F K := fun a W hF hW => h a W hF (hW.drop hp)
theorem ge_dropK {e : Exit} (hp : K'.Sublist K) (h : GE Q e N w0 M F K') : GE Q e N w0 M F K := fun a W hF hW => h a W hF (hW.drop hp)
theorem ge_perm {e : Exit} (hp : K.Perm K') (h : GE Q e N w0 M F K') : GE Q e N w0 M F K := fun a W hF hW => h a W hF (hW.perm hp)
end

/-! ### what stays as it is -/
/-- Where these blocks lie, φ holds. -/
def Fz (A : Kl) (φ : World → Prop) : Prop := ∀ W : World, (∀ e ∈ A, W.heap[e.1]? = some e.2.2) → φ W
inductive Kin (A : Kl) : Kl → Prop
  | hd {K : Kl} : Kin A (A ++ K)
  | fin : Kin A A
  | tl {K : Kl} {x : Nat × Bool × Obj} : Kin A K → Kin A (x :: K)
  | app {L K : Kl} : Kin A K → Kin A (L ++ K)
theorem Kin.mem {A K : Kl} (h : Kin A K) : ∀ e ∈ A, e ∈ K := by
  induction h with
  | hd => exact fun e he => List.mem_append_left _ he
  | fin => exact fun e he => he
  | tl _ ih => exact fun e he => List.mem_cons_of_mem _ (ih e he)
  | app _ ih => exact fun e he => List.mem_append_right _ (ih e he)
theorem c_kin {p : Prop} (h : p := by repeat first | exact Kin.hd | exact Kin.fin | apply Kin.tl | apply Kin.app) : p := h
section
variable {w0 W : World} {M : List Nat} {A B K : Kl} {φ ψ : World → Prop}
theorem Fz.at' (h : Fz A φ) (hW : St w0 M K W) (hk : Kin A K) : φ W := h W fun e he => hW.known e (hk.mem e he)
theorem Fz.left (h : Fz A φ) : Fz (A ++ B) φ := fun W hW => h W fun e he => hW e (List.mem_append_left _ he)
theorem Fz.right (h : Fz A φ) : Fz (B ++ A) φ := fun W hW => h W fun e he => hW e (List.mem_append_right _ he)
theorem Fz.sub (h : Fz A φ) (hs : ∀ e ∈ A, e ∈ B) : Fz B φ := fun W hW => h W fun e he => hW e (hs e he)
theorem Fz.imp (h : Fz A φ) (hs : ∀ W, φ W → ψ W) : Fz A ψ := fun W hW => hs W (h W hW)
theorem Fz.and (h : Fz A φ) (h' : Fz A ψ) : Fz A (fun W => φ W ∧ ψ W) := fun W hW => ⟨h W hW, h' W hW⟩
theorem st_ow {W : World} {p : Option Nat} {cs : List Value} {e : TypeId} (h : ∀ x ∈ ow p true cs e, W.heap[x.1]? = some x.2.2) : St W ((ow p true cs e).map (·.1)) (ow p true cs e) W := by
  refine ⟨rfl, rfl, rfl, Nat.le_refl _, fun _ _ _ => rfl, h, fun x hx _ => .inr (List.mem_map.2 ⟨x, hx, rfl⟩), ?_, Nat.le_refl _⟩
  cases p with
  | none => exact List.Pairwise.nil
  | some g => exact List.pairwise_singleton _ _
theorem fz_cat {α : Type} [Inhabited α] {f : α → List Value} {k n c : Nat} (hf : ∀ x, (f x).length = k) {l : List α} {p : Option Nat} {sp : List Value} {e : TypeId} (hn : n = l.length) (hw : Ow p n c k (cat f l) sp) : Fz (ow p true (cat f l ++ sp) e) fun W => SlA W k (p.map ad) n (fun i => f (l.getD i default)) :=
  fun W hW => slA_cat hf hn (st_ow hW) Oa.self hw
theorem fz_row {α κ : Type} [DecidableEq κ] [Inhabited α] {f : α → List Value} {k : Nat} {t : TypeId} (hf : ∀ x, (f x).length = k) {R : κ → Rw α} {L : List κ} {c : κ} (hc : c ∈ L) (hw : (R c).Ow f k) : Fz (rowsK f t R L) fun W => SlA W k ((R c).p.map ad) (R c).xs.length (fun i => f ((R c).xs.getD i default)) :=
  (fz_cat (e := t) hf rfl hw).sub fun e he => (rowsK_pick hc).mem_iff.2 (List.mem_append_left _ he)
end
end Go.Proofs.Ytkgjfcjciigcgaa.Sl
