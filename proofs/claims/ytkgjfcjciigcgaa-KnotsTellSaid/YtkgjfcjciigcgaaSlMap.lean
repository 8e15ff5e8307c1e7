/-
  Maps: what a map's block holds, and what each operation upon it does, as one step. No program in sight.
-/
import Derived.Test.YtkgjfcjciigcgaaSlMod
import Derived.Maps.RangeRun
namespace Go.Proofs.Ytkgjfcjciigcgaa.Sl
open Go.RowKit
open Go.ChangeMaps (setBlock)
set_option linter.unusedVariables false
set_option linter.unusedSectionVars false
set_option linter.unusedSimpArgs false

/-! ### 1. Keys -/
/-- A struct type of keys: what 'equal', the look at a key and the stored key say. -/
structure KeyLaw (P : Program) (kt : TypeId) {κ : Type} [DecidableEq κ] (kf : κ → Value) : Prop where
  und : ∃ g, P.underlying kt = some (.struct g)
  eq : ∀ a b w, (Op.equal kt (kf a) (kf b)).run P w = .ok (decide (a = b)) w
  check : ∀ e a w, (Instr.checkKey e 10000 kt (kf a)).run P w = .ok () w
  bits : ∀ a, Instr.sameBits 10000 (kf a) (kf a) = true

section
variable {P : Program} {κ ν : Type} [DecidableEq κ] {kf : κ → Value} {vf : ν → Value} {kt et mt : TypeId} {w : World}

def fnd (k : κ) : List (κ × ν) → Nat → Option (Nat × ν)
  | [], _ => none
  | x :: r, i => if k = x.1 then some (i, x.2) else fnd k r (i + 1)
theorem fnd_none {k : κ} : ∀ {m : List (κ × ν)} {i : Nat}, fnd k m i = none ↔ ∀ x ∈ m, x.1 ≠ k
  | [], i => by simp [fnd]
  | x :: r, i => by
    unfold fnd
    split
    · rename_i h; simp [h]
    · rename_i h
      rw [fnd_none]
      simp only [List.mem_cons, forall_eq_or_imp]
      exact ⟨fun h' => ⟨fun e => h e.symm, h'⟩, fun h' => h'.2⟩
theorem fnd_some {k : κ} : ∀ {m : List (κ × ν)} {i j : Nat} {v : ν}, fnd k m i = some (j, v) → i ≤ j ∧ m[j - i]? = some (k, v)
  | [], i, j, v, h => by simp [fnd] at h
  | x :: r, i, j, v, h => by
    unfold fnd at h
    split at h
    · rename_i h'
      cases h
      exact ⟨Nat.le_refl _, by simp [h']⟩
    · obtain ⟨h1, h2⟩ := fnd_some h
      refine ⟨by omega, ?_⟩
      rw [show j - i = (j - (i + 1)) + 1 by omega]
      simpa using h2

theorem run_asking (kl : KeyLaw P kt kf) (k : κ) (w : World) : ∀ (m : List (κ × ν)) (es : List MapEntry) (i : Nat), es.map (fun e => (e.key, e.val)) = m.map (fun x => (kf x.1, vf x.2)) →
    (Instr.findAsking kt (kf k) es i).run P w = .ok ((fnd k m i).map fun x => (x.1, vf x.2)) w
  | [], [], i, _ => by simp [Instr.findAsking, fnd]
  | [], _ :: _, i, h => by simp at h
  | _ :: _, [], i, h => by simp at h
  | x :: r, e :: es, i, h => by
    simp only [List.map_cons, List.cons.injEq, Prod.mk.injEq] at h
    obtain ⟨⟨h1, h2⟩, h3⟩ := h
    have h4 := kl.eq k x.1 w
    rw [← h1] at h4
    unfold Instr.findAsking fnd
    simp only [Sem.run_bind, h4, Result.andThen_ok]
    by_cases hk : k = x.1
    · simp [hk, h2]
    · simp only [hk, decide_false, Bool.false_eq_true, if_false]
      exact run_asking kl k w r es (i + 1) h3
theorem run_find (kl : KeyLaw P kt kf) (k : κ) {m : List (κ × ν)} {es : List MapEntry} (h : es.map (fun e => (e.key, e.val)) = m.map (fun x => (kf x.1, vf x.2))) (w : World) :
    (Instr.findKey kt (kf k) es).run P w = .ok ((fnd k m 0).map fun x => (x.1, vf x.2)) w := by
  obtain ⟨g, hg⟩ := kl.und
  unfold Instr.findKey
  simp only [Sem.run_bind, run_underlying hg, Result.andThen_ok]
  cases es with
  | nil =>
    cases m with
    | nil => simp [Instr.findNow, fnd]
    | cons x r => simp at h
  | cons e r =>
    have : Instr.findNow (.struct g) (kf k) (e :: r) 0 = none := by simp [Instr.findNow, Instr.sameNow]
    rw [this]
    exact run_asking kl k w m _ 0 h

/-! ### 2. A map's block -/
structure Mp (kf : κ → Value) (vf : ν → Value) (m : List (κ × ν)) (es : Array MapEntry) (clock : Nat) : Prop where
  ent : es.toList.map (fun e => (e.key, e.val)) = m.map (fun x => (kf x.1, vf x.2))
  keys : (m.map (·.1)).Nodup
  born : es.toList.Pairwise (fun x y => x.born < y.born)
  lt : ∀ e ∈ es.toList, e.born < clock

theorem Mp.nil : Mp kf vf [] #[] 0 := ⟨rfl, List.nodup_nil, by simp, by simp⟩
theorem Mp.size {m : List (κ × ν)} {es : Array MapEntry} {clock : Nat} (h : Mp kf vf m es clock) : es.size = m.length := by
  have := congrArg List.length h.ent
  simpa using this
theorem Mp.at {m : List (κ × ν)} {es : Array MapEntry} {clock i : Nat} (h : Mp kf vf m es clock) {x : κ × ν} (hx : m[i]? = some x) : ∃ e, es.toList[i]? = some e ∧ e.key = kf x.1 ∧ e.val = vf x.2 := by
  have h1 := congrArg (fun l => l[i]?) h.ent
  simp only [List.getElem?_map, hx, Option.map_some] at h1
  cases he : es.toList[i]? with
  | none => rw [he] at h1; cases h1
  | some e => rw [he] at h1; simp at h1; exact ⟨e, rfl, h1.1, h1.2⟩
/-- 'm[k] = v'. -/
def mset (m : List (κ × ν)) (k : κ) (v : ν) : List (κ × ν) := match fnd k m 0 with
  | none => m ++ [(k, v)]
  | some x => m.set x.1 (k, v)
/-- 'm[k]', or what is there of none. -/
def mgetD (m : List (κ × ν)) (k : κ) (d : ν) : ν := match fnd k m 0 with
  | none => d
  | some x => x.2

theorem Mp.push {m : List (κ × ν)} {es : Array MapEntry} {clock : Nat} (h : Mp kf vf m es clock) {k : κ} {v : ν} (hk : fnd k m 0 = none) : Mp kf vf (m ++ [(k, v)]) (es.push ⟨kf k, vf v, clock⟩) (clock + 1) := by
  refine ⟨by simp [h.ent], ?_, ?_, fun e he => ?_⟩
  · rw [List.map_append, List.nodup_append]
    refine ⟨h.keys, by simp, fun a ha b hb => ?_⟩
    simp at hb
    subst hb
    obtain ⟨x, hx, rfl⟩ := List.mem_map.1 ha
    exact fnd_none.1 hk x hx
  · rw [Array.toList_push, List.pairwise_append]
    exact ⟨h.born, by simp, fun a ha b hb => by simp at hb; subst hb; exact h.lt a ha⟩
  · rw [Array.toList_push] at he
    rcases List.mem_append.1 he with he | he
    · have := h.lt e he; omega
    · simp at he; subst he; simp
theorem Mp.modify {m : List (κ × ν)} {es : Array MapEntry} {clock j : Nat} (h : Mp kf vf m es clock) {k : κ} {v v' : ν} (hk : m[j]? = some (k, v)) {f : MapEntry → MapEntry} (hf : ∀ e, e.key = kf k → e.val = vf v → (f e).key = kf k ∧ (f e).val = vf v' ∧ (f e).born = e.born) : Mp kf vf (m.set j (k, v')) (es.modify j f) clock := by
  obtain ⟨e, he, hek, hev⟩ := h.at hk
  obtain ⟨f1, f2, f3⟩ := hf e hek hev
  have hl : (es.modify j f).toList = es.toList.modify j f := by simp
  have hb : (es.modify j f).toList.map (·.born) = es.toList.map (·.born) := by
    rw [hl]
    apply List.ext_getElem?
    intro i
    simp only [List.getElem?_map, List.getElem?_modify]
    by_cases hi : j = i
    · subst hi; rw [he]; simp [f3]
    · cases es.toList[i]? <;> simp [hi]
  refine ⟨?_, ?_, ?_, fun x hx => ?_⟩
  · rw [hl]
    apply List.ext_getElem?
    intro i
    have h1 := congrArg (fun l => l[i]?) h.ent
    simp only [List.getElem?_map] at h1
    simp only [List.getElem?_map, List.getElem?_modify, List.getElem?_set]
    by_cases hi : j = i
    · subst hi
      rw [he] at h1 ⊢
      have : j < m.length := (List.getElem?_eq_some_iff.1 hk).1
      simp [f1, f2, this]
    · simp only [hi, if_false]
      rw [← h1]
      cases es.toList[i]? <;> simp
  · have : (m.set j (k, v')).map (·.1) = m.map (·.1) := by
      apply List.ext_getElem?
      intro i
      simp only [List.getElem?_map, List.getElem?_set]
      by_cases hi : j = i
      · subst hi
        obtain ⟨this, hk'⟩ := List.getElem?_eq_some_iff.1 hk
        simp [hk', this]
      · simp [hi]
    rw [this]
    exact h.keys
  · have h2 : (es.toList.map (fun x => x.born)).Pairwise (· < ·) := List.pairwise_map.2 h.born
    rw [← hb] at h2
    exact List.pairwise_map.1 h2
  · have : x.born ∈ es.toList.map (·.born) := by rw [← hb]; exact List.mem_map.2 ⟨x, hx, rfl⟩
    obtain ⟨y, hy, hyb⟩ := List.mem_map.1 this
    rw [← hyb]
    exact h.lt y hy

/-! ### 3. The operations, run -/
theorem setBlock_get {w : World} {g : Nat} {o o' : Obj} (h : w.heap[g]? = some o) : (setBlock w g o').heap[g]? = some o' ∧ (∀ b, b ≠ g → (setBlock w g o').heap[b]? = w.heap[b]?) ∧ (setBlock w g o').heap.size = w.heap.size ∧ (setBlock w g o').os = w.os ∧ (setBlock w g o').tape = w.tape ∧ ((setBlock w g o').output = w.output ∧ (setBlock w g o').drawn = w.drawn) := by
  have hlt := (Array.getElem?_eq_some_iff.1 h).1
  refine ⟨by simp [setBlock, hlt], fun b hb => ?_, by simp [setBlock], rfl, rfl, rfl, rfl⟩
  simp only [setBlock]
  rw [Array.getElem?_setIfInBounds_ne (fun e => hb e.symm)]
theorem run_setMap {g : Nat} {es : Array MapEntry} {clock : Nat} (o : Obj) (hb : w.heap[g]? = some (.map es clock)) : (setObj g o).run P w = .ok () (setBlock w g o) := by
  simp [setObj, Sem.run, hb, setBlock]
theorem run_getMap {g : Nat} {es : Array MapEntry} {clock : Nat} (hb : w.heap[g]? = some (.map es clock)) : (getObj g).run P w = .ok (.map es clock) w := by
  simp [getObj, Sem.run, hb]
theorem run_stays (kl : KeyLaw P kt kf) (k : κ) : (Instr.keyThatStays (kf k) (kf k)).run P w = .ok (kf k) w := by
  simp [Instr.keyThatStays, kl.bits k]

theorem run_mapUpdate (kl : KeyLaw P kt kf) (hm : P.underlying mt = some (.map kt et)) {g : Nat} {m : List (κ × ν)} {es : Array MapEntry} {clock : Nat} (hb : w.heap[g]? = some (.map es clock)) (h : Mp kf vf m es clock) (k : κ) (v : ν) :
    ∃ es' clock', (Instr.mapUpdate mt (.map (some g)) (kf k) (vf v)).run P w = .ok () (setBlock w g (.map es' clock')) ∧ Mp kf vf (mset m k v) es' clock' := by
  have hf := run_find (vf := vf) kl k h.ent w
  cases hj : fnd k m 0 with
  | none =>
    rw [hj] at hf
    refine ⟨_, _, ?_, by rw [mset, hj]; exact h.push hj⟩
    simp [Instr.mapUpdate, run_underlying hm, run_getMap hb, kl.check, hf, run_setMap _ hb]
  | some x =>
    obtain ⟨j, v0⟩ := x
    rw [hj] at hf
    have hk := (fnd_some hj).2
    rw [Nat.sub_zero] at hk
    obtain ⟨e, he, hek, hev⟩ := h.at hk
    have he' : es[j]? = some e := by simpa using he
    refine ⟨es.modify j fun e => { e with key := kf k, val := vf v }, clock, ?_, by rw [mset, hj]; exact h.modify hk fun e _ _ => ⟨rfl, rfl, rfl⟩⟩
    simp [Instr.mapUpdate, run_underlying hm, run_getMap hb, kl.check, hf, he', hek, run_stays kl, run_setMap _ hb]

theorem map_erase {α β : Type} (f : α → β) : ∀ (l : List α) (i : Nat), (l.eraseIdx i).map f = (l.map f).eraseIdx i
  | [], i => by simp
  | x :: r, 0 => by simp
  | x :: r, i + 1 => by simp [map_erase f r i]
/-- 'delete(m, k)'. -/
def mdel (m : List (κ × ν)) (k : κ) : List (κ × ν) := match fnd k m 0 with
  | none => m
  | some x => m.eraseIdx x.1
theorem Mp.erase {m : List (κ × ν)} {es : Array MapEntry} {clock : Nat} (h : Mp kf vf m es clock) (j : Nat) : Mp kf vf (m.eraseIdx j) (es.eraseIdxIfInBounds j) clock := by
  have e : (es.eraseIdxIfInBounds j).toList = es.toList.eraseIdx j := by simp
  refine ⟨?_, ?_, ?_, fun x hx => ?_⟩
  · rw [e]
    have h1 := congrArg (fun l => l.eraseIdx j) h.ent
    rw [map_erase, map_erase]
    exact h1
  · rw [map_erase]
    exact h.keys.sublist (List.eraseIdx_sublist _ _)
  · rw [e]
    exact h.born.sublist (List.eraseIdx_sublist _ _)
  · rw [e] at hx
    exact h.lt x ((List.eraseIdx_sublist _ _).subset hx)
theorem run_delete (kl : KeyLaw P kt kf) (hm : P.underlying mt = some (.map kt et)) {g : Nat} {m : List (κ × ν)} {es : Array MapEntry} {clock : Nat} (hb : w.heap[g]? = some (.map es clock)) (h : Mp kf vf m es clock) (k : κ) (kt' ty : TypeId) :
    ∃ es', (Builtin.delete_ #[mt, kt'] ty #[.map (some g), kf k]).run P w = .ok (.tuple #[]) (setBlock w g (.map es' clock)) ∧ Mp kf vf (mdel m k) es' clock := by
  have hf := run_find (vf := vf) kl k h.ent w
  cases hj : fnd k m 0 with
  | none =>
    rw [hj] at hf
    refine ⟨es, ?_, by rw [mdel, hj]; exact h⟩
    simp [Builtin.delete_, run_underlying hm, run_getMap hb, kl.check, hf, run_setMap _ hb]
  | some x =>
    rw [hj] at hf
    refine ⟨es.eraseIdxIfInBounds x.1, ?_, by rw [mdel, hj]; exact h.erase x.1⟩
    simp [Builtin.delete_, run_underlying hm, run_getMap hb, kl.check, hf, run_setMap _ hb]

theorem run_mapEntry (kl : KeyLaw P kt kf) (hm : P.underlying mt = some (.map kt et)) {z : ν} (hz : (zeroValue et).run P w = .ok (vf z) w) {g : Nat} {m : List (κ × ν)} {es : Array MapEntry} {clock : Nat} (hb : w.heap[g]? = some (.map es clock)) (h : Mp kf vf m es clock) (k : κ) :
    ∃ es' clock' m' j st, (Instr.mapEntry mt (.map (some g)) (kf k)).run P w = .ok (.tuple #[vf (mgetD m k z), goInt (st : Nat)]) (setBlock w g (.map es' clock')) ∧ Mp kf vf m' es' clock' ∧ m'[j]? = some (k, mgetD m k z) ∧ (∀ v, m'.set j (k, v) = mset m k v) ∧ (es'[j]?).map (·.born) = some st := by
  have hf := run_find (vf := vf) kl k h.ent w
  cases hj : fnd k m 0 with
  | none =>
    rw [hj] at hf
    refine ⟨es.push ⟨kf k, vf z, clock⟩, clock + 1, m ++ [(k, z)], m.length, clock, ?_, h.push hj, by simp [mgetD, hj], fun v => by simp [mset, hj], by simp [← h.size]⟩
    simp [Instr.mapEntry, run_underlying hm, run_getMap hb, kl.check, hf, run_setMap _ hb, hz, mgetD, hj]
  | some x =>
    obtain ⟨j, v0⟩ := x
    rw [hj] at hf
    have hk := (fnd_some hj).2
    rw [Nat.sub_zero] at hk
    obtain ⟨e, he, hek, hev⟩ := h.at hk
    have he' : es[j]? = some e := by simpa using he
    have hms : m.set j (k, v0) = m := by
      apply List.ext_getElem?
      intro i
      rw [List.getElem?_set]
      by_cases hi : j = i
      · subst hi; obtain ⟨h1, h2⟩ := List.getElem?_eq_some_iff.1 hk; simp [h1, h2]
      · simp [hi]
    refine ⟨es.modify j fun e => { e with key := kf k }, clock, m, j, e.born, ?_, by have := h.modify hk (v' := v0) (f := fun e => { e with key := kf k }) (fun e _ h2 => ⟨rfl, h2, rfl⟩); rwa [hms] at this, by simp [mgetD, hj, hk], fun v => by simp [mset, hj], by simp [Array.getElem?_modify, he']⟩
    simp [Instr.mapEntry, run_underlying hm, run_getMap hb, kl.check, hf, he', hek, run_stays kl, run_setMap _ hb, mgetD, hj]

theorem Mp.born_idx {m : List (κ × ν)} {es : Array MapEntry} {clock j st : Nat} (h : Mp kf vf m es clock) (hs : (es[j]?).map (·.born) = some st) : es.findIdx? (fun e => (e.born : Int) == (st : Int)) = some j := by
  cases he : es[j]? with
  | none => rw [he] at hs; cases hs
  | some e =>
    rw [he] at hs
    simp at hs
    obtain ⟨hj, hje⟩ := Array.getElem?_eq_some_iff.1 he
    rw [Array.findIdx?_eq_some_iff_getElem]
    refine ⟨hj, by simp [hje, hs], fun i hi => ?_⟩
    have := List.pairwise_iff_getElem.1 h.born i j (by simp; omega) (by simpa using hj) hi
    simp only [Array.getElem_toList] at this
    rw [hje, hs] at this
    simp
    omega
theorem run_entryStore {g : Nat} {m : List (κ × ν)} {es : Array MapEntry} {clock j st : Nat} {k : κ} {v0 : ν} (hb : w.heap[g]? = some (.map es clock)) (h : Mp kf vf m es clock) (hk : m[j]? = some (k, v0)) (hs : (es[j]?).map (·.born) = some st) (v : ν) :
    ∃ es', (Instr.entryStore mt (.map (some g)) (goInt (st : Nat)) (vf v)).run P w = .ok () (setBlock w g (.map es' clock)) ∧ Mp kf vf (m.set j (k, v)) es' clock := by
  refine ⟨es.modify j fun e => { e with val := vf v }, ?_, h.modify hk fun e h1 _ => ⟨h1, rfl, rfl⟩⟩
  simp [Instr.entryStore, run_getMap hb, asInt, asIntOf, goInt, h.born_idx hs, run_setMap _ hb]

theorem run_lookup (c : Bool) (kl : KeyLaw P kt kf) (hm : P.underlying mt = some (.map kt et)) {z : ν} (hz : (zeroValue et).run P w = .ok (vf z) w) {g : Nat} {m : List (κ × ν)} {es : Array MapEntry} {clock : Nat} (hb : w.heap[g]? = some (.map es clock)) (h : Mp kf vf m es clock) (k : κ) :
    (Instr.lookup mt (.map (some g)) (kf k) c).run P w = .ok (if c then .tuple #[vf (mgetD m k z), .bool (fnd k m 0).isSome] else vf (mgetD m k z)) w := by
  have hf := run_find (vf := vf) kl k h.ent w
  cases hj : fnd k m 0 with
  | none => rw [hj] at hf; cases c <;> simp [Instr.lookup, run_underlying hm, run_getMap hb, kl.check, hf, hz, mgetD, hj]
  | some x => rw [hj] at hf; cases c <;> simp [Instr.lookup, run_underlying hm, run_getMap hb, kl.check, hf, mgetD, hj]
theorem run_lookupNil (c : Bool) (kl : KeyLaw P kt kf) (hm : P.underlying mt = some (.map kt et)) {z : Value} (hz : (zeroValue et).run P w = .ok z w) (k : κ) :
    (Instr.lookup mt (.map none) (kf k) c).run P w = .ok (if c then .tuple #[z, .bool false] else z) w := by
  have hf := run_find (vf := fun x : Value => x) kl k (m := []) (es := []) rfl w
  cases c <;> simp [Instr.lookup, run_underlying hm, kl.check, hf, hz, fnd]

/-! ### 4. A range over a map -/
/-- What has come up: 'out', in that order. -/
structure Rng (m : List (κ × ν)) (es : Array MapEntry) (seen : Array Nat) (out : List (κ × ν)) : Prop where
  ix : ∃ ix : List Nat, ix.Nodup ∧ (∀ i ∈ ix, i < m.length) ∧ seen.toList.map some = ix.map (fun i => (es.toList[i]?).map (·.born)) ∧ out.map some = ix.map (fun i => m[i]?)
theorem Rng.start {m : List (κ × ν)} {es : Array MapEntry} : Rng m es #[] [] := ⟨[], List.nodup_nil, by simp, by simp, by simp⟩

theorem Mp.born_inj {m : List (κ × ν)} {es : Array MapEntry} {clock : Nat} (h : Mp kf vf m es clock) {i j : Nat} {e e' : MapEntry} (h1 : es.toList[i]? = some e) (h2 : es.toList[j]? = some e') (hb : e.born = e'.born) : i = j := by
  obtain ⟨hi, rfl⟩ := List.getElem?_eq_some_iff.1 h1
  obtain ⟨hj, rfl⟩ := List.getElem?_eq_some_iff.1 h2
  rcases Nat.lt_trichotomy i j with h' | h' | h'
  · have := List.pairwise_iff_getElem.1 h.born i j hi hj h'; omega
  · exact h'
  · have := List.pairwise_iff_getElem.1 h.born j i hj hi h'; omega
theorem Rng.mem_iff {m : List (κ × ν)} {es : Array MapEntry} {clock : Nat} (h : Mp kf vf m es clock) {seen : Array Nat} {ix : List Nat} (hs : seen.toList.map some = ix.map (fun i => (es.toList[i]?).map (·.born))) {i : Nat} {e : MapEntry} (he : es.toList[i]? = some e) : e.born ∈ seen.toList ↔ i ∈ ix := by
  constructor
  · intro hm
    have : some e.born ∈ seen.toList.map some := List.mem_map.2 ⟨_, hm, rfl⟩
    rw [hs] at this
    obtain ⟨j, hj, hje⟩ := List.mem_map.1 this
    cases hq : es.toList[j]? with
    | none => rw [hq] at hje; cases hje
    | some e' =>
      rw [hq] at hje
      simp at hje
      rw [h.born_inj he hq hje.symm]
      exact hj
  · intro hm
    have : some e.born ∈ seen.toList.map some := by
      rw [hs]
      exact List.mem_map.2 ⟨i, hm, by simp [he]⟩
    simpa using this

theorem run_range {g : Nat} {es : Array MapEntry} {clock : Nat} {xt : TypeId} (hm : P.underlying xt = some (.map kt et)) (hb : w.heap[g]? = some (.map es clock)) : (Instr.range xt (.map (some g))).run P w = .ok (.pointer (some ⟨w.heap.size, 0, none⟩)) (w.alloc (.mapIter (some g) clock #[] clock)) := by
  simp [Instr.range, run_underlying hm, run_getMap hb, newObj, Sem.run]
theorem run_rangeNil {xt : TypeId} (hm : P.underlying xt = some (.map kt et)) : (Instr.range xt (.map none)).run P w = .ok (.pointer (some ⟨w.heap.size, 0, none⟩)) (w.alloc (.mapIter none 0 #[] 0)) := by
  simp [Instr.range, run_underlying hm, newObj, Sem.run]
theorem run_nextNil {r : Nat} {ty : TypeId} (hr : w.heap[r]? = some (.mapIter none 0 #[] 0)) : (Instr.next (.pointer (some ⟨r, 0, none⟩)) false ty).run P w = .ok (.tuple #[.bool false]) w := by
  simp [Instr.next, getObj, Sem.run, hr]

theorem run_nextMap {g r : Nat} {m : List (κ × ν)} {es : Array MapEntry} {clock : Nat} {seen : Array Nat} {out : List (κ × ν)} {ty : TypeId} (h : Mp kf vf m es clock) (hs : Rng m es seen out) (hr : w.heap[r]? = some (.mapIter (some g) clock seen clock)) (hb : w.heap[g]? = some (.map es clock)) :
    (out.Perm m ∧ (Instr.next (.pointer (some ⟨r, 0, none⟩)) false ty).run P w = .ok (.tuple #[.bool false]) w) ∨
    ∃ (x : κ × ν) (seen' : Array Nat) (w1 : World), (w1 = w ∨ w1 = w.drew) ∧ x ∈ m ∧ x ∉ out ∧ out.length < m.length ∧ Rng m es seen' (out ++ [x]) ∧ (Instr.next (.pointer (some ⟨r, 0, none⟩)) false ty).run P w = .ok (.tuple #[.bool true, kf x.1, vf x.2]) (setBlock w1 r (.mapIter (some g) clock seen' clock)) := by
  obtain ⟨ix, i1, i2, i3, i4⟩ := hs
  have hlen : out.length = ix.length := by have := congrArg List.length i4; simpa using this
  have hsz := h.size
  have hmi : ∀ {i j : Nat} {x : κ × ν}, m[i]? = some x → m[j]? = some x → i = j := fun {i j x} h1 h2 => by
    obtain ⟨hi, h1⟩ := List.getElem?_eq_some_iff.1 h1
    obtain ⟨hj, h2⟩ := List.getElem?_eq_some_iff.1 h2
    have hk := List.pairwise_iff_getElem.1 h.keys
    rcases Nat.lt_trichotomy i j with h' | h' | h'
    · exact absurd (by rw [List.getElem_map, List.getElem_map, h1, h2]) (hk i j (by simpa using hi) (by simpa using hj) h')
    · exact h'
    · exact absurd (by rw [List.getElem_map, List.getElem_map, h1, h2]) (hk j i (by simpa using hj) (by simpa using hi) h')
  rcases run_next_at (P := P) w ty r g clock clock seen es clock hr hb (fun x hx => h.lt x hx) (Nat.le_refl _) with ⟨h0, hrun⟩ | ⟨e, he, w1, hw1, hrun⟩
  · refine .inl ⟨?_, hrun⟩
    have hall : ∀ i, i < m.length → i ∈ ix := fun i hi => by
      have hi' : i < es.toList.length := by simpa [hsz] using hi
      have he := List.getElem?_eq_getElem hi'
      refine (Rng.mem_iff h i3 he).1 ?_
      have : Array.filter (fun e => !seen.contains e.born) es = #[] := Array.eq_empty_of_size_eq_zero h0
      rw [Array.filter_eq_empty_iff] at this
      have := this es.toList[i] (by simp)
      simpa using this
    have hp : ix.Perm (List.range m.length) := (List.perm_ext_iff_of_nodup i1 List.nodup_range).2 fun i => by simpa using ⟨i2 i, hall i⟩
    have h1 := hp.map (fun i => m[i]?)
    rw [← i4] at h1
    have h2 : (List.range m.length).map (fun i => m[i]?) = m.map some := by
      apply List.ext_getElem?
      intro i
      by_cases hi : i < m.length
      · simp [hi]
      · simp [hi]
    rw [h2] at h1
    have h3 := h1.filterMap id
    simpa [List.filterMap_map] using h3
  · have he2 : e ∈ es.toList ∧ e.born ∉ seen.toList := by
      unfold leftOf at he
      simp at he
      simpa using he
    obtain ⟨i, hi, hie⟩ := List.getElem_of_mem he2.1
    have he3 : es.toList[i]? = some e := by rw [List.getElem?_eq_getElem hi, hie]
    have hni : i ∉ ix := fun hm => he2.2 ((Rng.mem_iff h i3 he3).2 hm)
    have him : i < m.length := by simpa [hsz] using hi
    have hx : m[i]? = some m[i] := List.getElem?_eq_getElem him
    obtain ⟨e', he', hk', hv'⟩ := h.at hx
    rw [he3] at he'
    cases he'
    refine .inr ⟨m[i], seen.push e.born, w1, hw1, List.getElem_mem _, fun hm => ?_, ?_, ⟨ix ++ [i], ?_, ?_, ?_, ?_⟩, ?_⟩
    · have : some m[i] ∈ out.map some := List.mem_map.2 ⟨_, hm, rfl⟩
      rw [i4] at this
      obtain ⟨j, hj, hjm⟩ := List.mem_map.1 this
      exact hni (hmi hjm hx ▸ hj)
    · have hnd : (i :: ix).Nodup := List.nodup_cons.2 ⟨hni, i1⟩
      have := hnd.length_le_of_subset (l₂ := List.range m.length) (fun j hj => by
        rcases List.mem_cons.1 hj with rfl | hj
        · simpa using him
        · simpa using i2 j hj)
      simp at this
      omega
    · rw [List.nodup_append]
      exact ⟨i1, by simp, fun a ha b hb => by simp at hb; subst hb; exact fun e => hni (e ▸ ha)⟩
    · intro j hj
      rcases List.mem_append.1 hj with hj | hj
      · exact i2 j hj
      · simp at hj; subst hj; exact him
    · rw [Array.toList_push, List.map_append, List.map_append, i3, List.map_cons, List.map_nil, List.map_cons, List.map_nil, he3]; rfl
    · simp [i4, hx]
    · rw [hrun, hk', hv']
end

/-! ### 5. Steps -/
section
variable {P : Program} {T : Tab} {κ ν : Type} [DecidableEq κ] {kf : κ → Value} {vf : ν → Value} {N : Nat} {F : Fl} {a : Act} {l : List Oper} {o : Oper} {q : Bool} {C : World → Prop} {w0 : World} {M : List Nat} {K K' : Kl} {kt et mt : TypeId} {s bs s1 b1 : Nat} {z zl : List Value} {pm pk pv : Bool}

theorem ev_makeMap {R : Value → Kl → Prop} {t : TypeId} (hg : o.guard = none) (ho : o.op = .makeMap t none) (hR : ∀ g, w0.heap.size ≤ g → R (.map (some g)) ((g, true, .map #[] 0) :: K)) : Ev P o N w0 M F K R :=
  ev_new hg (.map #[] 0) (fun g => .map (some g)) (fun a W hF hW => by
    obtain ⟨dst, op, tp, pos, after, guard⟩ := o
    subst ho
    simp [execOp, Instr.makeMap, newObj, Sem.run]) hR

theorem St.setB {W : World} {g : Nat} {o1 o2 : Obj} (hW : St w0 M K W) (hk : Ku K g o1 o2 K') : St w0 M K' (setBlock W g o2) := by
  obtain ⟨h1, h2, h3, h4, h5, h6⟩ := setBlock_get (o' := o2) (hW.known _ hk.mem)
  exact hW.set hk h4 h5 h6 h3 h1 h2

theorem ev_mapUpdate {R : Value → Kl → Prop} {x y v : Operand} {g : Nat} {m : List (κ × ν)} {es : Array MapEntry} {clock : Nat} {k : κ} {u : ν} (kl : KeyLaw P kt kf) (hT : TabOk P T) (hg : o.guard = none) (ho : o.op = .mapUpdate mt x y v) (ht : ty T mt = some ⟨.map kt et, s, bs, z⟩)
    (hx : Fo F x = some (true, .map (some g))) (hy : Fo F y = some (true, kf k)) (hv : Fo F v = some (true, vf u)) (h : Mp kf vf m es clock) (hk : (g, true, .map es clock) ∈ K)
    (hR : ∀ es' clock', Mp kf vf (mset m k u) es' clock' → ∃ K', Ku K g (.map es clock) (.map es' clock') K' ∧ R undef K') : Ev P o N w0 M F K R := by
  refine ev_skip hg fun a W hF hW => ?_
  have e0 := hF.eval hx rfl
  have e1 := hF.eval hy rfl
  have e2 := hF.eval hv rfl
  have hb := hW.known _ hk
  obtain ⟨es', clock', h1, h2⟩ := run_mapUpdate (P := P) kl (hT mt _ ht).kind hb h k u
  obtain ⟨K', h3, h4⟩ := hR es' clock' h2
  refine ⟨_, K', ?_, hW.setB h3, h4⟩
  obtain ⟨dst, op, tp, pos, after, guard⟩ := o
  subst ho
  simp [execOp, e0, e1, e2, h1]
theorem ev_mapEntry {R : Value → Kl → Prop} {x y : Operand} {g : Nat} {m : List (κ × ν)} {es : Array MapEntry} {clock : Nat} {k : κ} {z0 : ν} (kl : KeyLaw P kt kf) (hT : TabOk P T) (hz : ∀ w, (zeroValue et).run P w = .ok (vf z0) w) (hg : o.guard = none) (ho : o.op = .mapEntry mt x y) (ht : ty T mt = some ⟨.map kt et, s, bs, z⟩)
    (hx : Fo F x = some (true, .map (some g))) (hy : Fo F y = some (true, kf k)) (h : Mp kf vf m es clock) (hk : (g, true, .map es clock) ∈ K)
    (hR : ∀ es' clock' m' j st, Mp kf vf m' es' clock' → m'[j]? = some (k, mgetD m k z0) → (∀ v, m'.set j (k, v) = mset m k v) → (es'[j]?).map (·.born) = some st → ∃ K', Ku K g (.map es clock) (.map es' clock') K' ∧ R (.tuple #[vf (mgetD m k z0), goInt (st : Nat)]) K') : Ev P o N w0 M F K R := by
  refine ev_run hg fun a W hF hW => ?_
  have e0 := hF.eval hx rfl
  have e1 := hF.eval hy rfl
  have hb := hW.known _ hk
  obtain ⟨es', clock', m', j, st, h1, h2, h3, h4, h5⟩ := run_mapEntry (P := P) kl (hT mt _ ht).kind (hz W) hb h k
  obtain ⟨K', h6, h7⟩ := hR es' clock' m' j st h2 h3 h4 h5
  refine ⟨_, _, K', ?_, hW.setB h6, h7⟩
  obtain ⟨dst, op, tp, pos, after, guard⟩ := o
  subst ho
  simp [execOp, e0, e1, h1]
theorem ev_entryStore {R : Value → Kl → Prop} {x y v : Operand} {g : Nat} {m : List (κ × ν)} {es : Array MapEntry} {clock j st : Nat} {k : κ} {v0 u : ν} (hg : o.guard = none) (ho : o.op = .entryStore mt x y v)
    (hx : Fo F x = some (true, .map (some g))) (hy : Fo F y = some (true, goInt (st : Nat))) (hv : Fo F v = some (true, vf u)) (h : Mp kf vf m es clock) (hj : m[j]? = some (k, v0)) (hs : (es[j]?).map (·.born) = some st) (hk : (g, true, .map es clock) ∈ K)
    (hR : ∀ es', Mp kf vf (m.set j (k, u)) es' clock → ∃ K', Ku K g (.map es clock) (.map es' clock) K' ∧ R undef K') : Ev P o N w0 M F K R := by
  refine ev_skip hg fun a W hF hW => ?_
  have e0 := hF.eval hx rfl
  have e1 := hF.eval hy rfl
  have e2 := hF.eval hv rfl
  have hb := hW.known _ hk
  obtain ⟨es', h1, h2⟩ := run_entryStore (P := P) (mt := mt) hb h hj hs u
  obtain ⟨K', h3, h4⟩ := hR es' h2
  refine ⟨_, K', ?_, hW.setB h3, h4⟩
  obtain ⟨dst, op, tp, pos, after, guard⟩ := o
  subst ho
  simp [execOp, e0, e1, e2, h1]

theorem ev_mapDelete {R : Value → Kl → Prop} {x y : Operand} {g : Nat} {m : List (κ × ν)} {es : Array MapEntry} {clock : Nat} {k : κ} {kt' : TypeId} (kl : KeyLaw P kt kf) (hT : TabOk P T) (hg : o.guard = none) (ho : o.op = .call ⟨.builtin .delete, #[x, y], #[mt, kt']⟩) (ht : ty T mt = some ⟨.map kt et, s, bs, z⟩)
    (hx : Fo F x = some (true, .map (some g))) (hy : Fo F y = some (true, kf k)) (h : Mp kf vf m es clock) (hk : (g, true, .map es clock) ∈ K)
    (hR : ∀ es', Mp kf vf (mdel m k) es' clock → ∃ K', Ku K g (.map es clock) (.map es' clock) K' ∧ R (.tuple #[]) K') : Ev P o N w0 M F K R := by
  refine ev_run hg fun a W hF hW => ?_
  have e0 := hF.eval hx rfl
  have e1 := hF.eval hy rfl
  have hb := hW.known _ hk
  obtain ⟨dst, op, tp, pos, after, guard⟩ := o
  subst ho
  obtain ⟨es', h1, h2⟩ := run_delete (P := P) kl (hT mt _ ht).kind hb h k kt' tp
  obtain ⟨K', h3, h4⟩ := hR es' h2
  refine ⟨_, _, K', ?_, hW.setB h3, h4⟩
  have hb : ∀ ats ty cs args, builtin .delete ats ty cs args = (do pure (.value (← Builtin.delete_ ats ty args))) := fun _ _ _ _ => rfl
  simp [execOp, resolve, invoke, e0, e1, hb, h1]
theorem ev_range {R : Value → Kl → Prop} {x : Operand} {b : Bool} {g : Nat} {es : Array MapEntry} {clock : Nat} (hT : TabOk P T) (hg : o.guard = none) (ho : o.op = .range mt x) (ht : ty T mt = some ⟨.map kt et, s, bs, z⟩) (hx : Fo F x = some (true, .map (some g))) (hk : (g, b, .map es clock) ∈ K)
    (hR : ∀ r, w0.heap.size ≤ r → R (.pointer (some ⟨r, 0, none⟩)) ((r, true, .mapIter (some g) clock #[] clock) :: K)) : Ev P o N w0 M F K R :=
  ev_new hg (.mapIter (some g) clock #[] clock) (fun r => .pointer (some ⟨r, 0, none⟩)) (fun a W hF hW => by
    have e0 := hF.eval hx rfl
    have h1 := run_range (P := P) (hT mt _ ht).kind (hW.known _ hk)
    obtain ⟨dst, op, tp, pos, after, guard⟩ := o
    subst ho
    simp [execOp, e0, h1]) hR
theorem ev_rangeNil {R : Value → Kl → Prop} {x : Operand} (hT : TabOk P T) (hg : o.guard = none) (ho : o.op = .range mt x) (ht : ty T mt = some ⟨.map kt et, s, bs, z⟩) (hx : Fo F x = some (true, .map none))
    (hR : ∀ r, w0.heap.size ≤ r → R (.pointer (some ⟨r, 0, none⟩)) ((r, true, .mapIter none 0 #[] 0) :: K)) : Ev P o N w0 M F K R :=
  ev_new hg (.mapIter none 0 #[] 0) (fun r => .pointer (some ⟨r, 0, none⟩)) (fun a W hF hW => by
    have e0 := hF.eval hx rfl
    have h1 := run_rangeNil (P := P) (w := W) (hT mt _ ht).kind
    obtain ⟨dst, op, tp, pos, after, guard⟩ := o
    subst ho
    simp [execOp, e0, h1]) hR
theorem ev_nextNil {R : Value → Kl → Prop} {x : Operand} {r : Nat} {b : Bool} (hg : o.guard = none) (ho : o.op = .next x false) (hx : Fo F x = some (true, .pointer (some ⟨r, 0, none⟩))) (hr : (r, b, .mapIter none 0 #[] 0) ∈ K) (hR : R (.tuple #[.bool false]) K) : Ev P o N w0 M F K R := by
  refine ev_run hg fun a W hF hW => ?_
  have e0 := hF.eval hx rfl
  have h1 := fun ty => run_nextNil (P := P) (ty := ty) (hW.known _ hr)
  refine ⟨W, _, K, ?_, hW, hR⟩
  obtain ⟨dst, op, tp, pos, after, guard⟩ := o
  subst ho
  simp [execOp, e0, h1]
/-- 'next': all has come up, in some order; or one more. -/
theorem ev_next {R : Value → Kl → Prop} {x : Operand} {r g : Nat} {b : Bool} {m : List (κ × ν)} {es : Array MapEntry} {clock : Nat} {seen : Array Nat} {out : List (κ × ν)} (hg : o.guard = none) (ho : o.op = .next x false) (hx : Fo F x = some (true, .pointer (some ⟨r, 0, none⟩)))
    (hr : (r, true, .mapIter (some g) clock seen clock) ∈ K) (hk : (g, b, .map es clock) ∈ K) (h : Mp kf vf m es clock) (hs : Rng m es seen out) (h0 : out.Perm m → R (.tuple #[.bool false]) K)
    (h1 : ∀ y seen', y ∈ m → y ∉ out → out.length < m.length → Rng m es seen' (out ++ [y]) → ∃ K', Ku K r (.mapIter (some g) clock seen clock) (.mapIter (some g) clock seen' clock) K' ∧ R (.tuple #[.bool true, kf y.1, vf y.2]) K') : Ev P o N w0 M F K R := by
  refine ev_run hg fun a W hF hW => ?_
  have e0 := hF.eval hx rfl
  have hN := fun ty => run_nextMap (P := P) (ty := ty) h hs (hW.known _ hr) (hW.known _ hk)
  obtain ⟨dst, op, tp, pos, after, guard⟩ := o
  subst ho
  rcases hN tp with ⟨hp, hrun⟩ | ⟨y, seen', w1, hw1, y1, y2, y3, y4, hrun⟩
  · exact ⟨W, _, K, by simp [execOp, e0, hrun], hW, h0 hp⟩
  · obtain ⟨K', k1, k2⟩ := h1 y seen' y1 y2 y3 y4
    refine ⟨setBlock w1 r (.mapIter (some g) clock seen' clock), _, K', by simp [execOp, e0, hrun], ?_, k2⟩
    have hW1 : St w0 M K w1 := by
      rcases hw1 with rfl | rfl
      · exact hW
      · exact hW.drawn _
    exact hW1.setB k1

theorem yv_lookup {c : Bool} {x y : Operand} {g : Nat} {b : Bool} {m : List (κ × ν)} {es : Array MapEntry} {clock : Nat} {k : κ} {z0 : ν} (kl : KeyLaw P kt kf) (hT : TabOk P T) (hz : ∀ w, (zeroValue et).run P w = .ok (vf z0) w) (hg : Gok l F o q) (ho : o.op = .lookup mt x y c) (ht : ty T mt = some ⟨.map kt et, s, bs, z⟩)
    (hx : Fo F x = some (pm, .map (some g))) (hy : Fo F y = some (pk, kf k)) (hp : q = true → pm = true) (hp' : q = true → pk = true) (h : Mp kf vf m es clock) (hk : (g, b, .map es clock) ∈ K) : Yv P (St w0 M K) l N F o q (if c then .tuple #[vf (mgetD m k z0), .bool (fnd k m 0).isSome] else vf (mgetD m k z0)) :=
  yv_value hg fun a hF hq w hw => by
    have e0 := hF.eval hx (hp hq)
    have e1 := hF.eval hy (hp' hq)
    have h1 := run_lookup (P := P) c kl (hT mt _ ht).kind (hz w) (hw.known _ hk) h k
    obtain ⟨dst, op, tp, pos, after, guard⟩ := o
    subst ho
    simp [execOp, e0, e1, h1]
theorem yv_lookupNil {c : Bool} {x y : Operand} {k : κ} {z0 : Value} (kl : KeyLaw P kt kf) (hT : TabOk P T) (hz : ∀ w, (zeroValue et).run P w = .ok z0 w) (hg : Gok l F o q) (ho : o.op = .lookup mt x y c) (ht : ty T mt = some ⟨.map kt et, s, bs, z⟩)
    (hx : Fo F x = some (pm, .map none)) (hy : Fo F y = some (pk, kf k)) (hp : q = true → pm = true) (hp' : q = true → pk = true) : Yv P C l N F o q (if c then .tuple #[z0, .bool false] else z0) :=
  yv_value hg fun a hF hq w hw => by
    have e0 := hF.eval hx (hp hq)
    have e1 := hF.eval hy (hp' hq)
    have h1 := run_lookupNil (P := P) (w := w) c kl (hT mt _ ht).kind (hz w) k
    obtain ⟨dst, op, tp, pos, after, guard⟩ := o
    subst ho
    simp [execOp, e0, e1, h1]
theorem Rng.last {m : List (κ × ν)} {es : Array MapEntry} {clock : Nat} {seen : Array Nat} {out : List (κ × ν)} {y : κ × ν} (h : Mp kf vf m es clock) (hs : Rng m es seen (out ++ [y])) : ∃ (s0 : Array Nat) (e : MapEntry), seen = s0.push e.born ∧ e ∈ es.toList ∧ e.key = kf y.1 ∧ e.val = vf y.2 := by
  obtain ⟨ix, i1, i2, i3, i4⟩ := hs
  have hne : ix ≠ [] := fun e => by rw [e] at i4; simp at i4
  rw [← List.dropLast_concat_getLast hne, List.map_append, List.map_append] at i4
  rw [← List.dropLast_concat_getLast hne, List.map_append] at i3
  have h1 := (List.append_inj' i4 rfl).2
  simp only [List.map_cons, List.map_nil, List.cons.injEq, and_true] at h1
  obtain ⟨e, he, hek, hev⟩ := h.at h1.symm
  simp only [List.map_cons, List.map_nil, he, Option.map_some] at i3
  have h2 : seen.toList ≠ [] := fun e => by rw [e] at i3; simp at i3
  rw [← List.dropLast_concat_getLast h2, List.map_append] at i3
  have h3 := (List.append_inj' i3 rfl).2
  simp only [List.map_cons, List.map_nil, List.cons.injEq, and_true, Option.some.injEq] at h3
  refine ⟨seen.toList.dropLast.toArray, e, ?_, List.mem_of_getElem? he, hek, hev⟩
  apply Array.ext'
  rw [Array.toList_push, ← h3]
  exact (List.dropLast_concat_getLast h2).symm
theorem Mp.bornNodup {m : List (κ × ν)} {es : Array MapEntry} {clock : Nat} (h : Mp kf vf m es clock) : (es.toList.map (·.born)).Nodup :=
  List.pairwise_map.2 (h.born.imp fun h => Nat.ne_of_lt h)
/-- The round's key and value. -/
theorem yv_entry {x : Operand} {r g : Nat} {b b' : Bool} {m : List (κ × ν)} {es : Array MapEntry} {clock : Nat} {seen : Array Nat} {out : List (κ × ν)} {y : κ × ν} (hg : Gok l F o q) (ho : o.op = .entry x) (hx : Fo F x = some (pm, .pointer (some ⟨r, 0, none⟩))) (hp : q = true → pm = true)
    (hr : (r, b', .mapIter (some g) clock seen clock) ∈ K) (hk : (g, b, .map es clock) ∈ K) (h : Mp kf vf m es clock) (hs : Rng m es seen (out ++ [y])) : Yv P (St w0 M K) l N F o q (.tuple #[kf y.1, vf y.2]) :=
  yv_value hg fun a hF hq w hw => by
    have e0 := hF.eval hx (hp hq)
    obtain ⟨s0, e, hse, he, hek, hev⟩ := hs.last h
    have hr' := hw.known _ hr
    simp only [hse] at hr'
    have h1 := run_entry_at (P := P) w r g clock s0 es clock e hr' (hw.known _ hk) he h.bornNodup
    obtain ⟨dst, op, tp, pos, after, guard⟩ := o
    subst ho
    rw [hek, hev] at h1
    simp [execOp, e0, h1]

/-! ### 6. Calls that turn one block of the caller's -/
theorem St.setG {W W' : World} {g : Nat} {o1 o2 : Obj} (hW : St w0 M K W) (hk : Ku K g o1 o2 K') (h : St W [g] [(g, true, o2)] W') : St w0 M K' W' := by
  have hwr := hW.wr _ hk.mem rfl
  have hb := hW.lt hk.mem
  refine ⟨h.os.trans hW.os, h.tape.trans hW.tape, h.output.trans hW.output, Nat.le_trans hW.size h.size, fun b hlt hm => ?_, fun e he => ?_, fun e he hw => ?_, ?_, Nat.le_trans hW.dr h.dr⟩
  · rw [h.frame b (Nat.lt_of_lt_of_le hlt hW.size) (by
      simp only [List.mem_singleton]
      rintro rfl
      rcases hwr with hw | hw
      · simp only at hw; omega
      · exact hm hw)]
    exact hW.frame b hlt hm
  · rcases hk.other hW.apart e he with rfl | ⟨he, hne⟩
    · exact h.known _ (List.Mem.head _)
    · rw [h.frame e.1 (hW.lt he) (by simpa using hne)]; exact hW.known e he
  · rcases hk.other hW.apart e he with rfl | ⟨he, hne⟩
    · exact hwr
    · exact hW.wr e he hw
  · have e := hk.fst
    have h' : (K.map (·.1)).Pairwise (· ≠ ·) := List.pairwise_map.2 hW.apart
    rw [← e] at h'
    exact List.pairwise_map.1 h'
/-- It turns the block g alone. -/
def RetG {σ : Type} (w : World) (g : Nat) (val : σ → Value) (ob : σ → Obj) (φ : σ → Prop) : Ending → World → Prop := RetM w [g] val (fun x => [(g, true, ob x)]) φ
theorem ev_callG {σ : Type} {R : Value → Kl → Prop} {f : FuncId} {args : Array Operand} {ts : Array TypeId} {vs : List Value} {ps : List Bool} {val : σ → Value} {ob : σ → Obj} {φ : σ → Prop} {g : Nat} {o1 : Obj} (hg : o.guard = none) (ho : o.op = .call ⟨.value (.func f), args, ts⟩) (hf : Ent P f) (hv : vals F args.toList = some vs) (hc : cdl F args.toList = some ps) (hp : ps.all id = true)
    (h : ∀ W, St w0 M K W → Calls P f vs.toArray W (RetG W g val ob φ)) (hR : ∀ x, φ x → ∃ K', Ku K g o1 (ob x) K' ∧ R (val x) K') : Ev P o N w0 M F K R :=
  ev_call hg ho hf hv hc hp fun W hW => (h W hW).mono fun e W' ⟨x, h1, h2, h3⟩ => by
    obtain ⟨K', k1, k2⟩ := hR x h2
    exact ⟨_, K', h1, hW.setG k1 h3, k2⟩
end
end Go.Proofs.Ytkgjfcjciigcgaa.Sl
