/-
  What an argument that reads as data looks like, cell by cell. No program in sight.
-/
import Derived.Test.YtkgjfcjciigcgaaSlEq
import Derived.WideShapes
import Derived.ChangeShapes
import Derived.ChangeArms
import Derived.SizedLaws
namespace Go.Proofs.Ytkgjfcjciigcgaa.Sl
open Go.RowKit Go.ChangeShapes Go.WideShapes
set_option linter.unusedVariables false

def szOf (T : Tab) (t : TypeId) : Nat := match ty T t with
  | some d => d.size
  | none => 0

/-- These cells read as a value of type t, in W, to a depth of so much. -/
def Rd (T : Tab) (W : World) : Nat → TypeId → List Value → Prop
  | 0, _, _ => False
  | n + 1, t, cs => match ty T t with
    | some ⟨.int k, _, _, _⟩ => ∃ m, cs = [.int k m] ∧ (Lit.int k m).wf = true
    | some ⟨.bool, _, _, _⟩ => ∃ x, cs = [.bool x]
    | some ⟨.string, _, _, _⟩ => ∃ x : ByteArray, cs = [.string x] ∧ x.size ≤ 140737488351232
    | some ⟨.slice e, _, _, _⟩ => cs = [.slice none 0 0] ∨ ∃ (a : Addr) (len cap : Nat), cs = [.slice (some a) len cap] ∧ len ≤ cap ∧ cap ≤ maxLen ∧ ((ty T e).isSome = true → (∀ d, ty T e = some d → len * d.bytes ≤ 140737488351232) ∧ ∀ i, i < len → ∃ es, W.cells? 0 (a.add (i * szOf T e)) (szOf T e) = some es ∧ Rd T W n e es)
    | some ⟨.struct fs, s, _, _⟩ => cs.length = s ∧ ∀ f ∈ fs, (ty T f.1).isSome = true → Rd T W n f.1 ((cs.drop f.2).take (szOf T f.1))
    | _ => True

section
variable {P : Program} {T : Tab} {H : Type} {enc : TypeId × Value → H} {W : World}

theorem bytesOf_ty (hT : TabOk P T) {t : TypeId} {d : TyD} (hd : ty T t = some d) : P.bytesOf t = d.bytes := by
  obtain ⟨i, z, h1, _, h2, _⟩ := (hT t d hd).info
  simp [Program.bytesOf, h1, h2]
theorem cellsOf_ty (hT : TabOk P T) {t : TypeId} (h : (ty T t).isSome = true) : P.cellsOf t = szOf T t := by
  cases hd : ty T t with
  | none => rw [hd] at h; cases h
  | some d =>
    obtain ⟨i, z, h1, h2, _⟩ := (hT t d hd).info
    simp [Program.cellsOf, h1, h2, szOf, hd]

/-- No text is longer than what memory reaches. -/
def Wt (P : Program) (t : TypeId) (d : DataW H) : Prop := ∀ n ∈ d.weights P t, n ≤ 140737488351232
theorem wt_all (e : TypeId) : ∀ (l : List (DataW H)) (i : Nat) (d : DataW H), l[i]? = some d → (∀ n ∈ DataW.weightsAll P e l, n ≤ 140737488351232) → Wt P e d
  | [], i, d, h, _ => by simp at h
  | x :: r, 0, d, h, hw => by
    simp at h; subst h
    exact fun n hn => hw n (by rw [DataW.weightsAll]; exact List.mem_append_left _ hn)
  | x :: r, i + 1, d, h, hw => wt_all e r i d (by simpa using h) fun n hn => hw n (by rw [DataW.weightsAll]; exact List.mem_append_right _ hn)
theorem wt_each : ∀ (ts : List TypeId) (l : List (DataW H)) (i : Nat) (t : TypeId) (d : DataW H), ts[i]? = some t → l[i]? = some d → (∀ n ∈ DataW.weightsEach P ts l, n ≤ 140737488351232) → Wt P t d
  | [], l, i, t, d, h, _, _ => by simp at h
  | _ :: _, [], i, t, d, _, h, _ => by simp at h
  | t' :: ts, x :: r, 0, t, d, h, h', hw => by
    simp at h h'; subst h h'
    exact fun n hn => hw n (by rw [DataW.weightsEach]; exact List.mem_append_left _ hn)
  | t' :: ts, x :: r, i + 1, t, d, h, h', hw => wt_each ts r i t d (by simpa using h) (by simpa using h') fun n hn => hw n (by rw [DataW.weightsEach]; exact List.mem_append_right _ hn)

theorem rd_of_trod (hT : TabOk P T) : ∀ (fuel : Nat) (t : TypeId) (cs : List Value) (x : DataW H × List MemPlace), DataW.trod enc P W 0 (fun _ => true) true fuel t cs = some x → Wt P t x.1 → Rd T W fuel t cs
  | 0, t, cs, x, h, _ => by simp [DataW.trod] at h
  | fuel + 1, t, cs, x, h, hw => by
    unfold Rd
    split
    · rename_i k s b z hd
      obtain ⟨n, h1, _, h2⟩ := DataW.trod_int (hT t _ hd).kind h
      exact ⟨n, h1, h2⟩
    · rename_i s b z hd
      obtain ⟨n, h1, _⟩ := DataW.trod_bool (hT t _ hd).kind h
      exact ⟨n, h1⟩
    · rename_i s b z hd
      obtain ⟨n, h1, h3, h2⟩ := DataW.trod_string (hT t _ hd).kind h
      subst h3
      exact ⟨n, h1, by have := hw n.data.toList.length (by simp [DataW.weights]); simpa using this⟩
    · rename_i e s b z hd
      rcases DataW.trod_slice (hT t _ hd).kind h with ⟨h1, _⟩ | ⟨a, len, cap, elems, rest, n, hn, h1, hx, _, h2, h3, h4, h5, _⟩
      · exact .inl h1
      · refine .inr ⟨a, len, cap, h1, h2, h3, fun hs => ⟨fun d2 hd2 => ?_, fun i hi => ?_⟩⟩
        · have hk : P.underlying t = some (.slice e) := (hT t _ hd).kind
          have h6 := hw ((elems.length + rest.length) * P.bytesOf e) (by subst hx; simp only [DataW.weights, hk, List.length_map]; exact List.mem_cons_self ..)
          rw [bytesOf_ty hT hd2, h4, Nat.add_mul] at h6
          omega
        obtain rfl : fuel = n := by omega
        have := h5 i hi
        rw [cellsOf_ty hT hs] at this
        cases hc : W.cells? 0 (a.add (i * szOf T e)) (szOf T e) with
        | none => rw [hc] at this; simp at this; omega
        | some es =>
          rw [hc] at this
          simp only [Option.bind_some] at this
          rw [List.getElem?_eq_getElem (by omega)] at this
          refine ⟨es, rfl, rd_of_trod hT fuel e es _ this ?_⟩
          refine wt_all (P := P) e (elems.map (·.1)) i _ (by rw [List.getElem?_map, List.getElem?_eq_getElem (by omega)]; rfl) fun n hn => hw n ?_
          subst hx
          have hk : P.underlying t = some (.slice e) := (hT t _ hd).kind
          simp only [DataW.weights, hk]
          exact List.mem_cons_of_mem _ (List.mem_append_left _ hn)
    · rename_i fs s b z hd
      obtain ⟨g, hg, hfs⟩ := (hT t _ hd).kind
      obtain ⟨xs, n, hn, hx, h1, h2, h3⟩ := DataW.trod_struct hg h
      obtain rfl : fuel = n := by omega
      refine ⟨by rw [h1, cellsOf_ty hT (by rw [hd]; rfl)]; simp [szOf, hd], fun f hf hs => ?_⟩
      rw [← hfs] at hf
      obtain ⟨fd, hfd, he⟩ := List.mem_map.1 hf
      cases he
      obtain ⟨i, hi⟩ := List.mem_iff_getElem?.1 hfd
      have := h3 i fd (by simpa using hi)
      rw [cellsOf_ty hT hs] at this
      have hlt : i < xs.length := by
        have := (List.getElem?_eq_some_iff.1 hi).1
        simpa [h2] using this
      rw [List.getElem?_eq_getElem hlt] at this
      refine rd_of_trod hT fuel _ _ _ this ?_
      refine wt_each (P := P) (g.toList.map (·.type)) (xs.map (·.1)) i _ _ (by rw [List.getElem?_map, hi]; rfl) (by rw [List.getElem?_map, List.getElem?_eq_getElem hlt]; rfl) fun m hm => hw m ?_
      subst hx
      simp only [DataW.weights, hg]
      exact hm
    · trivial

/-- An argument: a struct. -/
theorem arg_struct (hT : TabOk P T) {t : TypeId} {fs : List (TypeId × Nat)} {s b : Nat} {z : List Value} (hd : ty T t = some ⟨.struct fs, s, b, z⟩) {r : Reach} {b0 : Nat} {v : Value} (hv : Value.okWide P W r b0 t v) : ∃ cs : List Value, v = .agg cs.toArray := by
  obtain ⟨g, hg, _⟩ := (hT t _ hd).kind
  unfold Value.okWide at hv
  rw [hg] at hv
  obtain ⟨cs, rfl, _⟩ := hv
  exact ⟨cs.toList, by simp⟩
/-- An argument that is no struct: one cell. -/
theorem arg_one (hT : TabOk P T) {t : TypeId} {d : TyD} (hd : ty T t = some d) (ha : d.kind.agg = false) {r : Reach} {b0 : Nat} {v : Value} (hv : Value.okWide P W r b0 t v) : v.cells.toList = [v] := by
  have hk := (hT t _ hd).kind
  obtain ⟨k, s, b, z⟩ := d
  unfold Value.okWide at hv
  cases k with
  | struct fs => simp [TyK.agg] at ha
  | arr n e => simp [TyK.agg] at ha
  | func =>
    obtain ⟨x1, x2, x3, hk⟩ := hk
    rw [hk] at hv
    cases v <;> simp_all [Value.cells, Cell.okWide, Cell.ok]
  | _ =>
    simp only [TyK.fits] at hk
    rw [hk] at hv
    cases v <;> simp_all [Value.cells, Cell.okWide, Cell.ok]

theorem rd_i {n : Nat} {t : TypeId} {k : IntKind} {s b : Nat} {z cs : List Value} (h : Rd T W n t cs) (ht : ty T t = some ⟨.int k, s, b, z⟩) : ∃ m, cs = [.int k m] ∧ (Lit.int k m).wf = true := by
  cases n with
  | zero => exact h.elim
  | succ n => unfold Rd at h; rw [ht] at h; exact h
theorem rd_i64 {n : Nat} {t : TypeId} {s b : Nat} {z cs : List Value} (h : Rd T W n t cs) (ht : ty T t = some ⟨.int .i64, s, b, z⟩) : ∃ m : Int, cs = [.int .i64 m] ∧ -9223372036854775808 ≤ m ∧ m ≤ 9223372036854775807 := by
  obtain ⟨m, h1, h2⟩ := rd_i h ht
  simp [Lit.wf, IntKind.min, IntKind.max, IntKind.signed, IntKind.bits] at h2
  exact ⟨m, h1, by omega, by omega⟩
theorem rd_b {n : Nat} {t : TypeId} {s b : Nat} {z cs : List Value} (h : Rd T W n t cs) (ht : ty T t = some ⟨.bool, s, b, z⟩) : ∃ x, cs = [.bool x] := by
  cases n with
  | zero => exact h.elim
  | succ n => unfold Rd at h; rw [ht] at h; exact h
theorem rd_s {n : Nat} {t : TypeId} {s b : Nat} {z cs : List Value} (h : Rd T W n t cs) (ht : ty T t = some ⟨.string, s, b, z⟩) : ∃ x : ByteArray, cs = [.string x] ∧ x.size ≤ 140737488351232 := by
  cases n with
  | zero => exact h.elim
  | succ n => unfold Rd at h; rw [ht] at h; exact h
theorem rd_st {n : Nat} {t : TypeId} {fs : List (TypeId × Nat)} {s b : Nat} {z cs : List Value} (h : Rd T W n t cs) (ht : ty T t = some ⟨.struct fs, s, b, z⟩) : ∃ m, n = m + 1 ∧ cs.length = s ∧ ∀ f ∈ fs, (ty T f.1).isSome = true → Rd T W m f.1 ((cs.drop f.2).take (szOf T f.1)) := by
  cases n with
  | zero => exact h.elim
  | succ n => unfold Rd at h; rw [ht] at h; exact ⟨n, rfl, h⟩
theorem rd_sl {n : Nat} {t e : TypeId} {s b : Nat} {z cs : List Value} (h : Rd T W n t cs) (ht : ty T t = some ⟨.slice e, s, b, z⟩) : ∃ m, n = m + 1 ∧ (cs = [.slice none 0 0] ∨ ∃ (a : Addr) (len cap : Nat), cs = [.slice (some a) len cap] ∧ len ≤ cap ∧ cap ≤ 9223372036854775807 ∧ ((ty T e).isSome = true → ∀ i, i < len → ∃ es, W.cells? 0 (a.add (i * szOf T e)) (szOf T e) = some es ∧ Rd T W m e es)) := by
  cases n with
  | zero => exact h.elim
  | succ n =>
    unfold Rd at h
    rw [ht] at h
    refine ⟨n, rfl, ?_⟩
    rcases h with h | ⟨a, len, cap, h1, h2, h3, h4⟩
    · exact .inl h
    · exact .inr ⟨a, len, cap, h1, h2, h3, fun hs => (h4 hs).2⟩
/-- How long it may be. -/
theorem rd_slB {n : Nat} {t e : TypeId} {s b len cap : Nat} {z : List Value} {p : Option Addr} {d : TyD} (h : Rd T W n t [.slice p len cap]) (ht : ty T t = some ⟨.slice e, s, b, z⟩) (hd : ty T e = some d) : len * d.bytes ≤ 140737488351232 := by
  cases n with
  | zero => exact h.elim
  | succ n =>
    unfold Rd at h
    rw [ht] at h
    rcases h with h | ⟨a, len', cap', h1, h2, h3, h4⟩
    · cases h
      omega
    · cases h1
      exact (h4 (by rw [hd]; rfl)).1 d hd

/-- The cells of a slice that came in: one block. -/
theorem cells_block {a : Addr} {k : Nat} {es : List Value} (h : W.cells? 0 a k = some es) (hk : 0 < k) : ∃ (l : List Value) (e : TypeId) (fr : Nat × Nat), a.spot = none ∧ W.heap[a.block]? = some (.cells l.toArray e fr) ∧ es.length = k ∧ ∀ j, j < k → l[a.off + j]? = es[j]? := by
  unfold World.cells? at h
  rw [if_pos (Nat.zero_le _)] at h
  have hlen : ∀ (n : Nat) (f : Nat → Option Value) (ys : List Value), (List.range n).mapM f = some ys → ys.length = n ∧ ∀ j, j < n → f j = ys[j]? := by
    intro n f ys h
    have key : ∀ (xs : List Nat) (ys : List Value), xs.mapM f = some ys → ys.length = xs.length ∧ ∀ j (hj : j < xs.length), f xs[j] = ys[j]? := by
      intro xs
      induction xs with
      | nil => intro ys h; simp at h; subst h; simp
      | cons x xs ih =>
        intro ys h
        rw [List.mapM_cons] at h
        cases hx : f x with
        | none => rw [hx] at h; cases h
        | some y =>
          rw [hx] at h
          cases hxs : xs.mapM f with
          | none => rw [hxs] at h; cases h
          | some ys' =>
            rw [hxs] at h
            cases h
            obtain ⟨h1, h2⟩ := ih ys' hxs
            refine ⟨by simp [h1], fun j hj => ?_⟩
            cases j with
            | zero => simpa using hx
            | succ j => simpa using h2 j (by simpa using hj)
    obtain ⟨h1, h2⟩ := key _ _ h
    refine ⟨by simpa using h1, fun j hj => ?_⟩
    have := h2 j (by simpa using hj)
    rw [List.getElem_range] at this
    exact this
  obtain ⟨h1, h2⟩ := hlen _ _ _ h
  have h0 := h2 0 hk
  have hz : a.add 0 = a := by simp [Addr.add]
  rw [hz] at h0
  have hs : W.cell? a = some es[0] := by rw [h0]; exact List.getElem?_eq_getElem (by omega)
  unfold World.cell? at hs
  split at hs
  · rename_i c e fr hb
    have hsp : a.spot = none := by
      cases hsp : a.spot with
      | none => rfl
      | some x => rw [hsp] at hs; simp at hs
    refine ⟨c.toList, e, fr, hsp, by simpa using hb, h1, fun j hj => ?_⟩
    have := h2 j hj
    have hadd : a.add j = ⟨a.block, a.off + j, none⟩ := by
      obtain ⟨b, o, s⟩ := a
      simp at hsp
      subst hsp
      unfold Addr.add; split <;> simp_all
    rw [hadd] at this
    rw [← this]
    simp [World.cell?, hb]
  · cases hs

/-- Elements that lie one behind the other from number off on, k cells each. -/
structure Els (l : List Value) (off k n : Nat) (e : Nat → List Value) : Prop where
  len : ∀ i, i < n → (e i).length = k
  at_ : ∀ i, i < n → ∀ j, j < k → l[off + i * k + j]? = (e i)[j]?

theorem Els.whole {l : List Value} {off k n i : Nat} {e : Nat → List Value} {t : TypeId} {d : TyD} (h : Els l off k n e) (hi : i < n) (hd : ty T t = some d) (ha : d.kind.agg = true) (hk : d.size = k) : Lds T t l (off + i * k) (.agg (e i).toArray) :=
  ⟨d, e i, hd, by rw [h.len i hi, hk], fun j hj => h.at_ i hi j (by omega), fun _ => rfl, fun h' => by rw [ha] at h'; cases h'⟩
theorem Els.one {l : List Value} {off k n i o : Nat} {e : Nat → List Value} {t : TypeId} {d : TyD} {v : Value} (h : Els l off k n e) (hi : i < n) (hd : ty T t = some d) (ha : d.kind.agg = false) (hs : d.size = 1) (ho : Nat.ble (o + 1) k = true) (hv : nth (e i) o = some v) : Lds T t l (off + i * k + o) v :=
  ⟨d, [v], hd, by simp [hs], (fun j hj => by
    have ho' := Nat.le_of_ble_eq_true ho
    have : j = 0 := by omega
    subst this
    rw [Nat.add_zero, h.at_ i hi o (by omega), ← nth_eq, hv]; rfl), (fun h' => by rw [ha] at h'; cases h'), fun _ => ⟨hs, rfl⟩⟩
theorem Els.one0 {l : List Value} {off k n i : Nat} {e : Nat → List Value} {t : TypeId} {d : TyD} {v : Value} (h : Els l off k n e) (hi : i < n) (hd : ty T t = some d) (ha : d.kind.agg = false) (hs : d.size = 1) (hk : Nat.ble 1 k = true) (hv : nth (e i) 0 = some v) : Lds T t l (off + i * k) v := by
  have := h.one (o := 0) hi hd ha hs hk hv
  simpa using this
theorem Els.part {l : List Value} {off k n i o : Nat} {e : Nat → List Value} {t : TypeId} {d : TyD} {vs : List Value} (h : Els l off k n e) (hi : i < n) (hd : ty T t = some d) (ha : d.kind.agg = true) (ho : Nat.ble (o + d.size) k = true) (hv : cut o d.size (e i) = some vs) : Lds T t l (off + i * k + o) (.agg vs.toArray) := by
  have ho' := Nat.le_of_ble_eq_true ho
  obtain ⟨h1, h2⟩ := cut_spec _ _ _ _ hv
  exact ⟨d, vs, hd, h1, fun j hj => by rw [show off + i * k + o + j = off + i * k + (o + j) by omega, h.at_ i hi (o + j) (by omega)]; exact h2 j hj, fun _ => rfl, fun h' => by rw [ha] at h'; cases h'⟩
end
end Go.Proofs.Ytkgjfcjciigcgaa.Sl
