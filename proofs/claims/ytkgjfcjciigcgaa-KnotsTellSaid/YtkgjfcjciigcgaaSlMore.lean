/-
  More steps of the walk: slices that came in, read by number; products; several operations of a region that may come up; a new variable in such a region. No program in sight.
-/
import Derived.Test.YtkgjfcjciigcgaaSlTac
namespace Go.Proofs.Ytkgjfcjciigcgaa.Sl
open Go.RowKit Go.Proofs.YtkgjfcjciigcgaaW.PrintLast
set_option linter.unusedVariables false
attribute [local semireducible] GC GE GL GQ

section
variable {P : Program} {T : Tab} {N : Nat} {F : Fl} {a : Act} {l : List Oper} {o : Oper} {q : Bool} {C : World → Prop} {Q : Exit → Act → World → Prop} {w0 : World} {M : List Nat} {K : Kl} {rest : List Oper} {d : Nat} {v : Value}

theorem yv_mul (hT : TabOk P T) {ps : List Bool} {t t' : TypeId} {x y : Operand} {m n : Int} (hg : Gok l F o q) (ho : o.op = .binOp .mul t x y t') (h1 : vl F x = some (.int .i64 m)) (h2 : vl F y = some (.int .i64 n)) (hc : cdl F o.op.operands.toList = some ps) (hp : q = true → allT ps)
    (hb : q = true → -9223372036854775808 ≤ m * n ∧ m * n ≤ 9223372036854775807) : Yv P C l N F o q (.int .i64 (m * n)) :=
  yv_value hg fun a hF hq w _ => by
    have e : IntKind.i64.wrap (m * n) = m * n := by obtain ⟨b1, b2⟩ := hb hq; simp [IntKind.wrap, IntKind.signed, IntKind.bits]; omega
    have := pureOp_ok hT (o := o) (v := .int .i64 (IntKind.i64.wrap (m * n))) (P := P) (by rw [ho]; simp [pureOp, h1, h2, binO, kEq, intOp]) hF hc (hp hq) w
    rwa [e] at this

/-! ### shifts, division, a string's byte -/
theorem yv_shr (hT : TabOk P T) {t t' : TypeId} {x y : Operand} {m n : Int} {k k' : IntKind} {p1 p2 : Bool} (hg : Gok l F o q) (ho : o.op = .binOp .shr t x y t') (h1 : Fo F x = some (p1, .int k m)) (h2 : Fo F y = some (p2, .int k' n)) (hp1 : q = true → p1 = true) (hp2 : q = true → p2 = true)
    (hb : q = true → 0 ≤ n) : Yv P C l N F o q (.int k (m.fdiv (2 ^ (min n.toNat k.bits)))) :=
  yv_value hg fun a hF hq w _ => by
    have e0 := hF.eval h1 (hp1 hq)
    have e1 := hF.eval h2 (hp2 hq)
    have hb' : ¬ n < 0 := by have := hb hq; omega
    obtain ⟨dst, op, tp, pos, after, guard⟩ := o
    subst ho
    simp [execOp, e0, e1, eqGuard_plain, binOp, Op.shift, hb']
theorem yv_shl (hT : TabOk P T) {t t' : TypeId} {x y : Operand} {m n : Int} {k k' : IntKind} {p1 p2 : Bool} (hg : Gok l F o q) (ho : o.op = .binOp .shl t x y t') (h1 : Fo F x = some (p1, .int k m)) (h2 : Fo F y = some (p2, .int k' n)) (hp1 : q = true → p1 = true) (hp2 : q = true → p2 = true)
    (hb : q = true → 0 ≤ n) : Yv P C l N F o q (.int k (k.wrap (m * 2 ^ (min n.toNat k.bits)))) :=
  yv_value hg fun a hF hq w _ => by
    have e0 := hF.eval h1 (hp1 hq)
    have e1 := hF.eval h2 (hp2 hq)
    have hb' : ¬ n < 0 := by have := hb hq; omega
    obtain ⟨dst, op, tp, pos, after, guard⟩ := o
    subst ho
    simp [execOp, e0, e1, eqGuard_plain, binOp, Op.shift, hb']
theorem yv_rem (hT : TabOk P T) {t t' : TypeId} {x y : Operand} {m n : Int} {k : IntKind} {p1 p2 : Bool} (hg : Gok l F o q) (ho : o.op = .binOp .rem t x y t') (h1 : Fo F x = some (p1, .int k m)) (h2 : Fo F y = some (p2, .int k n)) (hp1 : q = true → p1 = true) (hp2 : q = true → p2 = true)
    (hb : q = true → n ≠ 0) : Yv P C l N F o q (.int k (m.tmod n)) :=
  yv_value hg fun a hF hq w _ => by
    have e0 := hF.eval h1 (hp1 hq)
    have e1 := hF.eval h2 (hp2 hq)
    have hb' := hb hq
    obtain ⟨dst, op, tp, pos, after, guard⟩ := o
    subst ho
    simp [execOp, e0, e1, eqGuard_plain, binOp, Op.intDiv, hb']
theorem yv_quo (hT : TabOk P T) {t t' : TypeId} {x y : Operand} {m n : Int} {k : IntKind} {p1 p2 : Bool} (hg : Gok l F o q) (ho : o.op = .binOp .quo t x y t') (h1 : Fo F x = some (p1, .int k m)) (h2 : Fo F y = some (p2, .int k n)) (hp1 : q = true → p1 = true) (hp2 : q = true → p2 = true)
    (hb : q = true → n ≠ 0) : Yv P C l N F o q (.int k (k.wrap (m.tdiv n))) :=
  yv_value hg fun a hF hq w _ => by
    have e0 := hF.eval h1 (hp1 hq)
    have e1 := hF.eval h2 (hp2 hq)
    have hb' := hb hq
    obtain ⟨dst, op, tp, pos, after, guard⟩ := o
    subst ho
    simp [execOp, e0, e1, eqGuard_plain, binOp, Op.intDiv, hb']
/-- A string's byte. -/
def byteAt (s : ByteArray) (i : Nat) : Int := ((s.data.toList.getD i 0).toNat : Int)
theorem yv_indexS (hT : TabOk P T) {t : TypeId} {x ix : Operand} {px pi : Bool} {kk : IntKind} {i s bs : Nat} {z : List Value} {str : ByteArray} (hg : Gok l F o q) (ho : o.op = .index t x ix)
    (hx : Fo F x = some (px, .string str)) (hi : Fo F ix = some (pi, .int kk (i : Int))) (ht : ty T t = some ⟨.string, s, bs, z⟩) (hp : q = true → px = true) (hp' : q = true → pi = true) (hb : q = true → i < str.size) :
    Yv P C l N F o q (.int .u8 (byteAt str i)) :=
  yv_value hg fun a hF hq w hw => by
    have e0 := hF.eval hx (hp hq)
    have e1 := hF.eval hi (hp' hq)
    obtain ⟨dst, op, tp, pos, after, guard⟩ := o
    subst ho
    have hb' := hb hq
    have hkk := (hT t _ ht).kind
    have hd : i < str.data.size := hb'
    have hget : str[i]? = some str.data[i] := by
      rw [getElem?_pos str i hb']
      rfl
    simp [execOp, e0, e1, Instr.index, asIntOf, run_underlying hkk, hget, byteAt, List.getD]
    rw [Array.getElem?_eq_getElem hd]
    rfl

/-! ### arrays -/
theorem yv_buildA (hT : TabOk P T) {t e : TypeId} {s bs n : Nat} {z : List Value} {de : TyD} {parts : Array (Nat × Operand)} {cs : List Value} {ps : List Bool} (hg : Gok l F o q) (ho : o.op = .build t parts)
    (ht : ty T t = some ⟨.arr n e, s, bs, z⟩) (he : ty T e = some de) (hc : cdl F (parts.toList.map (·.2)) = some ps) (hp : q = true → allT ps)
    (hf : fillS F de.size z parts.toList = some cs) : Yv P C l N F o q (.agg cs.toArray) :=
  yv_value hg fun a hF hq w _ => by
    obtain ⟨zv, hz, hzc⟩ := (hT t _ ht).zeroValue w (P := P)
    have h1 := fillS_ok hF de.size hc (hp hq) hf
    have hk := (hT t _ ht).kind
    obtain ⟨dst, op, tp, pos, after, guard⟩ := o
    subst ho
    simp only [execOp, Instr.build, Sem.run_bind, hz, Result.andThen_ok, run_underlying hk, (hT e _ he).sizeOf, hzc]
    rw [show (Array.map (fun (x : Nat × Operand) => (x.1, a.eval x.2)) parts).toList = parts.toList.map fun x => (x.1, a.eval x.2) by simp, h1]
    rfl
theorem yv_idxC (hT : TabOk P T) {t : TypeId} {x ix : Operand} {px pi : Bool} {kk : IntKind} {b off m : Nat} {i : Int} {et : TypeId} {dd : TyD} {s bs : Nat} {z : List Value} (hg : Gok l F o q) (ho : o.op = .indexAddr t x ix)
    (hx : Fo F x = some (px, .pointer (some ⟨b, off, none⟩))) (hi : Fo F ix = some (pi, .int kk i)) (ht : ty T t = some ⟨.arr m et, s, bs, z⟩) (he : ty T et = some dd) (hp : q = true → px = true) (hp' : q = true → pi = true) (hb : q = true → 0 ≤ i ∧ i < m) :
    Yv P C l N F o q (.pointer (some ⟨b, off + i.toNat * dd.size, none⟩)) :=
  yv_value hg fun a hF hq w hw => by
    have e0 := hF.eval hx (hp hq)
    have e1 := hF.eval hi (hp' hq)
    obtain ⟨dst, op, tp, pos, after, guard⟩ := o
    subst ho
    have hb' := hb hq
    have hkk := (hT t _ ht).kind
    have hadd : ∀ m, (⟨b, off, none⟩ : Addr).add m = ⟨b, off + m, none⟩ := fun m => by unfold Addr.add; split <;> simp_all
    simp [execOp, e0, e1, Instr.indexAt, asIntOf, run_underlying hkk, hb', (hT et _ he).sizeOf, hadd, Instr.sureAddr]

/-! ### A slice that lies in old memory -/
@[irreducible] def pb (p : Option Addr) : Nat := (p.getD ⟨0, 0, none⟩).block
@[irreducible] def po (p : Option Addr) : Nat := (p.getD ⟨0, 0, none⟩).off
/-- n elements of k cells each, in the memory of w0. -/
structure SlA (w0 : World) (k : Nat) (p : Option Addr) (n : Nat) (e : Nat → List Value) : Prop where
  ptr : 0 < n → p = some ⟨pb p, po p, none⟩
  len : ∀ i, i < n → (e i).length = k
  mem : 0 < n → ∃ (l : List Value) (t : TypeId) (fr : Nat × Nat), w0.heap[pb p]? = some (.cells l.toArray t fr) ∧ ∀ i, i < n → ∀ j, j < k → l[po p + i * k + j]? = (e i)[j]?

theorem SlA.nil {k : Nat} {e : Nat → List Value} {p : Option Addr} : SlA w0 k p 0 e := ⟨fun h => by omega, fun i h => by omega, fun h => by omega⟩

theorem yv_idxA (hT : TabOk P T) {k : Nat} {p : Option Addr} {n : Nat} {e : Nat → List Value} (hs : SlA w0 k p n e) {t : TypeId} {x ix : Operand} {px pi : Bool} {kk : IntKind} {c i : Nat} {et : TypeId} {dd : TyD} {s bs : Nat} {z : List Value} (hg : Gok l F o q) (ho : o.op = .indexAddr t x ix)
    (hx : Fo F x = some (px, .slice p n c)) (hi : Fo F ix = some (pi, .int kk (i : Int))) (ht : ty T t = some ⟨.slice et, s, bs, z⟩) (he : ty T et = some dd) (hk : dd.size = k) (hp : q = true → px = true) (hp' : q = true → pi = true) (hb : q = true → i < n) :
    Yv P C l N F o q (.pointer (some ⟨pb p, po p + i * k, none⟩)) :=
  yv_value hg fun a hF hq w hw => by
    have e0 := hF.eval hx (hp hq)
    have e1 := hF.eval hi (hp' hq)
    obtain ⟨dst, op, tp, pos, after, guard⟩ := o
    subst ho
    have hb' := hb hq
    have hkk := (hT t _ ht).kind
    have hadd : ∀ m, (⟨pb p, po p, none⟩ : Addr).add m = ⟨pb p, po p + m, none⟩ := fun m => by unfold Addr.add; split <;> simp_all
    have hpp := hs.ptr (by omega)
    rw [hpp] at e0
    have hz : (0 : Int) ≤ (i : Int) ∧ (i : Int) < (n : Int) := by omega
    simp [execOp, e0, e1, Instr.indexAt, asIntOf, run_underlying hkk, (hT et _ he).sizeOf, hadd, hk]
    intro h; omega

theorem yv_ldA (hT : TabOk P T) {k : Nat} {p : Option Addr} {n : Nat} {e : Nat → List Value} (hs : SlA w0 k p n e) (hM : 0 < n → pb p ∉ M) {t : TypeId} {x : Operand} {px : Bool} {i off : Nat} (hg : Gok l F o q) (ho : o.op = .load t x)
    (hx : Fo F x = some (px, .pointer (some ⟨pb p, po p + i * k + off, none⟩))) (hp : q = true → px = true) (hi : q = true → i < n) (hl : q = true → Lds T t (e i) off v) : Yv P (St w0 M K) l N F o q v :=
  yv_value hg fun a hF hq w hw => by
    have e0 := hF.eval hx (hp hq)
    have hi' := hi hq
    obtain ⟨cs, ct, fr, h1, h2⟩ := hs.mem (by omega)
    have hlt : pb p < w0.heap.size := by
      rcases Nat.lt_or_ge (pb p) w0.heap.size with h | h
      · exact h
      · rw [Array.getElem?_eq_none h] at h1; cases h1
    have hb : w.heap[pb p]? = some (.cells cs.toArray ct fr) := by
      rw [← h1]
      exact hw.frame _ hlt (hM (by omega))
    obtain ⟨dst, op, tp, pos, after, guard⟩ := o
    subst ho
    obtain ⟨dd, vs, hd, l1, l2, l3, l4⟩ := hl hq
    have hin : ∀ j, j < dd.size → off + j < k := fun j hj => by
      have := l2 j hj
      rw [← hs.len i hi']
      rcases Nat.lt_or_ge (off + j) (e i).length with h | h
      · exact h
      · rw [List.getElem?_eq_none h, List.getElem?_eq_getElem (by omega)] at this; cases this
    have hL : Lds T t cs (po p + i * k + off) v := ⟨dd, vs, hd, l1, fun j hj => by rw [show po p + i * k + off + j = po p + i * k + (off + j) by omega, h2 i hi' (off + j) (hin j hj)]; exact l2 j hj, l3, l4⟩
    simp [execOp, e0, Instr.loadAt, Instr.sureAddr, run_loadVar hT hb hL]
theorem yv_ldA0 (hT : TabOk P T) {k : Nat} {p : Option Addr} {n : Nat} {e : Nat → List Value} (hs : SlA w0 k p n e) (hM : 0 < n → pb p ∉ M) {t : TypeId} {x : Operand} {px : Bool} {i : Nat} (hg : Gok l F o q) (ho : o.op = .load t x)
    (hx : Fo F x = some (px, .pointer (some ⟨pb p, po p + i * k, none⟩))) (hp : q = true → px = true) (hi : q = true → i < n) (hl : q = true → Lds T t (e i) 0 v) : Yv P (St w0 M K) l N F o q v :=
  yv_ldA hT hs hM (off := 0) hg ho hx hp hi hl

/-! ### Several operations may come up -/
variable {C : World → Prop} {ds : List Nat} {n : Nat} {lt : Array Bool} {rs : List Nat}
def GR (P : Program) (l : List Oper) (Q : Exit → Act → World → Prop) (C : World → Prop) (ds : List Nat) (n : Nat) (lt : Array Bool) (N : Nat) (w0 : World) (M : List Nat) (F : Fl) (K : Kl) (rs : List Nat) : Prop :=
  ∀ a W, Fr N F a → St w0 M K W → AllReadyL P .any l.toArray Q C ds n lt a W rs
theorem gp_rs (rs : List Nat) (hr : (Region.ready .any l.toArray lt == rs) = true) (hne : rs.isEmpty = false) (h : GR P l Q C ds n lt N w0 M F K rs) : GP P l Q C ds (n + 1) lt N w0 M F K := fun a W hF hW =>
  wpAnyLast_ready (by simpa using hr) (by intro e; subst e; cases hne) (h a W hF hW)
theorem gr_nil : GR P l Q C ds n lt N w0 M F K [] := fun a W hF hW => AllReadyL.nil
theorem gr_ev (i : Nat) (lt' : Array Bool) (hi : nth l i = some o) (hl : lt.setIfInBounds i true = lt') (hds : ds.all (fun j => !Nat.beq j i) = true) (hd : o.dst = some d) (hN : Nat.ble (d + 1) N = true)
    (he : Ev P o N w0 M F K fun v K' => (∀ W, St w0 M K' W → C W) ∧ GP P l Q C ds n lt' N w0 M ((d, true, v) :: F) K') (hs : GR P l Q C ds n lt N w0 M F K rs) : GR P l Q C ds n lt N w0 M F K (i :: rs) := fun a W hF hW => by
  rw [nth_eq] at hi
  subst hl
  have hni : i ∉ ds := fun hm => by have := List.all_eq_true.1 hds i hm; simp at this
  refine AllReadyL.cons (by simpa using hi) hni (fun KK hK => ?_) (hs a W hF hW)
  rw [if_pos (by simp [Region.wanted, he.1])]
  refine he.2 a W hF hW KK Q fun v K' W' ⟨h1, h2⟩ hW' => ?_
  rw [hd]
  exact hK _ _ (h1 _ hW') fun _ => h2 _ _ (hF.put hN true v v (fun _ => rfl) (by simp)) hW'
theorem gr_last (i : Nat) (lt' : Array Bool) (hi : nth l i = some o) (hl : lt.setIfInBounds i true = lt') (hds : i ∈ ds) (hd : o.dst = some d) (hN : Nat.ble (d + 1) N = true)
    (he : Ev P o N w0 M F K fun v K' => GP P l Q C ds n lt' N w0 M ((d, true, v) :: F) K') (hs : GR P l Q C ds n lt N w0 M F K rs) : GR P l Q C ds n lt N w0 M F K (i :: rs) := fun a W hF hW => by
  rw [nth_eq] at hi
  subst hl
  refine AllReadyL.cons_last (by simpa using hi) hds (fun KK hK => ?_) (hs a W hF hW)
  rw [if_pos (by simp [Region.wanted, he.1])]
  refine he.2 a W hF hW KK Q fun v K' W' h2 hW' => ?_
  rw [hd]
  exact hK _ _ (h2 _ _ (hF.put hN true v v (fun _ => rfl) (by simp)) hW')
theorem gr_last0 (i : Nat) (lt' : Array Bool) (hi : nth l i = some o) (hl : lt.setIfInBounds i true = lt') (hds : i ∈ ds) (hd : o.dst = none)
    (he : Ev P o N w0 M F K fun _ K' => GP P l Q C ds n lt' N w0 M F K') (hs : GR P l Q C ds n lt N w0 M F K rs) : GR P l Q C ds n lt N w0 M F K (i :: rs) := fun a W hF hW => by
  rw [nth_eq] at hi
  subst hl
  refine AllReadyL.cons_last (by simpa using hi) hds (fun KK hK => ?_) (hs a W hF hW)
  rw [if_pos (by simp [Region.wanted, he.1])]
  refine he.2 a W hF hW KK Q fun v K' W' h2 hW' => ?_
  rw [hd]
  exact hK _ _ (h2 _ _ hF hW')

/-! ### Events -/
theorem ev_yv {R : Value → Kl → Prop} (hg : o.guard = none) (hy : Yv P (St w0 M K) l N F o true v) (hR : R v K) : Ev P o N w0 M F K R :=
  ev_run hg fun a W hF hW => ⟨W, v, K, hy.2 a hF rfl W hW, hW, hR⟩

theorem ev_alloc (hT : TabOk P T) {R : Value → Kl → Prop} {t : TypeId} {dd : TyD} (hg : o.guard = none) (ho : o.op = .alloc t) (ht : ty T t = some dd) (hR : ∀ g, w0.heap.size ≤ g → R (.pointer (some ⟨g, 0, none⟩)) ((g, true, .cells dd.zero.toArray t (0, 0)) :: K)) : Ev P o N w0 M F K R := by
  refine ev_new hg (.cells dd.zero.toArray t (0, 0)) (fun g => .pointer (some ⟨g, 0, none⟩)) (fun a W hF hW => ?_) hR
  obtain ⟨z, hz, hzc⟩ := (hT t dd ht).zeroValue W (P := P)
  obtain ⟨dst, op, tp, pos, after, guard⟩ := o
  subst ho
  simp [execOp, Instr.alloc, hz, newVar, newRow, newObj, Sem.run, hzc]

theorem ev_store {t : TypeId} {x y : Operand} {g off : Nat} {e : TypeId} {cs : List Value} {K' : Kl} {dd : TyD} {R : Value → Kl → Prop} (hT : TabOk P T) (hg : o.guard = none) (ho : o.op = .store t x y) (hx : Fo F x = some (true, .pointer (some ⟨g, off, none⟩))) (hy : Fo F y = some (true, v))
    (ht : ty T t = some dd) (hs : v.cells.toList.length = dd.size) (h1 : ∀ u ∈ v.cells.toList, u.oneCell' = true) {cs' : List Value} (hp : putL off v.cells.toList cs = some cs') (hk : Ku K g (.cells cs.toArray e (0, 0)) (.cells cs'.toArray e (0, 0)) K')
    (h : R undef K') : Ev P o N w0 M F K R := by
  refine ev_skip hg fun a W hF hW => ?_
  have e0 := hF.eval hx rfl
  have e1 := hF.eval hy rfl
  obtain ⟨p1, p2⟩ := putL_spec _ _ _ _ hp
  obtain ⟨W', r1, r2, r3, r4, r5, r6, r7⟩ := run_storeCells (P := P) (off := off) v.cells.toList 0 W cs (hW.known _ hk.mem) (by simpa using p1) h1
  refine ⟨W', K', ?_, hW.set hk r2 r3 r4 r5 (by rw [r7, p2]; simp) r6, h⟩
  obtain ⟨dst, op, tp, pos, after, guard⟩ := o
  subst ho
  simp only [Array.length_toList] at hs
  simp [execOp, e0, e1, Instr.storeAt, Instr.sureAddr, storeVar, (hT t dd ht).sizeOf, hs, r1]

/-! ### what stands in between, said once -/
def Mid {σ : Type} (N : Nat) (w0 : World) (M : List Nat) (FI : σ → Fl) (KI : σ → Kl) (φ : σ → Prop) : Exit → Act → World → Prop
  | .normal, a, w => ∃ x, φ x ∧ Fr N (FI x) a ∧ St w0 M (KI x) w
  | _, _, _ => False
theorem gc_cut {σ : Type} {c : Code} (FI : σ → Fl) (KI : σ → Kl) (φ : σ → Prop) (h1 : GC P c (Mid N w0 M FI KI φ) N w0 M F K) (h2 : ∀ x, φ x → GE Q .normal N w0 M (FI x) (KI x)) : GC P c Q N w0 M F K := fun a W hF hW =>
  Code.wp_mono (fun e a' w' h => by
    cases e with
    | normal => obtain ⟨x, hx, hF', hW'⟩ := h; exact h2 x hx a' w' hF' hW'
    | _ => exact h.elim) (h1 a W hF hW)
theorem ge_mid {σ : Type} {FI : σ → Fl} {KI : σ → Kl} {φ : σ → Prop} (x : σ) (hx : φ x) (hF' : FrSub (FI x) F) (hK' : (KI x).Sublist K) : GE (Mid N w0 M FI KI φ) .normal N w0 M F K := fun a W hF hW => ⟨x, hx, hF.sub hF', hW.drop hK'⟩
theorem qp_mid {σ : Type} {FI : σ → Fl} {KI : σ → Kl} {φ : σ → Prop} : QP (Mid N w0 M FI KI φ) := fun c a w d u hh => hh
theorem ge_gT {X : Act → World → Prop} {e : Exit} (h : GE (Exit.then X Q) e N w0 M F K) : GE (Exit.then X Q) e N w0 M F K := h
theorem ge_gK {id : Nat} {e : Exit} (h : GE (Exit.inBlock id Q) e N w0 M F K) : GE (Exit.inBlock id Q) e N w0 M F K := h
theorem ge_gB {fn : Func} {R : Ending → World → Prop} {e : Exit} (h : GE (bodyPost P fn R) e N w0 M F K) : GE (bodyPost P fn R) e N w0 M F K := h
theorem gl_bld0 {t : TypeId} {n : Nat} {parts : Array (Nat × Operand)} {ds : Option Tmp} {tp : TypeId} {ps : String} {af : Array Edge} (h : GL P l Q (⟨ds, .buildSlice t n parts, tp, ps, af, none⟩ :: rest) N w0 M F K) : GL P l Q (⟨ds, .buildSlice t n parts, tp, ps, af, none⟩ :: rest) N w0 M F K := h
theorem gl_arr0 {t : TypeId} {parts : Array (Nat × Operand)} {ds : Option Tmp} {tp : TypeId} {ps : String} {af : Array Edge} (h : GL P l Q (⟨ds, .build t parts, tp, ps, af, none⟩ :: rest) N w0 M F K) : GL P l Q (⟨ds, .build t parts, tp, ps, af, none⟩ :: rest) N w0 M F K := h
theorem gq_arr0 {t : TypeId} {parts : Array (Nat × Operand)} {ds : Option Tmp} {tp : TypeId} {ps : String} {af : Array Edge} (h : GQ P l Q (⟨ds, .build t parts, tp, ps, af, none⟩ :: rest) N w0 M F K) : GQ P l Q (⟨ds, .build t parts, tp, ps, af, none⟩ :: rest) N w0 M F K := h
theorem gl_app0 {x y : Operand} {ts : Array TypeId} {ds : Option Tmp} {tp : TypeId} {ps : String} {af : Array Edge} (h : GL P l Q (⟨ds, .call ⟨.builtin .append, #[x, y], ts⟩, tp, ps, af, none⟩ :: rest) N w0 M F K) : GL P l Q (⟨ds, .call ⟨.builtin .append, #[x, y], ts⟩, tp, ps, af, none⟩ :: rest) N w0 M F K := h
theorem gl_mul0 {t t' : TypeId} {x y : Operand} {ds : Option Tmp} {tp : TypeId} {ps : String} {af : Array Edge} (h : GL P l Q (⟨ds, .binOp .mul t x y t', tp, ps, af, none⟩ :: rest) N w0 M F K) : GL P l Q (⟨ds, .binOp .mul t x y t', tp, ps, af, none⟩ :: rest) N w0 M F K := h
end
end Go.Proofs.Ytkgjfcjciigcgaa.Sl
