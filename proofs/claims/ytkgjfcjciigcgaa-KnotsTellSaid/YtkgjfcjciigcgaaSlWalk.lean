/-
  The walk: one lemma an operation, one a form of code. A region that draws its order is walked in the text's order, its operations being quiet in the class of worlds that the known blocks describe. No program in sight.
-/
import Derived.Test.YtkgjfcjciigcgaaSlOps
import Derived.LoopN
namespace Go.Proofs.Ytkgjfcjciigcgaa.Sl
open Go.RowKit
set_option linter.unusedVariables false

/-! ### 1. Guards -/
section
variable {P : Program} {T : Tab} {N : Nat} {F : Fl} {a : Act} {l : List Oper} {o : Oper} {q : Bool}

/-- Whether the operation is carried out at all. -/
def Gok (l : List Oper) (F : Fl) (o : Oper) (q : Bool) : Prop := match o.guard with
  | none => q = true
  | some (j, b) => ∃ t p c, (match nth l j with | some oj => oj.dst | none => none) = some t ∧ Fg F t = some (p, .bool c) ∧ q = (p && (bif b then c else !c))

theorem gok_none (h : o.guard = none) : Gok l F o true := by unfold Gok; rw [h]
theorem gok_t {j t : Nat} {c : Bool} (h : o.guard = some (j, true)) (hj : (match nth l j with | some oj => oj.dst | none => none) = some t) (hc : Fg F t = some (true, .bool c)) : Gok l F o c := by
  unfold Gok; rw [h]; exact ⟨t, true, c, hj, hc, by simp⟩
theorem gok_f {j t : Nat} {c : Bool} (h : o.guard = some (j, false)) (hj : (match nth l j with | some oj => oj.dst | none => none) = some t) (hc : Fg F t = some (true, .bool c)) : Gok l F o (!c) := by
  unfold Gok; rw [h]; exact ⟨t, true, c, hj, hc, by simp⟩
theorem gok_tn {j t : Nat} {p c : Bool} (h : o.guard = some (j, true)) (hj : (match nth l j with | some oj => oj.dst | none => none) = some t) (hc : Fg F t = some (p, .bool c)) : Gok l F o (p && c) := by
  unfold Gok; rw [h]; exact ⟨t, p, c, hj, hc, by simp⟩
theorem gok_fn {j t : Nat} {p c : Bool} (h : o.guard = some (j, false)) (hj : (match nth l j with | some oj => oj.dst | none => none) = some t) (hc : Fg F t = some (p, .bool c)) : Gok l F o (p && !c) := by
  unfold Gok; rw [h]; exact ⟨t, p, c, hj, hc, by simp⟩

theorem Gok.wanted (h : Gok l F o q) (hF : Fr N F a) : Region.wanted o (yielded l.toArray a.tmps) = q := by
  unfold Gok at h
  unfold Region.wanted
  split at h
  · rename_i hg
    rw [hg, h]
  · rename_i j b hg
    obtain ⟨t, p, c, hj, hc, rfl⟩ := h
    rw [hg]
    rw [nth_eq] at hj
    have hy : yielded l.toArray a.tmps j = match a.tmps[t]? with
      | some (.bool b) => some b
      | _ => none := by
      unfold yielded
      cases hl : l[j]? with
      | none => rw [hl] at hj; cases hj
      | some oj =>
        rw [hl] at hj
        simp only [List.getElem?_toArray, hl, Option.bind_some, show oj.dst = some t from hj]
        rfl
    obtain ⟨g1, g2, g3⟩ := hF.get t p _ hc
    have hlt : t < a.tmps.size := by rw [hF.size]; exact g1
    simp only [Array.getD_eq_getD_getElem?, Array.getElem?_eq_getElem hlt, Option.getD_some] at g2 g3
    simp only [hy, Array.getElem?_eq_getElem hlt]
    cases p with
    | true =>
      rw [g2 rfl]
      cases b <;> cases c <;> rfl
    | false =>
      rw [g3 rfl]
      cases b <;> rfl

/-! ### 2. What an operation yields in every world of a class -/
def Yd (P : Program) (C : World → Prop) (l : List Oper) (N : Nat) (F : Fl) (o : Oper) (q : Bool) (v : Value) : Prop :=
  Gok l F o q ∧ ∀ a, Fr N F a → q = true → ∀ w, C w → o.quietAt P a C w v

variable {C : World → Prop} {v : Value}

theorem Yd.qOp {Q : Act → Prop} {rest : List Oper} (h : Yd P C l N F o q v) (hF : Fr N F a)
    (hK : ∀ u, (q = true → u = v) → (q = false → u = undef) → wpQuiet P l.toArray C Q rest (a.put o.dst u)) : wpQuiet P l.toArray C Q (o :: rest) a := by
  refine wpQuiet_step fun K hK' => ?_
  rw [h.1.wanted hF]
  cases q with
  | true => exact ⟨v, fun w hw => h.2 a hF rfl w hw, hK' _ (hK v (fun _ => rfl) (by simp))⟩
  | false => exact hK' _ (hK undef (by simp) (fun _ => rfl))

theorem Yd.list {Q : Exit → Act → World → Prop} {rest : List Oper} {w : World} (h : Yd P C l N F o q v) (hF : Fr N F a) (hw : C w)
    (hK : ∀ u w', C w' → (q = true → u = v) → (q = false → u = undef) → wpList P l.toArray Q rest (a.put o.dst u) w') : wpList P l.toArray Q (o :: rest) a w := by
  refine wpList_step fun K hK' => ?_
  rw [h.1.wanted hF]
  cases q with
  | false => exact hK' _ _ (hK undef w hw (by simp) (fun _ => rfl))
  | true =>
    have h3 := h.2 a hF rfl w hw
    unfold Oper.quietAt at h3
    show o.wp P a w K Q
    unfold Oper.wp
    generalize (execOp a.eval o).run P w = r at *
    cases r with
    | ok n w' =>
      cases n <;> simp only [Oper.quietUpon] at h3 <;> simp only [Oper.upon]
      case value u =>
        obtain ⟨e1, e2⟩ := h3
        subst e1 e2
        exact hK' _ _ (hK _ _ hw (fun _ => rfl) (by simp))
      case skip =>
        obtain ⟨e1, e2⟩ := h3
        subst e1
        exact hK' _ _ (hK _ _ hw (fun _ => e2.symm) (by simp))
      case enter f args =>
        obtain ⟨e1, hc⟩ := h3
        subst e1
        exact hc.mono fun e w'' ⟨he, hw''⟩ => by subst he; exact hK' _ _ (hK _ _ hw'' (fun _ => rfl) (by simp))
    | halt x w' => simp only [Oper.quietUpon] at h3

/-- .. and it is no call. -/
def Yv (P : Program) (C : World → Prop) (l : List Oper) (N : Nat) (F : Fl) (o : Oper) (q : Bool) (v : Value) : Prop :=
  Gok l F o q ∧ ∀ a, Fr N F a → q = true → ∀ w, C w → (execOp a.eval o).run P w = .ok (.value v) w
theorem Yv.yd (h : Yv P C l N F o q v) : Yd P C l N F o q v :=
  ⟨h.1, fun a hF hq w hw => by
    unfold Oper.quietAt
    rw [h.2 a hF hq w hw]
    exact ⟨rfl, rfl⟩⟩
theorem yd_value (hg : Gok l F o q) (h : ∀ a, Fr N F a → q = true → ∀ w, C w → (execOp a.eval o).run P w = .ok (.value v) w) : Yd P C l N F o q v :=
  ⟨hg, fun a hF hq w hw => by
    unfold Oper.quietAt
    rw [h a hF hq w hw]
    exact ⟨rfl, rfl⟩⟩

theorem yv_value (hg : Gok l F o q) (h : ∀ a, Fr N F a → q = true → ∀ w, C w → (execOp a.eval o).run P w = .ok (.value v) w) : Yv P C l N F o q v := ⟨hg, h⟩
theorem yv_pure (hT : TabOk P T) {ps : List Bool} (hg : Gok l F o q) (h : pureOp T F o.op = some v) (hc : cdl F o.op.operands.toList = some ps) (hp : q = true → allT ps) : Yv P C l N F o q v :=
  yv_value hg fun a hF hq w _ => pureOp_ok hT h hF hc (hp hq) w

theorem yv_add (hT : TabOk P T) {ps : List Bool} {t t' : TypeId} {x y : Operand} {m n : Int} (hg : Gok l F o q) (ho : o.op = .binOp .add t x y t') (h1 : vl F x = some (.int .i64 m)) (h2 : vl F y = some (.int .i64 n)) (hc : cdl F o.op.operands.toList = some ps) (hp : q = true → allT ps)
    (hb : q = true → -9223372036854775808 ≤ m + n ∧ m + n ≤ 9223372036854775807) : Yv P C l N F o q (.int .i64 (m + n)) :=
  yv_value hg fun a hF hq w _ => by
    have e : IntKind.i64.wrap (m + n) = m + n := by obtain ⟨b1, b2⟩ := hb hq; simp [IntKind.wrap, IntKind.signed, IntKind.bits]; omega
    have := pureOp_ok hT (o := o) (v := .int .i64 (IntKind.i64.wrap (m + n))) (P := P) (by rw [ho]; simp [pureOp, h1, h2, binO, kEq, intOp]) hF hc (hp hq) w
    rwa [e] at this
theorem yv_sub (hT : TabOk P T) {ps : List Bool} {t t' : TypeId} {x y : Operand} {m n : Int} (hg : Gok l F o q) (ho : o.op = .binOp .sub t x y t') (h1 : vl F x = some (.int .i64 m)) (h2 : vl F y = some (.int .i64 n)) (hc : cdl F o.op.operands.toList = some ps) (hp : q = true → allT ps)
    (hb : q = true → -9223372036854775808 ≤ m - n ∧ m - n ≤ 9223372036854775807) : Yv P C l N F o q (.int .i64 (m - n)) :=
  yv_value hg fun a hF hq w _ => by
    have e : IntKind.i64.wrap (m - n) = m - n := by obtain ⟨b1, b2⟩ := hb hq; simp [IntKind.wrap, IntKind.signed, IntKind.bits]; omega
    have := pureOp_ok hT (o := o) (v := .int .i64 (IntKind.i64.wrap (m - n))) (P := P) (by rw [ho]; simp [pureOp, h1, h2, binO, kEq, intOp]) hF hc (hp hq) w
    rwa [e] at this

/-- 'a && b', 'a || b', and the general pick. -/
theorem yv_pick {c x y : Operand} {pc px py b : Bool} {vx vy : Value} (hg : Gok l F o q) (ho : o.op = .pick c x y) (hc : Fo F c = some (pc, .bool b)) (hx : Fo F x = some (px, vx)) (hy : Fo F y = some (py, vy))
    (h0 : q = true → pc = true) (h1 : q = true → b = true → px = true) (h2 : q = true → b = false → py = true) : Yv P C l N F o q (if b then vx else vy) :=
  yv_value hg fun a hF hq w _ => by
    have e0 := hF.eval hc (h0 hq)
    obtain ⟨dst, op, tp, pos, after, guard⟩ := o
    subst ho
    cases b with
    | true => have e1 := hF.eval hx (h1 hq rfl); simp [execOp, e0, e1, asBool]
    | false => have e1 := hF.eval hy (h2 hq rfl); simp [execOp, e0, e1, asBool]
theorem yv_and {c x : Operand} {pc px b b' : Bool} (hg : Gok l F o q) (ho : o.op = .pick c x (.const (.bool false))) (hc : Fo F c = some (pc, .bool b)) (hx : Fo F x = some (px, .bool b'))
    (h0 : q = true → pc = true) (h1 : q = true → b = true → px = true) : Yv P C l N F o q (.bool (b && b')) := by
  have := yv_pick (P := P) (C := C) (N := N) hg ho hc hx (py := true) (vy := .bool false) rfl h0 h1 (fun _ _ => rfl)
  cases b <;> simpa using this
theorem yv_or {c y : Operand} {pc py b b' : Bool} (hg : Gok l F o q) (ho : o.op = .pick c (.const (.bool true)) y) (hc : Fo F c = some (pc, .bool b)) (hy : Fo F y = some (py, .bool b'))
    (h0 : q = true → pc = true) (h2 : q = true → b = false → py = true) : Yv P C l N F o q (.bool (b || b')) := by
  have := yv_pick (P := P) (C := C) (N := N) hg ho hc (px := true) (vx := .bool true) rfl hy h0 (fun _ _ => rfl) h2
  cases b <;> simpa using this

/-! ### loads -/
/-- The cells l, read as type t from number off on, are v. -/
def Lds (T : Tab) (t : TypeId) (l : List Value) (off : Nat) (v : Value) : Prop :=
  ∃ d vs, ty T t = some d ∧ vs.length = d.size ∧ (∀ j, j < d.size → l[off + j]? = vs[j]?) ∧ (d.kind.agg = true → v = .agg vs.toArray) ∧ (d.kind.agg = false → d.size = 1 ∧ vs = [v])

theorem lds_agg {t : TypeId} {d : TyD} {cs vs : List Value} {off : Nat} (hd : ty T t = some d) (ha : d.kind.agg = true) (hc : cut off d.size cs = some vs) : Lds T t cs off (.agg vs.toArray) := by
  obtain ⟨h1, h2⟩ := cut_spec _ _ _ _ hc
  exact ⟨d, vs, hd, h1, h2, fun _ => rfl, fun h => by rw [ha] at h; cases h⟩
theorem lds_whole {t : TypeId} {d : TyD} {cs : List Value} (hd : ty T t = some d) (ha : d.kind.agg = true) (hc : cs.length = d.size) : Lds T t cs 0 (.agg cs.toArray) :=
  ⟨d, cs, hd, hc, fun j _ => by simp, fun _ => rfl, fun h => by rw [ha] at h; cases h⟩
theorem lds_one {t : TypeId} {d : TyD} {cs : List Value} {off : Nat} {v : Value} (hd : ty T t = some d) (ha : d.kind.agg = false) (hs : d.size = 1) (hc : nth cs off = some v) : Lds T t cs off v :=
  ⟨d, [v], hd, by simp [hs], (fun j hj => by
    rw [nth_eq] at hc
    have : j = 0 := by omega
    subst this
    simpa using hc), (fun h => by rw [ha] at h; cases h), fun _ => ⟨hs, rfl⟩⟩

theorem run_loadCells {g o : Nat} {cs : List Value} {e : TypeId} {fr : Nat × Nat} {W : World} (hb : W.heap[g]? = some (.cells cs.toArray e fr)) : ∀ (k i : Nat) (vs : List Value) (acc : Array Value), vs.length = k → (∀ j, j < k → cs[o + i + j]? = vs[j]?) →
    (loadCellsFrom ⟨g, o, none⟩ i k acc).run P W = .ok (acc ++ vs.toArray) W
  | 0, i, vs, acc, hv, _ => by
    have : vs = [] := List.eq_nil_of_length_eq_zero hv
    subst this
    simp [loadCellsFrom]
  | k + 1, i, [], acc, hv, _ => by simp at hv
  | k + 1, i, v :: vs, acc, hv, h => by
    have h0 := h 0 (by omega)
    have hadd : (⟨g, o, none⟩ : Addr).add i = ⟨g, o + i, none⟩ := by unfold Addr.add; split <;> simp_all
    have hcell : W.cell? ⟨g, o + i, none⟩ = some v := by simpa [World.cell?, hb] using h0
    rw [loadCellsFrom, Sem.run_bind, hadd]
    simp only [load, Sem.run, hcell, Result.andThen_ok]
    rw [run_loadCells hb k (i + 1) vs (acc.push v) (by simpa using hv) (fun j hj => by
      have := h (j + 1) (by omega)
      rw [show o + (i + 1) + j = o + i + (j + 1) by omega]
      simpa using this)]
    simp

theorem run_loadVar (hT : TabOk P T) {t : TypeId} {g o : Nat} {cs : List Value} {e : TypeId} {fr : Nat × Nat} {W : World} (hb : W.heap[g]? = some (.cells cs.toArray e fr)) (hl : Lds T t cs o v) : (loadVar t ⟨g, o, none⟩).run P W = .ok v W := by
  obtain ⟨d, vs, hd, h1, h2, h3, h4⟩ := hl
  have hd' := hT t d hd
  cases ha : d.kind.agg with
  | true =>
    have := run_loadCells (P := P) (o := o) hb d.size 0 vs #[] h1 (fun j hj => by simpa using h2 j hj)
    simp [loadVar, hd'.isAgg, ha, hd'.sizeOf, loadCells, this, h3 ha]
  | false =>
    obtain ⟨hs, rfl⟩ := h4 ha
    have h0 := h2 0 (by omega)
    have hcell : W.cell? ⟨g, o, none⟩ = some v := by simpa [World.cell?, hb] using h0
    simp [loadVar, hd'.isAgg, ha, load, Sem.run, hcell]

theorem yv_load (hT : TabOk P T) {w0 : World} {M : List Nat} {K : Kl} {t : TypeId} {x : Operand} {p wr : Bool} {g off : Nat} {cs : List Value} {e : TypeId} {fr : Nat × Nat} (hg : Gok l F o q) (ho : o.op = .load t x) (hx : Fo F x = some (p, .pointer (some ⟨g, off, none⟩)))
    (hp : q = true → p = true) (hm : (g, wr, .cells cs.toArray e fr) ∈ K) (hl : q = true → Lds T t cs off v) : Yv P (St w0 M K) l N F o q v :=
  yv_value hg fun a hF hq w hw => by
    have e0 := hF.eval hx (hp hq)
    obtain ⟨dst, op, tp, pos, after, guard⟩ := o
    subst ho
    simp [execOp, e0, Instr.loadAt, Instr.sureAddr, run_loadVar hT (hw.known _ hm) (hl hq)]

theorem yv_indexAddr (hT : TabOk P T) {t : TypeId} {x ix : Operand} {px pi : Bool} {k : IntKind} {b off n c : Nat} {i : Int} {e : TypeId} {d : TyD} {s bs : Nat} {z : List Value} (hg : Gok l F o q) (ho : o.op = .indexAddr t x ix) (hx : Fo F x = some (px, .slice (some ⟨b, off, none⟩) n c)) (hi : Fo F ix = some (pi, .int k i))
    (ht : ty T t = some ⟨.slice e, s, bs, z⟩) (he : ty T e = some d) (hp : q = true → px = true) (hp' : q = true → pi = true) (hb : q = true → 0 ≤ i ∧ i < n) : Yv P C l N F o q (.pointer (some ⟨b, off + i.toNat * d.size, none⟩)) :=
  yv_value hg fun a hF hq w hw => by
    have e0 := hF.eval hx (hp hq)
    have e1 := hF.eval hi (hp' hq)
    obtain ⟨dst, op, tp, pos, after, guard⟩ := o
    subst ho
    have hk := (hT t _ ht).kind
    have hadd : ∀ m, (⟨b, off, none⟩ : Addr).add m = ⟨b, off + m, none⟩ := fun m => by unfold Addr.add; split <;> simp_all
    simp [execOp, e0, e1, Instr.indexAt, asIntOf, run_underlying hk, hb hq, (hT e _ he).sizeOf, hadd]

/-! ### calls that turn nothing that was there -/
def Ent (P : Program) (f : FuncId) : Prop := ∀ args w, (callFunc f args).run P w = .ok (.enter f args) w

theorem yd_call {w0 : World} {M : List Nat} {K : Kl} {f : FuncId} {args : Array Operand} {ts : Array TypeId} {vs : List Value} {ps : List Bool} (hg : Gok l F o q) (ho : o.op = .call ⟨.value (.func f), args, ts⟩) (hf : Ent P f) (hv : vals F args.toList = some vs) (hc : cdl F args.toList = some ps) (hp : q = true → allT ps)
    (h : q = true → ∀ W, St w0 M K W → Calls P f vs.toArray W fun e W' => e = .returned v ∧ Bl W W') : Yd P (St w0 M K) l N F o q v :=
  ⟨hg, fun a hF hq w hw => by
    have e0 := vals_ok hF hc (hp hq) hv
    obtain ⟨dst, op, tp, pos, after, guard⟩ := o
    subst ho
    have e1 : args.map a.eval = vs.toArray := by apply Array.ext'; simpa using e0
    unfold Oper.quietAt
    have hrun : (execOp a.eval ⟨dst, .call ⟨.value (.func f), args, ts⟩, tp, pos, after, guard⟩).run P w = .ok (.enter f vs.toArray) w := by
      have hf' := hf vs.toArray w
      simp [execOp, resolve, Act.eval, Deferred.ofValue, invoke, e1, hf']
    rw [hrun]
    exact ⟨rfl, (h hq w hw).mono fun e W' ⟨h1, h2⟩ => ⟨h1, hw.grow0 h2⟩⟩⟩

/-! ### 3. The goals of the walk -/
section
variable {Q : Exit → Act → World → Prop} {w0 : World} {M : List Nat} {K : Kl} {rest : List Oper} {d : Nat}

def GC (P : Program) (c : Code) (Q : Exit → Act → World → Prop) (N : Nat) (w0 : World) (M : List Nat) (F : Fl) (K : Kl) : Prop := ∀ a W, Fr N F a → St w0 M K W → c.wp P Q a W
def GE (Q : Exit → Act → World → Prop) (e : Exit) (N : Nat) (w0 : World) (M : List Nat) (F : Fl) (K : Kl) : Prop := ∀ a W, Fr N F a → St w0 M K W → Q e a W
def GL (P : Program) (l : List Oper) (Q : Exit → Act → World → Prop) (rest : List Oper) (N : Nat) (w0 : World) (M : List Nat) (F : Fl) (K : Kl) : Prop := ∀ a W, Fr N F a → St w0 M K W → wpList P l.toArray Q rest a W
/-- In a region that draws, walked in the text's order. -/
def GQ (P : Program) (l : List Oper) (Q : Exit → Act → World → Prop) (rest : List Oper) (N : Nat) (w0 : World) (M : List Nat) (F : Fl) (K : Kl) : Prop := ∀ a, Fr N F a → wpQuiet P l.toArray (St w0 M K) (fun a' => ∀ W, St w0 M K W → Q .normal a' W) rest a

theorem gl_nil (h : GE Q .normal N w0 M F K) : GL P l Q [] N w0 M F K := h
theorem gq_nil (h : GE Q .normal N w0 M F K) : GQ P l Q [] N w0 M F K := fun a hF W hW => h a W hF hW

theorem gl_yd (hy : Yd P (St w0 M K) l N F o q v) (hd : o.dst = some d) (hN : Nat.ble (d + 1) N = true) (h : GL P l Q rest N w0 M ((d, q, v) :: F) K) : GL P l Q (o :: rest) N w0 M F K := fun a W hF hW =>
  hy.list hF hW fun u w' hw' h1 h2 => by rw [hd]; exact h _ _ (hF.put hN q v u h1 h2) hw'
theorem gq_yd (hy : Yd P (St w0 M K) l N F o q v) (hd : o.dst = some d) (hN : Nat.ble (d + 1) N = true) (h : GQ P l Q rest N w0 M ((d, q, v) :: F) K) : GQ P l Q (o :: rest) N w0 M F K := fun a hF =>
  hy.qOp hF fun u h1 h2 => by rw [hd]; exact h _ (hF.put hN q v u h1 h2)
theorem gl_yv (hy : Yv P (St w0 M K) l N F o q v) (hd : o.dst = some d) (hN : Nat.ble (d + 1) N = true) (h : GL P l Q rest N w0 M ((d, q, v) :: F) K) : GL P l Q (o :: rest) N w0 M F K := gl_yd hy.yd hd hN h
theorem gq_yv (hy : Yv P (St w0 M K) l N F o q v) (hd : o.dst = some d) (hN : Nat.ble (d + 1) N = true) (h : GQ P l Q rest N w0 M ((d, q, v) :: F) K) : GQ P l Q (o :: rest) N w0 M F K := gq_yd hy.yd hd hN h
theorem gl_yd0 (hy : Yd P (St w0 M K) l N F o q v) (hd : o.dst = none) (h : GL P l Q rest N w0 M F K) : GL P l Q (o :: rest) N w0 M F K := fun a W hF hW =>
  hy.list hF hW fun u w' hw' h1 h2 => by rw [hd]; exact h _ _ hF hw'

theorem gc_region {id : Nat} (h : GL P l Q l N w0 M F K) : GC P (.region id l.toArray false) Q N w0 M F K := fun a W hF hW => wp_region_lit (h a W hF hW)
/-- It only reads, or calls. -/
def isRo : Op → Bool
  | .move _ | .assign _ | .pick .. | .build .. | .load .. | .nilCheck _ | .binOp .. | .unOp .. | .convert .. | .makeFunc .. | .fieldAddr .. | .field .. | .indexAddr .. | .index .. | .lookup .. | .extract .. | .slice .. => true
  | .call ⟨.value _, _, _⟩ => true
  | .call ⟨.builtin .len, _, _⟩ | .call ⟨.builtin .cap, _, _⟩ | .call ⟨.builtin .min, _, _⟩ | .call ⟨.builtin .max, _, _⟩ => true
  | _ => false
theorem gc_quietRo {id : Nat} (hro : l.all (fun o => isRo o.op) = true) (hm : P.follows .mixedOrders = true) (hB : Region.lexB .any l.toArray = true) (h : GQ P l Q l N w0 M F K) : GC P (.region id l.toArray true) Q N w0 M F K := fun a W hF hW =>
  wp_region_quiet hm hB (hW.drawn _) (by simpa using h a hF)
theorem gc_quiet {id : Nat} (hm : P.follows .mixedOrders = true) (hB : Region.lexB .any l.toArray = true) (h : GQ P l Q l N w0 M F K) : GC P (.region id l.toArray true) Q N w0 M F K := fun a W hF hW =>
  wp_region_quiet hm hB (hW.drawn _) (by simpa using h a hF)
theorem gc_seq {x y : Code} (h : GC P x (Exit.then (y.wp P Q) Q) N w0 M F K) : GC P (.seq x y) Q N w0 M F K := fun a W hF hW => wp_seq (h a W hF hW)
theorem ge_then {y : Code} {Q' : Exit → Act → World → Prop} (h : GC P y Q' N w0 M F K) : GE (Exit.then (y.wp P Q') Q) .normal N w0 M F K := h
theorem ge_then_exit {X : Act → World → Prop} {id : Nat} (h : GE Q (.exit id) N w0 M F K) : GE (Exit.then X Q) (.exit id) N w0 M F K := h
theorem ge_then_ret {X : Act → World → Prop} (h : GE Q .ret N w0 M F K) : GE (Exit.then X Q) .ret N w0 M F K := h
theorem gc_block {id : Nat} {c : Code} (h : GC P c (Exit.inBlock id Q) N w0 M F K) : GC P (.block id c) Q N w0 M F K := fun a W hF hW => wp_block (h a W hF hW)
theorem ge_block {id : Nat} (h : GE Q .normal N w0 M F K) : GE (Exit.inBlock id Q) .normal N w0 M F K := h
theorem ge_block_exit {id : Nat} (h : GE Q .normal N w0 M F K) : GE (Exit.inBlock id Q) (.exit id) N w0 M F K := fun a W hF hW => by
  simp only [Exit.inBlock, if_true]; exact h a W hF hW
theorem ge_block_pass {id id' : Nat} (hne : Nat.beq id' id = false) (h : GE Q (.exit id') N w0 M F K) : GE (Exit.inBlock id Q) (.exit id') N w0 M F K := fun a W hF hW => by
  simp only [Exit.inBlock, if_neg (Nat.ne_of_beq_eq_false hne)]; exact h a W hF hW
theorem ge_block_ret {id : Nat} (h : GE Q .ret N w0 M F K) : GE (Exit.inBlock id Q) .ret N w0 M F K := h
theorem gc_exit {id : Nat} (h : GE Q (.exit id) N w0 M F K) : GC P (.exit id) Q N w0 M F K := fun a W hF hW => wp_exit (h a W hF hW)
theorem gc_skip (h : GE Q .normal N w0 M F K) : GC P .skip Q N w0 M F K := fun a W hF hW => wp_skip (h a W hF hW)
theorem gc_ret (h : GE Q .ret N w0 M F K) : GC P .ret Q N w0 M F K := fun a W hF hW => wp_ret (h a W hF hW)
theorem gc_label {lb : Nat} (h : GE Q .normal N w0 M F K) : GC P (.label lb) Q N w0 M F K := fun a W hF hW => wp_label (h a W hF hW)
theorem gc_true {c : Operand} {x y : Code} (hc : Fo F c = some (true, .bool true)) (h : GC P x Q N w0 M F K) : GC P (.cond c x y) Q N w0 M F K := fun a W hF hW => wp_cond_true (hF.eval hc rfl) (h a W hF hW)
theorem gc_false {c : Operand} {x y : Code} (hc : Fo F c = some (true, .bool false)) (h : GC P y Q N w0 M F K) : GC P (.cond c x y) Q N w0 M F K := fun a W hF hW => wp_cond_false (hF.eval hc rfl) (h a W hF hW)
theorem gc_cond {c : Operand} {x y : Code} {b : Bool} (hc : Fo F c = some (true, .bool b)) (h1 : b = true → GC P x Q N w0 M F K) (h2 : b = false → GC P y Q N w0 M F K) : GC P (.cond c x y) Q N w0 M F K := fun a W hF hW =>
  wp_cond_split (hF.eval hc rfl) (fun e => h1 e a W hF hW) (fun e => h2 e a W hF hW)

/-- What stands behind is walked from fewer facts. -/
theorem gc_less {c : Code} {F' : Fl} {K' : Kl} (hF' : FrSub F' F) (hK' : K'.Sublist K) (h : GC P c Q N w0 M F' K') : GC P c Q N w0 M F K := fun a W hF hW => h a W (hF.sub hF') (hW.drop hK')
theorem ge_less {e : Exit} {F' : Fl} {K' : Kl} (hF' : FrSub F' F) (hK' : K'.Sublist K) (h : GE Q e N w0 M F' K') : GE Q e N w0 M F K := fun a W hF hW => h a W (hF.sub hF') (hW.drop hK')

/-! ### loops -/
/-- Behind a round: the relation at some y that is less. -/
def Rnd {α : Type} (N : Nat) (w0 : World) (M : List Nat) (FI : α → Fl) (KI : α → Kl) (inv : α → Prop) (μ : α → Nat) (m : Nat) (a : Act) (w : World) : Prop := ∃ y, inv y ∧ μ y < m ∧ Fr N (FI y) a ∧ St w0 M (KI y) w
theorem gc_loop {α : Type} (FI : α → Fl) (KI : α → Kl) (inv : α → Prop) (μ : α → Nat) (x : α) {c : Code} (hF' : FrSub (FI x) F) (hK' : (KI x).Sublist K) (hx : inv x)
    (round : ∀ x, inv x → GC P c (Exit.then (Rnd N w0 M FI KI inv μ (μ x)) Q) N w0 M (FI x) (KI x)) : GC P (.loop c) Q N w0 M F K := fun a W hF hW => by
  have key : ∀ n x a W, μ x < n → inv x → Fr N (FI x) a → St w0 M (KI x) W → Code.rounds P c Q n a W := by
    intro n
    induction n with
    | zero => intro x a W hn; omega
    | succ n ih =>
      intro x a W hn hx hF hW
      rw [rounds_succ]
      refine Code.wp_mono (fun e a' w' h => ?_) (round x hx a W hF hW)
      cases e with
      | normal =>
        obtain ⟨y, hy, hlt, hF', hW'⟩ := h
        exact ih y a' w' (by omega) hy hF' hW'
      | _ => exact h
  exact wp_loop_rounds _ (key (μ x + 1) x a W (by omega) hx (hF.sub hF') (hW.drop hK'))
theorem ge_round {α : Type} {FI : α → Fl} {KI : α → Kl} {inv : α → Prop} {μ : α → Nat} {m : Nat} (y : α) (hy : inv y) (hm : μ y < m) (hF' : FrSub (FI y) F) (hK' : (KI y).Sublist K) : GE (Exit.then (Rnd N w0 M FI KI inv μ m) Q) .normal N w0 M F K := fun a W hF hW =>
  ⟨y, hy, hm, hF.sub hF', hW.drop hK'⟩
theorem gc_old {c : Code} {b : Nat} {ob : Obj} (hb : w0.heap[b]? = some ob) (hM : b ∉ M) (hK' : ∀ e ∈ K, b ≠ e.1) (h : GC P c Q N w0 M F ((b, false, ob) :: K)) : GC P c Q N w0 M F K := fun a W hF hW => h a W hF (hW.old hb hM hK')

/-! ### in and out -/
def argF : Nat → List Value → Fl
  | _, [] => []
  | i, v :: r => (i, true, v) :: argF (i + 1) r
theorem argF_get : ∀ (vs : List Value) (i n : Nat) (pv : Bool × Value), Fg (argF i vs) n = some pv → i ≤ n ∧ n - i < vs.length ∧ pv = (true, (vs[n - i]?).getD undef)
  | [], i, n, pv, h => by simp [argF, Fg] at h
  | v :: r, i, n, pv, h => by
    unfold argF Fg at h
    cases hb : Nat.beq i n with
    | true =>
      rw [hb] at h
      have := Nat.eq_of_beq_eq_true hb
      subst this
      simp at h
      subst h
      simp
    | false =>
      rw [hb] at h
      have hne := Nat.ne_of_beq_eq_false hb
      obtain ⟨h1, h2, h3⟩ := argF_get r (i + 1) n pv (by simpa using h)
      refine ⟨by omega, by simp; omega, ?_⟩
      rw [h3, show n - i = (n - (i + 1)) + 1 by omega]
      simp

theorem enter {f : FuncId} {fn : Func} {c : Code} {args : List Value} {w : World} {R : Ending → World → Prop} (hf : P.funcs[f]? = some fn) (hb : fn.body = some c) (hn : fn.ntmps = N) (hl : Nat.ble args.length N = true) (hK : St w M K w)
    (h : GC P c (bodyPost P fn R) N w M (argF 0 args) K) : Calls P f args.toArray w R := by
  have hl' := Nat.le_of_ble_eq_true hl
  refine calls_of_wp hf hb (h _ _ ⟨by simp [hn]; omega, rfl, fun n p v hg => ?_⟩ hK)
  obtain ⟨_, h2, h3⟩ := argF_get args 0 n (p, v) hg
  simp at h2 h3
  obtain ⟨rfl, rfl⟩ := h3
  refine ⟨by omega, fun _ => ?_, by simp⟩
  simp [Array.getD_eq_getD_getElem?, Array.getElem?_append, h2]

/-- What a function's result slots hold. -/
inductive RV (T : Tab) (F : Fl) (K : Kl) : ResultVar → Value → Prop
  | tmp {t : Tmp} {v : Value} : Fg F t = some (true, v) → RV T F K (.tmp t) v
  | cell {t : Tmp} {tp : TypeId} {g off : Nat} {wr : Bool} {cs : List Value} {e : TypeId} {fr : Nat × Nat} {v : Value} : Fg F t = some (true, .pointer (some ⟨g, off, none⟩)) → (g, wr, .cells cs.toArray e fr) ∈ K → Lds T tp cs off v → RV T F K (.cell t tp) v
theorem ge_ret_none {fn : Func} {R : Ending → World → Prop} (hr : fn.results = #[]) (h : ∀ W, St w0 M K W → R (.returned (.tuple #[])) W) : GE (bodyPost P fn R) .ret N w0 M F K := fun a W hF hW =>
  ⟨hF.defers, _, results_none hr _ _ _, h W hW⟩
theorem ge_end_none {fn : Func} {R : Ending → World → Prop} (hr : fn.results = #[]) (h : ∀ W, St w0 M K W → R (.returned (.tuple #[])) W) : GE (bodyPost P fn R) .normal N w0 M F K := fun a W hF hW =>
  ⟨hF.defers, _, results_none hr _ _ _, h W hW⟩
theorem results1 (hT : TabOk P T) {fn : Func} {r : ResultVar} {v : Value} (hr : fn.results = #[r]) (h : RV T F K r v) (hF : Fr N F a) {W : World} (hW : St w0 M K W) : (results fn a.tmps).run P W = .ok v W := by
  cases h with
  | tmp h => have e := (hF.get _ _ _ h).2.1 rfl; rw [Array.getD_eq_getD_getElem?] at e; simp [results, hr, e]
  | cell h hm hl => have e := (hF.get _ _ _ h).2.1 rfl; rw [Array.getD_eq_getD_getElem?] at e; simp [results, hr, e, asAddr, run_loadVar hT (hW.known _ hm) hl]
theorem results2 (hT : TabOk P T) {fn : Func} {r1 r2 : ResultVar} {v1 v2 : Value} (hr : fn.results = #[r1, r2]) (h1 : RV T F K r1 v1) (h2 : RV T F K r2 v2) (hF : Fr N F a) {W : World} (hW : St w0 M K W) : (results fn a.tmps).run P W = .ok (.tuple #[v1, v2]) W := by
  cases h1 with
  | tmp h => 
    have e := (hF.get _ _ _ h).2.1 rfl
    rw [Array.getD_eq_getD_getElem?] at e
    cases h2 with
    | tmp h' => have e' := (hF.get _ _ _ h').2.1 rfl; rw [Array.getD_eq_getD_getElem?] at e'; simp [results, hr, e, e']
    | cell h' hm' hl' => have e' := (hF.get _ _ _ h').2.1 rfl; rw [Array.getD_eq_getD_getElem?] at e'; simp [results, hr, e, e', asAddr, run_loadVar hT (hW.known _ hm') hl']
  | cell h hm hl =>
    have e := (hF.get _ _ _ h).2.1 rfl
    rw [Array.getD_eq_getD_getElem?] at e
    cases h2 with
    | tmp h' => have e' := (hF.get _ _ _ h').2.1 rfl; rw [Array.getD_eq_getD_getElem?] at e'; simp [results, hr, e, e', asAddr, run_loadVar hT (hW.known _ hm) hl]
    | cell h' hm' hl' => have e' := (hF.get _ _ _ h').2.1 rfl; rw [Array.getD_eq_getD_getElem?] at e'; simp [results, hr, e, e', asAddr, run_loadVar hT (hW.known _ hm) hl, run_loadVar hT (hW.known _ hm') hl']
theorem ge_ret1 (hT : TabOk P T) {fn : Func} {r : ResultVar} {v : Value} {R : Ending → World → Prop} (hr : fn.results = #[r]) (hv : RV T F K r v) (h : ∀ W, St w0 M K W → R (.returned v) W) : GE (bodyPost P fn R) .ret N w0 M F K := fun a W hF hW =>
  ⟨hF.defers, _, results1 hT hr hv hF hW, h W hW⟩
theorem ge_end1 (hT : TabOk P T) {fn : Func} {r : ResultVar} {v : Value} {R : Ending → World → Prop} (hr : fn.results = #[r]) (hv : RV T F K r v) (h : ∀ W, St w0 M K W → R (.returned v) W) : GE (bodyPost P fn R) .normal N w0 M F K := fun a W hF hW =>
  ⟨hF.defers, _, results1 hT hr hv hF hW, h W hW⟩
theorem ge_ret2 (hT : TabOk P T) {fn : Func} {r1 r2 : ResultVar} {v1 v2 : Value} {R : Ending → World → Prop} (hr : fn.results = #[r1, r2]) (h1 : RV T F K r1 v1) (h2 : RV T F K r2 v2) (h : ∀ W, St w0 M K W → R (.returned (.tuple #[v1, v2])) W) : GE (bodyPost P fn R) .ret N w0 M F K := fun a W hF hW =>
  ⟨hF.defers, _, results2 hT hr h1 h2 hF hW, h W hW⟩

/-! ### 4. Operations that turn the world (unguarded) -/
theorem gl_run {v : Value} {K' : Kl} (hg : o.guard = none) (hd : o.dst = some d) (hN : Nat.ble (d + 1) N = true) (hrun : ∀ a W, Fr N F a → St w0 M K W → ∃ W' v K', (execOp a.eval o).run P W = .ok (.value v) W' ∧ St w0 M K' W' ∧ GL P l Q rest N w0 M ((d, true, v) :: F) K') : GL P l Q (o :: rest) N w0 M F K := fun a W hF hW => by
  obtain ⟨W', v, K', hr, hW', h⟩ := hrun a W hF hW
  refine wpList_plain hg fun KK hK => ?_
  unfold Oper.wp
  rw [hr, Oper.upon_value, hd]
  exact hK _ _ (h _ _ (hF.put hN true v v (fun _ => rfl) (by simp)) hW')

theorem gl_box {t : TypeId} {x : Operand} {v : Value} (hg : o.guard = none) (ho : o.op = .box t x) (hx : Fo F x = some (true, v)) (hd : o.dst = some d) (hN : Nat.ble (d + 1) N = true)
    (h : ∀ g, w0.heap.size ≤ g → GL P l Q rest N w0 M ((d, true, .pointer (some ⟨g, 0, none⟩)) :: F) ((g, true, .cells v.cells.toList.toArray t (0, 0)) :: K)) : GL P l Q (o :: rest) N w0 M F K := by
  refine gl_run hg hd hN (v := v) (K' := K) fun a W hF hW => ?_
  have e := hF.eval hx rfl
  refine ⟨_, _, _, ?_, hW.alloc (.cells v.cells t (0, 0)), by have := h W.heap.size hW.size; simpa using this⟩
  obtain ⟨dst, op, tp, pos, after, guard⟩ := o
  subst ho
  simp [execOp, e, Instr.box, newVar, newRow, newObj, Sem.run]

theorem gl_alloc (hT : TabOk P T) {t : TypeId} {dd : TyD} (hg : o.guard = none) (ho : o.op = .alloc t) (ht : ty T t = some dd) (hd : o.dst = some d) (hN : Nat.ble (d + 1) N = true)
    (h : ∀ g, w0.heap.size ≤ g → GL P l Q rest N w0 M ((d, true, .pointer (some ⟨g, 0, none⟩)) :: F) ((g, true, .cells dd.zero.toArray t (0, 0)) :: K)) : GL P l Q (o :: rest) N w0 M F K := by
  refine gl_run hg hd hN (v := undef) (K' := K) fun a W hF hW => ?_
  obtain ⟨z, hz, hzc⟩ := (hT t dd ht).zeroValue W (P := P)
  refine ⟨_, _, _, ?_, hW.alloc (.cells dd.zero.toArray t (0, 0)), h W.heap.size hW.size⟩
  obtain ⟨dst, op, tp, pos, after, guard⟩ := o
  subst ho
  simp [execOp, Instr.alloc, hz, newVar, newRow, newObj, Sem.run, hzc]

theorem run_storeCells {g off : Nat} {e : TypeId} : ∀ (c : List Value) (i : Nat) (W : World) (cs : List Value), W.heap[g]? = some (.cells cs.toArray e (0, 0)) → off + i + c.length ≤ cs.length → (∀ v ∈ c, v.oneCell' = true) →
    ∃ W', (storeCells ⟨g, off, none⟩ c i).run P W = .ok () W' ∧ W'.os = W.os ∧ W'.tape = W.tape ∧ (W'.output = W.output ∧ W'.drawn = W.drawn) ∧ W'.heap.size = W.heap.size ∧ (∀ b, b ≠ g → W'.heap[b]? = W.heap[b]?) ∧
      W'.heap[g]? = some (.cells (cs.take (off + i) ++ c ++ cs.drop (off + i + c.length)).toArray e (0, 0))
  | [], i, W, cs, hb, hl, _ => ⟨W, by simp [storeCells], rfl, rfl, ⟨rfl, rfl⟩, rfl, fun _ _ => rfl, by simpa using hb⟩
  | v :: c, i, W, cs, hb, hl, hc => by
    simp only [List.length_cons] at hl
    have hadd : (⟨g, off, none⟩ : Addr).add i = ⟨g, off + i, none⟩ := by unfold Addr.add; split <;> simp_all
    have hv := hc v (by simp)
    have hlt : off + i < cs.length := by omega
    have hcell : W.cell? ⟨g, off + i, none⟩ = some cs[off + i] := by simp [World.cell?, hb, hlt]
    have hfr : W.frozen? ⟨g, off + i, none⟩ = false := by simp [World.frozen?, hb]
    have hb' : (W.setCell ⟨g, off + i, none⟩ v).heap[g]? = some (.cells (cs.set (off + i) v).toArray e (0, 0)) := by
      simp [World.setCell, Array.getElem?_modify, hb]
    obtain ⟨W', h1, h2, h3, h4, h5, h6, h7⟩ := run_storeCells (g := g) (off := off) (e := e) c (i + 1) (W.setCell ⟨g, off + i, none⟩ v) (cs.set (off + i) v) hb' (by rw [List.length_set]; omega) (fun u hu => hc u (by simp [hu]))
    refine ⟨W', ?_, h2, h3, h4, by rw [h5]; simp [World.setCell], fun b hbne => by rw [h6 b hbne]; exact Below.heap_setCell _ _ _ _ (by simpa using hbne), ?_⟩
    · rw [storeCells, Sem.run_bind, hadd]
      have : (store ⟨g, off + i, none⟩ v).run P W = .ok () (W.setCell ⟨g, off + i, none⟩ v) := by
        unfold store
        cases v <;> simp [Value.oneCell'] at hv <;> simp [Sem.run, hcell, hfr]
      rw [this]
      exact h1
    · rw [h7]
      congr 2
      simp only [List.length_cons]
      have e1 : (cs.set (off + i) v).take (off + (i + 1)) = cs.take (off + i) ++ [v] := by
        apply List.ext_getElem?
        intro j
        rcases Nat.lt_trichotomy j (off + i) with hj | hj | hj
        · rw [List.getElem?_append_left (by simp; omega), List.getElem?_take, List.getElem?_take, if_pos (by omega), if_pos (by omega), List.getElem?_set_ne (by omega)]
        · subst hj
          rw [List.getElem?_append_right (by rw [List.length_take]; omega), List.length_take, show off + i - min (off + i) cs.length = 0 by omega, List.getElem?_take, if_pos (by omega)]
          simp [hlt]
        · rw [List.getElem?_take, if_neg (by omega), List.getElem?_eq_none (by rw [List.length_append, List.length_take, List.length_singleton]; omega)]
      have e2 : (cs.set (off + i) v).drop (off + (i + 1) + c.length) = cs.drop (off + i + (c.length + 1)) := by
        rw [List.drop_set, if_pos (by omega)]
        congr 1
        omega
      rw [e1, e2]
      simp

theorem gl_store {t : TypeId} {x y : Operand} {v : Value} {g off : Nat} {e : TypeId} {cs : List Value} {K' : Kl} {dd : TyD} (hT : TabOk P T) (hg : o.guard = none) (ho : o.op = .store t x y) (hx : Fo F x = some (true, .pointer (some ⟨g, off, none⟩))) (hy : Fo F y = some (true, v)) (hd : o.dst = none)
    (ht : ty T t = some dd) (hs : v.cells.toList.length = dd.size) (h1 : ∀ u ∈ v.cells.toList, u.oneCell' = true) {cs' : List Value} (hp : putL off v.cells.toList cs = some cs') (hk : Ku K g (.cells cs.toArray e (0, 0)) (.cells cs'.toArray e (0, 0)) K')
    (h : GL P l Q rest N w0 M F K') : GL P l Q (o :: rest) N w0 M F K := fun a W hF hW => by
  have e0 := hF.eval hx rfl
  have e1 := hF.eval hy rfl
  obtain ⟨p1, p2⟩ := putL_spec _ _ _ _ hp
  obtain ⟨W', r1, r2, r3, r4, r5, r6, r7⟩ := run_storeCells (P := P) (off := off) v.cells.toList 0 W cs (hW.known _ hk.mem) (by simpa using p1) h1
  refine wpList_plain hg fun KK hK => ?_
  have hrun : (execOp a.eval o).run P W = .ok .skip W' := by
    obtain ⟨dst, op, tp, pos, after, guard⟩ := o
    subst ho
    simp only [Array.length_toList] at hs
    simp [execOp, e0, e1, Instr.storeAt, Instr.sureAddr, storeVar, (hT t dd ht).sizeOf, hs, r1]
  unfold Oper.wp
  rw [hrun, Oper.upon_skip, hd]
  refine hK _ _ (h _ _ hF (hW.set hk r2 r3 r4 r5 (by rw [r7, p2]; simp) r6))

/-! ### 5. The same, unguarded, in the form that the walk uses -/
theorem allT_of {ps : List Bool} (h : ps.all id = true) : allT ps := fun p hp => by simpa using List.all_eq_true.1 h p hp

theorem allT_nil : allT [] := fun _ h => by cases h
theorem allT_cons {p : Bool} {ps : List Bool} (h : p = true) (h' : allT ps) : allT (p :: ps) := fun x hx => by
  rcases List.mem_cons.1 hx with rfl | hx
  · exact h
  · exact h' x hx
theorem and_l {a b : Bool} (h : (a && b) = true) : a = true := by cases a <;> simp_all
theorem and_r {a b : Bool} (h : (a && b) = true) : b = true := by cases a <;> simp_all

theorem gl_pure {v : Value} {ps : List Bool} (hT : TabOk P T) (hg : o.guard = none) (h : pureOp T F o.op = some v) (hc : cdl F o.op.operands.toList = some ps) (hp : ps.all id = true) (hd : o.dst = some d) (hN : Nat.ble (d + 1) N = true) (hk : GL P l Q rest N w0 M ((d, true, v) :: F) K) : GL P l Q (o :: rest) N w0 M F K :=
  gl_yv (yv_pure hT (gok_none hg) h hc (fun _ => allT_of hp)) hd hN hk
theorem gq_pure {v : Value} {ps : List Bool} (hT : TabOk P T) (hg : o.guard = none) (h : pureOp T F o.op = some v) (hc : cdl F o.op.operands.toList = some ps) (hp : ps.all id = true) (hd : o.dst = some d) (hN : Nat.ble (d + 1) N = true) (hk : GQ P l Q rest N w0 M ((d, true, v) :: F) K) : GQ P l Q (o :: rest) N w0 M F K :=
  gq_yv (yv_pure hT (gok_none hg) h hc (fun _ => allT_of hp)) hd hN hk
theorem gl_box_agg {t : TypeId} {x : Operand} {cs : List Value} (hg : o.guard = none) (ho : o.op = .box t x) (hx : Fo F x = some (true, .agg cs.toArray)) (hd : o.dst = some d) (hN : Nat.ble (d + 1) N = true)
    (h : ∀ g, w0.heap.size ≤ g → GL P l Q rest N w0 M ((d, true, .pointer (some ⟨g, 0, none⟩)) :: F) ((g, true, .cells cs.toArray t (0, 0)) :: K)) : GL P l Q (o :: rest) N w0 M F K :=
  gl_box hg ho hx hd hN (by simpa [Value.cells] using h)
theorem gl_box_one {t : TypeId} {x : Operand} {v : Value} (hg : o.guard = none) (ho : o.op = .box t x) (hx : Fo F x = some (true, v)) (hv : v.cells.toList = [v]) (hd : o.dst = some d) (hN : Nat.ble (d + 1) N = true)
    (h : ∀ g, w0.heap.size ≤ g → GL P l Q rest N w0 M ((d, true, .pointer (some ⟨g, 0, none⟩)) :: F) ((g, true, .cells [v].toArray t (0, 0)) :: K)) : GL P l Q (o :: rest) N w0 M F K :=
  gl_box hg ho hx hd hN (by rw [hv]; exact h)
end
end
attribute [irreducible] GC GE GL GQ

/-! ### 6. Gates: each lets one form of goal pass, and fails at once at others -/
section
variable {P : Program} {N : Nat} {F : Fl} {l rest : List Oper} {Q : Exit → Act → World → Prop} {w0 : World} {M : List Nat} {K : Kl} {ds : Option Tmp} {tp t t' : TypeId} {ps : String} {af : Array Edge} {gd : Option (Nat × Bool)} {x y c : Operand} {f : FuncId} {args : Array Operand} {ts : Array TypeId} {code : Code} {e : Exit}
theorem gl_load0 (h : GL P l Q (⟨ds, .load t x, tp, ps, af, none⟩ :: rest) N w0 M F K) : GL P l Q (⟨ds, .load t x, tp, ps, af, none⟩ :: rest) N w0 M F K := h
theorem gl_loadG {gg : Nat × Bool} (h : GL P l Q (⟨ds, .load t x, tp, ps, af, some gg⟩ :: rest) N w0 M F K) : GL P l Q (⟨ds, .load t x, tp, ps, af, some gg⟩ :: rest) N w0 M F K := h
theorem gl_calv0 (h : GL P l Q (⟨ds, .call ⟨.value (.func f), args, ts⟩, tp, ps, af, none⟩ :: rest) N w0 M F K) : GL P l Q (⟨ds, .call ⟨.value (.func f), args, ts⟩, tp, ps, af, none⟩ :: rest) N w0 M F K := h
theorem gl_calvG {gg : Nat × Bool} (h : GL P l Q (⟨ds, .call ⟨.value (.func f), args, ts⟩, tp, ps, af, some gg⟩ :: rest) N w0 M F K) : GL P l Q (⟨ds, .call ⟨.value (.func f), args, ts⟩, tp, ps, af, some gg⟩ :: rest) N w0 M F K := h
theorem gl_pick0 (h : GL P l Q (⟨ds, .pick c x y, tp, ps, af, none⟩ :: rest) N w0 M F K) : GL P l Q (⟨ds, .pick c x y, tp, ps, af, none⟩ :: rest) N w0 M F K := h
theorem gl_pickG {gg : Nat × Bool} (h : GL P l Q (⟨ds, .pick c x y, tp, ps, af, some gg⟩ :: rest) N w0 M F K) : GL P l Q (⟨ds, .pick c x y, tp, ps, af, some gg⟩ :: rest) N w0 M F K := h
theorem gl_idx0 (h : GL P l Q (⟨ds, .indexAddr t x y, tp, ps, af, none⟩ :: rest) N w0 M F K) : GL P l Q (⟨ds, .indexAddr t x y, tp, ps, af, none⟩ :: rest) N w0 M F K := h
theorem gl_idxG {gg : Nat × Bool} (h : GL P l Q (⟨ds, .indexAddr t x y, tp, ps, af, some gg⟩ :: rest) N w0 M F K) : GL P l Q (⟨ds, .indexAddr t x y, tp, ps, af, some gg⟩ :: rest) N w0 M F K := h
theorem gl_add0 (h : GL P l Q (⟨ds, .binOp .add t x y t', tp, ps, af, none⟩ :: rest) N w0 M F K) : GL P l Q (⟨ds, .binOp .add t x y t', tp, ps, af, none⟩ :: rest) N w0 M F K := h
theorem gl_addG {gg : Nat × Bool} (h : GL P l Q (⟨ds, .binOp .add t x y t', tp, ps, af, some gg⟩ :: rest) N w0 M F K) : GL P l Q (⟨ds, .binOp .add t x y t', tp, ps, af, some gg⟩ :: rest) N w0 M F K := h
theorem gl_sub0 (h : GL P l Q (⟨ds, .binOp .sub t x y t', tp, ps, af, none⟩ :: rest) N w0 M F K) : GL P l Q (⟨ds, .binOp .sub t x y t', tp, ps, af, none⟩ :: rest) N w0 M F K := h
theorem gl_subG {gg : Nat × Bool} (h : GL P l Q (⟨ds, .binOp .sub t x y t', tp, ps, af, some gg⟩ :: rest) N w0 M F K) : GL P l Q (⟨ds, .binOp .sub t x y t', tp, ps, af, some gg⟩ :: rest) N w0 M F K := h
theorem gl_box0 (h : GL P l Q (⟨ds, .box t x, tp, ps, af, none⟩ :: rest) N w0 M F K) : GL P l Q (⟨ds, .box t x, tp, ps, af, none⟩ :: rest) N w0 M F K := h
theorem gl_alc0 (h : GL P l Q (⟨ds, .alloc t, tp, ps, af, none⟩ :: rest) N w0 M F K) : GL P l Q (⟨ds, .alloc t, tp, ps, af, none⟩ :: rest) N w0 M F K := h
theorem gl_sto0 (h : GL P l Q (⟨ds, .store t x y, tp, ps, af, none⟩ :: rest) N w0 M F K) : GL P l Q (⟨ds, .store t x y, tp, ps, af, none⟩ :: rest) N w0 M F K := h
theorem gl_any0 {op : Op} (h : GL P l Q (⟨ds, op, tp, ps, af, none⟩ :: rest) N w0 M F K) : GL P l Q (⟨ds, op, tp, ps, af, none⟩ :: rest) N w0 M F K := h
theorem gl_anyG {op : Op} {gg : Nat × Bool} (h : GL P l Q (⟨ds, op, tp, ps, af, some gg⟩ :: rest) N w0 M F K) : GL P l Q (⟨ds, op, tp, ps, af, some gg⟩ :: rest) N w0 M F K := h
theorem gq_load0 (h : GQ P l Q (⟨ds, .load t x, tp, ps, af, none⟩ :: rest) N w0 M F K) : GQ P l Q (⟨ds, .load t x, tp, ps, af, none⟩ :: rest) N w0 M F K := h
theorem gq_loadG {gg : Nat × Bool} (h : GQ P l Q (⟨ds, .load t x, tp, ps, af, some gg⟩ :: rest) N w0 M F K) : GQ P l Q (⟨ds, .load t x, tp, ps, af, some gg⟩ :: rest) N w0 M F K := h
theorem gq_calv0 (h : GQ P l Q (⟨ds, .call ⟨.value (.func f), args, ts⟩, tp, ps, af, none⟩ :: rest) N w0 M F K) : GQ P l Q (⟨ds, .call ⟨.value (.func f), args, ts⟩, tp, ps, af, none⟩ :: rest) N w0 M F K := h
theorem gq_calvG {gg : Nat × Bool} (h : GQ P l Q (⟨ds, .call ⟨.value (.func f), args, ts⟩, tp, ps, af, some gg⟩ :: rest) N w0 M F K) : GQ P l Q (⟨ds, .call ⟨.value (.func f), args, ts⟩, tp, ps, af, some gg⟩ :: rest) N w0 M F K := h
theorem gq_pick0 (h : GQ P l Q (⟨ds, .pick c x y, tp, ps, af, none⟩ :: rest) N w0 M F K) : GQ P l Q (⟨ds, .pick c x y, tp, ps, af, none⟩ :: rest) N w0 M F K := h
theorem gq_pickG {gg : Nat × Bool} (h : GQ P l Q (⟨ds, .pick c x y, tp, ps, af, some gg⟩ :: rest) N w0 M F K) : GQ P l Q (⟨ds, .pick c x y, tp, ps, af, some gg⟩ :: rest) N w0 M F K := h
theorem gq_idx0 (h : GQ P l Q (⟨ds, .indexAddr t x y, tp, ps, af, none⟩ :: rest) N w0 M F K) : GQ P l Q (⟨ds, .indexAddr t x y, tp, ps, af, none⟩ :: rest) N w0 M F K := h
theorem gq_idxG {gg : Nat × Bool} (h : GQ P l Q (⟨ds, .indexAddr t x y, tp, ps, af, some gg⟩ :: rest) N w0 M F K) : GQ P l Q (⟨ds, .indexAddr t x y, tp, ps, af, some gg⟩ :: rest) N w0 M F K := h
theorem gq_add0 (h : GQ P l Q (⟨ds, .binOp .add t x y t', tp, ps, af, none⟩ :: rest) N w0 M F K) : GQ P l Q (⟨ds, .binOp .add t x y t', tp, ps, af, none⟩ :: rest) N w0 M F K := h
theorem gq_addG {gg : Nat × Bool} (h : GQ P l Q (⟨ds, .binOp .add t x y t', tp, ps, af, some gg⟩ :: rest) N w0 M F K) : GQ P l Q (⟨ds, .binOp .add t x y t', tp, ps, af, some gg⟩ :: rest) N w0 M F K := h
theorem gq_sub0 (h : GQ P l Q (⟨ds, .binOp .sub t x y t', tp, ps, af, none⟩ :: rest) N w0 M F K) : GQ P l Q (⟨ds, .binOp .sub t x y t', tp, ps, af, none⟩ :: rest) N w0 M F K := h
theorem gq_subG {gg : Nat × Bool} (h : GQ P l Q (⟨ds, .binOp .sub t x y t', tp, ps, af, some gg⟩ :: rest) N w0 M F K) : GQ P l Q (⟨ds, .binOp .sub t x y t', tp, ps, af, some gg⟩ :: rest) N w0 M F K := h
theorem gq_any0 {op : Op} (h : GQ P l Q (⟨ds, op, tp, ps, af, none⟩ :: rest) N w0 M F K) : GQ P l Q (⟨ds, op, tp, ps, af, none⟩ :: rest) N w0 M F K := h
theorem gq_anyG {op : Op} {gg : Nat × Bool} (h : GQ P l Q (⟨ds, op, tp, ps, af, some gg⟩ :: rest) N w0 M F K) : GQ P l Q (⟨ds, op, tp, ps, af, some gg⟩ :: rest) N w0 M F K := h
theorem gl_gate (h : GL P l Q rest N w0 M F K) : GL P l Q rest N w0 M F K := h
theorem gq_gate (h : GQ P l Q rest N w0 M F K) : GQ P l Q rest N w0 M F K := h
theorem gc_gate (h : GC P code Q N w0 M F K) : GC P code Q N w0 M F K := h
theorem ge_gate (h : GE Q e N w0 M F K) : GE Q e N w0 M F K := h
end
end Go.Proofs.Ytkgjfcjciigcgaa.Sl
