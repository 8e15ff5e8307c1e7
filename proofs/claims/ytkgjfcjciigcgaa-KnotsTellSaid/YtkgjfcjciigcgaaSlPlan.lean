/-
  Operations that turn the world, as one step each; and a region that draws its order and holds such: what only reads is taken first, what turns the world when it alone may come up. No program in sight.
-/
import Derived.Test.YtkgjfcjciigcgaaSlWalk
import Derived.Test.YtkgjfcjciigcgaaWLast
namespace Go.Proofs.Ytkgjfcjciigcgaa.Sl
open Go.RowKit Go.Proofs.YtkgjfcjciigcgaaW.PrintLast
set_option linter.unusedVariables false
attribute [local semireducible] GC GE GL GQ

section
variable {P : Program} {T : Tab} {N : Nat} {F : Fl} {a : Act} {l : List Oper} {o : Oper} {q : Bool} {Q : Exit → Act → World → Prop} {w0 : World} {M : List Nat} {K : Kl} {rest : List Oper} {d : Nat}

/-- An operation (unguarded) that ends in v and the blocks K', R v K' for each such. -/
def Ev (P : Program) (o : Oper) (N : Nat) (w0 : World) (M : List Nat) (F : Fl) (K : Kl) (R : Value → Kl → Prop) : Prop :=
  o.guard = none ∧ ∀ a W, Fr N F a → St w0 M K W → ∀ (next : Act → World → Prop) (Qx : Exit → Act → World → Prop), (∀ v K' W', R v K' → St w0 M K' W' → next (a.put o.dst v) W') → o.wp P a W next Qx

theorem gl_ev (he : Ev P o N w0 M F K fun v K' => GL P l Q rest N w0 M ((d, true, v) :: F) K') (hd : o.dst = some d) (hN : Nat.ble (d + 1) N = true) : GL P l Q (o :: rest) N w0 M F K := fun a W hF hW =>
  wpList_plain he.1 fun KK hK => he.2 a W hF hW KK Q fun v K' W' hR hW' => by
    rw [hd]
    exact hK _ _ (hR _ _ (hF.put hN true v v (fun _ => rfl) (by simp)) hW')
theorem gl_ev0 (he : Ev P o N w0 M F K fun _ K' => GL P l Q rest N w0 M F K') (hd : o.dst = none) : GL P l Q (o :: rest) N w0 M F K := fun a W hF hW =>
  wpList_plain he.1 fun KK hK => he.2 a W hF hW KK Q fun v K' W' hR hW' => by
    rw [hd]
    exact hK _ _ (hR _ _ hF hW')

theorem ev_run {R : Value → Kl → Prop} (hg : o.guard = none) (h : ∀ a W, Fr N F a → St w0 M K W → ∃ W' v K', (execOp a.eval o).run P W = .ok (.value v) W' ∧ St w0 M K' W' ∧ R v K') : Ev P o N w0 M F K R :=
  ⟨hg, fun a W hF hW next Qx hn => by
    obtain ⟨W', v, K', h1, h2, h3⟩ := h a W hF hW
    unfold Oper.wp
    rw [h1, Oper.upon_value]
    exact hn v K' W' h3 h2⟩
theorem ev_skip {R : Value → Kl → Prop} (hg : o.guard = none) (h : ∀ a W, Fr N F a → St w0 M K W → ∃ W' K', (execOp a.eval o).run P W = .ok .skip W' ∧ St w0 M K' W' ∧ R undef K') : Ev P o N w0 M F K R :=
  ⟨hg, fun a W hF hW next Qx hn => by
    obtain ⟨W', K', h1, h2, h3⟩ := h a W hF hW
    unfold Oper.wp
    rw [h1, Oper.upon_skip]
    exact hn undef K' W' h3 h2⟩

/-! ### the operations -/
theorem ev_new {R : Value → Kl → Prop} (hg : o.guard = none) (ob : Obj) (mk : Nat → Value) (h : ∀ a W, Fr N F a → St w0 M K W → (execOp a.eval o).run P W = .ok (.value (mk W.heap.size)) (W.alloc ob))
    (hR : ∀ g, w0.heap.size ≤ g → R (mk g) ((g, true, ob) :: K)) : Ev P o N w0 M F K R :=
  ev_run hg fun a W hF hW => ⟨_, _, _, h a W hF hW, hW.alloc ob, hR _ hW.size⟩

theorem fillSlice_run (hT : TabOk P T) {t e : TypeId} {s bs : Nat} {z : List Value} {de : TyD} {n : Nat} {parts : Array (Nat × Value)} {cs : Array Value} (ht : ty T t = some ⟨.slice e, s, bs, z⟩) (he : ty T e = some de) (hsz : n * de.size ≤ 16777216) (hsp : 0 < n * de.size)
    (hf : Instr.fill (fun i => some (i * de.size, de.size)) ((Array.range (n * de.size)).map (de.zero.toArray[· % de.zero.toArray.size]!)) parts.toList = some cs) (W : World) :
    (Instr.buildSlice t n parts).run P W = .ok (.slice (some ⟨W.heap.size, 0, none⟩) n n) (W.alloc (.cells cs e (0, 0))) := by
  obtain ⟨zv, hz, hzc⟩ := (hT e _ he).zeroValue W (P := P)
  have h1 : ¬ n * de.size > 2 ^ 24 := by omega
  have h2 : ¬ n * de.size = 0 := by omega
  unfold Instr.buildSlice
  simp only [Sem.run_bind, run_underlying (hT t _ ht).kind, Result.andThen_ok, (hT e _ he).sizeOf, h1, if_false, h2]
  simp only [Sem.run_bind, hz, Result.andThen_ok, Sem.run_pure, hzc, hf]
  rfl

def repZ : Nat → List Value → List Value
  | 0, _ => []
  | n + 1, z => z ++ repZ n z
theorem repZ_length (z : List Value) : ∀ n, (repZ n z).length = n * z.length
  | 0 => by simp [repZ]
  | n + 1 => by simp [repZ, repZ_length z n, Nat.succ_mul]; omega
theorem repZ_get (z : List Value) (hz : 0 < z.length) : ∀ n j, j < n * z.length → (repZ n z)[j]? = z[j % z.length]?
  | 0, j, h => by simp at h
  | n + 1, j, h => by
    rw [Nat.succ_mul] at h
    unfold repZ
    by_cases hj : j < z.length
    · rw [List.getElem?_append_left hj, Nat.mod_eq_of_lt hj]
    · rw [List.getElem?_append_right (by omega), repZ_get z hz n _ (by omega)]
      congr 1
      exact (Nat.mod_eq_sub_mod (a := j) (b := z.length) (by omega)).symm

/-- The cells of '[]T{..}'. -/
def fillS (F : Fl) (sz : Nat) : List Value → List (Nat × Operand) → Option (List Value)
  | cells, [] => some cells
  | cells, (i, x) :: r => match vl F x with
    | some v => match Nat.beq v.cells.toList.length sz, putL (i * sz) v.cells.toList cells with
      | true, some cells' => fillS F sz cells' r
      | _, _ => none
    | none => none

theorem fillS_ok (hF : Fr N F a) (sz : Nat) : ∀ {parts : List (Nat × Operand)} {cells cs : List Value} {ps : List Bool}, cdl F (parts.map (·.2)) = some ps → allT ps → fillS F sz cells parts = some cs →
    Instr.fill (fun i => some (i * sz, sz)) cells.toArray (parts.map fun x => (x.1, a.eval x.2)) = some cs.toArray
  | [], cells, cs, _, _, _, h => by simp [fillS] at h; subst h; simp [Instr.fill]
  | (i, x) :: r, cells, cs, ps, hc, hp, h => by
    unfold fillS at h
    split at h
    · rename_i v h2
      split at h
      · rename_i cells' h3 h4
        have e1 := hF.evals hc hp (x := x) (by simp) h2
        obtain ⟨l1, l2⟩ := putL_spec _ _ _ _ h4
        have h3' : v.cells.size = sz := by simpa using Nat.eq_of_beq_eq_true h3
        simp only [List.map_cons, Instr.fill, e1]
        have l1' : i * sz + v.cells.size ≤ cells.length := by simpa using l1
        rw [if_neg (by simp [h3']; omega)]
        have e2 := putFold h4
        rw [show (v.cells.zipIdx.foldl (fun (cs : Array Value) (x : Value × Nat) => cs.setIfInBounds (i * sz + x.2) x.1) cells.toArray) = cells'.toArray from by
          rw [← e2, ← Array.foldl_toList, Array.toList_zipIdx]]
        obtain ⟨p, u, ps', g1, g2, rfl⟩ := cdl_cons (x := x) (r := r.map (·.2)) hc
        exact fillS_ok hF sz g2 (fun q hq => hp q (by simp [hq])) h
      · cases h
    · cases h

theorem ev_buildSlice (hT : TabOk P T) {R : Value → Kl → Prop} {t e : TypeId} {s bs : Nat} {z : List Value} {de : TyD} {n : Nat} {parts : Array (Nat × Operand)} {cs : List Value} {ps : List Bool} (hg : o.guard = none) (ho : o.op = .buildSlice t n parts)
    (ht : ty T t = some ⟨.slice e, s, bs, z⟩) (he : ty T e = some de) (hz : de.zero.length = de.size) (hsz : Nat.ble (n * de.size) 16777216 = true) (hsp : Nat.ble 1 (n * de.size) = true) (hc : cdl F (parts.toList.map (·.2)) = some ps) (hp : ps.all id = true)
    (hf : fillS F de.size (repZ n de.zero) parts.toList = some cs) (hR : ∀ g, w0.heap.size ≤ g → R (.slice (some ⟨g, 0, none⟩) n n) ((g, true, .cells cs.toArray e (0, 0)) :: K)) : Ev P o N w0 M F K R :=
  ev_new hg (.cells cs.toArray e (0, 0)) (fun g => .slice (some ⟨g, 0, none⟩) n n) (fun a W hF hW => by
    have hsz' := Nat.le_of_ble_eq_true hsz
    have hsp' := Nat.le_of_ble_eq_true hsp
    have hz0 : 0 < de.zero.length := by
      rw [hz]
      rcases Nat.eq_zero_or_pos de.size with h0 | h0
      · rw [h0] at hsp'; simp at hsp'
      · exact h0
    have h1 := fillS_ok hF de.size hc (allT_of hp) hf
    have h2 : (Array.range (n * de.size)).map (de.zero.toArray[· % de.zero.toArray.size]!) = (repZ n de.zero).toArray := by
      apply Array.ext_getElem?
      intro j
      have hl := repZ_length de.zero n
      rw [hz] at hl
      by_cases hj : j < n * de.size
      · have := repZ_get de.zero hz0 n j (by rw [hz]; exact hj)
        have hm : j % de.zero.length < de.zero.length := Nat.mod_lt _ hz0
        simp [hj, this, hm]
      · simp [hj]
        omega
    have h3 := fillSlice_run hT (P := P) (n := n) (parts := parts.map fun x => (x.1, a.eval x.2)) (cs := cs.toArray) ht he hsz' (by omega) (by rw [h2]; simpa using h1) W
    obtain ⟨dst, op, tp, pos, after, guard⟩ := o
    subst ho
    simp only [execOp, Sem.run_bind]
    rw [show (parts.map fun (x : Nat × Operand) => (x.1, a.eval x.2)) = parts.map (fun (i, x) => (i, a.eval x)) from rfl] at h3
    rw [h3]
    rfl) hR

/-- A call: its contract says what it hands back, and what has become of the blocks. -/
theorem ev_call {R : Value → Kl → Prop} {f : FuncId} {args : Array Operand} {ts : Array TypeId} {vs : List Value} {ps : List Bool} (hg : o.guard = none) (ho : o.op = .call ⟨.value (.func f), args, ts⟩) (hf : Ent P f) (hv : vals F args.toList = some vs) (hc : cdl F args.toList = some ps) (hp : ps.all id = true)
    (h : ∀ W, St w0 M K W → Calls P f vs.toArray W fun e W' => ∃ v K', e = .returned v ∧ St w0 M K' W' ∧ R v K') : Ev P o N w0 M F K R :=
  ⟨hg, fun a W hF hW next Qx hn => by
    have e0 := vals_ok hF hc (allT_of hp) hv
    obtain ⟨dst, op, tp, pos, after, guard⟩ := o
    subst ho
    have e1 : args.map a.eval = vs.toArray := by apply Array.ext'; simpa using e0
    have hrun : (execOp a.eval ⟨dst, .call ⟨.value (.func f), args, ts⟩, tp, pos, after, guard⟩).run P W = .ok (.enter f vs.toArray) W := by
      have hf' := hf vs.toArray W
      simp [execOp, resolve, Act.eval, Deferred.ofValue, invoke, e1, hf']
    unfold Oper.wp
    rw [hrun, Oper.upon_enter]
    exact (h W hW).mono fun e W' ⟨v, K', h1, h2, h3⟩ => by subst h1; exact hn v K' W' h3 h2⟩

/-- A call that turns nothing that was there, and whose answer is known. -/
theorem ev_callq {R : Value → Kl → Prop} {f : FuncId} {args : Array Operand} {ts : Array TypeId} {vs : List Value} {ps : List Bool} {v : Value} (hg : o.guard = none) (ho : o.op = .call ⟨.value (.func f), args, ts⟩) (hf : Ent P f) (hv : vals F args.toList = some vs) (hc : cdl F args.toList = some ps) (hp : ps.all id = true)
    (h : ∀ W, St w0 M K W → Calls P f vs.toArray W fun e W' => e = .returned v ∧ Bl W W') (hR : R v K) : Ev P o N w0 M F K R :=
  ev_call hg ho hf hv hc hp fun W hW => (h W hW).mono fun _ _ ⟨h1, h2⟩ => ⟨v, K, h1, hW.grow0 h2, hR⟩

theorem _root_.Go.Proofs.Ytkgjfcjciigcgaa.Sl.St.kn {W : World} {g : Nat} {wr : Bool} {ob : Obj} (h : St w0 M K W) (hm : (g, wr, ob) ∈ K) : W.heap[g]? = some ob := h.known _ hm

/-! ### A loop of a known number of rounds -/
theorem gc_rounds (n : Nat) {c : Code} (h : GC P c (Exit.then (Code.rounds P c Q n) Q) N w0 M F K) : GC P (.loop c) Q N w0 M F K := fun a W hF hW =>
  wp_loop_rounds (n + 1) (h a W hF hW)
theorem ge_rounds {n : Nat} {c : Code} (h : GC P c (Exit.then (Code.rounds P c Q n) Q) N w0 M F K) : GE (Exit.then (Code.rounds P c Q (n + 1)) Q) .normal N w0 M F K := fun a W hF hW => h a W hF hW

/-! ### A region that draws its order -/
/-- The region's state: 'lt': what has come up; what has only been taken first included. -/
def GP (P : Program) (l : List Oper) (Q : Exit → Act → World → Prop) (C : World → Prop) (ds : List Nat) (n : Nat) (lt : Array Bool) (N : Nat) (w0 : World) (M : List Nat) (F : Fl) (K : Kl) : Prop :=
  ∀ a W, Fr N F a → St w0 M K W → wpAnyLast P .any l.toArray Q C ds n lt a W

theorem gp_start_ {id n : Nat} (ds : List Nat) (lt : Array Bool) (hm : P.follows .mixedOrders = true) (hn : l.length = n) (hl : Array.replicate n false = lt) (h : GP P l Q (St w0 M K) ds n lt N w0 M F K) : GC P (.region id l.toArray true) Q N w0 M F K := fun a W hF hW =>
  start_ (n := n) lt hm (by simpa using hn) hl (hW.drawn _) fun _ => h a _ hF (hW.drawn _)

/-- A panic's post does not look at the slots. -/
def QP (Q : Exit → Act → World → Prop) : Prop := ∀ c a w d u, Q (.panic c) (Act.put a d u) w → Q (.panic c) a w
theorem qp_then {X : Act → World → Prop} (h : QP Q) : QP (Exit.then X Q) := fun c a w d u hh => h c a w d u hh
theorem qp_block {id : Nat} (h : QP Q) : QP (Exit.inBlock id Q) := fun c a w d u hh => h c a w d u hh
theorem qp_body {fn : Func} {R : Ending → World → Prop} : QP (bodyPost P fn R) := fun c a w d u hh => by
  cases d <;> exact hh

theorem gp_start {id n : Nat} (ds : List Nat) (lt : Array Bool) (hm : P.follows .mixedOrders = true) (hn : l.length = n) (hl : Array.replicate n false = lt) (hq : QP Q) (h : QP Q → GP P l Q (St w0 M K) ds n lt N w0 M F K) : GC P (.region id l.toArray true) Q N w0 M F K := gp_start_ ds lt hm hn hl (h hq)
variable {C : World → Prop} {ds : List Nat} {n : Nat} {lt : Array Bool} {v : Value}
theorem gp_take (i : Nat) (lt' : Array Bool) (hQ : QP Q) (hi : nth l i = some o) (hc : takeB .any l.toArray ds lt lt' i = true) (hy : Yv P C l N F o q v) (hs : ∀ W, St w0 M K W → C W) (hd : o.dst = some d) (hN : Nat.ble (d + 1) N = true)
    (h : GP P l Q C ds n lt' N w0 M ((d, q, v) :: F) K) : GP P l Q C ds (n + 1) lt N w0 M F K := fun a W hF hW => by
  rw [nth_eq] at hi
  have hS := hs W hW
  cases hq : q with
  | true =>
    refine take_ lt' (oi := o) (v := v) (by simpa using hi) hd hc (fun c a w => hQ c a w _ v) (.inl ⟨by rw [hy.1.wanted hF, hq], fun w hw => hy.2 a hF hq w hw⟩) hS rfl (h _ _ (hF.put hN q v v (fun _ => rfl) (by rw [hq]; simp)) hW)
  | false =>
    refine take_ lt' (oi := o) (v := undef) (by simpa using hi) hd hc (fun c a w => hQ c a w _ undef) (.inr ⟨by rw [hy.1.wanted hF, hq], rfl⟩) hS rfl (h _ _ (hF.put hN q v undef (by rw [hq]; simp) (fun _ => rfl)) hW)

theorem gp_ev (i : Nat) (lt' : Array Bool) (hi : nth l i = some o) (hc : readyB .any l.toArray lt lt' i = true) (hds : ds.all (fun j => !Nat.beq j i) = true) (hd : o.dst = some d) (hN : Nat.ble (d + 1) N = true)
    (he : Ev P o N w0 M F K fun v K' => (∀ W, St w0 M K' W → C W) ∧ GP P l Q C ds n lt' N w0 M ((d, true, v) :: F) K') : GP P l Q C ds (n + 1) lt N w0 M F K := fun a W hF hW => by
  rw [nth_eq] at hi
  have hni : i ∉ ds := fun hm => by have := List.all_eq_true.1 hds i hm; simp at this
  refine one_ lt' (oi := o) (by simpa using hi) hd hc hni fun KK hK => ?_
  rw [if_pos (by simp [Region.wanted, he.1])]
  refine he.2 a W hF hW KK Q fun v K' W' ⟨h1, h2⟩ hW' => ?_
  rw [hd]
  exact hK _ _ (h1 _ hW') fun _ => h2 _ _ (hF.put hN true v v (fun _ => rfl) (by simp)) hW'

theorem gp_last (i : Nat) (lt' : Array Bool) (hi : nth l i = some o) (hc : readyB .any l.toArray lt lt' i = true) (hds : i ∈ ds) (hd : o.dst = some d) (hN : Nat.ble (d + 1) N = true)
    (he : Ev P o N w0 M F K fun v K' => GP P l Q C ds n lt' N w0 M ((d, true, v) :: F) K') : GP P l Q C ds (n + 1) lt N w0 M F K := fun a W hF hW => by
  rw [nth_eq] at hi
  refine last_ lt' (oi := o) (by simpa using hi) hd hc hds fun KK hK => ?_
  rw [if_pos (by simp [Region.wanted, he.1])]
  refine he.2 a W hF hW KK Q fun v K' W' h2 hW' => ?_
  rw [hd]
  exact hK _ _ (h2 _ _ (hF.put hN true v v (fun _ => rfl) (by simp)) hW')
theorem gp_last0 (i : Nat) (lt' : Array Bool) (hi : nth l i = some o) (hc : readyB .any l.toArray lt lt' i = true) (hds : i ∈ ds) (hd : o.dst = none)
    (he : Ev P o N w0 M F K fun _ K' => GP P l Q C ds n lt' N w0 M F K') : GP P l Q C ds (n + 1) lt N w0 M F K := fun a W hF hW => by
  rw [nth_eq] at hi
  refine last_ lt' (oi := o) (by simpa using hi) hd hc hds fun KK hK => ?_
  rw [if_pos (by simp [Region.wanted, he.1])]
  refine he.2 a W hF hW KK Q fun v K' W' h2 hW' => ?_
  rw [hd]
  exact hK _ _ (h2 _ _ hF hW')
theorem gp_done (hr : Region.ready .any l.toArray lt = []) (h : GE Q .normal N w0 M F K) : GP P l Q C ds n lt N w0 M F K := fun a W hF hW => wpAnyLast_done hr (h a W hF hW) n
end
end Go.Proofs.Ytkgjfcjciigcgaa.Sl
