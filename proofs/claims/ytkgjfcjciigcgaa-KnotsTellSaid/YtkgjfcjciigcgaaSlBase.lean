/-
  A new base: what lies in the memory of a world that has come up is old memory from there on; loops whose rounds begin with such a base. No program in sight.
-/
import Derived.Test.YtkgjfcjciigcgaaSlOwn
namespace Go.Proofs.Ytkgjfcjciigcgaa.Sl
open Go.RowKit Go.Proofs.YtkgjfcjciigcgaaW.PrintLast
set_option linter.unusedVariables false
attribute [local semireducible] GC GE GL GQ

/-- The blocks of K that may be written. -/
def wrs : Kl → List Nat
  | [] => []
  | (g, b, _) :: r => bif b then g :: wrs r else wrs r
theorem wrs_mem {K : Kl} {g : Nat} (h : g ∈ wrs K) : ∃ o, (g, true, o) ∈ K := by
  induction K with
  | nil => cases h
  | cons e r ih =>
    obtain ⟨g', b, o⟩ := e
    unfold wrs at h
    cases b with
    | true =>
      rcases List.mem_cons.1 h with rfl | h
      · exact ⟨o, by simp⟩
      · obtain ⟨o', ho⟩ := ih h; exact ⟨o', by simp [ho]⟩
    | false => obtain ⟨o', ho⟩ := ih h; exact ⟨o', by simp [ho]⟩
theorem mem_wrs {K : Kl} {g : Nat} {o : Obj} (h : (g, true, o) ∈ K) : g ∈ wrs K := by
  induction K with
  | nil => cases h
  | cons e r ih =>
    obtain ⟨g', b, o'⟩ := e
    unfold wrs
    rcases List.mem_cons.1 h with h1 | h1
    · cases h1; simp
    · have := ih h1
      cases b <;> simp [this]

section
variable {P : Program} {T : Tab} {N : Nat} {F : Fl} {a : Act} {l : List Oper} {o : Oper} {q : Bool} {Q : Exit → Act → World → Prop} {w0 W W1 W2 : World} {M M1 : List Nat} {K K' K1 : Kl} {rest : List Oper} {d : Nat} {v : Value}

theorem St.base (h : St w0 M K W) : St W (wrs K) K W :=
  ⟨rfl, rfl, rfl, Nat.le_refl _, fun _ _ _ => rfl, h.known, fun e he hb => .inr (by obtain ⟨g, b, o⟩ := e; simp only at hb; subst hb; exact mem_wrs he), h.apart, Nat.le_refl _⟩
/-- .. and back. -/
theorem St.trans (h1 : St w0 M K W1) (h2 : St W1 (wrs K) K' W2) : St w0 M K' W2 := by
  have hM : ∀ b ∈ wrs K, w0.heap.size ≤ b ∨ b ∈ M := fun b hb => by
    obtain ⟨o, ho⟩ := wrs_mem hb
    exact h1.wr _ ho rfl
  refine ⟨h2.os.trans h1.os, h2.tape.trans h1.tape, h2.output.trans h1.output, Nat.le_trans h1.size h2.size, fun b hb hm => ?_, h2.known, fun e he hb => ?_, h2.apart, Nat.le_trans h1.dr h2.dr⟩
  · rw [h2.frame b (Nat.lt_of_lt_of_le hb h1.size) (fun hw => ?_)]
    · exact h1.frame b hb hm
    · rcases hM b hw with h | h
      · omega
      · exact hm h
  · rcases h2.wr e he hb with h | h
    · exact .inl (Nat.le_trans h1.size h)
    · exact hM _ h
theorem St.trans0 (h1 : St w0 M K W1) (h2 : St W1 [] K' W2) : St w0 M K' W2 := by
  refine ⟨h2.os.trans h1.os, h2.tape.trans h1.tape, h2.output.trans h1.output, Nat.le_trans h1.size h2.size, fun b hb hm => ?_, h2.known, fun e he hb => ?_, h2.apart, Nat.le_trans h1.dr h2.dr⟩
  · rw [h2.frame b (Nat.lt_of_lt_of_le hb h1.size) (by simp)]
    exact h1.frame b hb hm
  · rcases h2.wr e he hb with h | h
    · exact .inl (Nat.le_trans h1.size h)
    · cases h
theorem St.below0 (h : St w0 [] K W) : Bl w0 W := (h.drop (List.nil_sublist _)).below

theorem St.fresh (h : St w0 M K W) {b : Nat} (hb : W.heap.size ≤ b) : b ∉ wrs K := fun hm => by
  obtain ⟨o, ho⟩ := wrs_mem hm
  have := h.lt ho
  simp only at this
  omega
theorem St.old_nm (h : St w0 [] K W) {b : Nat} (hb : b < w0.heap.size) : b ∉ wrs K := fun hm => by
  obtain ⟨o, ho⟩ := wrs_mem hm
  rcases h.wr _ ho rfl with h | h
  · simp only at h; omega
  · cases h
/-- From here on all that has been is old. -/
theorem gc_base {c : Code} (h : ∀ W, St w0 M K W → GC P c Q N W (wrs K) F K) : GC P c Q N w0 M F K := fun a W hF hW => h W hW a W hF hW.base
theorem ge_base {e : Exit} (h : ∀ W, St w0 M K W → GE Q e N W (wrs K) F K) : GE Q e N w0 M F K := fun a W hF hW => h W hW a W hF hW.base
theorem gl_base (h : ∀ W, St w0 M K W → GL P l Q rest N W (wrs K) F K) : GL P l Q rest N w0 M F K := fun a W hF hW => h W hW a W hF hW.base

/-! ### a loop: each round has a base of its own -/
def RndW {α : Type} (N : Nat) (w0 : World) (M : List Nat) (FI : α → Fl) (KI : α → Kl) (inv : α → World → Prop) (μ : α → Nat) (m : Nat) (a : Act) (w : World) : Prop := ∃ y, inv y w ∧ μ y < m ∧ Fr N (FI y) a ∧ St w0 M (KI y) w
theorem gc_loopW {α : Type} (FI : α → Fl) (KI : α → Kl) (inv : α → World → Prop) (μ : α → Nat) (x : α) {c : Code} (hF' : FrSub (FI x) F) (hK' : (KI x).Sublist K) (hx : ∀ W, St w0 M K W → inv x W)
    (round : ∀ x W, St w0 M (KI x) W → inv x W → GC P c (Exit.then (RndW N w0 M FI KI inv μ (μ x)) Q) N W (wrs (KI x)) (FI x) (KI x)) : GC P (.loop c) Q N w0 M F K := fun a W hF hW => by
  have key : ∀ n x a W, μ x < n → inv x W → Fr N (FI x) a → St w0 M (KI x) W → Code.rounds P c Q n a W := by
    intro n
    induction n with
    | zero => intro x a W hn; omega
    | succ n ih =>
      intro x a W hn hx hF hW
      rw [rounds_succ]
      refine Code.wp_mono (fun e a' w' h => ?_) (round x W hW hx a W hF hW.base)
      cases e with
      | normal =>
        obtain ⟨y, hy, hlt, hF', hW'⟩ := h
        exact ih y a' w' (by omega) hy hF' hW'
      | _ => exact h
  exact wp_loop_rounds _ (key (μ x + 1) x a W (by omega) (hx W hW) (hF.sub hF') (hW.drop hK'))
theorem ge_roundW {α : Type} {FI : α → Fl} {KI : α → Kl} {inv : α → World → Prop} {μ : α → Nat} {m : Nat} (y : α) (h1 : St w0 M K1 W1) (hm : μ y < m) (hF' : FrSub (FI y) F) (hK' : (KI y).Sublist K) (hy : ∀ W, St W1 (wrs K1) K W → inv y W) : GE (Exit.then (RndW N w0 M FI KI inv μ m) Q) .normal N W1 (wrs K1) F K := fun a W hF hW =>
  ⟨y, hy W hW, hm, hF.sub hF', h1.trans (hW.drop hK')⟩

/-! ### calls that answer something in the memory of the world behind them -/
/-- A call; behind it, a new base. -/
theorem gl_callW {σ : Type} {f : FuncId} {args : Array Operand} {ts : Array TypeId} {vs : List Value} {ps : List Bool} {val : σ → Value} {φ : World → World → σ → Prop} (hg : o.guard = none) (ho : o.op = .call ⟨.value (.func f), args, ts⟩) (hf : Ent P f) (hv : vals F args.toList = some vs) (hc : cdl F args.toList = some ps) (hp : ps.all id = true) (hd : o.dst = some d) (hN : Nat.ble (d + 1) N = true)
    (h : ∀ W, St w0 M K W → Calls P f vs.toArray W fun e W' => ∃ x, e = .returned (val x) ∧ φ W W' x ∧ Bl W W')
    (hk : ∀ W W' x, St w0 M K W → St w0 M K W' → Bl W W' → φ W W' x → GL P l Q rest N W' (wrs K) ((d, true, val x) :: F) K) : GL P l Q (o :: rest) N w0 M F K := fun a W hF hW => by
  have e0 := vals_ok hF hc (allT_of hp) hv
  have h' := h W hW
  refine wpList_plain hg fun KK hK => ?_
  obtain ⟨dst, op, tp, pos, after, guard⟩ := o
  simp only at ho hg hd
  subst ho hg hd
  have e1 : args.map a.eval = vs.toArray := by apply Array.ext'; simpa using e0
  have hf' := hf vs.toArray W
  have hrun : (execOp a.eval ⟨some d, .call ⟨.value (.func f), args, ts⟩, tp, pos, after, none⟩).run P W = .ok (.enter f vs.toArray) W := by
    simp [execOp, resolve, Act.eval, Deferred.ofValue, invoke, e1, hf']
  unfold Oper.wp
  rw [hrun]
  refine h'.mono fun e W' ⟨x, he, hφ, hb⟩ => ?_
  subst he
  have hW' := hW.grow0 hb
  exact hK _ _ (hk W W' x hW hW' hb hφ _ _ (hF.put hN true (val x) (val x) (fun _ => rfl) (by simp)) hW'.base)
/-! ### .. in regions that draw their order -/
/-- An operation (unguarded) that ends in v, over a base w1 of its own. -/
def EvB (P : Program) (o : Oper) (N : Nat) (w0 : World) (M : List Nat) (F : Fl) (K : Kl) (R : Value → World → List Nat → Kl → Prop) : Prop :=
  o.guard = none ∧ ∀ a W, Fr N F a → St w0 M K W → ∀ (next : Act → World → Prop) (Qx : Exit → Act → World → Prop), (∀ v w1 M1 K1 W', R v w1 M1 K1 → St w1 M1 K1 W' → next (a.put o.dst v) W') → o.wp P a W next Qx
theorem evb_callV {σ : Type} {R : Value → World → List Nat → Kl → Prop} {x : Operand} {f : FuncId} {first cap : Array Value} {args : Array Operand} {ts : Array TypeId} {vs av : List Value} {ps : List Bool} {val : σ → Value} {φ : World → World → σ → Prop} (hg : o.guard = none) (ho : o.op = .call ⟨.value x, args, ts⟩) (hx : Fo F x = some (true, .func (.func f) first cap)) (hf : Ent P f) (hv : vals F args.toList = some vs) (hc : cdl F args.toList = some ps) (hp : ps.all id = true) (has : first.toList ++ vs ++ cap.toList = av)
    (h : ∀ W, St w0 M K W → Calls P f av.toArray W fun e W' => ∃ x, e = .returned (val x) ∧ φ W W' x ∧ Bl W W')
    (hR : ∀ W W' x, St w0 M K W → St w0 M K W' → Bl W W' → φ W W' x → R (val x) W' (wrs K) K) : EvB P o N w0 M F K R :=
  ⟨hg, fun a W hF hW next Qx hn => by
    have e0 := vals_ok hF hc (allT_of hp) hv
    have e2 := hF.eval hx rfl
    obtain ⟨dst, op, tp, pos, after, guard⟩ := o
    subst ho
    have e1 : args.map a.eval = vs.toArray := by apply Array.ext'; simpa using e0
    have e3 : first ++ vs.toArray ++ cap = av.toArray := by rw [← has]; apply Array.ext'; simp
    have hrun : (execOp a.eval ⟨dst, .call ⟨.value x, args, ts⟩, tp, pos, after, guard⟩).run P W = .ok (.enter f av.toArray) W := by
      have hf' := hf av.toArray W
      simp [execOp, resolve, e2, Deferred.ofValue, invoke, e1, e3, hf']
    unfold Oper.wp
    rw [hrun, Oper.upon_enter]
    exact (h W hW).mono fun e W' ⟨y, he, hφ, hb⟩ => by
      subst he
      have hW' := hW.grow0 hb
      exact hn _ _ _ _ _ (hR W W' y hW hW' hb hφ) hW'.base⟩
theorem evb_call {σ : Type} {R : Value → World → List Nat → Kl → Prop} {f : FuncId} {args : Array Operand} {ts : Array TypeId} {vs : List Value} {ps : List Bool} {val : σ → Value} {φ : World → World → σ → Prop} (hg : o.guard = none) (ho : o.op = .call ⟨.value (.func f), args, ts⟩) (hf : Ent P f) (hv : vals F args.toList = some vs) (hc : cdl F args.toList = some ps) (hp : ps.all id = true)
    (h : ∀ W, St w0 M K W → Calls P f vs.toArray W fun e W' => ∃ x, e = .returned (val x) ∧ φ W W' x ∧ Bl W W')
    (hR : ∀ W W' x, St w0 M K W → St w0 M K W' → Bl W W' → φ W W' x → R (val x) W' (wrs K) K) : EvB P o N w0 M F K R :=
  evb_callV hg ho (x := .func f) (first := #[]) (cap := #[]) rfl hf hv hc hp (by simp) h hR
theorem gl_evB (he : EvB P o N w0 M F K fun v w1 M1 K1 => GL P l Q rest N w1 M1 ((d, true, v) :: F) K1) (hd : o.dst = some d) (hN : Nat.ble (d + 1) N = true) : GL P l Q (o :: rest) N w0 M F K := fun a W hF hW =>
  wpList_plain he.1 fun KK hK => he.2 a W hF hW KK Q fun v w1 M1 K1 W' hR hW' => by
    rw [hd]
    exact hK _ _ (hR _ _ (hF.put hN true v v (fun _ => rfl) (by simp)) hW')
theorem gl_evB0 (he : EvB P o N w0 M F K fun _ w1 M1 K1 => GL P l Q rest N w1 M1 F K1) (hd : o.dst = none) : GL P l Q (o :: rest) N w0 M F K := fun a W hF hW =>
  wpList_plain he.1 fun KK hK => he.2 a W hF hW KK Q fun v w1 M1 K1 W' hR hW' => by
    rw [hd]
    exact hK _ _ (hR _ _ hF hW')

variable {C : World → Prop} {ds : List Nat} {n : Nat} {lt : Array Bool} {rs : List Nat}
theorem gp_evB (i : Nat) (lt' : Array Bool) (hi : nth l i = some o) (hc : readyB .any l.toArray lt lt' i = true) (hds : ds.all (fun j => !Nat.beq j i) = true) (hd : o.dst = some d) (hN : Nat.ble (d + 1) N = true)
    (he : EvB P o N w0 M F K fun v w1 M1 K1 => (∀ W, St w1 M1 K1 W → C W) ∧ GP P l Q C ds n lt' N w1 M1 ((d, true, v) :: F) K1) : GP P l Q C ds (n + 1) lt N w0 M F K := fun a W hF hW => by
  rw [nth_eq] at hi
  have hni : i ∉ ds := fun hm => by have := List.all_eq_true.1 hds i hm; simp at this
  refine one_ lt' (oi := o) (by simpa using hi) hd hc hni fun KK hK => ?_
  rw [if_pos (by simp [Region.wanted, he.1])]
  refine he.2 a W hF hW KK Q fun v w1 M1 K1 W' ⟨h1, h2⟩ hW' => ?_
  rw [hd]
  exact hK _ _ (h1 _ hW') fun _ => h2 _ _ (hF.put hN true v v (fun _ => rfl) (by simp)) hW'
theorem gr_evB (i : Nat) (lt' : Array Bool) (hi : nth l i = some o) (hl : lt.setIfInBounds i true = lt') (hds : ds.all (fun j => !Nat.beq j i) = true) (hd : o.dst = some d) (hN : Nat.ble (d + 1) N = true)
    (he : EvB P o N w0 M F K fun v w1 M1 K1 => (∀ W, St w1 M1 K1 W → C W) ∧ GP P l Q C ds n lt' N w1 M1 ((d, true, v) :: F) K1) (hs : GR P l Q C ds n lt N w0 M F K rs) : GR P l Q C ds n lt N w0 M F K (i :: rs) := fun a W hF hW => by
  rw [nth_eq] at hi
  subst hl
  have hni : i ∉ ds := fun hm => by have := List.all_eq_true.1 hds i hm; simp at this
  refine AllReadyL.cons (by simpa using hi) hni (fun KK hK => ?_) (hs a W hF hW)
  rw [if_pos (by simp [Region.wanted, he.1])]
  refine he.2 a W hF hW KK Q fun v w1 M1 K1 W' ⟨h1, h2⟩ hW' => ?_
  rw [hd]
  exact hK _ _ (h1 _ hW') fun _ => h2 _ _ (hF.put hN true v v (fun _ => rfl) (by simp)) hW'

/-! ### calls of a function value -/
theorem yd_callV {x : Operand} {px : Bool} {f : FuncId} {first cap : Array Value} {args : Array Operand} {ts : Array TypeId} {vs av : List Value} {ps : List Bool} (hg : Gok l F o q) (ho : o.op = .call ⟨.value x, args, ts⟩) (hx : Fo F x = some (px, .func (.func f) first cap)) (hpx : q = true → px = true) (hf : Ent P f) (hv : vals F args.toList = some vs) (hc : cdl F args.toList = some ps) (hp : q = true → allT ps) (has : first.toList ++ vs ++ cap.toList = av)
    (h : q = true → ∀ W, St w0 M K W → Calls P f av.toArray W fun e W' => e = .returned v ∧ Bl W W') : Yd P (St w0 M K) l N F o q v :=
  ⟨hg, fun a hF hq w hw => by
    have e0 := vals_ok hF hc (hp hq) hv
    have e2 := hF.eval hx (hpx hq)
    obtain ⟨dst, op, tp, pos, after, guard⟩ := o
    subst ho
    have e1 : args.map a.eval = vs.toArray := by apply Array.ext'; simpa using e0
    have e3 : first ++ vs.toArray ++ cap = av.toArray := by rw [← has]; apply Array.ext'; simp
    unfold Oper.quietAt
    have hrun : (execOp a.eval ⟨dst, .call ⟨.value x, args, ts⟩, tp, pos, after, guard⟩).run P w = .ok (.enter f av.toArray) w := by
      have hf' := hf av.toArray w
      simp [execOp, resolve, e2, Deferred.ofValue, invoke, e1, e3, hf']
    rw [hrun]
    exact ⟨rfl, (h hq w hw).mono fun e W' ⟨h1, h2⟩ => ⟨h1, hw.grow0 h2⟩⟩⟩
end
theorem SlA.lt {W : World} {k : Nat} {p : Option Addr} {n : Nat} {e : Nat → List Value} (h : SlA W k p n e) (hn : 0 < n) : pb p < W.heap.size := by
  obtain ⟨l, t, fr, h1, _⟩ := h.mem hn
  rcases Nat.lt_or_ge (pb p) W.heap.size with h | h
  · exact h
  · rw [Array.getElem?_eq_none h] at h1; cases h1
theorem SlA.mono1 {W W' : World} {k : Nat} {p : Option Addr} {n : Nat} {e : Nat → List Value} (h : SlA W k p n e) (hb : 0 < n → W'.heap[pb p]? = W.heap[pb p]?) : SlA W' k p n e :=
  ⟨h.ptr, h.len, fun hn => by
    obtain ⟨l, t, fr, h1, h2⟩ := h.mem hn
    exact ⟨l, t, fr, by rw [hb hn]; exact h1, h2⟩⟩
theorem SlA.mono {W W' : World} {k : Nat} {p : Option Addr} {n : Nat} {e : Nat → List Value} (h : SlA W k p n e) (hb : ∀ b, b < W.heap.size → W'.heap[b]? = W.heap[b]?) : SlA W' k p n e := h.mono1 fun hn => hb _ (h.lt hn)
theorem SlA.blw {W W' : World} {k : Nat} {p : Option Addr} {n : Nat} {e : Nat → List Value} (h : SlA W k p n e) (hb : Bl W W') : SlA W' k p n e := h.mono fun b hb' => hb.block b hb'
theorem SlA.st {w0 W : World} {K : Kl} {k : Nat} {p : Option Addr} {n : Nat} {e : Nat → List Value} (h : SlA w0 k p n e) (hW : St w0 [] K W) : SlA W k p n e := h.mono fun b hb => hW.frame b hb (by simp)
/-- A guarded operation that is carried out. -/
def og (o : Oper) : Oper := { o with guard := none }
section
variable {P : Program} {N : Nat} {F : Fl} {l : List Oper} {o : Oper} {Q : Exit → Act → World → Prop} {w0 : World} {M : List Nat} {K : Kl} {rest : List Oper} {d : Nat}
theorem gl_evG (hg : Gok l F o true) (he : Ev P (og o) N w0 M F K fun v K' => GL P l Q rest N w0 M ((d, true, v) :: F) K') (hd : o.dst = some d) (hN : Nat.ble (d + 1) N = true) : GL P l Q (o :: rest) N w0 M F K := fun a W hF hW =>
  wpList_step fun KK hK => by
    rw [hg.wanted hF]
    exact he.2 a W hF hW KK Q fun v K' W' hR hW' => by
      show KK (a.put o.dst v) W'
      rw [hd]
      exact hK _ _ (hR _ _ (hF.put hN true v v (fun _ => rfl) (by simp)) hW')
theorem gl_evBG (hg : Gok l F o true) (he : EvB P (og o) N w0 M F K fun v w1 M1 K1 => GL P l Q rest N w1 M1 ((d, true, v) :: F) K1) (hd : o.dst = some d) (hN : Nat.ble (d + 1) N = true) : GL P l Q (o :: rest) N w0 M F K := fun a W hF hW =>
  wpList_step fun KK hK => by
    rw [hg.wanted hF]
    exact he.2 a W hF hW KK Q fun v w1 M1 K1 W' hR hW' => by
      show KK (a.put o.dst v) W'
      rw [hd]
      exact hK _ _ (hR _ _ (hF.put hN true v v (fun _ => rfl) (by simp)) hW')
theorem gl_skipG (hg : Gok l F o false) (v : Value) (hd : o.dst = some d) (hN : Nat.ble (d + 1) N = true) (h : GL P l Q rest N w0 M ((d, false, v) :: F) K) : GL P l Q (o :: rest) N w0 M F K := fun a W hF hW =>
  wpList_step fun KK hK => by
    rw [hg.wanted hF]
    refine hK _ _ ?_
    rw [hd]
    exact h _ _ (hF.put hN false v undef (by simp) (fun _ => rfl)) hW
end
section
variable {P : Program} {T : Tab} {N : Nat} {F : Fl} {a : Act} {l : List Oper} {o : Oper} {q : Bool} {C : World → Prop} {Q : Exit → Act → World → Prop} {w0 : World} {M : List Nat} {K : Kl} {d : Nat} {v v' : Value} {ds : List Nat} {n : Nat} {lt : Array Bool} {rs : List Nat}
theorem Yv.cast (h : Yv P C l N F o q v) (e : v = v') : Yv P C l N F o q v' := e ▸ h
theorem gp_evG (i : Nat) (lt' : Array Bool) (hi : nth l i = some o) (hc : readyB .any l.toArray lt lt' i = true) (hds : ds.all (fun j => !Nat.beq j i) = true) (hd : o.dst = some d) (hN : Nat.ble (d + 1) N = true) (hg : Gok l F o true)
    (he : Ev P (og o) N w0 M F K fun v K' => (∀ W, St w0 M K' W → C W) ∧ GP P l Q C ds n lt' N w0 M ((d, true, v) :: F) K') : GP P l Q C ds (n + 1) lt N w0 M F K := fun a W hF hW => by
  rw [nth_eq] at hi
  have hni : i ∉ ds := fun hm => by have := List.all_eq_true.1 hds i hm; simp at this
  refine one_ lt' (oi := o) (by simpa using hi) hd hc hni fun KK hK => ?_
  rw [if_pos (hg.wanted hF)]
  refine he.2 a W hF hW KK Q fun v K' W' ⟨h1, h2⟩ hW' => ?_
  show KK (a.put o.dst v) W'
  rw [hd]
  exact hK _ _ (h1 _ hW') fun _ => h2 _ _ (hF.put hN true v v (fun _ => rfl) (by simp)) hW'
theorem gp_lastG (i : Nat) (lt' : Array Bool) (hi : nth l i = some o) (hc : readyB .any l.toArray lt lt' i = true) (hds : i ∈ ds) (hd : o.dst = some d) (hN : Nat.ble (d + 1) N = true) (hg : Gok l F o true)
    (he : Ev P (og o) N w0 M F K fun v K' => GP P l Q C ds n lt' N w0 M ((d, true, v) :: F) K') : GP P l Q C ds (n + 1) lt N w0 M F K := fun a W hF hW => by
  rw [nth_eq] at hi
  refine last_ lt' (oi := o) (by simpa using hi) hd hc hds fun KK hK => ?_
  rw [if_pos (hg.wanted hF)]
  refine he.2 a W hF hW KK Q fun v K' W' h2 hW' => ?_
  show KK (a.put o.dst v) W'
  rw [hd]
  exact hK _ _ (h2 _ _ (hF.put hN true v v (fun _ => rfl) (by simp)) hW')
theorem gp_evBG (i : Nat) (lt' : Array Bool) (hi : nth l i = some o) (hc : readyB .any l.toArray lt lt' i = true) (hds : ds.all (fun j => !Nat.beq j i) = true) (hd : o.dst = some d) (hN : Nat.ble (d + 1) N = true) (hg : Gok l F o true)
    (he : EvB P (og o) N w0 M F K fun v w1 M1 K1 => (∀ W, St w1 M1 K1 W → C W) ∧ GP P l Q C ds n lt' N w1 M1 ((d, true, v) :: F) K1) : GP P l Q C ds (n + 1) lt N w0 M F K := fun a W hF hW => by
  rw [nth_eq] at hi
  have hni : i ∉ ds := fun hm => by have := List.all_eq_true.1 hds i hm; simp at this
  refine one_ lt' (oi := o) (by simpa using hi) hd hc hni fun KK hK => ?_
  rw [if_pos (hg.wanted hF)]
  refine he.2 a W hF hW KK Q fun v w1 M1 K1 W' ⟨h1, h2⟩ hW' => ?_
  show KK (a.put o.dst v) W'
  rw [hd]
  exact hK _ _ (h1 _ hW') fun _ => h2 _ _ (hF.put hN true v v (fun _ => rfl) (by simp)) hW'
/-- A guarded operation that is not carried out. -/
theorem gp_skipG (i : Nat) (lt' : Array Bool) (v : Value) (hi : nth l i = some o) (hc : readyB .any l.toArray lt lt' i = true) (hds : ds.all (fun j => !Nat.beq j i) = true) (hd : o.dst = some d) (hN : Nat.ble (d + 1) N = true) (hg : Gok l F o false)
    (hC : ∀ W, St w0 M K W → C W) (h : GP P l Q C ds n lt' N w0 M ((d, false, v) :: F) K) : GP P l Q C ds (n + 1) lt N w0 M F K := fun a W hF hW => by
  rw [nth_eq] at hi
  have hni : i ∉ ds := fun hm => by have := List.all_eq_true.1 hds i hm; simp at this
  refine one_ lt' (oi := o) (by simpa using hi) hd hc hni fun KK hK => ?_
  rw [if_neg (by rw [hg.wanted hF]; simp)]
  try rw [hd]
  exact hK _ _ (hC _ hW) fun _ => h _ _ (hF.put hN false v undef (by simp) (fun _ => rfl)) hW
end
section
variable {α : Type} {W W' w0 : World} {M : List Nat} {K Kx : Kl}
/-- Elements, one behind the other. -/
def cat (f : α → List Value) (l : List α) : List Value := l.flatMap f
theorem cat_nil {f : α → List Value} : cat f [] = [] := rfl
theorem cat_snoc {f : α → List Value} (l : List α) (x : α) : cat f (l ++ [x]) = cat f l ++ f x := by simp [cat]
theorem cat_append {f : α → List Value} (l m : List α) : cat f (l ++ m) = cat f l ++ cat f m := by simp [cat]
theorem cat_length {f : α → List Value} {k : Nat} (hf : ∀ x, (f x).length = k) : ∀ l : List α, (cat f l).length = l.length * k
  | [] => by simp [cat]
  | x :: r => by
    have := cat_length hf r
    unfold cat at *
    rw [List.flatMap_cons, List.length_append, hf, this, List.length_cons, Nat.succ_mul]; omega
theorem cat_get [Inhabited α] {f : α → List Value} {k : Nat} (hf : ∀ x, (f x).length = k) : ∀ (l : List α) (i j : Nat), i < l.length → j < k → (cat f l)[i * k + j]? = (f (l.getD i default))[j]?
  | [], i, j, hi, hj => by simp at hi
  | x :: r, 0, j, hi, hj => by
    unfold cat
    rw [List.flatMap_cons, Nat.zero_mul, Nat.zero_add, List.getElem?_append_left (by rw [hf]; exact hj)]
    simp
  | x :: r, i + 1, j, hi, hj => by
    have := cat_get hf r i j (by simpa using hi) hj
    unfold cat at *
    rw [List.flatMap_cons, Nat.succ_mul, List.getElem?_append_right (by rw [hf]; omega), hf, show i * k + k + j - k = i * k + j by omega, this]
    simp
theorem cat_ones {f : α → List Value} (hf : ∀ x, ∀ u ∈ f x, u.oneCell' = true) (l : List α) : ∀ u ∈ cat f l, u.oneCell' = true := fun u hu => by
  obtain ⟨x, _, hx⟩ := List.mem_flatMap.1 hu
  exact hf x u hx
theorem lds_cat [Inhabited α] {T : Tab} {f : α → List Value} {k : Nat} (hf : ∀ x, (f x).length = k) {l : List α} {i : Nat} {t : TypeId} {d : TyD} (hi : i < l.length) (hd : ty T t = some d) (ha : d.kind.agg = true) (hk : d.size = k) : Lds T t (cat f l) (i * k) (.agg (f (l.getD i default)).toArray) :=
  ⟨d, f (l.getD i default), hd, by rw [hf, hk], fun j hj => cat_get hf l i j hi (by omega), fun _ => rfl, fun h => by rw [ha] at h; cases h⟩
/-- An own slice, read as one of the memory's. -/
theorem slA_cat [Inhabited α] {f : α → List Value} {k n c : Nat} (hf : ∀ x, (f x).length = k) {l : List α} {p : Option Nat} {sp : List Value} {e : TypeId} (hn : n = l.length) (hW : St w0 M K W) (hk : Oa K p (cat f l ++ sp) e Kx) (hw : Ow p n c k (cat f l) sp) : SlA W k (p.map ad) n (fun i => f (l.getD i default)) := by
  subst hn
  have hW' := hk.st hW
  refine ⟨fun hn => ?_, fun i _ => hf _, fun hn => ?_⟩
  · cases p with
    | none => have := hw.nil rfl; have := hw.le; omega
    | some g => simp [pb, po, ad]
  · cases p with
    | none => have := hw.nil rfl; have := hw.le; omega
    | some g =>
      have hb := hW'.known (g, true, Obj.cells (cat f l ++ sp).toArray e (0, 0)) (by simp [ow])
      have hpb : pb ((some g).map ad) = g := by simp [pb, ad]
      have hpo : po ((some g).map ad) = 0 := by simp [po, ad]
      refine ⟨_, _, _, by rw [hpb]; exact hb, fun i hi j hj => ?_⟩
      rw [hpo, Nat.zero_add, List.getElem?_append_left (by rw [cat_length hf]; calc i * k + j < i * k + k := by omega
            _ = (i + 1) * k := by rw [Nat.succ_mul]
            _ ≤ l.length * k := Nat.mul_le_mul_right _ hi)]
      exact cat_get hf l i j hi hj
end
theorem c_cl {P : Prop} (h : P := by intro W_ h_; first | exact St.drop h_ (by repeat first | exact List.Sublist.refl _ | exact List.sublist_append_left _ _ | apply List.Sublist.cons | apply List.Sublist.cons_cons | apply sub_app | exact List.nil_sublist _) | exact h_ | (repeat first | exact St.drop h_ (by repeat first | exact List.Sublist.refl _ | exact List.sublist_append_left _ _ | apply List.Sublist.cons | apply List.Sublist.cons_cons | apply sub_app | exact List.nil_sublist _) | replace h_ := St.trans (by assumption) h_)) : P := h
end Go.Proofs.Ytkgjfcjciigcgaa.Sl
