/-
  A small layer over the model's own weakest preconditions: what is known of a frame's slots (a list), and of the blocks that matter (a list), so that a Go body is walked by one lemma an operation. No program in sight.
-/
import Derived.Below
import Derived.Deep.Quiet
import Derived.KernelRfl
import Derived.Laws.IdiomCopy
namespace Go.Proofs.Ytkgjfcjciigcgaa.Sl
open Go.RowKit
set_option linter.unusedVariables false

/-! ### 1. Lists that compute -/
def nth {α : Type} : List α → Nat → Option α
  | [], _ => none
  | x :: r, n => bif Nat.beq n 0 then some x else nth r (n - 1)

theorem nth_eq {α : Type} : ∀ (l : List α) (n : Nat), nth l n = l[n]?
  | [], n => by simp [nth]
  | x :: r, n => by
    unfold nth
    cases n with
    | zero => rfl
    | succ n => show nth r n = _; simpa using nth_eq r n

/-- k cells from the head on, written out. -/
def cutT : Nat → List Value → Option (List Value)
  | 0, _ => some []
  | k + 1, v :: r => match cutT k r with
    | some t => some (v :: t)
    | none => none
  | _ + 1, [] => none

/-- k cells from number off on, written out. -/
def cut : Nat → Nat → List Value → Option (List Value)
  | 0, k, l => cutT k l
  | o + 1, k, _ :: r => cut o k r
  | _ + 1, _, [] => none

/-- The cells c laid over l from number off on, written out. -/
def putL : Nat → List Value → List Value → Option (List Value)
  | 0, [], l => some l
  | 0, v :: c, _ :: l => match putL 0 c l with
    | some t => some (v :: t)
    | none => none
  | 0, _ :: _, [] => none
  | n + 1, c, x :: l => match putL n c l with
    | some t => some (x :: t)
    | none => none
  | _ + 1, _, [] => none

theorem cutT_spec : ∀ (k : Nat) (l vs : List Value), cutT k l = some vs → vs.length = k ∧ ∀ j, j < k → l[j]? = vs[j]?
  | 0, l, vs, h => by simp [cutT] at h; subst h; simp
  | k + 1, [], vs, h => by simp [cutT] at h
  | k + 1, v :: r, vs, h => by
    unfold cutT at h
    split at h
    · rename_i t ht
      obtain ⟨h1, h2⟩ := cutT_spec k r t ht
      cases h
      refine ⟨by simp [h1], fun j hj => ?_⟩
      cases j with
      | zero => rfl
      | succ j => simpa using h2 j (by omega)
    · cases h

theorem cut_spec : ∀ (o k : Nat) (l vs : List Value), cut o k l = some vs → vs.length = k ∧ ∀ j, j < k → l[o + j]? = vs[j]?
  | 0, k, l, vs, h => by simpa [cut] using cutT_spec k l vs (by simpa [cut] using h)
  | o + 1, k, [], vs, h => by simp [cut] at h
  | o + 1, k, x :: r, vs, h => by
    obtain ⟨h1, h2⟩ := cut_spec o k r vs (by simpa [cut] using h)
    refine ⟨h1, fun j hj => ?_⟩
    rw [show o + 1 + j = (o + j) + 1 by omega]
    simpa using h2 j hj

theorem putL_spec : ∀ (o : Nat) (c l l' : List Value), putL o c l = some l' → o + c.length ≤ l.length ∧ l' = l.take o ++ c ++ l.drop (o + c.length)
  | 0, [], l, l', h => by simp [putL] at h; subst h; simp
  | 0, v :: c, [], l', h => by simp [putL] at h
  | 0, v :: c, x :: l, l', h => by
    unfold putL at h
    split at h
    · rename_i t ht
      obtain ⟨h1, h2⟩ := putL_spec 0 c l t ht
      cases h
      refine ⟨by simp at h1 ⊢; omega, ?_⟩
      simp at h2
      simp [h2]
    · cases h
  | o + 1, c, [], l', h => by cases c <;> simp [putL] at h
  | o + 1, c, x :: l, l', h => by
    have h' : (match putL o c l with | some t => some (x :: t) | none => none) = some l' := by cases c <;> simpa [putL] using h
    split at h'
    · rename_i t ht
      obtain ⟨h1, h2⟩ := putL_spec o c l t ht
      cases h'
      refine ⟨by simp; omega, ?_⟩
      rw [show o + 1 + c.length = (o + c.length) + 1 by omega]
      simp [h2]
    · cases h'

/-! ### 2. A frame's slots -/
abbrev Fl := List (Nat × Bool × Value)
def Fg : Fl → Nat → Option (Bool × Value)
  | [], _ => none
  | (k, pv) :: r, n => bif Nat.beq k n then some pv else Fg r n

/-- What is known of the slots: (n, p, v): where p, slot n holds v; else nothing has been laid there. -/
structure Fr (N : Nat) (F : Fl) (a : Act) : Prop where
  size : a.tmps.size = N
  defers : a.defers = []
  get : ∀ n p v, Fg F n = some (p, v) → n < N ∧ (p = true → a.tmps.getD n undef = v) ∧ (p = false → a.tmps.getD n undef = undef)

theorem Fr.put {N : Nat} {F : Fl} {a : Act} (h : Fr N F a) {d : Nat} (hd : Nat.ble (d + 1) N = true) (p : Bool) (v u : Value) (h1 : p = true → u = v) (h2 : p = false → u = undef) : Fr N ((d, p, v) :: F) (a.put (some d) u) := by
  have hd' : d < N := Nat.le_of_ble_eq_true hd
  refine ⟨by simp [Act.put, h.size], by simp [Act.put, h.defers], fun n p' v' hg => ?_⟩
  unfold Fg at hg
  cases hb : Nat.beq d n with
  | true =>
    rw [hb] at hg
    simp at hg
    obtain ⟨rfl, rfl⟩ := hg
    have e := Nat.eq_of_beq_eq_true hb
    subst e
    have hlt : d < a.tmps.size := by rw [h.size]; exact hd'
    refine ⟨hd', fun e => ?_, fun e => ?_⟩
    · simp [Act.put, Array.getD_eq_getD_getElem?, hlt, h1 e]
    · simp [Act.put, Array.getD_eq_getD_getElem?, hlt, h2 e]
  | false =>
    rw [hb] at hg
    have hne : d ≠ n := Nat.ne_of_beq_eq_false hb
    obtain ⟨g1, g2, g3⟩ := h.get n p' v' (by simpa using hg)
    have e : (a.put (some d) u).tmps.getD n undef = a.tmps.getD n undef := by
      simp [Act.put, Array.getD_eq_getD_getElem?, hne]
    exact ⟨g1, fun e' => e.trans (g2 e'), fun e' => e.trans (g3 e')⟩

def Fo (F : Fl) : Operand → Option (Bool × Value)
  | .tmp t => Fg F t
  | .const v => some (true, v)
  | .global g => some (true, .pointer (some ⟨g, 0, none⟩))
  | .func f => some (true, .func (.func f) #[] #[])
def vl (F : Fl) (x : Operand) : Option Value := match Fo F x with
  | some (_, v) => some v
  | none => none
/-- What must hold for these operands to have been laid. -/
def cdl (F : Fl) : List Operand → Option (List Bool)
  | [] => some []
  | x :: r => match Fo F x, cdl F r with
    | some (p, _), some ps => some (p :: ps)
    | _, _ => none
def allT (ps : List Bool) : Prop := ∀ p ∈ ps, p = true

theorem Fr.eval {N : Nat} {F : Fl} {a : Act} (h : Fr N F a) {x : Operand} {p : Bool} {v : Value} (hx : Fo F x = some (p, v)) (hp : p = true) : a.eval x = v := by
  cases x with
  | tmp t => exact (h.get t p v hx).2.1 hp
  | const u => simp [Fo] at hx; exact hx.2
  | global g => simp [Fo] at hx; exact hx.2
  | func f => simp [Fo] at hx; exact hx.2

theorem Fr.evals {N : Nat} {F : Fl} {a : Act} (h : Fr N F a) : ∀ {xs : List Operand} {ps : List Bool}, cdl F xs = some ps → allT ps → ∀ {x v}, x ∈ xs → vl F x = some v → a.eval x = v
  | [], _, _, _, x, v, hx, _ => by simp at hx
  | y :: r, ps, hc, ha, x, v, hx, hv => by
    unfold cdl at hc
    split at hc
    · rename_i p _ ps' h1 h2
      cases hc
      rcases List.mem_cons.1 hx with rfl | hx
      · unfold vl at hv
        rw [h1] at hv
        cases hv
        exact h.eval h1 (ha _ (by simp))
      · exact Fr.evals h h2 (fun q hq => ha q (by simp [hq])) hx hv
    · cases hc

/-- Fewer facts. -/
def FrSub : Fl → Fl → Prop
  | [], _ => True
  | (n, pv) :: r, F => Fg F n = some pv ∧ FrSub r F
theorem FrSub.get {F : Fl} : ∀ {F' : Fl}, FrSub F' F → ∀ n pv, Fg F' n = some pv → Fg F n = some pv
  | [], _, n, pv, h => by simp [Fg] at h
  | (k, pv') :: r, hs, n, pv, h => by
    unfold Fg at h
    cases hb : Nat.beq k n with
    | true => rw [hb] at h; simp at h; subst h; have := Nat.eq_of_beq_eq_true hb; subst this; exact hs.1
    | false => rw [hb] at h; exact hs.2.get n pv (by simpa using h)
theorem Fr.sub {N : Nat} {F F' : Fl} {a : Act} (h : Fr N F a) (hs : FrSub F' F) : Fr N F' a :=
  ⟨h.size, h.defers, fun n p v hg => h.get n p v (hs.get n _ hg)⟩

/-! ### 3. The blocks that matter -/
abbrev Kl := List (Nat × Bool × Obj)
/-- A row of cells that nobody has frozen. -/
def cl (l : List Value) (t : TypeId) : Obj := .cells l.toArray t (0, 0)

/-- W is w0, but for the blocks of M, and for new ones; what K lists lies there (true: it may be written). -/
structure St (w0 : World) (M : List Nat) (K : Kl) (W : World) : Prop where
  os : W.os = w0.os
  tape : W.tape = w0.tape
  output : W.output = w0.output
  size : w0.heap.size ≤ W.heap.size
  frame : ∀ b, b < w0.heap.size → b ∉ M → W.heap[b]? = w0.heap[b]?
  known : ∀ e ∈ K, W.heap[e.1]? = some e.2.2
  wr : ∀ e ∈ K, e.2.1 = true → w0.heap.size ≤ e.1 ∨ e.1 ∈ M
  apart : K.Pairwise (fun p q => p.1 ≠ q.1)
  dr : w0.drawn ≤ W.drawn

theorem St.refl (w0 : World) (M : List Nat) : St w0 M [] w0 :=
  ⟨rfl, rfl, rfl, Nat.le_refl _, fun _ _ _ => rfl, by simp, by simp, .nil, Nat.le_refl _⟩

/-- Nothing that was there has turned. -/
structure Bl (w w' : World) : Prop where
  os : w'.os = w.os
  tape : w'.tape = w.tape
  output : w'.output = w.output
  size : w.heap.size ≤ w'.heap.size
  block : ∀ k, k < w.heap.size → w'.heap[k]? = w.heap[k]?
  drawn : w.drawn ≤ w'.drawn
theorem Bl.below {w w' : World} (h : Bl w w') : Below w.heap.size w w' := ⟨h.os, h.tape, h.output, h.size, h.block⟩
theorem St.below {w0 W : World} {K : Kl} (h : St w0 [] K W) : Bl w0 W :=
  ⟨h.os, h.tape, h.output, h.size, fun b hb => h.frame b hb (by simp), h.dr⟩
theorem St.of_below {w0 W : World} (h : Bl w0 W) : St w0 [] [] W :=
  ⟨h.os, h.tape, h.output, h.size, fun b hb _ => h.block b hb, by simp, by simp, .nil, h.drawn⟩

theorem St.lt {w0 W : World} {M : List Nat} {K : Kl} (h : St w0 M K W) {e : Nat × Bool × Obj} (he : e ∈ K) : e.1 < W.heap.size :=
  (Array.getElem?_eq_some_iff.1 (h.known e he)).1

theorem St.drop {w0 W : World} {M : List Nat} {K K' : Kl} (h : St w0 M K W) (hs : K'.Sublist K) : St w0 M K' W :=
  ⟨h.os, h.tape, h.output, h.size, h.frame, fun e he => h.known e (hs.subset he), fun e he => h.wr e (hs.subset he), h.apart.sublist hs, h.dr⟩

theorem St.tail {w0 W : World} {M : List Nat} {e : Nat × Bool × Obj} {K : Kl} (h : St w0 M (e :: K) W) : St w0 M K W := h.drop (List.sublist_cons_self _ _)

theorem St.drawn {w0 W : World} {M : List Nat} {K : Kl} (h : St w0 M K W) (n : Nat) (hn : W.drawn ≤ n := by first | exact Nat.le_succ _ | omega) : St w0 M K { W with drawn := n } :=
  ⟨h.os, h.tape, h.output, h.size, h.frame, h.known, h.wr, h.apart, Nat.le_trans h.dr hn⟩

theorem St.alloc {w0 W : World} {M : List Nat} {K : Kl} (h : St w0 M K W) (o : Obj) : St w0 M ((W.heap.size, true, o) :: K) (W.alloc o) := by
  refine ⟨h.os, h.tape, h.output, Nat.le_trans h.size (by simp), fun b hb hm => ?_, fun e he => ?_, fun e he hw => ?_, ?_, h.dr⟩
  · rw [Below.heap_alloc _ _ _ (Nat.lt_of_lt_of_le hb h.size)]; exact h.frame b hb hm
  · rcases List.mem_cons.1 he with rfl | he
    · show (W.heap.push o)[W.heap.size]? = _; simp
    · rw [Below.heap_alloc _ _ _ (h.lt he)]; exact h.known e he
  · rcases List.mem_cons.1 he with rfl | he
    · exact .inl h.size
    · exact h.wr e he hw
  · exact List.pairwise_cons.2 ⟨fun e he => by have := h.lt he; simp; omega, h.apart⟩

/-- An old block, as it lay at the beginning, read alone. -/
theorem St.old {w0 W : World} {M : List Nat} {K : Kl} (h : St w0 M K W) {b : Nat} {o : Obj} (hb : w0.heap[b]? = some o) (hM : b ∉ M) (hK : ∀ e ∈ K, b ≠ e.1) : St w0 M ((b, false, o) :: K) W := by
  have hlt : b < w0.heap.size := (Array.getElem?_eq_some_iff.1 hb).1
  refine ⟨h.os, h.tape, h.output, h.size, h.frame, fun e he => ?_, fun e he hw => ?_, List.pairwise_cons.2 ⟨hK, h.apart⟩, h.dr⟩
  · rcases List.mem_cons.1 he with rfl | he
    · exact (h.frame b hlt hM).trans hb
    · exact h.known e he
  · rcases List.mem_cons.1 he with rfl | he
    · cases hw
    · exact h.wr e he hw

/-- Behind a call that has turned nothing that was there. -/
theorem St.grow {w0 W W' : World} {M : List Nat} {K K' : Kl} (h : St w0 M K W) (g : St W [] K' W') (hn : ∀ e ∈ K', W.heap.size ≤ e.1) : St w0 M (K' ++ K) W' := by
  refine ⟨g.os.trans h.os, g.tape.trans h.tape, g.output.trans h.output, Nat.le_trans h.size g.size, fun b hb hm => ?_, fun e he => ?_, fun e he hw => ?_, ?_, Nat.le_trans h.dr g.dr⟩
  · rw [g.frame b (Nat.lt_of_lt_of_le hb h.size) (by simp)]; exact h.frame b hb hm
  · rcases List.mem_append.1 he with he | he
    · exact g.known e he
    · rw [g.frame e.1 (h.lt he) (by simp)]; exact h.known e he
  · rcases List.mem_append.1 he with he | he
    · exact .inl (Nat.le_trans h.size (hn e he))
    · exact h.wr e he hw
  · exact List.pairwise_append.2 ⟨g.apart, h.apart, fun e he e' he' => by have := hn e he; have := h.lt he'; omega⟩

theorem St.grow0 {w0 W W' : World} {M : List Nat} {K : Kl} (h : St w0 M K W) (g : Bl W W') : St w0 M K W' := by
  simpa using h.grow (St.of_below g) (by simp)

/-- One block of K, and what it is turned into. -/
inductive Ku : Kl → Nat → Obj → Obj → Kl → Prop
  | head {g : Nat} {o o' : Obj} {K : Kl} : Ku ((g, true, o) :: K) g o o' ((g, true, o') :: K)
  | tail {e : Nat × Bool × Obj} {K K' : Kl} {g : Nat} {o o' : Obj} : Ku K g o o' K' → Ku (e :: K) g o o' (e :: K')

theorem Ku.mem {K K' : Kl} {g : Nat} {o o' : Obj} (h : Ku K g o o' K') : (g, true, o) ∈ K := by
  induction h with
  | head => simp
  | tail _ ih => simp [ih]
theorem Ku.fst {K K' : Kl} {g : Nat} {o o' : Obj} (h : Ku K g o o' K') : K'.map (·.1) = K.map (·.1) := by
  induction h with
  | head => rfl
  | tail _ ih => simp [ih]
theorem Ku.of_mem {K K' : Kl} {g : Nat} {o o' : Obj} (h : Ku K g o o' K') : ∀ e ∈ K', e = (g, true, o') ∨ (e ∈ K) := by
  induction h with
  | head => intro e he; rcases List.mem_cons.1 he with rfl | he <;> simp_all
  | tail _ ih => intro e he; rcases List.mem_cons.1 he with rfl | he
                 · simp
                 · rcases ih e he with h | h <;> simp [h]
theorem Ku.other {K K' : Kl} {g : Nat} {o o' : Obj} (h : Ku K g o o' K') (ha : K.Pairwise (fun p q => p.1 ≠ q.1)) : ∀ e ∈ K', e = (g, true, o') ∨ (e ∈ K ∧ e.1 ≠ g) := by
  induction h with
  | head =>
    intro e he
    rcases List.mem_cons.1 he with rfl | he
    · exact .inl rfl
    · exact .inr ⟨by simp [he], ((List.pairwise_cons.1 ha).1 e he).symm⟩
  | @tail e0 K K' g o o' hk ih =>
    intro e he
    rcases List.mem_cons.1 he with rfl | he
    · exact .inr ⟨by simp, (List.pairwise_cons.1 ha).1 (g, true, o) hk.mem⟩
    · rcases ih (List.pairwise_cons.1 ha).2 e he with h | ⟨h, h'⟩
      · exact .inl h
      · exact .inr ⟨by simp [h], h'⟩

theorem St.set {w0 W W' : World} {M : List Nat} {K K' : Kl} {g : Nat} {o o' : Obj} (h : St w0 M K W) (hk : Ku K g o o' K') (h1 : W'.os = W.os) (h2 : W'.tape = W.tape) (h3 : W'.output = W.output ∧ W'.drawn = W.drawn) (h4 : W'.heap.size = W.heap.size)
    (h5 : W'.heap[g]? = some o') (h6 : ∀ b, b ≠ g → W'.heap[b]? = W.heap[b]?) : St w0 M K' W' := by
  have hwr := h.wr _ hk.mem rfl
  refine ⟨h1.trans h.os, h2.trans h.tape, h3.1.trans h.output, by rw [h4]; exact h.size, fun b hb hm => ?_, fun e he => ?_, fun e he hw => ?_, ?_, by rw [h3.2]; exact h.dr⟩
  · rw [h6 b (fun e => by subst e; rcases hwr with h | h <;> first | exact absurd h hm | exact absurd hb (by simpa using h))]
    exact h.frame b hb hm
  · rcases hk.other h.apart e he with rfl | ⟨he, hne⟩
    · exact h5
    · rw [h6 _ hne]; exact h.known e he
  · rcases hk.other h.apart e he with rfl | ⟨he, hne⟩
    · exact hwr
    · exact h.wr e he hw
  · have e := hk.fst
    have h' : (K.map (·.1)).Pairwise (· ≠ ·) := List.pairwise_map.2 h.apart
    rw [← e] at h'
    exact List.pairwise_map.1 h'


/-! ### 4. Types -/
inductive TyK
  | int (k : IntKind)
  | bool
  | string
  | ptr (e : TypeId)
  | slice (e : TypeId)
  | struct (fs : List (TypeId × Nat))
  | map (k e : TypeId)
  | func
  | arr (n : Nat) (e : TypeId)

structure TyD where
  kind : TyK
  size : Nat
  bytes : Nat
  zero : List Value

def TyK.fits : TyK → Option TypeDesc → Prop
  | .int k, d => d = some (.int k)
  | .bool, d => d = some .bool
  | .string, d => d = some .string
  | .ptr e, d => d = some (.pointer e)
  | .slice e, d => d = some (.slice e)
  | .struct fs, d => ∃ g : Array Field, d = some (.struct g) ∧ g.toList.map (fun f => (f.type, f.offset)) = fs
  | .map k e, d => d = some (.map k e)
  | .func, d => ∃ a b c, d = some (.func a b c)
  | .arr n e, d => d = some (.array n e)

def TyK.agg : TyK → Bool
  | .struct _ => true
  | .arr _ _ => true
  | _ => false

structure TyOk (P : Program) (t : TypeId) (d : TyD) : Prop where
  kind : d.kind.fits (P.underlying t)
  info : ∃ i z, P.info? t = some i ∧ i.size = d.size ∧ i.bytes = d.bytes ∧ i.zero = some z ∧ z.cells = d.zero.toArray

abbrev Tab := List (Option TyD)
def ty (T : Tab) (t : TypeId) : Option TyD := match nth T t with
  | some (some d) => some d
  | _ => none
def TabOk (P : Program) (T : Tab) : Prop := ∀ t d, ty T t = some d → TyOk P t d

section
variable {P : Program} {t : TypeId} {d : TyD}
theorem TyOk.sizeOf (h : TyOk P t d) (w : World) : (Go.sizeOf t).run P w = .ok d.size w := by
  obtain ⟨i, z, h1, h2, _⟩ := h.info
  simp [Go.sizeOf, typeInfo, program, h1, h2, Sem.run]
theorem TyOk.isAgg (h : TyOk P t d) (w : World) : (Go.isAgg t).run P w = .ok d.kind.agg w := by
  have hk := h.kind
  unfold TyK.fits at hk
  cases hd : d.kind with
  | func => rw [hd] at hk; obtain ⟨a, b, c, hk⟩ := hk; simp [Go.isAgg, underlying, program, hk, Sem.run, TyK.agg]
  | struct fs => rw [hd] at hk; obtain ⟨g, hk, _⟩ := hk; simp [Go.isAgg, underlying, program, hk, Sem.run, TyK.agg]
  | _ => rw [hd] at hk; simp only [] at hk; simp [Go.isAgg, underlying, program, hk, Sem.run, TyK.agg]
theorem TyOk.zeroValue (h : TyOk P t d) (w : World) : ∃ z, (Go.zeroValue t).run P w = .ok z w ∧ z.cells = d.zero.toArray := by
  obtain ⟨i, z, h1, _, _, h2, h3⟩ := h.info
  exact ⟨z, by simp [Go.zeroValue, typeInfo, program, h1, h2, Sem.run], h3⟩
end
end Go.Proofs.Ytkgjfcjciigcgaa.Sl
