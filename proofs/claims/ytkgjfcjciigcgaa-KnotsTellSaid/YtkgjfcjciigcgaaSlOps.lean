/-
  What the plain operations yield (moves, arithmetic, comparisons, fields, parts, lengths): by a function that computes on what is known of the slots, and that it tells no lie. No program in sight.
-/
import Derived.Test.YtkgjfcjciigcgaaSl
namespace Go.Proofs.Ytkgjfcjciigcgaa.Sl
open Go.RowKit
set_option linter.unusedVariables false

def kEq : IntKind → IntKind → Bool
  | .i8, .i8 | .i16, .i16 | .i32, .i32 | .i64, .i64 | .u8, .u8 | .u16, .u16 | .u32, .u32 | .u64, .u64 => true
  | _, _ => false
theorem kEq_eq {a b : IntKind} (h : kEq a b = true) : a = b := by cases a <;> cases b <;> first | rfl | cases h

def intOp (op : BinOp) (k : IntKind) (a b : Int) : Option Value :=
  match op with
  | .add => some (.int k (k.wrap (a + b)))
  | .sub => some (.int k (k.wrap (a - b)))
  | .mul => some (.int k (k.wrap (a * b)))
  | .and => some (.int k (k.wrap ((BitVec.ofInt k.bits a &&& BitVec.ofInt k.bits b).toNat : Int)))
  | .or => some (.int k (k.wrap ((BitVec.ofInt k.bits a ||| BitVec.ofInt k.bits b).toNat : Int)))
  | .xor => some (.int k (k.wrap ((BitVec.ofInt k.bits a ^^^ BitVec.ofInt k.bits b).toNat : Int)))
  | .eql => some (.bool (a == b))
  | .neq => some (.bool (a != b))
  | .lss => some (.bool (decide (a < b)))
  | .leq => some (.bool (decide (a ≤ b)))
  | .gtr => some (.bool (decide (a > b)))
  | .geq => some (.bool (decide (a ≥ b)))
  | _ => none
def strOp (op : BinOp) (x y : ByteArray) : Option Value :=
  match op with
  | .eql => some (.bool (x.toList == y.toList))
  | .neq => some (.bool (!(x.toList == y.toList)))
  | .lss => some (.bool (Op.bytesLess x.toList y.toList))
  | .leq => some (.bool (Op.bytesLess x.toList y.toList || x.toList == y.toList))
  | .gtr => some (.bool (!(Op.bytesLess x.toList y.toList || x.toList == y.toList)))
  | .geq => some (.bool (!Op.bytesLess x.toList y.toList))
  | _ => none
/-- Equality where it is plain: bools; pointers, slices, maps held against nil. -/
def eqOp (d : Option TyD) (x y : Value) : Option Bool :=
  match d with
  | some ⟨.bool, _, _, _⟩ => match x, y with
    | .bool a, .bool b => some (a == b)
    | _, _ => none
  | some ⟨.ptr _, _, _, _⟩ => match x, y with
    | .pointer none, .pointer none => some true
    | .pointer none, .pointer (some _) => some false
    | .pointer (some _), .pointer none => some false
    | _, _ => none
  | some ⟨.slice _, _, _, _⟩ => match x, y with
    | .slice none _ _, .slice none _ _ => some true
    | .slice none _ _, .slice (some _) _ _ => some false
    | .slice (some _) _ _, .slice none _ _ => some false
    | _, _ => none
  | some ⟨.map _ _, _, _, _⟩ => match x, y with
    | .map none, .map none => some true
    | .map none, .map (some _) => some false
    | .map (some _), .map none => some false
    | _, _ => none
  | _ => none

def binO (d : Option TyD) (op : BinOp) (x y : Value) : Option Value :=
  match x, y with
  | .int k a, .int k' b => bif kEq k k' then intOp op k a b else none
  | .string a, .string b => strOp op a b
  | x, y => match op with
    | .eql => match eqOp d x y with
      | some b => some (.bool b)
      | none => none
    | .neq => match eqOp d x y with
      | some b => some (.bool (!b))
      | none => none
    | _ => none

def partO (T : Tab) (t : TypeId) (cs : List Value) (off : Nat) : Option Value :=
  match ty T t with
  | some d => match d.kind.agg with
    | true => match cut off d.size cs with
      | some vs => some (.agg vs.toArray)
      | none => none
    | false => nth cs off
  | none => none

def vals (F : Fl) : List Operand → Option (List Value)
  | [] => some []
  | x :: r => match vl F x, vals F r with
    | some v, some vs => some (v :: vs)
    | _, _ => none

def fillO (T : Tab) (F : Fl) (fs : List (TypeId × Nat)) : List Value → List (Nat × Operand) → Option (List Value)
  | cells, [] => some cells
  | cells, (i, x) :: r => match nth fs i, vl F x with
    | some (ft, off), some v => match ty T ft with
      | some d => match Nat.beq v.cells.toList.length d.size, putL off v.cells.toList cells with
        | true, some cells' => fillO T F fs cells' r
        | _, _ => none
      | none => none
    | _, _ => none

def fldOk (T : Tab) : List (TypeId × Nat) → Bool
  | [] => true
  | (t, _) :: r => match ty T t with
    | some _ => fldOk T r
    | none => false

def pureOp (T : Tab) (F : Fl) (op : Op) : Option Value :=
  match op with
  | .move x => vl F x
  | .assign x => vl F x
  | .unOp .not _ x => match vl F x with
    | some (.bool b) => some (.bool (!b))
    | _ => none
  | .binOp bop t x y _ => match vl F x, vl F y with
    | some a, some b => binO (ty T t) bop a b
    | _, _ => none
  | .fieldAddr s x f => match vl F x, ty T s with
    | some (.pointer (some ⟨g, o, none⟩)), some ⟨.struct fs, _, _, _⟩ => match nth fs f with
      | some (ft, off) => match ty T ft with
        | some d => bif Nat.beq d.size 0 then none else some (.pointer (some ⟨g, o + off, none⟩))
        | none => none
      | none => none
    | _, _ => none
  | .field s x f => match vl F x, ty T s with
    | some (.agg cs), some ⟨.struct fs, _, _, _⟩ => match nth fs f with
      | some (ft, off) => partO T ft cs.toList off
      | none => none
    | _, _ => none
  | .build t parts => match ty T t with
    | some ⟨.struct fs, _, _, z⟩ => match fldOk T fs, fillO T F fs z parts.toList with
      | true, some cs => some (.agg cs.toArray)
      | _, _ => none
    | _ => none
  | .extract x i => match vl F x with
    | some (.tuple vs) => nth vs.toList i
    | _ => none
  | .call ⟨.builtin .len, args, ts⟩ => match args.toList, ts.toList with
    | [x], [t] => match vl F x, ty T t with
      | some (.slice _ n _), some ⟨.slice _, _, _, _⟩ => some (.int .i64 n)
      | some (.string s), some ⟨.string, _, _, _⟩ => some (.int .i64 s.size)
      | _, _ => none
    | _, _ => none
  | .call ⟨.builtin .cap, args, ts⟩ => match args.toList, ts.toList with
    | [x], [t] => match vl F x, ty T t with
      | some (.slice _ _ c), some ⟨.slice _, _, _, _⟩ => some (.int .i64 c)
      | _, _ => none
    | _, _ => none
  | .call ⟨.builtin .max, args, _⟩ => match args.toList with
    | [x, y] => match vl F x, vl F y with
      | some (.int .i64 m), some (.int .i64 n) => some (.int .i64 (if n > m then n else m))
      | _, _ => none
    | _ => none
  | .call ⟨.builtin .min, args, _⟩ => match args.toList with
    | [x, y] => match vl F x, vl F y with
      | some (.int .i64 m), some (.int .i64 n) => some (.int .i64 (if n < m then n else m))
      | _, _ => none
    | _ => none
  | .nilCheck x => match vl F x with
    | some (.pointer (some a)) => some (.pointer (some a))
    | _ => none
  | .convert src dst x => match ty T dst, vl F x with
    | some ⟨.int k, _, _, _⟩, some (.int _ n) => match ty T src with
      | some _ => some (.int k (k.wrap n))
      | none => none
    | _, _ => none
  | .makeFunc fn first captured => match vals F first.toList, vals F captured.toList with
    | some f, some c => some (.func fn f.toArray c.toArray)
    | _, _ => none
  | _ => none

/-! ### It tells no lie -/
section
variable {P : Program} {T : Tab} {N : Nat} {F : Fl} {a : Act}

theorem run_underlying {t : TypeId} {d : TypeDesc} (h : P.underlying t = some d) (w : World) : (underlying t).run P w = .ok d w := by
  simp [underlying, program, h, Sem.run]

theorem intOp_ok {op : BinOp} {k : IntKind} {x y : Int} {v : Value} (h : intOp op k x y = some v) (t : TypeId) (w : World) : (binOp op t (.int k x) (.int k y)).run P w = .ok v w := by
  cases op <;> simp [intOp] at h <;> subst h <;> simp [binOp, Op.intArith, Op.intCmp, Op.intBits]

theorem strOp_ok {op : BinOp} {x y : ByteArray} {v : Value} (h : strOp op x y = some v) (t : TypeId) (w : World) : (binOp op t (.string x) (.string y)).run P w = .ok v w := by
  cases op <;> simp [strOp] at h <;> subst h <;> simp [binOp, Op.stringOp]

theorem eqOp_in (hT : TabOk P T) {t : TypeId} {x y : Value} {b : Bool} (h : eqOp (ty T t) x y = some b) (n : Nat) (w : World) : (Op.equalIn (n + 1) t x y).run P w = .ok b w := by
  cases hd : ty T t with
  | none => rw [hd] at h; simp [eqOp] at h
  | some d =>
    have hk := (hT t d hd).kind
    rw [hd] at h
    obtain ⟨k, s, bs, z⟩ := d
    cases k <;> simp only [eqOp] at h <;> (try cases h)
    · split at h <;> cases h
      simp [Op.equalIn, run_underlying hk]
    · split at h <;> cases h <;> simp [Op.equalIn, run_underlying hk]
    · split at h <;> cases h <;> simp [Op.equalIn, run_underlying hk]
    · split at h <;> cases h <;> simp [Op.equalIn, run_underlying hk]

theorem eqOp_ok (hT : TabOk P T) {t : TypeId} {x y : Value} {b : Bool} (h : eqOp (ty T t) x y = some b) (w : World) : (Op.equal t x y).run P w = .ok b w :=
  eqOp_in hT h 9999 w

theorem eqOp_plain {d : Option TyD} {x y : Value} {b : Bool} (h : eqOp d x y = some b) : (∃ p q, x = .bool p ∧ y = .bool q) ∨ (∃ p q, x = .pointer p ∧ y = .pointer q) ∨ (∃ p n c q n' c', x = .slice p n c ∧ y = .slice q n' c') ∨ (∃ p q, x = .map p ∧ y = .map q) := by
  unfold eqOp at h
  split at h <;> (try split at h) <;> first | (cases h; done) | simp

theorem eqGuard_plain {bop : BinOp} {t : TypeId} {x y : Operand} {u v : Value} (hu : ∀ cs, u ≠ .agg cs) (hn : u ≠ .nilIface) (w : World) : (eqGuard bop t x y u v).run P w = .ok () w := by
  unfold eqGuard
  cases bop <;> simp <;> cases u <;> simp_all

theorem binO_ok (hT : TabOk P T) {t : TypeId} {op : BinOp} {x y : Value} {v : Value} (h : binO (ty T t) op x y = some v) (x' y' : Operand) (w : World) :
    (do eqGuard op t x' y' x y; binOp op t x y : Sem Value).run P w = .ok v w := by
  unfold binO at h
  split at h
  · rename_i k n k' n'
    cases hk : kEq k k' with
    | false => rw [hk] at h; cases h
    | true =>
      rw [hk] at h
      obtain rfl := kEq_eq hk
      simp [eqGuard_plain, intOp_ok h]
  · simp [eqGuard_plain, strOp_ok h]
  · have key : ∀ b, eqOp (ty T t) x y = some b → (do eqGuard .eql t x' y' x y; binOp .eql t x y : Sem Value).run P w = .ok (.bool b) w ∧ (do eqGuard .neq t x' y' x y; binOp .neq t x y : Sem Value).run P w = .ok (.bool !b) w := by
      intro b hb
      have hr := fun w => eqOp_ok hT hb (P := P) w
      rcases eqOp_plain hb with ⟨p, q, rfl, rfl⟩ | ⟨p, q, rfl, rfl⟩ | ⟨p, n, c, q, n', c', rfl, rfl⟩ | ⟨p, q, rfl, rfl⟩ <;> simp [eqGuard_plain, binOp, hr]
    split at h
    · split at h
      · rename_i b hb
        cases h
        exact (key b hb).1
      · cases h
    · split at h
      · rename_i b hb
        cases h
        exact (key b hb).2
      · cases h
    · cases h

theorem partO_ok (hT : TabOk P T) {t : TypeId} {cs : List Value} {off : Nat} {v : Value} (h : partO T t cs off = some v) (w : World) : (part t cs.toArray off).run P w = .ok v w := by
  unfold partO at h
  split at h
  · rename_i d hd
    have hd' := hT t d hd
    split at h
    · rename_i ha
      split at h
      · rename_i vs hvs
        cases h
        obtain ⟨h1, h2⟩ := cut_spec off d.size cs vs hvs
        have e : cs.toArray.extract off (off + d.size) = vs.toArray := by
          apply Array.ext'
          simp only [Array.toList_extract]
          apply List.ext_getElem?
          intro j
          by_cases hj : j < d.size
          · simp [List.extract, hj, h2 j hj]
          · simp [List.extract, List.getElem?_take, hj, h1]
        simp only [part, Sem.run_bind, hd'.isAgg, ha, hd'.sizeOf, Result.andThen_ok, if_true]
        rw [e]
        rfl
      · cases h
    · rename_i ha
      rw [nth_eq] at h
      simp [part, hd'.isAgg, ha, h]
  · cases h

theorem cdl_cons {x : Operand} {r : List Operand} {ps : List Bool} (h : cdl F (x :: r) = some ps) : ∃ p v ps', Fo F x = some (p, v) ∧ cdl F r = some ps' ∧ ps = p :: ps' := by
  unfold cdl at h
  split at h
  · rename_i p v ps' h1 h2
    cases h
    exact ⟨p, v, ps', h1, h2, rfl⟩
  · cases h

theorem vals_ok (hF : Fr N F a) : ∀ {xs : List Operand} {ps : List Bool} {vs : List Value}, cdl F xs = some ps → allT ps → vals F xs = some vs → xs.map a.eval = vs
  | [], _, vs, _, _, h => by simp [vals] at h; subst h; rfl
  | x :: r, ps, vs, hc, hp, h => by
    unfold vals at h
    split at h
    · rename_i v vs' h1 h2
      cases h
      have e1 := hF.evals hc hp (x := x) (by simp) h1
      unfold cdl at hc
      split at hc
      · rename_i p _ ps' g1 g2
        cases hc
        simp [e1, vals_ok hF g2 (fun q hq => hp q (by simp [hq])) h2]
      · cases hc
    · cases h

theorem foldSet (off : Nat) : ∀ (c : List Value) (i : Nat) (cs : Array Value), off + i + c.length ≤ cs.size →
    ((c.zipIdx i).foldl (fun (cs : Array Value) (x : Value × Nat) => cs.setIfInBounds (off + x.2) x.1) cs).size = cs.size ∧
    ∀ j : Nat, ((c.zipIdx i).foldl (fun (cs : Array Value) (x : Value × Nat) => cs.setIfInBounds (off + x.2) x.1) cs)[j]? = if off + i ≤ j ∧ j < off + i + c.length then c[j - (off + i)]? else cs[j]?
  | [], i, cs, _ => ⟨rfl, fun j => by
      rw [if_neg (by simp only [List.length_nil]; omega)]; rfl⟩
  | v :: c, i, cs, h => by
    simp only [List.length_cons] at h
    obtain ⟨h1, h2⟩ := foldSet off c (i + 1) (cs.setIfInBounds (off + i) v) (by rw [Array.size_setIfInBounds]; omega)
    rw [List.zipIdx_cons, List.foldl_cons]
    refine ⟨by simpa using h1, fun j => ?_⟩
    rw [h2]
    simp only [List.length_cons]
    rcases Nat.lt_trichotomy j (off + i) with hj | hj | hj
    · rw [if_neg (by omega), if_neg (by omega), Array.getElem?_setIfInBounds_ne (by omega)]
    · subst hj
      rw [if_neg (by omega), if_pos (by omega)]
      have : off + i < cs.size := by omega
      simp [this]
    · by_cases h3 : j < off + (i + 1) + c.length
      · rw [if_pos (by omega), if_pos (by omega), show j - (off + i) = (j - (off + (i + 1))) + 1 by omega]
        simp
      · rw [if_neg (by omega), if_neg (by omega), Array.getElem?_setIfInBounds_ne (by omega)]

theorem putFold {c : List Value} {off : Nat} {l l' : List Value} (h : putL off c l = some l') : (c.zipIdx.foldl (fun (cs : Array Value) (x : Value × Nat) => cs.setIfInBounds (off + x.2) x.1) l.toArray) = l'.toArray := by
  obtain ⟨h1, rfl⟩ := putL_spec off c l l' h
  obtain ⟨h2, h3⟩ := foldSet off c 0 l.toArray (by simpa using h1)
  apply Array.ext_getElem?
  intro j
  rw [h3]
  simp only [Nat.add_zero, List.getElem?_toArray, List.append_assoc, List.getElem?_append, List.length_take, List.getElem?_take, List.getElem?_drop]
  by_cases g1 : j < off
  · rw [if_neg (by omega), if_pos (by omega), if_pos g1]
  · rw [if_neg (by omega : ¬ j < min off l.length), show min off l.length = off by omega]
    by_cases g2 : j < off + c.length
    · rw [if_pos (by omega), if_pos (by omega)]
    · rw [if_neg (by omega), if_neg (by omega)]
      congr 1
      omega

theorem fillO_ok (hT : TabOk P T) {g : Array Field} (hF : Fr N F a) (w : World) : ∀ {parts : List (Nat × Operand)} {cells cs : List Value} {ps : List Bool}, cdl F (parts.map (·.2)) = some ps → allT ps →
    fillO T F (g.toList.map fun f => (f.type, f.offset)) cells parts = some cs →
    Instr.fill (fun i => (g[i]?).map fun f => (f.offset, ((P.info? f.type).map (·.size)).getD 0)) cells.toArray (parts.map fun x => (x.1, a.eval x.2)) = some cs.toArray
  | [], cells, cs, _, _, _, h => by simp [fillO] at h; subst h; simp [Instr.fill]
  | (i, x) :: r, cells, cs, ps, hc, hp, h => by
    unfold fillO at h
    split at h
    · rename_i ft off v h1 h2
      split at h
      · rename_i d hd
        split at h
        · rename_i cells' h3 h4
          have e1 := hF.evals hc hp (x := x) (by simp) h2
          obtain ⟨inf, z, i1, i2, _⟩ := (hT ft d hd).info
          rw [nth_eq] at h1
          simp only [List.getElem?_map, Option.map_eq_some_iff, Array.getElem?_toList] at h1
          obtain ⟨fd, hfd, he⟩ := h1
          cases he
          obtain ⟨l1, l2⟩ := putL_spec _ _ _ _ h4
          have h3' : v.cells.size = d.size := by simpa using Nat.eq_of_beq_eq_true h3
          simp only [List.map_cons, Instr.fill, hfd, Option.map_some, i1, Option.getD_some, i2, e1]
          have l1' : fd.offset + v.cells.size ≤ cells.length := by simpa using l1
          rw [if_neg (by simp [h3']; omega)]
          have e2 := putFold h4
          rw [show (v.cells.zipIdx.foldl (fun (cs : Array Value) (x : Value × Nat) => cs.setIfInBounds (fd.offset + x.2) x.1) cells.toArray) = cells'.toArray from by
            rw [← e2, ← Array.foldl_toList, Array.toList_zipIdx]]
          obtain ⟨p, u, ps', g1, g2, rfl⟩ := cdl_cons (x := x) (r := r.map (·.2)) hc
          exact fillO_ok hT hF w g2 (fun q hq => hp q (by simp [hq])) h
        · cases h
      · cases h
    · cases h

theorem run_mapM_places {g : Array Field} (w : World) (h : ∀ f ∈ g.toList, ∃ n, (Go.sizeOf f.type).run P w = .ok n w) :
    ∃ pl : Array (Nat × Nat), (g.mapM fun f => do pure (f.offset, ← Go.sizeOf f.type) : Sem (Array (Nat × Nat))).run P w = .ok pl w ∧ ∀ i : Nat, pl[i]? = (g[i]?).map fun f => (f.offset, ((P.info? f.type).map (·.size)).getD 0) := by
  have key : ∀ l : List Field, (∀ f ∈ l, ∃ n, (Go.sizeOf f.type).run P w = .ok n w) → (l.mapM fun f => do pure (f.offset, ← Go.sizeOf f.type) : Sem (List (Nat × Nat))).run P w = .ok (l.map fun f => (f.offset, ((P.info? f.type).map (·.size)).getD 0)) w := by
    intro l
    induction l with
    | nil => intro _; simp
    | cons f r ih =>
      intro hl
      obtain ⟨n, hn⟩ := hl f (by simp)
      have e : n = ((P.info? f.type).map (·.size)).getD 0 := by
        simp [Go.sizeOf, typeInfo, program, Sem.run] at hn
        cases hi : P.info? f.type with
        | none => rw [hi] at hn; simp [stuck] at hn
        | some i => rw [hi] at hn; simp at hn; simp [hn]
      rw [List.mapM_cons]
      have ih' := ih (fun f' hf' => hl f' (by simp [hf']))
      simp only [Sem.run_bind, hn, Result.andThen_ok, Sem.run_pure, ih', e, List.map_cons]
  refine ⟨(g.toList.map fun f => (f.offset, ((P.info? f.type).map (·.size)).getD 0)).toArray, ?_, fun i => by simp⟩
  rw [Array.mapM_eq_mapM_toList, Sem.run_map, key g.toList h]
  rfl

theorem pureOp_ok (hT : TabOk P T) {o : Oper} {v : Value} (h : pureOp T F o.op = some v) (hF : Fr N F a) {ps : List Bool} (hc : cdl F o.op.operands.toList = some ps) (hp : allT ps) (w : World) : (execOp a.eval o).run P w = .ok (.value v) w := by
  obtain ⟨dst, op, tp, pos, after, guard⟩ := o
  simp only at h hc
  have ev : ∀ {x u}, x ∈ op.operands.toList → vl F x = some u → a.eval x = u := fun hx hu => hF.evals hc hp hx hu
  cases op with
  | move x => simp [execOp, ev (by simp [Op.operands]) h]
  | assign x => simp [execOp, ev (by simp [Op.operands]) h]
  | unOp op t x =>
    cases op with
    | not =>
      simp only [pureOp] at h
      split at h
      · rename_i b hb
        cases h
        simp [execOp, ev (by simp [Op.operands]) hb, Op.unary]
      · cases h
    | _ => simp [pureOp] at h
  | binOp bop t x y ty' =>
    simp only [pureOp] at h
    split at h
    · rename_i u1 u2 h1 h2
      have e1 := ev (by simp [Op.operands]) h1
      have e2 := ev (by simp [Op.operands]) h2
      have := binO_ok hT h x y w (P := P)
      simp only [execOp, e1, e2]
      simp only [Sem.run_bind] at this ⊢
      rw [this]
      simp
    · cases h
  | fieldAddr s x f =>
    simp only [pureOp] at h
    split at h
    · rename_i g0 off0 fs _ _ _ h1 h2
      have e1 := ev (by simp [Op.operands]) h1
      obtain ⟨g, hg, hfs⟩ := (hT s _ h2).kind
      split at h
      · rename_i ft off h3
        split at h
        · rename_i d hd
          cases hb : Nat.beq d.size 0 with
          | true => rw [hb] at h; cases h
          | false =>
            rw [hb] at h
            simp at h
            subst h
            rw [nth_eq, ← hfs, List.getElem?_map, Option.map_eq_some_iff] at h3
            obtain ⟨fd, hfd, he⟩ := h3
            cases he
            have hne := Nat.ne_of_beq_eq_false hb
            have hadd : (⟨g0, off0, none⟩ : Addr).add fd.offset = ⟨g0, off0 + fd.offset, none⟩ := by unfold Addr.add; split <;> simp_all
            simp [execOp, e1, Instr.fieldAt, run_underlying hg, show g[f]? = some fd by simpa using hfd, Instr.sureAddr, fieldPlace, (hT _ _ hd).sizeOf, hne, hadd]
        · cases h
      · cases h
    · cases h
  | field s x f =>
    simp only [pureOp] at h
    split at h
    · rename_i cs fs _ _ _ h1 h2
      have e1 := ev (by simp [Op.operands]) h1
      obtain ⟨g, hg, hfs⟩ := (hT s _ h2).kind
      split at h
      · rename_i ft off h3
        rw [nth_eq, ← hfs, List.getElem?_map, Option.map_eq_some_iff] at h3
        obtain ⟨fd, hfd, he⟩ := h3
        cases he
        have hpart := partO_ok hT h w (P := P)
        rw [show cs.toList.toArray = cs by simp] at hpart
        simp [execOp, e1, Instr.field, run_underlying hg, show g[f]? = some fd by simpa using hfd, asAgg, hpart]
      · cases h
    · cases h
  | build t parts =>
    simp only [pureOp] at h
    split at h
    · rename_i fs _ _ z h2
      obtain ⟨g, hg, hfs⟩ := (hT t _ h2).kind
      obtain ⟨zv, hz, hzc⟩ := (hT t _ h2).zeroValue w
      split at h
      · rename_i cs h0 h3
        cases h
        have hfl : ∀ (l : List (TypeId × Nat)), fldOk T l = true → ∀ q ∈ l, ∃ d, ty T q.1 = some d := by
          intro l
          induction l with
          | nil => intro _ q hq; cases hq
          | cons q0 r ih =>
            intro hl q hq
            obtain ⟨t0, o0⟩ := q0
            unfold fldOk at hl
            split at hl
            · rename_i d0 hd0
              rcases List.mem_cons.1 hq with rfl | hq
              · exact ⟨d0, hd0⟩
              · exact ih hl q hq
            · cases hl
        obtain ⟨pl, hpl, hpi⟩ := run_mapM_places (P := P) (g := g) w (fun f hf => by
          obtain ⟨d, hd⟩ := hfl fs h0 (f.type, f.offset) (by rw [← hfs]; exact List.mem_map.2 ⟨f, hf, rfl⟩)
          exact ⟨d.size, (hT _ _ hd).sizeOf w⟩)
        rw [← hfs] at h3
        have hc' : cdl F (parts.toList.map (·.2)) = some ps := by simpa [Op.operands] using hc
        have hfill := fillO_ok hT (P := P) (g := g) hF w hc' hp h3
        have hfun : (fun i : Nat => pl[i]?) = fun i : Nat => (g[i]?).map fun f : Field => (f.offset, ((P.info? f.type).map (·.size)).getD 0) := funext hpi
        simp only [execOp, Instr.build, Sem.run_bind, hz, Result.andThen_ok, run_underlying hg, hpl]
        rw [hfun, hzc, show (Array.map (fun (x : Nat × Operand) => (x.1, a.eval x.2)) parts).toList = parts.toList.map fun x => (x.1, a.eval x.2) by simp, hfill]
        rfl
      · cases h
    · cases h
  | extract x i =>
    simp only [pureOp] at h
    split at h
    · rename_i vs h1
      have e1 := ev (by simp [Op.operands]) h1
      rw [nth_eq] at h
      simp [execOp, e1, Instr.extract, show vs[i]? = some v by simpa using h]
    · cases h
  | nilCheck x =>
    simp only [pureOp] at h
    split at h
    · rename_i ad h1
      cases h
      have e1 := ev (by simp [Op.operands]) h1
      simp [execOp, e1]
    · cases h
  | convert src dst x =>
    simp only [pureOp] at h
    split at h
    · rename_i k _ _ _ k' n h1 h2
      have e1 := ev (by simp [Op.operands]) h2
      split at h
      · rename_i d hd
        cases h
        have hk := (hT _ _ h1).kind
        have hs : ∃ ds, P.underlying src = some ds := by
          have := (hT _ _ hd).kind
          unfold TyK.fits at this
          cases hkk : d.kind with
          | func => rw [hkk] at this; obtain ⟨x1, x2, x3, h⟩ := this; exact ⟨_, h⟩
          | struct fs => rw [hkk] at this; obtain ⟨x1, h, _⟩ := this; exact ⟨_, h⟩
          | _ => rw [hkk] at this; exact ⟨_, this⟩
        obtain ⟨ds, hds⟩ := hs
        simp [execOp, e1, convert, run_underlying hds, run_underlying hk, Conv.intToInt]
      · cases h
    · cases h
  | makeFunc fn first captured =>
    simp only [pureOp] at h
    split at h
    · rename_i f c h1 h2
      cases h
      have e0 : first.toList ++ captured.toList = (Op.makeFunc fn first captured).operands.toList := by simp [Op.operands]
      rw [← e0] at hc
      have split : ∀ (l r : List Operand) (ps : List Bool), cdl F (l ++ r) = some ps → ∃ p1 p2, cdl F l = some p1 ∧ cdl F r = some p2 ∧ ps = p1 ++ p2 := by
        intro l
        induction l with
        | nil => intro r ps h; exact ⟨[], ps, rfl, h, rfl⟩
        | cons x l ih =>
          intro r ps h
          obtain ⟨p, v, ps', g1, g2, rfl⟩ := cdl_cons (x := x) (r := l ++ r) h
          obtain ⟨p1, p2, k1, k2, rfl⟩ := ih r ps' g2
          exact ⟨p :: p1, p2, by simp [cdl, g1, k1], k2, rfl⟩
      obtain ⟨p1, p2, k1, k2, rfl⟩ := split _ _ _ hc
      have e1 := vals_ok hF k1 (fun q hq => hp q (by simp [hq])) h1
      have e2 := vals_ok hF k2 (fun q hq => hp q (by simp [hq])) h2
      have e1' : first.map a.eval = f.toArray := by apply Array.ext'; simpa using e1
      have e2' : captured.map a.eval = c.toArray := by apply Array.ext'; simpa using e2
      simp [execOp, Instr.makeFunc, e1', e2']
    · cases h
  | call c =>
    obtain ⟨callee, args, ts⟩ := c
    cases callee with
    | builtin b =>
      cases b with
      | len =>
        simp only [pureOp] at h
        split at h
        · rename_i x t hx ht
          have ex : args = #[x] := by apply Array.ext'; simpa using hx
          have et : ts = #[t] := by apply Array.ext'; simpa using ht
          subst ex et
          split at h
          · rename_i A n c _ _ _ _ h1 h2
            cases h
            have e1 := ev (by simp [Op.operands, Call.operands]) h1
            have hk := (hT t _ h2).kind
            simp [execOp, resolve, invoke, builtin, Builtin.len_, e1, run_underlying hk, goInt]
          · rename_i s _ _ _ h1 h2
            cases h
            have e1 := ev (by simp [Op.operands, Call.operands]) h1
            have hk := (hT t _ h2).kind
            simp [execOp, resolve, invoke, builtin, Builtin.len_, e1, run_underlying hk, goInt]
          · cases h
        · cases h
      | cap =>
        simp only [pureOp] at h
        split at h
        · rename_i x t hx ht
          have ex : args = #[x] := by apply Array.ext'; simpa using hx
          have et : ts = #[t] := by apply Array.ext'; simpa using ht
          subst ex et
          split at h
          · rename_i A n c _ _ _ _ h1 h2
            cases h
            have e1 := ev (by simp [Op.operands, Call.operands]) h1
            have hk := (hT t _ h2).kind
            simp [execOp, resolve, invoke, builtin, Builtin.cap_, e1, run_underlying hk, goInt]
          · cases h
        · cases h
      | max =>
        simp only [pureOp] at h
        split at h
        · rename_i x y hx
          have ex : args = #[x, y] := by apply Array.ext'; simpa using hx
          subst ex
          split at h
          · rename_i m n h1 h2
            cases h
            have e1 := ev (by simp [Op.operands, Call.operands]) h1
            have e2 := ev (by simp [Op.operands, Call.operands]) h2
            simp [execOp, resolve, invoke, builtin, Builtin.max_, Builtin.max2, e1, e2]
          · cases h
        · cases h
      | min =>
        simp only [pureOp] at h
        split at h
        · rename_i x y hx
          have ex : args = #[x, y] := by apply Array.ext'; simpa using hx
          subst ex
          split at h
          · rename_i m n h1 h2
            cases h
            have e1 := ev (by simp [Op.operands, Call.operands]) h1
            have e2 := ev (by simp [Op.operands, Call.operands]) h2
            simp [execOp, resolve, invoke, builtin, Builtin.min_, Builtin.min2, e1, e2]
          · cases h
        · cases h
      | _ => simp [pureOp] at h
    | _ => simp [pureOp] at h
  | _ => simp [pureOp] at h
end
end Go.Proofs.Ytkgjfcjciigcgaa.Sl
