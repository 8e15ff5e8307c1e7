/-
  '==' and '!=' of structs of whole numbers, bools, strings and such structs. No program in sight.
-/
import Derived.Test.YtkgjfcjciigcgaaSlPlan
import Derived.Laws.StructEq
namespace Go.Proofs.Ytkgjfcjciigcgaa.Sl
open Go.RowKit
set_option linter.unusedVariables false

/-- A struct type whose values may be held against each other: each field counts, no interface in it. -/
structure SOk (P : Program) (t : TypeId) (fs : List (TypeId × Nat)) : Prop where
  und : ∃ g : Array Field, P.underlying t = some (.struct g) ∧ g.toList.map (fun f => (f.type, f.offset)) = fs ∧ g.toList.all (fun f => f.name != "_") = true
  held : P.stoodInHeld t = false
  guard : P.eqGuardType P.depth t = false
def EqOk (P : Program) (T : Tab) (E : List TypeId) : Prop := ∀ t fs a b z, E.contains t = true → ty T t = some ⟨.struct fs, a, b, z⟩ → SOk P t fs

def eqF (T : Tab) (rec : TypeId → Value → Value → Option Bool) : List (TypeId × Nat) → List Value → List Value → Option Bool
  | [], _, _ => some true
  | (t, off) :: r, xs, ys => match partO T t xs off, partO T t ys off with
    | some x, some y => match r with
      | [] => rec t x y
      | _ :: _ => match rec t x y, eqF T rec r xs ys with
        | some a, some b => some (a && b)
        | _, _ => none
    | _, _ => none
def eqV (T : Tab) (E : List TypeId) : Nat → TypeId → Value → Value → Option Bool
  | 0, _, _, _ => none
  | d + 1, t, x, y => match ty T t with
    | some ⟨.int _, _, _, _⟩ => match x, y with
      | .int k a, .int k' b => bif kEq k k' then some (a == b) else none
      | _, _ => none
    | some ⟨.bool, _, _, _⟩ => match x, y with
      | .bool a, .bool b => some (a == b)
      | _, _ => none
    | some ⟨.string, _, _, _⟩ => match x, y with
      | .string a, .string b => some (a.toList == b.toList)
      | _, _ => none
    | some ⟨.struct fs, _, _, _⟩ => match E.contains t, x, y with
      | true, .agg xs, .agg ys => eqF T (eqV T E d) fs xs.toList ys.toList
      | _, _, _ => none
    | _ => none

section
variable {P : Program} {T : Tab} {E : List TypeId}

theorem eqF_cons_run {d : Nat} {xs ys : Array Value} {f : Field} {fs : List Field} {x y : Value} {r s : Bool} {w : World} (hn : (f.name != "_") = true) (ha : (part f.type xs f.offset).run P w = .ok x w) (hb : (part f.type ys f.offset).run P w = .ok y w)
    (he : (Op.equalIn d f.type x y).run P w = .ok r w) (hr : (Op.eqFields d xs ys fs).run P w = .ok s w) : (Op.eqFields d xs ys (f :: fs)).run P w = .ok (r && s) w := by
  have hn' : f.name ≠ "_" := by simpa using hn
  rw [Op.eqFields]
  simp only [if_pos hn', Sem.run_bind, ha, hb, he, Result.andThen_ok]
  cases r
  · simp
  · simpa using hr

theorem eqV_ok (hT : TabOk P T) (hE : EqOk P T E) : ∀ (d : Nat) (m : Nat), d ≤ m → ∀ (t : TypeId) (x y : Value) (b : Bool), eqV T E d t x y = some b → ∀ w, (Op.equalIn m t x y).run P w = .ok b w := by
  intro d
  induction d with
  | zero => intro m _ t x y b h; simp [eqV] at h
  | succ d ih =>
    intro m hm t x y b h w
    obtain ⟨m, rfl⟩ : ∃ k, m = k + 1 := ⟨m - 1, by omega⟩
    unfold eqV at h
    split at h
    · rename_i k s bs z hd
      have hk := (hT t _ hd).kind
      split at h
      · rename_i k1 a k2 b'
        cases hq : kEq k1 k2 with
        | false => rw [hq] at h; cases h
        | true =>
          rw [hq] at h
          obtain rfl := kEq_eq hq
          cases h
          simp [Op.equalIn, run_underlying hk]
      · cases h
    · rename_i s bs z hd
      have hk := (hT t _ hd).kind
      split at h
      · cases h; simp [Op.equalIn, run_underlying hk]
      · cases h
    · rename_i s bs z hd
      have hk := (hT t _ hd).kind
      split at h
      · cases h; simp [Op.equalIn, run_underlying hk, beq_toListBytes]
      · cases h
    · rename_i fs s bs z hd
      split at h
      · rename_i xs ys hc
        obtain ⟨⟨g, hg, hfs, hnm⟩, hheld, _⟩ := hE t fs s bs z hc hd
        have hf : P.fieldsOf t = g := by simp [Program.fieldsOf, hg]
        rw [run_equalIn_struct (P := P) w m t xs ys (by rw [hf]; exact hg) hheld, hf]
        clear hf hd hg hc
        rw [← hfs] at h
        clear hfs
        have key : ∀ (l : List Field), l.all (fun f => f.name != "_") = true → ∀ b, eqF T (eqV T E d) (l.map fun f => (f.type, f.offset)) xs.toList ys.toList = some b → (Op.eqFields m xs ys l).run P w = .ok b w := by
          intro l
          induction l with
          | nil => intro _ b h; simp [eqF] at h; subst h; simp [Op.eqFields]
          | cons f r ihr =>
            intro hl b h
            simp only [List.all_cons, Bool.and_eq_true] at hl
            cases r with
            | nil =>
              simp only [List.map_cons, List.map_nil, eqF] at h
              split at h
              · rename_i x' y' h1 h2
                have p1 := partO_ok hT h1 w (P := P)
                have p2 := partO_ok hT h2 w (P := P)
                have e := eqF_cons_run (fs := []) (s := true) hl.1 (by simpa using p1) (by simpa using p2) (ih m (by omega) _ _ _ _ h w) (by simp [Op.eqFields])
                simpa using e
              · cases h
            | cons f' r' =>
              rw [List.map_cons] at h
              unfold eqF at h
              split at h
              · rename_i x' y' h1 h2
                have p1 := partO_ok hT h1 w (P := P)
                have p2 := partO_ok hT h2 w (P := P)
                have h : (match eqV T E d f.type x' y', eqF T (eqV T E d) ((f' :: r').map fun f => (f.type, f.offset)) xs.toList ys.toList with
                  | some a, some b => some (a && b)
                  | _, _ => none) = some b := h
                split at h
                · rename_i a b' h3 h4
                  cases h
                  exact eqF_cons_run hl.1 (by simpa using p1) (by simpa using p2) (ih m (by omega) _ _ _ _ h3 w) (ihr hl.2 _ h4)
                · cases h
              · cases h
        exact key g.toList hnm b h
      · cases h
    · cases h

variable {C : World → Prop} {l : List Oper} {N : Nat} {F : Fl} {o : Oper} {q : Bool}

theorem run_eqS (hT : TabOk P T) (hE : EqOk P T E) {t : TypeId} {xs ys : Array Value} {b : Bool} {fs : List (TypeId × Nat)} {s bs : Nat} {z : List Value} (ht : ty T t = some ⟨.struct fs, s, bs, z⟩) (hc : E.contains t = true) (h : eqV T E 4 t (.agg xs) (.agg ys) = some b) (x' y' : Operand) (w : World) :
    (do eqGuard .eql t x' y' (.agg xs) (.agg ys); binOp .eql t (.agg xs) (.agg ys) : Sem Value).run P w = .ok (.bool b) w ∧ (do eqGuard .neq t x' y' (.agg xs) (.agg ys); binOp .neq t (.agg xs) (.agg ys) : Sem Value).run P w = .ok (.bool !b) w := by
  have hg := (hE t fs s bs z hc ht).guard
  have he : (Op.equal t (.agg xs) (.agg ys)).run P w = .ok b w := eqV_ok hT hE 4 Op.maxDepth (by decide) t _ _ _ h w
  constructor <;> simp [eqGuard, program, Sem.run, hg, binOp, he]

theorem yv_eqS (hT : TabOk P T) (hE : EqOk P T E) {t t' : TypeId} {x y : Operand} {xs ys : Array Value} {b : Bool} {ps : List Bool} {fs : List (TypeId × Nat)} {s bs : Nat} {z : List Value} (hg : Gok l F o q) (ho : o.op = .binOp .eql t x y t') (hx : vl F x = some (.agg xs)) (hy : vl F y = some (.agg ys)) (hc : cdl F [x, y] = some ps) (hp : q = true → allT ps)
    (ht : ty T t = some ⟨.struct fs, s, bs, z⟩) (hm : E.contains t = true) (h : eqV T E 4 t (.agg xs) (.agg ys) = some b) : Yv P C l N F o q (.bool b) :=
  yv_value hg fun a hF hq w _ => by
    have e1 := hF.evals hc (hp hq) (x := x) (by simp) hx
    have e2 := hF.evals hc (hp hq) (x := y) (by simp) hy
    obtain ⟨dst, op, tp, pos, after, guard⟩ := o
    subst ho
    have := (run_eqS hT hE ht hm h x y w).1
    simp only [execOp, e1, e2]
    simp only [Sem.run_bind] at this ⊢
    rw [this]
    simp
theorem yv_neS (hT : TabOk P T) (hE : EqOk P T E) {t t' : TypeId} {x y : Operand} {xs ys : Array Value} {b : Bool} {ps : List Bool} {fs : List (TypeId × Nat)} {s bs : Nat} {z : List Value} (hg : Gok l F o q) (ho : o.op = .binOp .neq t x y t') (hx : vl F x = some (.agg xs)) (hy : vl F y = some (.agg ys)) (hc : cdl F [x, y] = some ps) (hp : q = true → allT ps)
    (ht : ty T t = some ⟨.struct fs, s, bs, z⟩) (hm : E.contains t = true) (h : eqV T E 4 t (.agg xs) (.agg ys) = some b) : Yv P C l N F o q (.bool (!b)) :=
  yv_value hg fun a hF hq w _ => by
    have e1 := hF.evals hc (hp hq) (x := x) (by simp) hx
    have e2 := hF.evals hc (hp hq) (x := y) (by simp) hy
    obtain ⟨dst, op, tp, pos, after, guard⟩ := o
    subst ho
    have := (run_eqS hT hE ht hm h x y w).2
    simp only [execOp, e1, e2]
    simp only [Sem.run_bind] at this ⊢
    rw [this]
    simp
end

section
variable {P : Program} {N : Nat} {F : Fl} {l rest : List Oper} {Q : Exit → Act → World → Prop} {w0 : World} {M : List Nat} {K : Kl} {ds : Option Tmp} {tp t t' : TypeId} {ps : String} {af : Array Edge} {gd : Option (Nat × Bool)} {x y : Operand}
theorem gl_eqS (h : GL P l Q (⟨ds, .binOp .eql t x y t', tp, ps, af, gd⟩ :: rest) N w0 M F K) : GL P l Q (⟨ds, .binOp .eql t x y t', tp, ps, af, gd⟩ :: rest) N w0 M F K := h
theorem gq_eqS (h : GQ P l Q (⟨ds, .binOp .eql t x y t', tp, ps, af, gd⟩ :: rest) N w0 M F K) : GQ P l Q (⟨ds, .binOp .eql t x y t', tp, ps, af, gd⟩ :: rest) N w0 M F K := h
theorem gl_neS (h : GL P l Q (⟨ds, .binOp .neq t x y t', tp, ps, af, gd⟩ :: rest) N w0 M F K) : GL P l Q (⟨ds, .binOp .neq t x y t', tp, ps, af, gd⟩ :: rest) N w0 M F K := h
theorem gq_neS (h : GQ P l Q (⟨ds, .binOp .neq t x y t', tp, ps, af, gd⟩ :: rest) N w0 M F K) : GQ P l Q (⟨ds, .binOp .neq t x y t', tp, ps, af, gd⟩ :: rest) N w0 M F K := h
end
end Go.Proofs.Ytkgjfcjciigcgaa.Sl
