/-
  The program's plain types as structures, and that an argument of such a type reads as one.
-/
import Derived.Test.YtkgjfcjciigcgaaBase
import Derived.Test.YtkgjfcjciigcgaaSlRead
import Derived.Test.YtkgjfcjciigcgaaSlBase
namespace Go.Proofs.Ytkgjfcjciigcgaa
open Go.Proofs.Ytkgjfcjciigcgaa.Sl Go.RowKit
set_option linter.unusedVariables false

def In64 (n : Int) : Prop := -9223372036854775808 ≤ n ∧ n ≤ 9223372036854775807

structure Stamp where
  epoch : Int
  rank : Int
  round : Int
  deriving DecidableEq, Inhabited
def Stamp.l (s : Stamp) : List Value := [.int .i64 s.epoch, .int .i64 s.rank, .int .i64 s.round]
def Stamp.Ok (s : Stamp) : Prop := In64 s.epoch ∧ In64 s.rank ∧ In64 s.round

structure Cell where
  sheet : ByteArray
  col : Int
  row : Int
  deriving DecidableEq, Inhabited
def Cell.l (c : Cell) : List Value := [.string c.sheet, .int .i64 c.col, .int .i64 c.row]
def Cell.Ok (c : Cell) : Prop := c.sheet.size ≤ 140737488351232 ∧ In64 c.col ∧ In64 c.row

structure Val where
  kind : Int
  n : Int
  s : ByteArray
  deriving DecidableEq, Inhabited
def Val.l (v : Val) : List Value := [.int .i64 v.kind, .int .i64 v.n, .string v.s]
def Val.Ok (v : Val) : Prop := In64 v.kind ∧ In64 v.n ∧ v.s.size ≤ 140737488351232

theorem bytes_beq (a b : ByteArray) : (a.toList == b.toList) = decide (a = b) := by
  rw [Bool.eq_iff_iff, beq_iff_eq, ByteArray.toList_eq, ByteArray.toList_eq, decide_eq_true_eq]
  exact ⟨fun h => ByteArray.ext (Array.toList_inj.mp h), fun h => by rw [h]⟩
theorem cell_beq (a b : Cell) : (decide (a.sheet = b.sheet) && (a.col == b.col && a.row == b.row)) = decide (a = b) := by
  rw [Bool.eq_iff_iff]
  obtain ⟨x, y, z⟩ := a
  obtain ⟨x', y', z'⟩ := b
  simp
theorem val_beq (a b : Val) : (a.kind == b.kind && (a.n == b.n && decide (a.s = b.s))) = decide (a = b) := by
  rw [Bool.eq_iff_iff]
  obtain ⟨x, y, z⟩ := a
  obtain ⟨x', y', z'⟩ := b
  simp
theorem stamp_beq (a b : Stamp) : (a.epoch == b.epoch && (a.rank == b.rank && a.round == b.round)) = decide (a = b) := by
  rw [Bool.eq_iff_iff]
  obtain ⟨x, y, z⟩ := a
  obtain ⟨x', y', z'⟩ := b
  simp
section
variable {α : Type} [Inhabited α]
theorem getD_mem (l : List α) (i : Nat) (h : i < l.length) : l.getD i default ∈ l := by
  rw [show l.getD i default = l[i] by simp [List.getD, h]]; exact List.getElem_mem _
theorem take_succD (l : List α) (i : Nat) (h : i < l.length) : l.take (i + 1) = l.take i ++ [l.getD i default] := by
  rw [List.take_succ_eq_append_getElem h]; simp [List.getD, h]
theorem take_same {l m : List α} {i : Nat} (h1 : i < l.length) (h2 : i < m.length) (ht : l.take i = m.take i) (he : l.getD i default = m.getD i default) : l.take (i + 1) = m.take (i + 1) := by
  rw [take_succD l i h1, take_succD m i h2, ht, he]
theorem drop_consD (l : List α) (i : Nat) (h : i < l.length) : l.drop i = l.getD i default :: l.drop (i + 1) := by
  rw [List.drop_eq_getElem_cons h]; simp [List.getD, h]
theorem getD_get (l : List α) (i : Nat) (h : i < l.length) : l.getD i default = l[i] := by simp [List.getD, h]
end

theorem c_oa {P : Prop} (h : P := by first | exact Oa.hd | exact Oa.self | exact Oa.one | exact Oa.nil | (repeat first | exact Oa.hd | exact Oa.self | exact Oa.one | exact Oa.nil | apply Oa.tl | apply Oa.app)) : P := h
theorem c_src {P : Prop} (h : P := by first | exact src_one tab_ok rfl c_mem rfl c_ones | exact src_str tab_ok rfl | exact src_nil tab_ok rfl) : P := h
section
variable {W : World} {n : Nat} {cs : List Value}
theorem one_of {x : Value} {l : List Value} (h : [x] = l) : l = [x] := h.symm
theorem rdStamp (h : Rd tab W n 38 cs) : ∃ s : Stamp, cs = s.l ∧ s.Ok := by
  obtain ⟨m, rfl, hl, hf⟩ := rd_st (fs := [(3, 0), (3, 1), (3, 2)]) h rfl
  obtain ⟨a, b, c, rfl⟩ : ∃ a b c, cs = [a, b, c] := by
    match cs, hl with
    | [a, b, c], _ => exact ⟨a, b, c, rfl⟩
  obtain ⟨x, h1, ox⟩ := rd_i64 (hf (3, 0) (by simp) rfl) rfl
  obtain ⟨y, h2, oy⟩ := rd_i64 (hf (3, 1) (by simp) rfl) rfl
  obtain ⟨z, h3, oz⟩ := rd_i64 (hf (3, 2) (by simp) rfl) rfl
  cases (show [a] = _ from h1)
  cases (show [b] = _ from h2)
  cases (show [c] = _ from h3)
  exact ⟨⟨x, y, z⟩, rfl, ox, oy, oz⟩
theorem rdCell (h : Rd tab W n 25 cs) : ∃ s : Cell, cs = s.l ∧ s.Ok := by
  obtain ⟨m, rfl, hl, hf⟩ := rd_st (fs := [(9, 0), (3, 1), (3, 2)]) h rfl
  obtain ⟨a, b, c, rfl⟩ : ∃ a b c, cs = [a, b, c] := by
    match cs, hl with
    | [a, b, c], _ => exact ⟨a, b, c, rfl⟩
  obtain ⟨x, h1, ox⟩ := rd_s (hf (9, 0) (by simp) rfl) rfl
  obtain ⟨y, h2, oy⟩ := rd_i64 (hf (3, 1) (by simp) rfl) rfl
  obtain ⟨z, h3, oz⟩ := rd_i64 (hf (3, 2) (by simp) rfl) rfl
  cases (show [a] = _ from h1)
  cases (show [b] = _ from h2)
  cases (show [c] = _ from h3)
  exact ⟨⟨x, y, z⟩, rfl, ox, oy, oz⟩
theorem rdVal (h : Rd tab W n 23 cs) : ∃ s : Val, cs = s.l ∧ s.Ok := by
  obtain ⟨m, rfl, hl, hf⟩ := rd_st (fs := [(3, 0), (3, 1), (9, 2)]) h rfl
  obtain ⟨a, b, c, rfl⟩ : ∃ a b c, cs = [a, b, c] := by
    match cs, hl with
    | [a, b, c], _ => exact ⟨a, b, c, rfl⟩
  obtain ⟨x, h1, ox⟩ := rd_i64 (hf (3, 0) (by simp) rfl) rfl
  obtain ⟨y, h2, oy⟩ := rd_i64 (hf (3, 1) (by simp) rfl) rfl
  obtain ⟨z, h3, oz⟩ := rd_s (hf (9, 2) (by simp) rfl) rfl
  cases (show [a] = _ from h1)
  cases (show [b] = _ from h2)
  cases (show [c] = _ from h3)
  exact ⟨⟨x, y, z⟩, rfl, ox, oy, oz⟩
theorem rdBools (h : Rd tab W n 41 cs) : ∃ (p : Option Addr) (len cap : Nat) (xs : List Bool), cs = [.slice p len cap] ∧ len ≤ cap ∧ cap ≤ 9223372036854775807 ∧ xs.length = len ∧ SlA W 1 p len (fun i => [.bool (xs.getD i default)]) := by
  obtain ⟨m, p, len, cap, el, hn, h1, h2, h3, _, h5, h6⟩ := rd_slA h rfl rfl (by decide)
  obtain ⟨xs, g1, g2, _⟩ := h5.pick (f := fun b => [.bool b]) (R := fun _ => True) fun i hi => by
    obtain ⟨x, hx⟩ := rd_b (h6 i hi) rfl
    exact ⟨x, hx, trivial⟩
  exact ⟨p, len, cap, xs, h1, h2, h3, g1, g2⟩
/-- A slice of plain elements. -/
theorem rdFlat {α : Type} [Inhabited α] {f : α → List Value} {R : α → Prop} {t e : TypeId} {s b : Nat} {z : List Value} {d : TyD} (h : Rd tab W n t cs) (ht : ty tab t = some ⟨.slice e, s, b, z⟩) (he : ty tab e = some d) (hd : 0 < d.size) (hr : ∀ m cs, Rd tab W m e cs → ∃ x, cs = f x ∧ R x) :
    ∃ (p : Option Addr) (len cap : Nat) (xs : List α), cs = [.slice p len cap] ∧ len = xs.length ∧ len ≤ cap ∧ cap ≤ 9223372036854775807 ∧ SlA W d.size p len (fun i => f (xs.getD i default)) ∧ ∀ x ∈ xs, R x := by
  obtain ⟨m, p, len, cap, el, hn, h1, h2, h3, _, h5, h6⟩ := rd_slA h ht he hd
  obtain ⟨xs, g1, g2, g3⟩ := h5.pick (f := f) (R := R) fun i hi => hr m _ (h6 i hi)
  exact ⟨p, len, cap, xs, h1, g1.symm, h2, h3, g2, g3⟩
theorem rdCells (h : Rd tab W n 44 cs) : ∃ (p : Option Addr) (len cap : Nat) (xs : List Cell), cs = [.slice p len cap] ∧ len = xs.length ∧ len ≤ cap ∧ cap ≤ 9223372036854775807 ∧ SlA W 3 p len (fun i => (xs.getD i default).l) ∧ ∀ x ∈ xs, x.Ok :=
  rdFlat h rfl rfl (by decide) fun _ _ h => rdCell h
end
end Go.Proofs.Ytkgjfcjciigcgaa
