/-
  The program's plain types as structures, and that an argument of such a type reads as one.
-/
import Derived.Test.YtkgjfcjciigcgaaBase
import Derived.Test.YtkgjfcjciigcgaaSlRead
import Derived.Test.YtkgjfcjciigcgaaSlSlice
namespace Go.Proofs.Ytkgjfcjciigcgaa
open Go.Proofs.Ytkgjfcjciigcgaa.Sl Go.RowKit
set_option linter.unusedVariables false

def In64 (n : Int) : Prop := -9223372036854775808 ≤ n ∧ n ≤ 9223372036854775807

structure Stamp where
  epoch : Int
  rank : Int
  round : Int
  deriving DecidableEq, Inhabited
def Stamp.l (s : Stamp) : List Value := [.int .i64 s.epoch, .int .i64 s.rank, .int .i64 s.round]
def Stamp.Ok (s : Stamp) : Prop := In64 s.epoch ∧ In64 s.rank ∧ In64 s.round

structure Cell where
  sheet : ByteArray
  col : Int
  row : Int
  deriving DecidableEq, Inhabited
def Cell.l (c : Cell) : List Value := [.string c.sheet, .int .i64 c.col, .int .i64 c.row]
def Cell.Ok (c : Cell) : Prop := c.sheet.size ≤ 9223372036854775807 ∧ In64 c.col ∧ In64 c.row

structure Val where
  kind : Int
  n : Int
  s : ByteArray
  deriving DecidableEq, Inhabited
def Val.l (v : Val) : List Value := [.int .i64 v.kind, .int .i64 v.n, .string v.s]
def Val.Ok (v : Val) : Prop := In64 v.kind ∧ In64 v.n ∧ v.s.size ≤ 9223372036854775807

section
variable {W : World} {n : Nat} {cs : List Value}
theorem one_of {x : Value} {l : List Value} (h : [x] = l) : l = [x] := h.symm
theorem rdStamp (h : Rd tab W n 38 cs) : ∃ s : Stamp, cs = s.l ∧ s.Ok := by
  obtain ⟨m, rfl, hl, hf⟩ := rd_st (fs := [(3, 0), (3, 1), (3, 2)]) h rfl
  obtain ⟨a, b, c, rfl⟩ : ∃ a b c, cs = [a, b, c] := by
    match cs, hl with
    | [a, b, c], _ => exact ⟨a, b, c, rfl⟩
  obtain ⟨x, h1, ox⟩ := rd_i64 (hf (3, 0) (by simp) rfl) rfl
  obtain ⟨y, h2, oy⟩ := rd_i64 (hf (3, 1) (by simp) rfl) rfl
  obtain ⟨z, h3, oz⟩ := rd_i64 (hf (3, 2) (by simp) rfl) rfl
  cases (show [a] = _ from h1)
  cases (show [b] = _ from h2)
  cases (show [c] = _ from h3)
  exact ⟨⟨x, y, z⟩, rfl, ox, oy, oz⟩
theorem rdCell (h : Rd tab W n 25 cs) : ∃ s : Cell, cs = s.l ∧ s.Ok := by
  obtain ⟨m, rfl, hl, hf⟩ := rd_st (fs := [(9, 0), (3, 1), (3, 2)]) h rfl
  obtain ⟨a, b, c, rfl⟩ : ∃ a b c, cs = [a, b, c] := by
    match cs, hl with
    | [a, b, c], _ => exact ⟨a, b, c, rfl⟩
  obtain ⟨x, h1, ox⟩ := rd_s (hf (9, 0) (by simp) rfl) rfl
  obtain ⟨y, h2, oy⟩ := rd_i64 (hf (3, 1) (by simp) rfl) rfl
  obtain ⟨z, h3, oz⟩ := rd_i64 (hf (3, 2) (by simp) rfl) rfl
  cases (show [a] = _ from h1)
  cases (show [b] = _ from h2)
  cases (show [c] = _ from h3)
  exact ⟨⟨x, y, z⟩, rfl, ox, oy, oz⟩
theorem rdVal (h : Rd tab W n 23 cs) : ∃ s : Val, cs = s.l ∧ s.Ok := by
  obtain ⟨m, rfl, hl, hf⟩ := rd_st (fs := [(3, 0), (3, 1), (9, 2)]) h rfl
  obtain ⟨a, b, c, rfl⟩ : ∃ a b c, cs = [a, b, c] := by
    match cs, hl with
    | [a, b, c], _ => exact ⟨a, b, c, rfl⟩
  obtain ⟨x, h1, ox⟩ := rd_i64 (hf (3, 0) (by simp) rfl) rfl
  obtain ⟨y, h2, oy⟩ := rd_i64 (hf (3, 1) (by simp) rfl) rfl
  obtain ⟨z, h3, oz⟩ := rd_s (hf (9, 2) (by simp) rfl) rfl
  cases (show [a] = _ from h1)
  cases (show [b] = _ from h2)
  cases (show [c] = _ from h3)
  exact ⟨⟨x, y, z⟩, rfl, ox, oy, oz⟩
theorem rdBools (h : Rd tab W n 41 cs) : ∃ (p : Option Addr) (len cap : Nat) (xs : List Bool), cs = [.slice p len cap] ∧ len ≤ cap ∧ cap ≤ 9223372036854775807 ∧ xs.length = len ∧ SlA W 1 p len (fun i => [.bool (xs.getD i default)]) := by
  obtain ⟨m, p, len, cap, el, hn, h1, h2, h3, _, h5, h6⟩ := rd_slA h rfl rfl (by decide)
  obtain ⟨xs, g1, g2, _⟩ := h5.pick (f := fun b => [.bool b]) (R := fun _ => True) fun i hi => by
    obtain ⟨x, hx⟩ := rd_b (h6 i hi) rfl
    exact ⟨x, hx, trivial⟩
  exact ⟨p, len, cap, xs, h1, h2, h3, g1, g2⟩
end
end Go.Proofs.Ytkgjfcjciigcgaa
