/-
  Cells and stamps as a map's keys.
-/
import Derived.Test.YtkgjfcjciigcgaaGoCell
import Derived.Test.YtkgjfcjciigcgaaSlMap
namespace Go.Proofs.Ytkgjfcjciigcgaa
open Go.Proofs.Ytkgjfcjciigcgaa.Sl Go.RowKit
set_option linter.unusedVariables false
set_option linter.unusedSimpArgs false
set_option maxRecDepth 100000

def kCell (c : Cell) : Value := .agg c.l.toArray
def kStamp (s : Stamp) : Value := .agg s.l.toArray
theorem ckCell (e : Bool) (a : Cell) (n : Nat) (w : World) : (Instr.checkKey e (n + 2) 25 (kCell a)).run Try.prog w = .ok () w := by
  have p0 := fun w => partO_ok (P := Try.prog) tab_ok (t := 9) (cs := a.l) (off := 0) (v := .string a.sheet) rfl w
  have p1 := fun w => partO_ok (P := Try.prog) tab_ok (t := 3) (cs := a.l) (off := 1) (v := .int .i64 a.col) rfl w
  have p2 := fun w => partO_ok (P := Try.prog) tab_ok (t := 3) (cs := a.l) (off := 2) (v := .int .i64 a.row) rfl w
  unfold Instr.checkKey kCell
  simp [run_underlying Try.underlying25, p0, p1, p2, Instr.checkKey, run_underlying Try.underlying3, run_underlying Try.underlying9]
theorem sbCell (a : Cell) (n : Nat) : Instr.sameBits (n + 2) (kCell a) (kCell a) = true := by
  have h : (a.sheet == a.sheet) = true := by rw [beq_toListBytes, bytes_beq]; simp
  simp [Instr.sameBits, kCell, Cell.l, h]
theorem key_cell : KeyLaw Try.prog 25 kCell where
  und := ⟨_, Try.underlying25⟩
  eq a b w := by
    have h := eqV_ok tab_ok eqs_ok 4 Op.maxDepth (by decide) 25 (kCell a) (kCell b) _ rfl w
    simp only [bytes_beq, cell_beq] at h
    exact h
  check e a w := ckCell e a 9998 w
  bits a := sbCell a 9998
theorem ckStamp (e : Bool) (a : Stamp) (n : Nat) (w : World) : (Instr.checkKey e (n + 2) 38 (kStamp a)).run Try.prog w = .ok () w := by
  have p0 := fun w => partO_ok (P := Try.prog) tab_ok (t := 3) (cs := a.l) (off := 0) (v := .int .i64 a.epoch) rfl w
  have p1 := fun w => partO_ok (P := Try.prog) tab_ok (t := 3) (cs := a.l) (off := 1) (v := .int .i64 a.rank) rfl w
  have p2 := fun w => partO_ok (P := Try.prog) tab_ok (t := 3) (cs := a.l) (off := 2) (v := .int .i64 a.round) rfl w
  unfold Instr.checkKey kStamp
  simp [run_underlying Try.underlying38, p0, p1, p2, Instr.checkKey, run_underlying Try.underlying3]
theorem sbStamp (a : Stamp) (n : Nat) : Instr.sameBits (n + 2) (kStamp a) (kStamp a) = true := by
  simp [Instr.sameBits, kStamp, Stamp.l]
theorem key_stamp : KeyLaw Try.prog 38 kStamp where
  und := ⟨_, Try.underlying38⟩
  eq a b w := by
    have h := eqV_ok tab_ok eqs_ok 4 Op.maxDepth (by decide) 38 (kStamp a) (kStamp b) _ rfl w
    simp only [stamp_beq] at h
    exact h
  check e a w := ckStamp e a 9998 w
  bits a := sbStamp a 9998
end Go.Proofs.Ytkgjfcjciigcgaa
