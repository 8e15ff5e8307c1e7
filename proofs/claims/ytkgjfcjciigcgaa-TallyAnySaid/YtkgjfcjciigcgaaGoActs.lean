/-
  Changes that come in.
-/
import Derived.Test.YtkgjfcjciigcgaaGoChg
namespace Go.Proofs.Ytkgjfcjciigcgaa
open Go.Proofs.Ytkgjfcjciigcgaa.Sl Go.RowKit
set_option linter.unusedVariables false
set_option linter.unusedSimpArgs false
set_option maxRecDepth 100000

theorem rdChgT {t : TypeId} (ht : ty tab t = some ⟨.struct [(38, 0), (3, 3)], 4, 32, [.int .i64 0, .int .i64 0, .int .i64 0, .int .i64 0]⟩) {W : World} {n : Nat} {cs : List Value} (h : Rd tab W n t cs) : ∃ s : Chg, cs = s.l ∧ s.s.Ok ∧ In64 s.n := by
  obtain ⟨m, rfl, hl, hf⟩ := rd_st (fs := [(38, 0), (3, 3)]) h ht
  obtain ⟨a, b, c, d, rfl⟩ : ∃ a b c d, cs = [a, b, c, d] := by
    match cs, hl with
    | [a, b, c, d], _ => exact ⟨a, b, c, d, rfl⟩
  obtain ⟨x, h1, ox⟩ := rdStamp (hf (38, 0) (by simp) rfl)
  obtain ⟨y, h2, oy⟩ := rd_i64 (hf (3, 3) (by simp) rfl) rfl
  have h1' : [a, b, c] = x.l := h1
  have h2' : [d] = [.int .i64 y] := h2
  exact ⟨⟨x, y⟩, by show [a, b, c] ++ [d] = _; rw [h1', h2']; rfl, ox, oy⟩
theorem rdAct {W : World} {n : Nat} {cs : List Value} (h : Rd tab W n 95 cs) : ∃ s : Chg, cs = s.l ∧ s.s.Ok ∧ In64 s.n := rdChgT rfl h
theorem rdChange {W : World} {n : Nat} {cs : List Value} (h : Rd tab W n 82 cs) : ∃ s : Chg, cs = s.l ∧ s.s.Ok ∧ In64 s.n := rdChgT rfl h
end Go.Proofs.Ytkgjfcjciigcgaa
