/-
  SessionKeeps: the law.
-/
import Derived.Test.YtkgjfcjciigcgaaGoSesK
namespace Go.Proofs.Ytkgjfcjciigcgaa
open Go.Proofs.Ytkgjfcjciigcgaa.Sl Go.RowKit
set_option linter.unusedVariables false
set_option linter.unusedSimpArgs false
set_option maxRecDepth 100000

theorem law_SessionKeeps (W : World) {b0 b1 b2 b3 : Nat} {v0 v1 v2 v3 : Value} (o0 : Value.okWide Try.prog W .any b0 55 v0) (o1 : Value.okWide Try.prog W .any b1 109 v1) (o2 : Value.okWide Try.prog W .any b2 83 v2) (o3 : Value.okWide Try.prog W .any b3 41 v3)
    (r0 : ∃ m, Rd tab W m 55 v0.cells.toList) (r1 : ∃ m, Rd tab W m 109 v1.cells.toList) (r2 : ∃ m, Rd tab W m 83 v2.cells.toList) (r3 : ∃ m, Rd tab W m 41 v3.cells.toList) : Calls Try.prog 26 #[v0, v1, v2, v3] W fun e w' => e = .returned (.bool true) ∧ Bl W w' := by
  obtain ⟨cs, rfl⟩ := arg_struct tab_ok (t := 55) rfl o0
  rw [arg_one tab_ok (t := 109) rfl rfl o1] at r1
  rw [arg_one tab_ok (t := 83) rfl rfl o2] at r2
  rw [arg_one tab_ok (t := 41) rfl rfl o3] at r3
  obtain ⟨m0, r0⟩ := r0
  obtain ⟨m1, r1⟩ := r1
  obtain ⟨m2, r2⟩ := r2
  obtain ⟨m3, r3⟩ := r3
  obtain ⟨a, b, h0, _⟩ := rdRange r0
  obtain ⟨m', p, n, cap, el, _, h1, hle, hcap, _, hs, hr⟩ := rd_slA r1 rfl rfl (by decide)
  obtain ⟨vs, hn, hs', hv⟩ := hs.pick (f := Vw.l) (R := fun x => SlA W 6 x.p x.xs.length (fun j => (x.xs.getD j default).l) ∧ x.xs.length ≤ 9223372036854775807) fun i hi => by
    obtain ⟨q, k, c, l, h1, hk, hle2, hcap2, hs2, _⟩ := rdFlat (f := Shown.l) (hr i hi) rfl rfl (by decide) fun _ _ h => rdShown h
    subst hk
    exact ⟨⟨q, c, l⟩, h1, hs2, by show l.length ≤ _; omega⟩
  obtain ⟨pt, m, capt, ts, h2, hm, hle2, hcap2, hst, hts⟩ := rdFlat (f := fun x : Int => [.int .i64 x]) (R := fun x => In64 x) r2 rfl rfl (by decide) fun m cs h => by
    obtain ⟨x, hx, hi⟩ := rd_i64 h rfl
    exact ⟨x, hx, hi⟩
  obtain ⟨pf, k, capf, fs, h3, hk, hcap3, hle3, hsf⟩ := rdBools r3
  have h0' : cs = a.l ++ b.l := by simpa [Value.cells] using h0
  subst h0'
  cases h1
  cases h2
  cases h3
  exact walk_SessionKeeps a b vs (fun i => ts.getD i default) _ p pt pf n m k cap capt capf hn.symm (by omega) (by omega) (by omega) W hs' hst hsf (fun i hi => hts _ (getD_mem ts i (by omega))) hv
end Go.Proofs.Ytkgjfcjciigcgaa
