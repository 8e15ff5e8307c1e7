/-
  A slice that came in, as a row of elements. No program in sight.
-/
import Derived.Test.YtkgjfcjciigcgaaSlMore
import Derived.Test.YtkgjfcjciigcgaaSlRead
namespace Go.Proofs.Ytkgjfcjciigcgaa.Sl
open Go.RowKit Go.ChangeShapes Go.WideShapes
set_option linter.unusedVariables false

section
variable {P : Program} {T : Tab} {W : World}

theorem rd_slA {n : Nat} {t e : TypeId} {s b : Nat} {z cs : List Value} {d : TyD} (h : Rd T W n t cs) (ht : ty T t = some ⟨.slice e, s, b, z⟩) (he : ty T e = some d) (hd : 0 < d.size) :
    ∃ (m : Nat) (p : Option Addr) (len cap : Nat) (el : Nat → List Value), n = m + 1 ∧ cs = [.slice p len cap] ∧ len ≤ cap ∧ cap ≤ 9223372036854775807 ∧ (p = none → len = 0 ∧ cap = 0) ∧ SlA W d.size p len el ∧ ∀ i, i < len → Rd T W m e (el i) := by
  obtain ⟨m, hn, h | ⟨a, len, cap, h1, h2, h3, h4⟩⟩ := rd_sl h ht
  · exact ⟨m, none, 0, 0, fun _ => [], hn, h, by omega, by omega, fun _ => ⟨rfl, rfl⟩, SlA.nil, fun i hi => by omega⟩
  · have h5 := h4 (by rw [he]; rfl)
    have hsz : szOf T e = d.size := by simp [szOf, he]
    rw [hsz] at h5
    have hch : ∃ el : Nat → List Value, ∀ i, i < len → W.cells? 0 (a.add (i * d.size)) d.size = some (el i) ∧ Rd T W m e (el i) := by
      refine ⟨fun i => (W.cells? 0 (a.add (i * d.size)) d.size).getD [], fun i hi => ?_⟩
      obtain ⟨es, e1, e2⟩ := h5 i hi
      simp only [e1, Option.getD_some]
      exact ⟨trivial, e2⟩
    obtain ⟨el, hel⟩ := hch
    refine ⟨m, some a, len, cap, el, hn, h1, h2, h3, (fun h => by cases h), ?_, fun i hi => (hel i hi).2⟩
    have hsp : 0 < len → a.spot = none ∧ ∃ l t fr, W.heap[a.block]? = some (.cells (List.toArray l) t fr) := fun hl => by
      obtain ⟨l, t', fr, e1, e2, _⟩ := cells_block (hel 0 hl).1 hd
      have hz : a.add (0 * d.size) = a := by simp [Addr.add]
      rw [hz] at e1 e2
      exact ⟨e1, l, t', fr, e2⟩
    refine ⟨fun hl => ?_, fun i hi => ?_, fun hl => ?_⟩
    · obtain ⟨b, o, sp⟩ := a
      have := (hsp hl).1
      simp at this
      subst this
      simp [pb, po]
    · exact (cells_block (hel i hi).1 hd).choose_spec.choose_spec.choose_spec.2.2.1
    · obtain ⟨e1, l, t', fr, e2⟩ := hsp hl
      have hpb : pb (some a) = a.block := by simp [pb]
      have hpo : po (some a) = a.off := by simp [po]
      refine ⟨l, t', fr, by rw [hpb]; exact e2, fun i hi j hj => ?_⟩
      obtain ⟨l', t2, fr2, q1, q2, q3, q4⟩ := cells_block (hel i hi).1 hd
      have hadd : a.add (i * d.size) = ⟨a.block, a.off + i * d.size, none⟩ := by
        obtain ⟨b, o, sp⟩ := a
        simp at e1
        subst e1
        unfold Addr.add; split <;> simp_all
      rw [hadd] at q2 q4
      simp only [e2, Option.some.injEq, Obj.cells.injEq] at q2
      have hl' : l = l' := by simpa using q2.1
      subst hl'
      rw [hpo]
      exact q4 j hj
theorem SlA.congr {k : Nat} {p : Option Addr} {n : Nat} {e e' : Nat → List Value} (h : SlA W k p n e) (he : ∀ i, i < n → e i = e' i) : SlA W k p n e' :=
  ⟨h.ptr, fun i hi => by rw [← he i hi]; exact h.len i hi, fun hn => by
    obtain ⟨l, t, fr, h1, h2⟩ := h.mem hn
    exact ⟨l, t, fr, h1, fun i hi j hj => by rw [← he i hi]; exact h2 i hi j hj⟩⟩
theorem SlA.pick {k : Nat} {p : Option Addr} {n : Nat} {e : Nat → List Value} {α : Type} [Inhabited α] {f : α → List Value} (h : SlA W k p n e) {R : α → Prop} (hr : ∀ i, i < n → ∃ x, e i = f x ∧ R x) : ∃ xs : List α, xs.length = n ∧ SlA W k p n (fun i => f (xs.getD i default)) ∧ ∀ x ∈ xs, R x := by
  have hc : ∃ g : Nat → α, ∀ i, i < n → e i = f (g i) ∧ R (g i) := by
    classical
    refine ⟨fun i => if hi : i < n then (hr i hi).choose else default, fun i hi => ?_⟩
    simp only [hi, dif_pos]
    exact (hr i hi).choose_spec
  obtain ⟨g, hg⟩ := hc
  refine ⟨(List.range n).map g, by simp, h.congr fun i hi => ?_, fun x hx => ?_⟩
  · rw [(hg i hi).1]
    simp [List.getD, hi]
  · obtain ⟨i, hi, rfl⟩ := List.mem_map.1 hx
    exact (hg i (List.mem_range.1 hi)).2
end
end Go.Proofs.Ytkgjfcjciigcgaa.Sl
