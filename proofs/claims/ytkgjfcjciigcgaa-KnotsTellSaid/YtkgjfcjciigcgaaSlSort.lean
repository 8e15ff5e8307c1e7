/-
  slices.SortFunc of a block of one's own: the kit's contract, in the words of known blocks. No program in sight.
-/
import Derived.Test.YtkgjfcjciigcgaaSlMap
import Derived.Shelf.SlSortCmp.NoneTotal
namespace Go.Proofs.Ytkgjfcjciigcgaa.Sl
open Go.RowKit Go.Sort Go.Shelf
set_option linter.unusedVariables false
set_option linter.unusedSectionVars false
set_option linter.unusedSimpArgs false

theorem Bl.grown {W W' : World} (h : Bl W W') : ∃ q os', W' = grow (W.drewN q) os' := by
  refine ⟨W'.drawn - W.drawn, W'.heap.extract W.heap.size W'.heap.size, ?_⟩
  obtain ⟨heap', tape', drawn', os', output'⟩ := W'
  have h1 := h.os; have h2 := h.tape; have h3 := h.output; have h4 := h.size; have h5 := h.block; have h6 := h.drawn
  simp only at h1 h2 h3 h4 h5 h6
  subst h1 h2 h3
  have e1 : W.drawn + (drawn' - W.drawn) = drawn' := by omega
  have e2 : W.heap ++ heap'.extract W.heap.size heap'.size = heap' := by
    apply Array.ext_getElem?
    intro i
    rcases Nat.lt_or_ge i W.heap.size with hi | hi
    · rw [Array.getElem?_append_left hi, h5 i hi]
    · rw [Array.getElem?_append_right hi, Array.getElem?_extract]
      split
      · congr 1; omega
      · rw [Array.getElem?_eq_none (by omega)]
  simp only [grow, World.drewN, e1, e2]

section
variable {α : Type} [Inhabited α] {P : Program} {ρ : Ren} {f : α → List Value} {k : Nat}
theorem cat_flatK (hf : ∀ x, (f x).length = k) (ys : List α) : flatK f k ys.toArray = (cat f ys).toArray := by
  apply Array.ext_getElem?
  intro t
  have hl : (cat f ys).length = ys.length * k := cat_length hf ys
  rcases Nat.lt_or_ge t (ys.length * k) with ht | ht
  · have hk : 0 < k := by
      rcases Nat.eq_zero_or_pos k with h | h
      · subst h; simp at ht
      · exact h
    have h1 : t / k < ys.length := Nat.div_lt_of_lt_mul (by rwa [Nat.mul_comm] at ht)
    have h2 : t % k < k := Nat.mod_lt _ hk
    have h3 := cat_get hf ys (t / k) (t % k) h1 h2
    rw [Nat.div_add_mod' t k] at h3
    have h4 : (flatK f k ys.toArray).size = ys.length * k := by simp
    rw [Array.getElem?_eq_getElem (by rw [h4]; exact ht)]
    rw [List.getElem?_toArray, h3]
    have h5 := get_flatK f k ys.toArray t (by simpa using ht)
    rw [getElem!_pos _ t (by rw [h4]; exact ht)] at h5
    rw [h5]
    have h6 : (ys.toArray)[t / k]! = ys.getD (t / k) default := by
      rw [getElem!_pos _ _ (by simpa using h1)]
      simp [List.getD, h1]
    rw [h6]
    have h7 : t % k < (f (ys.getD (t / k) default)).length := by rw [hf]; exact h2
    rw [getElem!_pos (f (ys.getD (t / k) default)) (t % k) h7, List.getElem?_eq_getElem h7]
  · rw [Array.getElem?_eq_none (by simpa using ht), Array.getElem?_eq_none (by simpa [hl] using ht)]

theorem cat_sorted {xs ys : List α} (hf : ∀ x, (f x).length = k) (hl : ys.length = xs.length) {g m : Nat} {os : Array Obj} {sp : List Value} {t : TypeId} {w : World} (hb : w.heap[g]? = some (.cells (cat f xs ++ sp).toArray t (0, 0))) :
    St w [g] [(g, true, .cells (cat f ys ++ sp).toArray t (0, 0))] (sortWorldK f k w g 0 m ys.toArray os) := by
  have hlt : g < w.heap.size := (Array.getElem?_eq_some_iff.1 hb).1
  have hly : (cat f ys).length = (cat f xs).length := by rw [cat_length hf, cat_length hf, hl]
  have hp : putCells id 0 (cat f ys).toArray (cat f xs ++ sp).toArray = (cat f ys ++ sp).toArray := by
    apply Array.ext_getElem?
    intro j
    unfold putCells
    rw [Array.getElem?_mapIdx, List.getElem?_toArray, List.getElem?_toArray]
    rcases Nat.lt_or_ge j (cat f ys).length with hj | hj
    · rw [List.getElem?_append_left (by rw [← hly]; exact hj), List.getElem?_append_left hj, List.getElem?_eq_getElem hj, List.getElem?_eq_getElem (by rw [← hly]; exact hj)]
      simp [hj, getElem!_pos]
    · rw [List.getElem?_append_right (by rw [← hly]; exact hj), List.getElem?_append_right hj, hly]
      cases sp[j - (cat f xs).length]? with
      | none => rfl
      | some u => simp; intro h; omega
  have hheap : (sortWorldK f k w g 0 m ys.toArray os).heap = w.heap.modify g (onCells (putCells id 0 (cat f ys).toArray)) ++ os := by
    unfold sortWorldK putRowK
    rw [cat_flatK hf]
    rfl
  have hs : (w.heap.modify g (onCells (putCells id 0 (cat f ys).toArray))).size = w.heap.size := by simp
  refine ⟨rfl, rfl, rfl, ?_, fun b hb' hm => ?_, fun e he => ?_, fun e he _ => ?_, by simp, Nat.le_add_right _ _⟩
  · rw [hheap, Array.size_append, hs]; omega
  · rw [hheap, Array.getElem?_append_left (by rw [hs]; exact hb'), Array.getElem?_modify, if_neg (by simpa using fun e : g = b => hm (by simp [e]))]
  · simp only [List.mem_singleton] at he
    subst he
    rw [hheap, Array.getElem?_append_left (by rw [hs]; exact hlt), Array.getElem?_modify, if_pos rfl, hb]
    simp only [Option.map_some, onCells, hp]
  · simp only [List.mem_singleton] at he
    subst he
    exact .inr (by simp)
theorem sort_own (L : SlLaysF0.n6 P ρ) (aE : ∀ w, (isAgg (ρ.t 24)).run P w = .ok true w) (zE : ∀ w, (Go.sizeOf (ρ.t 24)).run P w = .ok k w) (hf : ∀ x, (f x).length = k) (h1 : ∀ x, ∀ v ∈ f x, v.oneCell' = true) (cf : α → α → Int) (hO : SWO (ltOf cf)) (cg : Nat) (cb : Array Value)
    (eg : Ent P cg) (hcmp : ∀ x y W, Calls P cg (#[.agg (f x).toArray, .agg (f y).toArray] ++ cb) W fun e W' => e = .returned (.int .i64 (cf x y)) ∧ Bl W W') (hT : ∀ x y, (ltOf cf) x y = false → (ltOf cf) y x = false → x = y)
    {g c : Nat} {xs : List α} {sp : List Value} {t : TypeId} {w : World} (hb : w.heap[g]? = some (.cells (cat f xs ++ sp).toArray t (0, 0))) (hsz : xs.length < 4611686018427387904) :
    Calls P (ρ.f 6) #[.slice (some (ad g)) xs.length c, .func (.func cg) #[] cb] w (RetG w g (fun _ : Unit => .tuple #[]) (fun _ => .cells (cat f (xs.mergeSort fun x y => !(ltOf cf) y x) ++ sp).toArray t (0, 0)) (fun _ => True)) := by
  have hlt : g < w.heap.size := (Array.getElem?_eq_some_iff.1 hb).1
  have hH : HoldsK f k w g 0 xs.toArray := by
    unfold HoldsK
    rw [cat_flatK hf]
    intro j hj
    have hj' : j < (cat f xs).length := by simpa using hj
    constructor
    · simp [World.cell?, hb, List.getElem?_append_left hj', getElem!_pos, hj']
    · simp [World.frozen?, hb]
  have h := AnyQ.slices_SortFunc_total L k aE zE f hf h1 cf hO cg cb g 0 c xs.toArray w eg (fun m os dk hs x y => (hcmp x y _).mono fun e W' ⟨e1, e2⟩ => ⟨e1, e2.grown⟩) hH hlt (by simpa using hsz) hT
  rw [List.size_toArray] at h
  refine h.mono fun e w' ⟨he, n, os, hw⟩ => ⟨(), he, trivial, ?_⟩
  rw [hw]
  exact cat_sorted hf (by simp) hb
end
end Go.Proofs.Ytkgjfcjciigcgaa.Sl
