/-
  The reference's Cells, Into and Reads.
-/
import Derived.Test.YtkgjfcjciigcgaaGoInto
import Derived.Test.YtkgjfcjciigcgaaGoHas
namespace Go.Proofs.Ytkgjfcjciigcgaa
open Go.Proofs.Ytkgjfcjciigcgaa.Sl Go.RowKit
set_option linter.unusedVariables false
set_option linter.unusedSimpArgs false
set_option linter.unusedSectionVars false
set_option maxRecDepth 100000

theorem c_cl2 {P : Prop} (h : P := by intro W_ h_; refine h_.drop ?_; repeat first | exact List.Sublist.refl _ | exact List.nil_sublist _ | apply List.Sublist.cons_cons | apply List.Sublist.cons | apply sub_app) : P := h
section
attribute [local semireducible] GC GE
theorem gc_permK {P : Program} {N : Nat} {F : Fl} {Q : Exit → Act → World → Prop} {c : Code} {w0 : World} {M : List Nat} {K K' : Kl} (hK : K.Perm K') (h : GC P c Q N w0 M F K') : GC P c Q N w0 M F K := fun a W hF hW => h a W hF (hW.perm hK)
theorem ge_permK {N : Nat} {F : Fl} {Q : Exit → Act → World → Prop} {e : Exit} {w0 : World} {M : List Nat} {K K' : Kl} (hK : K.Perm K') (h : GE Q e N w0 M F K') : GE Q e N w0 M F K := fun a W hF hW => h a W hF (hW.perm hK)
end
theorem ct_CellsR (a b : Cell) (w : World) : Calls Try.prog 173 #[.agg (a.l ++ b.l).toArray] w (RetOw w (rangeCells a b).length 3 (cat Cell.l (rangeCells a b)) 25) := by
  have hcond : (badArea a b = false ∧ area a b ≤ 400) ↔ small400 a b = true := by
    unfold small400
    simp
  refine enter (args := [_]) (M := []) (K := []) Try.func173 rfl Try.ntmps173 rfl (St.refl _ _) ?_
  repeat' first
    | (refine gl_gate ?_; first
      | refine gl_nil ?_
      | (refine gl_load0 ?_; refine gl_yv (yv_load tab_ok (gok_none rfl) rfl rfl (fun _ => rfl) c_mem (fun _ => c_lds)) rfl rfl ?_)
      | (refine gl_calv0 ?_; first | refine gl_yd (yd_call (gok_none rfl) rfl ent170 rfl rfl (fun _ => allT_of rfl) (fun _ W hW => ct_Area a b W)) rfl rfl ?_)
      | (refine gl_pick0 ?_; first | refine gl_yv (yv_and (gok_none rfl) rfl rfl rfl (fun _ => rfl) c_imp2) rfl rfl ?_ | refine gl_yv (yv_or (gok_none rfl) rfl rfl rfl (fun _ => rfl) c_imp2) rfl rfl ?_)
      | (refine gl_box0 ?_; first | (refine gl_box_agg rfl rfl rfl rfl rfl ?_; intro g_ hg_) | (refine gl_box_one rfl rfl rfl rfl rfl rfl ?_; intro g_ hg_) | (refine gl_box rfl rfl rfl rfl rfl ?_; intro g_ hg_))
      | (refine gl_any0 ?_; refine gl_pure tab_ok rfl rfl rfl rfl rfl rfl ?_)
      | (refine gl_anyG ?_; first | refine gl_yv (yv_pure tab_ok c_gok rfl rfl c_allT) rfl rfl ?_ | refine gl_yv (yv_indexS tab_ok c_gok rfl rfl rfl rfl c_imp c_imp (by intro hq_; (try simp only [Bool.and_eq_true, Bool.not_eq_true', Bool.not_eq_false', Bool.or_eq_false_iff, Bool.or_eq_true, decide_eq_true_eq, decide_eq_false_iff_not, Bool.true_and, Bool.and_true] at hq_); omega)) rfl rfl ?_ | refine gl_yv (yv_indexS (i := 0) tab_ok c_gok rfl rfl rfl rfl c_imp c_imp (by intro hq_; (try simp only [Bool.and_eq_true, Bool.not_eq_true', Bool.not_eq_false', Bool.or_eq_false_iff, Bool.or_eq_true, decide_eq_true_eq, decide_eq_false_iff_not, Bool.true_and, Bool.and_true] at hq_); omega)) rfl rfl ?_))
    | (refine gc_gate ?_; first
      | refine gc_seq ?_
      | refine gc_region ?_)
    | (refine ge_gate ?_; first
      | ((with_reducible refine ge_gT ?_); first | with_reducible refine ge_then ?_ | with_reducible refine ge_then_exit ?_ | with_reducible refine ge_then_ret ?_))
  (refine gc_cond rfl ?_ ?_ <;> intro h_ <;> have hd_ := h_ <;> (try simp only [bytes_beq, cell_beq, val_beq, stamp_beq, decide_eq_true_eq, decide_eq_false_iff_not, Bool.and_eq_true, Bool.or_eq_true, Bool.or_eq_false_iff, Bool.not_eq_true', Bool.not_eq_false', Bool.not_true, Bool.not_false, Bool.false_or, Bool.true_and, Bool.and_true, Bool.or_false, beq_iff_eq, bne_iff_ne, beq_eq_false_iff_ne, bne_eq_false_iff_eq, ne_eq, Bool.false_eq_true, reduceCtorEq] at hd_) <;> (try (exfalso; omega)))
  · repeat' first
      | (refine gl_gate ?_; first
        | refine gl_nil ?_
        | (refine gl_any0 ?_; refine gl_pure tab_ok rfl rfl rfl rfl rfl rfl ?_))
      | (refine gc_gate ?_; first
        | refine gc_seq ?_
        | refine gc_region ?_
        | refine gc_ret ?_)
      | (refine ge_gate ?_; first
        | ((with_reducible refine ge_gT ?_); first | with_reducible refine ge_then ?_ | with_reducible refine ge_then_exit ?_ | with_reducible refine ge_then_ret ?_)
        | ((with_reducible refine ge_gB ?_); first | refine ge_ret1 tab_ok rfl c_rvt ?_ | refine ge_end1 tab_ok rfl c_rvt ?_ | refine ge_ret2 tab_ok rfl c_rvt c_rvt ?_ | refine ge_ret_none rfl ?_ | refine ge_end_none rfl ?_))
    intro W hW
    have e : rangeCells a b = [] := by
      unfold rangeCells
      rw [if_neg]
      rw [← hcond]
      rintro ⟨h1, h2⟩
      simp [h1] at hd_
      omega
    rw [e]
    exact ⟨none, 0, [], rfl, Ow.none0, hW.drop c_sub⟩
  have hsm : small400 a b = true := by
    rw [← hcond]
    cases h1 : badArea a b with
    | true => rw [h1] at h_; simp at h_
    | false =>
      refine ⟨rfl, ?_⟩
      rw [h1] at h_
      simpa using h_
  obtain ⟨i1, i2, i3, i4, i5, i6, i7, i8⟩ := small400_in hsm
  have e0 : rangeCells a b = manyRows a (b.col - a.col + 1).toNat (b.row - a.row + 1).toNat := by unfold rangeCells; rw [hsm]; rfl
  rw [e0]
  obtain ⟨m, hm⟩ : ∃ m : Nat, b.col - a.col + 1 = m := ⟨(b.col - a.col + 1).toNat, by omega⟩
  obtain ⟨k, hk⟩ : ∃ k : Nat, b.row - a.row + 1 = k := ⟨(b.row - a.row + 1).toNat, by omega⟩
  rw [hm, hk] at i8
  rw [hm, hk, Int.toNat_natCast, Int.toNat_natCast]
  have i9 : m * k ≤ 400 := by
    have : ((m * k : Nat) : Int) ≤ 400 := by rw [Int.natCast_mul]; exact i8
    omega
  clear e0 i8 h_ hd_
  repeat' first
    | (refine gl_gate ?_; first
      | refine gl_nil ?_
      | (refine gl_load0 ?_; refine gl_yv (yv_load tab_ok (gok_none rfl) rfl rfl (fun _ => rfl) c_mem (fun _ => c_lds)) rfl rfl ?_)
      | (refine gl_any0 ?_; refine gl_pure tab_ok rfl rfl rfl rfl rfl rfl ?_))
    | (refine gc_gate ?_; first
      | refine gc_seq ?_
      | refine gc_region ?_
      | refine gc_block ?_
      | refine gc_skip ?_)
    | (refine ge_gate ?_; first
      | ((with_reducible refine ge_gT ?_); first | with_reducible refine ge_then ?_ | with_reducible refine ge_then_exit ?_ | with_reducible refine ge_then_ret ?_))
  refine gc_loop (α := Nat × Option Nat × Nat × List Value) (fun x => [(1, true, .pointer (some ⟨g_, 0, none⟩)), (5, true, .slice (x.2.1.map ad) (manyRows a m x.1).length x.2.2.1), (6, true, .int .i64 (a.row + x.1))])
    (fun x => ow x.2.1 true (cat Cell.l (manyRows a m x.1) ++ x.2.2.2) 25 ++ [(g_, true, .cells (a.l ++ b.l).toArray 55 (0, 0))]) (fun x => x.1 ≤ k ∧ Ow x.2.1 (manyRows a m x.1).length x.2.2.1 3 (cat Cell.l (manyRows a m x.1)) x.2.2.2) (fun x => k - x.1) (0, none, 0, []) (by rw [show a.row + ((0 : Nat) : Int) = a.row by omega]; exact c_frs) c_sub ⟨Nat.zero_le _, Ow.none0⟩ ?_
  rintro ⟨i, q, c, sp⟩ ⟨hi, ho⟩
  dsimp only at hi ho ⊢
  have hik : i * m ≤ k * m := Nat.mul_le_mul_right _ hi
  rw [Nat.mul_comm k m] at hik
  repeat' first
    | (refine gl_gate ?_; first
      | refine gl_nil ?_
      | (refine gl_load0 ?_; refine gl_yv (yv_load tab_ok (gok_none rfl) rfl rfl (fun _ => rfl) c_mem (fun _ => c_lds)) rfl rfl ?_)
      | (refine gl_any0 ?_; refine gl_pure tab_ok rfl rfl rfl rfl rfl rfl ?_))
    | (refine gc_gate ?_; first
      | refine gc_seq ?_
      | refine gc_region ?_
      | (refine gc_cond rfl ?_ ?_ <;> intro h_ <;> have hd_ := h_ <;> (try simp only [bytes_beq, cell_beq, val_beq, stamp_beq, decide_eq_true_eq, decide_eq_false_iff_not, Bool.and_eq_true, Bool.or_eq_true, Bool.or_eq_false_iff, Bool.not_eq_true', Bool.not_eq_false', Bool.not_true, Bool.not_false, Bool.false_or, Bool.true_and, Bool.and_true, Bool.or_false, beq_iff_eq, bne_iff_ne, beq_eq_false_iff_ne, bne_eq_false_iff_eq, ne_eq, Bool.false_eq_true, reduceCtorEq] at hd_) <;> (try (exfalso; omega)))
      | refine gc_block ?_
      | refine gc_exit ?_
      | refine gc_ret ?_
      | refine gc_skip ?_)
    | (refine ge_gate ?_; first
      | ((with_reducible refine ge_gT ?_); first | with_reducible refine ge_then ?_ | with_reducible refine ge_then_exit ?_ | with_reducible refine ge_then_ret ?_)
      | ((with_reducible refine ge_gK ?_); first | with_reducible refine ge_block ?_ | refine ge_block_exit ?_ | refine ge_block_pass rfl ?_ | with_reducible refine ge_block_ret ?_)
      | ((with_reducible refine ge_gB ?_); first | refine ge_ret1 tab_ok rfl c_rvt ?_ | refine ge_end1 tab_ok rfl c_rvt ?_ | refine ge_ret2 tab_ok rfl c_rvt c_rvt ?_ | refine ge_ret_none rfl ?_ | refine ge_end_none rfl ?_))
  · have hik : i < k := by omega
    have hik2 : i * m + m ≤ 400 := by
      have : (i + 1) * m ≤ k * m := Nat.mul_le_mul_right _ hik
      rw [Nat.succ_mul, Nat.mul_comm k m] at this
      omega
    have hl0 : (manyRows a m i).length = i * m := manyRows_length a m i
    refine gc_loop (α := Nat × Option Nat × Nat × List Value) (fun x => [(1, true, .pointer (some ⟨g_, 0, none⟩)), (5, true, .slice (x.2.1.map ad) (manyRows a m i ++ rowCells a x.1 i).length x.2.2.1), (6, true, .int .i64 (a.row + i)), (7, true, .int .i64 (a.col + x.1))])
      (fun x => ow x.2.1 true (cat Cell.l (manyRows a m i ++ rowCells a x.1 i) ++ x.2.2.2) 25 ++ [(g_, true, .cells (a.l ++ b.l).toArray 55 (0, 0))]) (fun x => x.1 ≤ m ∧ Ow x.2.1 (manyRows a m i ++ rowCells a x.1 i).length x.2.2.1 3 (cat Cell.l (manyRows a m i ++ rowCells a x.1 i)) x.2.2.2) (fun x => m - x.1) (0, q, c, sp)
      (by rw [show a.col + ((0 : Nat) : Int) = a.col by omega, show manyRows a m i ++ rowCells a 0 i = manyRows a m i by simp [rowCells]]; exact c_frs) (by rw [show manyRows a m i ++ rowCells a 0 i = manyRows a m i by simp [rowCells]]; exact List.Sublist.refl _) ⟨Nat.zero_le _, by rw [show manyRows a m i ++ rowCells a 0 i = manyRows a m i by simp [rowCells]]; exact ho⟩ ?_
    rintro ⟨j, q1, c1, sp1⟩ ⟨hj, ho1⟩
    dsimp only at hj ho1 ⊢
    have hL : (manyRows a m i ++ rowCells a j i).length ≤ 800 := by rw [List.length_append, hl0, rowCells_length]; omega
    have hs : manyRows a m i ++ rowCells a (j + 1) i = (manyRows a m i ++ rowCells a j i) ++ [⟨a.sheet, a.col + j, a.row + i⟩] := by rw [rowCells_succ, List.append_assoc]
    repeat' first
      | (refine gl_gate ?_; first
        | refine gl_nil ?_
        | (refine gl_load0 ?_; refine gl_yv (yv_load tab_ok (gok_none rfl) rfl rfl (fun _ => rfl) c_mem (fun _ => c_lds)) rfl rfl ?_)
        | (refine gl_add0 ?_; refine gl_yv (yv_add tab_ok (gok_none rfl) rfl rfl rfl rfl (fun _ => allT_of rfl) (by intro _; omega)) rfl rfl ?_)
        | (refine gl_app0 ?_; (refine gl_ev (ev_append tab_ok rfl rfl rfl rfl rfl rfl rfl rfl c_oa (ho1) (c_src) c_lim c_lim ?_) rfl rfl; intro p_ c_ sp_ hw_))
        | (refine gl_bld0 ?_; (refine gl_ev (ev_buildSlice tab_ok rfl rfl rfl rfl rfl rfl rfl rfl rfl rfl ?_) rfl rfl; intro g_ hg_))
        | (refine gl_any0 ?_; refine gl_pure tab_ok rfl rfl rfl rfl rfl rfl ?_))
      | (refine gc_gate ?_; first
        | refine gc_seq ?_
        | refine gc_region ?_
        | (refine gc_cond rfl ?_ ?_ <;> intro h_ <;> have hd_ := h_ <;> (try simp only [bytes_beq, cell_beq, val_beq, stamp_beq, decide_eq_true_eq, decide_eq_false_iff_not, Bool.and_eq_true, Bool.or_eq_true, Bool.or_eq_false_iff, Bool.not_eq_true', Bool.not_eq_false', Bool.not_true, Bool.not_false, Bool.false_or, Bool.true_and, Bool.and_true, Bool.or_false, beq_iff_eq, bne_iff_ne, beq_eq_false_iff_ne, bne_eq_false_iff_eq, ne_eq, Bool.false_eq_true, reduceCtorEq] at hd_) <;> (try (exfalso; omega)))
        | refine gc_block ?_
        | refine gc_exit ?_
        | refine gc_skip ?_)
      | (refine ge_gate ?_; first
        | ((with_reducible refine ge_gT ?_); first | with_reducible refine ge_then ?_ | with_reducible refine ge_then_exit ?_ | with_reducible refine ge_then_ret ?_)
        | ((with_reducible refine ge_gK ?_); first | with_reducible refine ge_block ?_ | refine ge_block_exit ?_ | refine ge_block_pass rfl ?_ | with_reducible refine ge_block_ret ?_))
    · refine ge_round (j + 1, p_, c_, sp_) ⟨by omega, ?_⟩ (by show m - (j + 1) < m - j; omega) ?_ ?_
      · show Ow p_ (manyRows a m i ++ rowCells a (j + 1) i).length c_ 3 (cat Cell.l (manyRows a m i ++ rowCells a (j + 1) i)) sp_
        rw [hs, List.length_append, cat_snoc]
        exact hw_
      · dsimp only
        rw [hs, List.length_append, show a.col + ((j + 1 : Nat) : Int) = a.col + j + 1 by omega]
        exact c_frs
      · dsimp only
        rw [hs, cat_snoc]
        exact List.Sublist.append (List.Sublist.refl _) (List.Sublist.cons _ (List.Sublist.refl _))
    · have hj2 : j = m := by omega
      subst hj2
      refine ge_round (i + 1, q1, c1, sp1) ⟨by omega, ?_⟩ (by show k - (i + 1) < k - i; omega) ?_ ?_
      · show Ow q1 (manyRows a j (i + 1)).length c1 3 (cat Cell.l (manyRows a j (i + 1))) sp1
        rw [manyRows_succ]
        exact ho1
      · dsimp only
        rw [manyRows_succ, show a.row + ((i + 1 : Nat) : Int) = a.row + i + 1 by omega]
        exact c_frs
      · dsimp only
        rw [manyRows_succ]
        exact List.Sublist.refl _
  · have : i = k := by omega
    subst this
    intro W hW
    exact ⟨q, c, sp, rfl, ho, hW.drop (List.sublist_append_left _ _)⟩
section
variable {P : Program} {T : Tab} {w0 : World} {M : List Nat} {K : Kl} {k n i cap : Nat} {p : Option Addr} {e : Nat → List Value}
theorem addA' (g o m : Nat) : (⟨g, o, none⟩ : Addr).add m = ⟨g, o + m, none⟩ := by unfold Addr.add; split <;> simp_all
theorem takeA' (h : SlA w0 k p n e) (hi : i ≤ n) : SlA w0 k p i e :=
  ⟨fun h0 => h.ptr (by omega), fun j hj => h.len j (by omega), fun h0 => by
    obtain ⟨l, t, fr, h1, h2⟩ := h.mem (by omega)
    exact ⟨l, t, fr, h1, fun j hj => h2 j (by omega)⟩⟩
theorem pbA' (h : SlA w0 k p n e) (hn : 0 < n) (m : Nat) : p.map (·.add m) = some ⟨pb p, po p + m, none⟩ ∧ pb (p.map (·.add m)) = pb p ∧ po (p.map (·.add m)) = po p + m := by
  have hp := h.ptr hn
  have hadd := addA' (pb p) (po p) m
  have hm : p.map (·.add m) = some ⟨pb p, po p + m, none⟩ := by
    generalize hq : pb p = b at *
    generalize ho : po p = o at *
    rw [hp]
    simp only [Option.map_some, hadd]
  exact ⟨hm, by rw [hm]; simp [pb], by rw [hm]; simp [po]⟩
theorem dropA' (h : SlA w0 k p n e) (hi : i < n) : SlA w0 k (p.map (·.add (i * k))) (n - i) (fun j => e (i + j)) := by
  obtain ⟨l, t, fr, h1, h2⟩ := h.mem (by omega)
  obtain ⟨hm, e1, e2⟩ := pbA' h (by omega) (i * k)
  refine ⟨fun _ => by rw [e1, e2]; exact hm, fun j hj => h.len _ (by omega), fun _ => ⟨l, t, fr, by rw [e1]; exact h1, fun j hj m hm => ?_⟩⟩
  rw [e2]
  have := h2 (i + j) (by omega) m hm
  rw [Nat.add_mul] at this
  rw [← this]
  congr 1
  omega
/-- A slice of old memory, appended: nil too. -/
theorem srcA' {t' : TypeId} {s bs : Nat} {z : List Value} {tx : TypeId} (hT : TabOk P T) (ht : ty T tx = some ⟨.slice t', s, bs, z⟩) (h : SlA w0 k p n e) (hM : 0 < n → pb p ∉ M) (h1 : ∀ i, i < n → ∀ u ∈ e i, u.oneCell' = true) (hc : p = none → cap = 0) : SrcK P k tx w0 M K (.slice p n cap) n (elems n e).flatten := by
  cases p with
  | some g => exact src_slA hT ht h hM h1
  | none =>
    have hn : n = 0 := by
      rcases Nat.eq_zero_or_pos n with h0 | h0
      · exact h0
      · have := h.ptr h0; cases this
    subst hn
    rw [hc rfl]
    exact src_nil hT ht
theorem srcRestA' {t' : TypeId} {s bs : Nat} {z : List Value} {tx : TypeId} (hT : TabOk P T) (ht : ty T tx = some ⟨.slice t', s, bs, z⟩) (h : SlA w0 k p n e) (hi : i ≤ n) (hcap : n ≤ cap) (hM : 0 < n → pb p ∉ M) (h1 : ∀ i, i < n → ∀ u ∈ e i, u.oneCell' = true) (hc : p = none → cap = 0) :
    SrcK P k tx w0 M K (.slice (if cap = i then p else p.map (·.add (i * k))) (n - i) (cap - i)) (n - i) (elems (n - i) (fun j => e (i + j))).flatten := by
  by_cases hlt : i < n
  · rw [if_neg (by omega)]
    refine srcA' hT ht (dropA' h hlt) (fun _ => by rw [(pbA' h (by omega) (i * k)).2.1]; exact hM (by omega)) (fun j hj => h1 _ (by omega)) (fun hn => ?_)
    have := h.ptr (by omega)
    rw [this] at hn
    cases hn
  · have e0 : n - i = 0 := by omega
    rw [e0]
    refine srcA' hT ht SlA.nil (fun h => absurd h (Nat.lt_irrefl 0)) (fun j hj => absurd hj (by omega)) (fun hn => ?_)
    split at hn
    · have := hc hn
      omega
    · cases p with
      | none => have := hc rfl; omega
      | some g => cases hn
theorem elemsTake' {α : Type} [Inhabited α] {f : α → List Value} {l : List α} {i : Nat} (hi : i ≤ l.length) : (elems i (fun j => f (l.getD j default))).flatten = cat f (l.take i) := by
  unfold elems cat
  rw [List.flatMap_def]
  congr 1
  apply List.ext_getElem?
  intro j
  by_cases hj : j < i
  · have : j < l.length := by omega
    simp [hj, List.getD, this, List.getElem?_take]
  · simp [hj, List.getElem?_take]
theorem elemsDrop' {α : Type} [Inhabited α] {f : α → List Value} {l : List α} {i : Nat} (hi : i ≤ l.length) : (elems (l.length - i) (fun j => f (l.getD (i + j) default))).flatten = cat f (l.drop i) := by
  unfold elems cat
  rw [List.flatMap_def]
  congr 1
  apply List.ext_getElem?
  intro j
  by_cases hj : j < l.length - i
  · have : i + j < l.length := by omega
    simp [hj, List.getD, this]
  · have : ¬ i + j < l.length := by omega
    simp [hj, this]
end
theorem ct_IntoIn (l : List Cell) (c : Cell) (p : Option Addr) (n cap : Nat) (w : World) (hn : n = l.length) (hs : SlA w 3 p n (fun i => (l.getD i default).l)) (hl : n ≤ 4611686018427387904) (hc : c ∈ l) : Calls Try.prog 172 #[.slice p n cap, .agg c.l.toArray] w fun e w' => e = .returned (.slice p n cap) ∧ Bl w w' := by
  have hhas := fun W h => ct_Has W l c p n cap hn h hl
  rw [decide_eq_true hc] at hhas
  refine enter (args := [_, _]) (M := []) (K := []) Try.func172 rfl Try.ntmps172 rfl (St.refl _ _) ?_
  repeat' first
    | (refine gl_gate ?_; first
      | refine gl_nil ?_
      | (refine gl_load0 ?_; refine gl_yv (yv_load tab_ok (gok_none rfl) rfl rfl (fun _ => rfl) c_mem (fun _ => c_lds)) rfl rfl ?_)
      | (refine gl_calv0 ?_; first | refine gl_yd (yd_call (gok_none rfl) rfl ent54 rfl rfl (fun _ => allT_of rfl) (fun _ W hW => hhas W (hs.st hW))) rfl rfl ?_)
      | (refine gl_box0 ?_; first | (refine gl_box_agg rfl rfl rfl rfl rfl ?_; intro g_ hg_) | (refine gl_box_one rfl rfl rfl rfl rfl rfl ?_; intro g_ hg_) | (refine gl_box rfl rfl rfl rfl rfl ?_; intro g_ hg_))
      | (refine gl_any0 ?_; refine gl_pure tab_ok rfl rfl rfl rfl rfl rfl ?_))
    | (refine gc_gate ?_; first
      | refine gc_seq ?_
      | refine gc_region ?_
      | refine gc_true rfl ?_
      | refine gc_ret ?_)
    | (refine ge_gate ?_; first
      | ((with_reducible refine ge_gT ?_); first | with_reducible refine ge_then ?_ | with_reducible refine ge_then_exit ?_ | with_reducible refine ge_then_ret ?_)
      | ((with_reducible refine ge_gB ?_); first | refine ge_ret1 tab_ok rfl c_rvt ?_ | refine ge_end1 tab_ok rfl c_rvt ?_ | refine ge_ret2 tab_ok rfl c_rvt c_rvt ?_ | refine ge_ret_none rfl ?_ | refine ge_end_none rfl ?_))
  intro W hW
  exact ⟨rfl, hW.below0⟩
theorem ct_IntoNew (l : List Cell) (c : Cell) (p : Option Addr) (n cap : Nat) (w : World) (hn : n = l.length) (hs : SlA w 3 p n (fun i => (l.getD i default).l)) (hl : n ≤ 1000000000) (hcap : n ≤ cap) (hnil : p = none → cap = 0) (hc : c ∉ l) : Calls Try.prog 172 #[.slice p n cap, .agg c.l.toArray] w (RetOw w (intoL l c).length 3 (cat Cell.l (intoL l c)) 25) := by
  have hhas := fun W h => ct_Has W l c p n cap hn h (by omega)
  rw [decide_eq_false hc] at hhas
  refine enter (args := [_, _]) (M := []) (K := []) Try.func172 rfl Try.ntmps172 rfl (St.refl _ _) ?_
  repeat' first
    | (refine gl_gate ?_; first
      | refine gl_nil ?_
      | (refine gl_load0 ?_; refine gl_yv (yv_load tab_ok (gok_none rfl) rfl rfl (fun _ => rfl) c_mem (fun _ => c_lds)) rfl rfl ?_)
      | (refine gl_calv0 ?_; first | refine gl_yd (yd_call (gok_none rfl) rfl ent54 rfl rfl (fun _ => allT_of rfl) (fun _ W hW => hhas W (hs.st hW))) rfl rfl ?_)
      | (refine gl_box0 ?_; first | (refine gl_box_agg rfl rfl rfl rfl rfl ?_; intro g_ hg_) | (refine gl_box_one rfl rfl rfl rfl rfl rfl ?_; intro g_ hg_) | (refine gl_box rfl rfl rfl rfl rfl ?_; intro g_ hg_))
      | (refine gl_any0 ?_; refine gl_pure tab_ok rfl rfl rfl rfl rfl rfl ?_))
    | (refine gc_gate ?_; first
      | refine gc_seq ?_
      | refine gc_region ?_
      | refine gc_false rfl ?_
      | refine gc_block ?_
      | refine gc_skip ?_)
    | (refine ge_gate ?_; first
      | ((with_reducible refine ge_gT ?_); first | with_reducible refine ge_then ?_ | with_reducible refine ge_then_exit ?_ | with_reducible refine ge_then_ret ?_))
  refine gc_loop (α := Nat) (fun i => [(0, true, .slice p n cap), (3, true, .pointer (some ⟨g_, 0, none⟩)), (5, true, .int .i64 (i : Int))])
    (fun _ => [(g_, true, .cells c.l.toArray 25 (0, 0))]) (fun i => i ≤ n ∧ ∀ j, j < i → ltOf cmpC (l.getD j default) c = true) (fun i => n - i) 0 c_frs c_sub ⟨Nat.zero_le _, fun j hj => by omega⟩ ?_
  rintro i ⟨hi, he⟩
  repeat' first
    | (refine gl_gate ?_; first
      | refine gl_nil ?_
      | (refine gl_add0 ?_; refine gl_yv (yv_add tab_ok (gok_none rfl) rfl rfl rfl rfl (fun _ => allT_of rfl) (by intro _; omega)) rfl rfl ?_)
      | (refine gl_any0 ?_; refine gl_pure tab_ok rfl rfl rfl rfl rfl rfl ?_))
    | (refine gc_gate ?_; first
      | refine gc_seq ?_
      | refine gc_region ?_
      | refine gc_quietRo rfl mixed (by decide +kernel) ?_
      | (refine gc_cond rfl ?_ ?_ <;> intro h_ <;> have hd_ := h_ <;> (try simp only [bytes_beq, cell_beq, val_beq, stamp_beq, decide_eq_true_eq, decide_eq_false_iff_not, Bool.and_eq_true, Bool.or_eq_true, Bool.or_eq_false_iff, Bool.not_eq_true', Bool.not_eq_false', Bool.not_true, Bool.not_false, Bool.false_or, Bool.true_and, Bool.and_true, Bool.or_false, beq_iff_eq, bne_iff_ne, beq_eq_false_iff_ne, bne_eq_false_iff_eq, ne_eq, Bool.false_eq_true, reduceCtorEq] at hd_) <;> (try (exfalso; omega)))
      | refine gc_block ?_
      | refine gc_exit ?_
      | refine gc_skip ?_)
    | (refine ge_gate ?_; first
      | ((with_reducible refine ge_gT ?_); first | with_reducible refine ge_then ?_ | with_reducible refine ge_then_exit ?_ | with_reducible refine ge_then_ret ?_)
      | ((with_reducible refine ge_gK ?_); first | with_reducible refine ge_block ?_ | refine ge_block_exit ?_ | refine ge_block_pass rfl ?_ | with_reducible refine ge_block_ret ?_))
    | (refine gq_gate ?_; first
      | refine gq_nil ?_
      | (refine gq_idxG ?_; refine gq_yv (yv_idxA tab_ok hs c_gok rfl rfl rfl rfl rfl rfl c_imp c_imp c_bnd) rfl rfl ?_)
      | (refine gq_loadG ?_; refine gq_yv (yv_ldA0 tab_ok hs c_nm c_gok rfl rfl c_imp c_bnd (fun _ => c_lds)) rfl rfl ?_)
      | (refine gq_calvG ?_; first | refine gq_yd (yd_call c_gok rfl ent91 rfl rfl c_allT (fun _ W hW => ct_LessR (l.getD i default) c W)) rfl rfl ?_)
      | (refine gq_pick0 ?_; first | refine gq_yv (yv_and (gok_none rfl) rfl rfl rfl (fun _ => rfl) c_imp2) rfl rfl ?_ | refine gq_yv (yv_or (gok_none rfl) rfl rfl rfl (fun _ => rfl) c_imp2) rfl rfl ?_)
      | (refine gq_loadG ?_; refine gq_yv (yv_load tab_ok c_gok rfl rfl c_imp c_mem (fun _ => c_lds)) rfl rfl ?_)
      | (refine gq_any0 ?_; refine gq_pure tab_ok rfl rfl rfl rfl rfl rfl ?_)
      | (refine gq_anyG ?_; first | refine gq_yv (yv_pure tab_ok c_gok rfl rfl c_allT) rfl rfl ?_ | refine gq_yv (yv_indexS tab_ok c_gok rfl rfl rfl rfl c_imp c_imp (by intro hq_; (try simp only [Bool.and_eq_true, Bool.not_eq_true', Bool.not_eq_false', Bool.or_eq_false_iff, Bool.or_eq_true, decide_eq_true_eq, decide_eq_false_iff_not, Bool.true_and, Bool.and_true] at hq_); omega)) rfl rfl ?_ | refine gq_yv (yv_indexS (i := 0) tab_ok c_gok rfl rfl rfl rfl c_imp c_imp (by intro hq_; (try simp only [Bool.and_eq_true, Bool.not_eq_true', Bool.not_eq_false', Bool.or_eq_false_iff, Bool.or_eq_true, decide_eq_true_eq, decide_eq_false_iff_not, Bool.true_and, Bool.and_true] at hq_); omega)) rfl rfl ?_))
  · refine ge_round (i + 1) ⟨by omega, fun j hj => ?_⟩ (by omega) c_frs (List.Sublist.refl _)
    rcases Nat.lt_or_ge j i with h | h
    · exact he j h
    · obtain rfl : j = i := by omega
      exact hd_.2
  have hi3 : i < l.length → ltOf cmpC (l.getD i default) c = false := fun h => by
    cases h2 : ltOf cmpC (l.getD i default) c with
    | false => rfl
    | true =>
      rw [h2, show decide ((i : Int) < (n : Int)) = true by simp; omega] at h_
      cases h_
  have hset : intoI c l = i := intoI_eq c l i (by omega) he hi3
  have hres : intoL l c = l.take i ++ (c :: l.drop i) := by unfold intoL; rw [hset, if_neg hc]
  have ho1 : ∀ j, j < n → ∀ u ∈ (l.getD j default).l, u.oneCell' = true := fun j hj u hu => ones_cell _ u hu
  refine gp_startC (St w [] [(g_, true, .cells c.l.toArray 25 (0, 0))]) c_cl2 [10] #[false, false, false, false, false, false, false, false, false, false, false, false] mixed rfl rfl c_qp ?_; intro hqp_
  refine gp_take 0 #[true, false, false, false, false, false, false, false, false, false, false, false] hqp_ rfl (by kernel_rfl) (yv_pure tab_ok c_gok rfl rfl c_allT) c_cl2 rfl rfl ?_
  refine gp_take 1 #[true, true, false, false, false, false, false, false, false, false, false, false] hqp_ rfl (by kernel_rfl) (yv_pure tab_ok c_gok rfl rfl c_allT) c_cl2 rfl rfl ?_
  refine gp_take 2 #[true, true, true, false, false, false, false, false, false, false, false, false] hqp_ rfl (by kernel_rfl) ((yv_sliceH (h := i) tab_ok (gok_none rfl) rfl rfl rfl rfl rfl (fun _ => rfl) (fun _ => rfl) (fun _ => by omega))) c_cl2 rfl rfl ?_
  refine gp_take 4 #[true, true, true, false, true, false, false, false, false, false, false, false] hqp_ rfl (by kernel_rfl) (yv_load tab_ok c_gok rfl rfl c_imp c_mem (fun _ => c_lds)) c_cl2 rfl rfl ?_
  refine gp_take 7 #[true, true, true, false, true, false, false, true, false, false, false, false] hqp_ rfl (by kernel_rfl) (yv_pure tab_ok c_gok rfl rfl c_allT) c_cl2 rfl rfl ?_
  refine gp_take 8 #[true, true, true, false, true, false, false, true, true, false, false, false] hqp_ rfl (by kernel_rfl) (yv_pure tab_ok c_gok rfl rfl c_allT) c_cl2 rfl rfl ?_
  refine gp_take 9 #[true, true, true, false, true, false, false, true, true, true, false, false] hqp_ rfl (by kernel_rfl) ((yv_sliceL (lo := i) tab_ok (gok_none rfl) rfl rfl rfl rfl rfl (fun _ => rfl) (fun _ => rfl) (fun _ => by omega))) c_cl2 rfl rfl ?_
  refine gp_rs [3, 5] (by kernel_rfl) rfl (gr_ev 3 #[true, true, true, true, true, false, false, true, true, true, false, false] rfl rfl rfl rfl rfl (ev_append (p := none) (xs := []) (sp := []) tab_ok rfl rfl rfl rfl rfl rfl rfl rfl Oa.nil Ow.none0 (srcA' tab_ok rfl (takeA' hs hi) (fun _ => List.not_mem_nil) (fun j hj => ho1 j (by omega)) hnil) c_lim c_lim ?_) (gr_ev 5 #[true, true, true, false, true, true, false, true, true, true, false, false] rfl rfl rfl rfl rfl (ev_buildSlice tab_ok rfl rfl rfl rfl rfl rfl rfl rfl rfl rfl ?_) gr_nil))
  intro p3_ c3_ sp3_ hw3_; refine ⟨c_cl2, ?_⟩
  (refine gp_ev 5 #[true, true, true, true, true, true, false, true, true, true, false, false] rfl (by kernel_rfl) rfl rfl rfl (ev_buildSlice tab_ok rfl rfl rfl rfl rfl rfl rfl rfl rfl rfl ?_); intro g_ hg_; refine ⟨c_cl2, ?_⟩)
  (refine gp_ev 6 #[true, true, true, true, true, true, true, true, true, true, false, false] rfl (by kernel_rfl) rfl rfl rfl (ev_append tab_ok rfl rfl rfl rfl rfl rfl rfl rfl c_oa hw3_ c_src c_lim c_lim ?_); intro p8_ c8_ sp8_ hw8_; refine ⟨c_cl2, ?_⟩)
  (refine gp_last 10 #[true, true, true, true, true, true, true, true, true, true, true, false] rfl (by kernel_rfl) (by simp) rfl rfl (ev_append tab_ok rfl rfl rfl rfl rfl rfl rfl rfl c_oa hw8_ (srcRestA' tab_ok rfl hs hi hcap (fun _ => List.not_mem_nil) ho1 hnil) c_lim c_lim ?_); intro p_ c_ sp_ hw_)
  refine gp_take 11 #[true, true, true, true, true, true, true, true, true, true, true, true] hqp_ rfl (by kernel_rfl) (yv_pure tab_ok c_gok rfl rfl c_allT) c_cl2 rfl rfl ?_
  refine gp_done (by kernel_rfl) ?_; clear hqp_
  rotate_left 1
  intro g_ hg_; refine ⟨c_cl2, ?_⟩
  (refine gp_ev 3 #[true, true, true, true, true, true, false, true, true, true, false, false] rfl (by kernel_rfl) rfl rfl rfl (ev_append (p := none) (xs := []) (sp := []) tab_ok rfl rfl rfl rfl rfl rfl rfl rfl Oa.nil Ow.none0 (srcA' tab_ok rfl (takeA' hs hi) (fun _ => List.not_mem_nil) (fun j hj => ho1 j (by omega)) hnil) c_lim c_lim ?_); intro p3_ c3_ sp3_ hw3_; refine ⟨c_cl2, ?_⟩)
  (refine gp_ev 6 #[true, true, true, true, true, true, true, true, true, true, false, false] rfl (by kernel_rfl) rfl rfl rfl (ev_append tab_ok rfl rfl rfl rfl rfl rfl rfl rfl c_oa hw3_ c_src c_lim c_lim ?_); intro p8_ c8_ sp8_ hw8_; refine ⟨c_cl2, ?_⟩)
  (refine gp_last 10 #[true, true, true, true, true, true, true, true, true, true, true, false] rfl (by kernel_rfl) (by simp) rfl rfl (ev_append tab_ok rfl rfl rfl rfl rfl rfl rfl rfl c_oa hw8_ (srcRestA' tab_ok rfl hs hi hcap (fun _ => List.not_mem_nil) ho1 hnil) c_lim c_lim ?_); intro p_ c_ sp_ hw_)
  refine gp_take 11 #[true, true, true, true, true, true, true, true, true, true, true, true] hqp_ rfl (by kernel_rfl) (yv_pure tab_ok c_gok rfl rfl c_allT) c_cl2 rfl rfl ?_
  refine gp_done (by kernel_rfl) ?_; clear hqp_
  all_goals
    repeat' first
      | (refine gc_gate ?_; first
        | refine gc_ret ?_)
      | (refine ge_gate ?_; first
        | ((with_reducible refine ge_gT ?_); first | with_reducible refine ge_then ?_ | with_reducible refine ge_then_exit ?_ | with_reducible refine ge_then_ret ?_)
        | ((with_reducible refine ge_gB ?_); first | refine ge_ret1 tab_ok rfl c_rvt ?_ | refine ge_end1 tab_ok rfl c_rvt ?_ | refine ge_ret2 tab_ok rfl c_rvt c_rvt ?_ | refine ge_ret_none rfl ?_ | refine ge_end_none rfl ?_))
  all_goals
    intro W hW
    subst hn
    have hlen : (intoL l c).length = 0 + i + 1 + (l.length - i) := by
      rw [hres]
      simp
      omega
    have hX : cat Cell.l (intoL l c) = [] ++ (elems i fun j => (l.getD j default).l).flatten ++ c.l ++ (elems (l.length - i) fun j => (l.getD (i + j) default).l).flatten := by
      rw [elemsTake' hi, elemsDrop' hi, hres]
      simp [cat]
    rw [hlen, hX]
    exact ⟨p_, c_, sp_, rfl, hw_, hW.drop (List.sublist_append_left _ _)⟩
end Go.Proofs.Ytkgjfcjciigcgaa
