/-
  refs: which cells a formula reads: addr.Cells, own, read.
-/
import Derived.Test.YtkgjfcjciigcgaaGoTreeA
import Derived.Test.YtkgjfcjciigcgaaGoKeys
namespace Go.Proofs.Ytkgjfcjciigcgaa
open Go.Proofs.Ytkgjfcjciigcgaa.Sl Go.RowKit
set_option linter.unusedVariables false
set_option linter.unusedSimpArgs false
set_option maxRecDepth 100000

def rowCells (a : Cell) (w i : Nat) : List Cell := (List.range w).map fun (j : Nat) => ⟨a.sheet, a.col + j, a.row + i⟩
def manyRows (a : Cell) (w h : Nat) : List Cell := (List.range h).flatMap fun i => rowCells a w i
def rangeCells (a b : Cell) : List Cell := if small400 a b then manyRows a (b.col - a.col + 1).toNat (b.row - a.row + 1).toNat else []
theorem rowCells_length (a : Cell) (w i : Nat) : (rowCells a w i).length = w := by simp [rowCells]
theorem manyRows_length (a : Cell) (w : Nat) : ∀ h, (manyRows a w h).length = h * w
  | 0 => by simp [manyRows]
  | h + 1 => by
    have := manyRows_length a w h
    unfold manyRows at this ⊢
    rw [List.range_succ, List.flatMap_append, List.length_append, this]
    simp [rowCells_length, Nat.succ_mul]
theorem rowCells_succ (a : Cell) (w i : Nat) : rowCells a (w + 1) i = rowCells a w i ++ [⟨a.sheet, a.col + w, a.row + i⟩] := by
  unfold rowCells
  rw [List.range_succ, List.map_append]
  rfl
theorem manyRows_succ (a : Cell) (w h : Nat) : manyRows a w (h + 1) = manyRows a w h ++ rowCells a w h := by
  unfold manyRows
  rw [List.range_succ, List.flatMap_append]
  simp
theorem small400_in {a b : Cell} (h : small400 a b = true) : a.sheet = b.sheet ∧ 1 ≤ a.col ∧ a.col ≤ b.col ∧ b.col ≤ 702 ∧ 1 ≤ a.row ∧ a.row ≤ b.row ∧ b.row ≤ 999 ∧ (b.col - a.col + 1) * (b.row - a.row + 1) ≤ 400 := by
  unfold small400 at h
  simp only [Bool.and_eq_true, Bool.not_eq_true', decide_eq_true_eq] at h
  obtain ⟨h1, h2⟩ := h
  have h3 := badArea_in h1
  unfold area at h2
  rw [h1] at h2
  simp only [Bool.false_eq_true, if_false] at h2
  have h4 : a.sheet = b.sheet := by
    unfold badArea at h1
    simp at h1
    exact h1.1.1.2
  exact ⟨h4, h3.1, h3.2.1, h3.2.2.1, h3.2.2.2.1, h3.2.2.2.2.1, h3.2.2.2.2.2, h2⟩
theorem ct_addrCells (a b : Cell) (w : World) : Calls Try.prog 230 #[.agg (a.l ++ b.l).toArray] w (RetOw w (rangeCells a b).length 3 (cat Cell.l (rangeCells a b)) 25) := by
  refine enter (args := [_]) (M := []) (K := []) Try.func230 rfl Try.ntmps230 rfl (St.refl _ _) ?_
  repeat' first
    | (refine gl_gate ?_; first
      | refine gl_nil ?_
      | (refine gl_load0 ?_; refine gl_yv (yv_load tab_ok (gok_none rfl) rfl rfl (fun _ => rfl) c_mem (fun _ => c_lds)) rfl rfl ?_)
      | (refine gl_calv0 ?_; first | refine gl_yd (yd_call (gok_none rfl) rfl ent145 rfl rfl (fun _ => allT_of rfl) (fun _ W hW => ct_addrSmall a b W)) rfl rfl ?_)
      | (refine gl_box0 ?_; first | (refine gl_box_agg rfl rfl rfl rfl rfl ?_; intro g_ hg_) | (refine gl_box_one rfl rfl rfl rfl rfl rfl ?_; intro g_ hg_) | (refine gl_box rfl rfl rfl rfl rfl ?_; intro g_ hg_))
      | (refine gl_any0 ?_; refine gl_pure tab_ok rfl rfl rfl rfl rfl rfl ?_))
    | (refine gc_gate ?_; first
      | refine gc_seq ?_
      | refine gc_region ?_
      | (refine gc_cond rfl ?_ ?_ <;> intro h_ <;> have hd_ := h_ <;> (try simp only [bytes_beq, cell_beq, val_beq, stamp_beq, decide_eq_true_eq, decide_eq_false_iff_not, Bool.and_eq_true, Bool.or_eq_true, Bool.or_eq_false_iff, Bool.not_eq_true', Bool.not_eq_false', Bool.not_true, Bool.not_false, Bool.false_or, Bool.true_and, Bool.and_true, Bool.or_false, beq_iff_eq, bne_iff_ne, beq_eq_false_iff_ne, bne_eq_false_iff_eq, ne_eq, Bool.false_eq_true, reduceCtorEq] at hd_) <;> (try (exfalso; omega)))
      | refine gc_block ?_
      | refine gc_ret ?_
      | refine gc_skip ?_)
    | (refine ge_gate ?_; first
      | ((with_reducible refine ge_gT ?_); first | with_reducible refine ge_then ?_ | with_reducible refine ge_then_exit ?_ | with_reducible refine ge_then_ret ?_)
      | ((with_reducible refine ge_gB ?_); first | refine ge_ret1 tab_ok rfl c_rvt ?_ | refine ge_end1 tab_ok rfl c_rvt ?_ | refine ge_ret2 tab_ok rfl c_rvt c_rvt ?_ | refine ge_ret_none rfl ?_ | refine ge_end_none rfl ?_))
  · intro W hW
    unfold rangeCells
    rw [hd_]
    exact ⟨none, 0, [], rfl, Ow.none0, hW.drop c_sub⟩
  obtain ⟨i1, i2, i3, i4, i5, i6, i7, i8⟩ := small400_in hd_
  have e0 : rangeCells a b = manyRows a (b.col - a.col + 1).toNat (b.row - a.row + 1).toNat := by unfold rangeCells; rw [hd_]; rfl
  rw [e0]
  obtain ⟨m, hm⟩ : ∃ m : Nat, b.col - a.col + 1 = m := ⟨(b.col - a.col + 1).toNat, by omega⟩
  obtain ⟨k, hk⟩ : ∃ k : Nat, b.row - a.row + 1 = k := ⟨(b.row - a.row + 1).toNat, by omega⟩
  rw [hm, hk] at i8
  rw [hm, hk, Int.toNat_natCast, Int.toNat_natCast]
  have i9 : m * k ≤ 400 := by
    have : ((m * k : Nat) : Int) ≤ 400 := by rw [Int.natCast_mul]; exact i8
    omega
  clear e0 i8
  refine gc_loop (α := Nat × Option Nat × Nat × List Value) (fun x => [(1, true, .pointer (some ⟨g_, 0, none⟩)), (3, true, .slice (x.2.1.map ad) (manyRows a m x.1).length x.2.2.1), (4, true, .int .i64 (a.row + x.1))])
    (fun x => ow x.2.1 true (cat Cell.l (manyRows a m x.1) ++ x.2.2.2) 25 ++ [(g_, true, .cells (a.l ++ b.l).toArray 55 (0, 0))]) (fun x => x.1 ≤ k ∧ Ow x.2.1 (manyRows a m x.1).length x.2.2.1 3 (cat Cell.l (manyRows a m x.1)) x.2.2.2) (fun x => k - x.1) (0, none, 0, []) (by rw [show a.row + ((0 : Nat) : Int) = a.row by omega]; exact c_frs) c_sub ⟨Nat.zero_le _, Ow.none0⟩ ?_
  rintro ⟨i, q, c, sp⟩ ⟨hi, ho⟩
  dsimp only at hi ho ⊢
  have hik : i * m ≤ k * m := Nat.mul_le_mul_right _ hi
  rw [Nat.mul_comm k m] at hik
  repeat' first
    | (refine gl_gate ?_; first
      | refine gl_nil ?_
      | (refine gl_load0 ?_; refine gl_yv (yv_load tab_ok (gok_none rfl) rfl rfl (fun _ => rfl) c_mem (fun _ => c_lds)) rfl rfl ?_)
      | (refine gl_any0 ?_; refine gl_pure tab_ok rfl rfl rfl rfl rfl rfl ?_))
    | (refine gc_gate ?_; first
      | refine gc_seq ?_
      | refine gc_region ?_
      | (refine gc_cond rfl ?_ ?_ <;> intro h_ <;> have hd_ := h_ <;> (try simp only [bytes_beq, cell_beq, val_beq, stamp_beq, decide_eq_true_eq, decide_eq_false_iff_not, Bool.and_eq_true, Bool.or_eq_true, Bool.or_eq_false_iff, Bool.not_eq_true', Bool.not_eq_false', Bool.not_true, Bool.not_false, Bool.false_or, Bool.true_and, Bool.and_true, Bool.or_false, beq_iff_eq, bne_iff_ne, beq_eq_false_iff_ne, bne_eq_false_iff_eq, ne_eq, Bool.false_eq_true, reduceCtorEq] at hd_) <;> (try (exfalso; omega)))
      | refine gc_block ?_
      | refine gc_exit ?_
      | refine gc_ret ?_
      | refine gc_skip ?_)
    | (refine ge_gate ?_; first
      | ((with_reducible refine ge_gT ?_); first | with_reducible refine ge_then ?_ | with_reducible refine ge_then_exit ?_ | with_reducible refine ge_then_ret ?_)
      | ((with_reducible refine ge_gK ?_); first | with_reducible refine ge_block ?_ | refine ge_block_exit ?_ | refine ge_block_pass rfl ?_ | with_reducible refine ge_block_ret ?_)
      | ((with_reducible refine ge_gB ?_); first | refine ge_ret1 tab_ok rfl c_rvt ?_ | refine ge_end1 tab_ok rfl c_rvt ?_ | refine ge_ret2 tab_ok rfl c_rvt c_rvt ?_ | refine ge_ret_none rfl ?_ | refine ge_end_none rfl ?_))
  · have hik : i < k := by omega
    have hik2 : i * m + m ≤ 400 := by
      have : (i + 1) * m ≤ k * m := Nat.mul_le_mul_right _ hik
      rw [Nat.succ_mul, Nat.mul_comm k m] at this
      omega
    have hl0 : (manyRows a m i).length = i * m := manyRows_length a m i
    refine gc_loop (α := Nat × Option Nat × Nat × List Value) (fun x => [(1, true, .pointer (some ⟨g_, 0, none⟩)), (3, true, .slice (x.2.1.map ad) (manyRows a m i ++ rowCells a x.1 i).length x.2.2.1), (4, true, .int .i64 (a.row + i)), (5, true, .int .i64 (a.col + x.1))])
      (fun x => ow x.2.1 true (cat Cell.l (manyRows a m i ++ rowCells a x.1 i) ++ x.2.2.2) 25 ++ [(g_, true, .cells (a.l ++ b.l).toArray 55 (0, 0))]) (fun x => x.1 ≤ m ∧ Ow x.2.1 (manyRows a m i ++ rowCells a x.1 i).length x.2.2.1 3 (cat Cell.l (manyRows a m i ++ rowCells a x.1 i)) x.2.2.2) (fun x => m - x.1) (0, q, c, sp)
      (by rw [show a.col + ((0 : Nat) : Int) = a.col by omega, show manyRows a m i ++ rowCells a 0 i = manyRows a m i by simp [rowCells]]; exact c_frs) (by rw [show manyRows a m i ++ rowCells a 0 i = manyRows a m i by simp [rowCells]]; exact List.Sublist.refl _) ⟨Nat.zero_le _, by rw [show manyRows a m i ++ rowCells a 0 i = manyRows a m i by simp [rowCells]]; exact ho⟩ ?_
    rintro ⟨j, q1, c1, sp1⟩ ⟨hj, ho1⟩
    dsimp only at hj ho1 ⊢
    have hL : (manyRows a m i ++ rowCells a j i).length ≤ 800 := by rw [List.length_append, hl0, rowCells_length]; omega
    have hs : manyRows a m i ++ rowCells a (j + 1) i = (manyRows a m i ++ rowCells a j i) ++ [⟨a.sheet, a.col + j, a.row + i⟩] := by rw [rowCells_succ, List.append_assoc]
    repeat' first
      | (refine gl_gate ?_; first
        | refine gl_nil ?_
        | (refine gl_load0 ?_; refine gl_yv (yv_load tab_ok (gok_none rfl) rfl rfl (fun _ => rfl) c_mem (fun _ => c_lds)) rfl rfl ?_)
        | (refine gl_add0 ?_; refine gl_yv (yv_add tab_ok (gok_none rfl) rfl rfl rfl rfl (fun _ => allT_of rfl) (by intro _; omega)) rfl rfl ?_)
        | (refine gl_app0 ?_; (refine gl_ev (ev_append tab_ok rfl rfl rfl rfl rfl rfl rfl rfl c_oa (ho1) (c_src) c_lim c_lim ?_) rfl rfl; intro p_ c_ sp_ hw_))
        | (refine gl_bld0 ?_; (refine gl_ev (ev_buildSlice tab_ok rfl rfl rfl rfl rfl rfl rfl rfl rfl rfl ?_) rfl rfl; intro g_ hg_))
        | (refine gl_any0 ?_; refine gl_pure tab_ok rfl rfl rfl rfl rfl rfl ?_))
      | (refine gc_gate ?_; first
        | refine gc_seq ?_
        | refine gc_region ?_
        | (refine gc_cond rfl ?_ ?_ <;> intro h_ <;> have hd_ := h_ <;> (try simp only [bytes_beq, cell_beq, val_beq, stamp_beq, decide_eq_true_eq, decide_eq_false_iff_not, Bool.and_eq_true, Bool.or_eq_true, Bool.or_eq_false_iff, Bool.not_eq_true', Bool.not_eq_false', Bool.not_true, Bool.not_false, Bool.false_or, Bool.true_and, Bool.and_true, Bool.or_false, beq_iff_eq, bne_iff_ne, beq_eq_false_iff_ne, bne_eq_false_iff_eq, ne_eq, Bool.false_eq_true, reduceCtorEq] at hd_) <;> (try (exfalso; omega)))
        | refine gc_block ?_
        | refine gc_exit ?_
        | refine gc_skip ?_)
      | (refine ge_gate ?_; first
        | ((with_reducible refine ge_gT ?_); first | with_reducible refine ge_then ?_ | with_reducible refine ge_then_exit ?_ | with_reducible refine ge_then_ret ?_)
        | ((with_reducible refine ge_gK ?_); first | with_reducible refine ge_block ?_ | refine ge_block_exit ?_ | refine ge_block_pass rfl ?_ | with_reducible refine ge_block_ret ?_))
    · refine ge_round (j + 1, p_, c_, sp_) ⟨by omega, ?_⟩ (by show m - (j + 1) < m - j; omega) ?_ ?_
      · show Ow p_ (manyRows a m i ++ rowCells a (j + 1) i).length c_ 3 (cat Cell.l (manyRows a m i ++ rowCells a (j + 1) i)) sp_
        rw [hs, List.length_append, cat_snoc]
        exact hw_
      · dsimp only
        rw [hs, List.length_append, show a.col + ((j + 1 : Nat) : Int) = a.col + j + 1 by omega]
        exact c_frs
      · dsimp only
        rw [hs, cat_snoc]
        exact List.Sublist.append (List.Sublist.refl _) (List.Sublist.cons _ (List.Sublist.refl _))
    · have hj2 : j = m := by omega
      subst hj2
      refine ge_round (i + 1, q1, c1, sp1) ⟨by omega, ?_⟩ (by show k - (i + 1) < k - i; omega) ?_ ?_
      · show Ow q1 (manyRows a j (i + 1)).length c1 3 (cat Cell.l (manyRows a j (i + 1))) sp1
        rw [manyRows_succ]
        exact ho1
      · dsimp only
        rw [manyRows_succ, show a.row + ((i + 1 : Nat) : Int) = a.row + i + 1 by omega]
        exact c_frs
      · dsimp only
        rw [manyRows_succ]
        exact List.Sublist.refl _
  · have : i = k := by omega
    subst this
    intro W hW
    exact ⟨q, c, sp, rfl, ho, hW.drop (List.sublist_append_left _ _)⟩

def own (t : Node) : List Cell := if t.kind = 2 ∧ rightCell t.cell = true then [t.cell] else if t.kind = 3 then rangeCells t.cell t.to else []
theorem ct_refsOwn (t : Node) (p : Option Addr) (c : Nat) (w : World) : Calls Try.prog 206 #[.agg (t.l p c).toArray] w (RetOw w (own t).length 3 (cat Cell.l (own t)) 25) := by
  refine enter (args := [_]) (M := []) (K := []) Try.func206 rfl Try.ntmps206 rfl (St.refl _ _) ?_
  repeat' first
    | (refine gl_gate ?_; first
      | refine gl_nil ?_
      | (refine gl_load0 ?_; refine gl_yv (yv_load tab_ok (gok_none rfl) rfl rfl (fun _ => rfl) c_mem (fun _ => c_lds)) rfl rfl ?_)
      | (refine gl_any0 ?_; (refine gl_ev (ev_callOw rfl rfl ent230 rfl rfl rfl (fun W hW => ct_addrCells t.cell t.to W) ?_) rfl rfl; intro p_ c_ sp_ hw_))
      | (refine gl_bld0 ?_; (refine gl_ev (ev_buildSlice tab_ok rfl rfl rfl rfl rfl rfl rfl rfl rfl rfl ?_) rfl rfl; intro g_ hg_))
      | (refine gl_calv0 ?_; first | refine gl_yd (yd_call (gok_none rfl) rfl ent213 rfl rfl (fun _ => allT_of rfl) (fun _ W hW => ct_addrRight t.cell W)) rfl rfl ?_ | refine gl_yd (yd_call (gok_none rfl) rfl ent215 rfl rfl (fun _ => allT_of rfl) (fun _ W hW => ct_treeRange t p c W)) rfl rfl ?_)
      | (refine gl_calvG ?_; first | refine gl_yd (yd_call c_gok rfl ent213 rfl rfl c_allT (fun _ W hW => ct_addrRight t.cell W)) rfl rfl ?_ | refine gl_yd (yd_call c_gok rfl ent215 rfl rfl c_allT (fun _ W hW => ct_treeRange t p c W)) rfl rfl ?_)
      | (refine gl_pick0 ?_; first | refine gl_yv (yv_and (gok_none rfl) rfl rfl rfl (fun _ => rfl) c_imp2) rfl rfl ?_ | refine gl_yv (yv_or (gok_none rfl) rfl rfl rfl (fun _ => rfl) c_imp2) rfl rfl ?_)
      | (refine gl_loadG ?_; refine gl_yv (yv_load tab_ok c_gok rfl rfl c_imp c_mem (fun _ => c_lds)) rfl rfl ?_)
      | (refine gl_box0 ?_; first | (refine gl_box_agg rfl rfl rfl rfl rfl ?_; intro g_ hg_) | (refine gl_box_one rfl rfl rfl rfl rfl rfl ?_; intro g_ hg_) | (refine gl_box rfl rfl rfl rfl rfl ?_; intro g_ hg_))
      | (refine gl_any0 ?_; refine gl_pure tab_ok rfl rfl rfl rfl rfl rfl ?_)
      | (refine gl_anyG ?_; first | refine gl_yv (yv_pure tab_ok c_gok rfl rfl c_allT) rfl rfl ?_ | refine gl_yv (yv_indexS tab_ok c_gok rfl rfl rfl rfl c_imp c_imp (by intro hq_; (try simp only [Bool.and_eq_true, Bool.not_eq_true', Bool.not_eq_false', Bool.or_eq_false_iff, Bool.or_eq_true, decide_eq_true_eq, decide_eq_false_iff_not, Bool.true_and, Bool.and_true] at hq_); omega)) rfl rfl ?_ | refine gl_yv (yv_indexS (i := 0) tab_ok c_gok rfl rfl rfl rfl c_imp c_imp (by intro hq_; (try simp only [Bool.and_eq_true, Bool.not_eq_true', Bool.not_eq_false', Bool.or_eq_false_iff, Bool.or_eq_true, decide_eq_true_eq, decide_eq_false_iff_not, Bool.true_and, Bool.and_true] at hq_); omega)) rfl rfl ?_))
    | (refine gc_gate ?_; first
      | refine gc_seq ?_
      | refine gc_region ?_
      | (refine gc_cond rfl ?_ ?_ <;> intro h_ <;> have hd_ := h_ <;> (try simp only [bytes_beq, cell_beq, val_beq, stamp_beq, decide_eq_true_eq, decide_eq_false_iff_not, Bool.and_eq_true, Bool.or_eq_true, Bool.or_eq_false_iff, Bool.not_eq_true', Bool.not_eq_false', Bool.not_true, Bool.not_false, Bool.false_or, Bool.true_and, Bool.and_true, Bool.or_false, beq_iff_eq, bne_iff_ne, beq_eq_false_iff_ne, bne_eq_false_iff_eq, ne_eq, Bool.false_eq_true, reduceCtorEq] at hd_) <;> (try (exfalso; omega)))
      | refine gc_block ?_
      | refine gc_ret ?_
      | refine gc_skip ?_)
    | (refine ge_gate ?_; first
      | ((with_reducible refine ge_gT ?_); first | with_reducible refine ge_then ?_ | with_reducible refine ge_then_exit ?_ | with_reducible refine ge_then_ret ?_)
      | ((with_reducible refine ge_gK ?_); first | with_reducible refine ge_block ?_ | refine ge_block_exit ?_ | refine ge_block_pass rfl ?_ | with_reducible refine ge_block_ret ?_)
      | ((with_reducible refine ge_gB ?_); first | refine ge_ret1 tab_ok rfl c_rvt ?_ | refine ge_end1 tab_ok rfl c_rvt ?_ | refine ge_ret2 tab_ok rfl c_rvt c_rvt ?_ | refine ge_ret_none rfl ?_ | refine ge_end_none rfl ?_))
  · intro W hW
    have e : own t = [t.cell] := by unfold own; rw [if_pos hd_]
    rw [e]
    exact ⟨some g_, 1, [], rfl, ⟨rfl, rfl, by simp, fun h => by cases h⟩, hW.drop (List.Sublist.cons_cons _ (List.nil_sublist _))⟩
  · intro W hW
    have e : own t = rangeCells t.cell t.to := by unfold own; rw [if_neg (by intro h; rw [hd_] at h; exact absurd h.1 (by decide)), if_pos hd_]
    rw [e]
    exact ⟨p_, c_, sp_, rfl, hw_, hW.drop (List.sublist_append_left _ _)⟩
  · intro W hW
    have e : own t = [] := by
      unfold own
      rw [if_neg, if_neg hd_]
      intro h
      simp_all
    rw [e]
    exact ⟨none, 0, [], rfl, Ow.none0, hW.drop (List.nil_sublist _)⟩
theorem own_small (t : Node) : (own t).length ≤ 400 := by
  unfold own
  split
  · simp
  · split
    · unfold rangeCells
      split
      · rename_i h
        rw [manyRows_length]
        obtain ⟨i1, i2, i3, i4, i5, i6, i7, i8⟩ := small400_in h
        have : (((t.to.row - t.cell.row + 1).toNat * (t.to.col - t.cell.col + 1).toNat : Nat) : Int) ≤ 400 := by
          rw [Int.natCast_mul, Int.toNat_of_nonneg (by omega), Int.toNat_of_nonneg (by omega), Int.mul_comm]
          exact i8
        omega
      · simp
    · simp
def vB (b : Bool) : Value := .bool b
def addAll (l : List Cell) (m : List (Cell × Bool)) : List (Cell × Bool) := l.foldl (fun m c => mset m c true) m
theorem addAll_snoc (l : List Cell) (c : Cell) (m : List (Cell × Bool)) : addAll (l ++ [c]) m = mset (addAll l m) c true := by simp [addAll]
mutual
def readN : Node → List (Cell × Bool) → List (Cell × Bool)
  | .mk k o nm v c t kids, m => readL kids (addAll (own (.mk k o nm v c t kids)) m)
def readL : List Node → List (Cell × Bool) → List (Cell × Bool)
  | [], m => m
  | k :: ks, m => readL ks (readN k m)
end
theorem readN_eq (t : Node) (m : List (Cell × Bool)) : readN t m = readL t.kids (addAll (own t) m) := by cases t; rfl
theorem readL_snoc : ∀ (l : List Node) (k : Node) (m : List (Cell × Bool)), readL (l ++ [k]) m = readN k (readL l m)
  | [], k, m => by simp [readL]
  | x :: r, k, m => by rw [List.cons_append, readL, readL, readL_snoc r]
theorem cell_len (c : Cell) : c.l.length = 3 := rfl
theorem ct_read {S : Nat → Prop} : ∀ (t : Node) (p : Option Addr) (c g : Nat) (m : List (Cell × Bool)) (es : Array MapEntry) (clock : Nat) (w : World), NodeR S w t p → t.count ≤ 1000000 → (∀ b, S b → b ≠ g) → w.heap[g]? = some (.map es clock) → Mp kCell vB m es clock →
    Calls Try.prog 167 #[.agg (t.l p c).toArray, .map (some g)] w (RetG w g (fun _ : Array MapEntry × Nat => .tuple #[]) (fun x => .map x.1 x.2) (fun x => Mp kCell vB (readN t m) x.1 x.2)) := by
  intro t
  induction t using Node.ind with
  | h t ih =>
  intro p c g m es clock w hR hcnt hg hb hm
  obtain ⟨hs, hS, hk⟩ := hR
  rename_i kp kc
  have hown := own_small t
  refine enter (args := [_, _]) (M := []) (K := []) Try.func167 rfl Try.ntmps167 rfl (St.refl _ _) ?_
  refine gc_own [(g, true, .map es clock)] (by simpa using hb) (by simp) ?_
  have hM : ([(g, true, Obj.map es clock)] : Kl).map (·.1) = [g] := rfl
  rw [hM]
  have hpb : 0 < t.kids.length → pb p ∉ [g] := fun h => by simpa using hg _ (hS h)
  repeat' first
    | (refine gl_gate ?_; first
      | refine gl_nil ?_
      | (refine gl_load0 ?_; refine gl_yv (yv_load tab_ok (gok_none rfl) rfl rfl (fun _ => rfl) c_mem (fun _ => c_lds)) rfl rfl ?_)
      | (refine gl_any0 ?_; (refine gl_ev (ev_callOw rfl rfl ent206 rfl rfl rfl (fun W hW => ct_refsOwn t p c W) ?_) rfl rfl; intro q_ c_ sp_ hw_))
      | (refine gl_box0 ?_; first | (refine gl_box_agg rfl rfl rfl rfl rfl ?_; intro g_ hg_) | (refine gl_box_one rfl rfl rfl rfl rfl rfl ?_; intro g_ hg_) | (refine gl_box rfl rfl rfl rfl rfl ?_; intro g_ hg_))
      | (refine gl_any0 ?_; refine gl_pure tab_ok rfl rfl rfl rfl rfl rfl ?_))
    | (refine gc_gate ?_; first
      | refine gc_seq ?_
      | refine gc_region ?_
      | refine gc_block ?_)
    | (refine ge_gate ?_; first
      | ((with_reducible refine ge_gT ?_); first | with_reducible refine ge_then ?_ | with_reducible refine ge_then_exit ?_ | with_reducible refine ge_then_ret ?_))
  refine gc_loop (α := Nat × Array MapEntry × Nat) (fun x => [(1, true, .map (some g)), (2, true, .pointer (some ⟨g_, 0, none⟩)), (9, true, .slice (q_.map ad) (own t).length c_), (10, true, .int .i64 (own t).length), (11, true, .int .i64 (x.1 : Int))])
    (fun x => ow q_ true (cat Cell.l (own t) ++ sp_) 25 ++ [(g_, true, .cells (t.l p c).toArray 28 (0, 0)), (g, true, .map x.2.1 x.2.2)]) (fun x => x.1 ≤ (own t).length ∧ Mp kCell vB (addAll ((own t).take x.1) m) x.2.1 x.2.2) (fun x => (own t).length - x.1) (0, es, clock) c_frs (List.Sublist.refl _) ⟨Nat.zero_le _, hm⟩ ?_
  rintro ⟨i, es1, clock1⟩ ⟨hi, hm1⟩
  dsimp only at hi hm1 ⊢
  repeat' first
    | refine gl_yv (yv_idxO tab_ok hw_ (gok_none rfl) rfl rfl rfl rfl rfl rfl (fun _ => rfl) (fun _ => rfl) c_bnd) rfl rfl ?_
    | refine gl_yv (yv_ldO tab_ok c_oa hw_ (gok_none rfl) rfl rfl (fun _ => rfl) (fun _ => lds_cat cell_len (by omega) rfl rfl rfl) c_bnd) rfl rfl ?_
    | refine gl_ev0 (ev_mapUpdate (kf := kCell) (vf := vB) (k := (own t).getD i default) (u := true) key_cell tab_ok rfl rfl rfl rfl rfl rfl hm1 c_mem (fun es2 clock2 hm2 => ⟨_, c_ku, ?_⟩)) rfl
    | (refine gl_gate ?_; first
      | refine gl_nil ?_
      | (refine gl_load0 ?_; refine gl_yv (yv_load tab_ok (gok_none rfl) rfl rfl (fun _ => rfl) c_mem (fun _ => c_lds)) rfl rfl ?_)
      | (refine gl_add0 ?_; refine gl_yv (yv_add tab_ok (gok_none rfl) rfl rfl rfl rfl (fun _ => allT_of rfl) (by intro _; omega)) rfl rfl ?_)
      | (refine gl_alc0 ?_; (refine gl_alloc tab_ok rfl rfl rfl rfl rfl ?_; intro g_ hg_))
      | (refine gl_sto0 ?_; refine gl_store tab_ok rfl rfl rfl rfl rfl rfl rfl c_one rfl c_ku ?_)
      | (refine gl_any0 ?_; refine gl_pure tab_ok rfl rfl rfl rfl rfl rfl ?_))
    | (refine gc_gate ?_; first
      | refine gc_seq ?_
      | refine gc_region ?_
      | (refine gc_cond rfl ?_ ?_ <;> intro h_ <;> have hd_ := h_ <;> (try simp only [bytes_beq, cell_beq, val_beq, stamp_beq, decide_eq_true_eq, decide_eq_false_iff_not, Bool.and_eq_true, Bool.or_eq_true, Bool.or_eq_false_iff, Bool.not_eq_true', Bool.not_eq_false', Bool.not_true, Bool.not_false, Bool.false_or, Bool.true_and, Bool.and_true, Bool.or_false, beq_iff_eq, bne_iff_ne, beq_eq_false_iff_ne, bne_eq_false_iff_eq, ne_eq, Bool.false_eq_true, reduceCtorEq] at hd_) <;> (try (exfalso; omega)))
      | refine gc_block ?_
      | refine gc_exit ?_
      | refine gc_skip ?_)
    | (refine ge_gate ?_; first
      | ((with_reducible refine ge_gT ?_); first | with_reducible refine ge_then ?_ | with_reducible refine ge_then_exit ?_ | with_reducible refine ge_then_ret ?_)
      | ((with_reducible refine ge_gK ?_); first | with_reducible refine ge_block ?_ | refine ge_block_exit ?_ | refine ge_block_pass rfl ?_ | with_reducible refine ge_block_ret ?_))
  · refine ge_round (i + 1, es2, clock2) ⟨by omega, ?_⟩ (by show (own t).length - (i + 1) < (own t).length - i; omega) c_frs (List.Sublist.cons _ (List.Sublist.refl _))
    show Mp kCell vB (addAll ((own t).take (i + 1)) m) es2 clock2
    rw [take_succD _ _ (by omega), addAll_snoc]
    exact hm2
  have hi2 : i = (own t).length := by omega
  subst hi2
  rw [List.take_length] at hm1
  have hkl := t.kids_len
  refine gc_loop (α := Nat × Array MapEntry × Nat) (fun x => [(1, true, .map (some g)), (19, true, .slice p t.kids.length c), (20, true, .int .i64 t.kids.length), (21, true, .int .i64 (x.1 : Int))])
    (fun x => [(g, true, .map x.2.1 x.2.2)]) (fun x => x.1 ≤ t.kids.length ∧ Mp kCell vB (readL (t.kids.take x.1) (addAll (own t) m)) x.2.1 x.2.2) (fun x => t.kids.length - x.1) (0, es1, clock1) c_frs ?_ ⟨Nat.zero_le _, by rw [List.take_zero, readL]; exact hm1⟩ ?_
  · exact (List.Sublist.cons _ (List.Sublist.refl _)).trans (List.sublist_append_right _ _)
  rintro ⟨j, es3, clock3⟩ ⟨hj, hm3⟩
  dsimp only at hj hm3 ⊢
  repeat' first
    | (refine gl_gate ?_; first
      | refine gl_nil ?_
      | (refine gl_load0 ?_; refine gl_yv (yv_load tab_ok (gok_none rfl) rfl rfl (fun _ => rfl) c_mem (fun _ => c_lds)) rfl rfl ?_)
      | (refine gl_idx0 ?_; refine gl_yv (yv_idxA tab_ok hs (gok_none rfl) rfl rfl rfl rfl rfl rfl (fun _ => rfl) (fun _ => rfl) c_bnd) rfl rfl ?_)
      | (refine gl_load0 ?_; refine gl_yv (yv_ldA0 tab_ok hs c_nm (gok_none rfl) rfl rfl (fun _ => rfl) c_bnd (fun _ => c_lds)) rfl rfl ?_)
      | (refine gl_alc0 ?_; (refine gl_alloc tab_ok rfl rfl rfl rfl rfl ?_; intro g_ hg_))
      | (refine gl_sto0 ?_; refine gl_store tab_ok rfl rfl rfl rfl rfl rfl rfl c_one rfl c_ku ?_)
      | (refine gl_any0 ?_; refine gl_pure tab_ok rfl rfl rfl rfl rfl rfl ?_))
    | (refine gc_gate ?_; first
      | refine gc_seq ?_
      | refine gc_region ?_
      | (refine gc_cond rfl ?_ ?_ <;> intro h_ <;> have hd_ := h_ <;> (try simp only [bytes_beq, cell_beq, val_beq, stamp_beq, decide_eq_true_eq, decide_eq_false_iff_not, Bool.and_eq_true, Bool.or_eq_true, Bool.or_eq_false_iff, Bool.not_eq_true', Bool.not_eq_false', Bool.not_true, Bool.not_false, Bool.false_or, Bool.true_and, Bool.and_true, Bool.or_false, beq_iff_eq, bne_iff_ne, beq_eq_false_iff_ne, bne_eq_false_iff_eq, ne_eq, Bool.false_eq_true, reduceCtorEq] at hd_) <;> (try (exfalso; omega)))
      | refine gc_block ?_
      | refine gc_exit ?_
      | refine gc_skip ?_)
    | (refine ge_gate ?_; first
      | ((with_reducible refine ge_gT ?_); first | with_reducible refine ge_then ?_ | with_reducible refine ge_then_exit ?_ | with_reducible refine ge_then_ret ?_)
      | ((with_reducible refine ge_gK ?_); first | with_reducible refine ge_block ?_ | refine ge_block_exit ?_ | refine ge_block_pass rfl ?_ | with_reducible refine ge_block_ret ?_)
      | ((with_reducible refine ge_gB ?_); first | refine ge_ret1 tab_ok rfl c_rvt ?_ | refine ge_end1 tab_ok rfl c_rvt ?_ | refine ge_ret2 tab_ok rfl c_rvt c_rvt ?_ | refine ge_ret_none rfl ?_ | refine ge_end_none rfl ?_))
  · refine gl_ev (ev_callG (val := fun _ : Array MapEntry × Nat => .tuple #[]) (ob := fun x => .map x.1 x.2) (φ := fun x => Mp kCell vB (readN (t.kids.getD j default) (readL (t.kids.take j) (addAll (own t) m))) x.1 x.2) (g := g) (o1 := .map es3 clock3) rfl rfl ent167 rfl rfl rfl (fun W hW => ih _ (getD_mem t.kids j (by omega)) (kp j) (kc j) g _ es3 clock3 W ((hk j (by omega)).stM hW (fun b hb => by simpa using hg b hb)) (Nat.le_trans (Nat.le_of_lt (Node.kid_count (getD_mem t.kids j (by omega)))) hcnt) hg (hW.kn c_mem) hm3) (fun x hx => ⟨_, c_ku, ?_⟩)) rfl rfl
    repeat' first
      | (refine gl_gate ?_; first
        | refine gl_nil ?_
        | (refine gl_add0 ?_; refine gl_yv (yv_add tab_ok (gok_none rfl) rfl rfl rfl rfl (fun _ => allT_of rfl) (by intro _; omega)) rfl rfl ?_)
        | (refine gl_any0 ?_; refine gl_pure tab_ok rfl rfl rfl rfl rfl rfl ?_))
      | (refine gc_gate ?_; first
        | refine gc_region ?_)
      | (refine ge_gate ?_; first
        | ((with_reducible refine ge_gT ?_); first | with_reducible refine ge_then ?_ | with_reducible refine ge_then_exit ?_ | with_reducible refine ge_then_ret ?_)
        | ((with_reducible refine ge_gK ?_); first | with_reducible refine ge_block ?_ | refine ge_block_exit ?_ | refine ge_block_pass rfl ?_ | with_reducible refine ge_block_ret ?_))
    refine ge_round (j + 1, x.1, x.2) ⟨by omega, ?_⟩ (by show t.kids.length - (j + 1) < t.kids.length - j; omega) c_frs (List.Sublist.cons _ (List.Sublist.refl _))
    show Mp kCell vB (readL (t.kids.take (j + 1)) (addAll (own t) m)) x.1 x.2
    rw [take_succD _ _ (by omega), readL_snoc]
    exact hx
  · intro W hW
    have hj2 : j = t.kids.length := by omega
    subst hj2
    rw [List.take_length, ← readN_eq] at hm3
    exact ⟨(es3, clock3), rfl, hm3, hW⟩
end Go.Proofs.Ytkgjfcjciigcgaa
