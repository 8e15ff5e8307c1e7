/-
  The reference's Reads: what cells any formula reads.
-/
import Derived.Test.YtkgjfcjciigcgaaGoReads
namespace Go.Proofs.Ytkgjfcjciigcgaa
open Go.Proofs.Ytkgjfcjciigcgaa.Sl Go.RowKit
set_option linter.unusedVariables false
set_option linter.unusedSimpArgs false
set_option maxRecDepth 100000

def one1 (t : Node) : List Cell := if t.kind = 2 ∧ rightCell t.cell = true then [t.cell] else []
theorem into_nil (c : Cell) : intoL [] c = [c] := by simp [intoL, intoI]
theorem intoL_in {l : List Cell} {c : Cell} (h : c ∈ l) : intoL l c = l := by unfold intoL; rw [if_pos h]
set_option maxHeartbeats 4000000 in
theorem ct_ReadsR {S : Nat → Prop} : ∀ (t : Node) (p : Option Addr) (c : Nat) (w : World), NodeR S w t p → t.count ≤ 1000000 → Calls Try.prog 99 #[.agg (t.l p c).toArray] w (RetOw w (readsR t).length 3 (cat Cell.l (readsR t)) 25) := by
  intro t
  induction t using Node.ind with
  | h t ih =>
  intro p c w hR hcnt
  obtain ⟨hs, hS, hk⟩ := hR
  rename_i kp kc
  have hown := own_small t
  have hkl := t.kids_len
  refine enter (args := [_]) (M := []) (K := []) Try.func99 rfl Try.ntmps99 rfl (St.refl _ _) ?_
  repeat' first
    | (refine gl_gate ?_; first
      | refine gl_nil ?_
      | (refine gl_load0 ?_; refine gl_yv (yv_load tab_ok (gok_none rfl) rfl rfl (fun _ => rfl) c_mem (fun _ => c_lds)) rfl rfl ?_)
      | (refine gl_calvG ?_; first | refine gl_yd (yd_call c_gok rfl ent89 rfl rfl c_allT (fun _ W hW => ct_RightCell t.cell W)) rfl rfl ?_)
      | (refine gl_pick0 ?_; first | refine gl_yv (yv_and (gok_none rfl) rfl rfl rfl (fun _ => rfl) c_imp2) rfl rfl ?_ | refine gl_yv (yv_or (gok_none rfl) rfl rfl rfl (fun _ => rfl) c_imp2) rfl rfl ?_)
      | (refine gl_loadG ?_; refine gl_yv (yv_load tab_ok c_gok rfl rfl c_imp c_mem (fun _ => c_lds)) rfl rfl ?_)
      | (refine gl_box0 ?_; first | (refine gl_box_agg rfl rfl rfl rfl rfl ?_; intro g_ hg_) | (refine gl_box_one rfl rfl rfl rfl rfl rfl ?_; intro g_ hg_) | (refine gl_box rfl rfl rfl rfl rfl ?_; intro g_ hg_))
      | (refine gl_any0 ?_; refine gl_pure tab_ok rfl rfl rfl rfl rfl rfl ?_)
      | (refine gl_anyG ?_; first | refine gl_yv (yv_pure tab_ok c_gok rfl rfl c_allT) rfl rfl ?_ | refine gl_yv (yv_indexS tab_ok c_gok rfl rfl rfl rfl c_imp c_imp (by intro hq_; (try simp only [Bool.and_eq_true, Bool.not_eq_true', Bool.not_eq_false', Bool.or_eq_false_iff, Bool.or_eq_true, decide_eq_true_eq, decide_eq_false_iff_not, Bool.true_and, Bool.and_true] at hq_); omega)) rfl rfl ?_ | refine gl_yv (yv_indexS (i := 0) tab_ok c_gok rfl rfl rfl rfl c_imp c_imp (by intro hq_; (try simp only [Bool.and_eq_true, Bool.not_eq_true', Bool.not_eq_false', Bool.or_eq_false_iff, Bool.or_eq_true, decide_eq_true_eq, decide_eq_false_iff_not, Bool.true_and, Bool.and_true] at hq_); omega)) rfl rfl ?_))
    | (refine gc_gate ?_; first
      | refine gc_seq ?_
      | refine gc_region ?_)
    | (refine ge_gate ?_; first
      | ((with_reducible refine ge_gT ?_); first | with_reducible refine ge_then ?_ | with_reducible refine ge_then_exit ?_ | with_reducible refine ge_then_ret ?_))
  refine gc_cut (σ := Option Nat × Nat × List Value) (fun x => [(1, true, .pointer (some ⟨g_, 0, none⟩)), (3, true, .slice (x.1.map ad) (one1 t).length x.2.1)]) (fun x => ow x.1 true (cat Cell.l (one1 t) ++ x.2.2) 25 ++ [(g_, true, .cells (t.l p c).toArray 28 (0, 0))]) (fun x => Ow x.1 (one1 t).length x.2.1 3 (cat Cell.l (one1 t)) x.2.2) ?_ ?_
  · (refine gc_cond rfl ?_ ?_ <;> intro h_ <;> have hd_ := h_ <;> (try simp only [bytes_beq, cell_beq, val_beq, stamp_beq, decide_eq_true_eq, decide_eq_false_iff_not, Bool.and_eq_true, Bool.or_eq_true, Bool.or_eq_false_iff, Bool.not_eq_true', Bool.not_eq_false', Bool.not_true, Bool.not_false, Bool.false_or, Bool.true_and, Bool.and_true, Bool.or_false, beq_iff_eq, bne_iff_ne, beq_eq_false_iff_ne, bne_eq_false_iff_eq, ne_eq, Bool.false_eq_true, reduceCtorEq] at hd_) <;> (try (exfalso; omega)))
    · have e1 : one1 t = [t.cell] := by unfold one1; rw [if_pos (by simpa using hd_)]
      rw [e1]
      repeat' first
        | (refine gl_gate ?_; first
          | refine gl_nil ?_
          | (refine gl_load0 ?_; refine gl_yv (yv_load tab_ok (gok_none rfl) rfl rfl (fun _ => rfl) c_mem (fun _ => c_lds)) rfl rfl ?_)
          | (refine gl_any0 ?_; (refine gl_ev (ev_callOw rfl rfl ent172 rfl rfl rfl (fun W hW => ct_IntoNew [] t.cell none 0 0 W rfl SlA.nil (by omega) (by omega) (fun _ => rfl) (by simp)) ?_) rfl rfl; intro p_ c_ sp_ hw_))
          | (refine gl_any0 ?_; refine gl_pure tab_ok rfl rfl rfl rfl rfl rfl ?_))
        | (refine gc_gate ?_; first
          | refine gc_region ?_)
      rw [into_nil] at hw_ ⊢
      exact ge_mid (p_, c_, sp_) hw_ c_frs (List.Sublist.refl _)
    · have e1 : one1 t = [] := by unfold one1; rw [if_neg (by simpa using hd_)]
      rw [e1]
      repeat' first
        | (refine gc_gate ?_; first
          | refine gc_skip ?_)
      exact ge_mid (none, 0, []) Ow.none0 c_frs (List.Sublist.refl _)
  rintro ⟨q, c1, sp⟩ ho
  dsimp only at ho ⊢
  repeat' first
    | (refine gl_gate ?_; first
      | refine gl_nil ?_
      | (refine gl_load0 ?_; refine gl_yv (yv_load tab_ok (gok_none rfl) rfl rfl (fun _ => rfl) c_mem (fun _ => c_lds)) rfl rfl ?_)
      | (refine gl_any0 ?_; refine gl_pure tab_ok rfl rfl rfl rfl rfl rfl ?_))
    | (refine gc_gate ?_; first
      | refine gc_seq ?_
      | refine gc_region ?_)
    | (refine ge_gate ?_; first
      | ((with_reducible refine ge_gT ?_); first | with_reducible refine ge_then ?_ | with_reducible refine ge_then_exit ?_ | with_reducible refine ge_then_ret ?_))
  refine gc_cut (σ := Option Nat × Nat × List Value) (fun x => [(1, true, .pointer (some ⟨g_, 0, none⟩)), (3, true, .slice (x.1.map ad) (intoAll (own t) []).length x.2.1)]) (fun x => ow x.1 true (cat Cell.l (intoAll (own t) []) ++ x.2.2) 25 ++ [(g_, true, .cells (t.l p c).toArray 28 (0, 0))]) (fun x => Ow x.1 (intoAll (own t) []).length x.2.1 3 (cat Cell.l (intoAll (own t) [])) x.2.2) ?_ ?_
  · (refine gc_cond rfl ?_ ?_ <;> intro h_ <;> have hd_ := h_ <;> (try simp only [bytes_beq, cell_beq, val_beq, stamp_beq, decide_eq_true_eq, decide_eq_false_iff_not, Bool.and_eq_true, Bool.or_eq_true, Bool.or_eq_false_iff, Bool.not_eq_true', Bool.not_eq_false', Bool.not_true, Bool.not_false, Bool.false_or, Bool.true_and, Bool.and_true, Bool.or_false, beq_iff_eq, bne_iff_ne, beq_eq_false_iff_ne, bne_eq_false_iff_eq, ne_eq, Bool.false_eq_true, reduceCtorEq] at hd_) <;> (try (exfalso; omega)))
    · have e1 : one1 t = [] := by unfold one1; rw [if_neg (by intro h; rw [hd_] at h; exact absurd h.1 (by decide))]
      have e2 : own t = rangeCells t.cell t.to := by unfold own; rw [if_neg (by intro h; rw [hd_] at h; exact absurd h.1 (by decide)), if_pos hd_]
      rw [e1] at ho ⊢
      repeat' first
        | (refine gl_gate ?_; first
          | refine gl_nil ?_
          | (refine gl_load0 ?_; refine gl_yv (yv_load tab_ok (gok_none rfl) rfl rfl (fun _ => rfl) c_mem (fun _ => c_lds)) rfl rfl ?_)
          | (refine gl_any0 ?_; (refine gl_ev (ev_callOw rfl rfl ent173 rfl rfl rfl (fun W hW => ct_CellsR t.cell t.to W) ?_) rfl rfl; intro p4 c4 sp4 hw4))
          | (refine gl_any0 ?_; refine gl_pure tab_ok rfl rfl rfl rfl rfl rfl ?_))
        | (refine gc_gate ?_; first
          | refine gc_seq ?_
          | refine gc_region ?_
          | refine gc_block ?_)
        | (refine ge_gate ?_; first
          | ((with_reducible refine ge_gT ?_); first | with_reducible refine ge_then ?_ | with_reducible refine ge_then_exit ?_ | with_reducible refine ge_then_ret ?_))
      rw [e2]
      rw [e2] at hown
      generalize hL : rangeCells t.cell t.to = L at *
      refine gc_permK (List.perm_append_comm_assoc ..) ?_
      refine gc_loop (α := Nat × Option Nat × Nat × List Value) (fun x => [(1, true, .pointer (some ⟨g_, 0, none⟩)), (3, true, .slice (x.2.1.map ad) (intoAll (L.take x.1) []).length x.2.2.1), (4, true, .slice (p4.map ad) L.length c4), (5, true, .int .i64 (x.1 : Int))])
        (fun x => ow x.2.1 true (cat Cell.l (intoAll (L.take x.1) []) ++ x.2.2.2) 25 ++ (ow p4 true (cat Cell.l L ++ sp4) 25 ++ [(g_, true, .cells (t.l p c).toArray 28 (0, 0))])) (fun x => x.1 ≤ L.length ∧ Ow x.2.1 (intoAll (L.take x.1) []).length x.2.2.1 3 (cat Cell.l (intoAll (L.take x.1) [])) x.2.2.2) (fun x => L.length - x.1) (0, q, c1, sp) c_frs (List.Sublist.refl _) ⟨Nat.zero_le _, ho⟩ ?_
      rintro ⟨i, q1, c2, sp1⟩ ⟨hi, ho1⟩
      dsimp only at hi ho1 ⊢
      have hll := intoAll_len (L.take i) []
      simp only [List.length_nil, List.length_take] at hll
      generalize hI : intoAll (L.take i) [] = I at *
      repeat' first
        | (refine gl_gate ?_; first
          | refine gl_nil ?_
          | (refine gl_any0 ?_; refine gl_pure tab_ok rfl rfl rfl rfl rfl rfl ?_))
        | (refine gc_gate ?_; first
          | refine gc_seq ?_
          | refine gc_region ?_)
        | (refine ge_gate ?_; first
          | ((with_reducible refine ge_gT ?_); first | with_reducible refine ge_then ?_ | with_reducible refine ge_then_exit ?_ | with_reducible refine ge_then_ret ?_))
      (refine gc_cond rfl ?_ ?_ <;> intro h_ <;> have hd_ := h_ <;> (try simp only [bytes_beq, cell_beq, val_beq, stamp_beq, decide_eq_true_eq, decide_eq_false_iff_not, Bool.and_eq_true, Bool.or_eq_true, Bool.or_eq_false_iff, Bool.not_eq_true', Bool.not_eq_false', Bool.not_true, Bool.not_false, Bool.false_or, Bool.true_and, Bool.and_true, Bool.or_false, beq_iff_eq, bne_iff_ne, beq_eq_false_iff_ne, bne_eq_false_iff_eq, ne_eq, Bool.false_eq_true, reduceCtorEq] at hd_) <;> (try (exfalso; omega)))
      · by_cases hin : L.getD i default ∈ I
        · repeat' first
            | refine gl_idx0 ?_; refine gl_yv (yv_idxO tab_ok hw4 (gok_none rfl) rfl rfl rfl rfl rfl rfl (fun _ => rfl) (fun _ => rfl) c_bnd) rfl rfl ?_
            | refine gl_load0 ?_; refine gl_yv (yv_ldO tab_ok c_oa hw4 (gok_none rfl) rfl rfl (fun _ => rfl) (fun _ => lds_cat len_cell (by omega) rfl rfl rfl) c_bnd) rfl rfl ?_
            | (refine gl_gate ?_; first
              | refine gl_nil ?_
              | (refine gl_add0 ?_; refine gl_yv (yv_add tab_ok (gok_none rfl) rfl rfl rfl rfl (fun _ => allT_of rfl) (by intro _; omega)) rfl rfl ?_)
              | (refine gl_calv0 ?_; first | refine gl_yd (yd_call (gok_none rfl) rfl ent172 rfl rfl (fun _ => allT_of rfl) (fun _ W hW => ct_IntoIn I (L.getD i default) _ _ _ W rfl (slA_cat len_cell rfl hW c_oa ho1) (by omega) hin)) rfl rfl ?_)
              | (refine gl_any0 ?_; refine gl_pure tab_ok rfl rfl rfl rfl rfl rfl ?_))
            | (refine gc_gate ?_; first
              | refine gc_seq ?_
              | refine gc_region ?_
              | refine gc_block ?_
              | refine gc_skip ?_)
            | (refine ge_gate ?_; first
              | ((with_reducible refine ge_gT ?_); first | with_reducible refine ge_then ?_ | with_reducible refine ge_then_exit ?_ | with_reducible refine ge_then_ret ?_)
              | ((with_reducible refine ge_gK ?_); first | with_reducible refine ge_block ?_ | refine ge_block_exit ?_ | refine ge_block_pass rfl ?_ | with_reducible refine ge_block_ret ?_))
          have e3 : intoAll (L.take (i + 1)) [] = I := by rw [intoAll_take _ _ _ (by omega), hI, intoL_in hin]
          refine ge_round (i + 1, q1, c2, sp1) ⟨by omega, ?_⟩ (by show L.length - (i + 1) < L.length - i; omega) ?_ ?_
          all_goals
            dsimp only
            rw [e3]
          · exact ho1
          · exact c_frs
          · exact List.Sublist.refl _
        · repeat' first
            | refine gl_idx0 ?_; refine gl_yv (yv_idxO tab_ok hw4 (gok_none rfl) rfl rfl rfl rfl rfl rfl (fun _ => rfl) (fun _ => rfl) c_bnd) rfl rfl ?_
            | refine gl_load0 ?_; refine gl_yv (yv_ldO tab_ok c_oa hw4 (gok_none rfl) rfl rfl (fun _ => rfl) (fun _ => lds_cat len_cell (by omega) rfl rfl rfl) c_bnd) rfl rfl ?_
            | (refine gl_gate ?_; first
              | refine gl_nil ?_
              | (refine gl_add0 ?_; refine gl_yv (yv_add tab_ok (gok_none rfl) rfl rfl rfl rfl (fun _ => allT_of rfl) (by intro _; omega)) rfl rfl ?_)
              | (refine gl_any0 ?_; (refine gl_ev (ev_callOw rfl rfl ent172 rfl rfl rfl (fun W hW => ct_IntoNew I (L.getD i default) _ _ _ W rfl (slA_cat len_cell rfl hW c_oa ho1) (by omega) ho1.le (fun h => ho1.nil (Option.map_eq_none_iff.1 h)) hin) ?_) rfl rfl; intro p_ c_ sp_ hw_))
              | (refine gl_any0 ?_; refine gl_pure tab_ok rfl rfl rfl rfl rfl rfl ?_))
            | (refine gc_gate ?_; first
              | refine gc_seq ?_
              | refine gc_region ?_
              | refine gc_block ?_
              | refine gc_skip ?_)
            | (refine ge_gate ?_; first
              | ((with_reducible refine ge_gT ?_); first | with_reducible refine ge_then ?_ | with_reducible refine ge_then_exit ?_ | with_reducible refine ge_then_ret ?_)
              | ((with_reducible refine ge_gK ?_); first | with_reducible refine ge_block ?_ | refine ge_block_exit ?_ | refine ge_block_pass rfl ?_ | with_reducible refine ge_block_ret ?_))
          have e3 : intoAll (L.take (i + 1)) [] = intoL I (L.getD i default) := by rw [intoAll_take _ _ _ (by omega), hI]
          refine ge_round (i + 1, p_, c_, sp_) ⟨by omega, ?_⟩ (by show L.length - (i + 1) < L.length - i; omega) ?_ ?_
          all_goals
            dsimp only
            rw [e3]
          · exact hw_
          · exact c_frs
          · exact List.Sublist.append (List.Sublist.refl _) (List.sublist_append_right _ _)
      · repeat' first
          | (refine gc_gate ?_; first
            | refine gc_exit ?_)
          | (refine ge_gate ?_; first
            | ((with_reducible refine ge_gT ?_); first | with_reducible refine ge_then ?_ | with_reducible refine ge_then_exit ?_ | with_reducible refine ge_then_ret ?_)
            | ((with_reducible refine ge_gK ?_); first | with_reducible refine ge_block ?_ | refine ge_block_exit ?_ | refine ge_block_pass rfl ?_ | with_reducible refine ge_block_ret ?_))
        have h1 : i = L.length := by omega
        rw [h1, List.take_length] at hI
        rw [hI]
        exact ge_mid (q1, c2, sp1) ho1 c_frs (List.Sublist.append (List.Sublist.refl _) (List.sublist_append_right _ _))
    · have e2 : own t = one1 t := by unfold own one1; rw [if_neg hd_]
      have e3 : intoAll (own t) [] = one1 t := by
        rw [e2]
        unfold one1
        split
        · exact into_nil _
        · rfl
      rw [e3]
      repeat' first
        | (refine gc_gate ?_; first
          | refine gc_skip ?_)
      exact ge_mid (q, c1, sp) ho c_frs (List.Sublist.refl _)
  clear ho sp c1 q
  rintro ⟨q, c1, sp⟩ ho
  dsimp only at ho ⊢
  repeat' first
    | (refine gl_gate ?_; first
      | refine gl_nil ?_
      | (refine gl_any0 ?_; refine gl_pure tab_ok rfl rfl rfl rfl rfl rfl ?_))
    | (refine gc_gate ?_; first
      | refine gc_seq ?_
      | refine gc_region ?_
      | refine gc_block ?_)
    | (refine ge_gate ?_; first
      | ((with_reducible refine ge_gT ?_); first | with_reducible refine ge_then ?_ | with_reducible refine ge_then_exit ?_ | with_reducible refine ge_then_ret ?_))
  refine gc_loop (α := Nat × Option Nat × Nat × List Value) (fun x => [(1, true, .pointer (some ⟨g_, 0, none⟩)), (3, true, .slice (x.2.1.map ad) (readsRL (t.kids.take x.1) (intoAll (own t) [])).length x.2.2.1), (6, true, .int .i64 (x.1 : Int))])
    (fun x => ow x.2.1 true (cat Cell.l (readsRL (t.kids.take x.1) (intoAll (own t) [])) ++ x.2.2.2) 25 ++ [(g_, true, .cells (t.l p c).toArray 28 (0, 0))]) (fun x => x.1 ≤ t.kids.length ∧ Ow x.2.1 (readsRL (t.kids.take x.1) (intoAll (own t) [])).length x.2.2.1 3 (cat Cell.l (readsRL (t.kids.take x.1) (intoAll (own t) []))) x.2.2.2) (fun x => t.kids.length - x.1) (0, q, c1, sp) c_frs (List.Sublist.refl _) ⟨Nat.zero_le _, ho⟩ ?_
  clear ho sp c1 q
  rintro ⟨j, q, c1, sp⟩ ⟨hj, ho⟩
  dsimp only at hj ho ⊢
  have hll0 := readsRL_take_len0 t j hj
  repeat' first
    | (refine gl_gate ?_; first
      | refine gl_nil ?_
      | (refine gl_load0 ?_; refine gl_yv (yv_load tab_ok (gok_none rfl) rfl rfl (fun _ => rfl) c_mem (fun _ => c_lds)) rfl rfl ?_)
      | (refine gl_any0 ?_; refine gl_pure tab_ok rfl rfl rfl rfl rfl rfl ?_))
    | (refine gc_gate ?_; first
      | refine gc_seq ?_
      | refine gc_region ?_)
    | (refine ge_gate ?_; first
      | ((with_reducible refine ge_gT ?_); first | with_reducible refine ge_then ?_ | with_reducible refine ge_then_exit ?_ | with_reducible refine ge_then_ret ?_))
  (refine gc_cond rfl ?_ ?_ <;> intro h_ <;> have hd_ := h_ <;> (try simp only [bytes_beq, cell_beq, val_beq, stamp_beq, decide_eq_true_eq, decide_eq_false_iff_not, Bool.and_eq_true, Bool.or_eq_true, Bool.or_eq_false_iff, Bool.not_eq_true', Bool.not_eq_false', Bool.not_true, Bool.not_false, Bool.false_or, Bool.true_and, Bool.and_true, Bool.or_false, beq_iff_eq, bne_iff_ne, beq_eq_false_iff_ne, bne_eq_false_iff_eq, ne_eq, Bool.false_eq_true, reduceCtorEq] at hd_) <;> (try (exfalso; omega)))
  · have hjk : j < t.kids.length := by omega
    have hlt := readsRL_take_len t j
    have hkid := getD_mem t.kids j hjk
    have hrl := readsR_len (t.kids.getD j default)
    have hkc := Node.kid_count hkid
    generalize hB : readsRL (t.kids.take j) (intoAll (own t) []) = B at *
    repeat' first
      | (refine gl_gate ?_; first
        | refine gl_nil ?_
        | (refine gl_load0 ?_; refine gl_yv (yv_load tab_ok (gok_none rfl) rfl rfl (fun _ => rfl) c_mem (fun _ => c_lds)) rfl rfl ?_)
        | (refine gl_idx0 ?_; refine gl_yv (yv_idxA tab_ok hs (gok_none rfl) rfl rfl rfl rfl rfl rfl (fun _ => rfl) (fun _ => rfl) c_bnd) rfl rfl ?_)
        | (refine gl_load0 ?_; refine gl_yv (yv_ldA tab_ok hs c_nm (gok_none rfl) rfl rfl (fun _ => rfl) c_bnd (fun _ => c_lds)) rfl rfl ?_)
        | (refine gl_any0 ?_; (refine gl_ev (ev_callOw rfl rfl ent99 rfl rfl rfl (fun W hW => ih _ hkid (kp j) (kc j) W ((hk j hjk).st hW) (by omega)) ?_) rfl rfl; intro p4 c4 sp4 hw4))
        | (refine gl_any0 ?_; refine gl_pure tab_ok rfl rfl rfl rfl rfl rfl ?_))
      | (refine gc_gate ?_; first
        | refine gc_seq ?_
        | refine gc_region ?_
        | refine gc_block ?_
        | refine gc_skip ?_)
      | (refine ge_gate ?_; first
        | ((with_reducible refine ge_gT ?_); first | with_reducible refine ge_then ?_ | with_reducible refine ge_then_exit ?_ | with_reducible refine ge_then_ret ?_))
    generalize hL : readsR (t.kids.getD j default) = L at *
    refine gc_permK (List.perm_append_comm_assoc ..) ?_
    refine gc_loop (α := Nat × Option Nat × Nat × List Value) (fun x => [(1, true, .pointer (some ⟨g_, 0, none⟩)), (3, true, .slice (x.2.1.map ad) (intoAll (L.take x.1) B).length x.2.2.1), (6, true, .int .i64 (j : Int)), (7, true, .slice (p4.map ad) L.length c4), (8, true, .int .i64 (x.1 : Int))])
      (fun x => ow x.2.1 true (cat Cell.l (intoAll (L.take x.1) B) ++ x.2.2.2) 25 ++ (ow p4 true (cat Cell.l L ++ sp4) 25 ++ [(g_, true, .cells (t.l p c).toArray 28 (0, 0))])) (fun x => x.1 ≤ L.length ∧ Ow x.2.1 (intoAll (L.take x.1) B).length x.2.2.1 3 (cat Cell.l (intoAll (L.take x.1) B)) x.2.2.2) (fun x => L.length - x.1) (0, q, c1, sp) c_frs (List.Sublist.refl _) ⟨Nat.zero_le _, ho⟩ ?_
    clear ho sp c1 q
    rintro ⟨i, q1, c2, sp1⟩ ⟨hi, ho1⟩
    dsimp only at hi ho1 ⊢
    have hll := hlt i hjk
    generalize hI : intoAll (L.take i) B = I at *
    repeat' first
      | (refine gl_gate ?_; first
        | refine gl_nil ?_
        | (refine gl_any0 ?_; refine gl_pure tab_ok rfl rfl rfl rfl rfl rfl ?_))
      | (refine gc_gate ?_; first
        | refine gc_seq ?_
        | refine gc_region ?_)
      | (refine ge_gate ?_; first
        | ((with_reducible refine ge_gT ?_); first | with_reducible refine ge_then ?_ | with_reducible refine ge_then_exit ?_ | with_reducible refine ge_then_ret ?_))
    (refine gc_cond rfl ?_ ?_ <;> intro h_ <;> have hd_ := h_ <;> (try simp only [bytes_beq, cell_beq, val_beq, stamp_beq, decide_eq_true_eq, decide_eq_false_iff_not, Bool.and_eq_true, Bool.or_eq_true, Bool.or_eq_false_iff, Bool.not_eq_true', Bool.not_eq_false', Bool.not_true, Bool.not_false, Bool.false_or, Bool.true_and, Bool.and_true, Bool.or_false, beq_iff_eq, bne_iff_ne, beq_eq_false_iff_ne, bne_eq_false_iff_eq, ne_eq, Bool.false_eq_true, reduceCtorEq] at hd_) <;> (try (exfalso; omega)))
    · by_cases hin : L.getD i default ∈ I
      · repeat' first
          | refine gl_idx0 ?_; refine gl_yv (yv_idxO tab_ok hw4 (gok_none rfl) rfl rfl rfl rfl rfl rfl (fun _ => rfl) (fun _ => rfl) c_bnd) rfl rfl ?_
          | refine gl_load0 ?_; refine gl_yv (yv_ldO tab_ok c_oa hw4 (gok_none rfl) rfl rfl (fun _ => rfl) (fun _ => lds_cat len_cell (by omega) rfl rfl rfl) c_bnd) rfl rfl ?_
          | (refine gl_gate ?_; first
            | refine gl_nil ?_
            | (refine gl_add0 ?_; refine gl_yv (yv_add tab_ok (gok_none rfl) rfl rfl rfl rfl (fun _ => allT_of rfl) (by intro _; omega)) rfl rfl ?_)
            | (refine gl_calv0 ?_; first | refine gl_yd (yd_call (gok_none rfl) rfl ent172 rfl rfl (fun _ => allT_of rfl) (fun _ W hW => ct_IntoIn I (L.getD i default) _ _ _ W rfl (slA_cat len_cell rfl hW c_oa ho1) (by omega) hin)) rfl rfl ?_)
            | (refine gl_any0 ?_; refine gl_pure tab_ok rfl rfl rfl rfl rfl rfl ?_))
          | (refine gc_gate ?_; first
            | refine gc_seq ?_
            | refine gc_region ?_
            | refine gc_block ?_
            | refine gc_skip ?_)
          | (refine ge_gate ?_; first
            | ((with_reducible refine ge_gT ?_); first | with_reducible refine ge_then ?_ | with_reducible refine ge_then_exit ?_ | with_reducible refine ge_then_ret ?_)
            | ((with_reducible refine ge_gK ?_); first | with_reducible refine ge_block ?_ | refine ge_block_exit ?_ | refine ge_block_pass rfl ?_ | with_reducible refine ge_block_ret ?_))
        have e3 : intoAll (L.take (i + 1)) B = I := by rw [intoAll_take _ _ _ (by omega), hI, intoL_in hin]
        refine ge_round (i + 1, q1, c2, sp1) ⟨by omega, ?_⟩ (by show L.length - (i + 1) < L.length - i; omega) ?_ ?_
        all_goals
          dsimp only
          rw [e3]
        · exact ho1
        · exact c_frs
        · exact List.Sublist.refl _
      · repeat' first
          | refine gl_idx0 ?_; refine gl_yv (yv_idxO tab_ok hw4 (gok_none rfl) rfl rfl rfl rfl rfl rfl (fun _ => rfl) (fun _ => rfl) c_bnd) rfl rfl ?_
          | refine gl_load0 ?_; refine gl_yv (yv_ldO tab_ok c_oa hw4 (gok_none rfl) rfl rfl (fun _ => rfl) (fun _ => lds_cat len_cell (by omega) rfl rfl rfl) c_bnd) rfl rfl ?_
          | (refine gl_gate ?_; first
            | refine gl_nil ?_
            | (refine gl_add0 ?_; refine gl_yv (yv_add tab_ok (gok_none rfl) rfl rfl rfl rfl (fun _ => allT_of rfl) (by intro _; omega)) rfl rfl ?_)
            | (refine gl_any0 ?_; (refine gl_ev (ev_callOw rfl rfl ent172 rfl rfl rfl (fun W hW => ct_IntoNew I (L.getD i default) _ _ _ W rfl (slA_cat len_cell rfl hW c_oa ho1) (by omega) ho1.le (fun h => ho1.nil (Option.map_eq_none_iff.1 h)) hin) ?_) rfl rfl; intro p_ c_ sp_ hw_))
            | (refine gl_any0 ?_; refine gl_pure tab_ok rfl rfl rfl rfl rfl rfl ?_))
          | (refine gc_gate ?_; first
            | refine gc_seq ?_
            | refine gc_region ?_
            | refine gc_block ?_
            | refine gc_skip ?_)
          | (refine ge_gate ?_; first
            | ((with_reducible refine ge_gT ?_); first | with_reducible refine ge_then ?_ | with_reducible refine ge_then_exit ?_ | with_reducible refine ge_then_ret ?_)
            | ((with_reducible refine ge_gK ?_); first | with_reducible refine ge_block ?_ | refine ge_block_exit ?_ | refine ge_block_pass rfl ?_ | with_reducible refine ge_block_ret ?_))
        have e3 : intoAll (L.take (i + 1)) B = intoL I (L.getD i default) := by rw [intoAll_take _ _ _ (by omega), hI]
        refine ge_round (i + 1, p_, c_, sp_) ⟨by omega, ?_⟩ (by show L.length - (i + 1) < L.length - i; omega) ?_ ?_
        all_goals
          dsimp only
          rw [e3]
        · exact hw_
        · exact c_frs
        · exact List.Sublist.append (List.Sublist.refl _) (List.sublist_append_right _ _)
    · repeat' first
        | (refine gl_gate ?_; first
          | refine gl_nil ?_
          | (refine gl_add0 ?_; refine gl_yv (yv_add tab_ok (gok_none rfl) rfl rfl rfl rfl (fun _ => allT_of rfl) (by intro _; omega)) rfl rfl ?_)
          | (refine gl_any0 ?_; refine gl_pure tab_ok rfl rfl rfl rfl rfl rfl ?_))
        | (refine gc_gate ?_; first
          | refine gc_region ?_
          | refine gc_exit ?_)
        | (refine ge_gate ?_; first
          | ((with_reducible refine ge_gT ?_); first | with_reducible refine ge_then ?_ | with_reducible refine ge_then_exit ?_ | with_reducible refine ge_then_ret ?_)
          | ((with_reducible refine ge_gK ?_); first | with_reducible refine ge_block ?_ | refine ge_block_exit ?_ | refine ge_block_pass rfl ?_ | with_reducible refine ge_block_ret ?_))
      have h1 : i = L.length := by omega
      rw [h1, List.take_length] at hI
      have e4 : readsRL (t.kids.take (j + 1)) (intoAll (own t) []) = I := by rw [take_succD _ _ hjk, readsRL_snoc, hB, hL, hI]
      refine ge_round (j + 1, q1, c2, sp1) ⟨by omega, ?_⟩ (by show t.kids.length - (j + 1) < t.kids.length - j; omega) ?_ ?_
      all_goals
        dsimp only
        rw [e4]
      · exact ho1
      · exact c_frs
      · exact List.Sublist.append (List.Sublist.refl _) (List.sublist_append_right _ _)
  · have hj2 : j = t.kids.length := by omega
    subst hj2
    rw [List.take_length, ← readsR_eq] at ho ⊢
    repeat' first
      | (refine gl_gate ?_; first
        | refine gl_nil ?_
        | (refine gl_any0 ?_; refine gl_pure tab_ok rfl rfl rfl rfl rfl rfl ?_))
      | (refine gc_gate ?_; first
        | refine gc_seq ?_
        | refine gc_region ?_
        | refine gc_exit ?_
        | refine gc_ret ?_)
      | (refine ge_gate ?_; first
        | ((with_reducible refine ge_gT ?_); first | with_reducible refine ge_then ?_ | with_reducible refine ge_then_exit ?_ | with_reducible refine ge_then_ret ?_)
        | ((with_reducible refine ge_gK ?_); first | with_reducible refine ge_block ?_ | refine ge_block_exit ?_ | refine ge_block_pass rfl ?_ | with_reducible refine ge_block_ret ?_)
        | ((with_reducible refine ge_gB ?_); first | refine ge_ret1 tab_ok rfl c_rvt ?_ | refine ge_end1 tab_ok rfl c_rvt ?_ | refine ge_ret2 tab_ok rfl c_rvt c_rvt ?_ | refine ge_ret_none rfl ?_ | refine ge_end_none rfl ?_))
    intro W hW
    exact ⟨q, c1, sp, rfl, ho, hW.drop (List.sublist_append_left _ _)⟩
end Go.Proofs.Ytkgjfcjciigcgaa
