/-
  SessionPlays: the walk.
-/
import Derived.Test.YtkgjfcjciigcgaaGoSesH
namespace Go.Proofs.Ytkgjfcjciigcgaa
open Go.Proofs.Ytkgjfcjciigcgaa.Sl Go.RowKit
set_option linter.unusedVariables false
set_option linter.unusedSimpArgs false
set_option linter.unusedSectionVars false
set_option maxRecDepth 100000

set_option maxHeartbeats 4000000 in
theorem walk_SessionPlays (sts : List Stp) (p : Option Addr) (n cap : Nat) (hn : n = sts.length) (hn9 : n ≤ 9223372036854775807) (w : World) (hs : SlA w 13 p n (fun i => (sts.getD i default).l)) (hcs : ∀ x ∈ sts, (SlA w 6 x.cs.p x.cs.xs.length (fun j => (x.cs.xs.getD j default).l) ∧ x.cs.xs.length ≤ 9223372036854775807) ∧ (SlA w 6 x.r.p x.r.rep.cells.length (fun j => (x.r.rep.cells.getD j default).l) ∧ x.r.rep.cells.length ≤ 9223372036854775807)) :
    Calls Try.prog 27 #[.slice p n cap] w fun e w' => e = .returned (.bool true) ∧ Bl w w' := by
  refine enter (args := [_]) (M := []) (K := []) Try.func27 rfl Try.ntmps27 rfl (St.refl _ _) ?_
  repeat' first
    | (refine gl_gate ?_; first
      | refine gl_nil ?_
      | (refine gl_calv0 ?_; first | refine gl_yd (yd_call (gok_none rfl) rfl ent55 rfl rfl (fun _ => allT_of rfl) (fun _ W hW => ct_aliveS W)) rfl rfl ?_)
      | (refine gl_pick0 ?_; first | refine gl_yv (yv_and (gok_none rfl) rfl rfl rfl (fun _ => rfl) c_imp2) rfl rfl ?_ | refine gl_yv (yv_or (gok_none rfl) rfl rfl rfl (fun _ => rfl) c_imp2) rfl rfl ?_)
      | (refine gl_box0 ?_; first | (refine gl_box_agg rfl rfl rfl rfl rfl ?_; intro g_ hg_) | (refine gl_box_one rfl rfl rfl rfl rfl rfl ?_; intro g_ hg_) | (refine gl_box rfl rfl rfl rfl rfl ?_; intro g_ hg_))
      | (refine gl_any0 ?_; refine gl_pure tab_ok rfl rfl rfl rfl rfl rfl ?_)
      | (refine gl_anyG ?_; first | refine gl_yv (yv_pure tab_ok c_gok rfl rfl c_allT) rfl rfl ?_ | refine gl_yv (yv_indexS tab_ok c_gok rfl rfl rfl rfl c_imp c_imp (by intro hq_; (try simp only [Bool.and_eq_true, Bool.not_eq_true', Bool.not_eq_false', Bool.or_eq_false_iff, Bool.or_eq_true, decide_eq_true_eq, decide_eq_false_iff_not, Bool.true_and, Bool.and_true] at hq_); omega)) rfl rfl ?_ | refine gl_yv (yv_indexS (i := 0) tab_ok c_gok rfl rfl rfl rfl c_imp c_imp (by intro hq_; (try simp only [Bool.and_eq_true, Bool.not_eq_true', Bool.not_eq_false', Bool.or_eq_false_iff, Bool.or_eq_true, decide_eq_true_eq, decide_eq_false_iff_not, Bool.true_and, Bool.and_true] at hq_); omega)) rfl rfl ?_))
    | (refine gc_gate ?_; first
      | refine gc_seq ?_
      | refine gc_region ?_
      | (refine gc_cond rfl ?_ ?_ <;> intro h_ <;> have hd_ := h_ <;> (try simp only [bytes_beq, cell_beq, val_beq, stamp_beq, decide_eq_true_eq, decide_eq_false_iff_not, Bool.and_eq_true, Bool.or_eq_true, Bool.or_eq_false_iff, Bool.not_eq_true', Bool.not_eq_false', Bool.not_true, Bool.not_false, Bool.false_or, Bool.true_and, Bool.and_true, Bool.or_false, beq_iff_eq, bne_iff_ne, beq_eq_false_iff_ne, bne_eq_false_iff_eq, ne_eq, Bool.false_eq_true, reduceCtorEq] at hd_) <;> (try (exfalso; omega)))
      | refine gc_block ?_
      | refine gc_ret ?_
      | refine gc_skip ?_)
    | (refine ge_gate ?_; first
      | ((with_reducible refine ge_gT ?_); first | with_reducible refine ge_then ?_ | with_reducible refine ge_then_exit ?_ | with_reducible refine ge_then_ret ?_)
      | ((with_reducible refine ge_gB ?_); first | refine ge_ret1 tab_ok rfl c_rvt ?_ | refine ge_end1 tab_ok rfl c_rvt ?_ | refine ge_ret2 tab_ok rfl c_rvt c_rvt ?_ | refine ge_ret_none rfl ?_ | refine ge_end_none rfl ?_))
  · intro W hW
    exact ⟨rfl, hW.below0⟩
  rename_i ga hga gb hgb
  generalize g_ = gc at *
  refine gc_loopW (α := X3) (fun x => [(0, true, .slice p n cap), (4, true, .pointer (some ⟨ga, 0, none⟩)), (5, true, .pointer (some ⟨gb, 0, none⟩)), (6, true, .pointer (some ⟨gc, 0, none⟩)), (7, true, .int .i64 (x.i : Int))])
    (fun x => x.K ga gb gc) (fun x W => Inv3 n ga gb gc x W) (fun x => n - x.i) ⟨0, sx0, none, 0, [], sx0, none, 0, [], sx0, none, 0, []⟩ c_frs (List.Sublist.refl _)
    (fun W hW => ⟨Nat.zero_le _, Ses.of (k := true) (s := sx0) (q := none) (c := 0) (sp := []) hW c_sa Ow.none0 (by decide) Im.nil (fun r hr => by cases hr), Ses.of (k := true) (s := sx0) (q := none) (c := 0) (sp := []) hW c_sa Ow.none0 (by decide) Im.nil (fun r hr => by cases hr), Ses.of (k := false) (s := sx0) (q := none) (c := 0) (sp := []) hW c_sa Ow.none0 (by decide) Im.nil (fun r hr => by cases hr), rfl, ⟨List.Pairwise.nil, fun x hx => (by cases hx), by decide⟩⟩) ?_
  rintro ⟨i, s, q, c, sp, s1, q1, c1, sp1, s2, q2, c2, sp2⟩ W1 hA ⟨hi, ha, hb, hc, he, hok⟩
  dsimp only at hi he hok ⊢
  have hsW := hs.st hA
  have hnm : 0 < n → pb p ∉ wrs (X3.K ⟨i, s, q, c, sp, s1, q1, c1, sp1, s2, q2, c2, sp2⟩ ga gb gc) := fun h => nm_wr hA (hs.lt h) (by simp)
  unfold X3.K at hA ha hb hc hnm ⊢
  dsimp only at hA ha hb hc hnm ⊢
  repeat' first
    | (refine gl_gate ?_; first
      | refine gl_nil ?_
      | (refine gl_load0 ?_; refine gl_yv (yv_load tab_ok (gok_none rfl) rfl rfl (fun _ => rfl) c_mem (fun _ => c_lds)) rfl rfl ?_)
      | (refine gl_idx0 ?_; refine gl_yv (yv_idxA tab_ok hsW (gok_none rfl) rfl rfl rfl rfl rfl rfl (fun _ => rfl) (fun _ => rfl) c_bnd) rfl rfl ?_)
      | (refine gl_load0 ?_; refine gl_yv (yv_ldA0 tab_ok hsW c_nm (gok_none rfl) rfl rfl (fun _ => rfl) c_bnd (fun _ => c_lds)) rfl rfl ?_)
      | (refine gl_alc0 ?_; (refine gl_alloc tab_ok rfl rfl rfl rfl rfl ?_; intro g_ hg_))
      | (refine gl_sto0 ?_; refine gl_store tab_ok rfl rfl rfl rfl rfl rfl rfl c_one rfl c_ku ?_)
      | (refine gl_any0 ?_; refine gl_pure tab_ok rfl rfl rfl rfl rfl rfl ?_))
    | (refine gc_gate ?_; first
      | refine gc_seq ?_
      | refine gc_region ?_
      | refine gc_block ?_
      | (refine gc_cond rfl ?_ ?_ <;> intro h_ <;> have hd_ := h_ <;> (try simp only [bytes_beq, cell_beq, val_beq, stamp_beq, decide_eq_true_eq, decide_eq_false_iff_not, Bool.and_eq_true, Bool.or_eq_true, Bool.or_eq_false_iff, Bool.not_eq_true', Bool.not_eq_false', Bool.not_true, Bool.not_false, Bool.false_or, Bool.true_and, Bool.and_true, Bool.or_false, beq_iff_eq, bne_iff_ne, beq_eq_false_iff_ne, bne_eq_false_iff_eq, ne_eq, Bool.false_eq_true, reduceCtorEq] at hd_) <;> (try (exfalso; omega)))
      | refine gc_exit ?_
      | refine gc_ret ?_
      | refine gc_skip ?_)
    | (refine ge_gate ?_; first
      | ((with_reducible refine ge_gT ?_); first | with_reducible refine ge_then ?_ | with_reducible refine ge_then_exit ?_ | with_reducible refine ge_then_ret ?_)
      | ((with_reducible refine ge_gK ?_); first | with_reducible refine ge_block ?_ | refine ge_block_exit ?_ | refine ge_block_pass rfl ?_ | with_reducible refine ge_block_ret ?_)
      | ((with_reducible refine ge_gB ?_); first | refine ge_ret1 tab_ok rfl c_rvt ?_ | refine ge_end1 tab_ok rfl c_rvt ?_ | refine ge_ret2 tab_ok rfl c_rvt c_rvt ?_ | refine ge_ret_none rfl ?_ | refine ge_end_none rfl ?_))
  · obtain ⟨⟨hc1, hc2⟩, hc3, hc4⟩ := hcs _ (getD_mem sts i (by omega))
    generalize sts.getD i default = st at *
    refine gl_yd (yd_call c_gok rfl ent94 rfl rfl c_allT (fun _ W hW => ct_FewS st.cs.xs _ _ _ W rfl (hc1.st (hA.trans hW)) hc2)) rfl rfl ?_
    repeat' first
      | (refine gl_gate ?_; first
        | (refine gl_loadG ?_; refine gl_yv (yv_load tab_ok c_gok rfl rfl c_imp c_mem (fun _ => c_lds)) rfl rfl ?_)
        | (refine gl_any0 ?_; refine gl_pure tab_ok rfl rfl rfl rfl rfl rfl ?_)
        | (refine gl_anyG ?_; first | refine gl_yv (yv_pure tab_ok c_gok rfl rfl c_allT) rfl rfl ?_ | refine gl_yv (yv_indexS tab_ok c_gok rfl rfl rfl rfl c_imp c_imp (by intro hq_; (try simp only [Bool.and_eq_true, Bool.not_eq_true', Bool.not_eq_false', Bool.or_eq_false_iff, Bool.or_eq_true, decide_eq_true_eq, decide_eq_false_iff_not, Bool.true_and, Bool.and_true] at hq_); omega)) rfl rfl ?_ | refine gl_yv (yv_indexS (i := 0) tab_ok c_gok rfl rfl rfl rfl c_imp c_imp (by intro hq_; (try simp only [Bool.and_eq_true, Bool.not_eq_true', Bool.not_eq_false', Bool.or_eq_false_iff, Bool.or_eq_true, decide_eq_true_eq, decide_eq_false_iff_not, Bool.true_and, Bool.and_true] at hq_); omega)) rfl rfl ?_))
    refine gl_yd (yd_call c_gok rfl ent94 rfl rfl c_allT (fun _ W hW => ct_FewS st.r.rep.cells _ _ _ W rfl (hc3.st (hA.trans hW)) hc4)) rfl rfl ?_
    repeat' first
      | (refine gl_gate ?_; first
        | refine gl_nil ?_
        | (refine gl_pick0 ?_; first | refine gl_yv (yv_and (gok_none rfl) rfl rfl rfl (fun _ => rfl) c_imp2) rfl rfl ?_ | refine gl_yv (yv_or (gok_none rfl) rfl rfl rfl (fun _ => rfl) c_imp2) rfl rfl ?_)
        | (refine gl_anyG ?_; first | refine gl_yv (yv_pure tab_ok c_gok rfl rfl c_allT) rfl rfl ?_ | refine gl_yv (yv_indexS tab_ok c_gok rfl rfl rfl rfl c_imp c_imp (by intro hq_; (try simp only [Bool.and_eq_true, Bool.not_eq_true', Bool.not_eq_false', Bool.or_eq_false_iff, Bool.or_eq_true, decide_eq_true_eq, decide_eq_false_iff_not, Bool.true_and, Bool.and_true] at hq_); omega)) rfl rfl ?_ | refine gl_yv (yv_indexS (i := 0) tab_ok c_gok rfl rfl rfl rfl c_imp c_imp (by intro hq_; (try simp only [Bool.and_eq_true, Bool.not_eq_true', Bool.not_eq_false', Bool.or_eq_false_iff, Bool.or_eq_true, decide_eq_true_eq, decide_eq_false_iff_not, Bool.true_and, Bool.and_true] at hq_); omega)) rfl rfl ?_))
      | (refine ge_gate ?_; first
        | ((with_reducible refine ge_gT ?_); first | with_reducible refine ge_then ?_ | with_reducible refine ge_then_exit ?_ | with_reducible refine ge_then_ret ?_))
    refine gc_cond rfl ?_ ?_ <;> intro hf_
    · repeat' first
        | (refine gl_gate ?_; first
          | refine gl_nil ?_
          | (refine gl_any0 ?_; refine gl_pure tab_ok rfl rfl rfl rfl rfl rfl ?_))
        | (refine gc_gate ?_; first
          | refine gc_seq ?_
          | refine gc_region ?_
          | refine gc_ret ?_)
        | (refine ge_gate ?_; first
          | ((with_reducible refine ge_gT ?_); first | with_reducible refine ge_then ?_ | with_reducible refine ge_then_exit ?_ | with_reducible refine ge_then_ret ?_)
          | ((with_reducible refine ge_gK ?_); first | with_reducible refine ge_block ?_ | refine ge_block_exit ?_ | refine ge_block_pass rfl ?_ | with_reducible refine ge_block_ret ?_)
          | ((with_reducible refine ge_gB ?_); first | refine ge_ret1 tab_ok rfl c_rvt ?_ | refine ge_end1 tab_ok rfl c_rvt ?_ | refine ge_ret2 tab_ok rfl c_rvt c_rvt ?_ | refine ge_ret_none rfl ?_ | refine ge_end_none rfl ?_))
      intro W hW
      exact ⟨rfl, (hA.trans hW).below0⟩
    have hfa : fewL st.cs.xs = true := by
      cases h : fewL st.cs.xs with
      | true => rfl
      | false => rw [h] at hf_; simp at hf_
    have hfb : fewL st.r.rep.cells = true := by
      cases h : fewL st.r.rep.cells with
      | true => rfl
      | false => rw [h] at hf_; simp at hf_
    have hca := few60 hfa
    have hcb := few60 hfb
    clear hf_ hfa hfb
    have hsc := hc1.st hA
    have hnc : 0 < st.cs.xs.length → pb st.cs.p ∉ wrs (s2.K false gc q2 c2 sp2 (s1.K true gb q1 c1 sp1 (s.K true ga q c sp []))) := fun h => nm_wr hA (hc1.lt h) (by simp)
    repeat' first
      | (refine gl_gate ?_; first
        | refine gl_nil ?_
        | (refine gl_any0 ?_; refine gl_pure tab_ok rfl rfl rfl rfl rfl rfl ?_))
      | (refine gc_gate ?_; first
        | refine gc_seq ?_
        | refine gc_region ?_
        | refine gc_block ?_
        | refine gc_skip ?_)
      | (refine ge_gate ?_; first
        | ((with_reducible refine ge_gT ?_); first | with_reducible refine ge_then ?_ | with_reducible refine ge_then_exit ?_ | with_reducible refine ge_then_ret ?_))
    refine gc_loop (α := Nat) (fun j => [(0, true, .slice p n cap), (4, true, .pointer (some ⟨ga, 0, none⟩)), (5, true, .pointer (some ⟨gb, 0, none⟩)), (6, true, .pointer (some ⟨gc, 0, none⟩)), (7, true, .int .i64 (i : Int)), (8, true, .pointer (some ⟨g_, 0, none⟩)), (9, true, .int .i64 (j : Int))])
      (fun _ => (g_, true, .cells st.l.toArray 141 (0, 0)) :: s2.K false gc q2 c2 sp2 (s1.K true gb q1 c1 sp1 (s.K true ga q c sp []))) (fun j => 1 ≤ j ∧ (j ≤ st.cs.xs.length ∨ j = 1) ∧ ∀ k, k + 1 < j → cLt (st.cs.xs.getD k default).cell (st.cs.xs.getD (k + 1) default).cell) (fun j => st.cs.xs.length - j) 1 c_frs (List.Sublist.refl _) ⟨Nat.le_refl _, Or.inr rfl, fun k hk => by omega⟩ ?_
    rintro j ⟨hj1, hj2, hj3⟩
    repeat' first
      | (refine gl_gate ?_; first
        | refine gl_nil ?_
        | (refine gl_load0 ?_; refine gl_yv (yv_load tab_ok (gok_none rfl) rfl rfl (fun _ => rfl) c_mem (fun _ => c_lds)) rfl rfl ?_)
        | (refine gl_any0 ?_; refine gl_pure tab_ok rfl rfl rfl rfl rfl rfl ?_))
      | (refine gc_gate ?_; first
        | refine gc_seq ?_
        | refine gc_region ?_
        | refine gc_block ?_
        | (refine gc_cond rfl ?_ ?_ <;> intro h_ <;> have hd_ := h_ <;> (try simp only [bytes_beq, cell_beq, val_beq, stamp_beq, decide_eq_true_eq, decide_eq_false_iff_not, Bool.and_eq_true, Bool.or_eq_true, Bool.or_eq_false_iff, Bool.not_eq_true', Bool.not_eq_false', Bool.not_true, Bool.not_false, Bool.false_or, Bool.true_and, Bool.and_true, Bool.or_false, beq_iff_eq, bne_iff_ne, beq_eq_false_iff_ne, bne_eq_false_iff_eq, ne_eq, Bool.false_eq_true, reduceCtorEq] at hd_) <;> (try (exfalso; omega)))
        | refine gc_exit ?_
        | refine gc_skip ?_)
      | (refine ge_gate ?_; first
        | ((with_reducible refine ge_gT ?_); first | with_reducible refine ge_then ?_ | with_reducible refine ge_then_exit ?_ | with_reducible refine ge_then_ret ?_)
        | ((with_reducible refine ge_gK ?_); first | with_reducible refine ge_block ?_ | refine ge_block_exit ?_ | refine ge_block_pass rfl ?_ | with_reducible refine ge_block_ret ?_))
    · repeat' first
        | (refine gq_sub0 ?_; refine gq_yv ((yv_sub tab_ok (gok_none rfl) rfl rfl rfl rfl (fun _ => allT_of rfl) c_bnd).cast (v' := .int .i64 ((j - 1 : Nat) : Int)) (by congr 1; omega)) rfl rfl ?_)
        | (refine gc_gate ?_; first
          | refine gc_quietRo rfl mixed (by decide +kernel) ?_)
        | (refine ge_gate ?_; first
          | ((with_reducible refine ge_gT ?_); first | with_reducible refine ge_then ?_ | with_reducible refine ge_then_exit ?_ | with_reducible refine ge_then_ret ?_))
        | (refine gq_gate ?_; first
          | refine gq_nil ?_
          | (refine gq_load0 ?_; refine gq_yv (yv_load tab_ok (gok_none rfl) rfl rfl (fun _ => rfl) c_mem (fun _ => c_lds)) rfl rfl ?_)
          | (refine gq_idx0 ?_; refine gq_yv (yv_idxA tab_ok hsc (gok_none rfl) rfl rfl rfl rfl rfl rfl (fun _ => rfl) (fun _ => rfl) c_bnd) rfl rfl ?_)
          | (refine gq_load0 ?_; refine gq_yv (yv_ldA0 tab_ok hsc c_nm (gok_none rfl) rfl rfl (fun _ => rfl) c_bnd (fun _ => c_lds)) rfl rfl ?_)
          | (refine gq_calv0 ?_; first | refine gq_yd (yd_call (gok_none rfl) rfl ent121 rfl rfl (fun _ => allT_of rfl) (fun _ W hW => ct_ahead (st.cs.xs.getD (j - 1) default) (st.cs.xs.getD j default) W)) rfl rfl ?_)
          | (refine gq_any0 ?_; refine gq_pure tab_ok rfl rfl rfl rfl rfl rfl ?_))
      · repeat' first
          | (refine gl_gate ?_; first
            | refine gl_nil ?_
            | (refine gl_add0 ?_; refine gl_yv (yv_add tab_ok (gok_none rfl) rfl rfl rfl rfl (fun _ => allT_of rfl) (by intro _; omega)) rfl rfl ?_)
            | (refine gl_any0 ?_; refine gl_pure tab_ok rfl rfl rfl rfl rfl rfl ?_))
          | (refine gc_gate ?_; first
            | refine gc_seq ?_
            | refine gc_region ?_
            | (refine gc_cond rfl ?_ ?_ <;> intro h_ <;> have hd_ := h_ <;> (try simp only [bytes_beq, cell_beq, val_beq, stamp_beq, decide_eq_true_eq, decide_eq_false_iff_not, Bool.and_eq_true, Bool.or_eq_true, Bool.or_eq_false_iff, Bool.not_eq_true', Bool.not_eq_false', Bool.not_true, Bool.not_false, Bool.false_or, Bool.true_and, Bool.and_true, Bool.or_false, beq_iff_eq, bne_iff_ne, beq_eq_false_iff_ne, bne_eq_false_iff_eq, ne_eq, Bool.false_eq_true, reduceCtorEq] at hd_) <;> (try (exfalso; omega)))
            | refine gc_ret ?_
            | refine gc_skip ?_)
          | (refine ge_gate ?_; first
            | ((with_reducible refine ge_gT ?_); first | with_reducible refine ge_then ?_ | with_reducible refine ge_then_exit ?_ | with_reducible refine ge_then_ret ?_)
            | ((with_reducible refine ge_gK ?_); first | with_reducible refine ge_block ?_ | refine ge_block_exit ?_ | refine ge_block_pass rfl ?_ | with_reducible refine ge_block_ret ?_)
            | ((with_reducible refine ge_gB ?_); first | refine ge_ret1 tab_ok rfl c_rvt ?_ | refine ge_end1 tab_ok rfl c_rvt ?_ | refine ge_ret2 tab_ok rfl c_rvt c_rvt ?_ | refine ge_ret_none rfl ?_ | refine ge_end_none rfl ?_))
        · intro W hW
          exact ⟨rfl, (hA.trans hW).below0⟩
        · refine ge_round (j + 1) ⟨by omega, Or.inl (by omega), fun k hk => ?_⟩ (by omega) c_frs (List.Sublist.refl _)
          rcases Nat.lt_or_ge (k + 1) j with h | h
          · exact hj3 k h
          · obtain rfl : j = k + 1 := by omega
            exact aheadL_lt (by simpa using hd_)
    · have hsr : Srt st.cs.xs := srt_step fun k hk => hj3 k (by omega)
      refine gl_evB (evb_ses (k := true) (s := s1) (g := gb) (q := q1) (c := c1) (sp := sp1) (V := (fun v_ _ _ => v_ = .tuple #[])) (t := s1.sg.tell st.r.rep) rfl rfl ent58 rfl rfl rfl c_sa (fun W hW => ct_TellXP s1 gb c1 q1 sp1 _ st.r W (hb.next hW c_sa) (Im.arg hc3 (hA.trans hW) (by omega))) va_c ?_) rfl rfl
      intro Wi3 Wo3 v_ s3_ q3_ c3_ sp3_ hX3 hY3 hZ3 hV_ ht3_ hs3_
      subst hV_
      have hA3 := hA.trans hY3
      have ha3_ := ha.next hY3 (c_sa (P := Sa true s ga q c sp _ _))
      have hc3_ := hc.next hY3 (c_sa (P := Sa false s2 gc q2 c2 sp2 _ _))
      repeat' first
        | (refine gl_gate ?_; first
          | refine gl_nil ?_
          | (refine gl_load0 ?_; refine gl_yv (yv_load tab_ok (gok_none rfl) rfl rfl (fun _ => rfl) c_mem (fun _ => c_lds)) rfl rfl ?_)
          | (refine gl_any0 ?_; refine gl_pure tab_ok rfl rfl rfl rfl rfl rfl ?_))
        | (refine gc_gate ?_; first
          | refine gc_seq ?_
          | refine gc_region ?_
          | refine gc_block ?_
          | (refine gc_cond rfl ?_ ?_ <;> intro h_ <;> have hd_ := h_ <;> (try simp only [bytes_beq, cell_beq, val_beq, stamp_beq, decide_eq_true_eq, decide_eq_false_iff_not, Bool.and_eq_true, Bool.or_eq_true, Bool.or_eq_false_iff, Bool.not_eq_true', Bool.not_eq_false', Bool.not_true, Bool.not_false, Bool.false_or, Bool.true_and, Bool.and_true, Bool.or_false, beq_iff_eq, bne_iff_ne, beq_eq_false_iff_ne, bne_eq_false_iff_eq, ne_eq, Bool.false_eq_true, reduceCtorEq] at hd_) <;> (try (exfalso; omega)))
          | refine gc_skip ?_)
        | (refine ge_gate ?_; first
          | ((with_reducible refine ge_gT ?_); first | with_reducible refine ge_then ?_ | with_reducible refine ge_then_exit ?_ | with_reducible refine ge_then_ret ?_)
          | ((with_reducible refine ge_gK ?_); first | with_reducible refine ge_block ?_ | refine ge_block_exit ?_ | refine ge_block_pass rfl ?_ | with_reducible refine ge_block_ret ?_))
      · refine gp_startC (St Wo3 (wrs (s3_.K true gb q3_ c3_ sp3_ ((g_, true, .cells st.l.toArray 141 (0, 0)) :: (gc, true, .cells (s2.cs false q2 c2).toArray (bif false then 59 else 139) (0, 0)) :: (ow q2 true (cat RP.l s2.l ++ sp2) 65 ++ s.K true ga q c sp [])))) [(g_, true, .cells st.l.toArray 141 (0, 0))]) c_cl [] #[false, false, false, false, false, false, false, false, false, false, false, false, false, false, false, false, false, false] mixed rfl rfl c_qp ?_; intro hqp_
        refine gp_take 0 #[true, false, false, false, false, false, false, false, false, false, false, false, false, false, false, false, false, false] hqp_ rfl (by kernel_rfl) (yv_pure tab_ok c_gok rfl rfl c_allT) c_cl rfl rfl ?_
        refine gp_take 1 #[true, true, false, false, false, false, false, false, false, false, false, false, false, false, false, false, false, false] hqp_ rfl (by kernel_rfl) (yv_pure tab_ok c_gok rfl rfl c_allT) c_cl rfl rfl ?_
        refine gp_take 2 #[true, true, true, false, false, false, false, false, false, false, false, false, false, false, false, false, false, false] hqp_ rfl (by kernel_rfl) (yv_load tab_ok c_gok rfl rfl c_imp c_mem (fun _ => c_lds)) c_cl rfl rfl ?_
        refine gp_take 3 #[true, true, true, true, false, false, false, false, false, false, false, false, false, false, false, false, false, false] hqp_ rfl (by kernel_rfl) (yv_pure tab_ok c_gok rfl rfl c_allT) c_cl rfl rfl ?_
        refine gp_take 4 #[true, true, true, true, true, false, false, false, false, false, false, false, false, false, false, false, false, false] hqp_ rfl (by kernel_rfl) (yv_load tab_ok c_gok rfl rfl c_imp c_mem (fun _ => c_lds)) c_cl rfl rfl ?_
        refine gp_take 5 #[true, true, true, true, true, true, false, false, false, false, false, false, false, false, false, false, false, false] hqp_ rfl (by kernel_rfl) (yv_pure tab_ok c_gok rfl rfl c_allT) c_cl rfl rfl ?_
        refine gp_take 6 #[true, true, true, true, true, true, true, false, false, false, false, false, false, false, false, false, false, false] hqp_ rfl (by kernel_rfl) (yv_load tab_ok c_gok rfl rfl c_imp c_mem (fun _ => c_lds)) c_cl rfl rfl ?_
        refine gp_take 9 #[true, true, true, true, true, true, true, false, false, true, false, false, false, false, false, false, false, false] hqp_ rfl (by kernel_rfl) (yv_pure tab_ok c_gok rfl rfl c_allT) c_cl rfl rfl ?_
        refine gp_take 10 #[true, true, true, true, true, true, true, false, false, true, true, false, false, false, false, false, false, false] hqp_ rfl (by kernel_rfl) (yv_pure tab_ok c_gok rfl rfl c_allT) c_cl rfl rfl ?_
        refine gp_take 11 #[true, true, true, true, true, true, true, false, false, true, true, true, false, false, false, false, false, false] hqp_ rfl (by kernel_rfl) (yv_load tab_ok c_gok rfl rfl c_imp c_mem (fun _ => c_lds)) c_cl rfl rfl ?_
        refine gp_take 12 #[true, true, true, true, true, true, true, false, false, true, true, true, true, false, false, false, false, false] hqp_ rfl (by kernel_rfl) (yv_pure tab_ok c_gok rfl rfl c_allT) c_cl rfl rfl ?_
        refine gp_take 13 #[true, true, true, true, true, true, true, false, false, true, true, true, true, true, false, false, false, false] hqp_ rfl (by kernel_rfl) (yv_load tab_ok c_gok rfl rfl c_imp c_mem (fun _ => c_lds)) c_cl rfl rfl ?_
        refine gp_take 14 #[true, true, true, true, true, true, true, false, false, true, true, true, true, true, true, false, false, false] hqp_ rfl (by kernel_rfl) (yv_pure tab_ok c_gok rfl rfl c_allT) c_cl rfl rfl ?_
        refine gp_take 15 #[true, true, true, true, true, true, true, false, false, true, true, true, true, true, true, true, false, false] hqp_ rfl (by kernel_rfl) (yv_load tab_ok c_gok rfl rfl c_imp c_mem (fun _ => c_lds)) c_cl rfl rfl ?_
        (refine gp_evB 7 #[true, true, true, true, true, true, true, true, false, true, true, true, true, true, true, true, false, false] rfl (by kernel_rfl) rfl rfl rfl (evb_ses (k := true) (s := s) (g := ga) (q := q) (c := c) (sp := sp) (V := (fun x _ _ => x = .int .i64 (if small400 st.a st.b then 0 else 1))) (t := if small400 st.a st.b then s.sg.watch st.a st.b st.v st.cs.xs else s.sg) rfl rfl ent57 rfl rfl rfl c_sa (fun W hW => ct_WatchP s ga c q sp _ st.a st.b st.v st.cs.xs st.cs.p st.cs.c W (ha3_.next hW c_sa) (Im.arg hc1 (hA3.trans hW) (by omega))) va_c ?_); intro Wi4 Wo4 v_ s4_ q4_ c4_ sp4_ hX4 hY4 hZ4 hV_ ht4_ hs4_; subst hV_; refine ⟨c_cl, ?_⟩)
        refine gp_ev 8 #[true, true, true, true, true, true, true, true, true, true, true, true, true, true, true, true, false, false] rfl (by kernel_rfl) rfl rfl rfl (ev_callq rfl rfl ent56 rfl rfl rfl (fun W hW => ct_num _ W) ⟨c_cl, ?_⟩)
        (refine gp_evB 16 #[true, true, true, true, true, true, true, true, true, true, true, true, true, true, true, true, true, false] rfl (by kernel_rfl) rfl rfl rfl (evb_ses (k := false) (s := s2) (g := gc) (q := q2) (c := c2) (sp := sp2) (V := (fun x _ _ => x = .int .i64 (if small400 st.a st.b then 0 else 1))) (t := if small400 st.a st.b then s2.sg.watch st.a st.b st.v st.cs.xs else s2.sg) rfl rfl ent122 rfl rfl rfl c_sa (fun W hW => ct_WatchR s2 gc c2 q2 sp2 _ st.a st.b st.v st.cs.xs st.cs.p st.cs.c W ((hc3_.next hY4 c_sa).next hW c_sa) (Im.arg hc1 ((hA3.trans hY4).trans hW) (by omega))) va_c ?_); intro Wi5 Wo5 v_ s5_ q5_ c5_ sp5_ hX5 hY5 hZ5 hV_ ht5_ hs5_; subst hV_; refine ⟨c_cl, ?_⟩)
        refine gp_take 17 #[true, true, true, true, true, true, true, true, true, true, true, true, true, true, true, true, true, true] hqp_ rfl (by kernel_rfl) (yv_pure tab_ok c_gok rfl rfl c_allT) c_cl rfl rfl ?_
        refine gp_done (by kernel_rfl) ?_; clear hqp_
        have hA4 := hA3.trans hY4
        have hc4_ := hc3_.next hY4 (c_sa (P := Sa false s2 gc q2 c2 sp2 _ _))
        have hb4_ := hs3_.next hY4 (c_sa (P := Sa true s3_ gb q3_ c3_ sp3_ _ _))
        have hA5 := hA4.trans hY5
        have ha5_ := hs4_.next hY5 (c_sa (P := Sa true s4_ ga q4_ c4_ sp4_ _ _))
        have hb5_ := hb4_.next hY5 (c_sa (P := Sa true s3_ gb q3_ c3_ sp3_ _ _))
        repeat' first
          | (refine gl_gate ?_; first
            | refine gl_nil ?_
            | (refine gl_any0 ?_; refine gl_pure tab_ok rfl rfl rfl rfl rfl rfl ?_))
          | (refine gc_gate ?_; first
            | refine gc_seq ?_
            | refine gc_region ?_
            | (refine gc_cond rfl ?_ ?_ <;> intro h_ <;> have hd_ := h_ <;> (try simp only [bytes_beq, cell_beq, val_beq, stamp_beq, decide_eq_true_eq, decide_eq_false_iff_not, Bool.and_eq_true, Bool.or_eq_true, Bool.or_eq_false_iff, Bool.not_eq_true', Bool.not_eq_false', Bool.not_true, Bool.not_false, Bool.false_or, Bool.true_and, Bool.and_true, Bool.or_false, beq_iff_eq, bne_iff_ne, beq_eq_false_iff_ne, bne_eq_false_iff_eq, ne_eq, Bool.false_eq_true, reduceCtorEq] at hd_) <;> (try (exfalso; omega)))
            | refine gc_ret ?_
            | refine gc_skip ?_)
          | (refine ge_gate ?_; first
            | ((with_reducible refine ge_gT ?_); first | with_reducible refine ge_then ?_ | with_reducible refine ge_then_exit ?_ | with_reducible refine ge_then_ret ?_)
            | ((with_reducible refine ge_gK ?_); first | with_reducible refine ge_block ?_ | refine ge_block_exit ?_ | refine ge_block_pass rfl ?_ | with_reducible refine ge_block_ret ?_)
            | ((with_reducible refine ge_gB ?_); first | refine ge_ret1 tab_ok rfl c_rvt ?_ | refine ge_end1 tab_ok rfl c_rvt ?_ | refine ge_ret2 tab_ok rfl c_rvt c_rvt ?_ | refine ge_ret_none rfl ?_ | refine ge_end_none rfl ?_))
        · exfalso
          simp at h_
        have hez : s5_.sg = s4_.sg := by rw [ht5_, ht4_, he]
        have hokz : SgOk s4_.sg := by
          rw [ht4_]
          split
          · exact SgOk.watch hsr hca
          · exact hok
        have hlen_ := sg_len hez
        unfold SX.K SX.cs SX.cP SX.cR
        simp only [cond_true, cond_false]
        repeat' first
          | (refine gc_gate ?_; first
            | refine gc_quietRo rfl mixed (by decide +kernel) ?_)
          | (refine ge_gate ?_; first
            | ((with_reducible refine ge_gT ?_); first | with_reducible refine ge_then ?_ | with_reducible refine ge_then_exit ?_ | with_reducible refine ge_then_ret ?_))
          | (refine gq_gate ?_; first
            | refine gq_nil ?_
            | (refine gq_load0 ?_; refine gq_yv (yv_load tab_ok (gok_none rfl) rfl rfl (fun _ => rfl) c_mem (fun _ => c_lds)) rfl rfl ?_)
            | (refine gq_calv0 ?_; first | refine gq_yd (yd_call (gok_none rfl) rfl ent59 rfl rfl (fun _ => allT_of rfl) (fun _ W hW => ct_LenP s4_ ga c4_ q4_ sp4_ W (SLi.of hW c_sa ha5_.li.ow))) rfl rfl ?_)
            | (refine gq_any0 ?_; refine gq_pure tab_ok rfl rfl rfl rfl rfl rfl ?_))
        repeat' first
          | (refine gl_gate ?_; first
            | refine gl_nil ?_
            | (refine gl_add0 ?_; refine gl_yv (yv_add tab_ok (gok_none rfl) rfl rfl rfl rfl (fun _ => allT_of rfl) (by intro _; omega)) rfl rfl ?_)
            | (refine gl_any0 ?_; refine gl_pure tab_ok rfl rfl rfl rfl rfl rfl ?_))
          | (refine gc_gate ?_; first
            | refine gc_region ?_
            | (refine gc_cond rfl ?_ ?_ <;> intro h_ <;> have hd_ := h_ <;> (try simp only [bytes_beq, cell_beq, val_beq, stamp_beq, decide_eq_true_eq, decide_eq_false_iff_not, Bool.and_eq_true, Bool.or_eq_true, Bool.or_eq_false_iff, Bool.not_eq_true', Bool.not_eq_false', Bool.not_true, Bool.not_false, Bool.false_or, Bool.true_and, Bool.and_true, Bool.or_false, beq_iff_eq, bne_iff_ne, beq_eq_false_iff_ne, bne_eq_false_iff_eq, ne_eq, Bool.false_eq_true, reduceCtorEq] at hd_) <;> (try (exfalso; omega)))
            | refine gc_skip ?_)
          | (refine ge_gate ?_; first
            | ((with_reducible refine ge_gT ?_); first | with_reducible refine ge_then ?_ | with_reducible refine ge_then_exit ?_ | with_reducible refine ge_then_ret ?_)
            | ((with_reducible refine ge_gK ?_); first | with_reducible refine ge_block ?_ | refine ge_block_exit ?_ | refine ge_block_pass rfl ?_ | with_reducible refine ge_block_ret ?_))
        refine ge_sel (X3.K ⟨i + 1, s4_, q4_, c4_, sp4_, s3_, q3_, c3_, sp3_, s5_, q5_, c5_, sp5_⟩ ga gb gc) c_sel ?_
        exact ge_roundW ⟨i + 1, s4_, q4_, c4_, sp4_, s3_, q3_, c3_, sp3_, s5_, q5_, c5_, sp5_⟩ hA5 (by show n - (i + 1) < n - i; omega) c_frs (List.Sublist.refl _) (fun W hW => ⟨by show i + 1 ≤ n; omega, ha5_.next hW c_sa, hb5_.next hW c_sa, hs5_.next hW c_sa, hez, hokz⟩)
      · refine gl_evB (evb_ses (k := true) (s := s) (g := ga) (q := q) (c := c) (sp := sp) (V := (fun v_ _ _ => v_ = .tuple #[])) (t := { s.sg with wt := false }) rfl rfl ent123 rfl rfl rfl c_sa (fun W hW => ct_AwayP s ga c q sp _ W (ha3_.next hW c_sa)) va_c ?_) rfl rfl
        intro Wi4 Wo4 v_ s4_ q4_ c4_ sp4_ hX4 hY4 hZ4 hV_ ht4_ hs4_
        subst hV_
        have hA4 := hA3.trans hY4
        have hc4_ := hc3_.next hY4 (c_sa (P := Sa false s2 gc q2 c2 sp2 _ _))
        have hb4_ := hs3_.next hY4 (c_sa (P := Sa true s3_ gb q3_ c3_ sp3_ _ _))
        repeat' first
          | (refine gl_gate ?_; first
            | refine gl_nil ?_
            | (refine gl_any0 ?_; refine gl_pure tab_ok rfl rfl rfl rfl rfl rfl ?_))
          | (refine gc_gate ?_; first
            | refine gc_region ?_)
          | (refine ge_gate ?_; first
            | ((with_reducible refine ge_gT ?_); first | with_reducible refine ge_then ?_ | with_reducible refine ge_then_exit ?_ | with_reducible refine ge_then_ret ?_))
        refine gl_evB (evb_ses (k := false) (s := s2) (g := gc) (q := q2) (c := c2) (sp := sp2) (V := (fun v_ _ _ => v_ = .tuple #[])) (t := { s2.sg with wt := false }) rfl rfl ent124 rfl rfl rfl c_sa (fun W hW => ct_AwayR s2 gc c2 q2 sp2 _ W (hc4_.next hW c_sa)) va_c ?_) rfl rfl
        intro Wi5 Wo5 v_ s5_ q5_ c5_ sp5_ hX5 hY5 hZ5 hV_ ht5_ hs5_
        subst hV_
        have hA5 := hA4.trans hY5
        have ha5_ := hs4_.next hY5 (c_sa (P := Sa true s4_ ga q4_ c4_ sp4_ _ _))
        have hb5_ := hb4_.next hY5 (c_sa (P := Sa true s3_ gb q3_ c3_ sp3_ _ _))
        repeat' first
          | (refine gl_gate ?_; first
            | refine gl_nil ?_)
          | (refine gc_gate ?_; first
            | refine gc_seq ?_)
          | (refine ge_gate ?_; first
            | ((with_reducible refine ge_gT ?_); first | with_reducible refine ge_then ?_ | with_reducible refine ge_then_exit ?_ | with_reducible refine ge_then_ret ?_)
            | ((with_reducible refine ge_gK ?_); first | with_reducible refine ge_block ?_ | refine ge_block_exit ?_ | refine ge_block_pass rfl ?_ | with_reducible refine ge_block_ret ?_))
        have hez : s5_.sg = s4_.sg := by rw [ht5_, ht4_, he]
        have hokz : SgOk s4_.sg := by
          rw [ht4_]
          exact ⟨hok.srt, hok.nb, hok.le⟩
        have hlen_ := sg_len hez
        unfold SX.K SX.cs SX.cP SX.cR
        simp only [cond_true, cond_false]
        repeat' first
          | (refine gc_gate ?_; first
            | refine gc_quietRo rfl mixed (by decide +kernel) ?_)
          | (refine ge_gate ?_; first
            | ((with_reducible refine ge_gT ?_); first | with_reducible refine ge_then ?_ | with_reducible refine ge_then_exit ?_ | with_reducible refine ge_then_ret ?_))
          | (refine gq_gate ?_; first
            | refine gq_nil ?_
            | (refine gq_load0 ?_; refine gq_yv (yv_load tab_ok (gok_none rfl) rfl rfl (fun _ => rfl) c_mem (fun _ => c_lds)) rfl rfl ?_)
            | (refine gq_calv0 ?_; first | refine gq_yd (yd_call (gok_none rfl) rfl ent59 rfl rfl (fun _ => allT_of rfl) (fun _ W hW => ct_LenP s4_ ga c4_ q4_ sp4_ W (SLi.of hW c_sa ha5_.li.ow))) rfl rfl ?_)
            | (refine gq_any0 ?_; refine gq_pure tab_ok rfl rfl rfl rfl rfl rfl ?_))
        repeat' first
          | (refine gl_gate ?_; first
            | refine gl_nil ?_
            | (refine gl_add0 ?_; refine gl_yv (yv_add tab_ok (gok_none rfl) rfl rfl rfl rfl (fun _ => allT_of rfl) (by intro _; omega)) rfl rfl ?_)
            | (refine gl_any0 ?_; refine gl_pure tab_ok rfl rfl rfl rfl rfl rfl ?_))
          | (refine gc_gate ?_; first
            | refine gc_region ?_
            | (refine gc_cond rfl ?_ ?_ <;> intro h_ <;> have hd_ := h_ <;> (try simp only [bytes_beq, cell_beq, val_beq, stamp_beq, decide_eq_true_eq, decide_eq_false_iff_not, Bool.and_eq_true, Bool.or_eq_true, Bool.or_eq_false_iff, Bool.not_eq_true', Bool.not_eq_false', Bool.not_true, Bool.not_false, Bool.false_or, Bool.true_and, Bool.and_true, Bool.or_false, beq_iff_eq, bne_iff_ne, beq_eq_false_iff_ne, bne_eq_false_iff_eq, ne_eq, Bool.false_eq_true, reduceCtorEq] at hd_) <;> (try (exfalso; omega)))
            | refine gc_skip ?_)
          | (refine ge_gate ?_; first
            | ((with_reducible refine ge_gT ?_); first | with_reducible refine ge_then ?_ | with_reducible refine ge_then_exit ?_ | with_reducible refine ge_then_ret ?_)
            | ((with_reducible refine ge_gK ?_); first | with_reducible refine ge_block ?_ | refine ge_block_exit ?_ | refine ge_block_pass rfl ?_ | with_reducible refine ge_block_ret ?_))
        refine ge_sel (X3.K ⟨i + 1, s4_, q4_, c4_, sp4_, s3_, q3_, c3_, sp3_, s5_, q5_, c5_, sp5_⟩ ga gb gc) c_sel ?_
        exact ge_roundW ⟨i + 1, s4_, q4_, c4_, sp4_, s3_, q3_, c3_, sp3_, s5_, q5_, c5_, sp5_⟩ hA5 (by show n - (i + 1) < n - i; omega) c_frs (List.Sublist.refl _) (fun W hW => ⟨by show i + 1 ≤ n; omega, ha5_.next hW c_sa, hb5_.next hW c_sa, hs5_.next hW c_sa, hez, hokz⟩)
      · refine gl_evB (evb_ses (k := true) (s := s) (g := ga) (q := q) (c := c) (sp := sp) (V := (fun v_ _ _ => v_ = .tuple #[])) (t := s.sg.tell st.r.rep) rfl rfl ent58 rfl rfl rfl c_sa (fun W hW => ct_TellXP s ga c q sp _ st.r W (ha3_.next hW c_sa) (Im.arg hc3 (hA3.trans hW) (by omega))) va_c ?_) rfl rfl
        intro Wi4 Wo4 v_ s4_ q4_ c4_ sp4_ hX4 hY4 hZ4 hV_ ht4_ hs4_
        subst hV_
        have hA4 := hA3.trans hY4
        have hc4_ := hc3_.next hY4 (c_sa (P := Sa false s2 gc q2 c2 sp2 _ _))
        have hb4_ := hs3_.next hY4 (c_sa (P := Sa true s3_ gb q3_ c3_ sp3_ _ _))
        repeat' first
          | (refine gl_gate ?_; first
            | refine gl_nil ?_
            | (refine gl_load0 ?_; refine gl_yv (yv_load tab_ok (gok_none rfl) rfl rfl (fun _ => rfl) c_mem (fun _ => c_lds)) rfl rfl ?_)
            | (refine gl_any0 ?_; refine gl_pure tab_ok rfl rfl rfl rfl rfl rfl ?_))
          | (refine gc_gate ?_; first
            | refine gc_region ?_)
          | (refine ge_gate ?_; first
            | ((with_reducible refine ge_gT ?_); first | with_reducible refine ge_then ?_ | with_reducible refine ge_then_exit ?_ | with_reducible refine ge_then_ret ?_))
        refine gl_evB (evb_ses (k := false) (s := s2) (g := gc) (q := q2) (c := c2) (sp := sp2) (V := (fun v_ _ _ => v_ = .tuple #[])) (t := s2.sg.tell st.r.rep) rfl rfl ent125 rfl rfl rfl c_sa (fun W hW => ct_TellXR s2 gc c2 q2 sp2 _ st.r W (hc4_.next hW c_sa) (Im.arg hc3 (hA4.trans hW) (by omega))) va_c ?_) rfl rfl
        intro Wi5 Wo5 v_ s5_ q5_ c5_ sp5_ hX5 hY5 hZ5 hV_ ht5_ hs5_
        subst hV_
        have hA5 := hA4.trans hY5
        have ha5_ := hs4_.next hY5 (c_sa (P := Sa true s4_ ga q4_ c4_ sp4_ _ _))
        have hb5_ := hb4_.next hY5 (c_sa (P := Sa true s3_ gb q3_ c3_ sp3_ _ _))
        repeat' first
          | (refine gl_gate ?_; first
            | refine gl_nil ?_)
          | (refine gc_gate ?_; first
            | refine gc_seq ?_)
          | (refine ge_gate ?_; first
            | ((with_reducible refine ge_gT ?_); first | with_reducible refine ge_then ?_ | with_reducible refine ge_then_exit ?_ | with_reducible refine ge_then_ret ?_)
            | ((with_reducible refine ge_gK ?_); first | with_reducible refine ge_block ?_ | refine ge_block_exit ?_ | refine ge_block_pass rfl ?_ | with_reducible refine ge_block_ret ?_))
        have hez : s5_.sg = s4_.sg := by rw [ht5_, ht4_, he]
        have hokz : SgOk s4_.sg := by
          rw [ht4_]
          exact hok.tell _
        have hlen_ := sg_len hez
        unfold SX.K SX.cs SX.cP SX.cR
        simp only [cond_true, cond_false]
        repeat' first
          | (refine gc_gate ?_; first
            | refine gc_quietRo rfl mixed (by decide +kernel) ?_)
          | (refine ge_gate ?_; first
            | ((with_reducible refine ge_gT ?_); first | with_reducible refine ge_then ?_ | with_reducible refine ge_then_exit ?_ | with_reducible refine ge_then_ret ?_))
          | (refine gq_gate ?_; first
            | refine gq_nil ?_
            | (refine gq_load0 ?_; refine gq_yv (yv_load tab_ok (gok_none rfl) rfl rfl (fun _ => rfl) c_mem (fun _ => c_lds)) rfl rfl ?_)
            | (refine gq_calv0 ?_; first | refine gq_yd (yd_call (gok_none rfl) rfl ent59 rfl rfl (fun _ => allT_of rfl) (fun _ W hW => ct_LenP s4_ ga c4_ q4_ sp4_ W (SLi.of hW c_sa ha5_.li.ow))) rfl rfl ?_)
            | (refine gq_any0 ?_; refine gq_pure tab_ok rfl rfl rfl rfl rfl rfl ?_))
        repeat' first
          | (refine gl_gate ?_; first
            | refine gl_nil ?_
            | (refine gl_add0 ?_; refine gl_yv (yv_add tab_ok (gok_none rfl) rfl rfl rfl rfl (fun _ => allT_of rfl) (by intro _; omega)) rfl rfl ?_)
            | (refine gl_any0 ?_; refine gl_pure tab_ok rfl rfl rfl rfl rfl rfl ?_))
          | (refine gc_gate ?_; first
            | refine gc_region ?_
            | (refine gc_cond rfl ?_ ?_ <;> intro h_ <;> have hd_ := h_ <;> (try simp only [bytes_beq, cell_beq, val_beq, stamp_beq, decide_eq_true_eq, decide_eq_false_iff_not, Bool.and_eq_true, Bool.or_eq_true, Bool.or_eq_false_iff, Bool.not_eq_true', Bool.not_eq_false', Bool.not_true, Bool.not_false, Bool.false_or, Bool.true_and, Bool.and_true, Bool.or_false, beq_iff_eq, bne_iff_ne, beq_eq_false_iff_ne, bne_eq_false_iff_eq, ne_eq, Bool.false_eq_true, reduceCtorEq] at hd_) <;> (try (exfalso; omega)))
            | refine gc_skip ?_)
          | (refine ge_gate ?_; first
            | ((with_reducible refine ge_gT ?_); first | with_reducible refine ge_then ?_ | with_reducible refine ge_then_exit ?_ | with_reducible refine ge_then_ret ?_)
            | ((with_reducible refine ge_gK ?_); first | with_reducible refine ge_block ?_ | refine ge_block_exit ?_ | refine ge_block_pass rfl ?_ | with_reducible refine ge_block_ret ?_))
        refine ge_sel (X3.K ⟨i + 1, s4_, q4_, c4_, sp4_, s3_, q3_, c3_, sp3_, s5_, q5_, c5_, sp5_⟩ ga gb gc) c_sel ?_
        exact ge_roundW ⟨i + 1, s4_, q4_, c4_, sp4_, s3_, q3_, c3_, sp3_, s5_, q5_, c5_, sp5_⟩ hA5 (by show n - (i + 1) < n - i; omega) c_frs (List.Sublist.refl _) (fun W hW => ⟨by show i + 1 ≤ n; omega, ha5_.next hW c_sa, hb5_.next hW c_sa, hs5_.next hW c_sa, hez, hokz⟩)
      · refine gl_evB (evb_ses (k := true) (s := s) (g := ga) (q := q) (c := c) (sp := sp) (V := (fun v_ _ _ => v_ = .tuple #[])) (t := s.sg.pub st.v st.cs.xs) rfl rfl ent120 rfl rfl rfl c_sa (fun W hW => ct_PubP s ga c q sp _ st.v st.cs.xs st.cs.p st.cs.c W (ha3_.next hW c_sa) (Im.arg hc1 (hA3.trans hW) (by omega)) (hok.delta hca)) va_c ?_) rfl rfl
        intro Wi4 Wo4 v_ s4_ q4_ c4_ sp4_ hX4 hY4 hZ4 hV_ ht4_ hs4_
        subst hV_
        have hA4 := hA3.trans hY4
        have hc4_ := hc3_.next hY4 (c_sa (P := Sa false s2 gc q2 c2 sp2 _ _))
        have hb4_ := hs3_.next hY4 (c_sa (P := Sa true s3_ gb q3_ c3_ sp3_ _ _))
        repeat' first
          | (refine gl_gate ?_; first
            | refine gl_nil ?_
            | (refine gl_load0 ?_; refine gl_yv (yv_load tab_ok (gok_none rfl) rfl rfl (fun _ => rfl) c_mem (fun _ => c_lds)) rfl rfl ?_)
            | (refine gl_any0 ?_; refine gl_pure tab_ok rfl rfl rfl rfl rfl rfl ?_))
          | (refine gc_gate ?_; first
            | refine gc_region ?_)
          | (refine ge_gate ?_; first
            | ((with_reducible refine ge_gT ?_); first | with_reducible refine ge_then ?_ | with_reducible refine ge_then_exit ?_ | with_reducible refine ge_then_ret ?_))
        refine gl_evB (evb_ses (k := false) (s := s2) (g := gc) (q := q2) (c := c2) (sp := sp2) (V := (fun v_ _ _ => v_ = .tuple #[])) (t := s2.sg.pub st.v st.cs.xs) rfl rfl ent126 rfl rfl rfl c_sa (fun W hW => ct_PubR s2 gc c2 q2 sp2 _ st.v st.cs.xs st.cs.p st.cs.c W (hc4_.next hW c_sa) (Im.arg hc1 (hA4.trans hW) (by omega)) (SgOk.delta (he ▸ hok) hca) (SgOk.srt (s := s2.sg) (he ▸ hok)) (SgOk.nb (s := s2.sg) (he ▸ hok)) hsr) va_c ?_) rfl rfl
        intro Wi5 Wo5 v_ s5_ q5_ c5_ sp5_ hX5 hY5 hZ5 hV_ ht5_ hs5_
        subst hV_
        have hA5 := hA4.trans hY5
        have ha5_ := hs4_.next hY5 (c_sa (P := Sa true s4_ ga q4_ c4_ sp4_ _ _))
        have hb5_ := hb4_.next hY5 (c_sa (P := Sa true s3_ gb q3_ c3_ sp3_ _ _))
        repeat' first
          | (refine gl_gate ?_; first
            | refine gl_nil ?_)
          | (refine gc_gate ?_; first
            | refine gc_seq ?_)
          | (refine ge_gate ?_; first
            | ((with_reducible refine ge_gT ?_); first | with_reducible refine ge_then ?_ | with_reducible refine ge_then_exit ?_ | with_reducible refine ge_then_ret ?_)
            | ((with_reducible refine ge_gK ?_); first | with_reducible refine ge_block ?_ | refine ge_block_exit ?_ | refine ge_block_pass rfl ?_ | with_reducible refine ge_block_ret ?_))
        have hez : s5_.sg = s4_.sg := by rw [ht5_, ht4_, he]
        have hokz : SgOk s4_.sg := by
          rw [ht4_]
          exact hok.pub hsr hca
        have hlen_ := sg_len hez
        unfold SX.K SX.cs SX.cP SX.cR
        simp only [cond_true, cond_false]
        repeat' first
          | (refine gc_gate ?_; first
            | refine gc_quietRo rfl mixed (by decide +kernel) ?_)
          | (refine ge_gate ?_; first
            | ((with_reducible refine ge_gT ?_); first | with_reducible refine ge_then ?_ | with_reducible refine ge_then_exit ?_ | with_reducible refine ge_then_ret ?_))
          | (refine gq_gate ?_; first
            | refine gq_nil ?_
            | (refine gq_load0 ?_; refine gq_yv (yv_load tab_ok (gok_none rfl) rfl rfl (fun _ => rfl) c_mem (fun _ => c_lds)) rfl rfl ?_)
            | (refine gq_calv0 ?_; first | refine gq_yd (yd_call (gok_none rfl) rfl ent59 rfl rfl (fun _ => allT_of rfl) (fun _ W hW => ct_LenP s4_ ga c4_ q4_ sp4_ W (SLi.of hW c_sa ha5_.li.ow))) rfl rfl ?_)
            | (refine gq_any0 ?_; refine gq_pure tab_ok rfl rfl rfl rfl rfl rfl ?_))
        repeat' first
          | (refine gl_gate ?_; first
            | refine gl_nil ?_
            | (refine gl_add0 ?_; refine gl_yv (yv_add tab_ok (gok_none rfl) rfl rfl rfl rfl (fun _ => allT_of rfl) (by intro _; omega)) rfl rfl ?_)
            | (refine gl_any0 ?_; refine gl_pure tab_ok rfl rfl rfl rfl rfl rfl ?_))
          | (refine gc_gate ?_; first
            | refine gc_region ?_
            | (refine gc_cond rfl ?_ ?_ <;> intro h_ <;> have hd_ := h_ <;> (try simp only [bytes_beq, cell_beq, val_beq, stamp_beq, decide_eq_true_eq, decide_eq_false_iff_not, Bool.and_eq_true, Bool.or_eq_true, Bool.or_eq_false_iff, Bool.not_eq_true', Bool.not_eq_false', Bool.not_true, Bool.not_false, Bool.false_or, Bool.true_and, Bool.and_true, Bool.or_false, beq_iff_eq, bne_iff_ne, beq_eq_false_iff_ne, bne_eq_false_iff_eq, ne_eq, Bool.false_eq_true, reduceCtorEq] at hd_) <;> (try (exfalso; omega)))
            | refine gc_skip ?_)
          | (refine ge_gate ?_; first
            | ((with_reducible refine ge_gT ?_); first | with_reducible refine ge_then ?_ | with_reducible refine ge_then_exit ?_ | with_reducible refine ge_then_ret ?_)
            | ((with_reducible refine ge_gK ?_); first | with_reducible refine ge_block ?_ | refine ge_block_exit ?_ | refine ge_block_pass rfl ?_ | with_reducible refine ge_block_ret ?_))
        refine ge_sel (X3.K ⟨i + 1, s4_, q4_, c4_, sp4_, s3_, q3_, c3_, sp3_, s5_, q5_, c5_, sp5_⟩ ga gb gc) c_sel ?_
        exact ge_roundW ⟨i + 1, s4_, q4_, c4_, sp4_, s3_, q3_, c3_, sp3_, s5_, q5_, c5_, sp5_⟩ hA5 (by show n - (i + 1) < n - i; omega) c_frs (List.Sublist.refl _) (fun W hW => ⟨by show i + 1 ≤ n; omega, ha5_.next hW c_sa, hb5_.next hW c_sa, hs5_.next hW c_sa, hez, hokz⟩)
      · refine gl_evB (evb_ses (k := true) (s := s) (g := ga) (q := q) (c := c) (sp := sp) (V := (TkV (s.sg.takeR st.v st.cs.xs))) (t := s.sg.takeS st.v st.cs.xs) rfl rfl ent60 rfl rfl rfl c_sa (fun W hW => ct_TakeP s ga c q sp _ st.v st.cs.xs st.cs.p st.cs.c W (ha3_.next hW c_sa) (Im.arg hc1 (hA3.trans hW) (by omega))) va_t ?_) rfl rfl
        intro Wi4 Wo4 v_ s4_ q4_ c4_ sp4_ hX4 hY4 hZ4 hV_ ht4_ hs4_
        obtain ⟨pt_, ct_, rfl, him4_⟩ := tk_v hV_
        have hA4 := hA3.trans hY4
        have hc4_ := hc3_.next hY4 (c_sa (P := Sa false s2 gc q2 c2 sp2 _ _))
        have hb4_ := hs3_.next hY4 (c_sa (P := Sa true s3_ gb q3_ c3_ sp3_ _ _))
        generalize hx_ : (s.sg.takeR st.v st.cs.xs).getD ⟨0, 0, 0, []⟩ = xr at *
        generalize hb_ : (s.sg.takeR st.v st.cs.xs).isSome = bb at *
        repeat' first
          | (refine gl_gate ?_; first
            | refine gl_nil ?_
            | (refine gl_load0 ?_; refine gl_yv (yv_load tab_ok (gok_none rfl) rfl rfl (fun _ => rfl) c_mem (fun _ => c_lds)) rfl rfl ?_)
            | (refine gl_alc0 ?_; (refine gl_alloc tab_ok rfl rfl rfl rfl rfl ?_; intro g_ hg_))
            | (refine gl_sto0 ?_; refine gl_store tab_ok rfl rfl rfl rfl rfl rfl rfl c_one rfl c_ku ?_)
            | (refine gl_any0 ?_; refine gl_pure tab_ok rfl rfl rfl rfl rfl rfl ?_))
          | (refine gc_gate ?_; first
            | refine gc_seq ?_
            | refine gc_region ?_)
          | (refine ge_gate ?_; first
            | ((with_reducible refine ge_gT ?_); first | with_reducible refine ge_then ?_ | with_reducible refine ge_then_exit ?_ | with_reducible refine ge_then_ret ?_))
        refine gl_evB (evb_ses (k := false) (s := s2) (g := gc) (q := q2) (c := c2) (sp := sp2) (V := (TkV (s2.sg.takeR st.v st.cs.xs))) (t := s2.sg.takeS st.v st.cs.xs) rfl rfl ent127 rfl rfl rfl c_sa (fun W hW => ct_TakeR s2 gc c2 q2 sp2 _ st.v st.cs.xs st.cs.p st.cs.c W (hc4_.next hW c_sa) (Im.arg hc1 (hA4.trans hW) (by omega))) va_t ?_) rfl rfl
        intro Wi5 Wo5 v_ s5_ q5_ c5_ sp5_ hX5 hY5 hZ5 hV_ ht5_ hs5_
        rw [he] at hV_
        obtain ⟨pu_, cu_, rfl, him5_⟩ := tk_v hV_
        rw [hx_] at him5_ ⊢
        rw [hb_]
        have hA5 := hA4.trans hY5
        have ha5_ := hs4_.next hY5 (c_sa (P := Sa true s4_ ga q4_ c4_ sp4_ _ _))
        have hb5_ := hb4_.next hY5 (c_sa (P := Sa true s3_ gb q3_ c3_ sp3_ _ _))
        have him6_ := him4_.next hY5
        repeat' first
          | (refine gl_gate ?_; first
            | refine gl_nil ?_
            | (refine gl_calvG ?_; first | refine gl_yd (yd_call c_gok rfl ent128 rfl rfl c_allT (fun _ W hW => ct_SameReply xr _ _ _ _ W (him6_.st hW (fun _ h => h)) (him5_.st hW (fun _ h => h)) him5_.le)) rfl rfl ?_)
            | (refine gl_pick0 ?_; first | refine gl_yv (yv_and (gok_none rfl) rfl rfl rfl (fun _ => rfl) c_imp2) rfl rfl ?_ | refine gl_yv (yv_or (gok_none rfl) rfl rfl rfl (fun _ => rfl) c_imp2) rfl rfl ?_)
            | (refine gl_loadG ?_; refine gl_yv (yv_load tab_ok c_gok rfl rfl c_imp c_mem (fun _ => c_lds)) rfl rfl ?_)
            | (refine gl_alc0 ?_; (refine gl_alloc tab_ok rfl rfl rfl rfl rfl ?_; intro g_ hg_))
            | (refine gl_sto0 ?_; refine gl_store tab_ok rfl rfl rfl rfl rfl rfl rfl c_one rfl c_ku ?_)
            | (refine gl_any0 ?_; refine gl_pure tab_ok rfl rfl rfl rfl rfl rfl ?_)
            | (refine gl_anyG ?_; first | refine gl_yv (yv_pure tab_ok c_gok rfl rfl c_allT) rfl rfl ?_ | refine gl_yv (yv_indexS tab_ok c_gok rfl rfl rfl rfl c_imp c_imp (by intro hq_; (try simp only [Bool.and_eq_true, Bool.not_eq_true', Bool.not_eq_false', Bool.or_eq_false_iff, Bool.or_eq_true, decide_eq_true_eq, decide_eq_false_iff_not, Bool.true_and, Bool.and_true] at hq_); omega)) rfl rfl ?_ | refine gl_yv (yv_indexS (i := 0) tab_ok c_gok rfl rfl rfl rfl c_imp c_imp (by intro hq_; (try simp only [Bool.and_eq_true, Bool.not_eq_true', Bool.not_eq_false', Bool.or_eq_false_iff, Bool.or_eq_true, decide_eq_true_eq, decide_eq_false_iff_not, Bool.true_and, Bool.and_true] at hq_); omega)) rfl rfl ?_))
          | (refine gc_gate ?_; first
            | refine gc_seq ?_
            | refine gc_region ?_
            | refine gc_quietRo rfl mixed (by decide +kernel) ?_
            | (refine gc_cond rfl ?_ ?_ <;> intro h_ <;> have hd_ := h_ <;> (try simp only [bytes_beq, cell_beq, val_beq, stamp_beq, decide_eq_true_eq, decide_eq_false_iff_not, Bool.and_eq_true, Bool.or_eq_true, Bool.or_eq_false_iff, Bool.not_eq_true', Bool.not_eq_false', Bool.not_true, Bool.not_false, Bool.false_or, Bool.true_and, Bool.and_true, Bool.or_false, beq_iff_eq, bne_iff_ne, beq_eq_false_iff_ne, bne_eq_false_iff_eq, ne_eq, Bool.false_eq_true, reduceCtorEq] at hd_) <;> (try (exfalso; omega)))
            | refine gc_ret ?_
            | refine gc_skip ?_)
          | (refine ge_gate ?_; first
            | ((with_reducible refine ge_gT ?_); first | with_reducible refine ge_then ?_ | with_reducible refine ge_then_exit ?_ | with_reducible refine ge_then_ret ?_)
            | ((with_reducible refine ge_gK ?_); first | with_reducible refine ge_block ?_ | refine ge_block_exit ?_ | refine ge_block_pass rfl ?_ | with_reducible refine ge_block_ret ?_)
            | ((with_reducible refine ge_gB ?_); first | refine ge_ret1 tab_ok rfl c_rvt ?_ | refine ge_end1 tab_ok rfl c_rvt ?_ | refine ge_ret2 tab_ok rfl c_rvt c_rvt ?_ | refine ge_ret_none rfl ?_ | refine ge_end_none rfl ?_))
          | (refine gq_gate ?_; first
            | (refine gq_any0 ?_; refine gq_pure tab_ok rfl rfl rfl rfl rfl rfl ?_))
        · exfalso
          simp at h_
        have hez : s5_.sg = s4_.sg := by rw [ht5_, ht4_, he]
        have hokz : SgOk s4_.sg := by
          rw [ht4_]
          exact hok.takeS hsr hca
        have hlen_ := sg_len hez
        unfold SX.K SX.cs SX.cP SX.cR
        simp only [cond_true, cond_false]
        repeat' first
          | (refine ge_gate ?_; first
            | ((with_reducible refine ge_gT ?_); first | with_reducible refine ge_then ?_ | with_reducible refine ge_then_exit ?_ | with_reducible refine ge_then_ret ?_))
          | (refine gq_gate ?_; first
            | refine gq_nil ?_
            | (refine gq_load0 ?_; refine gq_yv (yv_load tab_ok (gok_none rfl) rfl rfl (fun _ => rfl) c_mem (fun _ => c_lds)) rfl rfl ?_)
            | (refine gq_calv0 ?_; first | refine gq_yd (yd_call (gok_none rfl) rfl ent59 rfl rfl (fun _ => allT_of rfl) (fun _ W hW => ct_LenP s4_ ga c4_ q4_ sp4_ W (SLi.of hW c_sa ha5_.li.ow))) rfl rfl ?_)
            | (refine gq_any0 ?_; refine gq_pure tab_ok rfl rfl rfl rfl rfl rfl ?_))
        repeat' first
          | (refine gl_gate ?_; first
            | refine gl_nil ?_
            | (refine gl_add0 ?_; refine gl_yv (yv_add tab_ok (gok_none rfl) rfl rfl rfl rfl (fun _ => allT_of rfl) (by intro _; omega)) rfl rfl ?_)
            | (refine gl_any0 ?_; refine gl_pure tab_ok rfl rfl rfl rfl rfl rfl ?_))
          | (refine gc_gate ?_; first
            | refine gc_region ?_
            | (refine gc_cond rfl ?_ ?_ <;> intro h_ <;> have hd_ := h_ <;> (try simp only [bytes_beq, cell_beq, val_beq, stamp_beq, decide_eq_true_eq, decide_eq_false_iff_not, Bool.and_eq_true, Bool.or_eq_true, Bool.or_eq_false_iff, Bool.not_eq_true', Bool.not_eq_false', Bool.not_true, Bool.not_false, Bool.false_or, Bool.true_and, Bool.and_true, Bool.or_false, beq_iff_eq, bne_iff_ne, beq_eq_false_iff_ne, bne_eq_false_iff_eq, ne_eq, Bool.false_eq_true, reduceCtorEq] at hd_) <;> (try (exfalso; omega)))
            | refine gc_skip ?_)
          | (refine ge_gate ?_; first
            | ((with_reducible refine ge_gT ?_); first | with_reducible refine ge_then ?_ | with_reducible refine ge_then_exit ?_ | with_reducible refine ge_then_ret ?_)
            | ((with_reducible refine ge_gK ?_); first | with_reducible refine ge_block ?_ | refine ge_block_exit ?_ | refine ge_block_pass rfl ?_ | with_reducible refine ge_block_ret ?_))
        refine ge_sel (X3.K ⟨i + 1, s4_, q4_, c4_, sp4_, s3_, q3_, c3_, sp3_, s5_, q5_, c5_, sp5_⟩ ga gb gc) c_sel ?_
        exact ge_roundW ⟨i + 1, s4_, q4_, c4_, sp4_, s3_, q3_, c3_, sp3_, s5_, q5_, c5_, sp5_⟩ hA5 (by show n - (i + 1) < n - i; omega) c_frs (List.Sublist.refl _) (fun W hW => ⟨by show i + 1 ≤ n; omega, ha5_.next hW c_sa, hb5_.next hW c_sa, hs5_.next hW c_sa, hez, hokz⟩)
      · have hez := he
        have hokz := hok
        have hlen_ := sg_len hez
        unfold SX.K SX.cs SX.cP SX.cR
        simp only [cond_true, cond_false]
        repeat' first
          | (refine gc_gate ?_; first
            | refine gc_quietRo rfl mixed (by decide +kernel) ?_)
          | (refine ge_gate ?_; first
            | ((with_reducible refine ge_gT ?_); first | with_reducible refine ge_then ?_ | with_reducible refine ge_then_exit ?_ | with_reducible refine ge_then_ret ?_))
          | (refine gq_gate ?_; first
            | refine gq_nil ?_
            | (refine gq_load0 ?_; refine gq_yv (yv_load tab_ok (gok_none rfl) rfl rfl (fun _ => rfl) c_mem (fun _ => c_lds)) rfl rfl ?_)
            | (refine gq_calv0 ?_; first | refine gq_yd (yd_call (gok_none rfl) rfl ent59 rfl rfl (fun _ => allT_of rfl) (fun _ W hW => ct_LenP s ga c q sp W (SLi.of hW c_sa ha3_.li.ow))) rfl rfl ?_)
            | (refine gq_any0 ?_; refine gq_pure tab_ok rfl rfl rfl rfl rfl rfl ?_))
        repeat' first
          | (refine gl_gate ?_; first
            | refine gl_nil ?_
            | (refine gl_add0 ?_; refine gl_yv (yv_add tab_ok (gok_none rfl) rfl rfl rfl rfl (fun _ => allT_of rfl) (by intro _; omega)) rfl rfl ?_)
            | (refine gl_any0 ?_; refine gl_pure tab_ok rfl rfl rfl rfl rfl rfl ?_))
          | (refine gc_gate ?_; first
            | refine gc_region ?_
            | (refine gc_cond rfl ?_ ?_ <;> intro h_ <;> have hd_ := h_ <;> (try simp only [bytes_beq, cell_beq, val_beq, stamp_beq, decide_eq_true_eq, decide_eq_false_iff_not, Bool.and_eq_true, Bool.or_eq_true, Bool.or_eq_false_iff, Bool.not_eq_true', Bool.not_eq_false', Bool.not_true, Bool.not_false, Bool.false_or, Bool.true_and, Bool.and_true, Bool.or_false, beq_iff_eq, bne_iff_ne, beq_eq_false_iff_ne, bne_eq_false_iff_eq, ne_eq, Bool.false_eq_true, reduceCtorEq] at hd_) <;> (try (exfalso; omega)))
            | refine gc_skip ?_)
          | (refine ge_gate ?_; first
            | ((with_reducible refine ge_gT ?_); first | with_reducible refine ge_then ?_ | with_reducible refine ge_then_exit ?_ | with_reducible refine ge_then_ret ?_)
            | ((with_reducible refine ge_gK ?_); first | with_reducible refine ge_block ?_ | refine ge_block_exit ?_ | refine ge_block_pass rfl ?_ | with_reducible refine ge_block_ret ?_))
        refine ge_sel (X3.K ⟨i + 1, s, q, c, sp, s3_, q3_, c3_, sp3_, s2, q2, c2, sp2⟩ ga gb gc) c_sel ?_
        exact ge_roundW ⟨i + 1, s, q, c, sp, s3_, q3_, c3_, sp3_, s2, q2, c2, sp2⟩ hA3 (by show n - (i + 1) < n - i; omega) c_frs (List.Sublist.refl _) (fun W hW => ⟨by show i + 1 ≤ n; omega, ha3_.next hW c_sa, hs3_.next hW c_sa, hc3_.next hW c_sa, hez, hokz⟩)
  · intro W hW
    exact ⟨rfl, (hA.trans hW).below0⟩
theorem law_SessionPlays (W : World) {b0 : Nat} {v0 : Value} (o0 : Value.okWide Try.prog W .any b0 136 v0)
    (r0 : ∃ m, Rd tab W m 136 v0.cells.toList) : Calls Try.prog 27 #[v0] W fun e w' => e = .returned (.bool true) ∧ Bl W w' := by
  rw [arg_one tab_ok (t := 136) rfl rfl o0] at r0
  obtain ⟨m, r0⟩ := r0
  obtain ⟨m', p, n, cap, el, _, h0, hle, hcap, _, hs, hr⟩ := rd_slA r0 rfl rfl (by decide)
  obtain ⟨xs, hn, hs', hv⟩ := hs.pick (f := Stp.l) (R := fun x => (SlA W 6 x.cs.p x.cs.xs.length (fun j => (x.cs.xs.getD j default).l) ∧ x.cs.xs.length ≤ 9223372036854775807) ∧ (SlA W 6 x.r.p x.r.rep.cells.length (fun j => (x.r.rep.cells.getD j default).l) ∧ x.r.rep.cells.length ≤ 9223372036854775807)) fun i hi => rdStp (hr i hi)
  cases h0
  exact walk_SessionPlays xs p n cap hn.symm (by omega) W hs' hv
end Go.Proofs.Ytkgjfcjciigcgaa
