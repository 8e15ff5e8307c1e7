/-
  The reference's Front: Add.
-/
import Derived.Test.YtkgjfcjciigcgaaGoAddD
namespace Go.Proofs.Ytkgjfcjciigcgaa
open Go.Proofs.Ytkgjfcjciigcgaa.Sl Go.RowKit
set_option linter.unusedVariables false
set_option linter.unusedSimpArgs false
set_option linter.unusedSectionVars false
set_option maxRecDepth 100000

set_option maxHeartbeats 4000000 in
theorem ct_AddR (g : Nat) (q : Option Nat) (c : Nat) (l : List Chg) (sp : List Value) (s : Stamp) (n : Int) (w : World) (hI : ObIn (FrK g q c l sp) w) (ho : Ow q l.length c 4 (cat Chg.l l) sp) (hl : l.length ≤ 100000000) (hn : In64 n) (hov : ∀ x ∈ l, In64 (x.n + n)) :
    Calls Try.prog 78 #[.pointer (some ⟨g, 0, none⟩), .agg s.l.toArray, .int .i64 n] w (RetF w g q c l sp (addC l s n)) := by
  unfold RetF
  refine enter (args := [_, _, _]) (M := []) (K := []) Try.func78 rfl Try.ntmps78 rfl (St.refl _ _) ?_
  refine gc_own (FrK g q c l sp) hI.k hI.p ?_
  generalize hM : (FrK g q c l sp).map (·.1) = M
  repeat' first
    | (refine gl_gate ?_; first
      | refine gl_nil ?_
      | (refine gl_box0 ?_; first | (refine gl_box_agg rfl rfl rfl rfl rfl ?_; intro g_ hg_) | (refine gl_box_one rfl rfl rfl rfl rfl rfl ?_; intro g_ hg_) | (refine gl_box rfl rfl rfl rfl rfl ?_; intro g_ hg_))
      | (refine gl_any0 ?_; refine gl_pure tab_ok rfl rfl rfl rfl rfl rfl ?_))
    | (refine gc_gate ?_; first
      | refine gc_seq ?_
      | refine gc_region ?_
      | refine gc_block ?_)
    | (refine ge_gate ?_; first
      | ((with_reducible refine ge_gT ?_); first | with_reducible refine ge_then ?_ | with_reducible refine ge_then_exit ?_ | with_reducible refine ge_then_ret ?_))
  revert g_
  intro g4 hg4
  refine gc_loop (α := Nat) (fun i => [(0, true, .pointer (some ⟨g, 0, none⟩)), (2, true, .int .i64 n), (4, true, .pointer (some ⟨g4, 0, none⟩)), (6, true, .int .i64 (i : Int))])
    (fun _ => (g4, true, .cells s.l.toArray 38 (0, 0)) :: (g, true, .cells [.slice (q.map ad) l.length c].toArray 94 (0, 0)) :: ow q true (cat Chg.l l ++ sp) 82) (fun i => i ≤ l.length ∧ ∀ j, j < i → ltOf cSt (l.getD j default).s s = true) (fun i => l.length - i) 0 c_frs (List.Sublist.refl _) ⟨Nat.zero_le _, fun j hj => by omega⟩ ?_
  rintro i ⟨hi, he⟩
  repeat' first
    | (refine gq_idxG ?_; refine gq_yv (yv_idxO tab_ok ho c_gok rfl rfl rfl rfl rfl rfl c_imp c_imp c_bnd) rfl rfl ?_)
    | (refine gq_loadG ?_; refine gq_yv (yv_ldO tab_ok c_oa ho c_gok rfl rfl c_imp (fun hq_ => lds_part len_chg (by simp at hq_; omega) rfl (by decide) (lds_agg rfl rfl rfl)) c_bnd) rfl rfl ?_)
    | (refine gc_gate ?_; first
      | refine gc_seq ?_
      | refine gc_quietRo rfl mixed (by decide +kernel) ?_)
    | (refine ge_gate ?_; first
      | ((with_reducible refine ge_gT ?_); first | with_reducible refine ge_then ?_ | with_reducible refine ge_then_exit ?_ | with_reducible refine ge_then_ret ?_))
    | (refine gq_gate ?_; first
      | refine gq_nil ?_
      | (refine gq_load0 ?_; refine gq_yv (yv_load tab_ok (gok_none rfl) rfl rfl (fun _ => rfl) c_mem (fun _ => c_lds)) rfl rfl ?_)
      | (refine gq_calvG ?_; first | refine gq_yd (yd_call c_gok rfl ent86 rfl rfl c_allT (fun _ W hW => ct_LessStampR (l.getD i default).s s W)) rfl rfl ?_)
      | (refine gq_pick0 ?_; first | refine gq_yv (yv_and (gok_none rfl) rfl rfl rfl (fun _ => rfl) c_imp2) rfl rfl ?_ | refine gq_yv (yv_or (gok_none rfl) rfl rfl rfl (fun _ => rfl) c_imp2) rfl rfl ?_)
      | (refine gq_loadG ?_; refine gq_yv (yv_load tab_ok c_gok rfl rfl c_imp c_mem (fun _ => c_lds)) rfl rfl ?_)
      | (refine gq_any0 ?_; refine gq_pure tab_ok rfl rfl rfl rfl rfl rfl ?_)
      | (refine gq_anyG ?_; first | refine gq_yv (yv_pure tab_ok c_gok rfl rfl c_allT) rfl rfl ?_ | refine gq_yv (yv_indexS tab_ok c_gok rfl rfl rfl rfl c_imp c_imp (by intro hq_; (try simp only [Bool.and_eq_true, Bool.not_eq_true', Bool.not_eq_false', Bool.or_eq_false_iff, Bool.or_eq_true, decide_eq_true_eq, decide_eq_false_iff_not, Bool.true_and, Bool.and_true] at hq_); omega)) rfl rfl ?_ | refine gq_yv (yv_indexS (i := 0) tab_ok c_gok rfl rfl rfl rfl c_imp c_imp (by intro hq_; (try simp only [Bool.and_eq_true, Bool.not_eq_true', Bool.not_eq_false', Bool.or_eq_false_iff, Bool.or_eq_true, decide_eq_true_eq, decide_eq_false_iff_not, Bool.true_and, Bool.and_true] at hq_); omega)) rfl rfl ?_))
  (refine gc_cond rfl ?_ ?_ <;> intro h_ <;> have hd_ := h_ <;> (try simp only [bytes_beq, cell_beq, val_beq, stamp_beq, decide_eq_true_eq, decide_eq_false_iff_not, Bool.and_eq_true, Bool.or_eq_true, Bool.or_eq_false_iff, Bool.not_eq_true', Bool.not_eq_false', Bool.not_true, Bool.not_false, Bool.false_or, Bool.true_and, Bool.and_true, Bool.or_false, beq_iff_eq, bne_iff_ne, beq_eq_false_iff_ne, bne_eq_false_iff_eq, ne_eq, Bool.false_eq_true, reduceCtorEq] at hd_) <;> (try (exfalso; omega)))
  · repeat' first
      | (refine gl_gate ?_; first
        | refine gl_nil ?_
        | (refine gl_add0 ?_; refine gl_yv (yv_add tab_ok (gok_none rfl) rfl rfl rfl rfl (fun _ => allT_of rfl) (by intro _; omega)) rfl rfl ?_)
        | (refine gl_any0 ?_; refine gl_pure tab_ok rfl rfl rfl rfl rfl rfl ?_))
      | (refine gc_gate ?_; first
        | refine gc_region ?_
        | refine gc_block ?_
        | refine gc_skip ?_)
      | (refine ge_gate ?_; first
        | ((with_reducible refine ge_gT ?_); first | with_reducible refine ge_then ?_ | with_reducible refine ge_then_exit ?_ | with_reducible refine ge_then_ret ?_)
        | ((with_reducible refine ge_gK ?_); first | with_reducible refine ge_block ?_ | refine ge_block_exit ?_ | refine ge_block_pass rfl ?_ | with_reducible refine ge_block_ret ?_))
    refine ge_round (i + 1) ⟨by omega, fun j hj => ?_⟩ (by omega) c_frs (List.Sublist.refl _)
    rcases Nat.lt_or_ge j i with h | h
    · exact he j h
    · obtain rfl : j = i := by omega
      exact hd_.2
  have hlt : i < l.length → ltOf cSt (l.getD i default).s s = false := fun h => by
    cases h2 : ltOf cSt (l.getD i default).s s with
    | false => rfl
    | true =>
      rw [h2, show decide ((i : Int) < (l.length : Int)) = true by simp; omega] at h_
      cases h_
  have hai : addI s l = i := addI_eq s l i hi he hlt
  clear h_ hd_
  repeat' first
    | (refine gq_idxG ?_; refine gq_yv (yv_idxO tab_ok ho c_gok rfl rfl rfl rfl rfl rfl c_imp c_imp (by intro hq_; simp at hq_; omega)) rfl rfl ?_)
    | (refine gq_loadG ?_; refine gq_yv (yv_ldO tab_ok c_oa ho c_gok rfl rfl c_imp (fun hq_ => lds_part len_chg (by simp at hq_; omega) rfl (by decide) (lds_agg rfl rfl rfl)) (by intro hq_; simp at hq_; omega)) rfl rfl ?_)
    | (refine gc_gate ?_; first
      | refine gc_seq ?_
      | refine gc_quietRo rfl mixed (by decide +kernel) ?_
      | refine gc_exit ?_)
    | (refine ge_gate ?_; first
      | ((with_reducible refine ge_gT ?_); first | with_reducible refine ge_then ?_ | with_reducible refine ge_then_exit ?_ | with_reducible refine ge_then_ret ?_)
      | ((with_reducible refine ge_gK ?_); first | with_reducible refine ge_block ?_ | refine ge_block_exit ?_ | refine ge_block_pass rfl ?_ | with_reducible refine ge_block_ret ?_))
    | (refine gq_gate ?_; first
      | refine gq_nil ?_
      | (refine gq_load0 ?_; refine gq_yv (yv_load tab_ok (gok_none rfl) rfl rfl (fun _ => rfl) c_mem (fun _ => c_lds)) rfl rfl ?_)
      | (refine gq_pick0 ?_; first | refine gq_yv (yv_and (gok_none rfl) rfl rfl rfl (fun _ => rfl) c_imp2) rfl rfl ?_ | refine gq_yv (yv_or (gok_none rfl) rfl rfl rfl (fun _ => rfl) c_imp2) rfl rfl ?_)
      | (refine gq_loadG ?_; refine gq_yv (yv_load tab_ok c_gok rfl rfl c_imp c_mem (fun _ => c_lds)) rfl rfl ?_)
      | (refine gq_any0 ?_; refine gq_pure tab_ok rfl rfl rfl rfl rfl rfl ?_)
      | (refine gq_neS ?_; first | refine gq_yv (yv_neS tab_ok eqs_ok c_gok rfl rfl rfl rfl c_allT rfl rfl rfl) rfl rfl ?_)
      | (refine gq_anyG ?_; first | refine gq_yv (yv_pure tab_ok c_gok rfl rfl c_allT) rfl rfl ?_ | refine gq_yv (yv_indexS tab_ok c_gok rfl rfl rfl rfl c_imp c_imp (by intro hq_; (try simp only [Bool.and_eq_true, Bool.not_eq_true', Bool.not_eq_false', Bool.or_eq_false_iff, Bool.or_eq_true, decide_eq_true_eq, decide_eq_false_iff_not, Bool.true_and, Bool.and_true] at hq_); omega)) rfl rfl ?_ | refine gq_yv (yv_indexS (i := 0) tab_ok c_gok rfl rfl rfl rfl c_imp c_imp (by intro hq_; (try simp only [Bool.and_eq_true, Bool.not_eq_true', Bool.not_eq_false', Bool.or_eq_false_iff, Bool.or_eq_true, decide_eq_true_eq, decide_eq_false_iff_not, Bool.true_and, Bool.and_true] at hq_); omega)) rfl rfl ?_))
  (refine gc_cond rfl ?_ ?_ <;> intro h_ <;> have hd_ := h_ <;> (try simp only [bytes_beq, cell_beq, val_beq, stamp_beq, decide_eq_true_eq, decide_eq_false_iff_not, Bool.and_eq_true, Bool.or_eq_true, Bool.or_eq_false_iff, Bool.not_eq_true', Bool.not_eq_false', Bool.not_true, Bool.not_false, Bool.false_or, Bool.true_and, Bool.and_true, Bool.or_false, beq_iff_eq, bne_iff_ne, beq_eq_false_iff_ne, bne_eq_false_iff_eq, ne_eq, Bool.false_eq_true, reduceCtorEq] at hd_) <;> (try (exfalso; omega)))
  case' _ =>
    refine gc_part (K1 := [(g4, true, .cells s.l.toArray 38 (0, 0)), (g, true, .cells [.slice (q.map ad) l.length c].toArray 94 (0, 0))]) (List.Sublist.cons_cons _ (List.Sublist.cons_cons _ (List.nil_sublist _))) fun W1 h1 => ?_
    have hs1 : SlA W1 4 (q.map ad) l.length (fun j => (l.getD j default).l) := slA_cat len_chg rfl h1 c_oa ho
    have hnq : ∀ m, m ≤ l.length → 0 < m → pb (q.map ad) ∉ [g4, g] := fun m hm h => own_nm (K1 := [(g4, true, Obj.cells s.l.toArray 38 (0, 0)), (g, true, Obj.cells [.slice (q.map ad) l.length c].toArray 94 (0, 0))]) h1 (List.Sublist.refl _) (ow_pos ho (by omega))
    have hole := ho.le
    have honil : q.map ad = none → c = 0 := fun h => ho.nil (Option.map_eq_none_iff.1 h)
    have ho1 : ∀ j, j < l.length → ∀ u ∈ (l.getD j default).l, u.oneCell' = true := fun j hj u hu => ones_chg _ u hu
    rw [show wrs [(g4, true, Obj.cells s.l.toArray 38 (0, 0)), (g, true, Obj.cells [.slice (q.map ad) l.length c].toArray 94 (0, 0))] = [g4, g] from rfl]
    refine gp_startC (St W1 [g4, g] [(g4, true, .cells s.l.toArray 38 (0, 0)), (g, true, .cells [.slice (q.map ad) l.length c].toArray 94 (0, 0))]) c_cl3 [21] #[false, false, false, false, false, false, false, false, false, false, false, false, false, false, false, false, false, false, false, false, false, false] mixed rfl rfl c_qp ?_; intro hqp_
    refine gp_take 0 #[true, false, false, false, false, false, false, false, false, false, false, false, false, false, false, false, false, false, false, false, false, false] hqp_ rfl (by kernel_rfl) (yv_pure tab_ok c_gok rfl rfl c_allT) c_cl3 rfl rfl ?_
    refine gp_take 1 #[true, true, false, false, false, false, false, false, false, false, false, false, false, false, false, false, false, false, false, false, false, false] hqp_ rfl (by kernel_rfl) (yv_pure tab_ok c_gok rfl rfl c_allT) c_cl3 rfl rfl ?_
    refine gp_take 2 #[true, true, true, false, false, false, false, false, false, false, false, false, false, false, false, false, false, false, false, false, false, false] hqp_ rfl (by kernel_rfl) (yv_pure tab_ok c_gok rfl rfl c_allT) c_cl3 rfl rfl ?_
    refine gp_take 3 #[true, true, true, true, false, false, false, false, false, false, false, false, false, false, false, false, false, false, false, false, false, false] hqp_ rfl (by kernel_rfl) (yv_pure tab_ok c_gok rfl rfl c_allT) c_cl3 rfl rfl ?_
    refine gp_take 4 #[true, true, true, true, true, false, false, false, false, false, false, false, false, false, false, false, false, false, false, false, false, false] hqp_ rfl (by kernel_rfl) (yv_load tab_ok c_gok rfl rfl c_imp c_mem (fun _ => c_lds)) c_cl3 rfl rfl ?_
    refine gp_take 5 #[true, true, true, true, true, true, false, false, false, false, false, false, false, false, false, false, false, false, false, false, false, false] hqp_ rfl (by kernel_rfl) (yv_pure tab_ok c_gok rfl rfl c_allT) c_cl3 rfl rfl ?_
    refine gp_take 6 #[true, true, true, true, true, true, true, false, false, false, false, false, false, false, false, false, false, false, false, false, false, false] hqp_ rfl (by kernel_rfl) ((yv_sliceH (h := i) tab_ok (gok_none rfl) rfl rfl rfl rfl rfl (fun _ => rfl) (fun _ => rfl) (fun _ => by omega))) c_cl3 rfl rfl ?_
    refine gp_take 8 #[true, true, true, true, true, true, true, false, true, false, false, false, false, false, false, false, false, false, false, false, false, false] hqp_ rfl (by kernel_rfl) (yv_load tab_ok c_gok rfl rfl c_imp c_mem (fun _ => c_lds)) c_cl3 rfl rfl ?_
    refine gp_take 9 #[true, true, true, true, true, true, true, false, true, true, false, false, false, false, false, false, false, false, false, false, false, false] hqp_ rfl (by kernel_rfl) (yv_pure tab_ok c_gok rfl rfl c_allT) c_cl3 rfl rfl ?_
    refine gp_take 12 #[true, true, true, true, true, true, true, false, true, true, false, false, true, false, false, false, false, false, false, false, false, false] hqp_ rfl (by kernel_rfl) (yv_pure tab_ok c_gok rfl rfl c_allT) c_cl3 rfl rfl ?_
    refine gp_take 13 #[true, true, true, true, true, true, true, false, true, true, false, false, true, true, false, false, false, false, false, false, false, false] hqp_ rfl (by kernel_rfl) (yv_pure tab_ok c_gok rfl rfl c_allT) c_cl3 rfl rfl ?_
    refine gp_take 14 #[true, true, true, true, true, true, true, false, true, true, false, false, true, true, true, false, false, false, false, false, false, false] hqp_ rfl (by kernel_rfl) (yv_pure tab_ok c_gok rfl rfl c_allT) c_cl3 rfl rfl ?_
    refine gp_take 15 #[true, true, true, true, true, true, true, false, true, true, false, false, true, true, true, true, false, false, false, false, false, false] hqp_ rfl (by kernel_rfl) (yv_load tab_ok c_gok rfl rfl c_imp c_mem (fun _ => c_lds)) c_cl3 rfl rfl ?_
    refine gp_take 16 #[true, true, true, true, true, true, true, false, true, true, false, false, true, true, true, true, true, false, false, false, false, false] hqp_ rfl (by kernel_rfl) (yv_pure tab_ok c_gok rfl rfl c_allT) c_cl3 rfl rfl ?_
    refine gp_take 17 #[true, true, true, true, true, true, true, false, true, true, false, false, true, true, true, true, true, true, false, false, false, false] hqp_ rfl (by kernel_rfl) ((yv_sliceL (lo := i) tab_ok (gok_none rfl) rfl rfl rfl rfl rfl (fun _ => rfl) (fun _ => rfl) (fun _ => by omega))) c_cl3 rfl rfl ?_
    refine gp_rs [7, 10] (by kernel_rfl) rfl (gr_ev 7 #[true, true, true, true, true, true, true, true, true, true, false, false, true, true, true, true, true, true, false, false, false, false] rfl rfl rfl rfl rfl (ev_append (p := none) (xs := []) (sp := []) tab_ok rfl rfl rfl rfl rfl rfl rfl rfl Oa.nil Ow.none0 (srcA tab_ok rfl (takeA hs1 hi) (hnq i hi) (fun j hj => ho1 j (by omega)) honil) c_lim c_lim ?_) (gr_ev 10 #[true, true, true, true, true, true, true, false, true, true, true, false, true, true, true, true, true, true, false, false, false, false] rfl rfl rfl rfl rfl (ev_buildSlice tab_ok rfl rfl rfl rfl rfl rfl rfl rfl rfl rfl ?_) gr_nil))
    intro p3_ c3_ sp3_ hw3_; refine ⟨c_cl3, ?_⟩
    (refine gp_ev 10 #[true, true, true, true, true, true, true, true, true, true, true, false, true, true, true, true, true, true, false, false, false, false] rfl (by kernel_rfl) rfl rfl rfl (ev_buildSlice tab_ok rfl rfl rfl rfl rfl rfl rfl rfl rfl rfl ?_); intro g_ hg_; refine ⟨c_cl3, ?_⟩)
    (refine gp_ev 11 #[true, true, true, true, true, true, true, true, true, true, true, true, true, true, true, true, true, true, false, false, false, false] rfl (by kernel_rfl) rfl rfl rfl (ev_append tab_ok rfl rfl rfl rfl rfl rfl rfl rfl c_oa hw3_ c_src c_lim c_lim ?_); intro p8_ c8_ sp8_ hw8_; refine ⟨c_cl3, ?_⟩)
    (refine gp_ev 18 #[true, true, true, true, true, true, true, true, true, true, true, true, true, true, true, true, true, true, true, false, false, false] rfl (by kernel_rfl) rfl rfl rfl (ev_append tab_ok rfl rfl rfl rfl rfl rfl rfl rfl c_oa hw8_ (srcRestA tab_ok rfl hs1 hi hole (hnq _ (Nat.le_refl _)) ho1 honil) c_lim c_lim ?_); intro p_ c_ sp_ hw_; refine ⟨c_cl3, ?_⟩)
    refine gp_take 19 #[true, true, true, true, true, true, true, true, true, true, true, true, true, true, true, true, true, true, true, true, false, false] hqp_ rfl (by kernel_rfl) (yv_pure tab_ok c_gok rfl rfl c_allT) c_cl3 rfl rfl ?_
    refine gp_take 20 #[true, true, true, true, true, true, true, true, true, true, true, true, true, true, true, true, true, true, true, true, true, false] hqp_ rfl (by kernel_rfl) (yv_pure tab_ok c_gok rfl rfl c_allT) c_cl3 rfl rfl ?_
    refine gp_last0 21 #[true, true, true, true, true, true, true, true, true, true, true, true, true, true, true, true, true, true, true, true, true, true] rfl (by kernel_rfl) (by simp) rfl (ev_store tab_ok rfl rfl rfl rfl rfl rfl c_one rfl c_ku ?_)
    refine gp_done (by kernel_rfl) ?_; clear hqp_
    rotate_left 1
    intro g_ hg_; refine ⟨c_cl3, ?_⟩
    (refine gp_ev 7 #[true, true, true, true, true, true, true, true, true, true, true, false, true, true, true, true, true, true, false, false, false, false] rfl (by kernel_rfl) rfl rfl rfl (ev_append (p := none) (xs := []) (sp := []) tab_ok rfl rfl rfl rfl rfl rfl rfl rfl Oa.nil Ow.none0 (srcA tab_ok rfl (takeA hs1 hi) (hnq i hi) (fun j hj => ho1 j (by omega)) honil) c_lim c_lim ?_); intro p3_ c3_ sp3_ hw3_; refine ⟨c_cl3, ?_⟩)
    (refine gp_ev 11 #[true, true, true, true, true, true, true, true, true, true, true, true, true, true, true, true, true, true, false, false, false, false] rfl (by kernel_rfl) rfl rfl rfl (ev_append tab_ok rfl rfl rfl rfl rfl rfl rfl rfl c_oa hw3_ c_src c_lim c_lim ?_); intro p8_ c8_ sp8_ hw8_; refine ⟨c_cl3, ?_⟩)
    (refine gp_ev 18 #[true, true, true, true, true, true, true, true, true, true, true, true, true, true, true, true, true, true, true, false, false, false] rfl (by kernel_rfl) rfl rfl rfl (ev_append tab_ok rfl rfl rfl rfl rfl rfl rfl rfl c_oa hw8_ (srcRestA tab_ok rfl hs1 hi hole (hnq _ (Nat.le_refl _)) ho1 honil) c_lim c_lim ?_); intro p_ c_ sp_ hw_; refine ⟨c_cl3, ?_⟩)
    refine gp_take 19 #[true, true, true, true, true, true, true, true, true, true, true, true, true, true, true, true, true, true, true, true, false, false] hqp_ rfl (by kernel_rfl) (yv_pure tab_ok c_gok rfl rfl c_allT) c_cl3 rfl rfl ?_
    refine gp_take 20 #[true, true, true, true, true, true, true, true, true, true, true, true, true, true, true, true, true, true, true, true, true, false] hqp_ rfl (by kernel_rfl) (yv_pure tab_ok c_gok rfl rfl c_allT) c_cl3 rfl rfl ?_
    refine gp_last0 21 #[true, true, true, true, true, true, true, true, true, true, true, true, true, true, true, true, true, true, true, true, true, true] rfl (by kernel_rfl) (by simp) rfl (ev_store tab_ok rfl rfl rfl rfl rfl rfl c_one rfl c_ku ?_)
    refine gp_done (by kernel_rfl) ?_; clear hqp_
    all_goals
      repeat' first
        | (refine gc_gate ?_; first
          | refine gc_seq ?_)
        | (refine ge_gate ?_; first
          | ((with_reducible refine ge_gT ?_); first | with_reducible refine ge_then ?_ | with_reducible refine ge_then_exit ?_ | with_reducible refine ge_then_ret ?_))
    all_goals
      have hins := insC_new hai (fun h3 => hd_.elim (fun e => by omega) (fun e => e h3.2))
      have hlen : (insC l s).length = 0 + i + 1 + (l.length - i) := by
        rw [hins]
        simp
        omega
      have hX : cat Chg.l (insC l s) = [] ++ (elems i fun j => (l.getD j default).l).flatten ++ (⟨s, 0⟩ : Chg).l ++ (elems (l.length - i) fun j => (l.getD (i + j) default).l).flatten := by
        rw [elemsTake hi, elemsDrop hi, hins]
        simp [cat]
      refine gc_partP (K1 := FrK g p_ c_ (insC l s) sp_) (K2 := [_, _]) (by unfold FrK; rw [hlen, hX]; exact permA _ _ _ _) fun W2 h2 => ?_
      have hW2 : St w M (FrK g p_ c_ (insC l s) sp_) W2 := by
        have h3 := (h1.drop (List.Sublist.cons_cons _ (List.Sublist.cons_cons _ (List.nil_sublist _)))).trans h2
        refine (h3.perm (permA _ _ _ _)).drop ?_
        unfold FrK
        rw [hlen, hX]
        exact List.sublist_append_left _ _
      have hw2 : Ow p_ (insC l s).length c_ 4 (cat Chg.l (insC l s)) sp_ := by
        rw [hlen, hX]
        exact hw_
  rotate_left 2
  case' _ =>
    have hfd : i < l.length ∧ (l.getD i default).s = s := ⟨by omega, hd_.2⟩
    have hins := insC_old hai hfd
    obtain ⟨p_, rfl⟩ : ∃ p_, p_ = q := ⟨_, rfl⟩
    obtain ⟨c_, rfl⟩ : ∃ c_, c_ = c := ⟨_, rfl⟩
    obtain ⟨sp_, rfl⟩ : ∃ sp_, sp_ = sp := ⟨_, rfl⟩
    repeat' first
      | (refine gc_gate ?_; first
        | refine gc_seq ?_
        | refine gc_skip ?_)
      | (refine ge_gate ?_; first
        | ((with_reducible refine ge_gT ?_); first | with_reducible refine ge_then ?_ | with_reducible refine ge_then_exit ?_ | with_reducible refine ge_then_ret ?_))
    refine gc_partP (K1 := FrK g p_ c_ (insC l s) sp_) (K2 := [_]) (by rw [hins]; exact (List.perm_append_singleton _ _).symm) fun W2 h2 => ?_
    have hW2 : St w M (FrK g p_ c_ (insC l s) sp_) W2 := by
      rw [hins]
      exact h2.drop (List.sublist_cons_self _ _)
    have hw2 : Ow p_ (insC l s).length c_ 4 (cat Chg.l (insC l s)) sp_ := by
      rw [hins]
      exact ho
  all_goals
    obtain ⟨hia, hlb, hic⟩ := insC_at (l := l) (s := s)
    have hrng : In64 (((insC l s).getD i default).n + n) := by
      rw [hai] at hic
      rcases hic with h | h
      · rw [h]
        simpa using hn
      · exact hov _ h
    have hres : addC l s n = if (((insC l s).getD i default).n + n) = 0 then (bumpC (insC l s) i n).take i ++ (bumpC (insC l s) i n).drop (i + 1) else bumpC (insC l s) i n := by
      unfold addC
      rw [hai]
    rw [hai] at hia
    rw [hres]
    clear hres hins hic
    generalize insC l s = l1 at *
    unfold In64 at hrng
    rcases p_ with _ | g2
    · have h1 := hw2.nil rfl
      have h2 := hw2.le
      omega
    unfold FrK
    refine gc_less (F' := [(0, true, .pointer (some ⟨g, 0, none⟩)), (2, true, .int .i64 n), (6, true, .int .i64 (i : Int))]) c_frs ?_
    refine gp_start [17] #[false, false, false, false, false, false, false, false, false, false, false, false, false, false, false, false, false, false] mixed rfl rfl c_qp ?_; intro hqp_
    refine gp_take 0 #[true, false, false, false, false, false, false, false, false, false, false, false, false, false, false, false, false, false] hqp_ rfl (by kernel_rfl) (yv_pure tab_ok c_gok rfl rfl c_allT) c_cl rfl rfl ?_
    refine gp_take 1 #[true, true, false, false, false, false, false, false, false, false, false, false, false, false, false, false, false, false] hqp_ rfl (by kernel_rfl) (yv_pure tab_ok c_gok rfl rfl c_allT) c_cl rfl rfl ?_
    refine gp_take 2 #[true, true, true, false, false, false, false, false, false, false, false, false, false, false, false, false, false, false] hqp_ rfl (by kernel_rfl) (yv_pure tab_ok c_gok rfl rfl c_allT) c_cl rfl rfl ?_
    refine gp_take 3 #[true, true, true, true, false, false, false, false, false, false, false, false, false, false, false, false, false, false] hqp_ rfl (by kernel_rfl) (yv_load tab_ok c_gok rfl rfl c_imp c_mem (fun _ => c_lds)) c_cl rfl rfl ?_
    refine gp_take 4 #[true, true, true, true, true, false, false, false, false, false, false, false, false, false, false, false, false, false] hqp_ rfl (by kernel_rfl) (yv_pure tab_ok c_gok rfl rfl c_allT) c_cl rfl rfl ?_
    refine gp_take 5 #[true, true, true, true, true, true, false, false, false, false, false, false, false, false, false, false, false, false] hqp_ rfl (by kernel_rfl) (yv_pure tab_ok c_gok rfl rfl c_allT) c_cl rfl rfl ?_
    refine gp_take 6 #[true, true, true, true, true, true, true, false, false, false, false, false, false, false, false, false, false, false] hqp_ rfl (by kernel_rfl) (yv_pure tab_ok c_gok rfl rfl c_allT) c_cl rfl rfl ?_
    refine gp_take 7 #[true, true, true, true, true, true, true, true, false, false, false, false, false, false, false, false, false, false] hqp_ rfl (by kernel_rfl) (yv_pure tab_ok c_gok rfl rfl c_allT) c_cl rfl rfl ?_
    refine gp_take 8 #[true, true, true, true, true, true, true, true, true, false, false, false, false, false, false, false, false, false] hqp_ rfl (by kernel_rfl) (yv_load tab_ok c_gok rfl rfl c_imp c_mem (fun _ => c_lds)) c_cl rfl rfl ?_
    refine gp_take 9 #[true, true, true, true, true, true, true, true, true, true, false, false, false, false, false, false, false, false] hqp_ rfl (by kernel_rfl) (yv_pure tab_ok c_gok rfl rfl c_allT) c_cl rfl rfl ?_
    refine gp_take 10 #[true, true, true, true, true, true, true, true, true, true, true, false, false, false, false, false, false, false] hqp_ rfl (by kernel_rfl) ((yv_idxO tab_ok hw2 c_gok rfl rfl rfl rfl rfl rfl c_imp c_imp (fun _ => hia))) c_cl rfl rfl ?_
    refine gp_take 11 #[true, true, true, true, true, true, true, true, true, true, true, true, false, false, false, false, false, false] hqp_ rfl (by kernel_rfl) (yv_pure tab_ok c_gok rfl rfl c_allT) c_cl rfl rfl ?_
    refine gp_take 12 #[true, true, true, true, true, true, true, true, true, true, true, true, true, false, false, false, false, false] hqp_ rfl (by kernel_rfl) ((yv_ldO tab_ok c_oa hw2 c_gok rfl rfl c_imp (fun hq_ => lds_part len_chg hia rfl (by decide) (lds_one rfl rfl rfl rfl)) (fun _ => by omega))) c_cl rfl rfl ?_
    refine gp_take 13 #[true, true, true, true, true, true, true, true, true, true, true, true, true, true, false, false, false, false] hqp_ rfl (by kernel_rfl) (yv_pure tab_ok c_gok rfl rfl c_allT) c_cl rfl rfl ?_
    refine gp_take 14 #[true, true, true, true, true, true, true, true, true, true, true, true, true, true, true, false, false, false] hqp_ rfl (by kernel_rfl) (yv_add tab_ok c_gok rfl rfl rfl rfl c_allT c_bnd) c_cl rfl rfl ?_
    refine gp_take 15 #[true, true, true, true, true, true, true, true, true, true, true, true, true, true, true, true, false, false] hqp_ rfl (by kernel_rfl) ((yv_idxO tab_ok hw2 c_gok rfl rfl rfl rfl rfl rfl c_imp c_imp (fun _ => hia))) c_cl rfl rfl ?_
    refine gp_take 16 #[true, true, true, true, true, true, true, true, true, true, true, true, true, true, true, true, true, false] hqp_ rfl (by kernel_rfl) (yv_pure tab_ok c_gok rfl rfl c_allT) c_cl rfl rfl ?_
    refine gp_last0 17 #[true, true, true, true, true, true, true, true, true, true, true, true, true, true, true, true, true, true] rfl (by kernel_rfl) (by simp) rfl (ev_store (g := g2) (off := i * 4 + 3) (e := 82) (cs := cat Chg.l l1 ++ sp_) tab_ok rfl rfl rfl rfl rfl rfl c_one (putC_cat _ sp_ l1 i hia) c_ku ?_)
    refine gp_done (by kernel_rfl) ?_; clear hqp_
  all_goals
    have hbump : l1.set i ⟨(l1.getD i default).s, (l1.getD i default).n + n⟩ = bumpC l1 i n := rfl
    rw [hbump]
    have hl2 : (bumpC l1 i n).length = l1.length := by unfold bumpC; rw [List.length_set]
    have hat : ((bumpC l1 i n).getD i default).n = (l1.getD i default).n + n := by
      unfold bumpC
      simp [List.getD, hia]
    rw [← hat]
    generalize bumpC l1 i n = l2 at *
    have hw3 : Ow (some g2) l1.length c_ 4 (cat Chg.l l2) sp_ := ⟨by rw [cat_length len_chg, hl2], hw2.room, hw2.le, fun h => by cases h⟩
    repeat' first
      | (refine gl_idx0 ?_; refine gl_yv (yv_idxO tab_ok hw3 (gok_none rfl) rfl rfl rfl rfl rfl rfl (fun _ => rfl) (fun _ => rfl) (fun _ => hia)) rfl rfl ?_)
      | (refine gl_load0 ?_; refine gl_yv (yv_ldO tab_ok c_oa hw3 (gok_none rfl) rfl rfl (fun _ => rfl) (fun _ => lds_part len_chg (by omega) rfl (by decide) (lds_one rfl rfl rfl rfl)) (fun _ => by omega)) rfl rfl ?_)
      | (refine gl_gate ?_; first
        | refine gl_nil ?_
        | (refine gl_load0 ?_; refine gl_yv (yv_load tab_ok (gok_none rfl) rfl rfl (fun _ => rfl) c_mem (fun _ => c_lds)) rfl rfl ?_)
        | (refine gl_any0 ?_; refine gl_pure tab_ok rfl rfl rfl rfl rfl rfl ?_))
      | (refine gc_gate ?_; first
        | refine gc_seq ?_
        | refine gc_region ?_)
      | (refine ge_gate ?_; first
        | ((with_reducible refine ge_gT ?_); first | with_reducible refine ge_then ?_ | with_reducible refine ge_then_exit ?_ | with_reducible refine ge_then_ret ?_))
  all_goals
    have hK3 : ∀ (l3 : List Chg), FrK g (some g2) c_ l2 sp_ = [(g, true, .cells [.slice (some (ad g2)) l1.length c_].toArray 94 (0, 0)), (g2, true, .cells (cat Chg.l l2 ++ sp_).toArray 82 (0, 0))] := fun _ => by unfold FrK; rw [hl2]; rfl
    (refine gc_cond rfl ?_ ?_ <;> intro h_ <;> have hd_ := h_ <;> (try simp only [bytes_beq, cell_beq, val_beq, stamp_beq, decide_eq_true_eq, decide_eq_false_iff_not, Bool.and_eq_true, Bool.or_eq_true, Bool.or_eq_false_iff, Bool.not_eq_true', Bool.not_eq_false', Bool.not_true, Bool.not_false, Bool.false_or, Bool.true_and, Bool.and_true, Bool.or_false, beq_iff_eq, bne_iff_ne, beq_eq_false_iff_ne, bne_eq_false_iff_eq, ne_eq, Bool.false_eq_true, reduceCtorEq] at hd_) <;> (try (exfalso; omega)))
    · refine gc_part (K1 := [(g, true, .cells [.slice (some (ad g2)) l1.length c_].toArray 94 (0, 0))]) (List.Sublist.cons_cons _ (List.nil_sublist _)) fun W3 h3 => ?_
      have hs3 : SlA W3 4 (some (ad g2)) l1.length (fun j => (l2.getD j default).l) := slA_cat (p := some g2) len_chg hl2.symm h3 c_oa hw3
      have hn3 : ∀ m, m ≤ l1.length → 0 < m → pb (some (ad g2)) ∉ [g] := fun m hm h => own_nm (q := some g2) (K1 := [(g, true, Obj.cells [.slice (some (ad g2)) l1.length c_].toArray 94 (0, 0))]) h3 (List.Sublist.refl _) (by simp)
      have hol3 := hw3.le
      have hnn : (some (ad g2) : Option Addr) = none → c_ = 0 := fun h => by cases h
      have hone : ∀ j, j < l1.length → ∀ u ∈ (l2.getD j default).l, u.oneCell' = true := fun j hj u hu => ones_chg _ u hu
      rw [show wrs [(g, true, Obj.cells [.slice (some (ad g2)) l1.length c_].toArray 94 (0, 0))] = [g] from rfl]
      refine gc_less (F' := [(0, true, .pointer (some ⟨g, 0, none⟩)), (6, true, .int .i64 (i : Int))]) c_frs ?_
      refine gp_startC (St W3 [g] [(g, true, .cells [.slice (some (ad g2)) l1.length c_].toArray 94 (0, 0))]) c_cl3 [18] #[false, false, false, false, false, false, false, false, false, false, false, false, false, false, false, false, false, false, false] mixed rfl rfl c_qp ?_; intro hqp_
      refine gp_take 0 #[true, false, false, false, false, false, false, false, false, false, false, false, false, false, false, false, false, false, false] hqp_ rfl (by kernel_rfl) (yv_pure tab_ok c_gok rfl rfl c_allT) c_cl3 rfl rfl ?_
      refine gp_take 1 #[true, true, false, false, false, false, false, false, false, false, false, false, false, false, false, false, false, false, false] hqp_ rfl (by kernel_rfl) (yv_pure tab_ok c_gok rfl rfl c_allT) c_cl3 rfl rfl ?_
      refine gp_take 2 #[true, true, true, false, false, false, false, false, false, false, false, false, false, false, false, false, false, false, false] hqp_ rfl (by kernel_rfl) (yv_pure tab_ok c_gok rfl rfl c_allT) c_cl3 rfl rfl ?_
      refine gp_take 3 #[true, true, true, true, false, false, false, false, false, false, false, false, false, false, false, false, false, false, false] hqp_ rfl (by kernel_rfl) (yv_pure tab_ok c_gok rfl rfl c_allT) c_cl3 rfl rfl ?_
      refine gp_take 4 #[true, true, true, true, true, false, false, false, false, false, false, false, false, false, false, false, false, false, false] hqp_ rfl (by kernel_rfl) (yv_load tab_ok c_gok rfl rfl c_imp c_mem (fun _ => c_lds)) c_cl3 rfl rfl ?_
      refine gp_take 5 #[true, true, true, true, true, true, false, false, false, false, false, false, false, false, false, false, false, false, false] hqp_ rfl (by kernel_rfl) (yv_pure tab_ok c_gok rfl rfl c_allT) c_cl3 rfl rfl ?_
      refine gp_take 6 #[true, true, true, true, true, true, true, false, false, false, false, false, false, false, false, false, false, false, false] hqp_ rfl (by kernel_rfl) ((yv_sliceH (h := i) tab_ok (gok_none rfl) rfl rfl rfl rfl rfl (fun _ => rfl) (fun _ => rfl) (fun _ => by omega))) c_cl3 rfl rfl ?_
      refine gp_take 8 #[true, true, true, true, true, true, true, false, true, false, false, false, false, false, false, false, false, false, false] hqp_ rfl (by kernel_rfl) (yv_pure tab_ok c_gok rfl rfl c_allT) c_cl3 rfl rfl ?_
      refine gp_take 9 #[true, true, true, true, true, true, true, false, true, true, false, false, false, false, false, false, false, false, false] hqp_ rfl (by kernel_rfl) (yv_pure tab_ok c_gok rfl rfl c_allT) c_cl3 rfl rfl ?_
      refine gp_take 10 #[true, true, true, true, true, true, true, false, true, true, true, false, false, false, false, false, false, false, false] hqp_ rfl (by kernel_rfl) (yv_pure tab_ok c_gok rfl rfl c_allT) c_cl3 rfl rfl ?_
      refine gp_take 11 #[true, true, true, true, true, true, true, false, true, true, true, true, false, false, false, false, false, false, false] hqp_ rfl (by kernel_rfl) (yv_load tab_ok c_gok rfl rfl c_imp c_mem (fun _ => c_lds)) c_cl3 rfl rfl ?_
      refine gp_take 12 #[true, true, true, true, true, true, true, false, true, true, true, true, true, false, false, false, false, false, false] hqp_ rfl (by kernel_rfl) (yv_pure tab_ok c_gok rfl rfl c_allT) c_cl3 rfl rfl ?_
      refine gp_take 13 #[true, true, true, true, true, true, true, false, true, true, true, true, true, true, false, false, false, false, false] hqp_ rfl (by kernel_rfl) (((yv_add tab_ok c_gok rfl rfl rfl rfl c_allT c_bnd).cast (v' := .int .i64 ((i + 1 : Nat) : Int)) (by congr 1))) c_cl3 rfl rfl ?_
      refine gp_take 14 #[true, true, true, true, true, true, true, false, true, true, true, true, true, true, true, false, false, false, false] hqp_ rfl (by kernel_rfl) ((yv_sliceL (lo := i + 1) tab_ok (gok_none rfl) rfl rfl rfl rfl rfl (fun _ => rfl) (fun _ => rfl) (fun _ => by omega))) c_cl3 rfl rfl ?_
      (refine gp_ev 7 #[true, true, true, true, true, true, true, true, true, true, true, true, true, true, true, false, false, false, false] rfl (by kernel_rfl) rfl rfl rfl (ev_append (p := none) (xs := []) (sp := []) tab_ok rfl rfl rfl rfl rfl rfl rfl rfl Oa.nil Ow.none0 (srcA tab_ok rfl (takeA hs3 (Nat.le_of_lt hia)) (hn3 i (Nat.le_of_lt hia)) (fun j hj => hone j (by omega)) hnn) c_lim c_lim ?_); intro p3_ c3_ sp3_ hw3_; refine ⟨c_cl3, ?_⟩)
      (refine gp_ev 15 #[true, true, true, true, true, true, true, true, true, true, true, true, true, true, true, true, false, false, false] rfl (by kernel_rfl) rfl rfl rfl (ev_append tab_ok rfl rfl rfl rfl rfl rfl rfl rfl c_oa hw3_ (srcRestA tab_ok rfl hs3 hia hol3 (hn3 _ (Nat.le_refl _)) hone hnn) c_lim c_lim ?_); intro p_ c3_ sp3_ hw_; refine ⟨c_cl3, ?_⟩)
      refine gp_take 16 #[true, true, true, true, true, true, true, true, true, true, true, true, true, true, true, true, true, false, false] hqp_ rfl (by kernel_rfl) (yv_pure tab_ok c_gok rfl rfl c_allT) c_cl3 rfl rfl ?_
      refine gp_take 17 #[true, true, true, true, true, true, true, true, true, true, true, true, true, true, true, true, true, true, false] hqp_ rfl (by kernel_rfl) (yv_pure tab_ok c_gok rfl rfl c_allT) c_cl3 rfl rfl ?_
      refine gp_last0 18 #[true, true, true, true, true, true, true, true, true, true, true, true, true, true, true, true, true, true, true] rfl (by kernel_rfl) (by simp) rfl (ev_store tab_ok rfl rfl rfl rfl rfl rfl c_one rfl c_ku ?_)
      refine gp_done (by kernel_rfl) ?_; clear hqp_
      repeat' first
        | (refine ge_gate ?_; first
          | ((with_reducible refine ge_gB ?_); first | refine ge_ret1 tab_ok rfl c_rvt ?_ | refine ge_end1 tab_ok rfl c_rvt ?_ | refine ge_ret2 tab_ok rfl c_rvt c_rvt ?_ | refine ge_ret_none rfl ?_ | refine ge_end_none rfl ?_))
      intro W hW
      have hla : (l2.take i ++ l2.drop (i + 1)).length = 0 + i + (l1.length - (i + 1)) := by
        simp
        omega
      have hxa : cat Chg.l (l2.take i ++ l2.drop (i + 1)) = [] ++ (elems i fun j => (l2.getD j default).l).flatten ++ (elems (l1.length - (i + 1)) fun j => (l2.getD (i + 1 + j) default).l).flatten := by
        rw [← hl2, elemsTake (by omega), elemsDrop (by omega)]
        simp [cat]
      rw [if_pos hd_]
      refine ⟨(p_, c3_, sp3_), rfl, by rw [hla, hxa]; exact hw_, ?_⟩
      refine hW2.trans (h3.trans (St.monoM (M := [g]) ?_ ?_))
      · rw [hla, hxa]
        exact hW.perm (List.perm_append_singleton _ _)
      · intro b hb
        simp only [List.mem_singleton] at hb
        subst hb
        exact mem_wrs (List.mem_cons_self ..)
    · repeat' first
        | (refine gc_gate ?_; first
          | refine gc_skip ?_)
        | (refine ge_gate ?_; first
          | ((with_reducible refine ge_gB ?_); first | refine ge_ret1 tab_ok rfl c_rvt ?_ | refine ge_end1 tab_ok rfl c_rvt ?_ | refine ge_ret2 tab_ok rfl c_rvt c_rvt ?_ | refine ge_ret_none rfl ?_ | refine ge_end_none rfl ?_))
      intro W hW
      rw [if_neg hd_]
      refine ⟨(some g2, c_, sp_), rfl, by rw [hl2]; exact hw3, hW2.trans ?_⟩
      rw [hl2]
      exact hW
end Go.Proofs.Ytkgjfcjciigcgaa
