/-
  What reads what, seen from both sides: abacistlaw12's second.
-/
import Derived.Test.YtkgjfcjciigcgaaGoDepsT
namespace Go.Proofs.Ytkgjfcjciigcgaa
open Go.Proofs.Ytkgjfcjciigcgaa.Sl Go.RowKit
set_option linter.unusedVariables false
set_option linter.unusedSimpArgs false
set_option linter.unusedSectionVars false
set_option maxRecDepth 100000

theorem ct_HasT {l : List Cell} {c : Cell} (hc : c ∈ l) (w : World) (p : Option Addr) (n cap : Nat) (hn : n = l.length) (hs : SlA w 3 p n (fun i => (l.getD i default).l)) (hl : n ≤ 4611686018427387904) : Calls Try.prog 54 #[.slice p n cap, .agg #[.string c.sheet, .int .i64 c.col, .int .i64 c.row]] w fun e w' => e = .returned (.bool true) ∧ Bl w w' := by
  have := ct_Has w l c p n cap hn hs hl
  rw [decide_eq_true hc] at this
  exact this
theorem ct_HasF {l : List Cell} {c : Cell} (hc : c ∉ l) (w : World) (p : Option Addr) (n cap : Nat) (hn : n = l.length) (hs : SlA w 3 p n (fun i => (l.getD i default).l)) (hl : n ≤ 4611686018427387904) : Calls Try.prog 54 #[.slice p n cap, .agg #[.string c.sheet, .int .i64 c.col, .int .i64 c.row]] w fun e w' => e = .returned (.bool false) ∧ Bl w w' := by
  have := ct_Has w l c p n cap hn hs hl
  rw [decide_eq_false hc] at this
  exact this
set_option maxHeartbeats 8000000 in
theorem walk_DepsMeet (l : List En) (p : Option Addr) (n cap : Nat) (hn : n = l.length) (hn9 : n ≤ 9223372036854775807) (w : World) (hs : SlA w 20 p n (fun i => (l.getD i default).l)) (hR : ∀ e ∈ l, NodeR All w e.node e.p) : Calls Try.prog 25 #[.slice p n cap] w fun e w' => e = .returned (.bool true) ∧ Bl w w' := by
  subst hn
  refine enter (args := [_]) (M := []) (K := []) Try.func25 rfl Try.ntmps25 rfl (St.refl _ _) ?_
  repeat' first
    | (refine gl_gate ?_; first
      | refine gl_nil ?_
      | (refine gl_calv0 ?_; first | refine gl_yd (yd_call (gok_none rfl) rfl ent107 rfl rfl (fun _ => allT_of rfl) (fun _ W hW => ct_aliveD W)) rfl rfl ?_ | refine gl_yd (yd_call (gok_none rfl) rfl ent108 rfl rfl (fun _ => allT_of rfl) (fun _ W hW => ct_Few12 l p _ cap W rfl (hs.st hW) (fun e he => (hR e he).st hW) (by omega))) rfl rfl ?_)
      | (refine gl_calvG ?_; first | refine gl_yd (yd_call c_gok rfl ent107 rfl rfl c_allT (fun _ W hW => ct_aliveD W)) rfl rfl ?_ | refine gl_yd (yd_call c_gok rfl ent108 rfl rfl c_allT (fun _ W hW => ct_Few12 l p _ cap W rfl (hs.st hW) (fun e he => (hR e he).st hW) (by omega))) rfl rfl ?_)
      | (refine gl_pick0 ?_; first | refine gl_yv (yv_and (gok_none rfl) rfl rfl rfl (fun _ => rfl) c_imp2) rfl rfl ?_ | refine gl_yv (yv_or (gok_none rfl) rfl rfl rfl (fun _ => rfl) c_imp2) rfl rfl ?_)
      | (refine gl_any0 ?_; refine gl_pure tab_ok rfl rfl rfl rfl rfl rfl ?_)
      | (refine gl_anyG ?_; first | refine gl_yv (yv_pure tab_ok c_gok rfl rfl c_allT) rfl rfl ?_ | refine gl_yv (yv_indexS tab_ok c_gok rfl rfl rfl rfl c_imp c_imp (by intro hq_; (try simp only [Bool.and_eq_true, Bool.not_eq_true', Bool.not_eq_false', Bool.or_eq_false_iff, Bool.or_eq_true, decide_eq_true_eq, decide_eq_false_iff_not, Bool.true_and, Bool.and_true] at hq_); omega)) rfl rfl ?_ | refine gl_yv (yv_indexS (i := 0) tab_ok c_gok rfl rfl rfl rfl c_imp c_imp (by intro hq_; (try simp only [Bool.and_eq_true, Bool.not_eq_true', Bool.not_eq_false', Bool.or_eq_false_iff, Bool.or_eq_true, decide_eq_true_eq, decide_eq_false_iff_not, Bool.true_and, Bool.and_true] at hq_); omega)) rfl rfl ?_))
    | (refine gc_gate ?_; first
      | refine gc_seq ?_
      | refine gc_region ?_)
    | (refine ge_gate ?_; first
      | ((with_reducible refine ge_gT ?_); first | with_reducible refine ge_then ?_ | with_reducible refine ge_then_exit ?_ | with_reducible refine ge_then_ret ?_))
  (refine gc_cond rfl ?_ ?_ <;> intro h_ <;> have hd_ := h_ <;> (try simp only [bytes_beq, cell_beq, val_beq, stamp_beq, decide_eq_true_eq, decide_eq_false_iff_not, Bool.and_eq_true, Bool.or_eq_true, Bool.or_eq_false_iff, Bool.not_eq_true', Bool.not_eq_false', Bool.not_true, Bool.not_false, Bool.false_or, Bool.true_and, Bool.and_true, Bool.or_false, beq_iff_eq, bne_iff_ne, beq_eq_false_iff_ne, bne_eq_false_iff_eq, ne_eq, Bool.false_eq_true, reduceCtorEq] at hd_) <;> (try (exfalso; omega)))
  · repeat' first
      | (refine gl_gate ?_; first
        | refine gl_nil ?_
        | (refine gl_any0 ?_; refine gl_pure tab_ok rfl rfl rfl rfl rfl rfl ?_))
      | (refine gc_gate ?_; first
        | refine gc_seq ?_
        | refine gc_region ?_
        | refine gc_ret ?_)
      | (refine ge_gate ?_; first
        | ((with_reducible refine ge_gT ?_); first | with_reducible refine ge_then ?_ | with_reducible refine ge_then_exit ?_ | with_reducible refine ge_then_ret ?_)
        | ((with_reducible refine ge_gB ?_); first | refine ge_ret1 tab_ok rfl c_rvt ?_ | refine ge_end1 tab_ok rfl c_rvt ?_ | refine ge_ret2 tab_ok rfl c_rvt c_rvt ?_ | refine ge_ret_none rfl ?_ | refine ge_end_none rfl ?_))
    intro W hW
    exact ⟨rfl, hW.below0⟩
  have hfew : few12 l = true := by simpa using hd_
  have hlen := few12_len hfew
  have hcn := fun e he => few12_node hfew (e := e) he
  clear h_ hd_
  repeat' first
    | (refine gl_gate ?_; first
      | (refine gl_any0 ?_; refine gl_pure tab_ok rfl rfl rfl rfl rfl rfl ?_))
    | (refine gc_gate ?_; first
      | refine gc_seq ?_
      | refine gc_region ?_
      | refine gc_skip ?_)
    | (refine ge_gate ?_; first
      | ((with_reducible refine ge_gT ?_); first | with_reducible refine ge_then ?_ | with_reducible refine ge_then_exit ?_ | with_reducible refine ge_then_ret ?_))
  refine gl_ev (ev_callM (M' := []) (K2 := _) rfl rfl ent109 rfl rfl rfl (fun W hW => ct_New (S := All) l _ _ _ W rfl (hs.st hW) (fun e he => (hR e he).st hW) hcn (by omega)) (by simp) (fun x => x.2) (List.Sublist.refl _) (by simp) ?_) rfl rfl
  rintro ⟨⟨g1, K1⟩, hK1⟩ hf1
  dsimp only at hf1 ⊢
  repeat' first
    | (refine gl_gate ?_; first
      | refine gl_nil ?_
      | (refine gl_any0 ?_; refine gl_pure tab_ok rfl rfl rfl rfl rfl rfl ?_))
    | (refine gc_gate ?_; first
      | refine gc_seq ?_
      | refine gc_region ?_
      | refine gc_false rfl ?_
      | refine gc_skip ?_)
    | (refine ge_gate ?_; first
      | ((with_reducible refine ge_gT ?_); first | with_reducible refine ge_then ?_ | with_reducible refine ge_then_exit ?_ | with_reducible refine ge_then_ret ?_))
  refine gl_ev (ev_callOw rfl rfl ent111 rfl rfl rfl (fun W hW => ct_CellsP l g1 W (hf1.at' hW c_kin) (by omega)) ?_) rfl rfl
  intro p8 c8 sp8 hw8
  have hdl := dC_len l
  generalize hL : dC l = L at *
  repeat' first
    | (refine gl_gate ?_; first
      | refine gl_nil ?_
      | (refine gl_any0 ?_; refine gl_pure tab_ok rfl rfl rfl rfl rfl rfl ?_))
    | (refine gc_gate ?_; first
      | refine gc_seq ?_
      | refine gc_region ?_
      | refine gc_block ?_)
    | (refine ge_gate ?_; first
      | ((with_reducible refine ge_gT ?_); first | with_reducible refine ge_then ?_ | with_reducible refine ge_then_exit ?_ | with_reducible refine ge_then_ret ?_))
  refine gc_loop (α := Nat) (fun i => [(4, true, .pointer (some (ad g1))), (5, true, .slice (p8.map ad) L.length c8), (6, true, .int .i64 (i : Int))])
    (fun _ => ow p8 true (cat Cell.l L ++ sp8) 25 ++ K1) (fun i => i ≤ L.length) (fun i => L.length - i) 0 c_frs (by rw [List.append_nil]; exact List.Sublist.refl _) (Nat.zero_le _) ?_
  rintro i hi
  repeat' first
    | (refine gl_gate ?_; first
      | refine gl_nil ?_
      | (refine gl_any0 ?_; refine gl_pure tab_ok rfl rfl rfl rfl rfl rfl ?_))
    | (refine gc_gate ?_; first
      | refine gc_seq ?_
      | refine gc_region ?_)
    | (refine ge_gate ?_; first
      | ((with_reducible refine ge_gT ?_); first | with_reducible refine ge_then ?_ | with_reducible refine ge_then_exit ?_ | with_reducible refine ge_then_ret ?_))
  (refine gc_cond rfl ?_ ?_ <;> intro h_ <;> have hd_ := h_ <;> (try simp only [bytes_beq, cell_beq, val_beq, stamp_beq, decide_eq_true_eq, decide_eq_false_iff_not, Bool.and_eq_true, Bool.or_eq_true, Bool.or_eq_false_iff, Bool.not_eq_true', Bool.not_eq_false', Bool.not_true, Bool.not_false, Bool.false_or, Bool.true_and, Bool.and_true, Bool.or_false, beq_iff_eq, bne_iff_ne, beq_eq_false_iff_ne, bne_eq_false_iff_eq, ne_eq, Bool.false_eq_true, reduceCtorEq] at hd_) <;> (try (exfalso; omega)))
  · have hiL : i < L.length := by omega
    generalize hyy : L.getD i default = y
    have h1 := rdD_len l y
    have h3 := aft_len l y
    repeat' first
      | (refine gl_gate ?_; first
        | refine gl_nil ?_
        | (refine gl_any0 ?_; refine gl_pure tab_ok rfl rfl rfl rfl rfl rfl ?_))
      | (refine gc_gate ?_; first
        | refine gc_seq ?_
        | refine gc_region ?_
        | refine gc_block ?_
        | refine gc_skip ?_)
      | (refine ge_gate ?_; first
        | ((with_reducible refine ge_gT ?_); first | with_reducible refine ge_then ?_ | with_reducible refine ge_then_exit ?_ | with_reducible refine ge_then_ret ?_))
    refine gc_loop (α := Nat) (fun k => [(4, true, .pointer (some (ad g1))), (5, true, .slice (p8.map ad) L.length c8), (6, true, .int .i64 (i : Int)), (7, true, .int .i64 (k : Int))])
      (fun _ => ow p8 true (cat Cell.l L ++ sp8) 25 ++ K1) (fun k => k ≤ L.length) (fun k => L.length - k) 0 c_frs (List.Sublist.refl _) (Nat.zero_le _) ?_
    rintro k hk
    repeat' first
      | (refine gl_gate ?_; first
        | refine gl_nil ?_
        | (refine gl_any0 ?_; refine gl_pure tab_ok rfl rfl rfl rfl rfl rfl ?_))
      | (refine gc_gate ?_; first
        | refine gc_seq ?_
        | refine gc_region ?_)
      | (refine ge_gate ?_; first
        | ((with_reducible refine ge_gT ?_); first | with_reducible refine ge_then ?_ | with_reducible refine ge_then_exit ?_ | with_reducible refine ge_then_ret ?_))
    (refine gc_cond rfl ?_ ?_ <;> intro h_ <;> have hd_ := h_ <;> (try simp only [bytes_beq, cell_beq, val_beq, stamp_beq, decide_eq_true_eq, decide_eq_false_iff_not, Bool.and_eq_true, Bool.or_eq_true, Bool.or_eq_false_iff, Bool.not_eq_true', Bool.not_eq_false', Bool.not_true, Bool.not_false, Bool.false_or, Bool.true_and, Bool.and_true, Bool.or_false, beq_iff_eq, bne_iff_ne, beq_eq_false_iff_ne, bne_eq_false_iff_eq, ne_eq, Bool.false_eq_true, reduceCtorEq] at hd_) <;> (try (exfalso; omega)))
    · have hkL : k < L.length := by omega
      generalize hzz : L.getD k default = z
      have h2 := rrD_len l z
      have h4 := aft_len l z
      repeat' first
        | (refine gc_gate ?_; first
          | refine gc_seq ?_
          | refine gc_block ?_
          | refine gc_skip ?_)
        | (refine ge_gate ?_; first
          | ((with_reducible refine ge_gT ?_); first | with_reducible refine ge_then ?_ | with_reducible refine ge_then_exit ?_ | with_reducible refine ge_then_ret ?_))
      refine gp_start [] #[false, false, false, false, false, false, false, false, false, false, false, false] mixed rfl rfl c_qp ?_; intro hqp_
      refine gp_take 0 #[true, false, false, false, false, false, false, false, false, false, false, false] hqp_ rfl (by kernel_rfl) (yv_pure tab_ok c_gok rfl rfl c_allT) c_cl rfl rfl ?_
      refine gp_take 1 #[true, true, false, false, false, false, false, false, false, false, false, false] hqp_ rfl (by kernel_rfl) (yv_pure tab_ok c_gok rfl rfl c_allT) c_cl rfl rfl ?_
      refine gp_take 2 #[true, true, true, false, false, false, false, false, false, false, false, false] hqp_ rfl (by kernel_rfl) (yv_pure tab_ok c_gok rfl rfl c_allT) c_cl rfl rfl ?_
      refine gp_take 3 #[true, true, true, true, false, false, false, false, false, false, false, false] hqp_ rfl (by kernel_rfl) ((yv_idxO tab_ok hw8 c_gokD rfl rfl rfl rfl rfl rfl c_imp c_imp c_bnd)) c_cl rfl rfl ?_
      refine gp_take 4 #[true, true, true, true, true, false, false, false, false, false, false, false] hqp_ rfl (by kernel_rfl) (((yv_ldO (v := .agg y.l.toArray) tab_ok c_oa hw8 c_gokD rfl rfl c_imp (fun _ => by rw [← hyy]; exact lds_cat len_cell (by omega) rfl rfl rfl) c_bnd))) c_cl rfl rfl ?_
      refine gp_take 6 #[true, true, true, true, true, false, true, false, false, false, false, false] hqp_ rfl (by kernel_rfl) (yv_pure tab_ok c_gok rfl rfl c_allT) c_cl rfl rfl ?_
      refine gp_take 7 #[true, true, true, true, true, false, true, true, false, false, false, false] hqp_ rfl (by kernel_rfl) (yv_pure tab_ok c_gok rfl rfl c_allT) c_cl rfl rfl ?_
      refine gp_take 8 #[true, true, true, true, true, false, true, true, true, false, false, false] hqp_ rfl (by kernel_rfl) ((yv_idxO tab_ok hw8 c_gokD rfl rfl rfl rfl rfl rfl c_imp c_imp c_bnd)) c_cl rfl rfl ?_
      refine gp_take 9 #[true, true, true, true, true, false, true, true, true, true, false, false] hqp_ rfl (by kernel_rfl) (((yv_ldO (v := .agg z.l.toArray) tab_ok c_oa hw8 c_gokD rfl rfl c_imp (fun _ => by rw [← hzz]; exact lds_cat len_cell (by omega) rfl rfl rfl) c_bnd))) c_cl rfl rfl ?_
      (refine gp_ev 5 #[true, true, true, true, true, true, true, true, true, true, false, false] rfl (by kernel_rfl) rfl rfl rfl (ev_callOw rfl rfl ent113 rfl rfl rfl (fun W hW => ct_ReadsP l g1 y W (hf1.at' hW c_kin) (by omega)) ?_); intro pa ca spa hwa; refine ⟨c_cl, ?_⟩)
      refine gp_ev 10 #[true, true, true, true, true, true, true, true, true, true, true, false] rfl (by kernel_rfl) rfl rfl rfl (ev_callq rfl rfl ent54 rfl rfl rfl (fun W hW => ct_Has W (rdD l y) z _ _ _ rfl (slA_cat len_cell rfl hW c_oa hwa) (by omega)) ⟨c_cl, ?_⟩)
      refine gp_take 11 #[true, true, true, true, true, true, true, true, true, true, true, true] hqp_ rfl (by kernel_rfl) (yv_pure tab_ok c_gok rfl rfl c_allT) c_cl rfl rfl ?_
      refine gp_done (by kernel_rfl) ?_; clear hqp_
      repeat' first
        | (refine gc_gate ?_; first
          | refine gc_seq ?_)
        | (refine ge_gate ?_; first
          | ((with_reducible refine ge_gT ?_); first | with_reducible refine ge_then ?_ | with_reducible refine ge_then_exit ?_ | with_reducible refine ge_then_ret ?_))
      refine gc_sq (ow p8 true (cat Cell.l L ++ sp8) 25 ++ K1) c_sq ?_
      by_cases hb : z ∈ rdD l y
      · have hb2 : y ∈ rrD l z := rr_of_rd hb
        have hab : ∀ v, v ∈ aft l y → v ∈ aft l z := fun v hv => aft_mem.2 ((Rch.one hb2).trans (aft_mem.1 hv))
        rw [decide_eq_true hb]
        refine gp_start [] #[false, false, false, false, false, false, false, false, false, false, false, false, false, false, false, false, false, false, false, false, false, false, false, false, false, false, false, false, false, false] mixed rfl rfl c_qp ?_; intro hqp_
        refine gp_take 0 #[true, false, false, false, false, false, false, false, false, false, false, false, false, false, false, false, false, false, false, false, false, false, false, false, false, false, false, false, false, false] hqp_ rfl (by kernel_rfl) (yv_pure tab_ok c_gokD rfl rfl c_allT) c_cl rfl rfl ?_
        refine gp_take 1 #[true, true, false, false, false, false, false, false, false, false, false, false, false, false, false, false, false, false, false, false, false, false, false, false, false, false, false, false, false, false] hqp_ rfl (by kernel_rfl) (yv_pure tab_ok c_gokD rfl rfl c_allT) c_cl rfl rfl ?_
        refine gp_take 2 #[true, true, true, false, false, false, false, false, false, false, false, false, false, false, false, false, false, false, false, false, false, false, false, false, false, false, false, false, false, false] hqp_ rfl (by kernel_rfl) (yv_pure tab_ok c_gokD rfl rfl c_allT) c_cl rfl rfl ?_
        refine gp_take 3 #[true, true, true, true, false, false, false, false, false, false, false, false, false, false, false, false, false, false, false, false, false, false, false, false, false, false, false, false, false, false] hqp_ rfl (by kernel_rfl) (yv_pure tab_ok c_gokD rfl rfl c_allT) c_cl rfl rfl ?_
        refine gp_take 4 #[true, true, true, true, true, false, false, false, false, false, false, false, false, false, false, false, false, false, false, false, false, false, false, false, false, false, false, false, false, false] hqp_ rfl (by kernel_rfl) ((yv_idxO tab_ok hw8 c_gokD rfl rfl rfl rfl rfl rfl c_imp c_imp c_bnd)) c_cl rfl rfl ?_
        refine gp_take 5 #[true, true, true, true, true, true, false, false, false, false, false, false, false, false, false, false, false, false, false, false, false, false, false, false, false, false, false, false, false, false] hqp_ rfl (by kernel_rfl) (((yv_ldO (v := .agg z.l.toArray) tab_ok c_oa hw8 c_gokD rfl rfl c_imp (fun _ => by rw [← hzz]; exact lds_cat len_cell (by omega) rfl rfl rfl) c_bnd))) c_cl rfl rfl ?_
        refine gp_take 7 #[true, true, true, true, true, true, false, true, false, false, false, false, false, false, false, false, false, false, false, false, false, false, false, false, false, false, false, false, false, false] hqp_ rfl (by kernel_rfl) (yv_pure tab_ok c_gokD rfl rfl c_allT) c_cl rfl rfl ?_
        refine gp_take 8 #[true, true, true, true, true, true, false, true, true, false, false, false, false, false, false, false, false, false, false, false, false, false, false, false, false, false, false, false, false, false] hqp_ rfl (by kernel_rfl) (yv_pure tab_ok c_gokD rfl rfl c_allT) c_cl rfl rfl ?_
        refine gp_take 9 #[true, true, true, true, true, true, false, true, true, true, false, false, false, false, false, false, false, false, false, false, false, false, false, false, false, false, false, false, false, false] hqp_ rfl (by kernel_rfl) ((yv_idxO tab_ok hw8 c_gokD rfl rfl rfl rfl rfl rfl c_imp c_imp c_bnd)) c_cl rfl rfl ?_
        refine gp_take 10 #[true, true, true, true, true, true, false, true, true, true, true, false, false, false, false, false, false, false, false, false, false, false, false, false, false, false, false, false, false, false] hqp_ rfl (by kernel_rfl) (((yv_ldO (v := .agg y.l.toArray) tab_ok c_oa hw8 c_gokD rfl rfl c_imp (fun _ => by rw [← hyy]; exact lds_cat len_cell (by omega) rfl rfl rfl) c_bnd))) c_cl rfl rfl ?_
        (refine gp_ev 6 #[true, true, true, true, true, true, true, true, true, true, true, false, false, false, false, false, false, false, false, false, false, false, false, false, false, false, false, false, false, false] rfl (by kernel_rfl) rfl rfl rfl (ev_callOw rfl rfl ent115 rfl rfl rfl (fun W hW => ct_ReadersP l g1 z W (hf1.at' hW c_kin) (by omega)) ?_); intro pb cb spb hwb; refine ⟨c_cl, ?_⟩)
        refine gp_ev 11 #[true, true, true, true, true, true, true, true, true, true, true, true, false, false, false, false, false, false, false, false, false, false, false, false, false, false, false, false, false, false] rfl (by kernel_rfl) rfl rfl rfl (ev_callq rfl rfl ent54 rfl rfl rfl (fun W hW => ct_HasT hb2 W _ _ _ rfl (slA_cat len_cell rfl hW c_oa hwb) (by omega)) ⟨c_cl, ?_⟩)
        refine gp_take 12 #[true, true, true, true, true, true, true, true, true, true, true, true, true, false, false, false, false, false, false, false, false, false, false, false, false, false, false, false, false, false] hqp_ rfl (by kernel_rfl) (((yv_pure tab_ok c_gokD rfl rfl c_allT).cast (v' := .bool false) rfl)) c_cl rfl rfl ?_
        refine gp_take 13 #[true, true, true, true, true, true, true, true, true, true, true, true, true, true, false, false, false, false, false, false, false, false, false, false, false, false, false, false, false, false] hqp_ rfl (by kernel_rfl) (yv_pure tab_ok c_gokD rfl rfl c_allT) c_cl rfl rfl ?_
        refine gp_take 14 #[true, true, true, true, true, true, true, true, true, true, true, true, true, true, true, false, false, false, false, false, false, false, false, false, false, false, false, false, false, false] hqp_ rfl (by kernel_rfl) (yv_pure tab_ok c_gokD rfl rfl c_allT) c_cl rfl rfl ?_
        refine gp_take 15 #[true, true, true, true, true, true, true, true, true, true, true, true, true, true, true, true, false, false, false, false, false, false, false, false, false, false, false, false, false, false] hqp_ rfl (by kernel_rfl) (yv_pure tab_ok c_gokD rfl rfl c_allT) c_cl rfl rfl ?_
        refine gp_take 16 #[true, true, true, true, true, true, true, true, true, true, true, true, true, true, true, true, true, false, false, false, false, false, false, false, false, false, false, false, false, false] hqp_ rfl (by kernel_rfl) (yv_pure tab_ok c_gokD rfl rfl c_allT) c_cl rfl rfl ?_
        refine gp_take 17 #[true, true, true, true, true, true, true, true, true, true, true, true, true, true, true, true, true, true, false, false, false, false, false, false, false, false, false, false, false, false] hqp_ rfl (by kernel_rfl) (yv_pure tab_ok c_gokD rfl rfl c_allT) c_cl rfl rfl ?_
        refine gp_take 18 #[true, true, true, true, true, true, true, true, true, true, true, true, true, true, true, true, true, true, true, false, false, false, false, false, false, false, false, false, false, false] hqp_ rfl (by kernel_rfl) (yv_pure tab_ok c_gokD rfl rfl c_allT) c_cl rfl rfl ?_
        refine gp_take 19 #[true, true, true, true, true, true, true, true, true, true, true, true, true, true, true, true, true, true, true, true, false, false, false, false, false, false, false, false, false, false] hqp_ rfl (by kernel_rfl) ((yv_idxO tab_ok hw8 c_gokD rfl rfl rfl rfl rfl rfl c_imp c_imp c_bnd)) c_cl rfl rfl ?_
        refine gp_take 20 #[true, true, true, true, true, true, true, true, true, true, true, true, true, true, true, true, true, true, true, true, true, false, false, false, false, false, false, false, false, false] hqp_ rfl (by kernel_rfl) (((yv_ldO (v := .agg z.l.toArray) tab_ok c_oa hw8 c_gokD rfl rfl c_imp (fun _ => by rw [← hzz]; exact lds_cat len_cell (by omega) rfl rfl rfl) c_bnd))) c_cl rfl rfl ?_
        refine gp_take 22 #[true, true, true, true, true, true, true, true, true, true, true, true, true, true, true, true, true, true, true, true, true, false, true, false, false, false, false, false, false, false] hqp_ rfl (by kernel_rfl) (yv_pure tab_ok c_gokD rfl rfl c_allT) c_cl rfl rfl ?_
        refine gp_take 23 #[true, true, true, true, true, true, true, true, true, true, true, true, true, true, true, true, true, true, true, true, true, false, true, true, false, false, false, false, false, false] hqp_ rfl (by kernel_rfl) (yv_pure tab_ok c_gokD rfl rfl c_allT) c_cl rfl rfl ?_
        refine gp_take 24 #[true, true, true, true, true, true, true, true, true, true, true, true, true, true, true, true, true, true, true, true, true, false, true, true, true, false, false, false, false, false] hqp_ rfl (by kernel_rfl) ((yv_idxO tab_ok hw8 c_gokD rfl rfl rfl rfl rfl rfl c_imp c_imp c_bnd)) c_cl rfl rfl ?_
        refine gp_take 25 #[true, true, true, true, true, true, true, true, true, true, true, true, true, true, true, true, true, true, true, true, true, false, true, true, true, true, false, false, false, false] hqp_ rfl (by kernel_rfl) (((yv_ldO (v := .agg y.l.toArray) tab_ok c_oa hw8 c_gokD rfl rfl c_imp (fun _ => by rw [← hyy]; exact lds_cat len_cell (by omega) rfl rfl rfl) c_bnd))) c_cl rfl rfl ?_
        (refine gp_evG 21 #[true, true, true, true, true, true, true, true, true, true, true, true, true, true, true, true, true, true, true, true, true, true, true, true, true, true, false, false, false, false] rfl (by kernel_rfl) rfl rfl rfl c_gokD (ev_callOw rfl rfl ent117 rfl rfl rfl (fun W hW => ct_AfterP l g1 z W (hf1.at' hW c_kin) (by omega)) ?_); intro pd cd spd hwd; refine ⟨c_cl, ?_⟩)
        refine gp_evG 26 #[true, true, true, true, true, true, true, true, true, true, true, true, true, true, true, true, true, true, true, true, true, true, true, true, true, true, true, false, false, false] rfl (by kernel_rfl) rfl rfl rfl c_gokD (ev_callq rfl rfl ent54 rfl rfl rfl (fun W hW => ct_HasT (aft_mem.2 (Rch.one hb2)) W _ _ _ rfl (slA_cat len_cell rfl hW c_oa hwd) (by omega)) ⟨c_cl, ?_⟩)
        refine gp_take 27 #[true, true, true, true, true, true, true, true, true, true, true, true, true, true, true, true, true, true, true, true, true, true, true, true, true, true, true, true, false, false] hqp_ rfl (by kernel_rfl) (yv_pure tab_ok c_gokD rfl rfl c_allT) c_cl rfl rfl ?_
        refine gp_take 28 #[true, true, true, true, true, true, true, true, true, true, true, true, true, true, true, true, true, true, true, true, true, true, true, true, true, true, true, true, true, false] hqp_ rfl (by kernel_rfl) (yv_and c_gokD rfl rfl rfl c_imp c_imp2) c_cl rfl rfl ?_
        refine gp_take 29 #[true, true, true, true, true, true, true, true, true, true, true, true, true, true, true, true, true, true, true, true, true, true, true, true, true, true, true, true, true, true] hqp_ rfl (by kernel_rfl) (yv_or c_gokD rfl rfl rfl c_imp c_imp2) c_cl rfl rfl ?_
        refine gp_done (by kernel_rfl) ?_; clear hqp_
        repeat' first
          | (refine gl_idx0 ?_; refine gl_yv (yv_idxO tab_ok hw8 (gok_none rfl) rfl rfl rfl rfl rfl rfl (fun _ => rfl) (fun _ => rfl) c_bnd) rfl rfl ?_)
          | (refine gl_load0 ?_; refine gl_yv (yv_ldO (v := .agg y.l.toArray) tab_ok c_oa hw8 (gok_none rfl) rfl rfl (fun _ => rfl) (fun _ => by rw [← hyy]; exact lds_cat len_cell (by omega) rfl rfl rfl) c_bnd) rfl rfl ?_)
          | (refine gl_gate ?_; first
            | refine gl_nil ?_
            | (refine gl_any0 ?_; refine gl_pure tab_ok rfl rfl rfl rfl rfl rfl ?_))
          | (refine gc_gate ?_; first
            | refine gc_seq ?_
            | refine gc_region ?_
            | refine gc_false rfl ?_
            | refine gc_skip ?_)
          | (refine ge_gate ?_; first
            | ((with_reducible refine ge_gT ?_); first | with_reducible refine ge_then ?_ | with_reducible refine ge_then_exit ?_ | with_reducible refine ge_then_ret ?_))
        refine gl_ev (ev_callOw rfl rfl ent117 rfl rfl rfl (fun W hW => ct_AfterP l g1 y W (hf1.at' hW c_kin) (by omega)) ?_) rfl rfl
        intro pe ce spe hwe
        repeat' first
          | (refine gl_idx0 ?_; refine gl_yv (yv_idxO tab_ok hw8 (gok_none rfl) rfl rfl rfl rfl rfl rfl (fun _ => rfl) (fun _ => rfl) c_bnd) rfl rfl ?_)
          | (refine gl_load0 ?_; refine gl_yv (yv_ldO (v := .agg z.l.toArray) tab_ok c_oa hw8 (gok_none rfl) rfl rfl (fun _ => rfl) (fun _ => by rw [← hzz]; exact lds_cat len_cell (by omega) rfl rfl rfl) c_bnd) rfl rfl ?_)
          | (refine gl_gate ?_; first
            | refine gl_nil ?_
            | (refine gl_any0 ?_; refine gl_pure tab_ok rfl rfl rfl rfl rfl rfl ?_))
          | (refine gc_gate ?_; first
            | refine gc_seq ?_
            | refine gc_region ?_)
          | (refine ge_gate ?_; first
            | ((with_reducible refine ge_gT ?_); first | with_reducible refine ge_then ?_ | with_reducible refine ge_then_exit ?_ | with_reducible refine ge_then_ret ?_))
        refine gl_ev (ev_callOw rfl rfl ent117 rfl rfl rfl (fun W hW => ct_AfterP l g1 z W (hf1.at' hW c_kin) (by omega)) ?_) rfl rfl
        intro pf cf spf hwf
        repeat' first
          | (refine gl_gate ?_; first
            | refine gl_nil ?_
            | (refine gl_any0 ?_; refine gl_pure tab_ok rfl rfl rfl rfl rfl rfl ?_))
          | (refine gc_gate ?_; first
            | refine gc_seq ?_
            | refine gc_region ?_
            | refine gc_block ?_)
          | (refine ge_gate ?_; first
            | ((with_reducible refine ge_gT ?_); first | with_reducible refine ge_then ?_ | with_reducible refine ge_then_exit ?_ | with_reducible refine ge_then_ret ?_))
        refine gc_sq (ow pf true (cat Cell.l (aft l z) ++ spf) 25 ++ (ow pe true (cat Cell.l (aft l y) ++ spe) 25 ++ (ow p8 true (cat Cell.l L ++ sp8) 25 ++ K1))) c_sq ?_
        refine gc_loop (α := Nat) (fun j => [(4, true, .pointer (some (ad g1))), (5, true, .slice (p8.map ad) L.length c8), (6, true, .int .i64 (i : Int)), (7, true, .int .i64 (k : Int)), (9, true, .slice (pe.map ad) (aft l y).length ce), (10, true, .slice (pf.map ad) (aft l z).length cf), (11, true, .int .i64 (j : Int))])
          (fun _ => ow pf true (cat Cell.l (aft l z) ++ spf) 25 ++ (ow pe true (cat Cell.l (aft l y) ++ spe) 25 ++ (ow p8 true (cat Cell.l L ++ sp8) 25 ++ K1))) (fun j => j ≤ (aft l y).length) (fun j => (aft l y).length - j) 0 c_frs (List.Sublist.refl _) (Nat.zero_le _) ?_
        rintro j hj
        repeat' first
          | (refine gl_gate ?_; first
            | refine gl_nil ?_
            | (refine gl_any0 ?_; refine gl_pure tab_ok rfl rfl rfl rfl rfl rfl ?_))
          | (refine gc_gate ?_; first
            | refine gc_seq ?_
            | refine gc_region ?_)
          | (refine ge_gate ?_; first
            | ((with_reducible refine ge_gT ?_); first | with_reducible refine ge_then ?_ | with_reducible refine ge_then_exit ?_ | with_reducible refine ge_then_ret ?_))
        (refine gc_cond rfl ?_ ?_ <;> intro h_ <;> have hd_ := h_ <;> (try simp only [bytes_beq, cell_beq, val_beq, stamp_beq, decide_eq_true_eq, decide_eq_false_iff_not, Bool.and_eq_true, Bool.or_eq_true, Bool.or_eq_false_iff, Bool.not_eq_true', Bool.not_eq_false', Bool.not_true, Bool.not_false, Bool.false_or, Bool.true_and, Bool.and_true, Bool.or_false, beq_iff_eq, bne_iff_ne, beq_eq_false_iff_ne, bne_eq_false_iff_eq, ne_eq, Bool.false_eq_true, reduceCtorEq] at hd_) <;> (try (exfalso; omega)))
        · have hjl : j < (aft l y).length := by omega
          have hin := hab _ (getD_mem _ j hjl)
          repeat' first
            | (refine gl_idx0 ?_; refine gl_yv (yv_idxO tab_ok hwe (gok_none rfl) rfl rfl rfl rfl rfl rfl (fun _ => rfl) (fun _ => rfl) c_bnd) rfl rfl ?_)
            | (refine gl_load0 ?_; refine gl_yv (yv_ldO tab_ok c_oa hwe (gok_none rfl) rfl rfl (fun _ => rfl) (fun _ => lds_cat len_cell (by omega) rfl rfl rfl) c_bnd) rfl rfl ?_)
            | (refine gl_gate ?_; first
              | refine gl_nil ?_
              | (refine gl_add0 ?_; refine gl_yv (yv_add tab_ok (gok_none rfl) rfl rfl rfl rfl (fun _ => allT_of rfl) (by intro _; omega)) rfl rfl ?_)
              | (refine gl_calv0 ?_; first | refine gl_yd (yd_call (gok_none rfl) rfl ent54 rfl rfl (fun _ => allT_of rfl) (fun _ W hW => ct_HasT hin W _ _ _ rfl (slA_cat len_cell rfl hW c_oa hwf) (by omega))) rfl rfl ?_)
              | (refine gl_any0 ?_; refine gl_pure tab_ok rfl rfl rfl rfl rfl rfl ?_))
            | (refine gc_gate ?_; first
              | refine gc_seq ?_
              | refine gc_region ?_
              | refine gc_false rfl ?_
              | refine gc_block ?_
              | refine gc_skip ?_)
            | (refine ge_gate ?_; first
              | ((with_reducible refine ge_gT ?_); first | with_reducible refine ge_then ?_ | with_reducible refine ge_then_exit ?_ | with_reducible refine ge_then_ret ?_)
              | ((with_reducible refine ge_gK ?_); first | with_reducible refine ge_block ?_ | refine ge_block_exit ?_ | refine ge_block_pass rfl ?_ | with_reducible refine ge_block_ret ?_))
          skip
          exact ge_round (j + 1) (by omega) (by omega) c_frs (List.Sublist.refl _)
        · repeat' first
            | (refine gl_gate ?_; first
              | refine gl_nil ?_
              | (refine gl_add0 ?_; refine gl_yv (yv_add tab_ok (gok_none rfl) rfl rfl rfl rfl (fun _ => allT_of rfl) (by intro _; omega)) rfl rfl ?_)
              | (refine gl_any0 ?_; refine gl_pure tab_ok rfl rfl rfl rfl rfl rfl ?_))
            | (refine gc_gate ?_; first
              | refine gc_region ?_
              | refine gc_exit ?_)
            | (refine ge_gate ?_; first
              | ((with_reducible refine ge_gT ?_); first | with_reducible refine ge_then ?_ | with_reducible refine ge_then_exit ?_ | with_reducible refine ge_then_ret ?_)
              | ((with_reducible refine ge_gK ?_); first | with_reducible refine ge_block ?_ | refine ge_block_exit ?_ | refine ge_block_pass rfl ?_ | with_reducible refine ge_block_ret ?_))
          refine ge_sq (ow p8 true (cat Cell.l L ++ sp8) 25 ++ K1) c_sq ?_
          exact ge_round (k + 1) (by omega) (by omega) c_frs (List.Sublist.refl _)
      · have hb2 : y ∉ rrD l z := fun h => hb (rrD_mem.1 h).2
        rw [decide_eq_false hb]
        refine gp_start [] #[false, false, false, false, false, false, false, false, false, false, false, false, false, false, false, false, false, false, false, false, false, false, false, false, false, false, false, false, false, false] mixed rfl rfl c_qp ?_; intro hqp_
        refine gp_take 0 #[true, false, false, false, false, false, false, false, false, false, false, false, false, false, false, false, false, false, false, false, false, false, false, false, false, false, false, false, false, false] hqp_ rfl (by kernel_rfl) (yv_pure tab_ok c_gokD rfl rfl c_allT) c_cl rfl rfl ?_
        refine gp_take 1 #[true, true, false, false, false, false, false, false, false, false, false, false, false, false, false, false, false, false, false, false, false, false, false, false, false, false, false, false, false, false] hqp_ rfl (by kernel_rfl) (yv_pure tab_ok c_gokD rfl rfl c_allT) c_cl rfl rfl ?_
        refine gp_take 2 #[true, true, true, false, false, false, false, false, false, false, false, false, false, false, false, false, false, false, false, false, false, false, false, false, false, false, false, false, false, false] hqp_ rfl (by kernel_rfl) (yv_pure tab_ok c_gokD rfl rfl c_allT) c_cl rfl rfl ?_
        refine gp_take 3 #[true, true, true, true, false, false, false, false, false, false, false, false, false, false, false, false, false, false, false, false, false, false, false, false, false, false, false, false, false, false] hqp_ rfl (by kernel_rfl) (yv_pure tab_ok c_gokD rfl rfl c_allT) c_cl rfl rfl ?_
        refine gp_take 4 #[true, true, true, true, true, false, false, false, false, false, false, false, false, false, false, false, false, false, false, false, false, false, false, false, false, false, false, false, false, false] hqp_ rfl (by kernel_rfl) ((yv_idxO tab_ok hw8 c_gokD rfl rfl rfl rfl rfl rfl c_imp c_imp c_bnd)) c_cl rfl rfl ?_
        refine gp_take 5 #[true, true, true, true, true, true, false, false, false, false, false, false, false, false, false, false, false, false, false, false, false, false, false, false, false, false, false, false, false, false] hqp_ rfl (by kernel_rfl) (((yv_ldO (v := .agg z.l.toArray) tab_ok c_oa hw8 c_gokD rfl rfl c_imp (fun _ => by rw [← hzz]; exact lds_cat len_cell (by omega) rfl rfl rfl) c_bnd))) c_cl rfl rfl ?_
        refine gp_take 7 #[true, true, true, true, true, true, false, true, false, false, false, false, false, false, false, false, false, false, false, false, false, false, false, false, false, false, false, false, false, false] hqp_ rfl (by kernel_rfl) (yv_pure tab_ok c_gokD rfl rfl c_allT) c_cl rfl rfl ?_
        refine gp_take 8 #[true, true, true, true, true, true, false, true, true, false, false, false, false, false, false, false, false, false, false, false, false, false, false, false, false, false, false, false, false, false] hqp_ rfl (by kernel_rfl) (yv_pure tab_ok c_gokD rfl rfl c_allT) c_cl rfl rfl ?_
        refine gp_take 9 #[true, true, true, true, true, true, false, true, true, true, false, false, false, false, false, false, false, false, false, false, false, false, false, false, false, false, false, false, false, false] hqp_ rfl (by kernel_rfl) ((yv_idxO tab_ok hw8 c_gokD rfl rfl rfl rfl rfl rfl c_imp c_imp c_bnd)) c_cl rfl rfl ?_
        refine gp_take 10 #[true, true, true, true, true, true, false, true, true, true, true, false, false, false, false, false, false, false, false, false, false, false, false, false, false, false, false, false, false, false] hqp_ rfl (by kernel_rfl) (((yv_ldO (v := .agg y.l.toArray) tab_ok c_oa hw8 c_gokD rfl rfl c_imp (fun _ => by rw [← hyy]; exact lds_cat len_cell (by omega) rfl rfl rfl) c_bnd))) c_cl rfl rfl ?_
        (refine gp_ev 6 #[true, true, true, true, true, true, true, true, true, true, true, false, false, false, false, false, false, false, false, false, false, false, false, false, false, false, false, false, false, false] rfl (by kernel_rfl) rfl rfl rfl (ev_callOw rfl rfl ent115 rfl rfl rfl (fun W hW => ct_ReadersP l g1 z W (hf1.at' hW c_kin) (by omega)) ?_); intro pb cb spb hwb; refine ⟨c_cl, ?_⟩)
        refine gp_ev 11 #[true, true, true, true, true, true, true, true, true, true, true, true, false, false, false, false, false, false, false, false, false, false, false, false, false, false, false, false, false, false] rfl (by kernel_rfl) rfl rfl rfl (ev_callq rfl rfl ent54 rfl rfl rfl (fun W hW => ct_HasF hb2 W _ _ _ rfl (slA_cat len_cell rfl hW c_oa hwb) (by omega)) ⟨c_cl, ?_⟩)
        refine gp_take 12 #[true, true, true, true, true, true, true, true, true, true, true, true, true, false, false, false, false, false, false, false, false, false, false, false, false, false, false, false, false, false] hqp_ rfl (by kernel_rfl) (((yv_pure tab_ok c_gokD rfl rfl c_allT).cast (v' := .bool false) rfl)) c_cl rfl rfl ?_
        refine gp_take 13 #[true, true, true, true, true, true, true, true, true, true, true, true, true, true, false, false, false, false, false, false, false, false, false, false, false, false, false, false, false, false] hqp_ rfl (by kernel_rfl) (yv_pure tab_ok c_gokD rfl rfl c_allT) c_cl rfl rfl ?_
        refine gp_take 14 #[true, true, true, true, true, true, true, true, true, true, true, true, true, true, true, false, false, false, false, false, false, false, false, false, false, false, false, false, false, false] hqp_ rfl (by kernel_rfl) (yv_pure tab_ok c_gokD rfl rfl c_allT) c_cl rfl rfl ?_
        refine gp_take 15 #[true, true, true, true, true, true, true, true, true, true, true, true, true, true, true, true, false, false, false, false, false, false, false, false, false, false, false, false, false, false] hqp_ rfl (by kernel_rfl) (yv_pure tab_ok c_gokD rfl rfl c_allT) c_cl rfl rfl ?_
        refine gp_take 16 #[true, true, true, true, true, true, true, true, true, true, true, true, true, true, true, true, true, false, false, false, false, false, false, false, false, false, false, false, false, false] hqp_ rfl (by kernel_rfl) (yv_pure tab_ok c_gokD rfl rfl c_allT) c_cl rfl rfl ?_
        refine gp_take 17 #[true, true, true, true, true, true, true, true, true, true, true, true, true, true, true, true, true, true, false, false, false, false, false, false, false, false, false, false, false, false] hqp_ rfl (by kernel_rfl) (yv_pure tab_ok c_gokD rfl rfl c_allT) c_cl rfl rfl ?_
        refine gp_take 18 #[true, true, true, true, true, true, true, true, true, true, true, true, true, true, true, true, true, true, true, false, false, false, false, false, false, false, false, false, false, false] hqp_ rfl (by kernel_rfl) (yv_pure tab_ok c_gokD rfl rfl c_allT) c_cl rfl rfl ?_
        refine gp_take 19 #[true, true, true, true, true, true, true, true, true, true, true, true, true, true, true, true, true, true, true, true, false, false, false, false, false, false, false, false, false, false] hqp_ rfl (by kernel_rfl) ((yv_idxO tab_ok hw8 c_gokD rfl rfl rfl rfl rfl rfl c_imp c_imp c_bnd)) c_cl rfl rfl ?_
        refine gp_take 20 #[true, true, true, true, true, true, true, true, true, true, true, true, true, true, true, true, true, true, true, true, true, false, false, false, false, false, false, false, false, false] hqp_ rfl (by kernel_rfl) (((yv_ldO (v := .agg z.l.toArray) tab_ok c_oa hw8 c_gokD rfl rfl c_imp (fun _ => by rw [← hzz]; exact lds_cat len_cell (by omega) rfl rfl rfl) c_bnd))) c_cl rfl rfl ?_
        refine gp_take 22 #[true, true, true, true, true, true, true, true, true, true, true, true, true, true, true, true, true, true, true, true, true, false, true, false, false, false, false, false, false, false] hqp_ rfl (by kernel_rfl) (yv_pure tab_ok c_gokD rfl rfl c_allT) c_cl rfl rfl ?_
        refine gp_take 23 #[true, true, true, true, true, true, true, true, true, true, true, true, true, true, true, true, true, true, true, true, true, false, true, true, false, false, false, false, false, false] hqp_ rfl (by kernel_rfl) (yv_pure tab_ok c_gokD rfl rfl c_allT) c_cl rfl rfl ?_
        refine gp_take 24 #[true, true, true, true, true, true, true, true, true, true, true, true, true, true, true, true, true, true, true, true, true, false, true, true, true, false, false, false, false, false] hqp_ rfl (by kernel_rfl) ((yv_idxO tab_ok hw8 c_gokD rfl rfl rfl rfl rfl rfl c_imp c_imp c_bnd)) c_cl rfl rfl ?_
        refine gp_take 25 #[true, true, true, true, true, true, true, true, true, true, true, true, true, true, true, true, true, true, true, true, true, false, true, true, true, true, false, false, false, false] hqp_ rfl (by kernel_rfl) (((yv_ldO (v := .agg y.l.toArray) tab_ok c_oa hw8 c_gokD rfl rfl c_imp (fun _ => by rw [← hyy]; exact lds_cat len_cell (by omega) rfl rfl rfl) c_bnd))) c_cl rfl rfl ?_
        refine gp_skipG 21 #[true, true, true, true, true, true, true, true, true, true, true, true, true, true, true, true, true, true, true, true, true, true, true, true, true, true, false, false, false, false] (Value.slice none 0 0) rfl (by kernel_rfl) rfl rfl rfl c_gokD c_cl ?_
        refine gp_skipG 26 #[true, true, true, true, true, true, true, true, true, true, true, true, true, true, true, true, true, true, true, true, true, true, true, true, true, true, true, false, false, false] (Value.bool false) rfl (by kernel_rfl) rfl rfl rfl c_gokD c_cl ?_
        refine gp_take 27 #[true, true, true, true, true, true, true, true, true, true, true, true, true, true, true, true, true, true, true, true, true, true, true, true, true, true, true, true, false, false] hqp_ rfl (by kernel_rfl) (yv_pure tab_ok c_gokD rfl rfl c_allT) c_cl rfl rfl ?_
        refine gp_take 28 #[true, true, true, true, true, true, true, true, true, true, true, true, true, true, true, true, true, true, true, true, true, true, true, true, true, true, true, true, true, false] hqp_ rfl (by kernel_rfl) (yv_and c_gokD rfl rfl rfl c_imp c_imp2) c_cl rfl rfl ?_
        refine gp_take 29 #[true, true, true, true, true, true, true, true, true, true, true, true, true, true, true, true, true, true, true, true, true, true, true, true, true, true, true, true, true, true] hqp_ rfl (by kernel_rfl) (yv_or c_gokD rfl rfl rfl c_imp c_imp2) c_cl rfl rfl ?_
        refine gp_done (by kernel_rfl) ?_; clear hqp_
        repeat' first
          | (refine gl_gate ?_; first
            | refine gl_nil ?_
            | (refine gl_add0 ?_; refine gl_yv (yv_add tab_ok (gok_none rfl) rfl rfl rfl rfl (fun _ => allT_of rfl) (by intro _; omega)) rfl rfl ?_)
            | (refine gl_any0 ?_; refine gl_pure tab_ok rfl rfl rfl rfl rfl rfl ?_))
          | (refine gc_gate ?_; first
            | refine gc_seq ?_
            | refine gc_region ?_
            | refine gc_true rfl ?_
            | refine gc_false rfl ?_
            | refine gc_exit ?_
            | refine gc_skip ?_)
          | (refine ge_gate ?_; first
            | ((with_reducible refine ge_gT ?_); first | with_reducible refine ge_then ?_ | with_reducible refine ge_then_exit ?_ | with_reducible refine ge_then_ret ?_)
            | ((with_reducible refine ge_gK ?_); first | with_reducible refine ge_block ?_ | refine ge_block_exit ?_ | refine ge_block_pass rfl ?_ | with_reducible refine ge_block_ret ?_))
        refine ge_sq (ow p8 true (cat Cell.l L ++ sp8) 25 ++ K1) c_sq ?_
        exact ge_round (k + 1) (by omega) (by omega) c_frs (List.Sublist.refl _)
    · repeat' first
        | (refine gl_gate ?_; first
          | refine gl_nil ?_
          | (refine gl_add0 ?_; refine gl_yv (yv_add tab_ok (gok_none rfl) rfl rfl rfl rfl (fun _ => allT_of rfl) (by intro _; omega)) rfl rfl ?_)
          | (refine gl_any0 ?_; refine gl_pure tab_ok rfl rfl rfl rfl rfl rfl ?_))
        | (refine gc_gate ?_; first
          | refine gc_region ?_
          | refine gc_exit ?_)
        | (refine ge_gate ?_; first
          | ((with_reducible refine ge_gT ?_); first | with_reducible refine ge_then ?_ | with_reducible refine ge_then_exit ?_ | with_reducible refine ge_then_ret ?_)
          | ((with_reducible refine ge_gK ?_); first | with_reducible refine ge_block ?_ | refine ge_block_exit ?_ | refine ge_block_pass rfl ?_ | with_reducible refine ge_block_ret ?_))
      exact ge_round (i + 1) (by omega) (by omega) c_frs (List.Sublist.refl _)
  · repeat' first
      | (refine gl_gate ?_; first
        | refine gl_nil ?_
        | (refine gl_any0 ?_; refine gl_pure tab_ok rfl rfl rfl rfl rfl rfl ?_))
      | (refine gc_gate ?_; first
        | refine gc_seq ?_
        | refine gc_region ?_
        | refine gc_exit ?_
        | refine gc_ret ?_)
      | (refine ge_gate ?_; first
        | ((with_reducible refine ge_gT ?_); first | with_reducible refine ge_then ?_ | with_reducible refine ge_then_exit ?_ | with_reducible refine ge_then_ret ?_)
        | ((with_reducible refine ge_gK ?_); first | with_reducible refine ge_block ?_ | refine ge_block_exit ?_ | refine ge_block_pass rfl ?_ | with_reducible refine ge_block_ret ?_)
        | ((with_reducible refine ge_gB ?_); first | refine ge_ret1 tab_ok rfl c_rvt ?_ | refine ge_end1 tab_ok rfl c_rvt ?_ | refine ge_ret2 tab_ok rfl c_rvt c_rvt ?_ | refine ge_ret_none rfl ?_ | refine ge_end_none rfl ?_))
    intro W hW
    exact ⟨rfl, hW.below0⟩
theorem law_DepsMeet (W : World) {b0 : Nat} {v0 : Value} (o0 : Value.okWide Try.prog W .any b0 124 v0)
    (r0 : ∃ m, Rd tab W m 124 v0.cells.toList) : Calls Try.prog 25 #[v0] W fun e w' => e = .returned (.bool true) ∧ Bl W w' := by
  rw [arg_one tab_ok (t := 124) rfl rfl o0] at r0
  obtain ⟨m0, r0⟩ := r0
  obtain ⟨p, n, cap, l, h0, hn, hle, hcap, hs, hR⟩ := rdEns r0
  cases h0
  exact walk_DepsMeet l p n cap hn (by omega) W hs hR
end Go.Proofs.Ytkgjfcjciigcgaa
