import Derived.Test.YtkgjfcjciigcgaaGoDepsP2
import Derived.Test.YtkgjfcjciigcgaaGoDepsA
import Derived.Test.YtkgjfcjciigcgaaGoKnA
import Derived.Test.YtkgjfcjciigcgaaSlSel
import Derived.Test.YtkgjfcjciigcgaaGoDepsLR
/-
  knots.order.split: knots in memory.
-/
namespace Go.Proofs.Ytkgjfcjciigcgaa
open Go.Proofs.Ytkgjfcjciigcgaa.Sl Go.RowKit
set_option linter.unusedVariables false
set_option linter.unusedSimpArgs false
set_option linter.unusedSectionVars false
set_option maxRecDepth 100000

set_option maxHeartbeats 4000000 in
theorem ct_split (l : List En) (g go gm : Nat) (K1 : Kl) (w : World) (hl : l.length ≤ 1000) (hk : ∀ e ∈ oK g go gm spS0 ++ K1, w.heap[e.1]? = some e.2.2) (hp : (oK g go gm spS0 ++ K1).Pairwise (fun p q => p.1 ≠ q.1)) (hD : Fz K1 fun W => DpP W l g) : Calls Try.prog 183 #[.pointer (some (ad go))] w
    (RetM w ((oK g go gm spS0 ++ K1).map (·.1)) (fun _ : SpX => .tuple #[]) (fun x => oK g go gm x.1 ++ (K1 ++ (ow x.1.q true (cat KP.l x.1.ks ++ x.1.sp) 151 ++ x.1.Ka))) (fun x => SpOk l (allD l) x.1)) := by
  refine enter (args := [_]) (M := []) (K := []) Try.func183 rfl Try.ntmps183 rfl (St.refl _ _) ?_
  refine gc_own (oK g go gm spS0 ++ K1) hk hp ?_
  generalize hM : (oK g go gm spS0 ++ K1).map (·.1) = M
  have hdl := dC_len l
  refine gc_sq ((go, true, .cells [.pointer (some (ad g)), .map (some gm), .slice none 0 0, .slice none 0 0].toArray 217 (0, 0)) :: (gm, true, .map #[] 0) :: (K1 ++ [])) (by unfold oK spS0; exact c_sq) ?_
  repeat' first
    | (refine gc_gate ?_; first
      | refine gc_seq ?_
      | refine gc_region ?_)
  refine gl_ev (ev_makeMap rfl rfl ?_) rfl rfl
  intro gA hgA
  repeat' first
    | (refine gl_gate ?_; first
      | refine gl_nil ?_
      | (refine gl_load0 ?_; refine gl_yv (yv_load tab_ok (gok_none rfl) rfl rfl (fun _ => rfl) c_mem (fun _ => c_lds)) rfl rfl ?_)
      | (refine gl_any0 ?_; (refine gl_ev (ev_callOw rfl rfl ent111 rfl rfl rfl (fun W hW => ct_CellsP l g W (hD.at' hW c_kin) hl) ?_) rfl rfl; intro p1 c1 sp1 hw1))
      | (refine gl_any0 ?_; refine gl_pure tab_ok rfl rfl rfl rfl rfl rfl ?_))
    | (refine gc_gate ?_; first
      | refine gc_seq ?_
      | refine gc_region ?_
      | refine gc_block ?_)
    | (refine ge_gate ?_; first
      | ((with_reducible refine ge_gT ?_); first | with_reducible refine ge_then ?_ | with_reducible refine ge_then_exit ?_ | with_reducible refine ge_then_ret ?_))
  refine gc_sq ((gA, true, .map #[] 0) :: (go, true, .cells [.pointer (some (ad g)), .map (some gm), .slice none 0 0, .slice none 0 0].toArray 217 (0, 0)) :: (gm, true, .map #[] 0) :: (ow p1 true (cat Cell.l (dC l) ++ sp1) 25 ++ (K1 ++ []))) c_sq ?_
  refine gc_loop (α := Nat × List (Cell × Value) × Array MapEntry × Nat × Kl) (fun x => [(0, true, .pointer (some (ad go))), (2, true, .map (some gA)), (17, true, .slice (p1.map ad) (dC l).length c1), (18, true, .int .i64 (dC l).length), (19, true, .int .i64 (x.1 : Int))])
    (fun x => (gA, true, .map x.2.2.1 x.2.2.2.1) :: (go, true, .cells [.pointer (some (ad g)), .map (some gm), .slice none 0 0, .slice none 0 0].toArray 217 (0, 0)) :: (gm, true, .map #[] 0) :: (ow p1 true (cat Cell.l (dC l) ++ sp1) 25 ++ (K1 ++ x.2.2.2.2))) (fun x => x.1 ≤ (dC l).length ∧ AfM l x.1 x.2.1 x.2.2.1 x.2.2.2.1 x.2.2.2.2) (fun x => (dC l).length - x.1) (0, [], #[], 0, []) c_frs (List.Sublist.refl _) ⟨Nat.zero_le _, Mp.nil, fun x hx => absurd hx (by simp)⟩ ?_
  rintro ⟨i, mA, eA, kA, Kb⟩ ⟨hi, hA⟩
  dsimp only at hi hA ⊢
  repeat' first
    | (refine gl_gate ?_; first
      | refine gl_nil ?_
      | (refine gl_any0 ?_; refine gl_pure tab_ok rfl rfl rfl rfl rfl rfl ?_))
    | (refine gc_gate ?_; first
      | refine gc_seq ?_
      | refine gc_region ?_)
    | (refine ge_gate ?_; first
      | ((with_reducible refine ge_gT ?_); first | with_reducible refine ge_then ?_ | with_reducible refine ge_then_exit ?_ | with_reducible refine ge_then_ret ?_))
  (refine gc_cond rfl ?_ ?_ <;> intro h_ <;> have hd_ := h_ <;> (try simp only [bytes_beq, cell_beq, val_beq, stamp_beq, decide_eq_true_eq, decide_eq_false_iff_not, Bool.and_eq_true, Bool.or_eq_true, Bool.or_eq_false_iff, Bool.not_eq_true', Bool.not_eq_false', Bool.not_true, Bool.not_false, Bool.false_or, Bool.true_and, Bool.and_true, Bool.or_false, beq_iff_eq, bne_iff_ne, beq_eq_false_iff_ne, bne_eq_false_iff_eq, ne_eq, Bool.false_eq_true, reduceCtorEq] at hd_) <;> (try (exfalso; omega)))
  · have hiN : i < (dC l).length := by omega
    have hal := aft_len l ((dC l).getD i default)
    repeat' first
      | (refine gl_idx0 ?_; refine gl_yv (yv_idxO tab_ok hw1 (gok_none rfl) rfl rfl rfl rfl rfl rfl (fun _ => rfl) (fun _ => rfl) c_bnd) rfl rfl ?_)
      | (refine gl_load0 ?_; refine gl_yv (yv_ldO tab_ok c_oa hw1 (gok_none rfl) rfl rfl (fun _ => rfl) (fun _ => lds_cat len_cell (by omega) rfl rfl rfl) c_bnd) rfl rfl ?_)
      | (refine gl_gate ?_; first
        | refine gl_nil ?_
        | (refine gl_alc0 ?_; (refine gl_alloc tab_ok rfl rfl rfl rfl rfl ?_; intro g_ hg_))
        | (refine gl_sto0 ?_; refine gl_store tab_ok rfl rfl rfl rfl rfl rfl rfl c_one rfl c_ku ?_))
      | (refine gc_gate ?_; first
        | refine gc_seq ?_
        | refine gc_region ?_
        | refine gc_block ?_
        | refine gc_skip ?_)
      | (refine ge_gate ?_; first
        | ((with_reducible refine ge_gT ?_); first | with_reducible refine ge_then ?_ | with_reducible refine ge_then_exit ?_ | with_reducible refine ge_then_ret ?_))
    refine gp_start [8] #[false, false, false, false, false, false, false, false, false] mixed rfl rfl c_qp ?_; intro hqp_
    refine gp_take 0 #[true, false, false, false, false, false, false, false, false] hqp_ rfl (by kernel_rfl) (yv_pure tab_ok c_gok rfl rfl c_allT) c_cl rfl rfl ?_
    refine gp_take 1 #[true, true, false, false, false, false, false, false, false] hqp_ rfl (by kernel_rfl) (yv_load tab_ok c_gok rfl rfl c_imp c_mem (fun _ => c_lds)) c_cl rfl rfl ?_
    refine gp_take 2 #[true, true, true, false, false, false, false, false, false] hqp_ rfl (by kernel_rfl) (yv_pure tab_ok c_gok rfl rfl c_allT) c_cl rfl rfl ?_
    refine gp_take 3 #[true, true, true, true, false, false, false, false, false] hqp_ rfl (by kernel_rfl) (yv_pure tab_ok c_gok rfl rfl c_allT) c_cl rfl rfl ?_
    refine gp_take 4 #[true, true, true, true, true, false, false, false, false] hqp_ rfl (by kernel_rfl) (yv_pure tab_ok c_gok rfl rfl c_allT) c_cl rfl rfl ?_
    refine gp_take 5 #[true, true, true, true, true, true, false, false, false] hqp_ rfl (by kernel_rfl) (yv_load tab_ok c_gok rfl rfl c_imp c_mem (fun _ => c_lds)) c_cl rfl rfl ?_
    refine gp_take 6 #[true, true, true, true, true, true, true, false, false] hqp_ rfl (by kernel_rfl) (yv_load tab_ok c_gok rfl rfl c_imp c_mem (fun _ => c_lds)) c_cl rfl rfl ?_
    (refine gp_ev 7 #[true, true, true, true, true, true, true, true, false] rfl (by kernel_rfl) rfl rfl rfl (ev_callOw rfl rfl ent117 rfl rfl rfl (fun W hW => ct_AfterP l g ((dC l).getD i default) W (hD.at' hW c_kin) hl) ?_); intro pa ca spa hwa; refine ⟨c_cl, ?_⟩)
    refine gp_last0 8 #[true, true, true, true, true, true, true, true, true] rfl (by kernel_rfl) (by simp) rfl (ev_mapUpdate (kf := kCell) (vf := idV) (k := (dC l).getD i default) (u := .slice (pa.map ad) (aft l ((dC l).getD i default)).length ca) key_cell tab_ok rfl rfl rfl rfl rfl rfl hA.mp c_mem (fun es2 clock2 hm2 => ⟨_, c_ku, ?_⟩))
    refine gp_done (by kernel_rfl) ?_; clear hqp_
    repeat' first
      | (refine gl_gate ?_; first
        | refine gl_nil ?_
        | (refine gl_add0 ?_; refine gl_yv (yv_add tab_ok (gok_none rfl) rfl rfl rfl rfl (fun _ => allT_of rfl) (by intro _; omega)) rfl rfl ?_)
        | (refine gl_any0 ?_; refine gl_pure tab_ok rfl rfl rfl rfl rfl rfl ?_))
      | (refine gc_gate ?_; first
        | refine gc_region ?_)
      | (refine ge_gate ?_; first
        | ((with_reducible refine ge_gT ?_); first | with_reducible refine ge_then ?_ | with_reducible refine ge_then_exit ?_ | with_reducible refine ge_then_ret ?_)
        | ((with_reducible refine ge_gK ?_); first | with_reducible refine ge_block ?_ | refine ge_block_exit ?_ | refine ge_block_pass rfl ?_ | with_reducible refine ge_block_ret ?_))
    refine ge_sq ((gA, true, .map es2 clock2) :: (go, true, .cells [.pointer (some (ad g)), .map (some gm), .slice none 0 0, .slice none 0 0].toArray 217 (0, 0)) :: (gm, true, .map #[] 0) :: (ow p1 true (cat Cell.l (dC l) ++ sp1) 25 ++ (K1 ++ (ow pa true (cat Cell.l (aft l ((dC l).getD i default)) ++ spa) 25 ++ Kb)))) c_sq ?_
    exact ge_round (i + 1, _, es2, clock2, _) ⟨by dsimp only; omega, hA.step hiN hwa hm2⟩ (by show (dC l).length - (i + 1) < (dC l).length - i; omega) c_frs (List.Sublist.refl _)
  have hiN : i = (dC l).length := by omega
  subst hiN
  have hrow := hA.row
  rw [List.take_length] at hrow
  have hmA := hA.mp
  repeat' first
    | (refine gl_gate ?_; first
      | refine gl_nil ?_
      | (refine gl_load0 ?_; refine gl_yv (yv_load tab_ok (gok_none rfl) rfl rfl (fun _ => rfl) c_mem (fun _ => c_lds)) rfl rfl ?_)
      | (refine gl_any0 ?_; (refine gl_ev (ev_callOw rfl rfl ent111 rfl rfl rfl (fun W hW => ct_CellsP l g W (hD.at' hW c_kin) hl) ?_) rfl rfl; intro p2 c2 sp2 hw2))
      | (refine gl_any0 ?_; refine gl_pure tab_ok rfl rfl rfl rfl rfl rfl ?_))
    | (refine gc_gate ?_; first
      | refine gc_seq ?_
      | refine gc_region ?_
      | refine gc_block ?_
      | refine gc_exit ?_)
    | (refine ge_gate ?_; first
      | ((with_reducible refine ge_gT ?_); first | with_reducible refine ge_then ?_ | with_reducible refine ge_then_exit ?_ | with_reducible refine ge_then_ret ?_)
      | ((with_reducible refine ge_gK ?_); first | with_reducible refine ge_block ?_ | refine ge_block_exit ?_ | refine ge_block_pass rfl ?_ | with_reducible refine ge_block_ret ?_))
  refine gc_sq ((go, true, .cells [.pointer (some (ad g)), .map (some gm), .slice none 0 0, .slice none 0 0].toArray 217 (0, 0)) :: (gm, true, .map #[] 0) :: (gA, true, .map eA kA) :: (ow p2 true (cat Cell.l (dC l) ++ sp2) 25 ++ (K1 ++ (Kb ++ [])))) c_sq ?_
  refine gc_loop (α := Nat × SpS) (fun x => [(0, true, .pointer (some (ad go))), (2, true, .map (some gA)), (36, true, .slice (p2.map ad) (dC l).length c2), (37, true, .int .i64 (dC l).length), (38, true, .int .i64 (x.1 : Int))])
    (fun x => (go, true, .cells [.pointer (some (ad g)), .map (some gm), .slice (x.2.q.map ad) x.2.ks.length x.2.c, .slice none 0 0].toArray 217 (0, 0)) :: (gm, true, .map x.2.es x.2.ck) :: (gA, true, .map eA kA) :: (ow p2 true (cat Cell.l (dC l) ++ sp2) 25 ++ (ow x.2.q true (cat KP.l x.2.ks ++ x.2.sp) 151 ++ (K1 ++ (Kb ++ x.2.Ka))))) (fun x => x.1 ≤ (dC l).length ∧ SpOk l (allP l x.1) x.2) (fun x => (dC l).length - x.1) (0, spS0) c_frs (List.Sublist.refl _) ⟨Nat.zero_le _, SpOk.start l⟩ ?_
  rintro ⟨i, s⟩ ⟨hi, hs⟩
  dsimp only at hi hs ⊢
  repeat' first
    | (refine gl_gate ?_; first
      | refine gl_nil ?_
      | (refine gl_any0 ?_; refine gl_pure tab_ok rfl rfl rfl rfl rfl rfl ?_))
    | (refine gc_gate ?_; first
      | refine gc_seq ?_
      | refine gc_region ?_)
    | (refine ge_gate ?_; first
      | ((with_reducible refine ge_gT ?_); first | with_reducible refine ge_then ?_ | with_reducible refine ge_then_exit ?_ | with_reducible refine ge_then_ret ?_))
  (refine gc_cond rfl ?_ ?_ <;> intro h_ <;> have hd_ := h_ <;> (try simp only [bytes_beq, cell_beq, val_beq, stamp_beq, decide_eq_true_eq, decide_eq_false_iff_not, Bool.and_eq_true, Bool.or_eq_true, Bool.or_eq_false_iff, Bool.not_eq_true', Bool.not_eq_false', Bool.not_true, Bool.not_false, Bool.false_or, Bool.true_and, Bool.and_true, Bool.or_false, beq_iff_eq, bne_iff_ne, beq_eq_false_iff_ne, bne_eq_false_iff_eq, ne_eq, Bool.false_eq_true, reduceCtorEq] at hd_) <;> (try (exfalso; omega)))
  · have hiN : i < (dC l).length := by omega
    have hcD := getD_mem (dC l) i hiN
    have hpin := allP_in (l := l) hiN
    have hsucc := allP_succ (l := l) hiN
    have hpl := allP_len l i
    generalize hcc : (dC l).getD i default = c at *
    have hnl : s.ks.length = (allP l i).length := by rw [← hs.kn, List.length_map]
    have hsome : (fnd c s.m 0).isSome = !fstD l c := by
      rw [fnd_isSome_lk, hs.lk, Option.isSome_map]
      cases h : ofI (allP l i) c with
      | none =>
        have h1 := ofI_none.1 h
        have h2 : ¬ fstD l c = false := fun h3 => by
          obtain ⟨k, hk, hck⟩ := hpin.2 h3
          exact h1 k hk hck
        simp at h2
        simp [h2]
      | some n =>
        obtain ⟨h1, h2⟩ := ofI_some h
        have h3 := hpin.1 ⟨_, by rw [List.getD_eq_getElem?_getD, List.getElem?_eq_getElem h1]; exact List.getElem_mem h1, h2⟩
        simp [h3]
    repeat' first
      | (refine gl_idx0 ?_; refine gl_yv (yv_idxO tab_ok hw2 (gok_none rfl) rfl rfl rfl rfl rfl rfl (fun _ => rfl) (fun _ => rfl) c_bnd) rfl rfl ?_)
      | (refine gl_load0 ?_; refine gl_yv (yv_ldO (v := .agg c.l.toArray) tab_ok c_oa hw2 (gok_none rfl) rfl rfl (fun _ => rfl) (fun _ => by rw [← hcc]; exact lds_cat len_cell (by omega) rfl rfl rfl) c_bnd) rfl rfl ?_)
      | (refine gl_gate ?_; first
        | refine gl_nil ?_
        | (refine gl_alc0 ?_; (refine gl_alloc tab_ok rfl rfl rfl rfl rfl ?_; intro g_ hg_))
        | (refine gl_sto0 ?_; refine gl_store tab_ok rfl rfl rfl rfl rfl rfl rfl c_one rfl c_ku ?_))
      | (refine gc_gate ?_; first
        | refine gc_seq ?_
        | refine gc_region ?_
        | refine gc_block ?_
        | refine gc_skip ?_)
      | (refine ge_gate ?_; first
        | ((with_reducible refine ge_gT ?_); first | with_reducible refine ge_then ?_ | with_reducible refine ge_then_exit ?_ | with_reducible refine ge_then_ret ?_))
    revert g_
    intro g6 hg6
    refine gp_start [] #[false, false, false, false, false, false, false, false, false, false, false] mixed rfl rfl c_qp ?_; intro hqp_
    refine gp_take 0 #[true, false, false, false, false, false, false, false, false, false, false] hqp_ rfl (by kernel_rfl) (yv_pure tab_ok c_gok rfl rfl c_allT) c_cl rfl rfl ?_
    refine gp_take 1 #[true, true, false, false, false, false, false, false, false, false, false] hqp_ rfl (by kernel_rfl) (yv_pure tab_ok c_gok rfl rfl c_allT) c_cl rfl rfl ?_
    refine gp_take 2 #[true, true, true, false, false, false, false, false, false, false, false] hqp_ rfl (by kernel_rfl) (yv_pure tab_ok c_gok rfl rfl c_allT) c_cl rfl rfl ?_
    refine gp_take 3 #[true, true, true, true, false, false, false, false, false, false, false] hqp_ rfl (by kernel_rfl) (yv_load tab_ok c_gok rfl rfl c_imp c_mem (fun _ => c_lds)) c_cl rfl rfl ?_
    refine gp_take 4 #[true, true, true, true, true, false, false, false, false, false, false] hqp_ rfl (by kernel_rfl) (yv_load tab_ok c_gok rfl rfl c_imp c_mem (fun _ => c_lds)) c_cl rfl rfl ?_
    refine gp_take 5 #[true, true, true, true, true, true, false, false, false, false, false] hqp_ rfl (by kernel_rfl) (((yv_lookup (c := true) (k := c) (z0 := 0) key_cell tab_ok zero_n c_gok rfl rfl rfl rfl c_imp c_imp hs.mp c_mem).cast (v' := .tuple #[vN (mgetD s.m c 0), .bool (!fstD l c)]) (by rw [← hsome]; rfl))) c_cl rfl rfl ?_
    refine gp_take 6 #[true, true, true, true, true, true, true, false, false, false, false] hqp_ rfl (by kernel_rfl) (yv_pure tab_ok c_gok rfl rfl c_allT) c_cl rfl rfl ?_
    refine gp_take 7 #[true, true, true, true, true, true, true, true, false, false, false] hqp_ rfl (by kernel_rfl) (yv_pure tab_ok c_gok rfl rfl c_allT) c_cl rfl rfl ?_
    refine gp_take 8 #[true, true, true, true, true, true, true, true, true, false, false] hqp_ rfl (by kernel_rfl) (yv_pure tab_ok c_gok rfl rfl c_allT) c_cl rfl rfl ?_
    refine gp_take 9 #[true, true, true, true, true, true, true, true, true, true, false] hqp_ rfl (by kernel_rfl) (yv_pure tab_ok c_gok rfl rfl c_allT) c_cl rfl rfl ?_
    refine gp_take 10 #[true, true, true, true, true, true, true, true, true, true, true] hqp_ rfl (by kernel_rfl) (yv_pure tab_ok c_gok rfl rfl c_allT) c_cl rfl rfl ?_
    refine gp_done (by kernel_rfl) ?_; clear hqp_
    repeat' first
      | (refine gl_gate ?_; first
        | refine gl_nil ?_
        | (refine gl_any0 ?_; refine gl_pure tab_ok rfl rfl rfl rfl rfl rfl ?_))
      | (refine gc_gate ?_; first
        | refine gc_seq ?_
        | refine gc_region ?_)
      | (refine ge_gate ?_; first
        | ((with_reducible refine ge_gT ?_); first | with_reducible refine ge_then ?_ | with_reducible refine ge_then_exit ?_ | with_reducible refine ge_then_ret ?_))
    (refine gc_cond rfl ?_ ?_ <;> intro h_ <;> have hd_ := h_ <;> (try simp only [bytes_beq, cell_beq, val_beq, stamp_beq, decide_eq_true_eq, decide_eq_false_iff_not, Bool.and_eq_true, Bool.or_eq_true, Bool.or_eq_false_iff, Bool.not_eq_true', Bool.not_eq_false', Bool.not_true, Bool.not_false, Bool.false_or, Bool.true_and, Bool.and_true, Bool.or_false, beq_iff_eq, bne_iff_ne, beq_eq_false_iff_ne, bne_eq_false_iff_eq, ne_eq, Bool.false_eq_true, reduceCtorEq] at hd_) <;> (try (exfalso; omega)))
    · have hf : fstD l c = false := by simpa using hd_
      rw [hf, if_neg (by simp), List.append_nil] at hsucc
      repeat' first
        | (refine gl_gate ?_; first
          | refine gl_nil ?_
          | (refine gl_add0 ?_; refine gl_yv (yv_add tab_ok (gok_none rfl) rfl rfl rfl rfl (fun _ => allT_of rfl) (by intro _; omega)) rfl rfl ?_)
          | (refine gl_any0 ?_; refine gl_pure tab_ok rfl rfl rfl rfl rfl rfl ?_))
        | (refine gc_gate ?_; first
          | refine gc_region ?_
          | refine gc_exit ?_)
        | (refine ge_gate ?_; first
          | ((with_reducible refine ge_gT ?_); first | with_reducible refine ge_then ?_ | with_reducible refine ge_then_exit ?_ | with_reducible refine ge_then_ret ?_)
          | ((with_reducible refine ge_gK ?_); first | with_reducible refine ge_block ?_ | refine ge_block_exit ?_ | refine ge_block_pass rfl ?_ | with_reducible refine ge_block_ret ?_))
      exact ge_round (i + 1, s) ⟨by dsimp only; omega, by dsimp only; rw [hsucc]; exact hs⟩ (by show (dC l).length - (i + 1) < (dC l).length - i; omega) c_frs (List.Sublist.cons _ (List.Sublist.refl _))
    have hf : fstD l c = true := by simpa using hd_
    rw [hf, if_pos rfl] at hsucc
    obtain ⟨pr, cr, hv, hz⟩ := hrow c hcD
    have hal := aft_len l c
    repeat' first
      | (refine gc_gate ?_; first
        | refine gc_seq ?_
        | refine gc_skip ?_)
      | (refine ge_gate ?_; first
        | ((with_reducible refine ge_gT ?_); first | with_reducible refine ge_then ?_ | with_reducible refine ge_then_exit ?_ | with_reducible refine ge_then_ret ?_))
    refine gc_cut (σ := Nat × Option Nat × Nat × List Value) (fun y => [(0, true, .pointer (some (ad go))), (2, true, .map (some gA)), (36, true, .slice (p2.map ad) (dC l).length c2), (37, true, .int .i64 (dC l).length), (38, true, .int .i64 (i : Int)), (6, true, .pointer (some ⟨g6, 0, none⟩)), (9, true, .pointer (some ⟨y.1, 0, none⟩))])
      (fun y => (y.1, true, .cells [.slice (y.2.1.map ad) 1 y.2.2.1, .bool (rndD l c)].toArray 151 (0, 0)) :: (ow y.2.1 true (cat Cell.l [c] ++ y.2.2.2) 25 ++ ((go, true, .cells [.pointer (some (ad g)), .map (some gm), .slice (s.q.map ad) s.ks.length s.c, .slice none 0 0].toArray 217 (0, 0)) :: (gm, true, .map s.es s.ck) :: (gA, true, .map eA kA) :: (g6, true, .cells c.l.toArray 25 (0, 0)) :: (ow p2 true (cat Cell.l (dC l) ++ sp2) 25 ++ (ow s.q true (cat KP.l s.ks ++ s.sp) 151 ++ (K1 ++ (Kb ++ s.Ka))))))) (fun y => Ow y.2.1 1 y.2.2.1 3 (cat Cell.l [c]) y.2.2.2) ?_ ?_
    · refine gp_start [9] #[false, false, false, false, false, false, false, false, false, false] mixed rfl rfl c_qp ?_; intro hqp_
      refine gp_take 0 #[true, false, false, false, false, false, false, false, false, false] hqp_ rfl (by kernel_rfl) (yv_load tab_ok c_gok rfl rfl c_imp c_mem (fun _ => c_lds)) c_cl rfl rfl ?_
      refine gp_take 2 #[true, false, true, false, false, false, false, false, false, false] hqp_ rfl (by kernel_rfl) (yv_pure tab_ok c_gok rfl rfl c_allT) c_cl rfl rfl ?_
      refine gp_take 3 #[true, false, true, true, false, false, false, false, false, false] hqp_ rfl (by kernel_rfl) (yv_load tab_ok c_gok rfl rfl c_imp c_mem (fun _ => c_lds)) c_cl rfl rfl ?_
      refine gp_take 4 #[true, false, true, true, true, false, false, false, false, false] hqp_ rfl (by kernel_rfl) (((yv_lookup (c := false) (k := c) (z0 := nilS) key_cell tab_ok zero_cells c_gok rfl rfl rfl rfl c_imp c_imp hmA c_mem).cast (v' := .slice pr (aft l c).length cr) (by rw [← hv]; rfl))) c_cl rfl rfl ?_
      refine gp_take 5 #[true, false, true, true, true, true, false, false, false, false] hqp_ rfl (by kernel_rfl) (yv_load tab_ok c_gok rfl rfl c_imp c_mem (fun _ => c_lds)) c_cl rfl rfl ?_
      refine gp_rs [1, 6, 8] (by kernel_rfl) rfl (gr_ev 1 #[true, true, true, true, true, true, false, false, false, false] rfl rfl rfl rfl rfl (ev_buildSlice tab_ok rfl rfl rfl rfl rfl rfl rfl rfl rfl rfl ?_) (gr_ev 6 #[true, false, true, true, true, true, true, false, false, false] rfl rfl rfl rfl rfl (ev_callq rfl rfl ent169 rfl rfl rfl (fun W hW => ct_ContD W l c c pr cr (hz.at' hW c_kin) hl) ⟨c_cl, ?_⟩) (gr_ev 8 #[true, false, true, true, true, true, false, false, true, false] rfl rfl rfl rfl rfl (ev_alloc (t := 151) (dd := ⟨.struct [(44, 0), (4, 1)], 2, 32, [.slice none 0 0, .bool false]⟩) tab_ok rfl rfl rfl ?_) gr_nil)))
      intro gs hgs; refine ⟨c_cl, ?_⟩
      refine gp_rs [6, 8] (by kernel_rfl) rfl (gr_ev 6 #[true, true, true, true, true, true, true, false, false, false] rfl rfl rfl rfl rfl (ev_callq rfl rfl ent169 rfl rfl rfl (fun W hW => ct_ContD W l c c pr cr (hz.at' hW c_kin) hl) ⟨c_cl, ?_⟩) (gr_ev 8 #[true, true, true, true, true, true, false, false, true, false] rfl rfl rfl rfl rfl (ev_alloc (t := 151) (dd := ⟨.struct [(44, 0), (4, 1)], 2, 32, [.slice none 0 0, .bool false]⟩) tab_ok rfl rfl rfl ?_) gr_nil))
      refine gp_take 7 #[true, true, true, true, true, true, true, true, false, false] hqp_ rfl (by kernel_rfl) (yv_pure tab_ok c_gok rfl rfl c_allT) c_cl rfl rfl ?_
      (refine gp_ev 8 #[true, true, true, true, true, true, true, true, true, false] rfl (by kernel_rfl) rfl rfl rfl (ev_alloc (t := 151) (dd := ⟨.struct [(44, 0), (4, 1)], 2, 32, [.slice none 0 0, .bool false]⟩) tab_ok rfl rfl rfl ?_); intro g9 hg9; refine ⟨c_cl, ?_⟩)
      refine gp_last0 9 #[true, true, true, true, true, true, true, true, true, true] rfl (by kernel_rfl) (by simp) rfl (ev_store tab_ok rfl rfl rfl rfl rfl rfl c_one rfl c_ku ?_)
      refine gp_done (by kernel_rfl) ?_; clear hqp_
      rotate_left 1
      intro g9 hg9; refine ⟨c_cl, ?_⟩
      refine gp_ev 6 #[true, true, true, true, true, true, true, false, true, false] rfl (by kernel_rfl) rfl rfl rfl (ev_callq rfl rfl ent169 rfl rfl rfl (fun W hW => ct_ContD W l c c pr cr (hz.at' hW c_kin) hl) ⟨c_cl, ?_⟩)
      refine gp_take 7 #[true, true, true, true, true, true, true, true, true, false] hqp_ rfl (by kernel_rfl) (yv_pure tab_ok c_gok rfl rfl c_allT) c_cl rfl rfl ?_
      refine gp_last0 9 #[true, true, true, true, true, true, true, true, true, true] rfl (by kernel_rfl) (by simp) rfl (ev_store tab_ok rfl rfl rfl rfl rfl rfl c_one rfl c_ku ?_)
      refine gp_done (by kernel_rfl) ?_; clear hqp_
      rotate_left 1
      refine gp_rs [1, 8] (by kernel_rfl) rfl (gr_ev 1 #[true, true, true, true, true, true, true, false, false, false] rfl rfl rfl rfl rfl (ev_buildSlice tab_ok rfl rfl rfl rfl rfl rfl rfl rfl rfl rfl ?_) (gr_ev 8 #[true, false, true, true, true, true, true, false, true, false] rfl rfl rfl rfl rfl (ev_alloc (t := 151) (dd := ⟨.struct [(44, 0), (4, 1)], 2, 32, [.slice none 0 0, .bool false]⟩) tab_ok rfl rfl rfl ?_) gr_nil))
      intro gs hgs; refine ⟨c_cl, ?_⟩
      refine gp_take 7 #[true, true, true, true, true, true, true, true, false, false] hqp_ rfl (by kernel_rfl) (yv_pure tab_ok c_gok rfl rfl c_allT) c_cl rfl rfl ?_
      (refine gp_ev 8 #[true, true, true, true, true, true, true, true, true, false] rfl (by kernel_rfl) rfl rfl rfl (ev_alloc (t := 151) (dd := ⟨.struct [(44, 0), (4, 1)], 2, 32, [.slice none 0 0, .bool false]⟩) tab_ok rfl rfl rfl ?_); intro g9 hg9; refine ⟨c_cl, ?_⟩)
      refine gp_last0 9 #[true, true, true, true, true, true, true, true, true, true] rfl (by kernel_rfl) (by simp) rfl (ev_store tab_ok rfl rfl rfl rfl rfl rfl c_one rfl c_ku ?_)
      refine gp_done (by kernel_rfl) ?_; clear hqp_
      rotate_left 1
      intro g9 hg9; refine ⟨c_cl, ?_⟩
      (refine gp_ev 1 #[true, true, true, true, true, true, true, false, true, false] rfl (by kernel_rfl) rfl rfl rfl (ev_buildSlice tab_ok rfl rfl rfl rfl rfl rfl rfl rfl rfl rfl ?_); intro gs hgs; refine ⟨c_cl, ?_⟩)
      refine gp_take 7 #[true, true, true, true, true, true, true, true, true, false] hqp_ rfl (by kernel_rfl) (yv_pure tab_ok c_gok rfl rfl c_allT) c_cl rfl rfl ?_
      refine gp_last0 9 #[true, true, true, true, true, true, true, true, true, true] rfl (by kernel_rfl) (by simp) rfl (ev_store tab_ok rfl rfl rfl rfl rfl rfl c_one rfl c_ku ?_)
      refine gp_done (by kernel_rfl) ?_; clear hqp_
      rotate_left 1
      intro g9 hg9; refine ⟨c_cl, ?_⟩
      refine gp_rs [1, 6] (by kernel_rfl) rfl (gr_ev 1 #[true, true, true, true, true, true, false, false, true, false] rfl rfl rfl rfl rfl (ev_buildSlice tab_ok rfl rfl rfl rfl rfl rfl rfl rfl rfl rfl ?_) (gr_ev 6 #[true, false, true, true, true, true, true, false, true, false] rfl rfl rfl rfl rfl (ev_callq rfl rfl ent169 rfl rfl rfl (fun W hW => ct_ContD W l c c pr cr (hz.at' hW c_kin) hl) ⟨c_cl, ?_⟩) gr_nil))
      intro gs hgs; refine ⟨c_cl, ?_⟩
      refine gp_ev 6 #[true, true, true, true, true, true, true, false, true, false] rfl (by kernel_rfl) rfl rfl rfl (ev_callq rfl rfl ent169 rfl rfl rfl (fun W hW => ct_ContD W l c c pr cr (hz.at' hW c_kin) hl) ⟨c_cl, ?_⟩)
      refine gp_take 7 #[true, true, true, true, true, true, true, true, true, false] hqp_ rfl (by kernel_rfl) (yv_pure tab_ok c_gok rfl rfl c_allT) c_cl rfl rfl ?_
      refine gp_last0 9 #[true, true, true, true, true, true, true, true, true, true] rfl (by kernel_rfl) (by simp) rfl (ev_store tab_ok rfl rfl rfl rfl rfl rfl c_one rfl c_ku ?_)
      refine gp_done (by kernel_rfl) ?_; clear hqp_
      rotate_left 1
      (refine gp_ev 1 #[true, true, true, true, true, true, true, false, true, false] rfl (by kernel_rfl) rfl rfl rfl (ev_buildSlice tab_ok rfl rfl rfl rfl rfl rfl rfl rfl rfl rfl ?_); intro gs hgs; refine ⟨c_cl, ?_⟩)
      refine gp_take 7 #[true, true, true, true, true, true, true, true, true, false] hqp_ rfl (by kernel_rfl) (yv_pure tab_ok c_gok rfl rfl c_allT) c_cl rfl rfl ?_
      refine gp_last0 9 #[true, true, true, true, true, true, true, true, true, true] rfl (by kernel_rfl) (by simp) rfl (ev_store tab_ok rfl rfl rfl rfl rfl rfl c_one rfl c_ku ?_)
      refine gp_done (by kernel_rfl) ?_; clear hqp_
      all_goals
        rw [← rndD_aft]
        refine ge_sq ((g9, true, .cells [.slice (some (ad gs)) 1 1, .bool (rndD l c)].toArray 151 (0, 0)) :: (ow (some gs) true (cat Cell.l [c] ++ []) 25 ++ ((go, true, .cells [.pointer (some (ad g)), .map (some gm), .slice (s.q.map ad) s.ks.length s.c, .slice none 0 0].toArray 217 (0, 0)) :: (gm, true, .map s.es s.ck) :: (gA, true, .map eA kA) :: (g6, true, .cells c.l.toArray 25 (0, 0)) :: (ow p2 true (cat Cell.l (dC l) ++ sp2) 25 ++ (ow s.q true (cat KP.l s.ks ++ s.sp) 151 ++ (K1 ++ (Kb ++ s.Ka))))))) c_sq ?_
        exact ge_mid (g9, some gs, 1, []) ⟨rfl, rfl, Nat.le_refl _, fun h => by cases h⟩ c_frs (List.Sublist.refl _)
    rintro ⟨g9, pk, ck, spk⟩ hk1
    dsimp only at hk1 ⊢
    repeat' first
      | (refine gc_gate ?_; first
        | refine gc_seq ?_)
      | (refine ge_gate ?_; first
        | ((with_reducible refine ge_gT ?_); first | with_reducible refine ge_then ?_ | with_reducible refine ge_then_exit ?_ | with_reducible refine ge_then_ret ?_))
    refine gp_start [10] #[false, false, false, false, false, false, false, false, false, false, false] mixed rfl rfl c_qp ?_; intro hqp_
    refine gp_take 0 #[true, false, false, false, false, false, false, false, false, false, false] hqp_ rfl (by kernel_rfl) (yv_pure tab_ok c_gok rfl rfl c_allT) c_cl rfl rfl ?_
    refine gp_take 1 #[true, true, false, false, false, false, false, false, false, false, false] hqp_ rfl (by kernel_rfl) (yv_pure tab_ok c_gok rfl rfl c_allT) c_cl rfl rfl ?_
    refine gp_take 2 #[true, true, true, false, false, false, false, false, false, false, false] hqp_ rfl (by kernel_rfl) (yv_pure tab_ok c_gok rfl rfl c_allT) c_cl rfl rfl ?_
    refine gp_take 3 #[true, true, true, true, false, false, false, false, false, false, false] hqp_ rfl (by kernel_rfl) (yv_load tab_ok c_gok rfl rfl c_imp c_mem (fun _ => c_lds)) c_cl rfl rfl ?_
    refine gp_take 4 #[true, true, true, true, true, false, false, false, false, false, false] hqp_ rfl (by kernel_rfl) (yv_load tab_ok c_gok rfl rfl c_imp c_mem (fun _ => c_lds)) c_cl rfl rfl ?_
    refine gp_take 5 #[true, true, true, true, true, true, false, false, false, false, false] hqp_ rfl (by kernel_rfl) (yv_pure tab_ok c_gok rfl rfl c_allT) c_cl rfl rfl ?_
    refine gp_take 6 #[true, true, true, true, true, true, true, false, false, false, false] hqp_ rfl (by kernel_rfl) (yv_pure tab_ok c_gok rfl rfl c_allT) c_cl rfl rfl ?_
    refine gp_take 7 #[true, true, true, true, true, true, true, true, false, false, false] hqp_ rfl (by kernel_rfl) (yv_pure tab_ok c_gok rfl rfl c_allT) c_cl rfl rfl ?_
    refine gp_take 8 #[true, true, true, true, true, true, true, true, true, false, false] hqp_ rfl (by kernel_rfl) (yv_load tab_ok c_gok rfl rfl c_imp c_mem (fun _ => c_lds)) c_cl rfl rfl ?_
    refine gp_take 9 #[true, true, true, true, true, true, true, true, true, true, false] hqp_ rfl (by kernel_rfl) (yv_pure tab_ok c_gok rfl rfl c_allT) c_cl rfl rfl ?_
    refine gp_last0 10 #[true, true, true, true, true, true, true, true, true, true, true] rfl (by kernel_rfl) (by simp) rfl (ev_mapUpdate (kf := kCell) (vf := vN) (k := c) (u := (s.ks.length : Int)) key_cell tab_ok rfl rfl rfl rfl rfl rfl hs.mp c_mem (fun es2 clock2 hm2 => ⟨_, c_ku, ?_⟩))
    refine gp_done (by kernel_rfl) ?_; clear hqp_
    repeat' first
      | (refine gl_any0 ?_; refine gl_yv ((yv_lookup (c := false) (k := c) (z0 := nilS) key_cell tab_ok zero_cells (gok_none rfl) rfl rfl rfl rfl (fun _ => rfl) (fun _ => rfl) hmA c_mem).cast (v' := .slice pr (aft l c).length cr) (by rw [← hv]; rfl)) rfl rfl ?_)
      | (refine gl_gate ?_; first
        | refine gl_nil ?_
        | (refine gl_load0 ?_; refine gl_yv (yv_load tab_ok (gok_none rfl) rfl rfl (fun _ => rfl) c_mem (fun _ => c_lds)) rfl rfl ?_)
        | (refine gl_any0 ?_; refine gl_pure tab_ok rfl rfl rfl rfl rfl rfl ?_))
      | (refine gc_gate ?_; first
        | refine gc_seq ?_
        | refine gc_region ?_
        | refine gc_block ?_)
      | (refine ge_gate ?_; first
        | ((with_reducible refine ge_gT ?_); first | with_reducible refine ge_then ?_ | with_reducible refine ge_then_exit ?_ | with_reducible refine ge_then_ret ?_))
    refine gc_loop (α := S3) (fun x => [(0, true, .pointer (some (ad go))), (2, true, .map (some gA)), (36, true, .slice (p2.map ad) (dC l).length c2), (37, true, .int .i64 (dC l).length), (38, true, .int .i64 (i : Int)), (6, true, .pointer (some ⟨g6, 0, none⟩)), (9, true, .pointer (some ⟨g9, 0, none⟩)), (72, true, .slice pr (aft l c).length cr), (73, true, .int .i64 (aft l c).length), (74, true, .int .i64 (x.j : Int))])
      (fun x => (g9, true, .cells [.slice (x.p.map ad) (knL l c x.j).length x.c, .bool (rndD l c)].toArray 151 (0, 0)) :: (ow x.p true (cat Cell.l (knL l c x.j) ++ x.sp) 25 ++ ((go, true, .cells [.pointer (some (ad g)), .map (some gm), .slice (s.q.map ad) s.ks.length s.c, .slice none 0 0].toArray 217 (0, 0)) :: (gm, true, .map x.es x.ck) :: (gA, true, .map eA kA) :: (g6, true, .cells c.l.toArray 25 (0, 0)) :: (ow p2 true (cat Cell.l (dC l) ++ sp2) 25 ++ (ow s.q true (cat KP.l s.ks ++ s.sp) 151 ++ (K1 ++ (Kb ++ s.Ka))))))) (S3Ok l i s.ks.length c) (fun x => (aft l c).length - x.j) ⟨0, mset s.m c (s.ks.length : Int), es2, clock2, pk, ck, spk⟩ c_frs (List.Sublist.refl _) ⟨Nat.zero_le _, hm2, fun y => ?_, hk1⟩ ?_
    · show lkM (mset s.m c (s.ks.length : Int)) y = if y ∈ [c] then _ else _
      rw [lkM_mset, hs.lk]
      by_cases hy : c = y
      · rw [if_pos hy, if_pos (List.mem_singleton.2 hy.symm)]
      · rw [if_neg hy, if_neg (fun h => hy (List.mem_singleton.1 h).symm)]
    rintro ⟨j, m3, es3, k3, p3, c3, sp3⟩ ⟨hj, hm3, hl3, ho3⟩
    dsimp only at hj hm3 hl3 ho3 ⊢
    have hkl := knL_len l c j
    repeat' first
      | (refine gl_gate ?_; first
        | refine gl_nil ?_
        | (refine gl_any0 ?_; refine gl_pure tab_ok rfl rfl rfl rfl rfl rfl ?_))
      | (refine gc_gate ?_; first
        | refine gc_seq ?_
        | refine gc_region ?_)
      | (refine ge_gate ?_; first
        | ((with_reducible refine ge_gT ?_); first | with_reducible refine ge_then ?_ | with_reducible refine ge_then_exit ?_ | with_reducible refine ge_then_ret ?_))
    (refine gc_cond rfl ?_ ?_ <;> intro h_ <;> have hd_ := h_ <;> (try simp only [bytes_beq, cell_beq, val_beq, stamp_beq, decide_eq_true_eq, decide_eq_false_iff_not, Bool.and_eq_true, Bool.or_eq_true, Bool.or_eq_false_iff, Bool.not_eq_true', Bool.not_eq_false', Bool.not_true, Bool.not_false, Bool.false_or, Bool.true_and, Bool.and_true, Bool.or_false, beq_iff_eq, bne_iff_ne, beq_eq_false_iff_ne, bne_eq_false_iff_eq, ne_eq, Bool.false_eq_true, reduceCtorEq] at hd_) <;> (try (exfalso; omega)))
    · have hjl : j < (aft l c).length := by omega
      have hyA := getD_mem (aft l c) j hjl
      have hyes := knL_yes (l := l) (c := c) hjl
      have hno := knL_no (l := l) (c := c) hjl
      generalize hyy : (aft l c).getD j default = y at *
      have hyD : y ∈ dC l := (aft_mem.1 hyA).in
      obtain ⟨py, cy, hvy, hzy⟩ := hrow y hyD
      repeat' first
        | (refine gl_idx0 ?_; refine gl_yv (yv_idxF tab_ok hz c_kin (gok_none rfl) rfl rfl rfl rfl rfl rfl (fun _ => rfl) (fun _ => rfl) c_bnd) rfl rfl ?_)
        | (refine gl_load0 ?_; refine gl_yv (yv_ldF (v := .agg y.l.toArray) (i := j) tab_ok hz c_kin (gok_none rfl) rfl rfl (fun _ => rfl) c_bnd (fun _ => by show Lds tab 25 ((aft l c).getD j default).l 0 _; rw [hyy]; exact lds_agg rfl rfl rfl)) rfl rfl ?_)
        | (refine gl_gate ?_; first
          | refine gl_nil ?_
          | (refine gl_alc0 ?_; (refine gl_alloc tab_ok rfl rfl rfl rfl rfl ?_; intro g_ hg_))
          | (refine gl_sto0 ?_; refine gl_store tab_ok rfl rfl rfl rfl rfl rfl rfl c_one rfl c_ku ?_))
        | (refine gc_gate ?_; first
          | refine gc_seq ?_
          | refine gc_region ?_
          | refine gc_block ?_
          | refine gc_skip ?_)
        | (refine ge_gate ?_; first
          | ((with_reducible refine ge_gT ?_); first | with_reducible refine ge_then ?_ | with_reducible refine ge_then_exit ?_ | with_reducible refine ge_then_ret ?_))
      by_cases hyc : y = c
      · have e3 := hno fun h => h.1 hyc
        refine gp_start [] #[false, false, false, false, false, false, false, false, false, false] mixed rfl rfl c_qp ?_; intro hqp_
        refine gp_take 0 #[true, false, false, false, false, false, false, false, false, false] hqp_ rfl (by kernel_rfl) (yv_load tab_ok c_gok rfl rfl c_imp c_mem (fun _ => c_lds)) c_cl rfl rfl ?_
        refine gp_take 1 #[true, true, false, false, false, false, false, false, false, false] hqp_ rfl (by kernel_rfl) (yv_load tab_ok c_gok rfl rfl c_imp c_mem (fun _ => c_lds)) c_cl rfl rfl ?_
        refine gp_take 2 #[true, true, true, false, false, false, false, false, false, false] hqp_ rfl (by kernel_rfl) (((yv_neS tab_ok eqs_ok c_gok rfl rfl rfl rfl c_allT rfl rfl rfl).cast (v' := .bool false) (by simp only [bytes_beq, cell_beq]; simp [hyc]))) c_cl rfl rfl ?_
        refine gp_take 3 #[true, true, true, true, false, false, false, false, false, false] hqp_ rfl (by kernel_rfl) (yv_pure tab_ok c_gok rfl rfl c_allT) c_cl rfl rfl ?_
        refine gp_take 4 #[true, true, true, true, true, false, false, false, false, false] hqp_ rfl (by kernel_rfl) (yv_pure tab_ok c_gok rfl rfl c_allT) c_cl rfl rfl ?_
        refine gp_take 5 #[true, true, true, true, true, true, false, false, false, false] hqp_ rfl (by kernel_rfl) (yv_load tab_ok c_gok rfl rfl c_imp c_mem (fun _ => c_lds)) c_cl rfl rfl ?_
        refine gp_take 6 #[true, true, true, true, true, true, true, false, false, false] hqp_ rfl (by kernel_rfl) (((yv_lookup (c := false) (k := y) (z0 := nilS) key_cell tab_ok zero_cells c_gok rfl rfl rfl rfl c_imp c_imp hmA c_mem).cast (v' := .slice py (aft l y).length cy) (by rw [← hvy]; rfl))) c_cl rfl rfl ?_
        refine gp_take 7 #[true, true, true, true, true, true, true, true, false, false] hqp_ rfl (by kernel_rfl) (yv_load tab_ok c_gok rfl rfl c_imp c_mem (fun _ => c_lds)) c_cl rfl rfl ?_
        refine gp_skipG 8 #[true, true, true, true, true, true, true, true, true, false] (Value.bool false) rfl (by kernel_rfl) rfl rfl rfl c_gok c_cl ?_
        refine gp_take 9 #[true, true, true, true, true, true, true, true, true, true] hqp_ rfl (by kernel_rfl) (yv_and c_gok rfl rfl rfl c_imp c_imp2) c_cl rfl rfl ?_
        refine gp_done (by kernel_rfl) ?_; clear hqp_
        repeat' first
          | (refine gl_gate ?_; first
            | refine gl_nil ?_
            | (refine gl_add0 ?_; refine gl_yv (yv_add tab_ok (gok_none rfl) rfl rfl rfl rfl (fun _ => allT_of rfl) (by intro _; omega)) rfl rfl ?_)
            | (refine gl_any0 ?_; refine gl_pure tab_ok rfl rfl rfl rfl rfl rfl ?_))
          | (refine gc_gate ?_; first
            | refine gc_region ?_
            | refine gc_false rfl ?_
            | refine gc_skip ?_)
          | (refine ge_gate ?_; first
            | ((with_reducible refine ge_gT ?_); first | with_reducible refine ge_then ?_ | with_reducible refine ge_then_exit ?_ | with_reducible refine ge_then_ret ?_)
            | ((with_reducible refine ge_gK ?_); first | with_reducible refine ge_block ?_ | refine ge_block_exit ?_ | refine ge_block_pass rfl ?_ | with_reducible refine ge_block_ret ?_))
        refine ge_dropK (List.Sublist.cons _ (List.Sublist.refl _)) ?_
        exact ge_round ⟨j + 1, m3, es3, k3, p3, c3, sp3⟩ ⟨by dsimp only; omega, hm3, by dsimp only; rw [e3]; exact hl3, by dsimp only; rw [e3]; exact ho3⟩ (by show (aft l c).length - (j + 1) < (aft l c).length - j; omega) c_frs (by dsimp only; rw [e3]; exact List.Sublist.refl _)
      · refine gp_start [] #[false, false, false, false, false, false, false, false, false, false] mixed rfl rfl c_qp ?_; intro hqp_
        refine gp_take 0 #[true, false, false, false, false, false, false, false, false, false] hqp_ rfl (by kernel_rfl) (yv_load tab_ok c_gok rfl rfl c_imp c_mem (fun _ => c_lds)) c_cl rfl rfl ?_
        refine gp_take 1 #[true, true, false, false, false, false, false, false, false, false] hqp_ rfl (by kernel_rfl) (yv_load tab_ok c_gok rfl rfl c_imp c_mem (fun _ => c_lds)) c_cl rfl rfl ?_
        refine gp_take 2 #[true, true, true, false, false, false, false, false, false, false] hqp_ rfl (by kernel_rfl) (((yv_neS tab_ok eqs_ok c_gok rfl rfl rfl rfl c_allT rfl rfl rfl).cast (v' := .bool true) (by simp only [bytes_beq, cell_beq]; simp [hyc]))) c_cl rfl rfl ?_
        refine gp_take 3 #[true, true, true, true, false, false, false, false, false, false] hqp_ rfl (by kernel_rfl) (yv_pure tab_ok c_gok rfl rfl c_allT) c_cl rfl rfl ?_
        refine gp_take 4 #[true, true, true, true, true, false, false, false, false, false] hqp_ rfl (by kernel_rfl) (yv_pure tab_ok c_gok rfl rfl c_allT) c_cl rfl rfl ?_
        refine gp_take 5 #[true, true, true, true, true, true, false, false, false, false] hqp_ rfl (by kernel_rfl) (yv_load tab_ok c_gok rfl rfl c_imp c_mem (fun _ => c_lds)) c_cl rfl rfl ?_
        refine gp_take 6 #[true, true, true, true, true, true, true, false, false, false] hqp_ rfl (by kernel_rfl) (((yv_lookup (c := false) (k := y) (z0 := nilS) key_cell tab_ok zero_cells c_gok rfl rfl rfl rfl c_imp c_imp hmA c_mem).cast (v' := .slice py (aft l y).length cy) (by rw [← hvy]; rfl))) c_cl rfl rfl ?_
        refine gp_take 7 #[true, true, true, true, true, true, true, true, false, false] hqp_ rfl (by kernel_rfl) (yv_load tab_ok c_gok rfl rfl c_imp c_mem (fun _ => c_lds)) c_cl rfl rfl ?_
        refine gp_evG 8 #[true, true, true, true, true, true, true, true, true, false] rfl (by kernel_rfl) rfl rfl rfl c_gok (ev_callq rfl rfl ent169 rfl rfl rfl (fun W hW => ct_ContD W l y c py cy (hzy.at' hW c_kin) hl) ⟨c_cl, ?_⟩)
        refine gp_take 9 #[true, true, true, true, true, true, true, true, true, true] hqp_ rfl (by kernel_rfl) (yv_and c_gok rfl rfl rfl c_imp c_imp2) c_cl rfl rfl ?_
        refine gp_done (by kernel_rfl) ?_; clear hqp_
        repeat' first
          | (refine ge_gate ?_; first
            | ((with_reducible refine ge_gT ?_); first | with_reducible refine ge_then ?_ | with_reducible refine ge_then_exit ?_ | with_reducible refine ge_then_ret ?_))
        (refine gc_cond rfl ?_ ?_ <;> intro h_ <;> have hd_ := h_ <;> (try simp only [bytes_beq, cell_beq, val_beq, stamp_beq, decide_eq_true_eq, decide_eq_false_iff_not, Bool.and_eq_true, Bool.or_eq_true, Bool.or_eq_false_iff, Bool.not_eq_true', Bool.not_eq_false', Bool.not_true, Bool.not_false, Bool.false_or, Bool.true_and, Bool.and_true, Bool.or_false, beq_iff_eq, bne_iff_ne, beq_eq_false_iff_ne, bne_eq_false_iff_eq, ne_eq, Bool.false_eq_true, reduceCtorEq] at hd_) <;> (try (exfalso; omega)))
        · have e3 := hyes ⟨hyc, hd_⟩
          have e4 : cat Cell.l (knL l c (j + 1)) = cat Cell.l (knL l c j) ++ y.l := by rw [e3, cat_snoc]
          have e5 : (knL l c (j + 1)).length = (knL l c j).length + 1 := by rw [e3, List.length_append]; rfl
          repeat' first
            | (refine gc_gate ?_; first
              | refine gc_seq ?_)
          refine gp_start [10] #[false, false, false, false, false, false, false, false, false, false, false] mixed rfl rfl c_qp ?_; intro hqp_
          refine gp_take 0 #[true, false, false, false, false, false, false, false, false, false, false] hqp_ rfl (by kernel_rfl) (yv_pure tab_ok c_gok rfl rfl c_allT) c_cl rfl rfl ?_
          refine gp_take 1 #[true, true, false, false, false, false, false, false, false, false, false] hqp_ rfl (by kernel_rfl) (yv_pure tab_ok c_gok rfl rfl c_allT) c_cl rfl rfl ?_
          refine gp_take 2 #[true, true, true, false, false, false, false, false, false, false, false] hqp_ rfl (by kernel_rfl) (yv_pure tab_ok c_gok rfl rfl c_allT) c_cl rfl rfl ?_
          refine gp_take 3 #[true, true, true, true, false, false, false, false, false, false, false] hqp_ rfl (by kernel_rfl) (yv_load tab_ok c_gok rfl rfl c_imp c_mem (fun _ => c_lds)) c_cl rfl rfl ?_
          refine gp_take 4 #[true, true, true, true, true, false, false, false, false, false, false] hqp_ rfl (by kernel_rfl) (yv_load tab_ok c_gok rfl rfl c_imp c_mem (fun _ => c_lds)) c_cl rfl rfl ?_
          refine gp_take 5 #[true, true, true, true, true, true, false, false, false, false, false] hqp_ rfl (by kernel_rfl) (yv_pure tab_ok c_gok rfl rfl c_allT) c_cl rfl rfl ?_
          refine gp_take 6 #[true, true, true, true, true, true, true, false, false, false, false] hqp_ rfl (by kernel_rfl) (yv_pure tab_ok c_gok rfl rfl c_allT) c_cl rfl rfl ?_
          refine gp_take 7 #[true, true, true, true, true, true, true, true, false, false, false] hqp_ rfl (by kernel_rfl) (yv_pure tab_ok c_gok rfl rfl c_allT) c_cl rfl rfl ?_
          refine gp_take 8 #[true, true, true, true, true, true, true, true, true, false, false] hqp_ rfl (by kernel_rfl) (yv_load tab_ok c_gok rfl rfl c_imp c_mem (fun _ => c_lds)) c_cl rfl rfl ?_
          refine gp_take 9 #[true, true, true, true, true, true, true, true, true, true, false] hqp_ rfl (by kernel_rfl) (yv_pure tab_ok c_gok rfl rfl c_allT) c_cl rfl rfl ?_
          refine gp_last0 10 #[true, true, true, true, true, true, true, true, true, true, true] rfl (by kernel_rfl) (by simp) rfl (ev_mapUpdate (kf := kCell) (vf := vN) (k := y) (u := (s.ks.length : Int)) key_cell tab_ok rfl rfl rfl rfl rfl rfl hm3 c_mem (fun es4 clock4 hm4 => ⟨_, c_ku, ?_⟩))
          refine gp_done (by kernel_rfl) ?_; clear hqp_
          repeat' first
            | (refine gl_gate ?_; first
              | refine gl_nil ?_
              | (refine gl_load0 ?_; refine gl_yv (yv_load tab_ok (gok_none rfl) rfl rfl (fun _ => rfl) c_mem (fun _ => c_lds)) rfl rfl ?_)
              | (refine gl_add0 ?_; refine gl_yv (yv_add tab_ok (gok_none rfl) rfl rfl rfl rfl (fun _ => allT_of rfl) (by intro _; omega)) rfl rfl ?_)
              | (refine gl_app0 ?_; (refine gl_ev (ev_append tab_ok rfl rfl rfl rfl rfl rfl rfl rfl c_oa (ho3) (c_src) c_lim c_lim ?_) rfl rfl; intro p_ c_ sp_ hw_))
              | (refine gl_bld0 ?_; (refine gl_ev (ev_buildSlice tab_ok rfl rfl rfl rfl rfl rfl rfl rfl rfl rfl ?_) rfl rfl; intro g_ hg_))
              | (refine gl_sto0 ?_; refine gl_store tab_ok rfl rfl rfl rfl rfl rfl rfl c_one rfl c_ku ?_)
              | (refine gl_any0 ?_; refine gl_pure tab_ok rfl rfl rfl rfl rfl rfl ?_))
            | (refine gc_gate ?_; first
              | refine gc_region ?_)
            | (refine ge_gate ?_; first
              | ((with_reducible refine ge_gT ?_); first | with_reducible refine ge_then ?_ | with_reducible refine ge_then_exit ?_ | with_reducible refine ge_then_ret ?_)
              | ((with_reducible refine ge_gK ?_); first | with_reducible refine ge_block ?_ | refine ge_block_exit ?_ | refine ge_block_pass rfl ?_ | with_reducible refine ge_block_ret ?_))
          refine ge_sq ((g9, true, .cells [.slice (p_.map ad) ((knL l c j).length + 1) c_, .bool (rndD l c)].toArray 151 (0, 0)) :: (ow p_ true (cat Cell.l (knL l c j) ++ y.l ++ sp_) 25 ++ ((go, true, .cells [.pointer (some (ad g)), .map (some gm), .slice (s.q.map ad) s.ks.length s.c, .slice none 0 0].toArray 217 (0, 0)) :: (gm, true, .map es4 clock4) :: (gA, true, .map eA kA) :: (g6, true, .cells c.l.toArray 25 (0, 0)) :: (ow p2 true (cat Cell.l (dC l) ++ sp2) 25 ++ (ow s.q true (cat KP.l s.ks ++ s.sp) 151 ++ (K1 ++ (Kb ++ s.Ka))))))) c_sq ?_
          refine ge_round ⟨j + 1, mset m3 y (s.ks.length : Int), es4, clock4, p_, c_, sp_⟩ ⟨by dsimp only; omega, hm4, fun z => ?_, by dsimp only; rw [e4, e5]; exact hw_⟩ (by show (aft l c).length - (j + 1) < (aft l c).length - j; omega) c_frs (by dsimp only; rw [e4, e5]; exact List.Sublist.refl _)
          dsimp only
          rw [lkM_mset, hl3, e3]
          by_cases hyz : y = z
          · rw [if_pos hyz, if_pos (List.mem_append_right _ (List.mem_singleton.2 hyz.symm))]
          · rw [if_neg hyz]
            by_cases hz2 : z ∈ knL l c j
            · rw [if_pos hz2, if_pos (List.mem_append_left _ hz2)]
            · rw [if_neg hz2, if_neg (fun h => (List.mem_append.1 h).elim hz2 fun h2 => hyz (List.mem_singleton.1 h2).symm)]
        · have e3 := hno fun h => hd_ h.2
          repeat' first
            | (refine gl_gate ?_; first
              | refine gl_nil ?_
              | (refine gl_add0 ?_; refine gl_yv (yv_add tab_ok (gok_none rfl) rfl rfl rfl rfl (fun _ => allT_of rfl) (by intro _; omega)) rfl rfl ?_)
              | (refine gl_any0 ?_; refine gl_pure tab_ok rfl rfl rfl rfl rfl rfl ?_))
            | (refine gc_gate ?_; first
              | refine gc_region ?_
              | refine gc_skip ?_)
            | (refine ge_gate ?_; first
              | ((with_reducible refine ge_gT ?_); first | with_reducible refine ge_then ?_ | with_reducible refine ge_then_exit ?_ | with_reducible refine ge_then_ret ?_)
              | ((with_reducible refine ge_gK ?_); first | with_reducible refine ge_block ?_ | refine ge_block_exit ?_ | refine ge_block_pass rfl ?_ | with_reducible refine ge_block_ret ?_))
          refine ge_dropK (List.Sublist.cons _ (List.Sublist.refl _)) ?_
          exact ge_round ⟨j + 1, m3, es3, k3, p3, c3, sp3⟩ ⟨by dsimp only; omega, hm3, by dsimp only; rw [e3]; exact hl3, by dsimp only; rw [e3]; exact ho3⟩ (by show (aft l c).length - (j + 1) < (aft l c).length - j; omega) c_frs (by dsimp only; rw [e3]; exact List.Sublist.refl _)
    · have hj2 : knL l c j = clsD l c := by rw [show j = (aft l c).length by omega]; exact knL_all hcD hf
      rw [hj2] at hl3 ho3 hkl ⊢
      repeat' first
        | (refine gc_gate ?_; first
          | refine gc_exit ?_)
        | (refine ge_gate ?_; first
          | ((with_reducible refine ge_gT ?_); first | with_reducible refine ge_then ?_ | with_reducible refine ge_then_exit ?_ | with_reducible refine ge_then_ret ?_)
          | ((with_reducible refine ge_gK ?_); first | with_reducible refine ge_block ?_ | refine ge_block_exit ?_ | refine ge_block_pass rfl ?_ | with_reducible refine ge_block_ret ?_))
      refine gp_startC (St w M [(g9, true, .cells [.slice (p3.map ad) (clsD l c).length c3, .bool (rndD l c)].toArray 151 (0, 0)), (go, true, .cells [.pointer (some (ad g)), .map (some gm), .slice (s.q.map ad) s.ks.length s.c, .slice none 0 0].toArray 217 (0, 0))]) (by intro W_ h_; exact h_.drop (by repeat first | exact List.nil_sublist _ | apply List.Sublist.cons_cons | apply List.Sublist.cons | apply List.sublist_append_of_sublist_right)) [10] #[false, false, false, false, false, false, false, false, false, false, false] mixed rfl rfl c_qp ?_; intro hqp_
      refine gp_take 0 #[true, false, false, false, false, false, false, false, false, false, false] hqp_ rfl (by kernel_rfl) (yv_pure tab_ok c_gok rfl rfl c_allT) (by intro W_ h_; exact h_.drop (by repeat first | exact List.nil_sublist _ | apply List.Sublist.cons_cons | apply List.Sublist.cons | apply List.sublist_append_of_sublist_right)) rfl rfl ?_
      refine gp_take 1 #[true, true, false, false, false, false, false, false, false, false, false] hqp_ rfl (by kernel_rfl) (yv_pure tab_ok c_gok rfl rfl c_allT) (by intro W_ h_; exact h_.drop (by repeat first | exact List.nil_sublist _ | apply List.Sublist.cons_cons | apply List.Sublist.cons | apply List.sublist_append_of_sublist_right)) rfl rfl ?_
      refine gp_take 2 #[true, true, true, false, false, false, false, false, false, false, false] hqp_ rfl (by kernel_rfl) (yv_pure tab_ok c_gok rfl rfl c_allT) (by intro W_ h_; exact h_.drop (by repeat first | exact List.nil_sublist _ | apply List.Sublist.cons_cons | apply List.Sublist.cons | apply List.sublist_append_of_sublist_right)) rfl rfl ?_
      refine gp_take 3 #[true, true, true, true, false, false, false, false, false, false, false] hqp_ rfl (by kernel_rfl) (yv_pure tab_ok c_gok rfl rfl c_allT) (by intro W_ h_; exact h_.drop (by repeat first | exact List.nil_sublist _ | apply List.Sublist.cons_cons | apply List.Sublist.cons | apply List.sublist_append_of_sublist_right)) rfl rfl ?_
      refine gp_take 4 #[true, true, true, true, true, false, false, false, false, false, false] hqp_ rfl (by kernel_rfl) (yv_load tab_ok c_gok rfl rfl c_imp c_mem (fun _ => c_lds)) (by intro W_ h_; exact h_.drop (by repeat first | exact List.nil_sublist _ | apply List.Sublist.cons_cons | apply List.Sublist.cons | apply List.sublist_append_of_sublist_right)) rfl rfl ?_
      refine gp_take 5 #[true, true, true, true, true, true, false, false, false, false, false] hqp_ rfl (by kernel_rfl) (yv_load tab_ok c_gok rfl rfl c_imp c_mem (fun _ => c_lds)) (by intro W_ h_; exact h_.drop (by repeat first | exact List.nil_sublist _ | apply List.Sublist.cons_cons | apply List.Sublist.cons | apply List.sublist_append_of_sublist_right)) rfl rfl ?_
      (refine gp_ev 6 #[true, true, true, true, true, true, true, false, false, false, false] rfl (by kernel_rfl) rfl rfl rfl (ev_buildSlice tab_ok rfl rfl rfl rfl rfl rfl rfl rfl rfl rfl ?_); intro g_ hg_; refine ⟨(by intro W_ h_; exact h_.drop (by repeat first | exact List.nil_sublist _ | apply List.Sublist.cons_cons | apply List.Sublist.cons | apply List.sublist_append_of_sublist_right)), ?_⟩)
      (refine gp_ev 7 #[true, true, true, true, true, true, true, true, false, false, false] rfl (by kernel_rfl) rfl rfl rfl (ev_append tab_ok rfl rfl rfl rfl rfl rfl rfl rfl c_oa hs.ow c_src c_lim c_lim ?_); intro q4 c4 sp4 hw4; refine ⟨(by intro W_ h_; exact h_.drop (by repeat first | exact List.nil_sublist _ | apply List.Sublist.cons_cons | apply List.Sublist.cons | apply List.sublist_append_of_sublist_right)), ?_⟩)
      refine gp_take 8 #[true, true, true, true, true, true, true, true, true, false, false] hqp_ rfl (by kernel_rfl) (yv_pure tab_ok c_gok rfl rfl c_allT) (by intro W_ h_; exact h_.drop (by repeat first | exact List.nil_sublist _ | apply List.Sublist.cons_cons | apply List.Sublist.cons | apply List.sublist_append_of_sublist_right)) rfl rfl ?_
      refine gp_take 9 #[true, true, true, true, true, true, true, true, true, true, false] hqp_ rfl (by kernel_rfl) (yv_pure tab_ok c_gok rfl rfl c_allT) (by intro W_ h_; exact h_.drop (by repeat first | exact List.nil_sublist _ | apply List.Sublist.cons_cons | apply List.Sublist.cons | apply List.sublist_append_of_sublist_right)) rfl rfl ?_
      refine gp_last0 10 #[true, true, true, true, true, true, true, true, true, true, true] rfl (by kernel_rfl) (by simp) rfl (ev_store tab_ok rfl rfl rfl rfl rfl rfl c_one rfl c_ku ?_)
      refine gp_done (by kernel_rfl) ?_; clear hqp_
      have e4 : cat KP.l (s.ks ++ [⟨p3.map ad, knD l c, c3⟩]) = cat KP.l s.ks ++ [.slice (p3.map ad) (clsD l c).length c3, .bool (rndD l c)] := cat_snoc ..
      have e5 : (s.ks ++ [(⟨p3.map ad, knD l c, c3⟩ : KP)]).length = s.ks.length + 1 := by rw [List.length_append]; rfl
      have hgl : ∀ j, j < s.ks.length → (s.ks ++ [(⟨p3.map ad, knD l c, c3⟩ : KP)]).getD j default = s.ks.getD j default := fun j hj => by simp [List.getD, List.getElem?_append_left hj]
      have hgi : (s.ks ++ [(⟨p3.map ad, knD l c, c3⟩ : KP)]).getD s.ks.length default = ⟨p3.map ad, knD l c, c3⟩ := by simp [List.getD]
      repeat' first
        | (refine gl_gate ?_; first
          | refine gl_nil ?_
          | (refine gl_add0 ?_; refine gl_yv (yv_add tab_ok (gok_none rfl) rfl rfl rfl rfl (fun _ => allT_of rfl) (by intro _; omega)) rfl rfl ?_)
          | (refine gl_any0 ?_; refine gl_pure tab_ok rfl rfl rfl rfl rfl rfl ?_))
        | (refine gc_gate ?_; first
          | refine gc_region ?_)
        | (refine ge_gate ?_; first
          | ((with_reducible refine ge_gT ?_); first | with_reducible refine ge_then ?_ | with_reducible refine ge_then_exit ?_ | with_reducible refine ge_then_ret ?_)
          | ((with_reducible refine ge_gK ?_); first | with_reducible refine ge_block ?_ | refine ge_block_exit ?_ | refine ge_block_pass rfl ?_ | with_reducible refine ge_block_ret ?_))
      refine ge_sq ((go, true, .cells [.pointer (some (ad g)), .map (some gm), .slice (q4.map ad) (s.ks.length + 1) c4, .slice none 0 0].toArray 217 (0, 0)) :: (gm, true, .map es3 k3) :: (gA, true, .map eA kA) :: (ow p2 true (cat Cell.l (dC l) ++ sp2) 25 ++ (ow q4 true (cat KP.l s.ks ++ [.slice (p3.map ad) (clsD l c).length c3, .bool (rndD l c)] ++ sp4) 151 ++ (K1 ++ (Kb ++ (ow p3 true (cat Cell.l (clsD l c) ++ sp3) 25 ++ s.Ka)))))) c_sq ?_
      refine ge_round (i + 1, ⟨m3, es3, k3, q4, c4, s.ks ++ [⟨p3.map ad, knD l c, c3⟩], sp4, ow p3 true (cat Cell.l (clsD l c) ++ sp3) 25 ++ s.Ka⟩) ⟨by dsimp only; omega, ⟨hm3, fun y => ?_, ?_, ?_, fun j hj => ?_, fun e he => ?_⟩⟩ (by show (dC l).length - (i + 1) < (dC l).length - i; omega) c_frs (by dsimp only; rw [e4, e5]; exact List.Sublist.refl _)
      · dsimp only
        rw [hsucc, ofI_next hiN hcc hf, hl3, hnl]
        split <;> rfl
      · dsimp only
        rw [hsucc, List.map_append, hs.kn]
        rfl
      · dsimp only
        rw [e4, e5]
        exact hw4
      · dsimp only at hj ⊢
        rw [e5] at hj
        rcases Nat.lt_or_ge j s.ks.length with h | h
        · rw [hgl j h]; exact (hs.rows j h).right
        · obtain rfl : j = s.ks.length := by omega
          rw [hgi]
          exact (fz_cat (e := 25) len_cell rfl ho3).left
      · rcases List.mem_append.1 he with h | h
        · exact ow_wr e h
        · exact hs.wr e h
  · repeat' first
      | (refine gc_gate ?_; first
        | refine gc_exit ?_)
      | (refine ge_gate ?_; first
        | ((with_reducible refine ge_gT ?_); first | with_reducible refine ge_then ?_ | with_reducible refine ge_then_exit ?_ | with_reducible refine ge_then_ret ?_)
        | ((with_reducible refine ge_gK ?_); first | with_reducible refine ge_block ?_ | refine ge_block_exit ?_ | refine ge_block_pass rfl ?_ | with_reducible refine ge_block_ret ?_)
        | ((with_reducible refine ge_gB ?_); first | refine ge_ret1 tab_ok rfl c_rvt ?_ | refine ge_end1 tab_ok rfl c_rvt ?_ | refine ge_ret2 tab_ok rfl c_rvt c_rvt ?_ | refine ge_ret_none rfl ?_ | refine ge_end_none rfl ?_))
    intro W hW
    have hiN : i = (dC l).length := by omega
    subst hiN
    rw [allP_all] at hs
    refine ⟨⟨s, hs.wr⟩, rfl, hs, ?_⟩
    unfold oK
    exact Sq.st c_sq hW
end Go.Proofs.Ytkgjfcjciigcgaa

/-
  knots.order.ready: may a knot be told?
-/
namespace Go.Proofs.Ytkgjfcjciigcgaa
open Go.Proofs.Ytkgjfcjciigcgaa.Sl Go.RowKit
set_option linter.unusedVariables false
set_option linter.unusedSimpArgs false
set_option linter.unusedSectionVars false
set_option maxRecDepth 100000

structure OrdP (W : World) (l : List En) (g go gm : Nat) (m : List (Cell × Int)) (es : Array MapEntry) (ck : Nat) (q : Option Addr) (c : Nat) (ks : List KP) (pt : Option Addr) (ct : Nat) (td : List Bool) : Prop where
  hb : W.heap[go]? = some (.cells [.pointer (some (ad g)), .map (some gm), .slice q ks.length c, .slice pt td.length ct].toArray 217 (0, 0))
  d : DpP W l g
  hm : W.heap[gm]? = some (.map es ck)
  mp : Mp kCell vN m es ck
  lk : ∀ y, lkM m y = (ofI (allD l) y).map fun n => (n : Int)
  kn : ks.map KP.kn = allD l
  sl : SlA W 2 q ks.length (fun j => (ks.getD j default).l)
  rows : ∀ j, j < ks.length → SlA W 3 (ks.getD j default).p (ks.getD j default).kn.cells.length (fun i => ((ks.getD j default).kn.cells.getD i default).l)
  ts : SlA W 1 pt td.length (fun j => [.bool (td.getD j default)])
theorem ks_at {l : List En} {ks : List KP} (h : ks.map KP.kn = allD l) {n : Nat} (hn : n < ks.length) : (ks.getD n default).kn = (allD l).getD n default := by
  rw [← h]
  simp [List.getD, hn]
theorem ct_ready {l : List En} {g go gm : Nat} {m : List (Cell × Int)} {es : Array MapEntry} {ck : Nat} {q : Option Addr} {c : Nat} {ks : List KP} {pt : Option Addr} {ct : Nat} {td : List Bool} {w : World} (h : OrdP w l g go gm m es ck q c ks pt ct td) (hl : l.length ≤ 1000) (out : List Kn) (ho : ∀ k ∈ out, k ∈ allD l) (htd : td = toldB l out) (n : Nat) (hn : n < ks.length) :
    Calls Try.prog 184 #[.pointer (some (ad go)), .int .i64 (n : Int)] w fun e w' => e = .returned (.bool (rdyD l out ((allD l).getD n default))) ∧ Bl w w' := by
  have hsl := h.sl
  have hts := h.ts
  have hrow := h.rows n hn
  have hkn := ks_at h.kn hn
  have hkl : ks.length = (allD l).length := by rw [← h.kn, List.length_map]
  have htl : td.length = (allD l).length := by rw [htd]; unfold toldB; rw [List.length_map]
  have hal := allD_len l
  have hne : gm ≠ go := fun e => by have h1 := h.hm; rw [e, h.hb] at h1; cases h1
  have hkA : (allD l).getD n default ∈ allD l := allD_at (by omega)
  have hCl : (ks.getD n default).kn.cells.length ≤ l.length := by
    rw [hkn]
    refine Nat.le_trans ?_ (dC_len l)
    obtain ⟨f, h1, h2, h3⟩ := allD_mem.1 hkA
    rw [h3]
    exact (cLt_nodup (clsD_lt l f)).length_le_of_subset fun x hx => clsD_sub hx
  refine enter (args := [_, _]) (M := []) (K := []) Try.func184 rfl Try.ntmps184 rfl (St.refl _ _) ?_
  refine gc_old h.hb (by simp) (by simp) ?_
  refine gc_old h.hm (by simp) (by simp [hne]) ?_
  repeat' first
    | (refine gl_gate ?_; first
      | refine gl_nil ?_
      | (refine gl_load0 ?_; refine gl_yv (yv_load tab_ok (gok_none rfl) rfl rfl (fun _ => rfl) c_mem (fun _ => c_lds)) rfl rfl ?_)
      | (refine gl_idx0 ?_; refine gl_yv (yv_idxA tab_ok hsl (gok_none rfl) rfl rfl rfl rfl rfl rfl (fun _ => rfl) (fun _ => rfl) c_bnd) rfl rfl ?_)
      | (refine gl_load0 ?_; refine gl_yv (yv_ldA tab_ok hsl c_nm (gok_none rfl) rfl rfl (fun _ => rfl) c_bnd (fun _ => c_lds)) rfl rfl ?_)
      | (refine gl_any0 ?_; refine gl_pure tab_ok rfl rfl rfl rfl rfl rfl ?_))
    | (refine gc_gate ?_; first
      | refine gc_seq ?_
      | refine gc_region ?_
      | refine gc_block ?_)
    | (refine ge_gate ?_; first
      | ((with_reducible refine ge_gT ?_); first | with_reducible refine ge_then ?_ | with_reducible refine ge_then_exit ?_ | with_reducible refine ge_then_ret ?_))
  refine gc_loop (α := Nat) (fun i => [(0, true, .pointer (some (ad go))), (1, true, .int .i64 (n : Int)), (17, true, .slice (ks.getD n default).p (ks.getD n default).kn.cells.length (ks.getD n default).c), (18, true, .int .i64 (ks.getD n default).kn.cells.length), (19, true, .int .i64 (i : Int))])
    (fun _ => [(gm, false, .map es ck), (go, false, .cells [.pointer (some (ad g)), .map (some gm), .slice q ks.length c, .slice pt td.length ct].toArray 217 (0, 0))]) (fun i => i ≤ (ks.getD n default).kn.cells.length ∧ ∀ x ∈ (ks.getD n default).kn.cells.take i, ∀ r ∈ rdD l x, (∃ k ∈ out, r ∈ k.cells) ∨ r ∈ ((allD l).getD n default).cells) (fun i => (ks.getD n default).kn.cells.length - i) 0 c_frs (List.Sublist.refl _) ⟨Nat.zero_le _, fun x hx => absurd hx (by simp)⟩ ?_
  rintro i ⟨hi, he⟩
  repeat' first
    | (refine gl_gate ?_; first
      | refine gl_nil ?_
      | (refine gl_any0 ?_; refine gl_pure tab_ok rfl rfl rfl rfl rfl rfl ?_))
    | (refine gc_gate ?_; first
      | refine gc_seq ?_
      | refine gc_region ?_)
    | (refine ge_gate ?_; first
      | ((with_reducible refine ge_gT ?_); first | with_reducible refine ge_then ?_ | with_reducible refine ge_then_exit ?_ | with_reducible refine ge_then_ret ?_))
  (refine gc_cond rfl ?_ ?_ <;> intro h_ <;> have hd_ := h_ <;> (try simp only [bytes_beq, cell_beq, val_beq, stamp_beq, decide_eq_true_eq, decide_eq_false_iff_not, Bool.and_eq_true, Bool.or_eq_true, Bool.or_eq_false_iff, Bool.not_eq_true', Bool.not_eq_false', Bool.not_true, Bool.not_false, Bool.false_or, Bool.true_and, Bool.and_true, Bool.or_false, beq_iff_eq, bne_iff_ne, beq_eq_false_iff_ne, bne_eq_false_iff_eq, ne_eq, Bool.false_eq_true, reduceCtorEq] at hd_) <;> (try (exfalso; omega)))
  · have hil : i < (ks.getD n default).kn.cells.length := by omega
    have hxC := getD_mem _ i hil
    have hstep := take_succD (ks.getD n default).kn.cells i hil
    generalize hxx : (ks.getD n default).kn.cells.getD i default = x at *
    have hrl := rdD_len l x
    repeat' first
      | (refine gl_idx0 ?_; refine gl_yv (yv_idxA tab_ok hrow (gok_none rfl) rfl rfl rfl rfl rfl rfl (fun _ => rfl) (fun _ => rfl) c_bnd) rfl rfl ?_)
      | (refine gl_load0 ?_; refine gl_yv (yv_ldA0 (v := .agg x.l.toArray) (i := i) tab_ok hrow c_nm (gok_none rfl) rfl rfl (fun _ => rfl) c_bnd (fun _ => by rw [hxx]; exact lds_agg rfl rfl rfl)) rfl rfl ?_)
      | (refine gl_gate ?_; first
        | refine gl_nil ?_
        | (refine gl_alc0 ?_; (refine gl_alloc tab_ok rfl rfl rfl rfl rfl ?_; intro g_ hg_))
        | (refine gl_sto0 ?_; refine gl_store tab_ok rfl rfl rfl rfl rfl rfl rfl c_one rfl c_ku ?_))
      | (refine gc_gate ?_; first
        | refine gc_seq ?_
        | refine gc_region ?_
        | refine gc_block ?_
        | refine gc_skip ?_)
      | (refine ge_gate ?_; first
        | ((with_reducible refine ge_gT ?_); first | with_reducible refine ge_then ?_ | with_reducible refine ge_then_exit ?_ | with_reducible refine ge_then_ret ?_))
    revert g_
    intro g6 hg6
    refine gp_start [] #[false, false, false, false, false, false, false, false] mixed rfl rfl c_qp ?_; intro hqp_
    refine gp_take 0 #[true, false, false, false, false, false, false, false] hqp_ rfl (by kernel_rfl) (yv_pure tab_ok c_gok rfl rfl c_allT) c_cl rfl rfl ?_
    refine gp_take 1 #[true, true, false, false, false, false, false, false] hqp_ rfl (by kernel_rfl) (yv_pure tab_ok c_gok rfl rfl c_allT) c_cl rfl rfl ?_
    refine gp_take 2 #[true, true, true, false, false, false, false, false] hqp_ rfl (by kernel_rfl) (yv_pure tab_ok c_gok rfl rfl c_allT) c_cl rfl rfl ?_
    refine gp_take 3 #[true, true, true, true, false, false, false, false] hqp_ rfl (by kernel_rfl) (yv_load tab_ok c_gok rfl rfl c_imp c_mem (fun _ => c_lds)) c_cl rfl rfl ?_
    refine gp_take 4 #[true, true, true, true, true, false, false, false] hqp_ rfl (by kernel_rfl) (yv_load tab_ok c_gok rfl rfl c_imp c_mem (fun _ => c_lds)) c_cl rfl rfl ?_
    refine gp_take 7 #[true, true, true, true, true, false, false, true] hqp_ rfl (by kernel_rfl) (yv_pure tab_ok c_gok rfl rfl c_allT) c_cl rfl rfl ?_
    (refine gp_ev 5 #[true, true, true, true, true, true, false, true] rfl (by kernel_rfl) rfl rfl rfl (ev_callOw rfl rfl ent113 rfl rfl rfl (fun W hW => ct_ReadsP l g x W (h.d.st hW) hl) ?_); intro pr cr spr hwr; refine ⟨c_cl, ?_⟩)
    refine gp_take 6 #[true, true, true, true, true, true, true, true] hqp_ rfl (by kernel_rfl) (yv_pure tab_ok c_gok rfl rfl c_allT) c_cl rfl rfl ?_
    refine gp_done (by kernel_rfl) ?_; clear hqp_
    repeat' first
      | (refine gc_gate ?_; first
        | refine gc_block ?_)
      | (refine ge_gate ?_; first
        | ((with_reducible refine ge_gT ?_); first | with_reducible refine ge_then ?_ | with_reducible refine ge_then_exit ?_ | with_reducible refine ge_then_ret ?_))
    refine gc_loop (α := Nat) (fun j => [(0, true, .pointer (some (ad go))), (1, true, .int .i64 (n : Int)), (17, true, .slice (ks.getD n default).p (ks.getD n default).kn.cells.length (ks.getD n default).c), (18, true, .int .i64 (ks.getD n default).kn.cells.length), (19, true, .int .i64 (i : Int)), (28, true, .slice (pr.map ad) (rdD l x).length cr), (29, true, .int .i64 (rdD l x).length), (30, true, .int .i64 (j : Int))])
      (fun _ => ow pr true (cat Cell.l (rdD l x) ++ spr) 25 ++ [(gm, false, .map es ck), (go, false, .cells [.pointer (some (ad g)), .map (some gm), .slice q ks.length c, .slice pt td.length ct].toArray 217 (0, 0))]) (fun j => j ≤ (rdD l x).length ∧ ∀ r ∈ (rdD l x).take j, (∃ k ∈ out, r ∈ k.cells) ∨ r ∈ ((allD l).getD n default).cells) (fun j => (rdD l x).length - j) 0 c_frs (List.Sublist.append (List.Sublist.refl _) (List.Sublist.cons _ (List.Sublist.refl _))) ⟨Nat.zero_le _, fun r hr => absurd hr (by simp)⟩ ?_
    rintro j ⟨hj, hej⟩
    repeat' first
      | (refine gl_gate ?_; first
        | refine gl_nil ?_
        | (refine gl_any0 ?_; refine gl_pure tab_ok rfl rfl rfl rfl rfl rfl ?_))
      | (refine gc_gate ?_; first
        | refine gc_seq ?_
        | refine gc_region ?_)
      | (refine ge_gate ?_; first
        | ((with_reducible refine ge_gT ?_); first | with_reducible refine ge_then ?_ | with_reducible refine ge_then_exit ?_ | with_reducible refine ge_then_ret ?_))
    (refine gc_cond rfl ?_ ?_ <;> intro h_ <;> have hd_ := h_ <;> (try simp only [bytes_beq, cell_beq, val_beq, stamp_beq, decide_eq_true_eq, decide_eq_false_iff_not, Bool.and_eq_true, Bool.or_eq_true, Bool.or_eq_false_iff, Bool.not_eq_true', Bool.not_eq_false', Bool.not_true, Bool.not_false, Bool.false_or, Bool.true_and, Bool.and_true, Bool.or_false, beq_iff_eq, bne_iff_ne, beq_eq_false_iff_ne, bne_eq_false_iff_eq, ne_eq, Bool.false_eq_true, reduceCtorEq] at hd_) <;> (try (exfalso; omega)))
    · have hjl : j < (rdD l x).length := by omega
      have hrR := getD_mem _ j hjl
      have hstj := take_succD (rdD l x) j hjl
      generalize hrr : (rdD l x).getD j default = r at *
      have hrD := rdD_sub hrR
      obtain ⟨kk, hk1, hk2, hk3⟩ := ofI_all hrD
      have hok := rdyD_of ho (show n < (allD l).length by omega) hrD hk1
      have hmg : mgetD m r 0 = (kk : Int) := by rw [mgetD_lk, h.lk, hk1]; rfl
      repeat' first
        | (refine gl_idx0 ?_; refine gl_yv (yv_idxO tab_ok hwr (gok_none rfl) rfl rfl rfl rfl rfl rfl (fun _ => rfl) (fun _ => rfl) c_bnd) rfl rfl ?_)
        | (refine gl_load0 ?_; refine gl_yv (yv_ldO (v := .agg r.l.toArray) tab_ok c_oa hwr (gok_none rfl) rfl rfl (fun _ => rfl) (fun _ => by rw [← hrr]; exact lds_cat len_cell (by omega) rfl rfl rfl) c_bnd) rfl rfl ?_)
        | (refine gl_gate ?_; first
          | refine gl_nil ?_
          | (refine gl_alc0 ?_; (refine gl_alloc tab_ok rfl rfl rfl rfl rfl ?_; intro g_ hg_))
          | (refine gl_sto0 ?_; refine gl_store tab_ok rfl rfl rfl rfl rfl rfl rfl c_one rfl c_ku ?_))
        | (refine gc_gate ?_; first
          | refine gc_seq ?_
          | refine gc_region ?_
          | refine gc_block ?_
          | refine gc_skip ?_)
        | (refine ge_gate ?_; first
          | ((with_reducible refine ge_gT ?_); first | with_reducible refine ge_then ?_ | with_reducible refine ge_then_exit ?_ | with_reducible refine ge_then_ret ?_))
      refine gp_start [] #[false, false, false, false, false, false, false] mixed rfl rfl c_qp ?_; intro hqp_
      refine gp_take 0 #[true, false, false, false, false, false, false] hqp_ rfl (by kernel_rfl) (yv_pure tab_ok c_gok rfl rfl c_allT) c_cl rfl rfl ?_
      refine gp_take 1 #[true, true, false, false, false, false, false] hqp_ rfl (by kernel_rfl) (yv_pure tab_ok c_gok rfl rfl c_allT) c_cl rfl rfl ?_
      refine gp_take 2 #[true, true, true, false, false, false, false] hqp_ rfl (by kernel_rfl) (yv_pure tab_ok c_gok rfl rfl c_allT) c_cl rfl rfl ?_
      refine gp_take 3 #[true, true, true, true, false, false, false] hqp_ rfl (by kernel_rfl) (yv_load tab_ok c_gok rfl rfl c_imp c_mem (fun _ => c_lds)) c_cl rfl rfl ?_
      refine gp_take 4 #[true, true, true, true, true, false, false] hqp_ rfl (by kernel_rfl) (yv_load tab_ok c_gok rfl rfl c_imp c_mem (fun _ => c_lds)) c_cl rfl rfl ?_
      refine gp_take 5 #[true, true, true, true, true, true, false] hqp_ rfl (by kernel_rfl) (((yv_lookup (c := false) (k := r) (z0 := 0) key_cell tab_ok zero_n c_gok rfl rfl rfl rfl c_imp c_imp h.mp c_mem).cast (v' := .int .i64 (kk : Int)) (by rw [← hmg]; rfl))) c_cl rfl rfl ?_
      refine gp_take 6 #[true, true, true, true, true, true, true] hqp_ rfl (by kernel_rfl) (yv_pure tab_ok c_gok rfl rfl c_allT) c_cl rfl rfl ?_
      refine gp_done (by kernel_rfl) ?_; clear hqp_
      repeat' first
        | (refine gl_gate ?_; first
          | refine gl_nil ?_
          | (refine gl_idxG ?_; refine gl_yv (yv_idxA tab_ok hts c_gok rfl rfl rfl rfl rfl rfl c_imp c_imp c_bnd) rfl rfl ?_)
          | (refine gl_loadG ?_; refine gl_yv (yv_ldA0 tab_ok hts c_nm c_gok rfl rfl c_imp c_bnd (fun _ => c_lds)) rfl rfl ?_)
          | (refine gl_pick0 ?_; first | refine gl_yv (yv_and (gok_none rfl) rfl rfl rfl (fun _ => rfl) c_imp2) rfl rfl ?_ | refine gl_yv (yv_or (gok_none rfl) rfl rfl rfl (fun _ => rfl) c_imp2) rfl rfl ?_)
          | (refine gl_loadG ?_; refine gl_yv (yv_load tab_ok c_gok rfl rfl c_imp c_mem (fun _ => c_lds)) rfl rfl ?_)
          | (refine gl_any0 ?_; refine gl_pure tab_ok rfl rfl rfl rfl rfl rfl ?_)
          | (refine gl_anyG ?_; first | refine gl_yv (yv_pure tab_ok c_gok rfl rfl c_allT) rfl rfl ?_ | refine gl_yv (yv_indexS tab_ok c_gok rfl rfl rfl rfl c_imp c_imp (by intro hq_; (try simp only [Bool.and_eq_true, Bool.not_eq_true', Bool.not_eq_false', Bool.or_eq_false_iff, Bool.or_eq_true, decide_eq_true_eq, decide_eq_false_iff_not, Bool.true_and, Bool.and_true] at hq_); omega)) rfl rfl ?_ | refine gl_yv (yv_indexS (i := 0) tab_ok c_gok rfl rfl rfl rfl c_imp c_imp (by intro hq_; (try simp only [Bool.and_eq_true, Bool.not_eq_true', Bool.not_eq_false', Bool.or_eq_false_iff, Bool.or_eq_true, decide_eq_true_eq, decide_eq_false_iff_not, Bool.true_and, Bool.and_true] at hq_); omega)) rfl rfl ?_))
        | (refine gc_gate ?_; first
          | refine gc_seq ?_
          | refine gc_region ?_)
        | (refine ge_gate ?_; first
          | ((with_reducible refine ge_gT ?_); first | with_reducible refine ge_then ?_ | with_reducible refine ge_then_exit ?_ | with_reducible refine ge_then_ret ?_))
      have hval : (((kk : Int) != (n : Int)) && !(td.getD kk default)) = !decide (kk = n ∨ (toldB l out).getD kk default = true) := by
        rw [htd]
        by_cases h1 : kk = n
        · simp [h1]
        · have h2 : ((kk : Int) != (n : Int)) = true := by simp; omega
          rw [h2]
          simp [h1]
      rw [hval]
      by_cases hyes : (∃ k ∈ out, r ∈ k.cells) ∨ r ∈ ((allD l).getD n default).cells
      · rw [decide_eq_true (hok.1 hyes)]
        repeat' first
          | (refine gl_gate ?_; first
            | refine gl_nil ?_
            | (refine gl_add0 ?_; refine gl_yv (yv_add tab_ok (gok_none rfl) rfl rfl rfl rfl (fun _ => allT_of rfl) (by intro _; omega)) rfl rfl ?_)
            | (refine gl_any0 ?_; refine gl_pure tab_ok rfl rfl rfl rfl rfl rfl ?_))
          | (refine gc_gate ?_; first
            | refine gc_region ?_
            | refine gc_false rfl ?_
            | refine gc_skip ?_)
          | (refine ge_gate ?_; first
            | ((with_reducible refine ge_gT ?_); first | with_reducible refine ge_then ?_ | with_reducible refine ge_then_exit ?_ | with_reducible refine ge_then_ret ?_)
            | ((with_reducible refine ge_gK ?_); first | with_reducible refine ge_block ?_ | refine ge_block_exit ?_ | refine ge_block_pass rfl ?_ | with_reducible refine ge_block_ret ?_))
        refine ge_dropK (List.Sublist.cons _ (List.Sublist.refl _)) ?_
        refine ge_round (j + 1) ⟨by omega, fun r' hr' => ?_⟩ (by omega) c_frs (List.Sublist.refl _)
        rw [hstj] at hr'
        rcases List.mem_append.1 hr' with h1 | h1
        · exact hej r' h1
        · rw [List.mem_singleton.1 h1]; exact hyes
      · rw [decide_eq_false fun h1 => hyes (hok.2 h1)]
        repeat' first
          | (refine gl_gate ?_; first
            | refine gl_nil ?_
            | (refine gl_any0 ?_; refine gl_pure tab_ok rfl rfl rfl rfl rfl rfl ?_))
          | (refine gc_gate ?_; first
            | refine gc_seq ?_
            | refine gc_region ?_
            | refine gc_true rfl ?_
            | refine gc_ret ?_)
          | (refine ge_gate ?_; first
            | ((with_reducible refine ge_gT ?_); first | with_reducible refine ge_then ?_ | with_reducible refine ge_then_exit ?_ | with_reducible refine ge_then_ret ?_)
            | ((with_reducible refine ge_gK ?_); first | with_reducible refine ge_block ?_ | refine ge_block_exit ?_ | refine ge_block_pass rfl ?_ | with_reducible refine ge_block_ret ?_)
            | ((with_reducible refine ge_gB ?_); first | refine ge_ret1 tab_ok rfl c_rvt ?_ | refine ge_end1 tab_ok rfl c_rvt ?_ | refine ge_ret2 tab_ok rfl c_rvt c_rvt ?_ | refine ge_ret_none rfl ?_ | refine ge_end_none rfl ?_))
        intro W hW
        refine ⟨?_, hW.below0⟩
        have : rdyD l out ((allD l).getD n default) = false := Bool.eq_false_iff.2 fun h7 => hyes (rdyD_iff.1 h7 x (hkn ▸ hxC) r hrR)
        rw [this]
    · repeat' first
        | (refine gl_gate ?_; first
          | refine gl_nil ?_
          | (refine gl_add0 ?_; refine gl_yv (yv_add tab_ok (gok_none rfl) rfl rfl rfl rfl (fun _ => allT_of rfl) (by intro _; omega)) rfl rfl ?_)
          | (refine gl_any0 ?_; refine gl_pure tab_ok rfl rfl rfl rfl rfl rfl ?_))
        | (refine gc_gate ?_; first
          | refine gc_region ?_
          | refine gc_exit ?_)
        | (refine ge_gate ?_; first
          | ((with_reducible refine ge_gT ?_); first | with_reducible refine ge_then ?_ | with_reducible refine ge_then_exit ?_ | with_reducible refine ge_then_ret ?_)
          | ((with_reducible refine ge_gK ?_); first | with_reducible refine ge_block ?_ | refine ge_block_exit ?_ | refine ge_block_pass rfl ?_ | with_reducible refine ge_block_ret ?_))
      have hjl : j = (rdD l x).length := by omega
      rw [hjl, List.take_length] at hej
      refine ge_round (i + 1) ⟨by omega, fun x' hx' => ?_⟩ (by omega) c_frs (List.sublist_append_right _ _)
      rw [hstep] at hx'
      rcases List.mem_append.1 hx' with h1 | h1
      · exact he x' h1
      · rw [List.mem_singleton.1 h1]; exact hej
  · repeat' first
      | (refine gl_gate ?_; first
        | refine gl_nil ?_
        | (refine gl_any0 ?_; refine gl_pure tab_ok rfl rfl rfl rfl rfl rfl ?_))
      | (refine gc_gate ?_; first
        | refine gc_seq ?_
        | refine gc_region ?_
        | refine gc_exit ?_
        | refine gc_ret ?_)
      | (refine ge_gate ?_; first
        | ((with_reducible refine ge_gT ?_); first | with_reducible refine ge_then ?_ | with_reducible refine ge_then_exit ?_ | with_reducible refine ge_then_ret ?_)
        | ((with_reducible refine ge_gK ?_); first | with_reducible refine ge_block ?_ | refine ge_block_exit ?_ | refine ge_block_pass rfl ?_ | with_reducible refine ge_block_ret ?_)
        | ((with_reducible refine ge_gB ?_); first | refine ge_ret1 tab_ok rfl c_rvt ?_ | refine ge_end1 tab_ok rfl c_rvt ?_ | refine ge_ret2 tab_ok rfl c_rvt c_rvt ?_ | refine ge_ret_none rfl ?_ | refine ge_end_none rfl ?_))
    intro W hW
    refine ⟨?_, hW.below0⟩
    have hil : i = (ks.getD n default).kn.cells.length := by omega
    rw [hil, List.take_length, hkn] at he
    rw [rdyD_iff.2 he]
end Go.Proofs.Ytkgjfcjciigcgaa

/-
  knots.Order walked.
-/
namespace Go.Proofs.Ytkgjfcjciigcgaa
open Go.Proofs.Ytkgjfcjciigcgaa.Sl Go.RowKit
set_option linter.unusedVariables false
set_option linter.unusedSimpArgs false
set_option linter.unusedSectionVars false
set_option maxRecDepth 100000

theorem sq_eq {A K : Kl} (h : K = A) : Sq A K := h ▸ Sq.one Pq.fin
theorem oK_wr {g go gm : Nat} {x : SpS} : ∀ e ∈ oK g go gm x, e.2.1 = true := by
  intro e he
  unfold oK at he
  rcases List.mem_cons.1 he with rfl | he
  · rfl
  · rw [List.mem_singleton.1 he]
section
variable {P : Program} {T : Tab} {N : Nat} {F : Fl} {o : Oper} {w0 : World} {M : List Nat} {K K' Kx : Kl} {e : TypeId}
theorem ev_setV {α : Type} [Inhabited α] {f : α → List Value} {k : Nat} (hf : ∀ x, (f x).length = k) {l : List α} {y : α} (h1 : ∀ u ∈ f y, u.oneCell' = true) {p : Option Nat} {c i : Nat} {sp : List Value} {t : TypeId} {x v : Operand} {u : Value} (hu : u.cells.toList = f y) {dd : TyD} {R : Value → Kl → Prop} (hT : TabOk P T) (hg : o.guard = none) (ho : o.op = .store t x v)
    (hx : Fo F x = some (true, .pointer (some ⟨p.getD 0, i * k, none⟩))) (hy : Fo F v = some (true, u)) (ht : ty T t = some dd) (hs : dd.size = k) (hi : i < l.length) (hk : Oa K p (cat f l ++ sp) e Kx) (hw : Ow p l.length c k (cat f l) sp) (h : R undef (ow p true (cat f (l.set i y) ++ sp) e ++ Kx)) : Ev P o N w0 M F K R := by
  cases p with
  | none => have := hw.nil rfl; have := hw.le; omega
  | some g =>
    refine Ev.permK (fun W hW => hk.st hW) ?_
    have e1 : cat f l = (elems l.length (fun j => f (l.getD j default))).flatten := elemsAllC.symm
    have e2 : cat f (l.set i y) = ((elems l.length (fun j => f (l.getD j default))).set i (f y)).flatten := by
      have h3 := elemsAllC (f := f) (l := l.set i y)
      rw [← h3, List.length_set]
      congr 1
      apply List.ext_getElem?
      intro j
      unfold elems
      rw [List.getElem?_set, List.getElem?_map, List.getElem?_map, List.length_map, List.length_range]
      by_cases hj : j < l.length
      · by_cases hji : i = j
        · subst hji
          simp [hi, List.getD]
        · simp [hji, hj, List.getD, List.getElem?_set]
      · by_cases hji : i = j
        · omega
        · simp [hji, hj]
    have hp := putL_flat (k := k) (sp := sp) (i := i) (v := f y) (elems_ek' (n := l.length) (f := fun j => f (l.getD j default)) fun _ _ => hf _) (by rw [elems_length]; exact hi) (hf y)
    rw [← e1, ← e2] at hp
    exact ev_store hT hg ho hx hy ht (by rw [hu, hs]; exact hf y) (by rw [hu]; exact h1) (by rw [hu]; exact hp) Ku.head h
end
set_option maxHeartbeats 4000000 in
theorem ct_Order {S : Nat → Prop} (l : List En) (p : Option Addr) (n cap : Nat) (w : World) (hn : n = l.length) (hs : SlA w 20 p n (fun i => (l.getD i default).l)) (hR : ∀ e ∈ l, NodeR S w e.node e.p) (hc : ∀ e ∈ l, e.node.count ≤ 400) (hl : n ≤ 1000) : Calls Try.prog 130 #[.slice p n cap] w
    (RetM w [] (fun x : OrX => .slice (x.1.q.map ad) x.1.ks.length x.1.c) (fun x => ow x.1.q true (cat KP.l x.1.ks ++ x.1.sp) 151 ++ x.1.Ka) (fun x => OrOk (orD l) x.1)) := by
  refine enter (args := [_]) (M := []) (K := []) Try.func130 rfl Try.ntmps130 rfl (St.refl _ _) ?_
  repeat' first
    | (refine gl_gate ?_; first
      | refine gl_nil ?_
      | (refine gl_any0 ?_; refine gl_pure tab_ok rfl rfl rfl rfl rfl rfl ?_))
    | (refine gc_gate ?_; first
      | refine gc_seq ?_
      | refine gc_region ?_)
    | (refine ge_gate ?_; first
      | ((with_reducible refine ge_gT ?_); first | with_reducible refine ge_then ?_ | with_reducible refine ge_then_exit ?_ | with_reducible refine ge_then_ret ?_))
  refine gl_ev (ev_callM (M' := []) (K2 := _) rfl rfl ent109 rfl rfl rfl (fun W hW => ct_New (S := S) l p n cap W hn (hs.st hW) (fun e he => (hR e he).st hW) hc hl) (by simp) (fun x => x.2) (List.Sublist.refl _) (by simp) ?_) rfl rfl
  rintro ⟨⟨g, K1⟩, hK1⟩ hf1
  dsimp only at hf1 ⊢
  refine gl_ev (ev_makeMap rfl rfl ?_) rfl rfl
  intro gm hgm
  repeat' first
    | (refine gl_gate ?_; first
      | refine gl_nil ?_
      | (refine gl_box0 ?_; first | (refine gl_box_agg rfl rfl rfl rfl rfl ?_; intro g_ hg_) | (refine gl_box_one rfl rfl rfl rfl rfl rfl ?_; intro g_ hg_) | (refine gl_box rfl rfl rfl rfl rfl ?_; intro g_ hg_))
      | (refine gl_any0 ?_; refine gl_pure tab_ok rfl rfl rfl rfl rfl rfl ?_))
    | (refine gc_gate ?_; first
      | refine gc_seq ?_
      | refine gc_region ?_)
    | (refine ge_gate ?_; first
      | ((with_reducible refine ge_gT ?_); first | with_reducible refine ge_then ?_ | with_reducible refine ge_then_exit ?_ | with_reducible refine ge_then_ret ?_))
  revert g_
  intro go hgo
  have hal := allD_len l
  refine gl_ev (ev_callM (M' := (oK g go gm spS0 ++ K1).map (·.1)) (K2 := []) rfl rfl ent183 rfl rfl rfl (fun W hW => ct_split l g go gm K1 W (by omega) (Sq.st (by unfold oK spS0; exact c_sq) hW).known (Sq.st (by unfold oK spS0; exact c_sq) hW).apart hf1)
    (wrs_of (fun e he => (List.mem_append.1 he).elim (oK_wr e) (hK1 e)) (Sq.mem (by unfold oK spS0; exact c_sq))) (fun x e he => by
      rcases List.mem_append.1 he with h | h
      · exact oK_wr e h
      rcases List.mem_append.1 h with h | h
      · exact hK1 e h
      rcases List.mem_append.1 h with h | h
      · exact ow_wr e h
      · exact x.2 e h) (List.nil_sublist _) (by simp) ?_) rfl rfl
  rintro ⟨s, hsw⟩ hso
  dsimp only at hso ⊢
  have hkl : s.ks.length = (allD l).length := by rw [← hso.kn, List.length_map]
  refine gl_sq ((go, true, .cells [.pointer (some (ad g)), .map (some gm), .slice (s.q.map ad) s.ks.length s.c, .slice none 0 0].toArray 217 (0, 0)) :: (gm, true, .map s.es s.ck) :: (K1 ++ (ow s.q true (cat KP.l s.ks ++ s.sp) 151 ++ s.Ka))) (sq_eq (by unfold oK; rw [List.append_nil]; rfl)) ?_
  repeat' first
    | (refine gl_gate ?_; first
      | refine gl_nil ?_
      | (refine gl_load0 ?_; refine gl_yv (yv_load tab_ok (gok_none rfl) rfl rfl (fun _ => rfl) c_mem (fun _ => c_lds)) rfl rfl ?_)
      | (refine gl_any0 ?_; refine gl_pure tab_ok rfl rfl rfl rfl rfl rfl ?_))
    | (refine gc_gate ?_; first
      | refine gc_seq ?_
      | refine gc_region ?_)
    | (refine ge_gate ?_; first
      | ((with_reducible refine ge_gT ?_); first | with_reducible refine ge_then ?_ | with_reducible refine ge_then_exit ?_ | with_reducible refine ge_then_ret ?_))
  refine gl_ev (ev_makeSliceK (n := s.ks.length) tab_ok rfl rfl rfl rfl rfl (by omega) (by omega) ?_) rfl rfl
  intro gt hgt
  have htd0 : List.replicate s.ks.length (Value.bool false) = cat blv (toldB l (ordD l 0)) ++ [] := by
    rw [List.append_nil, hkl]
    exact (toldB_nil l).symm
  rw [htd0]
  repeat' first
    | (refine gl_gate ?_; first
      | refine gl_nil ?_
      | (refine gl_load0 ?_; refine gl_yv (yv_load tab_ok (gok_none rfl) rfl rfl (fun _ => rfl) c_mem (fun _ => c_lds)) rfl rfl ?_)
      | (refine gl_sto0 ?_; refine gl_store tab_ok rfl rfl rfl rfl rfl rfl rfl c_one rfl c_ku ?_)
      | (refine gl_any0 ?_; refine gl_pure tab_ok rfl rfl rfl rfl rfl rfl ?_))
    | (refine gc_gate ?_; first
      | refine gc_seq ?_
      | refine gc_region ?_
      | refine gc_block ?_)
    | (refine ge_gate ?_; first
      | ((with_reducible refine ge_gT ?_); first | with_reducible refine ge_then ?_ | with_reducible refine ge_then_exit ?_ | with_reducible refine ge_then_ret ?_))
  refine gc_sq ((go, true, .cells [.pointer (some (ad g)), .map (some gm), .slice (s.q.map ad) s.ks.length s.c, .slice (some (ad gt)) s.ks.length s.ks.length].toArray 217 (0, 0)) :: (gm, true, .map s.es s.ck) :: (ow (some gt) true (cat blv (toldB l (ordD l 0)) ++ []) 4 ++ (K1 ++ (ow s.q true (cat KP.l s.ks ++ s.sp) 151 ++ s.Ka)))) c_sq ?_
  refine gc_loop (α := Nat × OrS) (fun x => [(3, true, .pointer (some ⟨go, 0, none⟩)), (4, true, .slice (x.2.q.map ad) x.2.ks.length x.2.c), (27, true, .int .i64 s.ks.length), (28, true, .int .i64 (x.1 : Int))])
    (fun x => (go, true, .cells [.pointer (some (ad g)), .map (some gm), .slice (s.q.map ad) s.ks.length s.c, .slice (some (ad gt)) s.ks.length s.ks.length].toArray 217 (0, 0)) :: (gm, true, .map s.es s.ck) :: (ow (some gt) true (cat blv (toldB l (ordD l x.1)) ++ []) 4 ++ (ow x.2.q true (cat KP.l x.2.ks ++ x.2.sp) 151 ++ (K1 ++ (ow s.q true (cat KP.l s.ks ++ s.sp) 151 ++ s.Ka))))) (fun x => x.1 ≤ s.ks.length ∧ x.2.ks.map KP.kn = ordD l x.1 ∧ Ow x.2.q x.2.ks.length x.2.c 2 (cat KP.l x.2.ks) x.2.sp ∧ KsZ s.Ka x.2.ks) (fun x => s.ks.length - x.1) (0, ⟨none, 0, [], [], []⟩) c_frs (List.Sublist.refl _) ⟨Nat.zero_le _, rfl, Ow.none0, fun j hj => absurd hj (Nat.not_lt_zero _)⟩ ?_
  rintro ⟨i, r⟩ ⟨hi, hrk, hro, hrz⟩
  dsimp only at hi hrk hro hrz ⊢
  have hol : (ordD l i).length = i := ordD_len (by omega)
  have hrl : r.ks.length = i := by rw [← hol, ← hrk, List.length_map]
  have htl := toldB_len l (ordD l i)
  have hto : Ow (some gt) s.ks.length s.ks.length 1 (cat blv (toldB l (ordD l i))) [] := ⟨by rw [cat_length len_bl, htl, hkl], by simp, Nat.le_refl _, fun h => by cases h⟩
  have hzo : Fz ((go, true, .cells [.pointer (some (ad g)), .map (some gm), .slice (s.q.map ad) s.ks.length s.c, .slice (some (ad gt)) s.ks.length s.ks.length].toArray 217 (0, 0)) :: (gm, true, .map s.es s.ck) :: (ow (some gt) true (cat blv (toldB l (ordD l i)) ++ []) 4 ++ (K1 ++ (ow s.q true (cat KP.l s.ks ++ s.sp) 151 ++ s.Ka)))) fun W => OrdP W l g go gm s.m s.es s.ck (s.q.map ad) s.c s.ks (some (ad gt)) s.ks.length (toldB l (ordD l i)) := by
    intro W hk
    have k1 : ∀ e ∈ K1, W.heap[e.1]? = some e.2.2 := fun e he => hk e (List.mem_cons_of_mem _ (List.mem_cons_of_mem _ (List.mem_append_right _ (List.mem_append_left _ he))))
    have k2 : ∀ e ∈ ow s.q true (cat KP.l s.ks ++ s.sp) 151, W.heap[e.1]? = some e.2.2 := fun e he => hk e (List.mem_cons_of_mem _ (List.mem_cons_of_mem _ (List.mem_append_right _ (List.mem_append_right _ (List.mem_append_left _ he)))))
    have k3 : ∀ e ∈ s.Ka, W.heap[e.1]? = some e.2.2 := fun e he => hk e (List.mem_cons_of_mem _ (List.mem_cons_of_mem _ (List.mem_append_right _ (List.mem_append_right _ (List.mem_append_right _ he)))))
    have k4 : ∀ e ∈ ow (some gt) true (cat blv (toldB l (ordD l i)) ++ []) 4, W.heap[e.1]? = some e.2.2 := fun e he => hk e (List.mem_cons_of_mem _ (List.mem_cons_of_mem _ (List.mem_append_left _ he)))
    refine ⟨?_, hf1 W k1, hk _ (List.mem_cons_of_mem _ (List.mem_cons_self ..)), hso.mp, hso.lk, hso.kn, fz_cat (e := 151) len_kp rfl hso.ow W k2, fun j hj => hso.rows j hj W k3, ?_⟩
    · rw [htl, ← hkl]
      exact hk _ (List.mem_cons_self ..)
    · have := fz_cat (e := 4) len_bl (l := toldB l (ordD l i)) (by rw [htl, ← hkl]) hto W k4
      rw [htl, ← hkl]
      exact this
  repeat' first
    | (refine gl_gate ?_; first
      | refine gl_nil ?_
      | (refine gl_any0 ?_; refine gl_pure tab_ok rfl rfl rfl rfl rfl rfl ?_))
    | (refine gc_gate ?_; first
      | refine gc_seq ?_
      | refine gc_region ?_)
    | (refine ge_gate ?_; first
      | ((with_reducible refine ge_gT ?_); first | with_reducible refine ge_then ?_ | with_reducible refine ge_then_exit ?_ | with_reducible refine ge_then_ret ?_))
  (refine gc_cond rfl ?_ ?_ <;> intro h_ <;> have hd_ := h_ <;> (try simp only [bytes_beq, cell_beq, val_beq, stamp_beq, decide_eq_true_eq, decide_eq_false_iff_not, Bool.and_eq_true, Bool.or_eq_true, Bool.or_eq_false_iff, Bool.not_eq_true', Bool.not_eq_false', Bool.not_true, Bool.not_false, Bool.false_or, Bool.true_and, Bool.and_true, Bool.or_false, beq_iff_eq, bne_iff_ne, beq_eq_false_iff_ne, bne_eq_false_iff_eq, ne_eq, Bool.false_eq_true, reduceCtorEq] at hd_) <;> (try (exfalso; omega)))
  · have hiN : i < s.ks.length := by omega
    repeat' first
      | (refine gl_gate ?_; first
        | refine gl_nil ?_
        | (refine gl_load0 ?_; refine gl_yv (yv_load tab_ok (gok_none rfl) rfl rfl (fun _ => rfl) c_mem (fun _ => c_lds)) rfl rfl ?_)
        | (refine gl_any0 ?_; refine gl_pure tab_ok rfl rfl rfl rfl rfl rfl ?_))
      | (refine gc_gate ?_; first
        | refine gc_seq ?_
        | refine gc_region ?_
        | refine gc_block ?_
        | refine gc_skip ?_)
      | (refine ge_gate ?_; first
        | ((with_reducible refine ge_gT ?_); first | with_reducible refine ge_then ?_ | with_reducible refine ge_then_exit ?_ | with_reducible refine ge_then_ret ?_))
    refine gc_loop (α := Nat) (fun k => [(3, true, .pointer (some ⟨go, 0, none⟩)), (4, true, .slice (r.q.map ad) r.ks.length r.c), (27, true, .int .i64 s.ks.length), (28, true, .int .i64 (i : Int)), (33, true, .slice (s.q.map ad) s.ks.length s.c), (34, true, .int .i64 s.ks.length), (35, true, .int .i64 (k : Int))])
      (fun _ => (go, true, .cells [.pointer (some (ad g)), .map (some gm), .slice (s.q.map ad) s.ks.length s.c, .slice (some (ad gt)) s.ks.length s.ks.length].toArray 217 (0, 0)) :: (gm, true, .map s.es s.ck) :: (ow (some gt) true (cat blv (toldB l (ordD l i)) ++ []) 4 ++ (ow r.q true (cat KP.l r.ks ++ r.sp) 151 ++ (K1 ++ (ow s.q true (cat KP.l s.ks ++ s.sp) 151 ++ s.Ka))))) (fun k => k ≤ s.ks.length ∧ ∀ j, j < k → canD l (ordD l i) ((allD l).getD j default) = false) (fun k => s.ks.length - k) 0 c_frs (List.Sublist.refl _) ⟨Nat.zero_le _, fun j hj => absurd hj (Nat.not_lt_zero _)⟩ ?_
    rintro k ⟨hk, hek⟩
    repeat' first
      | (refine gl_gate ?_; first
        | refine gl_nil ?_
        | (refine gl_any0 ?_; refine gl_pure tab_ok rfl rfl rfl rfl rfl rfl ?_))
      | (refine gc_gate ?_; first
        | refine gc_seq ?_
        | refine gc_region ?_)
      | (refine ge_gate ?_; first
        | ((with_reducible refine ge_gT ?_); first | with_reducible refine ge_then ?_ | with_reducible refine ge_then_exit ?_ | with_reducible refine ge_then_ret ?_))
    (refine gc_cond rfl ?_ ?_ <;> intro h_ <;> have hd_ := h_ <;> (try simp only [bytes_beq, cell_beq, val_beq, stamp_beq, decide_eq_true_eq, decide_eq_false_iff_not, Bool.and_eq_true, Bool.or_eq_true, Bool.or_eq_false_iff, Bool.not_eq_true', Bool.not_eq_false', Bool.not_true, Bool.not_false, Bool.false_or, Bool.true_and, Bool.and_true, Bool.or_false, beq_iff_eq, bne_iff_ne, beq_eq_false_iff_ne, bne_eq_false_iff_eq, ne_eq, Bool.false_eq_true, reduceCtorEq] at hd_) <;> (try (exfalso; omega)))
    · have hkN : k < s.ks.length := by omega
      have hcan : (!((toldB l (ordD l i)).getD k default) && rdyD l (ordD l i) ((allD l).getD k default)) = canD l (ordD l i) ((allD l).getD k default) := by
        unfold canD
        congr 1
        rw [Bool.eq_iff_iff, dec_t, Bool.not_eq_true', ← Bool.not_eq_true, toldB_get (by omega)]
      repeat' first
        | (refine gl_idx0 ?_; refine gl_yv (yv_idxO tab_ok hso.ow (gok_none rfl) rfl rfl rfl rfl rfl rfl (fun _ => rfl) (fun _ => rfl) c_bnd) rfl rfl ?_)
        | (refine gl_load0 ?_; refine gl_yv (yv_ldO tab_ok c_oa hso.ow (gok_none rfl) rfl rfl (fun _ => rfl) (fun _ => lds_cat len_kp (by omega) rfl rfl rfl) c_bnd) rfl rfl ?_)
        | (refine gl_idx0 ?_; refine gl_yv (yv_idxO tab_ok hto (gok_none rfl) rfl rfl rfl rfl rfl rfl (fun _ => rfl) (fun _ => rfl) c_bnd) rfl rfl ?_)
        | (refine gl_load0 ?_; refine gl_yv (yv_ldO (v := .bool ((toldB l (ordD l i)).getD k default)) tab_ok c_oa hto (gok_none rfl) rfl rfl (fun _ => rfl) (fun _ => lds_partD (o := 0) len_bl (by omega) rfl (by decide) (lds_one rfl rfl rfl rfl)) c_bnd) rfl rfl ?_)
        | (refine gl_gate ?_; first
          | refine gl_nil ?_
          | (refine gl_load0 ?_; refine gl_yv (yv_load tab_ok (gok_none rfl) rfl rfl (fun _ => rfl) c_mem (fun _ => c_lds)) rfl rfl ?_)
          | (refine gl_calvG ?_; first | refine gl_yd (yd_call c_gok rfl ent184 rfl rfl c_allT (fun _ W hW => ct_ready (hzo.atS hW c_sq) (by omega) (ordD l i) (fun k hk => ordD_mem hk) rfl k hkN)) rfl rfl ?_)
          | (refine gl_pick0 ?_; first | refine gl_yv (yv_and (gok_none rfl) rfl rfl rfl (fun _ => rfl) c_imp2) rfl rfl ?_ | refine gl_yv (yv_or (gok_none rfl) rfl rfl rfl (fun _ => rfl) c_imp2) rfl rfl ?_)
          | (refine gl_alc0 ?_; (refine gl_alloc tab_ok rfl rfl rfl rfl rfl ?_; intro g_ hg_))
          | (refine gl_sto0 ?_; refine gl_store tab_ok rfl rfl rfl rfl rfl rfl rfl c_one rfl c_ku ?_)
          | (refine gl_any0 ?_; refine gl_pure tab_ok rfl rfl rfl rfl rfl rfl ?_)
          | (refine gl_anyG ?_; first | refine gl_yv (yv_pure tab_ok c_gok rfl rfl c_allT) rfl rfl ?_ | refine gl_yv (yv_indexS tab_ok c_gok rfl rfl rfl rfl c_imp c_imp (by intro hq_; (try simp only [Bool.and_eq_true, Bool.not_eq_true', Bool.not_eq_false', Bool.or_eq_false_iff, Bool.or_eq_true, decide_eq_true_eq, decide_eq_false_iff_not, Bool.true_and, Bool.and_true] at hq_); omega)) rfl rfl ?_ | refine gl_yv (yv_indexS (i := 0) tab_ok c_gok rfl rfl rfl rfl c_imp c_imp (by intro hq_; (try simp only [Bool.and_eq_true, Bool.not_eq_true', Bool.not_eq_false', Bool.or_eq_false_iff, Bool.or_eq_true, decide_eq_true_eq, decide_eq_false_iff_not, Bool.true_and, Bool.and_true] at hq_); omega)) rfl rfl ?_))
        | (refine gc_gate ?_; first
          | refine gc_seq ?_
          | refine gc_region ?_
          | refine gc_block ?_
          | refine gc_skip ?_)
        | (refine ge_gate ?_; first
          | ((with_reducible refine ge_gT ?_); first | with_reducible refine ge_then ?_ | with_reducible refine ge_then_exit ?_ | with_reducible refine ge_then_ret ?_))
      rw [hcan]
      by_cases hcn : canD l (ordD l i) ((allD l).getD k default) = true
      · have hnx := nxt_at (by omega) hcn hek
        have hord : ordD l (i + 1) = ordD l i ++ [(allD l).getD k default] := by rw [ordD, hnx]; rfl
        have htd : toldB l (ordD l (i + 1)) = (toldB l (ordD l i)).set k true := by rw [hord]; exact toldB_set (by omega)
        have hkk := ks_at hso.kn hkN
        have e4 : cat KP.l (r.ks ++ [s.ks.getD k default]) = cat KP.l r.ks ++ (s.ks.getD k default).l := cat_snoc ..
        have e5 : (r.ks ++ [s.ks.getD k default]).length = r.ks.length + 1 := by rw [List.length_append]; rfl
        rw [hcn]
        repeat' first
          | (refine gl_idx0 ?_; refine gl_yv (yv_idxO tab_ok hto (gok_none rfl) rfl rfl rfl rfl rfl rfl (fun _ => rfl) (fun _ => rfl) c_bnd) rfl rfl ?_)
          | refine gl_ev0 (ev_setV (f := blv) (l := toldB l (ordD l i)) (y := true) (i := k) len_bl (fun u hu => by rw [List.mem_singleton.1 hu]; rfl) rfl tab_ok rfl rfl rfl rfl rfl rfl (by omega) c_oa (by rw [htl, ← hkl]; exact hto) ?_) rfl
          | (refine gl_gate ?_; first
            | refine gl_nil ?_
            | (refine gl_load0 ?_; refine gl_yv (yv_load tab_ok (gok_none rfl) rfl rfl (fun _ => rfl) c_mem (fun _ => c_lds)) rfl rfl ?_)
            | (refine gl_bld0 ?_; (refine gl_ev (ev_buildSlice tab_ok rfl rfl rfl rfl rfl rfl rfl rfl rfl rfl ?_) rfl rfl; intro g_ hg_))
            | (refine gl_any0 ?_; refine gl_pure tab_ok rfl rfl rfl rfl rfl rfl ?_))
          | (refine gc_gate ?_; first
            | refine gc_seq ?_
            | refine gc_region ?_
            | refine gc_true rfl ?_)
          | (refine ge_gate ?_; first
            | ((with_reducible refine ge_gT ?_); first | with_reducible refine ge_then ?_ | with_reducible refine ge_then_exit ?_ | with_reducible refine ge_then_ret ?_))
        repeat' first
          | (refine gl_gate ?_; first
            | refine gl_nil ?_
            | (refine gl_add0 ?_; refine gl_yv (yv_add tab_ok (gok_none rfl) rfl rfl rfl rfl (fun _ => allT_of rfl) (by intro _; omega)) rfl rfl ?_)
            | (refine gl_app0 ?_; (refine gl_ev (ev_append tab_ok rfl rfl rfl rfl rfl rfl rfl rfl c_oa (hro) (c_src) c_lim c_lim ?_) rfl rfl; intro p_ c_ sp_ hw_))
            | (refine gl_any0 ?_; refine gl_pure tab_ok rfl rfl rfl rfl rfl rfl ?_))
          | (refine gc_gate ?_; first
            | refine gc_region ?_
            | refine gc_exit ?_)
          | (refine ge_gate ?_; first
            | ((with_reducible refine ge_gT ?_); first | with_reducible refine ge_then ?_ | with_reducible refine ge_then_exit ?_ | with_reducible refine ge_then_ret ?_)
            | ((with_reducible refine ge_gK ?_); first | with_reducible refine ge_block ?_ | refine ge_block_exit ?_ | refine ge_block_pass rfl ?_ | with_reducible refine ge_block_ret ?_))
        refine ge_sq ((go, true, .cells [.pointer (some (ad g)), .map (some gm), .slice (s.q.map ad) s.ks.length s.c, .slice (some (ad gt)) s.ks.length s.ks.length].toArray 217 (0, 0)) :: (gm, true, .map s.es s.ck) :: (ow (some gt) true (cat blv ((toldB l (ordD l i)).set k true) ++ []) 4 ++ (ow p_ true (cat KP.l r.ks ++ (s.ks.getD k default).l ++ sp_) 151 ++ (K1 ++ (ow s.q true (cat KP.l s.ks ++ s.sp) 151 ++ s.Ka))))) c_sq ?_
        refine ge_round (i + 1, ⟨p_, c_, r.ks ++ [s.ks.getD k default], sp_, []⟩) ⟨by dsimp only; omega, by dsimp only; rw [List.map_append, hrk, hord, ← hkk]; rfl, by dsimp only; rw [e4, e5]; exact hw_, fun j hj => ?_⟩ (by show s.ks.length - (i + 1) < s.ks.length - i; omega) (by dsimp only; rw [e5]; exact c_frs) (by dsimp only; rw [e4, htd]; exact List.Sublist.refl _)
        dsimp only at hj ⊢
        rw [e5] at hj
        rcases Nat.lt_or_ge j r.ks.length with h | h
        · rw [show (r.ks ++ [s.ks.getD k default]).getD j default = r.ks.getD j default by simp [List.getD, List.getElem?_append_left h]]
          exact hrz j h
        · obtain rfl : j = r.ks.length := by omega
          rw [show (r.ks ++ [s.ks.getD k default]).getD r.ks.length default = s.ks.getD k default by simp [List.getD]]
          exact hso.rows k hkN
      · have hcn' : canD l (ordD l i) ((allD l).getD k default) = false := by simpa using hcn
        rw [hcn']
        repeat' first
          | (refine gl_gate ?_; first
            | refine gl_nil ?_
            | (refine gl_add0 ?_; refine gl_yv (yv_add tab_ok (gok_none rfl) rfl rfl rfl rfl (fun _ => allT_of rfl) (by intro _; omega)) rfl rfl ?_)
            | (refine gl_any0 ?_; refine gl_pure tab_ok rfl rfl rfl rfl rfl rfl ?_))
          | (refine gc_gate ?_; first
            | refine gc_region ?_
            | refine gc_false rfl ?_
            | refine gc_skip ?_)
          | (refine ge_gate ?_; first
            | ((with_reducible refine ge_gT ?_); first | with_reducible refine ge_then ?_ | with_reducible refine ge_then_exit ?_ | with_reducible refine ge_then_ret ?_)
            | ((with_reducible refine ge_gK ?_); first | with_reducible refine ge_block ?_ | refine ge_block_exit ?_ | refine ge_block_pass rfl ?_ | with_reducible refine ge_block_ret ?_))
        refine ge_dropK (List.Sublist.cons _ (List.Sublist.refl _)) ?_
        refine ge_round (k + 1) ⟨by omega, fun j hj => ?_⟩ (by omega) c_frs (List.Sublist.refl _)
        rcases Nat.lt_or_ge j k with h | h
        · exact hek j h
        · obtain rfl : j = k := by omega
          exact hcn'
    · exact (nxt_not (l := l) (i := i) (by omega) fun j hj => hek j (by omega)).elim
  · have hiN : i = (allD l).length := by omega
    repeat' first
      | (refine gl_gate ?_; first
        | refine gl_nil ?_
        | (refine gl_any0 ?_; refine gl_pure tab_ok rfl rfl rfl rfl rfl rfl ?_))
      | (refine gc_gate ?_; first
        | refine gc_seq ?_
        | refine gc_region ?_
        | refine gc_exit ?_
        | refine gc_ret ?_)
      | (refine ge_gate ?_; first
        | ((with_reducible refine ge_gT ?_); first | with_reducible refine ge_then ?_ | with_reducible refine ge_then_exit ?_ | with_reducible refine ge_then_ret ?_)
        | ((with_reducible refine ge_gK ?_); first | with_reducible refine ge_block ?_ | refine ge_block_exit ?_ | refine ge_block_pass rfl ?_ | with_reducible refine ge_block_ret ?_)
        | ((with_reducible refine ge_gB ?_); first | refine ge_ret1 tab_ok rfl c_rvt ?_ | refine ge_end1 tab_ok rfl c_rvt ?_ | refine ge_ret2 tab_ok rfl c_rvt c_rvt ?_ | refine ge_ret_none rfl ?_ | refine ge_end_none rfl ?_))
    intro W hW
    refine ⟨⟨⟨r.q, r.c, r.ks, r.sp, s.Ka⟩, hsw⟩, rfl, ⟨by rw [hrk, hiN]; rfl, hro, hrz⟩, ?_⟩
    exact Sq.st c_sq hW
end Go.Proofs.Ytkgjfcjciigcgaa

/-
  Knots of a cell alone: the law's own first look.
-/
namespace Go.Proofs.Ytkgjfcjciigcgaa
open Go.Proofs.Ytkgjfcjciigcgaa.Sl Go.RowKit
set_option linter.unusedVariables false
set_option linter.unusedSimpArgs false
set_option linter.unusedSectionVars false
set_option maxRecDepth 100000

def enK : En := ⟨cS, false, .mk 0 .empty .empty ⟨0, 0, .empty⟩ ⟨.empty, 0, 0⟩ ⟨.empty, 0, 0⟩ [], none, 0, ⟨0, 0, .empty⟩⟩
theorem orD_nil : orD [] = [] := by
  rw [orD_alone fun c => rdD_val (fun e he => absurd he List.not_mem_nil) c]
  rfl
theorem orD_enK : orD [enK] = [⟨[cS], false⟩] := by
  rw [orD_alone fun c => rdD_val (fun e he => by rw [List.mem_singleton.1 he]; rfl) c]
  rfl
theorem ks_one {ks : List KP} {k : Kn} (h : ks.map KP.kn = [k]) : ∃ p c, ks = [⟨p, k, c⟩] := by
  match ks, h with
  | [⟨p, k', c⟩], h =>
    simp at h
    subst h
    exact ⟨p, c, rfl⟩
theorem ct_aliveK (w : World) : Calls Try.prog 129 #[] w fun e w' => e = .returned (.bool true) ∧ Bl w w' := by
  refine enter (args := []) (M := []) (K := []) Try.func129 rfl Try.ntmps129 rfl (St.refl _ _) ?_
  repeat' first
    | (refine gl_gate ?_; first
      | refine gl_nil ?_
      | (refine gl_bld0 ?_; (refine gl_ev (ev_buildSlice tab_ok rfl rfl rfl rfl rfl rfl rfl rfl rfl rfl ?_) rfl rfl; intro g_ hg_))
      | (refine gl_any0 ?_; refine gl_pure tab_ok rfl rfl rfl rfl rfl rfl ?_))
    | (refine gc_gate ?_; first
      | refine gc_seq ?_
      | refine gc_region ?_)
    | (refine ge_gate ?_; first
      | ((with_reducible refine ge_gT ?_); first | with_reducible refine ge_then ?_ | with_reducible refine ge_then_exit ?_ | with_reducible refine ge_then_ret ?_))
  refine gl_ev (ev_callM (M' := []) (K2 := _) rfl rfl ent130 rfl rfl rfl (fun W hW => ct_Order (S := All) [enK] _ _ _ W rfl (slA_cat (p := some _) (sp := []) len_en rfl hW Oa.one ⟨rfl, rfl, Nat.le_refl _, fun h => by cases h⟩) (fun e he => by rw [List.mem_singleton.1 he]; exact NodeR.leaf rfl) (fun e he => by rw [List.mem_singleton.1 he]; decide) (by decide)) (by simp) orX_wr (List.Sublist.refl _) (by simp) ?_) rfl rfl
  rintro ⟨⟨q1, c1, ks1, sp1, K1⟩, hK1⟩ ⟨hk1, hw1, hz1⟩
  dsimp only at hk1 hw1 hz1 ⊢
  rw [orD_enK] at hk1
  obtain ⟨p0, c0, rfl⟩ := ks_one hk1
  repeat' first
    | (refine gl_gate ?_; first
      | refine gl_nil ?_
      | (refine gl_any0 ?_; refine gl_pure tab_ok rfl rfl rfl rfl rfl rfl ?_))
    | (refine gc_gate ?_; first
      | refine gc_seq ?_
      | refine gc_region ?_)
    | (refine ge_gate ?_; first
      | ((with_reducible refine ge_gT ?_); first | with_reducible refine ge_then ?_ | with_reducible refine ge_then_exit ?_ | with_reducible refine ge_then_ret ?_))
  refine gl_ev (ev_callM (M' := []) (K2 := _) rfl rfl ent130 rfl rfl rfl (fun W hW => ct_Order (S := All) [] none 0 0 W rfl SlA.nil (fun e he => absurd he List.not_mem_nil) (fun e he => absurd he List.not_mem_nil) (by decide)) (by simp) orX_wr (List.Sublist.refl _) (by simp) ?_) rfl rfl
  rintro ⟨⟨q2, c2, ks2, sp2, K2⟩, hK2⟩ ⟨hk2, hw2, hz2⟩
  dsimp only at hk2 hw2 hz2 ⊢
  rw [orD_nil] at hk2
  obtain rfl : ks2 = [] := List.map_eq_nil_iff.1 hk2
  rw [List.append_assoc, List.append_assoc (ow q1 true _ 151)]
  repeat' first
    | (refine gl_idxG ?_; refine gl_yv (yv_idxO (i := 0) tab_ok hw1 c_gok rfl rfl rfl rfl rfl rfl c_imp c_imp (fun _ => by simp)) rfl rfl ?_)
    | (refine gl_loadG ?_; refine gl_yv (yv_ldO tab_ok c_oa hw1 c_gok rfl rfl c_imp (fun _ => lds_partD (i := 0) len_kp (by simp) rfl (by decide) (lds_one rfl rfl rfl rfl)) (fun _ => by simp)) rfl rfl ?_)
    | (refine gl_gate ?_; first
      | refine gl_nil ?_
      | (refine gl_pick0 ?_; first | refine gl_yv (yv_and (gok_none rfl) rfl rfl rfl (fun _ => rfl) c_imp2) rfl rfl ?_ | refine gl_yv (yv_or (gok_none rfl) rfl rfl rfl (fun _ => rfl) c_imp2) rfl rfl ?_)
      | (refine gl_any0 ?_; refine gl_pure tab_ok rfl rfl rfl rfl rfl rfl ?_)
      | (refine gl_anyG ?_; first | refine gl_yv (yv_pure tab_ok c_gok rfl rfl c_allT) rfl rfl ?_ | refine gl_yv (yv_indexS tab_ok c_gok rfl rfl rfl rfl c_imp c_imp (by intro hq_; (try simp only [Bool.and_eq_true, Bool.not_eq_true', Bool.not_eq_false', Bool.or_eq_false_iff, Bool.or_eq_true, decide_eq_true_eq, decide_eq_false_iff_not, Bool.true_and, Bool.and_true] at hq_); omega)) rfl rfl ?_ | refine gl_yv (yv_indexS (i := 0) tab_ok c_gok rfl rfl rfl rfl c_imp c_imp (by intro hq_; (try simp only [Bool.and_eq_true, Bool.not_eq_true', Bool.not_eq_false', Bool.or_eq_false_iff, Bool.or_eq_true, decide_eq_true_eq, decide_eq_false_iff_not, Bool.true_and, Bool.and_true] at hq_); omega)) rfl rfl ?_))
    | (refine gc_gate ?_; first
      | refine gc_ret ?_)
    | (refine ge_gate ?_; first
      | ((with_reducible refine ge_gT ?_); first | with_reducible refine ge_then ?_ | with_reducible refine ge_then_exit ?_ | with_reducible refine ge_then_ret ?_)
      | ((with_reducible refine ge_gB ?_); first | refine ge_ret1 tab_ok rfl c_rvt ?_ | refine ge_end1 tab_ok rfl c_rvt ?_ | refine ge_ret2 tab_ok rfl c_rvt c_rvt ?_ | refine ge_ret_none rfl ?_ | refine ge_end_none rfl ?_))
  intro W hW
  refine ⟨?_, hW.below0⟩
  simp
end Go.Proofs.Ytkgjfcjciigcgaa
