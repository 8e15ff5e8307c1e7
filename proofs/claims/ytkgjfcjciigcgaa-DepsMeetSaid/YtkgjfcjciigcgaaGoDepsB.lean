/-
  The reference's After: adding until nothing comes.
-/
import Derived.Test.YtkgjfcjciigcgaaGoDepsQ
namespace Go.Proofs.Ytkgjfcjciigcgaa
open Go.Proofs.Ytkgjfcjciigcgaa.Sl Go.RowKit
set_option linter.unusedVariables false
set_option linter.unusedSimpArgs false
set_option linter.unusedSectionVars false
set_option maxRecDepth 100000

structure BfS where
  n : Int
  L : List Cell
  q : Option Nat
  c : Nat
  sp : List Value
structure BfOk (l : List En) (x : Cell) (s : BfS) : Prop where
  cl : Cl l x s.L
  ow : Ow s.q s.L.length s.c 3 (cat Cell.l s.L) s.sp
  dn : s.n = (s.L.length : Int) → s.L = aft l x
def bfM (l : List En) (s : BfS) : Nat := 2 * (l.length - s.L.length) + if s.n = (s.L.length : Int) then 0 else 1
set_option maxHeartbeats 4000000 in
theorem ct_AfterD (l : List En) (g : Nat) (D : DR) (x : Cell) (w : World) (h : DpR w l g D) (hl : l.length ≤ 1000) : Calls Try.prog 118 #[.pointer (some (ad g)), .agg x.l.toArray] w (RetOw w (aft l x).length 3 (cat Cell.l (aft l x)) 25) := by
  have hrx := rrD_len l x
  refine enter (args := [_, _]) (M := []) (K := []) Try.func118 rfl Try.ntmps118 rfl (St.refl _ _) ?_
  repeat' first
    | (refine gl_gate ?_; first
      | refine gl_nil ?_
      | (refine gl_load0 ?_; refine gl_yv (yv_load tab_ok (gok_none rfl) rfl rfl (fun _ => rfl) c_mem (fun _ => c_lds)) rfl rfl ?_)
      | (refine gl_any0 ?_; (refine gl_ev (ev_callOw rfl rfl ent116 rfl rfl rfl (fun W hW => ct_ReadersD l g D x W (h.st hW) hl) ?_) rfl rfl; intro p0 c0 sp0 hw0))
      | (refine gl_box0 ?_; first | (refine gl_box_agg rfl rfl rfl rfl rfl ?_; intro g_ hg_) | (refine gl_box_one rfl rfl rfl rfl rfl rfl ?_; intro g_ hg_) | (refine gl_box rfl rfl rfl rfl rfl ?_; intro g_ hg_))
      | (refine gl_any0 ?_; refine gl_pure tab_ok rfl rfl rfl rfl rfl rfl ?_))
    | (refine gc_gate ?_; first
      | refine gc_seq ?_
      | refine gc_region ?_
      | refine gc_block ?_)
    | (refine ge_gate ?_; first
      | ((with_reducible refine ge_gT ?_); first | with_reducible refine ge_then ?_ | with_reducible refine ge_then_exit ?_ | with_reducible refine ge_then_ret ?_))
  revert g_
  intro g3 hg3
  refine gc_loop (α := BfS) (fun s => [(0, true, .pointer (some (ad g))), (5, true, .slice (s.q.map ad) s.L.length s.c), (6, true, .int .i64 s.n)])
    (fun s => ow s.q true (cat Cell.l s.L ++ s.sp) 25 ++ [(g3, true, .cells x.l.toArray 25 (0, 0))]) (BfOk l x) (bfM l) ⟨-1, rrD l x, p0, c0, sp0⟩ c_frs (List.Sublist.refl _) ⟨Cl.start l x, hw0, fun h => by dsimp only at h; omega⟩ ?_
  rintro ⟨n, L0, q, c, sp⟩ ⟨hcl, ho, hdn⟩
  dsimp only at hcl ho hdn ⊢
  have hL0 := hcl.len
  repeat' first
    | (refine gl_gate ?_; first
      | refine gl_nil ?_
      | (refine gl_any0 ?_; refine gl_pure tab_ok rfl rfl rfl rfl rfl rfl ?_))
    | (refine gc_gate ?_; first
      | refine gc_seq ?_
      | refine gc_region ?_)
    | (refine ge_gate ?_; first
      | ((with_reducible refine ge_gT ?_); first | with_reducible refine ge_then ?_ | with_reducible refine ge_then_exit ?_ | with_reducible refine ge_then_ret ?_))
  (refine gc_cond rfl ?_ ?_ <;> intro h_ <;> have hd_ := h_ <;> (try simp only [bytes_beq, cell_beq, val_beq, stamp_beq, decide_eq_true_eq, decide_eq_false_iff_not, Bool.and_eq_true, Bool.or_eq_true, Bool.or_eq_false_iff, Bool.not_eq_true', Bool.not_eq_false', Bool.not_true, Bool.not_false, Bool.false_or, Bool.true_and, Bool.and_true, Bool.or_false, beq_iff_eq, bne_iff_ne, beq_eq_false_iff_ne, bne_eq_false_iff_eq, ne_eq, Bool.false_eq_true, reduceCtorEq] at hd_) <;> (try (exfalso; omega)))
  · have hne : ¬ n = (L0.length : Int) := hd_
    repeat' first
      | (refine gl_gate ?_; first
        | refine gl_nil ?_
        | (refine gl_any0 ?_; refine gl_pure tab_ok rfl rfl rfl rfl rfl rfl ?_))
      | (refine gc_gate ?_; first
        | refine gc_seq ?_
        | refine gc_region ?_
        | refine gc_block ?_
        | refine gc_skip ?_)
      | (refine ge_gate ?_; first
        | ((with_reducible refine ge_gT ?_); first | with_reducible refine ge_then ?_ | with_reducible refine ge_then_exit ?_ | with_reducible refine ge_then_ret ?_))
    refine gc_loop (α := Nat × BfS) (fun s => [(0, true, .pointer (some (ad g))), (5, true, .slice (s.2.q.map ad) s.2.L.length s.2.c), (6, true, .int .i64 (L0.length : Int)), (7, true, .int .i64 (s.1 : Int))])
      (fun s => ow s.2.q true (cat Cell.l s.2.L ++ s.2.sp) 25 ++ [(g3, true, .cells x.l.toArray 25 (0, 0))]) (fun s => s.1 ≤ L0.length ∧ Cl l x s.2.L ∧ Ow s.2.q s.2.L.length s.2.c 3 (cat Cell.l s.2.L) s.2.sp ∧ Ps l L0 s.2.L s.1 0) (fun s => L0.length - s.1) (0, ⟨0, L0, q, c, sp⟩) c_frs (List.Sublist.refl _) ⟨Nat.zero_le _, hcl, ho, Ps.start l L0⟩ ?_
    rintro ⟨i, ⟨_, L, q1, c1, sp1⟩⟩ ⟨hi, hcl1, ho1, hps⟩
    dsimp only at hi hcl1 ho1 hps ⊢
    have hL1 := hcl1.len
    have hle1 := hps.le
    repeat' first
      | (refine gl_gate ?_; first
        | refine gl_nil ?_
        | (refine gl_any0 ?_; refine gl_pure tab_ok rfl rfl rfl rfl rfl rfl ?_))
      | (refine gc_gate ?_; first
        | refine gc_seq ?_
        | refine gc_region ?_)
      | (refine ge_gate ?_; first
        | ((with_reducible refine ge_gT ?_); first | with_reducible refine ge_then ?_ | with_reducible refine ge_then_exit ?_ | with_reducible refine ge_then_ret ?_))
    (refine gc_cond rfl ?_ ?_ <;> intro h_ <;> have hd_ := h_ <;> (try simp only [bytes_beq, cell_beq, val_beq, stamp_beq, decide_eq_true_eq, decide_eq_false_iff_not, Bool.and_eq_true, Bool.or_eq_true, Bool.or_eq_false_iff, Bool.not_eq_true', Bool.not_eq_false', Bool.not_true, Bool.not_false, Bool.false_or, Bool.true_and, Bool.and_true, Bool.or_false, beq_iff_eq, bne_iff_ne, beq_eq_false_iff_ne, bne_eq_false_iff_eq, ne_eq, Bool.false_eq_true, reduceCtorEq] at hd_) <;> (try (exfalso; omega)))
    · have hiL : i < L0.length := by omega
      have hiL1 : i < L.length := by omega
      have hz : L = L0 → L.getD i default = L0.getD i default := fun e => by rw [e]
      have hzr := hcl1.r _ (getD_mem L i hiL1)
      generalize hzz : L.getD i default = z at *
      have hrz := rrD_len l z
      repeat' first
        | (refine gl_idx0 ?_; refine gl_yv (yv_idxO tab_ok ho1 (gok_none rfl) rfl rfl rfl rfl rfl rfl (fun _ => rfl) (fun _ => rfl) c_bnd) rfl rfl ?_)
        | (refine gl_load0 ?_; refine gl_yv ((yv_ldO (v := .agg z.l.toArray) tab_ok c_oa ho1 (gok_none rfl) rfl rfl (fun _ => rfl) (fun _ => by rw [← hzz]; exact lds_cat len_cell (by omega) rfl rfl rfl) c_bnd)) rfl rfl ?_)
        | (refine gl_gate ?_; first
          | refine gl_nil ?_
          | (refine gl_any0 ?_; (refine gl_ev (ev_callOw rfl rfl ent116 rfl rfl rfl (fun W hW => ct_ReadersD l g D z W (h.st hW) hl) ?_) rfl rfl; intro pr cr spr hwr))
          | (refine gl_any0 ?_; refine gl_pure tab_ok rfl rfl rfl rfl rfl rfl ?_))
        | (refine gc_gate ?_; first
          | refine gc_seq ?_
          | refine gc_region ?_
          | refine gc_block ?_
          | refine gc_skip ?_)
        | (refine ge_gate ?_; first
          | ((with_reducible refine ge_gT ?_); first | with_reducible refine ge_then ?_ | with_reducible refine ge_then_exit ?_ | with_reducible refine ge_then_ret ?_))
      refine gc_perm (List.perm_append_comm_assoc ..) ?_
      refine gc_loop (α := Nat × BfS) (fun s => [(0, true, .pointer (some (ad g))), (5, true, .slice (s.2.q.map ad) s.2.L.length s.2.c), (6, true, .int .i64 (L0.length : Int)), (7, true, .int .i64 (i : Int)), (8, true, .slice (pr.map ad) (rrD l z).length cr), (9, true, .int .i64 (s.1 : Int))])
        (fun s => ow s.2.q true (cat Cell.l s.2.L ++ s.2.sp) 25 ++ (ow pr true (cat Cell.l (rrD l z) ++ spr) 25 ++ [(g3, true, .cells x.l.toArray 25 (0, 0))])) (fun s => s.1 ≤ (rrD l z).length ∧ Cl l x s.2.L ∧ Ow s.2.q s.2.L.length s.2.c 3 (cat Cell.l s.2.L) s.2.sp ∧ Ps l L0 s.2.L i s.1 ∧ (s.2.L = L0 → z = L0.getD i default)) (fun s => (rrD l z).length - s.1) (0, ⟨0, L, q1, c1, sp1⟩) c_frs (List.Sublist.refl _) ⟨Nat.zero_le _, hcl1, ho1, hps, hz⟩ ?_
      clear hz ho1 hcl1 hps hzz hL1 hle1 hiL1 sp1 c1 q1
      rintro ⟨k, ⟨_, L2, q1, c1, sp1⟩⟩ ⟨hk, hcl1, ho1, hps, hz⟩
      dsimp only at hk hcl1 ho1 hps hz ⊢
      have hL1 := hcl1.len
      repeat' first
        | (refine gl_gate ?_; first
          | refine gl_nil ?_
          | (refine gl_any0 ?_; refine gl_pure tab_ok rfl rfl rfl rfl rfl rfl ?_))
        | (refine gc_gate ?_; first
          | refine gc_seq ?_
          | refine gc_region ?_)
        | (refine ge_gate ?_; first
          | ((with_reducible refine ge_gT ?_); first | with_reducible refine ge_then ?_ | with_reducible refine ge_then_exit ?_ | with_reducible refine ge_then_ret ?_))
      (refine gc_cond rfl ?_ ?_ <;> intro h_ <;> have hd_ := h_ <;> (try simp only [bytes_beq, cell_beq, val_beq, stamp_beq, decide_eq_true_eq, decide_eq_false_iff_not, Bool.and_eq_true, Bool.or_eq_true, Bool.or_eq_false_iff, Bool.not_eq_true', Bool.not_eq_false', Bool.not_true, Bool.not_false, Bool.false_or, Bool.true_and, Bool.and_true, Bool.or_false, beq_iff_eq, bne_iff_ne, beq_eq_false_iff_ne, bne_eq_false_iff_eq, ne_eq, Bool.false_eq_true, reduceCtorEq] at hd_) <;> (try (exfalso; omega)))
      · have hkl : k < (rrD l z).length := by omega
        have hyz := getD_mem _ k hkl
        have hps2 := hps.next (y := (rrD l z).getD k default) (fun e => by rw [← hz e])
        have hcl2 := hcl1.into hzr hyz
        have hz2 : intoL L2 ((rrD l z).getD k default) = L0 → z = L0.getD i default := fun e => hz (hps.back e)
        by_cases hin : (rrD l z).getD k default ∈ L2
        · rw [intoL_in hin] at hps2 hcl2 hz2
          repeat' first
            | (refine gl_idx0 ?_; refine gl_yv (yv_idxO tab_ok hwr (gok_none rfl) rfl rfl rfl rfl rfl rfl (fun _ => rfl) (fun _ => rfl) c_bnd) rfl rfl ?_)
            | (refine gl_load0 ?_; refine gl_yv (yv_ldO tab_ok c_oa hwr (gok_none rfl) rfl rfl (fun _ => rfl) (fun _ => lds_cat len_cell (by omega) rfl rfl rfl) c_bnd) rfl rfl ?_)
            | (refine gl_gate ?_; first
              | refine gl_nil ?_
              | (refine gl_add0 ?_; refine gl_yv (yv_add tab_ok (gok_none rfl) rfl rfl rfl rfl (fun _ => allT_of rfl) (by intro _; omega)) rfl rfl ?_)
              | (refine gl_calv0 ?_; first | refine gl_yd (yd_call (gok_none rfl) rfl ent172 rfl rfl (fun _ => allT_of rfl) (fun _ W hW => ct_IntoIn L2 ((rrD l z).getD k default) _ _ _ W rfl (slA_cat len_cell rfl hW c_oa ho1) (by omega) hin)) rfl rfl ?_)
              | (refine gl_any0 ?_; refine gl_pure tab_ok rfl rfl rfl rfl rfl rfl ?_))
            | (refine gc_gate ?_; first
              | refine gc_seq ?_
              | refine gc_region ?_
              | refine gc_block ?_
              | refine gc_skip ?_)
            | (refine ge_gate ?_; first
              | ((with_reducible refine ge_gT ?_); first | with_reducible refine ge_then ?_ | with_reducible refine ge_then_exit ?_ | with_reducible refine ge_then_ret ?_)
              | ((with_reducible refine ge_gK ?_); first | with_reducible refine ge_block ?_ | refine ge_block_exit ?_ | refine ge_block_pass rfl ?_ | with_reducible refine ge_block_ret ?_))
          exact ge_round (k + 1, ⟨0, L2, q1, c1, sp1⟩) ⟨by dsimp only; omega, hcl2, ho1, hps2, hz2⟩ (by show (rrD l z).length - (k + 1) < (rrD l z).length - k; omega) c_frs (List.Sublist.refl _)
        · repeat' first
            | (refine gl_idx0 ?_; refine gl_yv (yv_idxO tab_ok hwr (gok_none rfl) rfl rfl rfl rfl rfl rfl (fun _ => rfl) (fun _ => rfl) c_bnd) rfl rfl ?_)
            | (refine gl_load0 ?_; refine gl_yv (yv_ldO tab_ok c_oa hwr (gok_none rfl) rfl rfl (fun _ => rfl) (fun _ => lds_cat len_cell (by omega) rfl rfl rfl) c_bnd) rfl rfl ?_)
            | (refine gl_gate ?_; first
              | refine gl_nil ?_
              | (refine gl_add0 ?_; refine gl_yv (yv_add tab_ok (gok_none rfl) rfl rfl rfl rfl (fun _ => allT_of rfl) (by intro _; omega)) rfl rfl ?_)
              | (refine gl_any0 ?_; (refine gl_ev (ev_callOw rfl rfl ent172 rfl rfl rfl (fun W hW => ct_IntoNew L2 ((rrD l z).getD k default) _ _ _ W rfl (slA_cat len_cell rfl hW c_oa ho1) (by omega) ho1.le (fun h => ho1.nil (Option.map_eq_none_iff.1 h)) hin) ?_) rfl rfl; intro p_ c_ sp_ hw_))
              | (refine gl_any0 ?_; refine gl_pure tab_ok rfl rfl rfl rfl rfl rfl ?_))
            | (refine gc_gate ?_; first
              | refine gc_seq ?_
              | refine gc_region ?_
              | refine gc_block ?_
              | refine gc_skip ?_)
            | (refine ge_gate ?_; first
              | ((with_reducible refine ge_gT ?_); first | with_reducible refine ge_then ?_ | with_reducible refine ge_then_exit ?_ | with_reducible refine ge_then_ret ?_)
              | ((with_reducible refine ge_gK ?_); first | with_reducible refine ge_block ?_ | refine ge_block_exit ?_ | refine ge_block_pass rfl ?_ | with_reducible refine ge_block_ret ?_))
          exact ge_round (k + 1, ⟨0, intoL L2 ((rrD l z).getD k default), p_, c_, sp_⟩) ⟨by dsimp only; omega, hcl2, hw_, hps2, hz2⟩ (by show (rrD l z).length - (k + 1) < (rrD l z).length - k; omega) c_frs (List.Sublist.append (List.Sublist.refl _) (List.sublist_append_right _ _))
      · repeat' first
          | (refine gl_gate ?_; first
            | refine gl_nil ?_
            | (refine gl_add0 ?_; refine gl_yv (yv_add tab_ok (gok_none rfl) rfl rfl rfl rfl (fun _ => allT_of rfl) (by intro _; omega)) rfl rfl ?_)
            | (refine gl_any0 ?_; refine gl_pure tab_ok rfl rfl rfl rfl rfl rfl ?_))
          | (refine gc_gate ?_; first
            | refine gc_region ?_
            | refine gc_exit ?_)
          | (refine ge_gate ?_; first
            | ((with_reducible refine ge_gT ?_); first | with_reducible refine ge_then ?_ | with_reducible refine ge_then_exit ?_ | with_reducible refine ge_then_ret ?_)
            | ((with_reducible refine ge_gK ?_); first | with_reducible refine ge_block ?_ | refine ge_block_exit ?_ | refine ge_block_pass rfl ?_ | with_reducible refine ge_block_ret ?_))
        have hkl : k = (rrD l z).length := by omega
        exact ge_round (i + 1, ⟨0, L2, q1, c1, sp1⟩) ⟨by dsimp only; omega, hcl1, ho1, hps.row fun e => by rw [← hz e]; exact hkl, ⟩ (by show L0.length - (i + 1) < L0.length - i; omega) c_frs (List.Sublist.append (List.Sublist.refl _) (List.sublist_append_right _ _))
    · repeat' first
        | (refine gc_gate ?_; first
          | refine gc_exit ?_)
        | (refine ge_gate ?_; first
          | ((with_reducible refine ge_gT ?_); first | with_reducible refine ge_then ?_ | with_reducible refine ge_then_exit ?_ | with_reducible refine ge_then_ret ?_)
          | ((with_reducible refine ge_gK ?_); first | with_reducible refine ge_block ?_ | refine ge_block_exit ?_ | refine ge_block_pass rfl ?_ | with_reducible refine ge_block_ret ?_))
      have hiL : i = L0.length := by omega
      subst hiL
      refine ge_round ⟨(L0.length : Int), L, q1, c1, sp1⟩ ⟨hcl1, ho1, fun e => hps.done (by dsimp only at e ⊢; omega) hcl1⟩ ?_ c_frs (List.Sublist.refl _)
      unfold bfM
      dsimp only
      rw [if_neg hne]
      split
      · omega
      · omega
  · have hL : L0 = aft l x := hdn (by simpa using hd_)
    rw [hL] at ho ⊢
    repeat' first
      | (refine gl_gate ?_; first
        | refine gl_nil ?_
        | (refine gl_any0 ?_; refine gl_pure tab_ok rfl rfl rfl rfl rfl rfl ?_))
      | (refine gc_gate ?_; first
        | refine gc_seq ?_
        | refine gc_region ?_
        | refine gc_exit ?_
        | refine gc_ret ?_)
      | (refine ge_gate ?_; first
        | ((with_reducible refine ge_gT ?_); first | with_reducible refine ge_then ?_ | with_reducible refine ge_then_exit ?_ | with_reducible refine ge_then_ret ?_)
        | ((with_reducible refine ge_gK ?_); first | with_reducible refine ge_block ?_ | refine ge_block_exit ?_ | refine ge_block_pass rfl ?_ | with_reducible refine ge_block_ret ?_)
        | ((with_reducible refine ge_gB ?_); first | refine ge_ret1 tab_ok rfl c_rvt ?_ | refine ge_end1 tab_ok rfl c_rvt ?_ | refine ge_ret2 tab_ok rfl c_rvt c_rvt ?_ | refine ge_ret_none rfl ?_ | refine ge_end_none rfl ?_))
    intro W hW
    exact ⟨q, c, sp, rfl, ho, hW.drop (List.sublist_append_left _ _)⟩
end Go.Proofs.Ytkgjfcjciigcgaa
