/-
  RefsTell: which cells, of which sheets, any formula reads.
-/
import Derived.Test.YtkgjfcjciigcgaaGoSheets
namespace Go.Proofs.Ytkgjfcjciigcgaa
open Go.Proofs.Ytkgjfcjciigcgaa.Sl Go.RowKit
set_option linter.unusedVariables false
set_option linter.unusedSimpArgs false
set_option maxRecDepth 100000

mutual
def areasN : Node → Int
  | .mk k _ _ _ _ _ kids => areasL kids (if k = 3 then 1 else 0)
def areasL : List Node → Int → Int
  | [], s => s
  | k :: ks, s => areasL ks (IntKind.i64.wrap (s + areasN k))
end
theorem areasN_eq (t : Node) : areasN t = areasL t.kids (if t.kind = 3 then 1 else 0) := by cases t; rw [areasN]; rfl
theorem areasL_snoc : ∀ (l : List Node) (k : Node) (s : Int), areasL (l ++ [k]) s = IntKind.i64.wrap (areasL l s + areasN k)
  | [], k, s => by simp [areasL]
  | x :: r, k, s => by rw [List.cons_append, areasL, areasL, areasL_snoc r]
theorem ct_areas {S : Nat → Prop} : ∀ (t : Node) (p : Option Addr) (c : Nat) (w : World), NodeR S w t p → t.count ≤ 1000000 → Calls Try.prog 98 #[.agg (t.l p c).toArray] w fun e w' => e = .returned (.int .i64 (areasN t)) ∧ Bl w w' := by
  intro t
  induction t using Node.ind with
  | h t ih =>
  intro p c w hR hcnt
  obtain ⟨hs, hS, hk⟩ := hR
  rename_i kp kc
  have hkl := t.kids_len
  refine enter (args := [_]) (M := []) (K := []) Try.func98 rfl Try.ntmps98 rfl (St.refl _ _) ?_
  repeat' first
    | (refine gl_gate ?_; first
      | refine gl_nil ?_
      | (refine gl_load0 ?_; refine gl_yv (yv_load tab_ok (gok_none rfl) rfl rfl (fun _ => rfl) c_mem (fun _ => c_lds)) rfl rfl ?_)
      | (refine gl_box0 ?_; first | (refine gl_box_agg rfl rfl rfl rfl rfl ?_; intro g_ hg_) | (refine gl_box_one rfl rfl rfl rfl rfl rfl ?_; intro g_ hg_) | (refine gl_box rfl rfl rfl rfl rfl ?_; intro g_ hg_))
      | (refine gl_any0 ?_; refine gl_pure tab_ok rfl rfl rfl rfl rfl rfl ?_))
    | (refine gc_gate ?_; first
      | refine gc_seq ?_
      | refine gc_region ?_)
    | (refine ge_gate ?_; first
      | ((with_reducible refine ge_gT ?_); first | with_reducible refine ge_then ?_ | with_reducible refine ge_then_exit ?_ | with_reducible refine ge_then_ret ?_))
  refine gc_cut (σ := Unit) (fun _ => [(1, true, .pointer (some ⟨g_, 0, none⟩)), (3, true, .int .i64 (if t.kind = 3 then 1 else 0))]) (fun _ => [(g_, true, .cells (t.l p c).toArray 28 (0, 0))]) (fun _ => True) ?_ ?_
  · (refine gc_cond rfl ?_ ?_ <;> intro h_ <;> have hd_ := h_ <;> (try simp only [bytes_beq, cell_beq, val_beq, stamp_beq, decide_eq_true_eq, decide_eq_false_iff_not, Bool.and_eq_true, Bool.or_eq_true, Bool.or_eq_false_iff, Bool.not_eq_true', Bool.not_eq_false', Bool.not_true, Bool.not_false, Bool.false_or, Bool.true_and, Bool.and_true, Bool.or_false, beq_iff_eq, bne_iff_ne, beq_eq_false_iff_ne, bne_eq_false_iff_eq, ne_eq, Bool.false_eq_true, reduceCtorEq] at hd_) <;> (try (exfalso; omega)))
    · rw [if_pos hd_]
      repeat' first
        | (refine gl_gate ?_; first
          | refine gl_nil ?_
          | (refine gl_any0 ?_; refine gl_pure tab_ok rfl rfl rfl rfl rfl rfl ?_))
        | (refine gc_gate ?_; first
          | refine gc_region ?_)
      exact ge_mid () trivial c_frs (List.Sublist.refl _)
    · rw [if_neg hd_]
      repeat' first
        | (refine gc_gate ?_; first
          | refine gc_skip ?_)
      exact ge_mid () trivial c_frs (List.Sublist.refl _)
  rintro _ _
  repeat' first
    | (refine gl_gate ?_; first
      | refine gl_nil ?_
      | (refine gl_any0 ?_; refine gl_pure tab_ok rfl rfl rfl rfl rfl rfl ?_))
    | (refine gc_gate ?_; first
      | refine gc_seq ?_
      | refine gc_region ?_
      | refine gc_block ?_)
    | (refine ge_gate ?_; first
      | ((with_reducible refine ge_gT ?_); first | with_reducible refine ge_then ?_ | with_reducible refine ge_then_exit ?_ | with_reducible refine ge_then_ret ?_))
  refine gc_loop (α := Nat) (fun i => [(1, true, .pointer (some ⟨g_, 0, none⟩)), (3, true, .int .i64 (areasL (t.kids.take i) (if t.kind = 3 then 1 else 0))), (4, true, .int .i64 (i : Int))]) (fun _ => [(g_, true, .cells (t.l p c).toArray 28 (0, 0))]) (fun i => i ≤ t.kids.length) (fun i => t.kids.length - i) 0 c_frs (List.Sublist.refl _) (Nat.zero_le _) ?_
  intro i hi
  repeat' first
    | (refine gl_gate ?_; first
      | refine gl_nil ?_
      | (refine gl_load0 ?_; refine gl_yv (yv_load tab_ok (gok_none rfl) rfl rfl (fun _ => rfl) c_mem (fun _ => c_lds)) rfl rfl ?_)
      | (refine gl_any0 ?_; refine gl_pure tab_ok rfl rfl rfl rfl rfl rfl ?_))
    | (refine gc_gate ?_; first
      | refine gc_seq ?_
      | refine gc_region ?_)
    | (refine ge_gate ?_; first
      | ((with_reducible refine ge_gT ?_); first | with_reducible refine ge_then ?_ | with_reducible refine ge_then_exit ?_ | with_reducible refine ge_then_ret ?_))
  (refine gc_cond rfl ?_ ?_ <;> intro h_ <;> have hd_ := h_ <;> (try simp only [bytes_beq, cell_beq, val_beq, stamp_beq, decide_eq_true_eq, decide_eq_false_iff_not, Bool.and_eq_true, Bool.or_eq_true, Bool.or_eq_false_iff, Bool.not_eq_true', Bool.not_eq_false', Bool.not_true, Bool.not_false, Bool.false_or, Bool.true_and, Bool.and_true, Bool.or_false, beq_iff_eq, bne_iff_ne, beq_eq_false_iff_ne, bne_eq_false_iff_eq, ne_eq, Bool.false_eq_true, reduceCtorEq] at hd_) <;> (try (exfalso; omega)))
  · have hkid := getD_mem t.kids i (by omega)
    have hkc := Node.kid_count hkid
    repeat' first
      | (refine gl_gate ?_; first
        | refine gl_nil ?_
        | (refine gl_load0 ?_; refine gl_yv (yv_load tab_ok (gok_none rfl) rfl rfl (fun _ => rfl) c_mem (fun _ => c_lds)) rfl rfl ?_)
        | (refine gl_add0 ?_; refine gl_yv (yv_add tab_ok (gok_none rfl) rfl rfl rfl rfl (fun _ => allT_of rfl) (by intro _; omega)) rfl rfl ?_)
        | (refine gl_idx0 ?_; refine gl_yv (yv_idxA tab_ok hs (gok_none rfl) rfl rfl rfl rfl rfl rfl (fun _ => rfl) (fun _ => rfl) c_bnd) rfl rfl ?_)
        | (refine gl_load0 ?_; refine gl_yv (yv_ldA0 tab_ok hs c_nm (gok_none rfl) rfl rfl (fun _ => rfl) c_bnd (fun _ => c_lds)) rfl rfl ?_)
        | (refine gl_calv0 ?_; first | refine gl_yd (yd_call (gok_none rfl) rfl ent98 rfl rfl (fun _ => allT_of rfl) (fun _ W hW => ih _ hkid (kp i) (kc i) W ((hk i (by omega)).st hW) (by omega))) rfl rfl ?_)
        | (refine gl_any0 ?_; refine gl_pure tab_ok rfl rfl rfl rfl rfl rfl ?_))
      | (refine gc_gate ?_; first
        | refine gc_seq ?_
        | refine gc_region ?_
        | refine gc_block ?_
        | refine gc_skip ?_)
      | (refine ge_gate ?_; first
        | ((with_reducible refine ge_gT ?_); first | with_reducible refine ge_then ?_ | with_reducible refine ge_then_exit ?_ | with_reducible refine ge_then_ret ?_)
        | ((with_reducible refine ge_gK ?_); first | with_reducible refine ge_block ?_ | refine ge_block_exit ?_ | refine ge_block_pass rfl ?_ | with_reducible refine ge_block_ret ?_))
    refine ge_round (i + 1) (by omega) (by omega) ?_ (List.Sublist.refl _)
    rw [take_succD _ _ (by omega), areasL_snoc]
    exact c_frs
  · have hi2 : i = t.kids.length := by omega
    subst hi2
    rw [List.take_length, ← areasN_eq]
    repeat' first
      | (refine gl_gate ?_; first
        | refine gl_nil ?_
        | (refine gl_any0 ?_; refine gl_pure tab_ok rfl rfl rfl rfl rfl rfl ?_))
      | (refine gc_gate ?_; first
        | refine gc_seq ?_
        | refine gc_region ?_
        | refine gc_exit ?_
        | refine gc_ret ?_)
      | (refine ge_gate ?_; first
        | ((with_reducible refine ge_gT ?_); first | with_reducible refine ge_then ?_ | with_reducible refine ge_then_exit ?_ | with_reducible refine ge_then_ret ?_)
        | ((with_reducible refine ge_gK ?_); first | with_reducible refine ge_block ?_ | refine ge_block_exit ?_ | refine ge_block_pass rfl ?_ | with_reducible refine ge_block_ret ?_)
        | ((with_reducible refine ge_gB ?_); first | refine ge_ret1 tab_ok rfl c_rvt ?_ | refine ge_end1 tab_ok rfl c_rvt ?_ | refine ge_ret2 tab_ok rfl c_rvt c_rvt ?_ | refine ge_ret_none rfl ?_ | refine ge_end_none rfl ?_))
    intro W hW
    exact ⟨rfl, hW.below0⟩
theorem ct_SameT (w : World) {l m : List Cell} (hlm : l = m) (p q : Option Addr) (n k cap cap' : Nat) (hn : n = l.length) (hk : k = m.length) (hs : SlA w 3 p n (fun i => (l.getD i default).l)) (hs' : SlA w 3 q k (fun i => (m.getD i default).l)) (hl : n ≤ 4611686018427387904) : Calls Try.prog 51 #[.slice p n cap, .slice q k cap'] w fun e w' => e = .returned (.bool true) ∧ Bl w w' := by
  have := ct_SameCells w l m p q n k cap cap' hn hk hs hs' hl (by subst hlm; omega)
  rw [decide_eq_true hlm] at this
  exact this
theorem walk_RefsTell (t : Node) (p : Option Addr) (cp : Nat) (d : Cell) (w : World) (S : Nat → Prop) (hR : NodeR S w t p) : Calls Try.prog 20 #[.agg (t.l p cp).toArray, .agg d.l.toArray] w fun e w' => e = .returned (.bool true) ∧ Bl w w' := by
  refine enter (args := [_, _]) (M := []) (K := []) Try.func20 rfl Try.ntmps20 rfl (St.refl _ _) ?_
  repeat' first
    | (refine gl_calvG ?_; refine gl_yd (yd_call c_gok rfl ent98 rfl rfl c_allT (fun hq_ W hW => ct_areas t p cp W (hR.st hW) (by have := Node.few_count (n := t) (by simpa using hq_); omega))) rfl rfl ?_)
    | (refine gl_gate ?_; first
      | refine gl_nil ?_
      | (refine gl_calv0 ?_; first | refine gl_yd (yd_call (gok_none rfl) rfl ent88 rfl rfl (fun _ => allT_of rfl) (fun _ W hW => ct_aliveR W)) rfl rfl ?_ | refine gl_yd (yd_call (gok_none rfl) rfl ent33 rfl rfl (fun _ => allT_of rfl) (fun _ W hW => ct_Few t p cp W (hR.st hW))) rfl rfl ?_)
      | (refine gl_calvG ?_; first | refine gl_yd (yd_call c_gok rfl ent88 rfl rfl c_allT (fun _ W hW => ct_aliveR W)) rfl rfl ?_ | refine gl_yd (yd_call c_gok rfl ent33 rfl rfl c_allT (fun _ W hW => ct_Few t p cp W (hR.st hW))) rfl rfl ?_)
      | (refine gl_pick0 ?_; first | refine gl_yv (yv_and (gok_none rfl) rfl rfl rfl (fun _ => rfl) c_imp2) rfl rfl ?_ | refine gl_yv (yv_or (gok_none rfl) rfl rfl rfl (fun _ => rfl) c_imp2) rfl rfl ?_)
      | (refine gl_loadG ?_; refine gl_yv (yv_load tab_ok c_gok rfl rfl c_imp c_mem (fun _ => c_lds)) rfl rfl ?_)
      | (refine gl_box0 ?_; first | (refine gl_box_agg rfl rfl rfl rfl rfl ?_; intro g_ hg_) | (refine gl_box_one rfl rfl rfl rfl rfl rfl ?_; intro g_ hg_) | (refine gl_box rfl rfl rfl rfl rfl ?_; intro g_ hg_))
      | (refine gl_any0 ?_; refine gl_pure tab_ok rfl rfl rfl rfl rfl rfl ?_)
      | (refine gl_anyG ?_; first | refine gl_yv (yv_pure tab_ok c_gok rfl rfl c_allT) rfl rfl ?_ | refine gl_yv (yv_indexS tab_ok c_gok rfl rfl rfl rfl c_imp c_imp (by intro hq_; (try simp only [Bool.and_eq_true, Bool.not_eq_true', Bool.not_eq_false', Bool.or_eq_false_iff, Bool.or_eq_true, decide_eq_true_eq, decide_eq_false_iff_not, Bool.true_and, Bool.and_true] at hq_); omega)) rfl rfl ?_ | refine gl_yv (yv_indexS (i := 0) tab_ok c_gok rfl rfl rfl rfl c_imp c_imp (by intro hq_; (try simp only [Bool.and_eq_true, Bool.not_eq_true', Bool.not_eq_false', Bool.or_eq_false_iff, Bool.or_eq_true, decide_eq_true_eq, decide_eq_false_iff_not, Bool.true_and, Bool.and_true] at hq_); omega)) rfl rfl ?_))
    | (refine gc_gate ?_; first
      | refine gc_seq ?_
      | refine gc_region ?_)
    | (refine ge_gate ?_; first
      | ((with_reducible refine ge_gT ?_); first | with_reducible refine ge_then ?_ | with_reducible refine ge_then_exit ?_ | with_reducible refine ge_then_ret ?_))
  (refine gc_cond rfl ?_ ?_ <;> intro h_ <;> have hd_ := h_ <;> (try simp only [bytes_beq, cell_beq, val_beq, stamp_beq, decide_eq_true_eq, decide_eq_false_iff_not, Bool.and_eq_true, Bool.or_eq_true, Bool.or_eq_false_iff, Bool.not_eq_true', Bool.not_eq_false', Bool.not_true, Bool.not_false, Bool.false_or, Bool.true_and, Bool.and_true, Bool.or_false, beq_iff_eq, bne_iff_ne, beq_eq_false_iff_ne, bne_eq_false_iff_eq, ne_eq, Bool.false_eq_true, reduceCtorEq] at hd_) <;> (try (exfalso; omega)))
  · repeat' first
      | (refine gl_gate ?_; first
        | refine gl_nil ?_
        | (refine gl_any0 ?_; refine gl_pure tab_ok rfl rfl rfl rfl rfl rfl ?_))
      | (refine gc_gate ?_; first
        | refine gc_seq ?_
        | refine gc_region ?_
        | refine gc_ret ?_)
      | (refine ge_gate ?_; first
        | ((with_reducible refine ge_gT ?_); first | with_reducible refine ge_then ?_ | with_reducible refine ge_then_exit ?_ | with_reducible refine ge_then_ret ?_)
        | ((with_reducible refine ge_gB ?_); first | refine ge_ret1 tab_ok rfl c_rvt ?_ | refine ge_end1 tab_ok rfl c_rvt ?_ | refine ge_ret2 tab_ok rfl c_rvt c_rvt ?_ | refine ge_ret_none rfl ?_ | refine ge_end_none rfl ?_))
    intro W hW
    exact ⟨rfl, hW.below0⟩
  have hc : t.count ≤ 400 := Node.few_count hd_.1
  have hrl := readsR_len t
  have hcl := readsR_cells t
  have hsl : (shts t).length ≤ 160000 := by
    have := sheetsOf_len ((cellsT t).map Cell.sheet)
    rw [hcl, List.length_map] at this
    unfold shts
    rw [hcl]
    omega
  revert g_
  intro g3 hg3
  repeat' first
    | (refine gl_gate ?_; first
      | refine gl_nil ?_
      | (refine gl_load0 ?_; refine gl_yv (yv_load tab_ok (gok_none rfl) rfl rfl (fun _ => rfl) c_mem (fun _ => c_lds)) rfl rfl ?_)
      | (refine gl_any0 ?_; (refine gl_ev (ev_callOw rfl rfl ent99 rfl rfl rfl (fun W hW => ct_ReadsR t p cp W (hR.st hW) (by omega)) ?_) rfl rfl; intro q6 c6 sp6 hw6))
      | (refine gl_any0 ?_; (refine gl_ev (ev_callOw rfl rfl ent100 rfl rfl rfl (fun W hW => ct_Sheets t p cp W (hR.st hW) (by omega)) ?_) rfl rfl; intro q7 c7 sp7 hw7))
      | (refine gl_any0 ?_; (refine gl_ev (ev_callOw rfl rfl ent101 rfl rfl rfl (fun W hW => ct_SheetsR t p cp W (hR.st hW) (by omega)) ?_) rfl rfl; intro q8 c8 sp8 hw8))
      | (refine gl_any0 ?_; refine gl_pure tab_ok rfl rfl rfl rfl rfl rfl ?_))
    | (refine gc_gate ?_; first
      | refine gc_seq ?_
      | refine gc_region ?_
      | refine gc_skip ?_)
    | (refine ge_gate ?_; first
      | ((with_reducible refine ge_gT ?_); first | with_reducible refine ge_then ?_ | with_reducible refine ge_then_exit ?_ | with_reducible refine ge_then_ret ?_))
  (refine gc_cond rfl ?_ ?_ <;> intro h_ <;> have hd_ := h_ <;> (try simp only [bytes_beq, cell_beq, val_beq, stamp_beq, decide_eq_true_eq, decide_eq_false_iff_not, Bool.and_eq_true, Bool.or_eq_true, Bool.or_eq_false_iff, Bool.not_eq_true', Bool.not_eq_false', Bool.not_true, Bool.not_false, Bool.false_or, Bool.true_and, Bool.and_true, Bool.or_false, beq_iff_eq, bne_iff_ne, beq_eq_false_iff_ne, bne_eq_false_iff_eq, ne_eq, Bool.false_eq_true, reduceCtorEq] at hd_) <;> (try (exfalso; omega)))
  · first | exact absurd rfl hd_ | exact absurd trivial hd_
  repeat' first
    | (refine gl_gate ?_; first
      | refine gl_nil ?_
      | (refine gl_any0 ?_; refine gl_pure tab_ok rfl rfl rfl rfl rfl rfl ?_))
    | (refine gc_gate ?_; first
      | refine gc_seq ?_
      | refine gc_region ?_
      | refine gc_block ?_
      | refine gc_skip ?_)
    | (refine ge_gate ?_; first
      | ((with_reducible refine ge_gT ?_); first | with_reducible refine ge_then ?_ | with_reducible refine ge_then_exit ?_ | with_reducible refine ge_then_ret ?_))
  generalize hL : readsR t = L at *
  generalize hY : shts t = Y at *
  refine gc_loop (α := Nat) (fun i => [(2, true, .pointer (some ⟨g_, 0, none⟩)), (3, true, .pointer (some ⟨g3, 0, none⟩)), (6, true, .slice (q6.map ad) L.length c6), (7, true, .slice (q7.map ad) Y.length c7), (8, true, .slice (q8.map ad) Y.length c8), (9, true, .int .i64 (i : Int))])
    (fun _ => ow q8 true (cat S1 Y ++ sp8) 9 ++ (ow q7 true (cat S1 Y ++ sp7) 9 ++ (ow q6 true (cat Cell.l L ++ sp6) 25 ++ [(g3, true, .cells d.l.toArray 25 (0, 0)), (g_, true, .cells (t.l p cp).toArray 28 (0, 0))]))) (fun i => i ≤ Y.length) (fun i => Y.length - i) 0 c_frs (List.Sublist.refl _) (Nat.zero_le _) ?_
  intro i hi
  repeat' first
    | (refine gl_gate ?_; first
      | refine gl_nil ?_
      | (refine gl_any0 ?_; refine gl_pure tab_ok rfl rfl rfl rfl rfl rfl ?_))
    | (refine gc_gate ?_; first
      | refine gc_seq ?_
      | refine gc_region ?_)
    | (refine ge_gate ?_; first
      | ((with_reducible refine ge_gT ?_); first | with_reducible refine ge_then ?_ | with_reducible refine ge_then_exit ?_ | with_reducible refine ge_then_ret ?_))
  (refine gc_cond rfl ?_ ?_ <;> intro h_ <;> have hd_ := h_ <;> (try simp only [bytes_beq, cell_beq, val_beq, stamp_beq, decide_eq_true_eq, decide_eq_false_iff_not, Bool.and_eq_true, Bool.or_eq_true, Bool.or_eq_false_iff, Bool.not_eq_true', Bool.not_eq_false', Bool.not_true, Bool.not_false, Bool.false_or, Bool.true_and, Bool.and_true, Bool.or_false, beq_iff_eq, bne_iff_ne, beq_eq_false_iff_ne, bne_eq_false_iff_eq, ne_eq, Bool.false_eq_true, reduceCtorEq] at hd_) <;> (try (exfalso; omega)))
  · repeat' first
      | (refine gq_idx0 ?_; refine gq_yv (yv_idxO tab_ok hw7 (gok_none rfl) rfl rfl rfl rfl rfl rfl (fun _ => rfl) (fun _ => rfl) c_bnd) rfl rfl ?_)
      | (refine gq_idx0 ?_; refine gq_yv (yv_idxO tab_ok hw8 (gok_none rfl) rfl rfl rfl rfl rfl rfl (fun _ => rfl) (fun _ => rfl) c_bnd) rfl rfl ?_)
      | (refine gq_load0 ?_; refine gq_yv (yv_ldO tab_ok c_oa hw7 (gok_none rfl) rfl rfl (fun _ => rfl) (fun _ => lds_S1' (by omega)) c_bnd) rfl rfl ?_)
      | (refine gq_load0 ?_; refine gq_yv (yv_ldO tab_ok c_oa hw8 (gok_none rfl) rfl rfl (fun _ => rfl) (fun _ => lds_S1' (by omega)) c_bnd) rfl rfl ?_)
      | (refine gc_gate ?_; first
        | refine gc_seq ?_
        | refine gc_quietRo rfl mixed (by decide +kernel) ?_
        | refine gc_block ?_
        | refine gc_skip ?_)
      | (refine ge_gate ?_; first
        | ((with_reducible refine ge_gT ?_); first | with_reducible refine ge_then ?_ | with_reducible refine ge_then_exit ?_ | with_reducible refine ge_then_ret ?_))
      | (refine gq_gate ?_; first
        | refine gq_nil ?_
        | (refine gq_any0 ?_; refine gq_pure tab_ok rfl rfl rfl rfl rfl rfl ?_))
    (refine gc_cond rfl ?_ ?_ <;> intro h_ <;> have hd_ := h_ <;> (try simp only [bytes_beq, cell_beq, val_beq, stamp_beq, decide_eq_true_eq, decide_eq_false_iff_not, Bool.and_eq_true, Bool.or_eq_true, Bool.or_eq_false_iff, Bool.not_eq_true', Bool.not_eq_false', Bool.not_true, Bool.not_false, Bool.false_or, Bool.true_and, Bool.and_true, Bool.or_false, beq_iff_eq, bne_iff_ne, beq_eq_false_iff_ne, bne_eq_false_iff_eq, ne_eq, Bool.false_eq_true, reduceCtorEq] at hd_) <;> (try (exfalso; omega)))
    · first | exact absurd rfl hd_ | exact absurd trivial hd_
    · repeat' first
        | (refine gl_gate ?_; first
          | refine gl_nil ?_
          | (refine gl_add0 ?_; refine gl_yv (yv_add tab_ok (gok_none rfl) rfl rfl rfl rfl (fun _ => allT_of rfl) (by intro _; omega)) rfl rfl ?_)
          | (refine gl_any0 ?_; refine gl_pure tab_ok rfl rfl rfl rfl rfl rfl ?_))
        | (refine gc_gate ?_; first
          | refine gc_region ?_
          | refine gc_skip ?_)
        | (refine ge_gate ?_; first
          | ((with_reducible refine ge_gT ?_); first | with_reducible refine ge_then ?_ | with_reducible refine ge_then_exit ?_ | with_reducible refine ge_then_ret ?_)
          | ((with_reducible refine ge_gK ?_); first | with_reducible refine ge_block ?_ | refine ge_block_exit ?_ | refine ge_block_pass rfl ?_ | with_reducible refine ge_block_ret ?_))
      exact ge_round (i + 1) (by omega) (by omega) c_frs (List.Sublist.refl _)
  repeat' first
    | (refine gc_gate ?_; first
      | refine gc_seq ?_
      | refine gc_exit ?_)
    | (refine ge_gate ?_; first
      | ((with_reducible refine ge_gT ?_); first | with_reducible refine ge_then ?_ | with_reducible refine ge_then_exit ?_ | with_reducible refine ge_then_ret ?_)
      | ((with_reducible refine ge_gK ?_); first | with_reducible refine ge_block ?_ | refine ge_block_exit ?_ | refine ge_block_pass rfl ?_ | with_reducible refine ge_block_ret ?_))
  refine gp_start [] #[false, false, false, false, false, false, false, false, false, false, false, false, false, false] mixed rfl rfl c_qp ?_; intro hqp_
  refine gp_take 0 #[true, false, false, false, false, false, false, false, false, false, false, false, false, false] hqp_ rfl (by kernel_rfl) (yv_load tab_ok c_gok rfl rfl c_imp c_mem (fun _ => c_lds)) c_cl rfl rfl ?_
  refine gp_take 2 #[true, false, true, false, false, false, false, false, false, false, false, false, false, false] hqp_ rfl (by kernel_rfl) (yv_pure tab_ok c_gok rfl rfl c_allT) c_cl rfl rfl ?_
  (refine gp_ev 1 #[true, true, true, false, false, false, false, false, false, false, false, false, false, false] rfl (by kernel_rfl) rfl rfl rfl (ev_callOw rfl rfl ent90 rfl rfl rfl (fun W hW => ct_Cells t p cp W (hR.st hW) (by omega)) ?_); intro p_ c_ sp_ hw_; refine ⟨c_cl, ?_⟩)
  refine gp_ev 3 #[true, true, true, true, false, false, false, false, false, false, false, false, false, false] rfl (by kernel_rfl) rfl rfl rfl (ev_callq rfl rfl ent51 rfl rfl rfl (fun W hW => ct_SameT W hcl _ _ _ _ _ _ rfl rfl (slA_cat len_cell rfl hW c_oa (by assumption)) (slA_cat len_cell rfl hW c_oa hw6) (by rw [hcl]; omega)) ⟨c_cl, ?_⟩)
  refine gp_take 4 #[true, true, true, true, true, false, false, false, false, false, false, false, false, false] hqp_ rfl (by kernel_rfl) (yv_pure tab_ok c_gok rfl rfl c_allT) c_cl rfl rfl ?_
  refine gp_take 5 #[true, true, true, true, true, true, false, false, false, false, false, false, false, false] hqp_ rfl (by kernel_rfl) (yv_load tab_ok c_gok rfl rfl c_imp c_mem (fun _ => c_lds)) c_cl rfl rfl ?_
  refine gp_take 6 #[true, true, true, true, true, true, true, false, false, false, false, false, false, false] hqp_ rfl (by kernel_rfl) (yv_load tab_ok c_gok rfl rfl c_imp c_mem (fun _ => c_lds)) c_cl rfl rfl ?_
  refine gp_take 8 #[true, true, true, true, true, true, true, false, true, false, false, false, false, false] hqp_ rfl (by kernel_rfl) (yv_pure tab_ok c_gok rfl rfl c_allT) c_cl rfl rfl ?_
  refine gp_take 9 #[true, true, true, true, true, true, true, false, true, true, false, false, false, false] hqp_ rfl (by kernel_rfl) (yv_load tab_ok c_gok rfl rfl c_imp c_mem (fun _ => c_lds)) c_cl rfl rfl ?_
  refine gp_evG 7 #[true, true, true, true, true, true, true, true, true, true, false, false, false, false] rfl (by kernel_rfl) rfl rfl rfl c_gok (ev_callq rfl rfl ent92 rfl rfl rfl (fun W hW => ct_Reads t p cp d W (hR.st hW) (by omega)) ⟨c_cl, ?_⟩)
  refine gp_evG 10 #[true, true, true, true, true, true, true, true, true, true, true, false, false, false] rfl (by kernel_rfl) rfl rfl rfl c_gok (ev_callq rfl rfl ent54 rfl rfl rfl (fun W hW => ct_Has W L d _ _ _ rfl (slA_cat len_cell rfl hW c_oa hw6) (by omega)) ⟨c_cl, ?_⟩)
  refine gp_take 11 #[true, true, true, true, true, true, true, true, true, true, true, true, false, false] hqp_ rfl (by kernel_rfl) (((yv_pure tab_ok c_gok rfl rfl c_allT).cast (v' := .bool true) (by rw [hcl]; simp))) c_cl rfl rfl ?_
  refine gp_take 12 #[true, true, true, true, true, true, true, true, true, true, true, true, true, false] hqp_ rfl (by kernel_rfl) (yv_and c_gok rfl rfl rfl c_imp c_imp2) c_cl rfl rfl ?_
  refine gp_take 13 #[true, true, true, true, true, true, true, true, true, true, true, true, true, true] hqp_ rfl (by kernel_rfl) (yv_pure tab_ok c_gok rfl rfl c_allT) c_cl rfl rfl ?_
  refine gp_done (by kernel_rfl) ?_; clear hqp_
  repeat' first
    | (refine gc_gate ?_; first
      | refine gc_ret ?_)
    | (refine ge_gate ?_; first
      | ((with_reducible refine ge_gT ?_); first | with_reducible refine ge_then ?_ | with_reducible refine ge_then_exit ?_ | with_reducible refine ge_then_ret ?_)
      | ((with_reducible refine ge_gB ?_); first | refine ge_ret1 tab_ok rfl c_rvt ?_ | refine ge_end1 tab_ok rfl c_rvt ?_ | refine ge_ret2 tab_ok rfl c_rvt c_rvt ?_ | refine ge_ret_none rfl ?_ | refine ge_end_none rfl ?_))
  intro W hW
  exact ⟨rfl, hW.below0⟩
theorem law_RefsTell (W : World) {b0 b1 : Nat} {v0 v1 : Value} (o0 : Value.okWide Try.prog W .any b0 28 v0) (o1 : Value.okWide Try.prog W .any b1 25 v1)
    (r0 : ∃ m, Rd tab W m 28 v0.cells.toList) (r1 : ∃ m, Rd tab W m 25 v1.cells.toList) : Calls Try.prog 20 #[v0, v1] W fun e w' => e = .returned (.bool true) ∧ Bl W w' := by
  obtain ⟨cs, rfl⟩ := arg_struct tab_ok (t := 28) rfl o0
  obtain ⟨cs', rfl⟩ := arg_struct tab_ok (t := 25) rfl o1
  obtain ⟨m0, r0⟩ := r0
  obtain ⟨m1, r1⟩ := r1
  obtain ⟨t, p, c, h0, hR⟩ := rdNode m0 _ r0
  obtain ⟨d, h1, _⟩ := rdCell r1
  have h0' : cs = t.l p c := by simpa [Value.cells] using h0
  have h1' : cs' = d.l := by simpa [Value.cells] using h1
  subst h0'
  subst h1'
  exact walk_RefsTell t p c d W All hR
end Go.Proofs.Ytkgjfcjciigcgaa
