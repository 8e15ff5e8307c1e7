/-
  The reference's See, Shows, Delta and Play.
-/
import Derived.Test.YtkgjfcjciigcgaaGoView
import Derived.Test.YtkgjfcjciigcgaaGoRo
namespace Go.Proofs.Ytkgjfcjciigcgaa
open Go.Proofs.Ytkgjfcjciigcgaa.Sl Go.RowKit
set_option linter.unusedVariables false
set_option linter.unusedSimpArgs false
set_option linter.unusedSectionVars false
set_option maxRecDepth 100000

theorem ct_SeeR (a b : Cell) (l : List Shown) (p : Option Addr) (n cap : Nat) (w : World) (hn : n = l.length) (hs : SlA w 6 p n (fun i => (l.getD i default).l)) (hl : n ≤ 1000000000) : Calls Try.prog 104 #[.agg (a.l ++ b.l).toArray, .slice p n cap] w (RetOw w (seeL a b l).length 6 (cat Shown.l (seeL a b l)) 120) := by
  refine enter (args := [_, _]) (M := []) (K := []) Try.func104 rfl Try.ntmps104 rfl (St.refl _ _) ?_
  repeat' first
    | (refine gl_gate ?_; first
      | refine gl_nil ?_
      | (refine gl_box0 ?_; first | (refine gl_box_agg rfl rfl rfl rfl rfl ?_; intro g_ hg_) | (refine gl_box_one rfl rfl rfl rfl rfl rfl ?_; intro g_ hg_) | (refine gl_box rfl rfl rfl rfl rfl ?_; intro g_ hg_))
      | (refine gl_any0 ?_; refine gl_pure tab_ok rfl rfl rfl rfl rfl rfl ?_))
    | (refine gc_gate ?_; first
      | refine gc_seq ?_
      | refine gc_region ?_
      | refine gc_block ?_)
    | (refine ge_gate ?_; first
      | ((with_reducible refine ge_gT ?_); first | with_reducible refine ge_then ?_ | with_reducible refine ge_then_exit ?_ | with_reducible refine ge_then_ret ?_))
  refine gc_loop (α := Nat × Option Nat × Nat × List Value) (fun x => [(1, true, .slice p n cap), (2, true, .pointer (some ⟨g_, 0, none⟩)), (5, true, .slice (x.2.1.map ad) (seeL a b (l.take x.1)).length x.2.2.1), (6, true, .int .i64 (x.1 : Int))])
    (fun x => ow x.2.1 true (cat Shown.l (seeL a b (l.take x.1)) ++ x.2.2.2) 120 ++ [(g_, true, .cells (a.l ++ b.l).toArray 55 (0, 0))]) (fun x => x.1 ≤ n ∧ Ow x.2.1 (seeL a b (l.take x.1)).length x.2.2.1 6 (cat Shown.l (seeL a b (l.take x.1))) x.2.2.2) (fun x => n - x.1) (0, none, 0, []) c_frs (List.Sublist.refl _) ⟨Nat.zero_le _, Ow.none0⟩ ?_
  rintro ⟨i, q, c, sp⟩ ⟨hi, ho⟩
  dsimp only at hi ho ⊢
  have hll : (seeL a b (l.take i)).length ≤ 1000000000 := by have := seeL_len a b (l.take i); rw [List.length_take] at this; omega
  repeat' first
    | (refine gl_gate ?_; first
      | refine gl_nil ?_
      | (refine gl_add0 ?_; refine gl_yv (yv_add tab_ok (gok_none rfl) rfl rfl rfl rfl (fun _ => allT_of rfl) (by intro _; omega)) rfl rfl ?_)
      | (refine gl_idx0 ?_; refine gl_yv (yv_idxA tab_ok hs (gok_none rfl) rfl rfl rfl rfl rfl rfl (fun _ => rfl) (fun _ => rfl) c_bnd) rfl rfl ?_)
      | (refine gl_load0 ?_; refine gl_yv (yv_ldA0 tab_ok hs c_nm (gok_none rfl) rfl rfl (fun _ => rfl) c_bnd (fun _ => c_lds)) rfl rfl ?_)
      | (refine gl_app0 ?_; (refine gl_ev (ev_append tab_ok rfl rfl rfl rfl rfl rfl rfl rfl c_oa (ho) (c_src) c_lim c_lim ?_) rfl rfl; intro p_ c_ sp_ hw_))
      | (refine gl_bld0 ?_; (refine gl_ev (ev_buildSlice tab_ok rfl rfl rfl rfl rfl rfl rfl rfl rfl rfl ?_) rfl rfl; intro g_ hg_))
      | (refine gl_any0 ?_; refine gl_pure tab_ok rfl rfl rfl rfl rfl rfl ?_))
    | (refine gc_gate ?_; first
      | refine gc_seq ?_
      | refine gc_region ?_
      | refine gc_quietRo rfl mixed (by decide +kernel) ?_
      | (refine gc_cond rfl ?_ ?_ <;> intro h_ <;> have hd_ := h_ <;> (try simp only [bytes_beq, cell_beq, val_beq, stamp_beq, decide_eq_true_eq, decide_eq_false_iff_not, Bool.and_eq_true, Bool.or_eq_true, Bool.or_eq_false_iff, Bool.not_eq_true', Bool.not_eq_false', Bool.not_true, Bool.not_false, Bool.false_or, Bool.true_and, Bool.and_true, Bool.or_false, beq_iff_eq, bne_iff_ne, beq_eq_false_iff_ne, bne_eq_false_iff_eq, ne_eq, Bool.false_eq_true, reduceCtorEq] at hd_) <;> (try (exfalso; omega)))
      | refine gc_block ?_
      | refine gc_exit ?_
      | refine gc_ret ?_
      | refine gc_skip ?_)
    | (refine ge_gate ?_; first
      | ((with_reducible refine ge_gT ?_); first | with_reducible refine ge_then ?_ | with_reducible refine ge_then_exit ?_ | with_reducible refine ge_then_ret ?_)
      | ((with_reducible refine ge_gK ?_); first | with_reducible refine ge_block ?_ | refine ge_block_exit ?_ | refine ge_block_pass rfl ?_ | with_reducible refine ge_block_ret ?_)
      | ((with_reducible refine ge_gB ?_); first | refine ge_ret1 tab_ok rfl c_rvt ?_ | refine ge_end1 tab_ok rfl c_rvt ?_ | refine ge_ret2 tab_ok rfl c_rvt c_rvt ?_ | refine ge_ret_none rfl ?_ | refine ge_end_none rfl ?_))
    | (refine gq_gate ?_; first
      | refine gq_nil ?_
      | (refine gq_load0 ?_; refine gq_yv (yv_load tab_ok (gok_none rfl) rfl rfl (fun _ => rfl) c_mem (fun _ => c_lds)) rfl rfl ?_)
      | (refine gq_idx0 ?_; refine gq_yv (yv_idxA tab_ok hs (gok_none rfl) rfl rfl rfl rfl rfl rfl (fun _ => rfl) (fun _ => rfl) c_bnd) rfl rfl ?_)
      | (refine gq_idxG ?_; refine gq_yv (yv_idxA tab_ok hs c_gok rfl rfl rfl rfl rfl rfl c_imp c_imp c_bnd) rfl rfl ?_)
      | (refine gq_load0 ?_; refine gq_yv (yv_ldA tab_ok hs c_nm (gok_none rfl) rfl rfl (fun _ => rfl) c_bnd (fun _ => c_lds)) rfl rfl ?_)
      | (refine gq_loadG ?_; refine gq_yv (yv_ldA tab_ok hs c_nm c_gok rfl rfl c_imp c_bnd (fun _ => c_lds)) rfl rfl ?_)
      | (refine gq_calv0 ?_; first | refine gq_yd (yd_call (gok_none rfl) rfl ent93 rfl rfl (fun _ => allT_of rfl) (fun _ W hW => ct_InR a b (l.getD i default).cell W)) rfl rfl ?_)
      | (refine gq_pick0 ?_; first | refine gq_yv (yv_and (gok_none rfl) rfl rfl rfl (fun _ => rfl) c_imp2) rfl rfl ?_ | refine gq_yv (yv_or (gok_none rfl) rfl rfl rfl (fun _ => rfl) c_imp2) rfl rfl ?_)
      | (refine gq_any0 ?_; refine gq_pure tab_ok rfl rfl rfl rfl rfl rfl ?_)
      | (refine gq_anyG ?_; first | refine gq_yv (yv_pure tab_ok c_gok rfl rfl c_allT) rfl rfl ?_ | refine gq_yv (yv_indexS tab_ok c_gok rfl rfl rfl rfl c_imp c_imp (by intro hq_; (try simp only [Bool.and_eq_true, Bool.not_eq_true', Bool.not_eq_false', Bool.or_eq_false_iff, Bool.or_eq_true, decide_eq_true_eq, decide_eq_false_iff_not, Bool.true_and, Bool.and_true] at hq_); omega)) rfl rfl ?_ | refine gq_yv (yv_indexS (i := 0) tab_ok c_gok rfl rfl rfl rfl c_imp c_imp (by intro hq_; (try simp only [Bool.and_eq_true, Bool.not_eq_true', Bool.not_eq_false', Bool.or_eq_false_iff, Bool.or_eq_true, decide_eq_true_eq, decide_eq_false_iff_not, Bool.true_and, Bool.and_true] at hq_); omega)) rfl rfl ?_))
  · have hs1 : seen1 a b (l.getD i default) = true := h_
    have e : seeL a b (l.take (i + 1)) = seeL a b (l.take i) ++ [l.getD i default] := by rw [take_succD _ _ (by omega), seeL_snoc, if_pos hs1]
    refine ge_round (i + 1, p_, c_, sp_) ⟨by omega, ?_⟩ (by show n - (i + 1) < n - i; omega) ?_ ?_
    · show Ow p_ (seeL a b (l.take (i + 1))).length c_ 6 (cat Shown.l (seeL a b (l.take (i + 1)))) sp_
      rw [e, List.length_append, cat_snoc]
      exact hw_
    · dsimp only
      rw [e, List.length_append]
      exact c_frs
    · dsimp only
      rw [e, cat_snoc]
      exact List.Sublist.append (List.Sublist.refl _) (List.Sublist.cons _ (List.Sublist.refl _))
  · have hs1 : seen1 a b (l.getD i default) = false := h_
    have e : seeL a b (l.take (i + 1)) = seeL a b (l.take i) := by rw [take_succD _ _ (by omega), seeL_snoc, hs1]; rfl
    refine ge_round (i + 1, q, c, sp) ⟨by omega, ?_⟩ (by show n - (i + 1) < n - i; omega) ?_ ?_
    · show Ow q (seeL a b (l.take (i + 1))).length c 6 (cat Shown.l (seeL a b (l.take (i + 1)))) sp
      rw [e]
      exact ho
    · dsimp only
      rw [e]
      exact c_frs
    · dsimp only
      rw [e]
      exact List.Sublist.refl _
  · intro W hW
    have h1 : i = l.length := by omega
    rw [h1, List.take_length] at ho hW
    rw [h1, List.take_length]
    exact ⟨q, c, sp, rfl, ho, hW.drop (List.sublist_append_left _ _)⟩
def showsL (l : List Shown) (c : Cell) : Val := (lk l c).getD v00
theorem lk_dropF (l : List Shown) (c : Cell) : ∀ i, i ≤ l.length → (∀ j, j < i → (l.getD j default).cell ≠ c) → lk l c = lk (l.drop i) c
  | 0, _, _ => rfl
  | i + 1, hi, h => by
    rw [lk_dropF l c i (by omega) (fun j hj => h j (by omega)), drop_consD l i (by omega), lk, if_neg (h i (by omega))]
theorem ct_Shows (l : List Shown) (d : Cell) (p : Option Addr) (n cap : Nat) (w : World) (hn : n = l.length) (hs : SlA w 6 p n (fun i => (l.getD i default).l)) (hl : n ≤ 1000000000) : Calls Try.prog 177 #[.slice p n cap, .agg d.l.toArray] w fun e w' => e = .returned (vV (showsL l d)) ∧ Bl w w' := by
  refine enter (args := [_, _]) (M := []) (K := []) Try.func177 rfl Try.ntmps177 rfl (St.refl _ _) ?_
  repeat' first
    | (refine gl_gate ?_; first
      | refine gl_nil ?_
      | (refine gl_box0 ?_; first | (refine gl_box_agg rfl rfl rfl rfl rfl ?_; intro g_ hg_) | (refine gl_box_one rfl rfl rfl rfl rfl rfl ?_; intro g_ hg_) | (refine gl_box rfl rfl rfl rfl rfl ?_; intro g_ hg_))
      | (refine gl_alc0 ?_; (refine gl_alloc tab_ok rfl rfl rfl rfl rfl ?_; intro g_ hg_))
      | (refine gl_any0 ?_; refine gl_pure tab_ok rfl rfl rfl rfl rfl rfl ?_))
    | (refine gc_gate ?_; first
      | refine gc_seq ?_
      | refine gc_region ?_
      | refine gc_block ?_)
    | (refine ge_gate ?_; first
      | ((with_reducible refine ge_gT ?_); first | with_reducible refine ge_then ?_ | with_reducible refine ge_then_exit ?_ | with_reducible refine ge_then_ret ?_))
  rename_i g3_ hg3_
  refine gc_loop (α := Nat) (fun i => [(0, true, .slice p n cap), (3, true, .pointer (some ⟨g3_, 0, none⟩)), (4, true, .pointer (some ⟨g_, 0, none⟩)), (5, true, .int .i64 (i : Int))])
    (fun _ => [(g_, true, .cells v00.l.toArray 23 (0, 0)), (g3_, true, .cells d.l.toArray 25 (0, 0))]) (fun i => i ≤ n ∧ ∀ j, j < i → (l.getD j default).cell ≠ d) (fun i => n - i) 0 c_frs (List.Sublist.refl _) ⟨Nat.zero_le _, fun j hj => by omega⟩ ?_
  rintro i ⟨hi, he⟩
  repeat' first
    | (refine gl_gate ?_; first
      | refine gl_nil ?_
      | (refine gl_add0 ?_; refine gl_yv (yv_add tab_ok (gok_none rfl) rfl rfl rfl rfl (fun _ => allT_of rfl) (by intro _; omega)) rfl rfl ?_)
      | (refine gl_idx0 ?_; refine gl_yv (yv_idxA tab_ok hs (gok_none rfl) rfl rfl rfl rfl rfl rfl (fun _ => rfl) (fun _ => rfl) c_bnd) rfl rfl ?_)
      | (refine gl_load0 ?_; refine gl_yv (yv_ldA tab_ok hs c_nm (gok_none rfl) rfl rfl (fun _ => rfl) c_bnd (fun _ => c_lds)) rfl rfl ?_)
      | (refine gl_sto0 ?_; refine gl_store tab_ok rfl rfl rfl rfl rfl rfl rfl c_one rfl c_ku ?_)
      | (refine gl_any0 ?_; refine gl_pure tab_ok rfl rfl rfl rfl rfl rfl ?_))
    | (refine gc_gate ?_; first
      | refine gc_seq ?_
      | refine gc_region ?_
      | refine gc_quietRo rfl mixed (by decide +kernel) ?_
      | (refine gc_cond rfl ?_ ?_ <;> intro h_ <;> have hd_ := h_ <;> (try simp only [bytes_beq, cell_beq, val_beq, stamp_beq, decide_eq_true_eq, decide_eq_false_iff_not, Bool.and_eq_true, Bool.or_eq_true, Bool.or_eq_false_iff, Bool.not_eq_true', Bool.not_eq_false', Bool.not_true, Bool.not_false, Bool.false_or, Bool.true_and, Bool.and_true, Bool.or_false, beq_iff_eq, bne_iff_ne, beq_eq_false_iff_ne, bne_eq_false_iff_eq, ne_eq, Bool.false_eq_true, reduceCtorEq] at hd_) <;> (try (exfalso; omega)))
      | refine gc_block ?_
      | refine gc_exit ?_
      | refine gc_ret ?_
      | refine gc_skip ?_)
    | (refine ge_gate ?_; first
      | ((with_reducible refine ge_gT ?_); first | with_reducible refine ge_then ?_ | with_reducible refine ge_then_exit ?_ | with_reducible refine ge_then_ret ?_)
      | ((with_reducible refine ge_gK ?_); first | with_reducible refine ge_block ?_ | refine ge_block_exit ?_ | refine ge_block_pass rfl ?_ | with_reducible refine ge_block_ret ?_)
      | ((with_reducible refine ge_gB ?_); first | refine ge_ret1 tab_ok rfl c_rvt ?_ | refine ge_end1 tab_ok rfl c_rvt ?_ | refine ge_ret2 tab_ok rfl c_rvt c_rvt ?_ | refine ge_ret_none rfl ?_ | refine ge_end_none rfl ?_))
    | (refine gq_gate ?_; first
      | refine gq_nil ?_
      | (refine gq_load0 ?_; refine gq_yv (yv_load tab_ok (gok_none rfl) rfl rfl (fun _ => rfl) c_mem (fun _ => c_lds)) rfl rfl ?_)
      | (refine gq_idx0 ?_; refine gq_yv (yv_idxA tab_ok hs (gok_none rfl) rfl rfl rfl rfl rfl rfl (fun _ => rfl) (fun _ => rfl) c_bnd) rfl rfl ?_)
      | (refine gq_load0 ?_; refine gq_yv (yv_ldA tab_ok hs c_nm (gok_none rfl) rfl rfl (fun _ => rfl) c_bnd (fun _ => c_lds)) rfl rfl ?_)
      | (refine gq_any0 ?_; refine gq_pure tab_ok rfl rfl rfl rfl rfl rfl ?_)
      | (refine gq_eqS ?_; first | refine gq_yv (yv_eqS tab_ok eqs_ok c_gok rfl rfl rfl rfl c_allT rfl rfl rfl) rfl rfl ?_))
  · intro W hW
    have e : showsL l d = (l.getD i default).val := by
      unfold showsL
      rw [lk_dropF l d i (by omega) he, drop_consD l i (by omega), lk, if_pos hd_]
      rfl
    rw [e]
    exact ⟨rfl, hW.below0⟩
  · refine ge_round (i + 1) ⟨by omega, fun j hj => ?_⟩ (by omega) c_frs (List.Sublist.refl _)
    rcases Nat.lt_or_ge j i with h | h
    · exact he j h
    · obtain rfl : j = i := by omega
      exact hd_
  · intro W hW
    have e : showsL l d = v00 := by
      unfold showsL
      rw [lk_dropF l d i (by omega) he, List.drop_eq_nil_of_le (by omega)]
      rfl
    rw [e]
    exact ⟨rfl, hW.below0⟩
def putIf (p : Shown → Bool) (f : Shown → Val) (s : List Shown) (x : Shown) : List Shown := if p x then setS s x.cell (f x) else s
theorem putIf_len (p : Shown → Bool) (f : Shown → Val) : ∀ l s : List Shown, (l.foldl (putIf p f) s).length ≤ s.length + l.length
  | [], s => by simp
  | x :: r, s => by
    have h1 := putIf_len p f r (putIf p f s x)
    have h2 : (putIf p f s x).length ≤ s.length + 1 := by
      unfold putIf
      split
      · exact setS_len _ _ _
      · omega
    simp only [List.foldl_cons, List.length_cons]
    omega
theorem putIf_take (p : Shown → Bool) (f : Shown → Val) (l s : List Shown) (i : Nat) (hi : i < l.length) : (l.take (i + 1)).foldl (putIf p f) s = putIf p f ((l.take i).foldl (putIf p f) s) (l.getD i default) := by
  rw [take_succD _ _ hi, List.foldl_append]
  rfl
def d1L (la lb : List Shown) : List Shown := la.foldl (putIf (fun x => !decide (showsL lb x.cell = x.val)) (fun x => showsL lb x.cell)) []
def deltaR (la lb : List Shown) : List Shown := lb.foldl (putIf (fun x => !decide (showsL la x.cell = x.val)) Shown.val) (d1L la lb)
set_option maxHeartbeats 2000000 in
theorem ct_DeltaR (la lb : List Shown) (p r : Option Addr) (n k cap cap' : Nat) (w : World) (hn : n = la.length) (hk : k = lb.length) (hs : SlA w 6 p n (fun i => (la.getD i default).l)) (hs' : SlA w 6 r k (fun i => (lb.getD i default).l)) (hl : n ≤ 100000000) (hl' : k ≤ 100000000) :
    Calls Try.prog 105 #[.slice p n cap, .slice r k cap'] w (RetOw w (deltaR la lb).length 6 (cat Shown.l (deltaR la lb)) 120) := by
  unfold deltaR d1L
  generalize hp1 : (fun x : Shown => !decide (showsL lb x.cell = x.val)) = p1
  generalize hp2 : (fun x : Shown => !decide (showsL la x.cell = x.val)) = p2
  generalize hf1 : (fun x : Shown => showsL lb x.cell) = f1
  have hlen1 := putIf_len p1 f1 la []
  simp only [List.length_nil, Nat.zero_add] at hlen1
  refine enter (args := [_, _]) (M := []) (K := []) Try.func105 rfl Try.ntmps105 rfl (St.refl _ _) ?_
  repeat' first
    | (refine gl_gate ?_; first
      | refine gl_nil ?_
      | (refine gl_any0 ?_; refine gl_pure tab_ok rfl rfl rfl rfl rfl rfl ?_))
    | (refine gc_gate ?_; first
      | refine gc_seq ?_
      | refine gc_region ?_
      | refine gc_block ?_)
    | (refine ge_gate ?_; first
      | ((with_reducible refine ge_gT ?_); first | with_reducible refine ge_then ?_ | with_reducible refine ge_then_exit ?_ | with_reducible refine ge_then_ret ?_))
  refine gc_loop (α := Nat × Option Nat × Nat × List Value) (fun x => [(0, true, .slice p n cap), (1, true, .slice r k cap'), (5, true, .slice (x.2.1.map ad) ((la.take x.1).foldl (putIf p1 f1) []).length x.2.2.1), (6, true, .int .i64 (x.1 : Int))])
    (fun x => ow x.2.1 true (cat Shown.l ((la.take x.1).foldl (putIf p1 f1) []) ++ x.2.2.2) 120) (fun x => x.1 ≤ n ∧ Ow x.2.1 ((la.take x.1).foldl (putIf p1 f1) []).length x.2.2.1 6 (cat Shown.l ((la.take x.1).foldl (putIf p1 f1) [])) x.2.2.2) (fun x => n - x.1) (0, none, 0, []) c_frs (List.Sublist.refl _) ⟨Nat.zero_le _, Ow.none0⟩ ?_
  rintro ⟨i, q, c, sp⟩ ⟨hi, ho⟩
  dsimp only at hi ho ⊢
  have hll := putIf_len p1 f1 (la.take i) []
  rw [List.length_take] at hll
  simp only [List.length_nil, Nat.zero_add] at hll
  generalize hS : (la.take i).foldl (putIf p1 f1) [] = S at *
  repeat' first
    | (refine gl_gate ?_; first
      | refine gl_nil ?_
      | (refine gl_idx0 ?_; refine gl_yv (yv_idxA tab_ok hs (gok_none rfl) rfl rfl rfl rfl rfl rfl (fun _ => rfl) (fun _ => rfl) c_bnd) rfl rfl ?_)
      | (refine gl_load0 ?_; refine gl_yv (yv_ldA tab_ok hs c_nm (gok_none rfl) rfl rfl (fun _ => rfl) c_bnd (fun _ => c_lds)) rfl rfl ?_)
      | (refine gl_calv0 ?_; first | refine gl_yd (yd_call (gok_none rfl) rfl ent177 rfl rfl (fun _ => allT_of rfl) (fun _ W hW => ct_Shows lb (la.getD i default).cell r k cap' W hk (hs'.st hW) (by omega))) rfl rfl ?_)
      | (refine gl_alc0 ?_; (refine gl_alloc tab_ok rfl rfl rfl rfl rfl ?_; intro g_ hg_))
      | (refine gl_sto0 ?_; refine gl_store tab_ok rfl rfl rfl rfl rfl rfl rfl c_one rfl c_ku ?_)
      | (refine gl_any0 ?_; refine gl_pure tab_ok rfl rfl rfl rfl rfl rfl ?_))
    | (refine gc_gate ?_; first
      | refine gc_seq ?_
      | refine gc_region ?_
      | refine gc_block ?_
      | (refine gc_cond rfl ?_ ?_ <;> intro h_ <;> have hd_ := h_ <;> (try simp only [bytes_beq, cell_beq, val_beq, stamp_beq, decide_eq_true_eq, decide_eq_false_iff_not, Bool.and_eq_true, Bool.or_eq_true, Bool.or_eq_false_iff, Bool.not_eq_true', Bool.not_eq_false', Bool.not_true, Bool.not_false, Bool.false_or, Bool.true_and, Bool.and_true, Bool.or_false, beq_iff_eq, bne_iff_ne, beq_eq_false_iff_ne, bne_eq_false_iff_eq, ne_eq, Bool.false_eq_true, reduceCtorEq] at hd_) <;> (try (exfalso; omega)))
      | refine gc_exit ?_
      | refine gc_skip ?_)
    | (refine ge_gate ?_; first
      | ((with_reducible refine ge_gT ?_); first | with_reducible refine ge_then ?_ | with_reducible refine ge_then_exit ?_ | with_reducible refine ge_then_ret ?_)
      | ((with_reducible refine ge_gK ?_); first | with_reducible refine ge_block ?_ | refine ge_block_exit ?_ | refine ge_block_pass rfl ?_ | with_reducible refine ge_block_ret ?_))
  · repeat' first
      | (refine gc_gate ?_; first
        | refine gc_quietRo rfl mixed (by decide +kernel) ?_)
      | (refine ge_gate ?_; first
        | ((with_reducible refine ge_gT ?_); first | with_reducible refine ge_then ?_ | with_reducible refine ge_then_exit ?_ | with_reducible refine ge_then_ret ?_))
      | (refine gq_gate ?_; first
        | refine gq_nil ?_
        | (refine gq_load0 ?_; refine gq_yv (yv_load tab_ok (gok_none rfl) rfl rfl (fun _ => rfl) c_mem (fun _ => c_lds)) rfl rfl ?_)
        | (refine gq_idx0 ?_; refine gq_yv (yv_idxA tab_ok hs (gok_none rfl) rfl rfl rfl rfl rfl rfl (fun _ => rfl) (fun _ => rfl) c_bnd) rfl rfl ?_)
        | (refine gq_load0 ?_; refine gq_yv (yv_ldA tab_ok hs c_nm (gok_none rfl) rfl rfl (fun _ => rfl) c_bnd (fun _ => c_lds)) rfl rfl ?_)
        | (refine gq_any0 ?_; refine gq_pure tab_ok rfl rfl rfl rfl rfl rfl ?_)
        | (refine gq_neS ?_; first | refine gq_yv (yv_neS tab_ok eqs_ok c_gok rfl rfl rfl rfl c_allT rfl rfl rfl) rfl rfl ?_))
    (refine gc_cond rfl ?_ ?_ <;> intro h_ <;> have hd_ := h_ <;> (try simp only [bytes_beq, cell_beq, val_beq, stamp_beq, decide_eq_true_eq, decide_eq_false_iff_not, Bool.and_eq_true, Bool.or_eq_true, Bool.or_eq_false_iff, Bool.not_eq_true', Bool.not_eq_false', Bool.not_true, Bool.not_false, Bool.false_or, Bool.true_and, Bool.and_true, Bool.or_false, beq_iff_eq, bne_iff_ne, beq_eq_false_iff_ne, bne_eq_false_iff_eq, ne_eq, Bool.false_eq_true, reduceCtorEq] at hd_) <;> (try (exfalso; omega)))
    · refine gp_start [] #[false, false, false, false, false, false, false, false, false] mixed rfl rfl c_qp ?_; intro hqp_
      refine gp_take 0 #[true, false, false, false, false, false, false, false, false] hqp_ rfl (by kernel_rfl) (yv_pure tab_ok c_gok rfl rfl c_allT) c_cl rfl rfl ?_
      refine gp_take 1 #[true, true, false, false, false, false, false, false, false] hqp_ rfl (by kernel_rfl) (yv_pure tab_ok c_gok rfl rfl c_allT) c_cl rfl rfl ?_
      refine gp_take 2 #[true, true, true, false, false, false, false, false, false] hqp_ rfl (by kernel_rfl) (yv_pure tab_ok c_gok rfl rfl c_allT) c_cl rfl rfl ?_
      refine gp_take 3 #[true, true, true, true, false, false, false, false, false] hqp_ rfl (by kernel_rfl) (yv_idxA tab_ok hs c_gok rfl rfl rfl rfl rfl rfl c_imp c_imp c_bnd) c_cl rfl rfl ?_
      refine gp_take 4 #[true, true, true, true, true, false, false, false, false] hqp_ rfl (by kernel_rfl) (yv_pure tab_ok c_gok rfl rfl c_allT) c_cl rfl rfl ?_
      refine gp_take 5 #[true, true, true, true, true, true, false, false, false] hqp_ rfl (by kernel_rfl) (yv_ldA tab_ok hs c_nm c_gok rfl rfl c_imp c_bnd (fun _ => c_lds)) c_cl rfl rfl ?_
      refine gp_take 6 #[true, true, true, true, true, true, true, false, false] hqp_ rfl (by kernel_rfl) (yv_load tab_ok c_gok rfl rfl c_imp c_mem (fun _ => c_lds)) c_cl rfl rfl ?_
      (refine gp_ev 7 #[true, true, true, true, true, true, true, true, false] rfl (by kernel_rfl) rfl rfl rfl (ev_callOw rfl rfl ent119 rfl rfl rfl (fun W hW => ct_Set S (la.getD i default).cell (showsL lb (la.getD i default).cell) _ _ _ W rfl (slA_cat len_shown rfl hW c_oa ho) (by omega) ho.le (fun h => ho.nil (Option.map_eq_none_iff.1 h))) ?_); intro p_ c_ sp_ hw_; refine ⟨c_cl, ?_⟩)
      refine gp_take 8 #[true, true, true, true, true, true, true, true, true] hqp_ rfl (by kernel_rfl) (yv_pure tab_ok c_gok rfl rfl c_allT) c_cl rfl rfl ?_
      refine gp_done (by kernel_rfl) ?_; clear hqp_
      repeat' first
        | (refine gl_gate ?_; first
          | refine gl_nil ?_
          | (refine gl_add0 ?_; refine gl_yv (yv_add tab_ok (gok_none rfl) rfl rfl rfl rfl (fun _ => allT_of rfl) (by intro _; omega)) rfl rfl ?_)
          | (refine gl_any0 ?_; refine gl_pure tab_ok rfl rfl rfl rfl rfl rfl ?_))
        | (refine gc_gate ?_; first
          | refine gc_region ?_)
        | (refine ge_gate ?_; first
          | ((with_reducible refine ge_gT ?_); first | with_reducible refine ge_then ?_ | with_reducible refine ge_then_exit ?_ | with_reducible refine ge_then_ret ?_)
          | ((with_reducible refine ge_gK ?_); first | with_reducible refine ge_block ?_ | refine ge_block_exit ?_ | refine ge_block_pass rfl ?_ | with_reducible refine ge_block_ret ?_))
      have e : (la.take (i + 1)).foldl (putIf p1 f1) [] = setS S (la.getD i default).cell (showsL lb (la.getD i default).cell) := by
        rw [putIf_take _ _ _ _ _ (by omega), hS, ← hp1, ← hf1]
        unfold putIf
        simp only
        rw [if_pos (by simp; assumption)]
      refine ge_round (i + 1, p_, c_, sp_) ⟨by omega, ?_⟩ (by show n - (i + 1) < n - i; omega) ?_ ?_
      · dsimp only
        rw [e]
        exact hw_
      · dsimp only
        rw [e]
        exact c_frs
      · dsimp only
        rw [e]
        exact List.sublist_append_left _ _
    · repeat' first
        | (refine gl_gate ?_; first
          | refine gl_nil ?_
          | (refine gl_add0 ?_; refine gl_yv (yv_add tab_ok (gok_none rfl) rfl rfl rfl rfl (fun _ => allT_of rfl) (by intro _; omega)) rfl rfl ?_)
          | (refine gl_any0 ?_; refine gl_pure tab_ok rfl rfl rfl rfl rfl rfl ?_))
        | (refine gc_gate ?_; first
          | refine gc_region ?_
          | refine gc_skip ?_)
        | (refine ge_gate ?_; first
          | ((with_reducible refine ge_gT ?_); first | with_reducible refine ge_then ?_ | with_reducible refine ge_then_exit ?_ | with_reducible refine ge_then_ret ?_)
          | ((with_reducible refine ge_gK ?_); first | with_reducible refine ge_block ?_ | refine ge_block_exit ?_ | refine ge_block_pass rfl ?_ | with_reducible refine ge_block_ret ?_))
      have e : (la.take (i + 1)).foldl (putIf p1 f1) [] = S := by
        rw [putIf_take _ _ _ _ _ (by omega), hS, ← hp1, ← hf1]
        unfold putIf
        simp only
        rw [if_neg (by simp; assumption)]
      refine ge_round (i + 1, q, c, sp) ⟨by omega, ?_⟩ (by show n - (i + 1) < n - i; omega) ?_ ?_
      · dsimp only
        rw [e]
        exact ho
      · dsimp only
        rw [e]
        exact c_frs
      · dsimp only
        rw [e]
        exact List.Sublist.cons _ (List.Sublist.refl _)
  have h1 : i = la.length := by omega
  rw [h1, List.take_length] at hS
  rw [hS]
  have hSl : S.length ≤ 100000000 := by omega
  refine gc_loop (α := Nat × Option Nat × Nat × List Value) (fun x => [(0, true, .slice p n cap), (1, true, .slice r k cap'), (5, true, .slice (x.2.1.map ad) ((lb.take x.1).foldl (putIf p2 Shown.val) S).length x.2.2.1), (8, true, .int .i64 (x.1 : Int))])
    (fun x => ow x.2.1 true (cat Shown.l ((lb.take x.1).foldl (putIf p2 Shown.val) S) ++ x.2.2.2) 120) (fun x => x.1 ≤ k ∧ Ow x.2.1 ((lb.take x.1).foldl (putIf p2 Shown.val) S).length x.2.2.1 6 (cat Shown.l ((lb.take x.1).foldl (putIf p2 Shown.val) S)) x.2.2.2) (fun x => k - x.1) (0, q, c, sp) c_frs (List.Sublist.refl _) ⟨Nat.zero_le _, ho⟩ ?_
  clear ho hll h_ hd_
  rintro ⟨j, q2, c2, sp2⟩ ⟨hj, ho⟩
  dsimp only at hj ho ⊢
  have hll := putIf_len p2 Shown.val (lb.take j) S
  rw [List.length_take] at hll
  generalize hS2 : (lb.take j).foldl (putIf p2 Shown.val) S = S2 at *
  repeat' first
    | (refine gl_gate ?_; first
      | refine gl_nil ?_
      | (refine gl_any0 ?_; refine gl_pure tab_ok rfl rfl rfl rfl rfl rfl ?_))
    | (refine gc_gate ?_; first
      | refine gc_seq ?_
      | refine gc_region ?_)
    | (refine ge_gate ?_; first
      | ((with_reducible refine ge_gT ?_); first | with_reducible refine ge_then ?_ | with_reducible refine ge_then_exit ?_ | with_reducible refine ge_then_ret ?_))
  (refine gc_cond rfl ?_ ?_ <;> intro h_ <;> have hd_ := h_ <;> (try simp only [bytes_beq, cell_beq, val_beq, stamp_beq, decide_eq_true_eq, decide_eq_false_iff_not, Bool.and_eq_true, Bool.or_eq_true, Bool.or_eq_false_iff, Bool.not_eq_true', Bool.not_eq_false', Bool.not_true, Bool.not_false, Bool.false_or, Bool.true_and, Bool.and_true, Bool.or_false, beq_iff_eq, bne_iff_ne, beq_eq_false_iff_ne, bne_eq_false_iff_eq, ne_eq, Bool.false_eq_true, reduceCtorEq] at hd_) <;> (try (exfalso; omega)))
  · repeat' first
      | (refine gc_gate ?_; first
        | refine gc_seq ?_
        | refine gc_quietRo rfl mixed (by decide +kernel) ?_
        | refine gc_block ?_
        | refine gc_skip ?_)
      | (refine ge_gate ?_; first
        | ((with_reducible refine ge_gT ?_); first | with_reducible refine ge_then ?_ | with_reducible refine ge_then_exit ?_ | with_reducible refine ge_then_ret ?_))
      | (refine gq_gate ?_; first
        | refine gq_nil ?_
        | (refine gq_idx0 ?_; refine gq_yv (yv_idxA tab_ok hs' (gok_none rfl) rfl rfl rfl rfl rfl rfl (fun _ => rfl) (fun _ => rfl) c_bnd) rfl rfl ?_)
        | (refine gq_load0 ?_; refine gq_yv (yv_ldA tab_ok hs' c_nm (gok_none rfl) rfl rfl (fun _ => rfl) c_bnd (fun _ => c_lds)) rfl rfl ?_)
        | (refine gq_calv0 ?_; first | refine gq_yd (yd_call (gok_none rfl) rfl ent177 rfl rfl (fun _ => allT_of rfl) (fun _ W hW => ct_Shows la (lb.getD j default).cell p n cap W hn (hs.st hW) (by omega))) rfl rfl ?_)
        | (refine gq_any0 ?_; refine gq_pure tab_ok rfl rfl rfl rfl rfl rfl ?_)
        | (refine gq_neS ?_; first | refine gq_yv (yv_neS tab_ok eqs_ok c_gok rfl rfl rfl rfl c_allT rfl rfl rfl) rfl rfl ?_))
    (refine gc_cond rfl ?_ ?_ <;> intro h_ <;> have hd_ := h_ <;> (try simp only [bytes_beq, cell_beq, val_beq, stamp_beq, decide_eq_true_eq, decide_eq_false_iff_not, Bool.and_eq_true, Bool.or_eq_true, Bool.or_eq_false_iff, Bool.not_eq_true', Bool.not_eq_false', Bool.not_true, Bool.not_false, Bool.false_or, Bool.true_and, Bool.and_true, Bool.or_false, beq_iff_eq, bne_iff_ne, beq_eq_false_iff_ne, bne_eq_false_iff_eq, ne_eq, Bool.false_eq_true, reduceCtorEq] at hd_) <;> (try (exfalso; omega)))
    · refine gp_start [] #[false, false, false, false, false, false, false, false, false, false, false, false, false] mixed rfl rfl c_qp ?_; intro hqp_
      refine gp_take 0 #[true, false, false, false, false, false, false, false, false, false, false, false, false] hqp_ rfl (by kernel_rfl) (yv_pure tab_ok c_gok rfl rfl c_allT) c_cl rfl rfl ?_
      refine gp_take 1 #[true, true, false, false, false, false, false, false, false, false, false, false, false] hqp_ rfl (by kernel_rfl) (yv_pure tab_ok c_gok rfl rfl c_allT) c_cl rfl rfl ?_
      refine gp_take 2 #[true, true, true, false, false, false, false, false, false, false, false, false, false] hqp_ rfl (by kernel_rfl) (yv_pure tab_ok c_gok rfl rfl c_allT) c_cl rfl rfl ?_
      refine gp_take 3 #[true, true, true, true, false, false, false, false, false, false, false, false, false] hqp_ rfl (by kernel_rfl) (yv_idxA tab_ok hs' c_gok rfl rfl rfl rfl rfl rfl c_imp c_imp c_bnd) c_cl rfl rfl ?_
      refine gp_take 4 #[true, true, true, true, true, false, false, false, false, false, false, false, false] hqp_ rfl (by kernel_rfl) (yv_pure tab_ok c_gok rfl rfl c_allT) c_cl rfl rfl ?_
      refine gp_take 5 #[true, true, true, true, true, true, false, false, false, false, false, false, false] hqp_ rfl (by kernel_rfl) (yv_ldA tab_ok hs' c_nm c_gok rfl rfl c_imp c_bnd (fun _ => c_lds)) c_cl rfl rfl ?_
      refine gp_take 6 #[true, true, true, true, true, true, true, false, false, false, false, false, false] hqp_ rfl (by kernel_rfl) (yv_pure tab_ok c_gok rfl rfl c_allT) c_cl rfl rfl ?_
      refine gp_take 7 #[true, true, true, true, true, true, true, true, false, false, false, false, false] hqp_ rfl (by kernel_rfl) (yv_pure tab_ok c_gok rfl rfl c_allT) c_cl rfl rfl ?_
      refine gp_take 8 #[true, true, true, true, true, true, true, true, true, false, false, false, false] hqp_ rfl (by kernel_rfl) (yv_idxA tab_ok hs' c_gok rfl rfl rfl rfl rfl rfl c_imp c_imp c_bnd) c_cl rfl rfl ?_
      refine gp_take 9 #[true, true, true, true, true, true, true, true, true, true, false, false, false] hqp_ rfl (by kernel_rfl) (yv_pure tab_ok c_gok rfl rfl c_allT) c_cl rfl rfl ?_
      refine gp_take 10 #[true, true, true, true, true, true, true, true, true, true, true, false, false] hqp_ rfl (by kernel_rfl) (yv_ldA tab_ok hs' c_nm c_gok rfl rfl c_imp c_bnd (fun _ => c_lds)) c_cl rfl rfl ?_
      (refine gp_ev 11 #[true, true, true, true, true, true, true, true, true, true, true, true, false] rfl (by kernel_rfl) rfl rfl rfl (ev_callOw rfl rfl ent119 rfl rfl rfl (fun W hW => ct_Set S2 (lb.getD j default).cell (lb.getD j default).val _ _ _ W rfl (slA_cat len_shown rfl hW c_oa ho) (by omega) ho.le (fun h => ho.nil (Option.map_eq_none_iff.1 h))) ?_); intro p_ c_ sp_ hw_; refine ⟨c_cl, ?_⟩)
      refine gp_take 12 #[true, true, true, true, true, true, true, true, true, true, true, true, true] hqp_ rfl (by kernel_rfl) (yv_pure tab_ok c_gok rfl rfl c_allT) c_cl rfl rfl ?_
      refine gp_done (by kernel_rfl) ?_; clear hqp_
      repeat' first
        | (refine gl_gate ?_; first
          | refine gl_nil ?_
          | (refine gl_add0 ?_; refine gl_yv (yv_add tab_ok (gok_none rfl) rfl rfl rfl rfl (fun _ => allT_of rfl) (by intro _; omega)) rfl rfl ?_)
          | (refine gl_any0 ?_; refine gl_pure tab_ok rfl rfl rfl rfl rfl rfl ?_))
        | (refine gc_gate ?_; first
          | refine gc_region ?_)
        | (refine ge_gate ?_; first
          | ((with_reducible refine ge_gT ?_); first | with_reducible refine ge_then ?_ | with_reducible refine ge_then_exit ?_ | with_reducible refine ge_then_ret ?_)
          | ((with_reducible refine ge_gK ?_); first | with_reducible refine ge_block ?_ | refine ge_block_exit ?_ | refine ge_block_pass rfl ?_ | with_reducible refine ge_block_ret ?_))
      have e : (lb.take (j + 1)).foldl (putIf p2 Shown.val) S = setS S2 (lb.getD j default).cell (lb.getD j default).val := by
        rw [putIf_take _ _ _ _ _ (by omega), hS2, ← hp2]
        unfold putIf
        simp only
        rw [if_pos (by simp; assumption)]
      refine ge_round (j + 1, p_, c_, sp_) ⟨by omega, ?_⟩ (by show k - (j + 1) < k - j; omega) ?_ ?_
      · dsimp only
        rw [e]
        exact hw_
      · dsimp only
        rw [e]
        exact c_frs
      · dsimp only
        rw [e]
        exact List.sublist_append_left _ _
    · repeat' first
        | (refine gl_gate ?_; first
          | refine gl_nil ?_
          | (refine gl_add0 ?_; refine gl_yv (yv_add tab_ok (gok_none rfl) rfl rfl rfl rfl (fun _ => allT_of rfl) (by intro _; omega)) rfl rfl ?_)
          | (refine gl_any0 ?_; refine gl_pure tab_ok rfl rfl rfl rfl rfl rfl ?_))
        | (refine gc_gate ?_; first
          | refine gc_region ?_
          | refine gc_skip ?_)
        | (refine ge_gate ?_; first
          | ((with_reducible refine ge_gT ?_); first | with_reducible refine ge_then ?_ | with_reducible refine ge_then_exit ?_ | with_reducible refine ge_then_ret ?_)
          | ((with_reducible refine ge_gK ?_); first | with_reducible refine ge_block ?_ | refine ge_block_exit ?_ | refine ge_block_pass rfl ?_ | with_reducible refine ge_block_ret ?_))
      have e : (lb.take (j + 1)).foldl (putIf p2 Shown.val) S = S2 := by
        rw [putIf_take _ _ _ _ _ (by omega), hS2, ← hp2]
        unfold putIf
        simp only
        rw [if_neg (by simp; assumption)]
      refine ge_round (j + 1, q2, c2, sp2) ⟨by omega, ?_⟩ (by show k - (j + 1) < k - j; omega) ?_ ?_
      · dsimp only
        rw [e]
        exact ho
      · dsimp only
        rw [e]
        exact c_frs
      · dsimp only
        rw [e]
        exact List.Sublist.refl _
  · repeat' first
      | (refine gl_gate ?_; first
        | refine gl_nil ?_
        | (refine gl_any0 ?_; refine gl_pure tab_ok rfl rfl rfl rfl rfl rfl ?_))
      | (refine gc_gate ?_; first
        | refine gc_seq ?_
        | refine gc_region ?_
        | refine gc_exit ?_
        | refine gc_ret ?_)
      | (refine ge_gate ?_; first
        | ((with_reducible refine ge_gT ?_); first | with_reducible refine ge_then ?_ | with_reducible refine ge_then_exit ?_ | with_reducible refine ge_then_ret ?_)
        | ((with_reducible refine ge_gK ?_); first | with_reducible refine ge_block ?_ | refine ge_block_exit ?_ | refine ge_block_pass rfl ?_ | with_reducible refine ge_block_ret ?_)
        | ((with_reducible refine ge_gB ?_); first | refine ge_ret1 tab_ok rfl c_rvt ?_ | refine ge_end1 tab_ok rfl c_rvt ?_ | refine ge_ret2 tab_ok rfl c_rvt c_rvt ?_ | refine ge_ret_none rfl ?_ | refine ge_end_none rfl ?_))
    intro W hW
    have h2 : j = lb.length := by omega
    rw [h2, List.take_length] at hS2
    rw [hS2]
    exact ⟨q2, c2, sp2, rfl, ho, hW⟩
/-! ### Play -/
def putAll (l s : List Shown) : List Shown := l.foldl (fun s x => setS s x.cell x.val) s
theorem putAll_take (l s : List Shown) (i : Nat) (hi : i < l.length) : putAll (l.take (i + 1)) s = setS (putAll (l.take i) s) (l.getD i default).cell (l.getD i default).val := by
  unfold putAll
  rw [take_succD _ _ hi, List.foldl_append]
  rfl
theorem putAll_len : ∀ l s : List Shown, (putAll l s).length ≤ s.length + l.length
  | [], s => by simp [putAll]
  | x :: r, s => by
    have h1 := putAll_len r (setS s x.cell x.val)
    have h2 := setS_len s x.cell x.val
    show (putAll r (setS s x.cell x.val)).length ≤ _
    simp only [List.length_cons]
    omega
abbrev PSt := Bool × Int × List Shown
def badR (any : Bool) (last k v : Int) : Bool := (k == 3 && (!any || decide (v ≤ last))) || (any && decide (v < last))
def stepR (st : PSt) (r : Rep) : Option PSt :=
  if r.kind ≠ 2 ∧ r.kind ≠ 3 then some st else if badR st.1 st.2.1 r.kind r.version then none else some (true, r.version, putAll r.cells (if r.kind = 2 then [] else st.2.2))
def allR : List Rep → PSt → Option PSt
  | [], st => some st
  | r :: l, st => (stepR st r).bind (allR l)
theorem allR_append : ∀ (a b : List Rep) (st : PSt), allR (a ++ b) st = (allR a st).bind (allR b)
  | [], b, st => rfl
  | r :: a, b, st => by
    rw [List.cons_append, allR, allR]
    cases stepR st r with
    | none => rfl
    | some st' => exact allR_append a b st'
def nb1 (x : Shown) : Bool := x.val.kind != 0
def playRR (l : List Rep) : List Shown × Bool := match allR l (false, 0, []) with
  | none => ([], false)
  | some (_, _, out) => (out.filter nb1, true)
theorem allR_next {l : List Rep} {i : Nat} {s st : PSt} (h : allR (l.take i) s = some st) (hi : i < l.length) : allR (l.take (i + 1)) s = stepR st (l.getD i default) := by
  rw [take_succD l i hi, allR_append, h]
  show (stepR st (l.getD i default)).bind (allR []) = _
  cases stepR st (l.getD i default) <;> rfl
theorem allR_fail {l : List Rep} {i : Nat} {s : PSt} (h : allR (l.take i) s = none) : allR l s = none := by
  rw [← List.take_append_drop i l, allR_append, h]
  rfl
theorem kin {k : Int} (h : (k != 2 && k != 3) = false) : ¬ (k ≠ 2 ∧ k ≠ 3) := fun ⟨a, b⟩ => by simp [a, b] at h
theorem stepR_bad {any : Bool} {last : Int} {out : List Shown} {r : Rep} (h : (r.kind != 2 && r.kind != 3) = false) (hb : badR any last r.kind r.version = true) : stepR (any, last, out) r = none := by
  unfold stepR
  rw [if_neg (kin h)]
  show (if badR any last r.kind r.version = true then _ else _) = _
  rw [if_pos hb]
theorem stepR_go {any : Bool} {last : Int} {out S0 : List Shown} {r : Rep} (h : (r.kind != 2 && r.kind != 3) = false) (hb : badR any last r.kind r.version = false) (hS : S0 = if r.kind = 2 then [] else out) : stepR (any, last, out) r = some (true, r.version, putAll r.cells S0) := by
  unfold stepR
  rw [if_neg (kin h)]
  show (if badR any last r.kind r.version = true then _ else _) = _
  rw [hb, hS]
  rfl
set_option maxHeartbeats 4000000 in
theorem ct_PlayR {w : World} {p : Option Addr} {l : List Rep} (hR : RepsR w p l) (hl : l.length ≤ 100000) (hc : ∀ x ∈ l, x.cells.length ≤ 1000) (cap : Nat) : Calls Try.prog 102 #[.slice p l.length cap] w (RetPl w (playRR l)) := by
  obtain ⟨cp, cc, hs, hs2⟩ := hR
  refine enter (args := [_]) (M := []) (K := []) Try.func102 rfl Try.ntmps102 rfl (St.refl _ _) ?_
  repeat' first
    | (refine gl_gate ?_; first
      | refine gl_nil ?_
      | (refine gl_any0 ?_; refine gl_pure tab_ok rfl rfl rfl rfl rfl rfl ?_))
    | (refine gc_gate ?_; first
      | refine gc_seq ?_
      | refine gc_region ?_
      | refine gc_block ?_)
    | (refine ge_gate ?_; first
      | ((with_reducible refine ge_gT ?_); first | with_reducible refine ge_then ?_ | with_reducible refine ge_then_exit ?_ | with_reducible refine ge_then_ret ?_))
  refine gc_loop (α := Nat × Bool × Int × List Shown × Option Nat × Nat × List Value) (fun x => [(0, true, .slice p l.length cap), (4, true, .slice (x.2.2.2.2.1.map ad) x.2.2.2.1.length x.2.2.2.2.2.1), (5, true, .bool x.2.1), (6, true, .int .i64 x.2.2.1), (7, true, .int .i64 (x.1 : Int))])
    (fun x => ow x.2.2.2.2.1 true (cat Shown.l x.2.2.2.1 ++ x.2.2.2.2.2.2) 120) (fun x => x.1 ≤ l.length ∧ allR (l.take x.1) (false, 0, []) = some (x.2.1, x.2.2.1, x.2.2.2.1) ∧ x.2.2.2.1.length ≤ x.1 * 1000 ∧ Ow x.2.2.2.2.1 x.2.2.2.1.length x.2.2.2.2.2.1 6 (cat Shown.l x.2.2.2.1) x.2.2.2.2.2.2) (fun x => l.length - x.1) (0, false, 0, [], none, 0, []) c_frs (List.Sublist.refl _) ⟨Nat.zero_le _, rfl, Nat.zero_le _, Ow.none0⟩ ?_
  rintro ⟨i, any, last, out, q, c, sp⟩ ⟨hi, hst, hol, ho⟩
  dsimp only at hi hst hol ho ⊢
  repeat' first
    | (refine gl_gate ?_; first
      | refine gl_nil ?_
      | (refine gl_load0 ?_; refine gl_yv (yv_load tab_ok (gok_none rfl) rfl rfl (fun _ => rfl) c_mem (fun _ => c_lds)) rfl rfl ?_)
      | (refine gl_add0 ?_; refine gl_yv (yv_add tab_ok (gok_none rfl) rfl rfl rfl rfl (fun _ => allT_of rfl) (by intro _; omega)) rfl rfl ?_)
      | (refine gl_idx0 ?_; refine gl_yv (yv_idxA tab_ok hs (gok_none rfl) rfl rfl rfl rfl rfl rfl (fun _ => rfl) (fun _ => rfl) c_bnd) rfl rfl ?_)
      | (refine gl_load0 ?_; refine gl_yv (yv_ldA0 tab_ok hs c_nm (gok_none rfl) rfl rfl (fun _ => rfl) c_bnd (fun _ => c_lds)) rfl rfl ?_)
      | (refine gl_pick0 ?_; first | refine gl_yv (yv_and (gok_none rfl) rfl rfl rfl (fun _ => rfl) c_imp2) rfl rfl ?_ | refine gl_yv (yv_or (gok_none rfl) rfl rfl rfl (fun _ => rfl) c_imp2) rfl rfl ?_)
      | (refine gl_loadG ?_; refine gl_yv (yv_load tab_ok c_gok rfl rfl c_imp c_mem (fun _ => c_lds)) rfl rfl ?_)
      | (refine gl_pickG ?_; first | refine gl_yv (yv_and c_gok rfl rfl rfl c_imp c_imp2) rfl rfl ?_ | refine gl_yv (yv_or c_gok rfl rfl rfl c_imp c_imp2) rfl rfl ?_)
      | (refine gl_alc0 ?_; (refine gl_alloc tab_ok rfl rfl rfl rfl rfl ?_; intro g_ hg_))
      | (refine gl_sto0 ?_; refine gl_store tab_ok rfl rfl rfl rfl rfl rfl rfl c_one rfl c_ku ?_)
      | (refine gl_any0 ?_; refine gl_pure tab_ok rfl rfl rfl rfl rfl rfl ?_)
      | (refine gl_anyG ?_; first | refine gl_yv (yv_pure tab_ok c_gok rfl rfl c_allT) rfl rfl ?_ | refine gl_yv (yv_indexS tab_ok c_gok rfl rfl rfl rfl c_imp c_imp (by intro hq_; (try simp only [Bool.and_eq_true, Bool.not_eq_true', Bool.not_eq_false', Bool.or_eq_false_iff, Bool.or_eq_true, decide_eq_true_eq, decide_eq_false_iff_not, Bool.true_and, Bool.and_true] at hq_); omega)) rfl rfl ?_ | refine gl_yv (yv_indexS (i := 0) tab_ok c_gok rfl rfl rfl rfl c_imp c_imp (by intro hq_; (try simp only [Bool.and_eq_true, Bool.not_eq_true', Bool.not_eq_false', Bool.or_eq_false_iff, Bool.or_eq_true, decide_eq_true_eq, decide_eq_false_iff_not, Bool.true_and, Bool.and_true] at hq_); omega)) rfl rfl ?_))
    | (refine gc_gate ?_; first
      | refine gc_seq ?_
      | refine gc_region ?_
      | refine gc_block ?_
      | (refine gc_cond rfl ?_ ?_ <;> intro h_ <;> have hd_ := h_ <;> (try simp only [bytes_beq, cell_beq, val_beq, stamp_beq, decide_eq_true_eq, decide_eq_false_iff_not, Bool.and_eq_true, Bool.or_eq_true, Bool.or_eq_false_iff, Bool.not_eq_true', Bool.not_eq_false', Bool.not_true, Bool.not_false, Bool.false_or, Bool.true_and, Bool.and_true, Bool.or_false, beq_iff_eq, bne_iff_ne, beq_eq_false_iff_ne, bne_eq_false_iff_eq, ne_eq, Bool.false_eq_true, reduceCtorEq] at hd_) <;> (try (exfalso; omega)))
      | refine gc_exit ?_
      | refine gc_ret ?_
      | refine gc_skip ?_)
    | (refine ge_gate ?_; first
      | ((with_reducible refine ge_gT ?_); first | with_reducible refine ge_then ?_ | with_reducible refine ge_then_exit ?_ | with_reducible refine ge_then_ret ?_)
      | ((with_reducible refine ge_gK ?_); first | with_reducible refine ge_block ?_ | refine ge_block_exit ?_ | refine ge_block_pass rfl ?_ | with_reducible refine ge_block_ret ?_)
      | ((with_reducible refine ge_gB ?_); first | refine ge_ret1 tab_ok rfl c_rvt ?_ | refine ge_end1 tab_ok rfl c_rvt ?_ | refine ge_ret2 tab_ok rfl c_rvt c_rvt ?_ | refine ge_ret_none rfl ?_ | refine ge_end_none rfl ?_))
  rotate_left 2
  obtain ⟨S0, hS0⟩ : ∃ S0 : List Shown, S0 = [] := ⟨[], rfl⟩
  have hSt : S0 = (if (l.getD i default).kind = 2 then [] else out) := by rw [if_pos hd_, hS0]
  have hS0l : S0.length ≤ i * 1000 := by rw [hS0]; exact Nat.zero_le _
  have hcl := hs2 i (by omega)
  refine gc_loop (α := Nat × Option Nat × Nat × List Value) (fun x => [(0, true, .slice p l.length cap), (4, true, .slice (x.2.1.map ad) (putAll ((l.getD i default).cells.take x.1) S0).length x.2.2.1), (5, true, .bool true), (6, true, .int .i64 (l.getD i default).version), (7, true, .int .i64 (i : Int)), (8, true, .pointer (some ⟨g_, 0, none⟩)), (9, true, .int .i64 (x.1 : Int))])
      (fun x => (g_, true, .cells ((l.getD i default).rl (cp i) (cc i)).toArray 65 (0, 0)) :: ow x.2.1 true (cat Shown.l (putAll ((l.getD i default).cells.take x.1) S0) ++ x.2.2.2) 120) (fun x => x.1 ≤ (l.getD i default).cells.length ∧ Ow x.2.1 (putAll ((l.getD i default).cells.take x.1) S0).length x.2.2.1 6 (cat Shown.l (putAll ((l.getD i default).cells.take x.1) S0)) x.2.2.2) (fun x => (l.getD i default).cells.length - x.1) (0, none, 0, []) (by subst hS0; exact c_frs) (by subst hS0; exact List.Sublist.cons_cons _ (List.nil_sublist _)) ⟨Nat.zero_le _, by subst hS0; exact Ow.none0⟩ ?_
  rotate_left 1
  obtain ⟨S0, hS0⟩ : ∃ S0 : List Shown, S0 = out := ⟨out, rfl⟩
  have hSt : S0 = (if (l.getD i default).kind = 2 then [] else out) := by rw [if_neg hd_, hS0]
  have hS0l : S0.length ≤ i * 1000 := by rw [hS0]; exact hol
  have hcl := hs2 i (by omega)
  refine gc_loop (α := Nat × Option Nat × Nat × List Value) (fun x => [(0, true, .slice p l.length cap), (4, true, .slice (x.2.1.map ad) (putAll ((l.getD i default).cells.take x.1) S0).length x.2.2.1), (5, true, .bool true), (6, true, .int .i64 (l.getD i default).version), (7, true, .int .i64 (i : Int)), (8, true, .pointer (some ⟨g_, 0, none⟩)), (9, true, .int .i64 (x.1 : Int))])
      (fun x => (g_, true, .cells ((l.getD i default).rl (cp i) (cc i)).toArray 65 (0, 0)) :: ow x.2.1 true (cat Shown.l (putAll ((l.getD i default).cells.take x.1) S0) ++ x.2.2.2) 120) (fun x => x.1 ≤ (l.getD i default).cells.length ∧ Ow x.2.1 (putAll ((l.getD i default).cells.take x.1) S0).length x.2.2.1 6 (cat Shown.l (putAll ((l.getD i default).cells.take x.1) S0)) x.2.2.2) (fun x => (l.getD i default).cells.length - x.1) (0, q, c, sp) (by subst hS0; exact c_frs) (by subst hS0; exact List.Sublist.refl _) ⟨Nat.zero_le _, by subst hS0; exact ho⟩ ?_
  rotate_left 2
  · refine ge_round (i + 1, any, last, out, q, c, sp) ⟨by omega, ?_, by dsimp only; omega, ho⟩ (by show l.length - (i + 1) < l.length - i; omega) c_frs (List.Sublist.cons _ (List.Sublist.refl _))
    show allR (l.take (i + 1)) (false, 0, []) = some (any, last, out)
    rw [allR_next hst (by omega), stepR, if_pos hd_]
  · intro W hW
    have e : playRR l = ([], false) := by
      unfold playRR
      rw [allR_fail (i := i + 1) (by rw [allR_next hst (by omega), stepR_bad (by assumption) h_])]
    rw [e]
    exact ⟨none, 0, [], rfl, Ow.none0, hW.drop (List.nil_sublist _)⟩
  rotate_left 2
  · have hi2 : i = l.length := by omega
    rw [hi2, List.take_length] at hst
    have hres : playRR l = (out.filter nb1, true) := by unfold playRR; rw [hst]
    have hol2 : out.length ≤ 100000000 := by omega
    rw [hres]
    refine gc_baseR fun W1 h1 => ?_
    have hso := slA_cat len_shown rfl h1 Oa.self ho
    have hfl : ∀ i2, ((out.take i2).filter nb1).length ≤ out.length := fun i2 => by
      have h3 := List.length_filter_le nb1 (out.take i2)
      rw [List.length_take] at h3
      omega
    refine gc_loop (α := Nat × Option Nat × Nat × List Value) (fun x => [(4, true, .slice (q.map ad) out.length c), (10, true, .slice (x.2.1.map ad) ((out.take x.1).filter nb1).length x.2.2.1), (11, true, .int .i64 (x.1 : Int))])
      (fun x => ow x.2.1 true (cat Shown.l ((out.take x.1).filter nb1) ++ x.2.2.2) 120) (fun x => x.1 ≤ out.length ∧ Ow x.2.1 ((out.take x.1).filter nb1).length x.2.2.1 6 (cat Shown.l ((out.take x.1).filter nb1)) x.2.2.2) (fun x => out.length - x.1) (0, none, 0, []) c_frs (List.nil_sublist _) ⟨Nat.zero_le _, Ow.none0⟩ ?_
    clear ho
    rintro ⟨i2, q2, c2, sp2⟩ ⟨hi2, ho⟩
    dsimp only at hi2 ho ⊢
    have hll := hfl i2
    repeat' first
      | (refine gl_gate ?_; first
        | refine gl_nil ?_
        | (refine gl_add0 ?_; refine gl_yv (yv_add tab_ok (gok_none rfl) rfl rfl rfl rfl (fun _ => allT_of rfl) (by intro _; omega)) rfl rfl ?_)
        | (refine gl_idx0 ?_; refine gl_yv (yv_idxA tab_ok hso (gok_none rfl) rfl rfl rfl rfl rfl rfl (fun _ => rfl) (fun _ => rfl) c_bnd) rfl rfl ?_)
        | (refine gl_load0 ?_; refine gl_yv (yv_ldA tab_ok hso c_nm (gok_none rfl) rfl rfl (fun _ => rfl) c_bnd (fun _ => c_lds)) rfl rfl ?_)
        | (refine gl_load0 ?_; refine gl_yv (yv_ldA0 tab_ok hso c_nm (gok_none rfl) rfl rfl (fun _ => rfl) c_bnd (fun _ => c_lds)) rfl rfl ?_)
        | (refine gl_app0 ?_; (refine gl_ev (ev_append tab_ok rfl rfl rfl rfl rfl rfl rfl rfl c_oa (ho) (c_src) c_lim c_lim ?_) rfl rfl; intro p_ c_ sp_ hw_))
        | (refine gl_bld0 ?_; (refine gl_ev (ev_buildSlice tab_ok rfl rfl rfl rfl rfl rfl rfl rfl rfl rfl ?_) rfl rfl; intro g_ hg_))
        | (refine gl_any0 ?_; refine gl_pure tab_ok rfl rfl rfl rfl rfl rfl ?_))
      | (refine gc_gate ?_; first
        | refine gc_seq ?_
        | refine gc_region ?_
        | (refine gc_cond rfl ?_ ?_ <;> intro h_ <;> have hd_ := h_ <;> (try simp only [bytes_beq, cell_beq, val_beq, stamp_beq, decide_eq_true_eq, decide_eq_false_iff_not, Bool.and_eq_true, Bool.or_eq_true, Bool.or_eq_false_iff, Bool.not_eq_true', Bool.not_eq_false', Bool.not_true, Bool.not_false, Bool.false_or, Bool.true_and, Bool.and_true, Bool.or_false, beq_iff_eq, bne_iff_ne, beq_eq_false_iff_ne, bne_eq_false_iff_eq, ne_eq, Bool.false_eq_true, reduceCtorEq] at hd_) <;> (try (exfalso; omega)))
        | refine gc_block ?_
        | refine gc_exit ?_
        | refine gc_ret ?_
        | refine gc_skip ?_)
      | (refine ge_gate ?_; first
        | ((with_reducible refine ge_gT ?_); first | with_reducible refine ge_then ?_ | with_reducible refine ge_then_exit ?_ | with_reducible refine ge_then_ret ?_)
        | ((with_reducible refine ge_gK ?_); first | with_reducible refine ge_block ?_ | refine ge_block_exit ?_ | refine ge_block_pass rfl ?_ | with_reducible refine ge_block_ret ?_)
        | ((with_reducible refine ge_gB ?_); first | refine ge_ret1 tab_ok rfl c_rvt ?_ | refine ge_end1 tab_ok rfl c_rvt ?_ | refine ge_ret2 tab_ok rfl c_rvt c_rvt ?_ | refine ge_ret_none rfl ?_ | refine ge_end_none rfl ?_))
    · have e : (out.take (i2 + 1)).filter nb1 = (out.take i2).filter nb1 ++ [out.getD i2 default] := by
        rw [take_succD _ _ (by omega), List.filter_append]
        simp only [List.filter, nb1, h_]
      refine ge_round (i2 + 1, p_, c_, sp_) ⟨by omega, ?_⟩ (by show out.length - (i2 + 1) < out.length - i2; omega) ?_ ?_
      · dsimp only
        rw [e, List.length_append, cat_snoc]
        exact hw_
      · dsimp only
        rw [e, List.length_append]
        exact c_frs
      · dsimp only
        rw [e, cat_snoc]
        exact List.sublist_append_left _ _
    · have e : (out.take (i2 + 1)).filter nb1 = (out.take i2).filter nb1 := by
        rw [take_succD _ _ (by omega), List.filter_append]
        simp only [List.filter, nb1, h_, List.append_nil]
      refine ge_round (i2 + 1, q2, c2, sp2) ⟨by omega, ?_⟩ (by show out.length - (i2 + 1) < out.length - i2; omega) ?_ ?_
      · dsimp only
        rw [e]
        exact ho
      · dsimp only
        rw [e]
        exact c_frs
      · dsimp only
        rw [e]
        exact List.Sublist.refl _
    · intro W hW
      have h3 : i2 = out.length := by omega
      rw [h3, List.take_length] at ho hW ⊢
      exact ⟨q2, c2, sp2, rfl, ho, h1.trans0 hW⟩
  all_goals
    rintro ⟨j, q2, c2, sp2⟩ ⟨hj, ho2⟩
    dsimp only at hj ho2 ⊢
    have hcn := hc _ (getD_mem l i (by omega))
    have hpl := putAll_len ((l.getD i default).cells.take j) S0
    rw [List.length_take] at hpl
    have hgo := stepR_go (any := any) (last := last) (r := l.getD i default) (by assumption) (by assumption) hSt
    repeat' first
      | (refine gl_gate ?_; first
        | refine gl_nil ?_
        | (refine gl_load0 ?_; refine gl_yv (yv_load tab_ok (gok_none rfl) rfl rfl (fun _ => rfl) c_mem (fun _ => c_lds)) rfl rfl ?_)
        | (refine gl_add0 ?_; refine gl_yv (yv_add tab_ok (gok_none rfl) rfl rfl rfl rfl (fun _ => allT_of rfl) (by intro _; omega)) rfl rfl ?_)
        | (refine gl_any0 ?_; refine gl_pure tab_ok rfl rfl rfl rfl rfl rfl ?_))
      | (refine gc_gate ?_; first
        | refine gc_seq ?_
        | refine gc_region ?_
        | refine gc_block ?_
        | (refine gc_cond rfl ?_ ?_ <;> intro h_ <;> have hd_ := h_ <;> (try simp only [bytes_beq, cell_beq, val_beq, stamp_beq, decide_eq_true_eq, decide_eq_false_iff_not, Bool.and_eq_true, Bool.or_eq_true, Bool.or_eq_false_iff, Bool.not_eq_true', Bool.not_eq_false', Bool.not_true, Bool.not_false, Bool.false_or, Bool.true_and, Bool.and_true, Bool.or_false, beq_iff_eq, bne_iff_ne, beq_eq_false_iff_ne, bne_eq_false_iff_eq, ne_eq, Bool.false_eq_true, reduceCtorEq] at hd_) <;> (try (exfalso; omega)))
        | refine gc_exit ?_
        | refine gc_skip ?_)
      | (refine ge_gate ?_; first
        | ((with_reducible refine ge_gT ?_); first | with_reducible refine ge_then ?_ | with_reducible refine ge_then_exit ?_ | with_reducible refine ge_then_ret ?_)
        | ((with_reducible refine ge_gK ?_); first | with_reducible refine ge_block ?_ | refine ge_block_exit ?_ | refine ge_block_pass rfl ?_ | with_reducible refine ge_block_ret ?_))
    · refine gp_start [] #[false, false, false, false, false, false, false, false, false, false, false, false, false, false, false] mixed rfl rfl c_qp ?_; intro hqp_
      refine gp_take 0 #[true, false, false, false, false, false, false, false, false, false, false, false, false, false, false] hqp_ rfl (by kernel_rfl) (yv_pure tab_ok c_gok rfl rfl c_allT) c_cl rfl rfl ?_
      refine gp_take 1 #[true, true, false, false, false, false, false, false, false, false, false, false, false, false, false] hqp_ rfl (by kernel_rfl) (yv_pure tab_ok c_gok rfl rfl c_allT) c_cl rfl rfl ?_
      refine gp_take 2 #[true, true, true, false, false, false, false, false, false, false, false, false, false, false, false] hqp_ rfl (by kernel_rfl) (yv_load tab_ok c_gok rfl rfl c_imp c_mem (fun _ => c_lds)) c_cl rfl rfl ?_
      refine gp_take 3 #[true, true, true, true, false, false, false, false, false, false, false, false, false, false, false] hqp_ rfl (by kernel_rfl) (yv_pure tab_ok c_gok rfl rfl c_allT) c_cl rfl rfl ?_
      refine gp_take 4 #[true, true, true, true, true, false, false, false, false, false, false, false, false, false, false] hqp_ rfl (by kernel_rfl) (yv_idxA tab_ok hcl c_gok rfl rfl rfl rfl rfl rfl c_imp c_imp c_bnd) c_cl rfl rfl ?_
      refine gp_take 5 #[true, true, true, true, true, true, false, false, false, false, false, false, false, false, false] hqp_ rfl (by kernel_rfl) (yv_pure tab_ok c_gok rfl rfl c_allT) c_cl rfl rfl ?_
      refine gp_take 6 #[true, true, true, true, true, true, true, false, false, false, false, false, false, false, false] hqp_ rfl (by kernel_rfl) (yv_ldA tab_ok hcl c_nm c_gok rfl rfl c_imp c_bnd (fun _ => c_lds)) c_cl rfl rfl ?_
      refine gp_take 7 #[true, true, true, true, true, true, true, true, false, false, false, false, false, false, false] hqp_ rfl (by kernel_rfl) (yv_pure tab_ok c_gok rfl rfl c_allT) c_cl rfl rfl ?_
      refine gp_take 8 #[true, true, true, true, true, true, true, true, true, false, false, false, false, false, false] hqp_ rfl (by kernel_rfl) (yv_load tab_ok c_gok rfl rfl c_imp c_mem (fun _ => c_lds)) c_cl rfl rfl ?_
      refine gp_take 9 #[true, true, true, true, true, true, true, true, true, true, false, false, false, false, false] hqp_ rfl (by kernel_rfl) (yv_pure tab_ok c_gok rfl rfl c_allT) c_cl rfl rfl ?_
      refine gp_take 10 #[true, true, true, true, true, true, true, true, true, true, true, false, false, false, false] hqp_ rfl (by kernel_rfl) (yv_idxA tab_ok hcl c_gok rfl rfl rfl rfl rfl rfl c_imp c_imp c_bnd) c_cl rfl rfl ?_
      refine gp_take 11 #[true, true, true, true, true, true, true, true, true, true, true, true, false, false, false] hqp_ rfl (by kernel_rfl) (yv_pure tab_ok c_gok rfl rfl c_allT) c_cl rfl rfl ?_
      refine gp_take 12 #[true, true, true, true, true, true, true, true, true, true, true, true, true, false, false] hqp_ rfl (by kernel_rfl) (yv_ldA tab_ok hcl c_nm c_gok rfl rfl c_imp c_bnd (fun _ => c_lds)) c_cl rfl rfl ?_
      (refine gp_ev 13 #[true, true, true, true, true, true, true, true, true, true, true, true, true, true, false] rfl (by kernel_rfl) rfl rfl rfl (ev_callOw rfl rfl ent119 rfl rfl rfl (fun W hW => ct_Set (putAll ((l.getD i default).cells.take j) S0) ((l.getD i default).cells.getD j default).cell ((l.getD i default).cells.getD j default).val _ _ _ W rfl (slA_cat len_shown rfl hW c_oa ho2) (by omega) ho2.le (fun h => ho2.nil (Option.map_eq_none_iff.1 h))) ?_); intro p_ c_ sp_ hw_; refine ⟨c_cl, ?_⟩)
      refine gp_take 14 #[true, true, true, true, true, true, true, true, true, true, true, true, true, true, true] hqp_ rfl (by kernel_rfl) (yv_pure tab_ok c_gok rfl rfl c_allT) c_cl rfl rfl ?_
      refine gp_done (by kernel_rfl) ?_; clear hqp_
      repeat' first
        | (refine gl_gate ?_; first
          | refine gl_nil ?_
          | (refine gl_add0 ?_; refine gl_yv (yv_add tab_ok (gok_none rfl) rfl rfl rfl rfl (fun _ => allT_of rfl) (by intro _; omega)) rfl rfl ?_)
          | (refine gl_any0 ?_; refine gl_pure tab_ok rfl rfl rfl rfl rfl rfl ?_))
        | (refine gc_gate ?_; first
          | refine gc_region ?_)
        | (refine ge_gate ?_; first
          | ((with_reducible refine ge_gT ?_); first | with_reducible refine ge_then ?_ | with_reducible refine ge_then_exit ?_ | with_reducible refine ge_then_ret ?_)
          | ((with_reducible refine ge_gK ?_); first | with_reducible refine ge_block ?_ | refine ge_block_exit ?_ | refine ge_block_pass rfl ?_ | with_reducible refine ge_block_ret ?_))
      have e := putAll_take (l.getD i default).cells S0 j (by omega)
      refine ge_perm (ow p_ true _ _) _ rfl ?_
      refine ge_round (j + 1, p_, c_, sp_) ⟨by omega, ?_⟩ (by show (l.getD i default).cells.length - (j + 1) < (l.getD i default).cells.length - j; omega) ?_ ?_
      · dsimp only
        rw [e]
        exact hw_
      · dsimp only
        rw [e]
        exact c_frs
      · dsimp only
        rw [e]
        exact List.Sublist.cons_cons _ (sub_app (List.Sublist.refl _))
    · have hj2 : j = (l.getD i default).cells.length := by omega
      rw [hj2, List.take_length] at ho2 hpl ⊢
      refine ge_round (i + 1, true, (l.getD i default).version, putAll (l.getD i default).cells S0, q2, c2, sp2) ⟨by omega, ?_, by dsimp only; omega, ho2⟩ (by show l.length - (i + 1) < l.length - i; omega) c_frs (List.Sublist.cons _ (List.Sublist.refl _))
      show allR (l.take (i + 1)) (false, 0, []) = some _
      rw [allR_next hst (by omega), hgo]
end Go.Proofs.Ytkgjfcjciigcgaa
