/-
  Depth, SameNode, size: what each answers.
-/
import Derived.Test.YtkgjfcjciigcgaaTree
namespace Go.Proofs.Ytkgjfcjciigcgaa
open Go.Proofs.Ytkgjfcjciigcgaa.Sl Go.RowKit
set_option linter.unusedVariables false
set_option linter.unusedSimpArgs false
set_option maxRecDepth 100000

namespace Node
theorem depthL_ge : ∀ (l : List Node) (m : Int), m ≤ depthL l m
  | [], m => by rw [depthL]; omega
  | k :: ks, m => by rw [depthL]; have := depthL_ge ks (max m k.depth); omega
theorem depth_pos (n : Node) : 1 ≤ n.depth := by rw [depth_eq]; have := depthL_ge n.kids 0; omega
theorem depthL_le : ∀ (l : List Node) (m b : Int), m ≤ b → (∀ x ∈ l, x.depth ≤ b) → depthL l m ≤ b
  | [], m, b, h, _ => by rw [depthL]; exact h
  | k :: ks, m, b, h, hl => by
    rw [depthL]
    have := hl k (by simp)
    exact depthL_le ks _ b (by omega) fun x hx => hl x (by simp [hx])
theorem depth_le_count (n : Node) : n.depth ≤ n.count := by
  induction n using Node.ind with
  | h n ih =>
    rw [depth_eq, count_eq]
    have := depthL_le n.kids 0 (countL n.kids : Nat) (by omega) fun x hx => by
      have h1 := ih x hx
      have h2 := countL_mem hx
      omega
    omega
theorem depthL_step (l : List Node) (i : Nat) (h : i < l.length) : depthL (l.take (i + 1)) 0 = max (depthL (l.take i) 0) (l.getD i default).depth := by
  rw [depthL_eq, depthL_eq, take_succD l i h, List.foldl_append]; rfl
theorem depthL_take_le (n : Node) (i : Nat) : depthL (n.kids.take i) 0 ≤ n.count := depthL_le _ _ _ (by omega) fun x hx => by
  have h1 := depth_le_count x
  have h2 := kid_count (n := n) (List.mem_of_mem_take hx)
  omega
end Node
theorem ct_Depth {S : Nat → Prop} : ∀ (t : Node) (p : Option Addr) (c : Nat) (w : World), NodeR S w t p → t.count ≤ 1000000 → Calls Try.prog 65 #[.agg (t.l p c).toArray] w fun e w' => e = .returned (.int .i64 t.depth) ∧ Bl w w' := by
  intro t
  induction t using Node.ind with
  | h t ih =>
  intro p c w hR hc
  cases hR with
  | @mk _ _ kp kc hs hS hk =>
  have hkl := t.kids_len
  refine enter (args := [_]) (M := []) (K := []) Try.func65 rfl Try.ntmps65 rfl (St.refl _ _) ?_
  repeat' first
    | (refine gl_gate ?_; first
      | refine gl_nil ?_
      | (refine gl_load0 ?_; refine gl_yv (yv_load tab_ok (gok_none rfl) rfl rfl (fun _ => rfl) c_mem (fun _ => c_lds)) rfl rfl ?_)
      | (refine gl_box0 ?_; first | (refine gl_box_agg rfl rfl rfl rfl rfl ?_; intro g_ hg_) | (refine gl_box_one rfl rfl rfl rfl rfl rfl ?_; intro g_ hg_) | (refine gl_box rfl rfl rfl rfl rfl ?_; intro g_ hg_))
      | (refine gl_any0 ?_; refine gl_pure tab_ok rfl rfl rfl rfl rfl rfl ?_))
    | (refine gc_gate ?_; first
      | refine gc_seq ?_
      | refine gc_region ?_
      | refine gc_block ?_)
    | (refine ge_gate ?_; first
      | ((with_reducible refine ge_gT ?_); first | with_reducible refine ge_then ?_ | with_reducible refine ge_then_exit ?_ | with_reducible refine ge_then_ret ?_))
  refine gc_loop (α := Nat) (fun i => [(3, true, .int .i64 (Node.depthL (t.kids.take i) 0)), (7, true, .slice p t.kids.length c), (8, true, .int .i64 t.kids.length), (9, true, .int .i64 (i : Int))]) (fun _ => []) (fun i => i ≤ t.kids.length) (fun i => t.kids.length - i) 0 c_frs c_sub (Nat.zero_le _) ?_
  intro i hi
  have hdl := t.depthL_take_le i
  have hdg := Node.depthL_ge (t.kids.take i) 0
  have hki : i < t.kids.length → (t.kids.getD i default).count ≤ 1000000 := fun h => by have := Node.kid_count (getD_mem t.kids i h); omega
  repeat' first
    | (refine gl_gate ?_; first
      | refine gl_nil ?_
      | (refine gl_load0 ?_; refine gl_yv (yv_load tab_ok (gok_none rfl) rfl rfl (fun _ => rfl) c_mem (fun _ => c_lds)) rfl rfl ?_)
      | (refine gl_add0 ?_; refine gl_yv (yv_add tab_ok (gok_none rfl) rfl rfl rfl rfl (fun _ => allT_of rfl) (by intro _; omega)) rfl rfl ?_)
      | (refine gl_idx0 ?_; refine gl_yv (yv_idxA tab_ok hs (gok_none rfl) rfl rfl rfl rfl rfl rfl (fun _ => rfl) (fun _ => rfl) c_bnd) rfl rfl ?_)
      | (refine gl_load0 ?_; refine gl_yv (yv_ldA0 tab_ok hs c_nm (gok_none rfl) rfl rfl (fun _ => rfl) c_bnd (fun _ => c_lds)) rfl rfl ?_)
      | (refine gl_calv0 ?_; first | refine gl_yd (yd_call (gok_none rfl) rfl ent65 rfl rfl (fun _ => allT_of rfl) (fun _ W hW => ih _ (getD_mem t.kids i (by omega)) (kp i) (kc i) W ((hk i (by omega)).st hW) (hki (by omega)))) rfl rfl ?_)
      | (refine gl_alc0 ?_; (refine gl_alloc tab_ok rfl rfl rfl rfl rfl ?_; intro g_ hg_))
      | (refine gl_sto0 ?_; refine gl_store tab_ok rfl rfl rfl rfl rfl rfl rfl c_one rfl c_ku ?_)
      | (refine gl_any0 ?_; refine gl_pure tab_ok rfl rfl rfl rfl rfl rfl ?_))
    | (refine gc_gate ?_; first
      | refine gc_seq ?_
      | refine gc_region ?_
      | (refine gc_cond rfl ?_ ?_ <;> intro h_ <;> have hd_ := h_ <;> (try simp only [bytes_beq, cell_beq, val_beq, stamp_beq, decide_eq_true_eq, decide_eq_false_iff_not, Bool.and_eq_true, Bool.or_eq_true, Bool.or_eq_false_iff, Bool.not_eq_true', Bool.not_eq_false', Bool.not_true, Bool.not_false, Bool.false_or, Bool.true_and, Bool.and_true, Bool.or_false, beq_iff_eq, bne_iff_ne, beq_eq_false_iff_ne, bne_eq_false_iff_eq, ne_eq, Bool.false_eq_true, reduceCtorEq] at hd_) <;> (try (exfalso; omega)))
      | refine gc_block ?_
      | refine gc_exit ?_
      | refine gc_ret ?_
      | refine gc_skip ?_)
    | (refine ge_gate ?_; first
      | ((with_reducible refine ge_gT ?_); first | with_reducible refine ge_then ?_ | with_reducible refine ge_then_exit ?_ | with_reducible refine ge_then_ret ?_)
      | ((with_reducible refine ge_gK ?_); first | with_reducible refine ge_block ?_ | refine ge_block_exit ?_ | refine ge_block_pass rfl ?_ | with_reducible refine ge_block_ret ?_)
      | ((with_reducible refine ge_gB ?_); first | refine ge_ret1 tab_ok rfl c_rvt ?_ | refine ge_end1 tab_ok rfl c_rvt ?_ | refine ge_ret2 tab_ok rfl c_rvt c_rvt ?_ | refine ge_ret_none rfl ?_ | refine ge_end_none rfl ?_))
  · have hst := Node.depthL_step t.kids i (by omega)
    refine ge_round (i + 1) (by omega) (by omega) ?_ c_sub
    rw [hst, show max (Node.depthL (t.kids.take i) 0) (t.kids.getD i default).depth = if (t.kids.getD i default).depth > Node.depthL (t.kids.take i) 0 then (t.kids.getD i default).depth else Node.depthL (t.kids.take i) 0 by split <;> omega]
    exact c_frs
  · intro W hW
    refine ⟨?_, hW.below0⟩
    have : i = t.kids.length := by omega
    subst this
    rw [List.take_length, Node.depth_eq]
theorem ct_DepthR {S : Nat → Prop} : ∀ (t : Node) (p : Option Addr) (c : Nat) (w : World), NodeR S w t p → t.count ≤ 1000000 → Calls Try.prog 67 #[.agg (t.l p c).toArray] w fun e w' => e = .returned (.int .i64 t.depth) ∧ Bl w w' := by
  intro t
  induction t using Node.ind with
  | h t ih =>
  intro p c w hR hc
  cases hR with
  | @mk _ _ kp kc hs hS hk =>
  have hkl := t.kids_len
  refine enter (args := [_]) (M := []) (K := []) Try.func67 rfl Try.ntmps67 rfl (St.refl _ _) ?_
  repeat' first
    | (refine gl_gate ?_; first
      | refine gl_nil ?_
      | (refine gl_box0 ?_; first | (refine gl_box_agg rfl rfl rfl rfl rfl ?_; intro g_ hg_) | (refine gl_box_one rfl rfl rfl rfl rfl rfl ?_; intro g_ hg_) | (refine gl_box rfl rfl rfl rfl rfl ?_; intro g_ hg_))
      | (refine gl_any0 ?_; refine gl_pure tab_ok rfl rfl rfl rfl rfl rfl ?_))
    | (refine gc_gate ?_; first
      | refine gc_seq ?_
      | refine gc_region ?_
      | refine gc_block ?_)
    | (refine ge_gate ?_; first
      | ((with_reducible refine ge_gT ?_); first | with_reducible refine ge_then ?_ | with_reducible refine ge_then_exit ?_ | with_reducible refine ge_then_ret ?_))
  refine gc_loop (α := Nat) (fun i => [(1, true, .pointer (some ⟨g_, 0, none⟩)), (3, true, .int .i64 (Node.depthL (t.kids.take i) 0)), (4, true, .int .i64 (i : Int))]) (fun _ => [(g_, true, .cells (t.l p c).toArray 28 (0, 0))]) (fun i => i ≤ t.kids.length) (fun i => t.kids.length - i) 0 c_frs c_sub (Nat.zero_le _) ?_
  intro i hi
  have hdl := t.depthL_take_le i
  have hdg := Node.depthL_ge (t.kids.take i) 0
  have hki : i < t.kids.length → (t.kids.getD i default).count ≤ 1000000 := fun h => by have := Node.kid_count (getD_mem t.kids i h); omega
  have hst := Node.depthL_step t.kids i
  repeat' first
    | (refine gl_gate ?_; first
      | refine gl_nil ?_
      | (refine gl_load0 ?_; refine gl_yv (yv_load tab_ok (gok_none rfl) rfl rfl (fun _ => rfl) c_mem (fun _ => c_lds)) rfl rfl ?_)
      | (refine gl_add0 ?_; refine gl_yv (yv_add tab_ok (gok_none rfl) rfl rfl rfl rfl (fun _ => allT_of rfl) (by intro _; omega)) rfl rfl ?_)
      | (refine gl_idx0 ?_; refine gl_yv (yv_idxA tab_ok hs (gok_none rfl) rfl rfl rfl rfl rfl rfl (fun _ => rfl) (fun _ => rfl) c_bnd) rfl rfl ?_)
      | (refine gl_load0 ?_; refine gl_yv (yv_ldA0 tab_ok hs c_nm (gok_none rfl) rfl rfl (fun _ => rfl) c_bnd (fun _ => c_lds)) rfl rfl ?_)
      | (refine gl_calv0 ?_; first | refine gl_yd (yd_call (gok_none rfl) rfl ent67 rfl rfl (fun _ => allT_of rfl) (fun _ W hW => ih _ (getD_mem t.kids i (by omega)) (kp i) (kc i) W ((hk i (by omega)).st hW) (hki (by omega)))) rfl rfl ?_)
      | (refine gl_any0 ?_; refine gl_pure tab_ok rfl rfl rfl rfl rfl rfl ?_))
    | (refine gc_gate ?_; first
      | refine gc_seq ?_
      | refine gc_region ?_
      | (refine gc_cond rfl ?_ ?_ <;> intro h_ <;> have hd_ := h_ <;> (try simp only [bytes_beq, cell_beq, val_beq, stamp_beq, decide_eq_true_eq, decide_eq_false_iff_not, Bool.and_eq_true, Bool.or_eq_true, Bool.or_eq_false_iff, Bool.not_eq_true', Bool.not_eq_false', Bool.not_true, Bool.not_false, Bool.false_or, Bool.true_and, Bool.and_true, Bool.or_false, beq_iff_eq, bne_iff_ne, beq_eq_false_iff_ne, bne_eq_false_iff_eq, ne_eq, Bool.false_eq_true, reduceCtorEq] at hd_) <;> (try (exfalso; omega)))
      | refine gc_block ?_
      | refine gc_exit ?_
      | refine gc_ret ?_
      | refine gc_skip ?_)
    | (refine ge_gate ?_; first
      | ((with_reducible refine ge_gT ?_); first | with_reducible refine ge_then ?_ | with_reducible refine ge_then_exit ?_ | with_reducible refine ge_then_ret ?_)
      | ((with_reducible refine ge_gK ?_); first | with_reducible refine ge_block ?_ | refine ge_block_exit ?_ | refine ge_block_pass rfl ?_ | with_reducible refine ge_block_ret ?_)
      | ((with_reducible refine ge_gB ?_); first | refine ge_ret1 tab_ok rfl c_rvt ?_ | refine ge_end1 tab_ok rfl c_rvt ?_ | refine ge_ret2 tab_ok rfl c_rvt c_rvt ?_ | refine ge_ret_none rfl ?_ | refine ge_end_none rfl ?_))
  · refine ge_round (i + 1) (by omega) (by omega) ?_ c_sub
    rw [hst (by omega), Int.max_eq_right (by omega)]
    exact c_frs
  · refine ge_round (i + 1) (by omega) (by omega) ?_ c_sub
    rw [hst (by omega), Int.max_eq_left (by omega)]
    exact c_frs
  · intro W hW
    refine ⟨?_, hW.below0⟩
    have : i = t.kids.length := by omega
    subst this
    rw [List.take_length, Node.depth_eq]

open Classical in
noncomputable def sameN (a b : Node) : Bool := decide (a = b)
theorem sameN_pos {a b : Node} (h : a = b) : sameN a b = true := by unfold sameN; simp [h]
theorem sameN_neg {a b : Node} (h : a ≠ b) : sameN a b = false := by unfold sameN; simp [h]
theorem ct_SameNode {S S' : Nat → Prop} : ∀ (a b : Node) (p q : Option Addr) (c d : Nat) (w : World), NodeR S w a p → NodeR S' w b q → a.count ≤ 1000000 → b.count ≤ 1000000 → Calls Try.prog 34 #[.agg (a.l p c).toArray, .agg (b.l q d).toArray] w fun e w' => e = .returned (.bool (sameN a b)) ∧ Bl w w' := by
  intro a
  induction a using Node.ind with
  | h a ih =>
  intro b p q c d w hA hB hca hcb
  cases hA with
  | @mk _ _ kp kc hs hS hk =>
  cases hB with
  | @mk _ _ kp' kc' hs' hS' hk' =>
  have hkl := a.kids_len
  have hkl' := b.kids_len
  refine enter (args := [_, _]) (M := []) (K := []) Try.func34 rfl Try.ntmps34 rfl (St.refl _ _) ?_
  repeat' first
    | (refine gl_gate ?_; first
      | refine gl_nil ?_
      | (refine gl_load0 ?_; refine gl_yv (yv_load tab_ok (gok_none rfl) rfl rfl (fun _ => rfl) c_mem (fun _ => c_lds)) rfl rfl ?_)
      | (refine gl_pick0 ?_; first | refine gl_yv (yv_and (gok_none rfl) rfl rfl rfl (fun _ => rfl) c_imp2) rfl rfl ?_ | refine gl_yv (yv_or (gok_none rfl) rfl rfl rfl (fun _ => rfl) c_imp2) rfl rfl ?_)
      | (refine gl_loadG ?_; refine gl_yv (yv_load tab_ok c_gok rfl rfl c_imp c_mem (fun _ => c_lds)) rfl rfl ?_)
      | (refine gl_box0 ?_; first | (refine gl_box_agg rfl rfl rfl rfl rfl ?_; intro g_ hg_) | (refine gl_box_one rfl rfl rfl rfl rfl rfl ?_; intro g_ hg_) | (refine gl_box rfl rfl rfl rfl rfl ?_; intro g_ hg_))
      | (refine gl_any0 ?_; refine gl_pure tab_ok rfl rfl rfl rfl rfl rfl ?_)
      | (refine gl_neS ?_; first | refine gl_yv (yv_neS tab_ok eqs_ok c_gok rfl rfl rfl rfl c_allT rfl rfl rfl) rfl rfl ?_)
      | (refine gl_anyG ?_; first | refine gl_yv (yv_pure tab_ok c_gok rfl rfl c_allT) rfl rfl ?_ | refine gl_yv (yv_indexS tab_ok c_gok rfl rfl rfl rfl c_imp c_imp (by intro hq_; (try simp only [Bool.and_eq_true, Bool.not_eq_true', Bool.not_eq_false', Bool.or_eq_false_iff, Bool.or_eq_true, decide_eq_true_eq, decide_eq_false_iff_not, Bool.true_and, Bool.and_true] at hq_); omega)) rfl rfl ?_ | refine gl_yv (yv_indexS (i := 0) tab_ok c_gok rfl rfl rfl rfl c_imp c_imp (by intro hq_; (try simp only [Bool.and_eq_true, Bool.not_eq_true', Bool.not_eq_false', Bool.or_eq_false_iff, Bool.or_eq_true, decide_eq_true_eq, decide_eq_false_iff_not, Bool.true_and, Bool.and_true] at hq_); omega)) rfl rfl ?_))
    | (refine gc_gate ?_; first
      | refine gc_seq ?_
      | refine gc_region ?_
      | (refine gc_cond rfl ?_ ?_ <;> intro h_ <;> have hd_ := h_ <;> (try simp only [bytes_beq, cell_beq, val_beq, stamp_beq, decide_eq_true_eq, decide_eq_false_iff_not, Bool.and_eq_true, Bool.or_eq_true, Bool.or_eq_false_iff, Bool.not_eq_true', Bool.not_eq_false', Bool.not_true, Bool.not_false, Bool.false_or, Bool.true_and, Bool.and_true, Bool.or_false, beq_iff_eq, bne_iff_ne, beq_eq_false_iff_ne, bne_eq_false_iff_eq, ne_eq, Bool.false_eq_true, reduceCtorEq] at hd_) <;> (try (exfalso; omega)))
      | refine gc_block ?_
      | refine gc_ret ?_
      | refine gc_skip ?_)
    | (refine ge_gate ?_; first
      | ((with_reducible refine ge_gT ?_); first | with_reducible refine ge_then ?_ | with_reducible refine ge_then_exit ?_ | with_reducible refine ge_then_ret ?_)
      | ((with_reducible refine ge_gB ?_); first | refine ge_ret1 tab_ok rfl c_rvt ?_ | refine ge_end1 tab_ok rfl c_rvt ?_ | refine ge_ret2 tab_ok rfl c_rvt c_rvt ?_ | refine ge_ret_none rfl ?_ | refine ge_end_none rfl ?_))
  · intro W hW
    refine ⟨?_, hW.below0⟩
    rw [sameN_neg]
    intro e
    subst e
    simp at hd_
  rename_i g1 hg1
  obtain ⟨⟨⟨⟨⟨⟨e1, e2⟩, e3⟩, e4⟩, e5⟩, e6⟩, e7⟩ := hd_
  refine gc_loop (α := Nat) (fun i => [(2, true, .pointer (some ⟨g1, 0, none⟩)), (3, true, .pointer (some ⟨g_, 0, none⟩)), (5, true, .int .i64 (i : Int))]) (fun _ => [(g_, true, .cells (b.l q d).toArray 28 (0, 0)), (g1, true, .cells (a.l p c).toArray 28 (0, 0))]) (fun i => i ≤ a.kids.length ∧ a.kids.take i = b.kids.take i) (fun i => a.kids.length - i) 0 c_frs c_sub ⟨Nat.zero_le _, by simp⟩ ?_
  rintro i ⟨hi, he⟩
  have hki : i < a.kids.length → (a.kids.getD i default).count ≤ 1000000 := fun h => by have := Node.kid_count (getD_mem a.kids i h); omega
  have hki' : i < b.kids.length → (b.kids.getD i default).count ≤ 1000000 := fun h => by have := Node.kid_count (getD_mem b.kids i h); omega
  repeat' first
    | (refine gl_gate ?_; first
      | refine gl_nil ?_
      | (refine gl_load0 ?_; refine gl_yv (yv_load tab_ok (gok_none rfl) rfl rfl (fun _ => rfl) c_mem (fun _ => c_lds)) rfl rfl ?_)
      | (refine gl_add0 ?_; refine gl_yv (yv_add tab_ok (gok_none rfl) rfl rfl rfl rfl (fun _ => allT_of rfl) (by intro _; omega)) rfl rfl ?_)
      | (refine gl_any0 ?_; refine gl_pure tab_ok rfl rfl rfl rfl rfl rfl ?_))
    | (refine gc_gate ?_; first
      | refine gc_seq ?_
      | refine gc_region ?_
      | refine gc_quietRo rfl mixed (by decide +kernel) ?_
      | (refine gc_cond rfl ?_ ?_ <;> intro h_ <;> have hd_ := h_ <;> (try simp only [bytes_beq, cell_beq, val_beq, stamp_beq, decide_eq_true_eq, decide_eq_false_iff_not, Bool.and_eq_true, Bool.or_eq_true, Bool.or_eq_false_iff, Bool.not_eq_true', Bool.not_eq_false', Bool.not_true, Bool.not_false, Bool.false_or, Bool.true_and, Bool.and_true, Bool.or_false, beq_iff_eq, bne_iff_ne, beq_eq_false_iff_ne, bne_eq_false_iff_eq, ne_eq, Bool.false_eq_true, reduceCtorEq] at hd_) <;> (try (exfalso; omega)))
      | refine gc_block ?_
      | refine gc_exit ?_
      | refine gc_ret ?_
      | refine gc_skip ?_)
    | (refine ge_gate ?_; first
      | ((with_reducible refine ge_gT ?_); first | with_reducible refine ge_then ?_ | with_reducible refine ge_then_exit ?_ | with_reducible refine ge_then_ret ?_)
      | ((with_reducible refine ge_gK ?_); first | with_reducible refine ge_block ?_ | refine ge_block_exit ?_ | refine ge_block_pass rfl ?_ | with_reducible refine ge_block_ret ?_)
      | ((with_reducible refine ge_gB ?_); first | refine ge_ret1 tab_ok rfl c_rvt ?_ | refine ge_end1 tab_ok rfl c_rvt ?_ | refine ge_ret2 tab_ok rfl c_rvt c_rvt ?_ | refine ge_ret_none rfl ?_ | refine ge_end_none rfl ?_))
    | (refine gq_gate ?_; first
      | refine gq_nil ?_
      | (refine gq_load0 ?_; refine gq_yv (yv_load tab_ok (gok_none rfl) rfl rfl (fun _ => rfl) c_mem (fun _ => c_lds)) rfl rfl ?_)
      | (refine gq_idx0 ?_; refine gq_yv (yv_idxA tab_ok hs (gok_none rfl) rfl rfl rfl rfl rfl rfl (fun _ => rfl) (fun _ => rfl) c_bnd) rfl rfl ?_)
      | (refine gq_load0 ?_; refine gq_yv (yv_ldA0 tab_ok hs c_nm (gok_none rfl) rfl rfl (fun _ => rfl) c_bnd (fun _ => c_lds)) rfl rfl ?_)
      | (refine gq_idx0 ?_; refine gq_yv (yv_idxA tab_ok hs' (gok_none rfl) rfl rfl rfl rfl rfl rfl (fun _ => rfl) (fun _ => rfl) c_bnd) rfl rfl ?_)
      | (refine gq_load0 ?_; refine gq_yv (yv_ldA0 tab_ok hs' c_nm (gok_none rfl) rfl rfl (fun _ => rfl) c_bnd (fun _ => c_lds)) rfl rfl ?_)
      | (refine gq_calv0 ?_; first | refine gq_yd (yd_call (gok_none rfl) rfl ent34 rfl rfl (fun _ => allT_of rfl) (fun _ W hW => ih _ (getD_mem a.kids i (by omega)) (b.kids.getD i default) (kp i) (kp' i) (kc i) (kc' i) W ((hk i (by omega)).st hW) ((hk' i (by omega)).st hW) (hki (by omega)) (hki' (by omega)))) rfl rfl ?_)
      | (refine gq_any0 ?_; refine gq_pure tab_ok rfl rfl rfl rfl rfl rfl ?_))
  · intro W hW
    refine ⟨?_, hW.below0⟩
    rw [sameN_neg]
    intro e
    subst e
    rw [sameN_pos rfl] at hd_
    cases hd_
  · refine ge_round (i + 1) ⟨by omega, take_same (by omega) (by omega) he ?_⟩ (by omega) c_frs c_sub
    rcases Classical.em (a.kids.getD i default = b.kids.getD i default) with h | h
    · exact h
    · rw [sameN_neg h] at hd_; cases hd_
  · intro W hW
    refine ⟨?_, hW.below0⟩
    have h1 : i = a.kids.length := by omega
    have h2 : i = b.kids.length := by omega
    rw [sameN_pos (Node.eq_of e1 e2 e3 e4 e5 e6 (by
      have h3 := he
      rw [h1, List.take_length] at h3
      rw [h3, ← h1, h2, List.take_length]))]

/-! ### Few -/
namespace Node
def long (n : Node) (d : Int) : Bool := decide (d > 100) || decide ((n.name.size : Int) > 100) || decide ((n.op.size : Int) > 100) || decide ((n.value.s.size : Int) > 400) || decide ((n.cell.sheet.size : Int) > 100) || decide ((n.to.sheet.size : Int) > 100)
mutual
def size : Node → Int → Int
  | .mk k o nm v c t kids, d => if long (.mk k o nm v c t []) d then 1000 else sizeL kids (d + 1) 1
def sizeL : List Node → Int → Int → Int
  | [], _, s => s
  | k :: ks, d, s => if s < 1000 then sizeL ks d (s + size k d) else s
end
theorem size_eq (n : Node) (d : Int) : n.size d = if long n d then 1000 else sizeL n.kids (d + 1) 1 := by cases n; rfl
theorem size_range (n : Node) : ∀ d : Int, 0 ≤ d → d ≤ 101 → 1 ≤ n.size d ∧ n.size d ≤ 1000 + 1000 * (101 - d) := by
  induction n using Node.ind with
  | h n ih =>
    intro d h0 h1
    rw [size_eq]
    cases hl : n.long d with
    | true => simp only [if_true]; omega
    | false =>
      have hd : d ≤ 100 := by
        unfold long at hl
        simp at hl
        omega
      have key : ∀ (l : List Node) (s : Int), (∀ x ∈ l, x ∈ n.kids) → 1 ≤ s → s ≤ 1000 + 1000 * (101 - d) → 1 ≤ sizeL l (d + 1) s ∧ sizeL l (d + 1) s ≤ 1000 + 1000 * (101 - d) := by
        intro l
        induction l with
        | nil => intro s _ h2 h3; rw [sizeL]; exact ⟨h2, h3⟩
        | cons k ks ihl =>
          intro s hm h2 h3
          rw [sizeL]
          split
          · have := ih k (hm k (by simp)) (d + 1) (by omega) (by omega)
            exact ihl _ (fun x hx => hm x (by simp [hx])) (by omega) (by omega)
          · exact ⟨h2, h3⟩
      simp only [Bool.false_eq_true, if_false]
      exact key n.kids 1 (fun _ h => h) (by omega) (by omega)
theorem count_size (n : Node) : ∀ d : Int, 0 ≤ d → d ≤ 101 → n.size d < 1000 → (n.count : Int) ≤ n.size d := by
  induction n using Node.ind with
  | h n ih =>
    intro d h0 h1 hs
    rw [size_eq] at hs ⊢
    cases hl : n.long d with
    | true => rw [hl] at hs; simp at hs
    | false =>
      have hd : d ≤ 100 := by
        unfold long at hl
        simp at hl
        omega
      rw [hl] at hs
      simp only [Bool.false_eq_true, if_false] at hs ⊢
      have key : ∀ (l : List Node) (s : Int), (∀ x ∈ l, x ∈ n.kids) → 1 ≤ s → sizeL l (d + 1) s < 1000 → s + (countL l : Nat) ≤ sizeL l (d + 1) s := by
        intro l
        induction l with
        | nil => intro s _ _ _; rw [sizeL, countL]; omega
        | cons k ks ihl =>
          intro s hm h0' h2
          rw [sizeL] at h2 ⊢
          split at h2
          · rename_i h3
            rw [if_pos h3]
            have h5 := size_range k (d + 1) (by omega) (by omega)
            have h4 := ihl _ (fun x hx => hm x (by simp [hx])) (by omega) h2
            have h6 := ih k (hm k (by simp)) (d + 1) (by omega) (by omega) (by omega)
            rw [countL]
            omega
          · omega
      have := key n.kids 1 (fun _ h => h) (by omega) hs
      rw [count_eq]
      omega
def few (n : Node) : Bool := decide (n.size 0 ≤ 400)
theorem few_count {n : Node} (h : n.few = true) : n.count ≤ 400 := by
  unfold few at h
  simp at h
  have := count_size n 0 (by omega) (by omega) (by omega)
  omega
end Node
theorem ct_size {S : Nat → Prop} : ∀ (t : Node) (d : Int) (p : Option Addr) (c : Nat) (w : World), NodeR S w t p → 0 ≤ d → d ≤ 101 → Calls Try.prog 132 #[.agg (t.l p c).toArray, .int .i64 d] w fun e w' => e = .returned (.int .i64 (t.size d)) ∧ Bl w w' := by
  intro t
  induction t using Node.ind with
  | h t ih =>
  intro d p c w hR hd0 hd1
  cases hR with
  | @mk _ _ kp kc hs hS hk =>
  refine enter (args := [_, _]) (M := []) (K := []) Try.func132 rfl Try.ntmps132 rfl (St.refl _ _) ?_
  repeat' first
    | (refine gl_gate ?_; first
      | refine gl_nil ?_
      | (refine gl_pick0 ?_; first | refine gl_yv (yv_and (gok_none rfl) rfl rfl rfl (fun _ => rfl) c_imp2) rfl rfl ?_ | refine gl_yv (yv_or (gok_none rfl) rfl rfl rfl (fun _ => rfl) c_imp2) rfl rfl ?_)
      | (refine gl_loadG ?_; refine gl_yv (yv_load tab_ok c_gok rfl rfl c_imp c_mem (fun _ => c_lds)) rfl rfl ?_)
      | (refine gl_box0 ?_; first | (refine gl_box_agg rfl rfl rfl rfl rfl ?_; intro g_ hg_) | (refine gl_box_one rfl rfl rfl rfl rfl rfl ?_; intro g_ hg_) | (refine gl_box rfl rfl rfl rfl rfl ?_; intro g_ hg_))
      | (refine gl_any0 ?_; refine gl_pure tab_ok rfl rfl rfl rfl rfl rfl ?_)
      | (refine gl_anyG ?_; first | refine gl_yv (yv_pure tab_ok c_gok rfl rfl c_allT) rfl rfl ?_ | refine gl_yv (yv_indexS tab_ok c_gok rfl rfl rfl rfl c_imp c_imp (by intro hq_; (try simp only [Bool.and_eq_true, Bool.not_eq_true', Bool.not_eq_false', Bool.or_eq_false_iff, Bool.or_eq_true, decide_eq_true_eq, decide_eq_false_iff_not, Bool.true_and, Bool.and_true] at hq_); omega)) rfl rfl ?_ | refine gl_yv (yv_indexS (i := 0) tab_ok c_gok rfl rfl rfl rfl c_imp c_imp (by intro hq_; (try simp only [Bool.and_eq_true, Bool.not_eq_true', Bool.not_eq_false', Bool.or_eq_false_iff, Bool.or_eq_true, decide_eq_true_eq, decide_eq_false_iff_not, Bool.true_and, Bool.and_true] at hq_); omega)) rfl rfl ?_))
    | (refine gc_gate ?_; first
      | refine gc_seq ?_
      | refine gc_region ?_
      | (refine gc_cond rfl ?_ ?_ <;> intro h_ <;> have hd_ := h_ <;> (try simp only [bytes_beq, cell_beq, val_beq, stamp_beq, decide_eq_true_eq, decide_eq_false_iff_not, Bool.and_eq_true, Bool.or_eq_true, Bool.or_eq_false_iff, Bool.not_eq_true', Bool.not_eq_false', Bool.not_true, Bool.not_false, Bool.false_or, Bool.true_and, Bool.and_true, Bool.or_false, beq_iff_eq, bne_iff_ne, beq_eq_false_iff_ne, bne_eq_false_iff_eq, ne_eq, Bool.false_eq_true, reduceCtorEq] at hd_) <;> (try (exfalso; omega)))
      | refine gc_block ?_
      | refine gc_ret ?_
      | refine gc_skip ?_)
    | (refine ge_gate ?_; first
      | ((with_reducible refine ge_gT ?_); first | with_reducible refine ge_then ?_ | with_reducible refine ge_then_exit ?_ | with_reducible refine ge_then_ret ?_)
      | ((with_reducible refine ge_gB ?_); first | refine ge_ret1 tab_ok rfl c_rvt ?_ | refine ge_end1 tab_ok rfl c_rvt ?_ | refine ge_ret2 tab_ok rfl c_rvt c_rvt ?_ | refine ge_ret_none rfl ?_ | refine ge_end_none rfl ?_))
  · intro W hW
    refine ⟨?_, hW.below0⟩
    rw [Node.size_eq, show t.long d = true from h_]
    rfl
  have hsz : t.size d = Node.sizeL t.kids (d + 1) 1 := by rw [Node.size_eq, show t.long d = false from h_]; rfl
  have hd2 : d ≤ 100 := by omega
  refine gc_loop (α := Nat × Int) (fun x => [(1, true, .int .i64 d), (2, true, .pointer (some ⟨g_, 0, none⟩)), (5, true, .int .i64 x.2), (6, true, .int .i64 (x.1 : Int))]) (fun _ => [(g_, true, .cells (t.l p c).toArray 28 (0, 0))])
    (fun x => x.1 ≤ t.kids.length ∧ Node.sizeL (t.kids.drop x.1) (d + 1) x.2 = t.size d ∧ (x.1 : Int) + 1 ≤ x.2 ∧ x.2 ≤ 200000) (fun x => t.kids.length - x.1) (0, 1) c_frs c_sub ⟨Nat.zero_le _, by simp [hsz], by simp, by simp⟩ ?_
  rintro ⟨i, s⟩ ⟨hi, he, hs1, hs2⟩
  dsimp only at hi he hs1 hs2 ⊢
  have hsr := Node.size_range (t.kids.getD i default) (d + 1) (by omega) (by omega)
  repeat' first
    | (refine gl_gate ?_; first
      | refine gl_nil ?_
      | (refine gl_load0 ?_; refine gl_yv (yv_load tab_ok (gok_none rfl) rfl rfl (fun _ => rfl) c_mem (fun _ => c_lds)) rfl rfl ?_)
      | (refine gl_add0 ?_; refine gl_yv (yv_add tab_ok (gok_none rfl) rfl rfl rfl rfl (fun _ => allT_of rfl) (by intro _; omega)) rfl rfl ?_)
      | (refine gl_idx0 ?_; refine gl_yv (yv_idxA tab_ok hs (gok_none rfl) rfl rfl rfl rfl rfl rfl (fun _ => rfl) (fun _ => rfl) c_bnd) rfl rfl ?_)
      | (refine gl_load0 ?_; refine gl_yv (yv_ldA0 tab_ok hs c_nm (gok_none rfl) rfl rfl (fun _ => rfl) c_bnd (fun _ => c_lds)) rfl rfl ?_)
      | (refine gl_calv0 ?_; first | refine gl_yd (yd_call (gok_none rfl) rfl ent132 rfl rfl (fun _ => allT_of rfl) (fun _ W hW => ih _ (getD_mem t.kids i (by omega)) (d + 1) (kp i) (kc i) W ((hk i (by omega)).st hW) (by omega) (by omega))) rfl rfl ?_)
      | (refine gl_pick0 ?_; first | refine gl_yv (yv_and (gok_none rfl) rfl rfl rfl (fun _ => rfl) c_imp2) rfl rfl ?_ | refine gl_yv (yv_or (gok_none rfl) rfl rfl rfl (fun _ => rfl) c_imp2) rfl rfl ?_)
      | (refine gl_any0 ?_; refine gl_pure tab_ok rfl rfl rfl rfl rfl rfl ?_)
      | (refine gl_anyG ?_; first | refine gl_yv (yv_pure tab_ok c_gok rfl rfl c_allT) rfl rfl ?_ | refine gl_yv (yv_indexS tab_ok c_gok rfl rfl rfl rfl c_imp c_imp (by intro hq_; (try simp only [Bool.and_eq_true, Bool.not_eq_true', Bool.not_eq_false', Bool.or_eq_false_iff, Bool.or_eq_true, decide_eq_true_eq, decide_eq_false_iff_not, Bool.true_and, Bool.and_true] at hq_); omega)) rfl rfl ?_ | refine gl_yv (yv_indexS (i := 0) tab_ok c_gok rfl rfl rfl rfl c_imp c_imp (by intro hq_; (try simp only [Bool.and_eq_true, Bool.not_eq_true', Bool.not_eq_false', Bool.or_eq_false_iff, Bool.or_eq_true, decide_eq_true_eq, decide_eq_false_iff_not, Bool.true_and, Bool.and_true] at hq_); omega)) rfl rfl ?_))
    | (refine gc_gate ?_; first
      | refine gc_seq ?_
      | refine gc_region ?_
      | (refine gc_cond rfl ?_ ?_ <;> intro h_ <;> have hd_ := h_ <;> (try simp only [bytes_beq, cell_beq, val_beq, stamp_beq, decide_eq_true_eq, decide_eq_false_iff_not, Bool.and_eq_true, Bool.or_eq_true, Bool.or_eq_false_iff, Bool.not_eq_true', Bool.not_eq_false', Bool.not_true, Bool.not_false, Bool.false_or, Bool.true_and, Bool.and_true, Bool.or_false, beq_iff_eq, bne_iff_ne, beq_eq_false_iff_ne, bne_eq_false_iff_eq, ne_eq, Bool.false_eq_true, reduceCtorEq] at hd_) <;> (try (exfalso; omega)))
      | refine gc_block ?_
      | refine gc_exit ?_
      | refine gc_ret ?_
      | refine gc_skip ?_)
    | (refine ge_gate ?_; first
      | ((with_reducible refine ge_gT ?_); first | with_reducible refine ge_then ?_ | with_reducible refine ge_then_exit ?_ | with_reducible refine ge_then_ret ?_)
      | ((with_reducible refine ge_gK ?_); first | with_reducible refine ge_block ?_ | refine ge_block_exit ?_ | refine ge_block_pass rfl ?_ | with_reducible refine ge_block_ret ?_)
      | ((with_reducible refine ge_gB ?_); first | refine ge_ret1 tab_ok rfl c_rvt ?_ | refine ge_end1 tab_ok rfl c_rvt ?_ | refine ge_ret2 tab_ok rfl c_rvt c_rvt ?_ | refine ge_ret_none rfl ?_ | refine ge_end_none rfl ?_))
  · refine ge_round (i + 1, s + (t.kids.getD i default).size (d + 1)) ⟨by dsimp only; omega, ?_, by dsimp only; omega, by dsimp only; omega⟩ (by dsimp only; omega) c_frs c_sub
    dsimp only
    rw [← he, drop_consD t.kids i (by omega), Node.sizeL, if_pos (by omega)]
  · intro W hW
    refine ⟨?_, hW.below0⟩
    rw [← he]
    by_cases hlt : i < t.kids.length
    · rw [drop_consD t.kids i hlt, Node.sizeL, if_neg]
      intro h
      rw [Bool.and_eq_false_iff] at hd_
      simp at hd_
      omega
    · rw [List.drop_of_length_le (by omega), Node.sizeL]
theorem ct_Few {S : Nat → Prop} (t : Node) (p : Option Addr) (c : Nat) (w : World) (hR : NodeR S w t p) : Calls Try.prog 33 #[.agg (t.l p c).toArray] w fun e w' => e = .returned (.bool t.few) ∧ Bl w w' := by
  refine enter (args := [_]) (M := []) (K := []) Try.func33 rfl Try.ntmps33 rfl (St.refl _ _) ?_
  repeat' first
    | (refine gl_gate ?_; first
      | refine gl_nil ?_
      | (refine gl_load0 ?_; refine gl_yv (yv_load tab_ok (gok_none rfl) rfl rfl (fun _ => rfl) c_mem (fun _ => c_lds)) rfl rfl ?_)
      | (refine gl_calv0 ?_; first | refine gl_yd (yd_call (gok_none rfl) rfl ent132 rfl rfl (fun _ => allT_of rfl) (fun _ W hW => ct_size t 0 p c W (hR.st hW) (by omega) (by omega))) rfl rfl ?_)
      | (refine gl_box0 ?_; first | (refine gl_box_agg rfl rfl rfl rfl rfl ?_; intro g_ hg_) | (refine gl_box_one rfl rfl rfl rfl rfl rfl ?_; intro g_ hg_) | (refine gl_box rfl rfl rfl rfl rfl ?_; intro g_ hg_))
      | (refine gl_any0 ?_; refine gl_pure tab_ok rfl rfl rfl rfl rfl rfl ?_))
    | (refine gc_gate ?_; first
      | refine gc_seq ?_
      | refine gc_region ?_
      | refine gc_ret ?_)
    | (refine ge_gate ?_; first
      | ((with_reducible refine ge_gT ?_); first | with_reducible refine ge_then ?_ | with_reducible refine ge_then_exit ?_ | with_reducible refine ge_then_ret ?_)
      | ((with_reducible refine ge_gB ?_); first | refine ge_ret1 tab_ok rfl c_rvt ?_ | refine ge_end1 tab_ok rfl c_rvt ?_ | refine ge_ret2 tab_ok rfl c_rvt c_rvt ?_ | refine ge_ret_none rfl ?_ | refine ge_end_none rfl ?_))
  intro W hW
  exact ⟨rfl, hW.below0⟩
end Go.Proofs.Ytkgjfcjciigcgaa
