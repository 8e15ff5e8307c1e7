/-
  The law's whole and Few; WindowSees.
-/
import Derived.Test.YtkgjfcjciigcgaaGoSet
import Derived.Test.YtkgjfcjciigcgaaGoWinWrong
namespace Go.Proofs.Ytkgjfcjciigcgaa
open Go.Proofs.Ytkgjfcjciigcgaa.Sl Go.RowKit
set_option linter.unusedVariables false
set_option linter.unusedSimpArgs false
set_option linter.unusedSectionVars false
set_option maxRecDepth 100000

def setN (s : List Shown) (x : Shown) : List Shown := if x.val.kind = 0 then s else setS s x.cell x.val
def wholeL (l : List Shown) : List Shown := l.foldl setN []
theorem wholeL_snoc (l : List Shown) (x : Shown) : wholeL (l ++ [x]) = setN (wholeL l) x := by simp [wholeL]
theorem wholeL_len (l : List Shown) : (wholeL l).length ≤ l.length := by
  have key : ∀ (l s : List Shown), (l.foldl setN s).length ≤ s.length + l.length := by
    intro l
    induction l with
    | nil => intro s; simp
    | cons x r ih =>
      intro s
      have h1 := ih (setN s x)
      have h2 : (setN s x).length ≤ s.length + 1 := by
        unfold setN
        split
        · omega
        · exact setS_len _ _ _
      simp only [List.foldl_cons, List.length_cons]
      omega
  have := key l []
  simp only [List.length_nil, Nat.zero_add] at this
  exact this
theorem ct_whole (l : List Shown) (p : Option Addr) (n cap : Nat) (w : World) (hn : n = l.length) (hs : SlA w 6 p n (fun i => (l.getD i default).l)) (hl : n ≤ 100000000) : Calls Try.prog 95 #[.slice p n cap] w (RetOw w (wholeL l).length 6 (cat Shown.l (wholeL l)) 120) := by
  refine enter (args := [_]) (M := []) (K := []) Try.func95 rfl Try.ntmps95 rfl (St.refl _ _) ?_
  repeat' first
    | (refine gl_gate ?_; first
      | refine gl_nil ?_
      | (refine gl_any0 ?_; refine gl_pure tab_ok rfl rfl rfl rfl rfl rfl ?_))
    | (refine gc_gate ?_; first
      | refine gc_seq ?_
      | refine gc_region ?_
      | refine gc_block ?_)
    | (refine ge_gate ?_; first
      | ((with_reducible refine ge_gT ?_); first | with_reducible refine ge_then ?_ | with_reducible refine ge_then_exit ?_ | with_reducible refine ge_then_ret ?_))
  refine gc_loop (α := Nat × Option Nat × Nat × List Value) (fun x => [(0, true, .slice p n cap), (3, true, .slice (x.2.1.map ad) (wholeL (l.take x.1)).length x.2.2.1), (4, true, .int .i64 (x.1 : Int))])
    (fun x => ow x.2.1 true (cat Shown.l (wholeL (l.take x.1)) ++ x.2.2.2) 120) (fun x => x.1 ≤ n ∧ Ow x.2.1 (wholeL (l.take x.1)).length x.2.2.1 6 (cat Shown.l (wholeL (l.take x.1))) x.2.2.2) (fun x => n - x.1) (0, none, 0, []) c_frs (List.Sublist.refl _) ⟨Nat.zero_le _, Ow.none0⟩ ?_
  rintro ⟨i, q, c, sp⟩ ⟨hi, ho⟩
  dsimp only at hi ho ⊢
  have hll : (wholeL (l.take i)).length ≤ 1000000000 := by have := wholeL_len (l.take i); rw [List.length_take] at this; omega
  repeat' first
    | (refine gl_gate ?_; first
      | refine gl_nil ?_
      | (refine gl_add0 ?_; refine gl_yv (yv_add tab_ok (gok_none rfl) rfl rfl rfl rfl (fun _ => allT_of rfl) (by intro _; omega)) rfl rfl ?_)
      | (refine gl_idx0 ?_; refine gl_yv (yv_idxA tab_ok hs (gok_none rfl) rfl rfl rfl rfl rfl rfl (fun _ => rfl) (fun _ => rfl) c_bnd) rfl rfl ?_)
      | (refine gl_load0 ?_; refine gl_yv (yv_ldA tab_ok hs c_nm (gok_none rfl) rfl rfl (fun _ => rfl) c_bnd (fun _ => c_lds)) rfl rfl ?_)
      | (refine gl_any0 ?_; refine gl_pure tab_ok rfl rfl rfl rfl rfl rfl ?_))
    | (refine gc_gate ?_; first
      | refine gc_seq ?_
      | refine gc_region ?_
      | refine gc_block ?_
      | (refine gc_cond rfl ?_ ?_ <;> intro h_ <;> have hd_ := h_ <;> (try simp only [bytes_beq, cell_beq, val_beq, stamp_beq, decide_eq_true_eq, decide_eq_false_iff_not, Bool.and_eq_true, Bool.or_eq_true, Bool.or_eq_false_iff, Bool.not_eq_true', Bool.not_eq_false', Bool.not_true, Bool.not_false, Bool.false_or, Bool.true_and, Bool.and_true, Bool.or_false, beq_iff_eq, bne_iff_ne, beq_eq_false_iff_ne, bne_eq_false_iff_eq, ne_eq, Bool.false_eq_true, reduceCtorEq] at hd_) <;> (try (exfalso; omega)))
      | refine gc_exit ?_
      | refine gc_ret ?_
      | refine gc_skip ?_)
    | (refine ge_gate ?_; first
      | ((with_reducible refine ge_gT ?_); first | with_reducible refine ge_then ?_ | with_reducible refine ge_then_exit ?_ | with_reducible refine ge_then_ret ?_)
      | ((with_reducible refine ge_gK ?_); first | with_reducible refine ge_block ?_ | refine ge_block_exit ?_ | refine ge_block_pass rfl ?_ | with_reducible refine ge_block_ret ?_)
      | ((with_reducible refine ge_gB ?_); first | refine ge_ret1 tab_ok rfl c_rvt ?_ | refine ge_end1 tab_ok rfl c_rvt ?_ | refine ge_ret2 tab_ok rfl c_rvt c_rvt ?_ | refine ge_ret_none rfl ?_ | refine ge_end_none rfl ?_))
  · refine gp_start [] #[false, false, false, false, false, false, false, false, false, false, false, false, false] mixed rfl rfl c_qp ?_; intro hqp_
    refine gp_take 0 #[true, false, false, false, false, false, false, false, false, false, false, false, false] hqp_ rfl (by kernel_rfl) (yv_pure tab_ok c_gok rfl rfl c_allT) c_cl rfl rfl ?_
    refine gp_take 1 #[true, true, false, false, false, false, false, false, false, false, false, false, false] hqp_ rfl (by kernel_rfl) (yv_pure tab_ok c_gok rfl rfl c_allT) c_cl rfl rfl ?_
    refine gp_take 2 #[true, true, true, false, false, false, false, false, false, false, false, false, false] hqp_ rfl (by kernel_rfl) (yv_pure tab_ok c_gok rfl rfl c_allT) c_cl rfl rfl ?_
    refine gp_take 3 #[true, true, true, true, false, false, false, false, false, false, false, false, false] hqp_ rfl (by kernel_rfl) (yv_idxA tab_ok hs c_gok rfl rfl rfl rfl rfl rfl c_imp c_imp c_bnd) c_cl rfl rfl ?_
    refine gp_take 4 #[true, true, true, true, true, false, false, false, false, false, false, false, false] hqp_ rfl (by kernel_rfl) (yv_pure tab_ok c_gok rfl rfl c_allT) c_cl rfl rfl ?_
    refine gp_take 5 #[true, true, true, true, true, true, false, false, false, false, false, false, false] hqp_ rfl (by kernel_rfl) (yv_ldA tab_ok hs c_nm c_gok rfl rfl c_imp c_bnd (fun _ => c_lds)) c_cl rfl rfl ?_
    refine gp_take 6 #[true, true, true, true, true, true, true, false, false, false, false, false, false] hqp_ rfl (by kernel_rfl) (yv_pure tab_ok c_gok rfl rfl c_allT) c_cl rfl rfl ?_
    refine gp_take 7 #[true, true, true, true, true, true, true, true, false, false, false, false, false] hqp_ rfl (by kernel_rfl) (yv_pure tab_ok c_gok rfl rfl c_allT) c_cl rfl rfl ?_
    refine gp_take 8 #[true, true, true, true, true, true, true, true, true, false, false, false, false] hqp_ rfl (by kernel_rfl) (yv_idxA tab_ok hs c_gok rfl rfl rfl rfl rfl rfl c_imp c_imp c_bnd) c_cl rfl rfl ?_
    refine gp_take 9 #[true, true, true, true, true, true, true, true, true, true, false, false, false] hqp_ rfl (by kernel_rfl) (yv_pure tab_ok c_gok rfl rfl c_allT) c_cl rfl rfl ?_
    refine gp_take 10 #[true, true, true, true, true, true, true, true, true, true, true, false, false] hqp_ rfl (by kernel_rfl) (yv_ldA tab_ok hs c_nm c_gok rfl rfl c_imp c_bnd (fun _ => c_lds)) c_cl rfl rfl ?_
    (refine gp_ev 11 #[true, true, true, true, true, true, true, true, true, true, true, true, false] rfl (by kernel_rfl) rfl rfl rfl (ev_callOw rfl rfl ent119 rfl rfl rfl (fun W hW => ct_Set (wholeL (l.take i)) (l.getD i default).cell (l.getD i default).val _ _ _ W rfl (slA_cat len_shown rfl hW c_oa ho) hll ho.le (fun h => ho.nil (Option.map_eq_none_iff.1 h))) ?_); intro p_ c_ sp_ hw_; refine ⟨c_cl, ?_⟩)
    refine gp_take 12 #[true, true, true, true, true, true, true, true, true, true, true, true, true] hqp_ rfl (by kernel_rfl) (yv_pure tab_ok c_gok rfl rfl c_allT) c_cl rfl rfl ?_
    refine gp_done (by kernel_rfl) ?_; clear hqp_
    repeat' first
      | (refine gl_gate ?_; first
        | refine gl_nil ?_
        | (refine gl_add0 ?_; refine gl_yv (yv_add tab_ok (gok_none rfl) rfl rfl rfl rfl (fun _ => allT_of rfl) (by intro _; omega)) rfl rfl ?_)
        | (refine gl_any0 ?_; refine gl_pure tab_ok rfl rfl rfl rfl rfl rfl ?_))
      | (refine gc_gate ?_; first
        | refine gc_region ?_)
      | (refine ge_gate ?_; first
        | ((with_reducible refine ge_gT ?_); first | with_reducible refine ge_then ?_ | with_reducible refine ge_then_exit ?_ | with_reducible refine ge_then_ret ?_)
        | ((with_reducible refine ge_gK ?_); first | with_reducible refine ge_block ?_ | refine ge_block_exit ?_ | refine ge_block_pass rfl ?_ | with_reducible refine ge_block_ret ?_))
    have e : wholeL (l.take (i + 1)) = setS (wholeL (l.take i)) (l.getD i default).cell (l.getD i default).val := by rw [take_succD _ _ (by omega), wholeL_snoc]; unfold setN; rw [if_neg hd_]
    refine ge_round (i + 1, p_, c_, sp_) ⟨by omega, ?_⟩ (by show n - (i + 1) < n - i; omega) ?_ ?_
    · show Ow p_ (wholeL (l.take (i + 1))).length c_ 6 (cat Shown.l (wholeL (l.take (i + 1)))) sp_
      rw [e]
      exact hw_
    · dsimp only
      rw [e]
      exact c_frs
    · dsimp only
      rw [e]
      exact List.sublist_append_left _ _
  · have e : wholeL (l.take (i + 1)) = wholeL (l.take i) := by rw [take_succD _ _ (by omega), wholeL_snoc]; unfold setN; rw [if_pos hd_]
    refine ge_round (i + 1, q, c, sp) ⟨by omega, ?_⟩ (by show n - (i + 1) < n - i; omega) ?_ ?_
    · show Ow q (wholeL (l.take (i + 1))).length c 6 (cat Shown.l (wholeL (l.take (i + 1)))) sp
      rw [e]
      exact ho
    · dsimp only
      rw [e]
      exact c_frs
    · dsimp only
      rw [e]
      exact List.Sublist.refl _
  · intro W hW
    have h1 : i = l.length := by omega
    rw [h1, List.take_length] at ho hW
    rw [h1, List.take_length]
    exact ⟨q, c, sp, rfl, ho, hW⟩
def big1 (x : Shown) : Bool := decide ((x.val.s.size : Int) > 400) || decide ((x.cell.sheet.size : Int) > 50)
def fewL (l : List Shown) : Bool := l.all (fun x => !big1 x) && decide ((l.length : Int) ≤ 60)
theorem all_snoc {l : List Shown} {i : Nat} (hi : i < l.length) (f : Shown → Bool) : (l.take (i + 1)).all f = ((l.take i).all f && f (l.getD i default)) := by
  rw [take_succD _ _ hi, List.all_append]
  simp
theorem ct_FewS (l : List Shown) (p : Option Addr) (n cap : Nat) (w : World) (hn : n = l.length) (hs : SlA w 6 p n (fun i => (l.getD i default).l)) (hl : n ≤ 9223372036854775807) : Calls Try.prog 94 #[.slice p n cap] w fun e w' => e = .returned (.bool (fewL l)) ∧ Bl w w' := by
  refine enter (args := [_]) (M := []) (K := []) Try.func94 rfl Try.ntmps94 rfl (St.refl _ _) ?_
  repeat' first
    | (refine gl_gate ?_; first
      | refine gl_nil ?_
      | (refine gl_any0 ?_; refine gl_pure tab_ok rfl rfl rfl rfl rfl rfl ?_))
    | (refine gc_gate ?_; first
      | refine gc_seq ?_
      | refine gc_region ?_
      | refine gc_block ?_)
    | (refine ge_gate ?_; first
      | ((with_reducible refine ge_gT ?_); first | with_reducible refine ge_then ?_ | with_reducible refine ge_then_exit ?_ | with_reducible refine ge_then_ret ?_))
  refine gc_loop (α := Nat) (fun i => [(0, true, .slice p n cap), (3, true, .int .i64 (i : Int))])
    (fun x => []) (fun i => i ≤ n ∧ (l.take i).all (fun x => !big1 x) = true) (fun i => n - i) 0 c_frs (List.Sublist.refl _) ⟨Nat.zero_le _, by simp⟩ ?_
  rintro i ⟨hi, ho⟩
  repeat' first
    | (refine gl_load0 ?_; refine gl_yv (yv_ldA (i := i) (off := 5) tab_ok hs c_nm (gok_none rfl) rfl rfl (fun _ => rfl) c_bnd (fun _ => c_lds)) rfl rfl ?_)
    | (refine gl_gate ?_; first
      | refine gl_nil ?_
      | (refine gl_add0 ?_; refine gl_yv (yv_add tab_ok (gok_none rfl) rfl rfl rfl rfl (fun _ => allT_of rfl) (by intro _; omega)) rfl rfl ?_)
      | (refine gl_idx0 ?_; refine gl_yv (yv_idxA tab_ok hs (gok_none rfl) rfl rfl rfl rfl rfl rfl (fun _ => rfl) (fun _ => rfl) c_bnd) rfl rfl ?_)
      | (refine gl_idxG ?_; refine gl_yv (yv_idxA tab_ok hs c_gok rfl rfl rfl rfl rfl rfl c_imp c_imp c_bnd) rfl rfl ?_)
      | (refine gl_loadG ?_; refine gl_yv (yv_ldA tab_ok hs c_nm c_gok rfl rfl c_imp c_bnd (fun _ => c_lds)) rfl rfl ?_)
      | (refine gl_pick0 ?_; first | refine gl_yv (yv_and (gok_none rfl) rfl rfl rfl (fun _ => rfl) c_imp2) rfl rfl ?_ | refine gl_yv (yv_or (gok_none rfl) rfl rfl rfl (fun _ => rfl) c_imp2) rfl rfl ?_)
      | (refine gl_any0 ?_; refine gl_pure tab_ok rfl rfl rfl rfl rfl rfl ?_)
      | (refine gl_anyG ?_; first | refine gl_yv (yv_pure tab_ok c_gok rfl rfl c_allT) rfl rfl ?_ | refine gl_yv (yv_indexS tab_ok c_gok rfl rfl rfl rfl c_imp c_imp (by intro hq_; (try simp only [Bool.and_eq_true, Bool.not_eq_true', Bool.not_eq_false', Bool.or_eq_false_iff, Bool.or_eq_true, decide_eq_true_eq, decide_eq_false_iff_not, Bool.true_and, Bool.and_true] at hq_); omega)) rfl rfl ?_ | refine gl_yv (yv_indexS (i := 0) tab_ok c_gok rfl rfl rfl rfl c_imp c_imp (by intro hq_; (try simp only [Bool.and_eq_true, Bool.not_eq_true', Bool.not_eq_false', Bool.or_eq_false_iff, Bool.or_eq_true, decide_eq_true_eq, decide_eq_false_iff_not, Bool.true_and, Bool.and_true] at hq_); omega)) rfl rfl ?_))
    | (refine gc_gate ?_; first
      | refine gc_seq ?_
      | refine gc_region ?_
      | (refine gc_cond rfl ?_ ?_ <;> intro h_ <;> have hd_ := h_ <;> (try simp only [bytes_beq, cell_beq, val_beq, stamp_beq, decide_eq_true_eq, decide_eq_false_iff_not, Bool.and_eq_true, Bool.or_eq_true, Bool.or_eq_false_iff, Bool.not_eq_true', Bool.not_eq_false', Bool.not_true, Bool.not_false, Bool.false_or, Bool.true_and, Bool.and_true, Bool.or_false, beq_iff_eq, bne_iff_ne, beq_eq_false_iff_ne, bne_eq_false_iff_eq, ne_eq, Bool.false_eq_true, reduceCtorEq] at hd_) <;> (try (exfalso; omega)))
      | refine gc_block ?_
      | refine gc_exit ?_
      | refine gc_ret ?_
      | refine gc_skip ?_)
    | (refine ge_gate ?_; first
      | ((with_reducible refine ge_gT ?_); first | with_reducible refine ge_then ?_ | with_reducible refine ge_then_exit ?_ | with_reducible refine ge_then_ret ?_)
      | ((with_reducible refine ge_gK ?_); first | with_reducible refine ge_block ?_ | refine ge_block_exit ?_ | refine ge_block_pass rfl ?_ | with_reducible refine ge_block_ret ?_)
      | ((with_reducible refine ge_gB ?_); first | refine ge_ret1 tab_ok rfl c_rvt ?_ | refine ge_end1 tab_ok rfl c_rvt ?_ | refine ge_ret2 tab_ok rfl c_rvt c_rvt ?_ | refine ge_ret_none rfl ?_ | refine ge_end_none rfl ?_))
  · intro W hW
    refine ⟨?_, hW.below0⟩
    have : fewL l = false := by
      unfold fewL
      rw [Bool.and_eq_false_iff]
      refine Or.inl (List.all_eq_false.2 ⟨l.getD i default, getD_mem l i (by omega), ?_⟩)
      unfold big1
      rw [h_]
      simp
    rw [this]
  · refine ge_round (i + 1) ⟨by omega, ?_⟩ (by omega) c_frs (List.Sublist.refl _)
    rw [all_snoc (by omega), ho, Bool.true_and]
    unfold big1
    rw [h_]
    rfl
  · intro W hW
    refine ⟨?_, hW.below0⟩
    have h1 : i = l.length := by omega
    rw [h1, List.take_length] at ho
    unfold fewL
    rw [ho, hn, Bool.true_and]
theorem seeL_idem (a b : Cell) (l : List Shown) : seeL a b (seeL a b l) = seeL a b l := by
  unfold seeL
  rw [List.filter_filter]
  simp
theorem seeL_take (a b : Cell) (l : List Shown) (i : Nat) : seeL a b (l.take i) <+: seeL a b l := by
  unfold seeL
  exact (List.take_prefix i l).filter _
theorem mset_keys {κ ν : Type} [DecidableEq κ] {m : List (κ × ν)} {k : κ} {v : ν} (h : (m.map (·.1)).Nodup) : ((mset m k v).map (·.1)).Nodup := by
  unfold mset
  cases hf : fnd k m 0 with
  | none =>
    simp only [List.map_append, List.map_cons, List.map_nil]
    rw [List.nodup_append]
    refine ⟨h, by simp, fun x hx y hy e => ?_⟩
    simp only [List.mem_singleton] at hy
    subst hy e
    obtain ⟨z, hz, e⟩ := List.mem_map.1 hx
    exact fnd_none.1 hf z hz e
  | some y =>
    have h2 := (fnd_some hf).2
    rw [Nat.sub_zero] at h2
    have e : (m.set y.1 (k, v)).map (·.1) = m.map (·.1) := by
      apply List.ext_getElem?
      intro j
      rw [List.getElem?_map, List.getElem?_map, List.getElem?_set]
      split
      · rename_i hj
        subst hj
        have hlt : y.1 < m.length := by
          rcases Nat.lt_or_ge y.1 m.length with h' | h'
          · exact h'
          · rw [List.getElem?_eq_none h'] at h2; cases h2
        rw [if_pos hlt, h2]
        rfl
      · rfl
    show ((m.set y.1 (k, v)).map (·.1)).Nodup
    rw [e]
    exact h
theorem ofL_nodup (l : List Shown) : ((ofL l).map (·.1)).Nodup := by
  have key : ∀ (l : List Shown) (m : List (Cell × Val)), (m.map (·.1)).Nodup → ((l.foldl (fun m x => mset m x.cell x.val) m).map (·.1)).Nodup := by
    intro l
    induction l with
    | nil => intro m h; exact h
    | cons x r ih => intro m h; exact ih _ (mset_keys h)
  exact key l [] (by simp)
theorem deltaL_self (l : List Shown) : deltaL l l = [] := by
  have hm := ofL_nodup l
  unfold deltaL
  generalize ofL l = m at *
  have h1 : tB m m = [] := by
    unfold tB
    rw [List.filter_eq_nil_iff]
    rintro ⟨k, v⟩ hx
    have h2 : (fnd k m 0).isSome = true := fnd_isSome.2 (List.mem_map.2 ⟨_, hx, rfl⟩)
    simp [turnedB, h2, mgetD_mem hm hx]
  have h2 : tA m m = [] := by
    unfold tA
    rw [List.filter_eq_nil_iff.2, List.map_nil]
    rintro ⟨k, v⟩ hx
    have h2 : (fnd k m 0).isSome = true := fnd_isSome.2 (List.mem_map.2 ⟨_, hx, rfl⟩)
    simp [goneB, h2]
  unfold deltaM
  rw [h1, h2]
  simp [listM, sortC]
theorem pre_at {A B : List Shown} {x : Shown} (h : A ++ [x] <+: B) : A.length < B.length ∧ B.getD A.length default = x := by
  obtain ⟨t, rfl⟩ := h
  constructor
  · simp
  · simp [List.getD]
set_option maxHeartbeats 2000000 in
theorem walk_WindowSees (a b : Cell) (l : List Shown) (p : Option Addr) (n cap : Nat) (hn : n = l.length) (hn9 : n ≤ 9223372036854775807) (w : World) (hs : SlA w 6 p n (fun i => (l.getD i default).l)) : Calls Try.prog 22 #[.agg (a.l ++ b.l).toArray, .slice p n cap] w fun e w' => e = .returned (.bool true) ∧ Bl w w' := by
  refine enter (args := [_, _]) (M := []) (K := []) Try.func22 rfl Try.ntmps22 rfl (St.refl _ _) ?_
  repeat' first
    | (refine gl_gate ?_; first
      | refine gl_nil ?_
      | (refine gl_calv0 ?_; first | refine gl_yd (yd_call (gok_none rfl) rfl ent74 rfl rfl (fun _ => allT_of rfl) (fun _ W hW => ct_aliveW W)) rfl rfl ?_ | refine gl_yd (yd_call (gok_none rfl) rfl ent94 rfl rfl (fun _ => allT_of rfl) (fun _ W hW => ct_FewS l p n cap W hn (hs.st hW) hn9)) rfl rfl ?_)
      | (refine gl_calvG ?_; first | refine gl_yd (yd_call c_gok rfl ent74 rfl rfl c_allT (fun _ W hW => ct_aliveW W)) rfl rfl ?_ | refine gl_yd (yd_call c_gok rfl ent94 rfl rfl c_allT (fun _ W hW => ct_FewS l p n cap W hn (hs.st hW) hn9)) rfl rfl ?_)
      | (refine gl_pick0 ?_; first | refine gl_yv (yv_and (gok_none rfl) rfl rfl rfl (fun _ => rfl) c_imp2) rfl rfl ?_ | refine gl_yv (yv_or (gok_none rfl) rfl rfl rfl (fun _ => rfl) c_imp2) rfl rfl ?_)
      | (refine gl_box0 ?_; first | (refine gl_box_agg rfl rfl rfl rfl rfl ?_; intro g_ hg_) | (refine gl_box_one rfl rfl rfl rfl rfl rfl ?_; intro g_ hg_) | (refine gl_box rfl rfl rfl rfl rfl ?_; intro g_ hg_))
      | (refine gl_any0 ?_; refine gl_pure tab_ok rfl rfl rfl rfl rfl rfl ?_)
      | (refine gl_anyG ?_; first | refine gl_yv (yv_pure tab_ok c_gok rfl rfl c_allT) rfl rfl ?_ | refine gl_yv (yv_indexS tab_ok c_gok rfl rfl rfl rfl c_imp c_imp (by intro hq_; (try simp only [Bool.and_eq_true, Bool.not_eq_true', Bool.not_eq_false', Bool.or_eq_false_iff, Bool.or_eq_true, decide_eq_true_eq, decide_eq_false_iff_not, Bool.true_and, Bool.and_true] at hq_); omega)) rfl rfl ?_ | refine gl_yv (yv_indexS (i := 0) tab_ok c_gok rfl rfl rfl rfl c_imp c_imp (by intro hq_; (try simp only [Bool.and_eq_true, Bool.not_eq_true', Bool.not_eq_false', Bool.or_eq_false_iff, Bool.or_eq_true, decide_eq_true_eq, decide_eq_false_iff_not, Bool.true_and, Bool.and_true] at hq_); omega)) rfl rfl ?_))
    | (refine gc_gate ?_; first
      | refine gc_seq ?_
      | refine gc_region ?_)
    | (refine ge_gate ?_; first
      | ((with_reducible refine ge_gT ?_); first | with_reducible refine ge_then ?_ | with_reducible refine ge_then_exit ?_ | with_reducible refine ge_then_ret ?_))
  refine gc_cond rfl ?_ ?_ <;> intro h_
  · repeat' first
      | (refine gl_gate ?_; first
        | refine gl_nil ?_
        | (refine gl_any0 ?_; refine gl_pure tab_ok rfl rfl rfl rfl rfl rfl ?_))
      | (refine gc_gate ?_; first
        | refine gc_seq ?_
        | refine gc_region ?_
        | refine gc_ret ?_)
      | (refine ge_gate ?_; first
        | ((with_reducible refine ge_gT ?_); first | with_reducible refine ge_then ?_ | with_reducible refine ge_then_exit ?_ | with_reducible refine ge_then_ret ?_)
        | ((with_reducible refine ge_gB ?_); first | refine ge_ret1 tab_ok rfl c_rvt ?_ | refine ge_end1 tab_ok rfl c_rvt ?_ | refine ge_ret2 tab_ok rfl c_rvt c_rvt ?_ | refine ge_ret_none rfl ?_ | refine ge_end_none rfl ?_))
    intro W hW
    exact ⟨rfl, hW.below0⟩
  have hfew : fewL l = true := by simpa using h_
  have hn60 : n ≤ 60 := by
    unfold fewL at hfew
    simp at hfew
    omega
  clear h_ hfew
  have hsl := seeL_len a b l
  repeat' first
    | (refine gl_gate ?_; first
      | refine gl_nil ?_
      | (refine gl_load0 ?_; refine gl_yv (yv_load tab_ok (gok_none rfl) rfl rfl (fun _ => rfl) c_mem (fun _ => c_lds)) rfl rfl ?_)
      | (refine gl_any0 ?_; (refine gl_ev (ev_callOw rfl rfl ent103 rfl rfl rfl (fun W hW => ct_See a b l p n cap W hn (hs.st hW) (by omega)) ?_) rfl rfl; intro p_ c_ sp_ hw_))
      | (refine gl_any0 ?_; refine gl_pure tab_ok rfl rfl rfl rfl rfl rfl ?_))
    | (refine gc_gate ?_; first
      | refine gc_seq ?_
      | refine gc_region ?_
      | refine gc_block ?_
      | refine gc_skip ?_)
    | (refine ge_gate ?_; first
      | ((with_reducible refine ge_gT ?_); first | with_reducible refine ge_then ?_ | with_reducible refine ge_then_exit ?_ | with_reducible refine ge_then_ret ?_))
  refine gc_loop (α := Nat) (fun i => [(1, true, .slice p n cap), (2, true, .pointer (some ⟨g_, 0, none⟩)), (6, true, .slice (p_.map ad) (seeL a b l).length c_), (7, true, .int .i64 (seeL a b (l.take i)).length), (8, true, .int .i64 (i : Int))])
    (fun x => ow p_ true (cat Shown.l (seeL a b l) ++ sp_) 120 ++ [(g_, true, .cells (a.l ++ b.l).toArray 55 (0, 0))]) (fun i => i ≤ n) (fun i => n - i) 0 c_frs (List.Sublist.refl _) (Nat.zero_le _) ?_
  intro i hi
  have hpre := (seeL_take a b l i).length_le
  have htail : ¬ (i : Int) < (n : Int) → Value.bool (((seeL a b (l.take i)).length : Int) == ((seeL a b l).length : Int)) = Value.bool true := fun h => by
    have h_i : i = l.length := by omega
    rw [h_i, List.take_length]
    simp
  have hidem : Value.bool (true && decide (seeL a b (seeL a b l) = seeL a b l)) = Value.bool true := by rw [seeL_idem]; simp
  repeat' first
    | (refine gq_idxG ?_; refine gq_yv (yv_idxO tab_ok hw_ c_gok rfl rfl rfl rfl rfl rfl c_imp c_imp c_bnd) rfl rfl ?_)
    | (refine gq_loadG ?_; refine gq_yv (yv_ldO tab_ok c_oa hw_ c_gok rfl rfl c_imp (fun hq_ => lds_cat len_shown (by simp at hq_; omega) rfl rfl rfl) c_bnd) rfl rfl ?_)
    | (refine gl_any0 ?_; refine gl_yv ((yv_pure tab_ok (gok_none rfl) rfl rfl (fun _ => allT_of rfl)).cast (v' := .bool true) (htail hd_)) rfl rfl ?_)
    | (refine gl_gate ?_; first
      | refine gl_nil ?_
      | (refine gl_add0 ?_; refine gl_yv (yv_add tab_ok (gok_none rfl) rfl rfl rfl rfl (fun _ => allT_of rfl) (by intro _; omega)) rfl rfl ?_)
      | (refine gl_loadG ?_; refine gl_yv (yv_load tab_ok c_gok rfl rfl c_imp c_mem (fun _ => c_lds)) rfl rfl ?_)
      | (refine gl_any0 ?_; refine gl_pure tab_ok rfl rfl rfl rfl rfl rfl ?_)
      | (refine gl_anyG ?_; first | refine gl_yv (yv_pure tab_ok c_gok rfl rfl c_allT) rfl rfl ?_ | refine gl_yv (yv_indexS tab_ok c_gok rfl rfl rfl rfl c_imp c_imp (by intro hq_; (try simp only [Bool.and_eq_true, Bool.not_eq_true', Bool.not_eq_false', Bool.or_eq_false_iff, Bool.or_eq_true, decide_eq_true_eq, decide_eq_false_iff_not, Bool.true_and, Bool.and_true] at hq_); omega)) rfl rfl ?_ | refine gl_yv (yv_indexS (i := 0) tab_ok c_gok rfl rfl rfl rfl c_imp c_imp (by intro hq_; (try simp only [Bool.and_eq_true, Bool.not_eq_true', Bool.not_eq_false', Bool.or_eq_false_iff, Bool.or_eq_true, decide_eq_true_eq, decide_eq_false_iff_not, Bool.true_and, Bool.and_true] at hq_); omega)) rfl rfl ?_))
    | (refine gc_gate ?_; first
      | refine gc_seq ?_
      | refine gc_region ?_
      | refine gc_quietRo rfl mixed (by decide +kernel) ?_
      | (refine gc_cond rfl ?_ ?_ <;> intro h_ <;> have hd_ := h_ <;> (try simp only [bytes_beq, cell_beq, val_beq, stamp_beq, decide_eq_true_eq, decide_eq_false_iff_not, Bool.and_eq_true, Bool.or_eq_true, Bool.or_eq_false_iff, Bool.not_eq_true', Bool.not_eq_false', Bool.not_true, Bool.not_false, Bool.false_or, Bool.true_and, Bool.and_true, Bool.or_false, beq_iff_eq, bne_iff_ne, beq_eq_false_iff_ne, bne_eq_false_iff_eq, ne_eq, Bool.false_eq_true, reduceCtorEq] at hd_) <;> (try (exfalso; omega)))
      | refine gc_block ?_
      | refine gc_exit ?_
      | refine gc_ret ?_
      | refine gc_skip ?_)
    | (refine ge_gate ?_; first
      | ((with_reducible refine ge_gT ?_); first | with_reducible refine ge_then ?_ | with_reducible refine ge_then_exit ?_ | with_reducible refine ge_then_ret ?_)
      | ((with_reducible refine ge_gK ?_); first | with_reducible refine ge_block ?_ | refine ge_block_exit ?_ | refine ge_block_pass rfl ?_ | with_reducible refine ge_block_ret ?_)
      | ((with_reducible refine ge_gB ?_); first | refine ge_ret1 tab_ok rfl c_rvt ?_ | refine ge_end1 tab_ok rfl c_rvt ?_ | refine ge_ret2 tab_ok rfl c_rvt c_rvt ?_ | refine ge_ret_none rfl ?_ | refine ge_end_none rfl ?_))
    | (refine gq_gate ?_; first
      | refine gq_nil ?_
      | (refine gq_load0 ?_; refine gq_yv (yv_load tab_ok (gok_none rfl) rfl rfl (fun _ => rfl) c_mem (fun _ => c_lds)) rfl rfl ?_)
      | (refine gq_idx0 ?_; refine gq_yv (yv_idxA tab_ok hs (gok_none rfl) rfl rfl rfl rfl rfl rfl (fun _ => rfl) (fun _ => rfl) c_bnd) rfl rfl ?_)
      | (refine gq_idxG ?_; refine gq_yv (yv_idxA tab_ok hs c_gok rfl rfl rfl rfl rfl rfl c_imp c_imp c_bnd) rfl rfl ?_)
      | (refine gq_load0 ?_; refine gq_yv (yv_ldA tab_ok hs c_nm (gok_none rfl) rfl rfl (fun _ => rfl) c_bnd (fun _ => c_lds)) rfl rfl ?_)
      | (refine gq_loadG ?_; refine gq_yv (yv_ldA tab_ok hs c_nm c_gok rfl rfl c_imp c_bnd (fun _ => c_lds)) rfl rfl ?_)
      | (refine gq_loadG ?_; refine gq_yv (yv_ldA0 tab_ok hs c_nm c_gok rfl rfl c_imp c_bnd (fun _ => c_lds)) rfl rfl ?_)
      | (refine gq_calv0 ?_; first | refine gq_yd (yd_call (gok_none rfl) rfl ent93 rfl rfl (fun _ => allT_of rfl) (fun _ W hW => ct_InR a b (l.getD i default).cell W)) rfl rfl ?_)
      | (refine gq_pick0 ?_; first | refine gq_yv (yv_and (gok_none rfl) rfl rfl rfl (fun _ => rfl) c_imp2) rfl rfl ?_ | refine gq_yv (yv_or (gok_none rfl) rfl rfl rfl (fun _ => rfl) c_imp2) rfl rfl ?_)
      | (refine gq_any0 ?_; refine gq_pure tab_ok rfl rfl rfl rfl rfl rfl ?_)
      | (refine gq_neS ?_; first | refine gq_yv (yv_neS tab_ok eqs_ok c_gok rfl rfl rfl rfl c_allT rfl rfl rfl) rfl rfl ?_)
      | (refine gq_anyG ?_; first | refine gq_yv (yv_pure tab_ok c_gok rfl rfl c_allT) rfl rfl ?_ | refine gq_yv (yv_indexS tab_ok c_gok rfl rfl rfl rfl c_imp c_imp (by intro hq_; (try simp only [Bool.and_eq_true, Bool.not_eq_true', Bool.not_eq_false', Bool.or_eq_false_iff, Bool.or_eq_true, decide_eq_true_eq, decide_eq_false_iff_not, Bool.true_and, Bool.and_true] at hq_); omega)) rfl rfl ?_ | refine gq_yv (yv_indexS (i := 0) tab_ok c_gok rfl rfl rfl rfl c_imp c_imp (by intro hq_; (try simp only [Bool.and_eq_true, Bool.not_eq_true', Bool.not_eq_false', Bool.or_eq_false_iff, Bool.or_eq_true, decide_eq_true_eq, decide_eq_false_iff_not, Bool.true_and, Bool.and_true] at hq_); omega)) rfl rfl ?_))
  · exfalso
    rename_i h1 h2
    have hs1 : seen1 a b (l.getD i default) = true := h1
    have e : seeL a b (l.take (i + 1)) = seeL a b (l.take i) ++ [l.getD i default] := by rw [take_succD _ _ (by omega), seeL_snoc, if_pos hs1]
    have hp := seeL_take a b l (i + 1)
    rw [e] at hp
    obtain ⟨h3, h4⟩ := pre_at hp
    rw [h4] at hd_
    rcases hd_ with h | h
    · omega
    · simp at h
  · rename_i h1 h2
    have hs1 : seen1 a b (l.getD i default) = true := h1
    have e : seeL a b (l.take (i + 1)) = seeL a b (l.take i) ++ [l.getD i default] := by rw [take_succD _ _ (by omega), seeL_snoc, if_pos hs1]
    refine ge_round (i + 1) (by omega) (by omega) ?_ (List.Sublist.refl _)
    rw [e, List.length_append]
    exact c_frs
  · have hs1 : seen1 a b (l.getD i default) = false := h_
    have e : seeL a b (l.take (i + 1)) = seeL a b (l.take i) := by rw [take_succD _ _ (by omega), seeL_snoc, hs1]; rfl
    refine ge_round (i + 1) (by omega) (by omega) ?_ (List.Sublist.refl _)
    rw [e]
    exact c_frs
  have hl2 : (seeL a b (seeL a b l)).length ≤ 60 := by rw [seeL_idem]; omega
  have hwl : (wholeL (seeL a b l)).length ≤ 60 := by have := wholeL_len (seeL a b l); omega
  have hd0 : Value.bool (true && (((deltaL (wholeL (seeL a b l)) (wholeL (seeL a b l))).length : Int) == 0)) = Value.bool true := by rw [deltaL_self]; rfl
  repeat' first
    | (refine gl_any0 ?_; refine gl_yv ((yv_pure tab_ok (gok_none rfl) rfl rfl (fun _ => allT_of rfl)).cast (v' := .bool true) hidem) rfl rfl ?_)
    | (refine gl_calvG ?_; refine gl_evG c_gok (ev_callOw rfl rfl ent103 rfl rfl rfl (fun W hW => ct_See a b (seeL a b l) _ _ _ W rfl (slA_cat len_shown rfl hW c_oa hw_) (by omega)) ?_) rfl rfl; intro p2_ c2_ sp2_ hw2_)
    | (refine gl_gate ?_; first
      | (refine gl_calvG ?_; first | refine gl_yd (yd_call c_gok rfl ent97 rfl rfl c_allT (fun _ W hW => ct_SameShown W (seeL a b (seeL a b l)) (seeL a b l) _ _ _ _ _ _ rfl rfl (slA_cat len_shown rfl hW c_oa hw2_) (slA_cat len_shown rfl hW c_oa hw_) (by omega) (by omega))) rfl rfl ?_)
      | (refine gl_pick0 ?_; first | refine gl_yv (yv_and (gok_none rfl) rfl rfl rfl (fun _ => rfl) c_imp2) rfl rfl ?_ | refine gl_yv (yv_or (gok_none rfl) rfl rfl rfl (fun _ => rfl) c_imp2) rfl rfl ?_)
      | (refine gl_anyG ?_; first | refine gl_yv (yv_pure tab_ok c_gok rfl rfl c_allT) rfl rfl ?_ | refine gl_yv (yv_indexS tab_ok c_gok rfl rfl rfl rfl c_imp c_imp (by intro hq_; (try simp only [Bool.and_eq_true, Bool.not_eq_true', Bool.not_eq_false', Bool.or_eq_false_iff, Bool.or_eq_true, decide_eq_true_eq, decide_eq_false_iff_not, Bool.true_and, Bool.and_true] at hq_); omega)) rfl rfl ?_ | refine gl_yv (yv_indexS (i := 0) tab_ok c_gok rfl rfl rfl rfl c_imp c_imp (by intro hq_; (try simp only [Bool.and_eq_true, Bool.not_eq_true', Bool.not_eq_false', Bool.or_eq_false_iff, Bool.or_eq_true, decide_eq_true_eq, decide_eq_false_iff_not, Bool.true_and, Bool.and_true] at hq_); omega)) rfl rfl ?_))
  refine gl_evG c_gok (ev_callOw rfl rfl ent95 rfl rfl rfl (fun W hW => ct_whole (seeL a b l) _ _ _ W rfl (slA_cat len_shown rfl hW c_oa hw_) (by omega)) ?_) rfl rfl; intro p3_ c3_ sp3_ hw3_
  repeat' first
    | (refine gl_gate ?_; first
      | (refine gl_anyG ?_; first | refine gl_yv (yv_pure tab_ok c_gok rfl rfl c_allT) rfl rfl ?_ | refine gl_yv (yv_indexS tab_ok c_gok rfl rfl rfl rfl c_imp c_imp (by intro hq_; (try simp only [Bool.and_eq_true, Bool.not_eq_true', Bool.not_eq_false', Bool.or_eq_false_iff, Bool.or_eq_true, decide_eq_true_eq, decide_eq_false_iff_not, Bool.true_and, Bool.and_true] at hq_); omega)) rfl rfl ?_ | refine gl_yv (yv_indexS (i := 0) tab_ok c_gok rfl rfl rfl rfl c_imp c_imp (by intro hq_; (try simp only [Bool.and_eq_true, Bool.not_eq_true', Bool.not_eq_false', Bool.or_eq_false_iff, Bool.or_eq_true, decide_eq_true_eq, decide_eq_false_iff_not, Bool.true_and, Bool.and_true] at hq_); omega)) rfl rfl ?_))
  refine gl_evG c_gok (ev_callOw rfl rfl ent95 rfl rfl rfl (fun W hW => ct_whole (seeL a b l) _ _ _ W rfl (slA_cat len_shown rfl hW c_oa hw_) (by omega)) ?_) rfl rfl; intro p4_ c4_ sp4_ hw4_
  skip
  refine gl_evG c_gok (ev_callOw rfl rfl ent96 rfl rfl rfl (fun W hW => ct_Delta (wholeL (seeL a b l)) (wholeL (seeL a b l)) _ _ _ _ _ _ W rfl rfl (slA_cat len_shown rfl hW c_oa hw3_) (slA_cat len_shown rfl hW c_oa hw4_) (by omega) (by omega)) ?_) rfl rfl; intro p5_ c5_ sp5_ hw5_
  repeat' first
    | (refine gl_gate ?_; first
      | refine gl_nil ?_
      | (refine gl_pick0 ?_; first | refine gl_yv (yv_and (gok_none rfl) rfl rfl rfl (fun _ => rfl) c_imp2) rfl rfl ?_ | refine gl_yv (yv_or (gok_none rfl) rfl rfl rfl (fun _ => rfl) c_imp2) rfl rfl ?_)
      | (refine gl_any0 ?_; refine gl_pure tab_ok rfl rfl rfl rfl rfl rfl ?_)
      | (refine gl_anyG ?_; first | refine gl_yv (yv_pure tab_ok c_gok rfl rfl c_allT) rfl rfl ?_ | refine gl_yv (yv_indexS tab_ok c_gok rfl rfl rfl rfl c_imp c_imp (by intro hq_; (try simp only [Bool.and_eq_true, Bool.not_eq_true', Bool.not_eq_false', Bool.or_eq_false_iff, Bool.or_eq_true, decide_eq_true_eq, decide_eq_false_iff_not, Bool.true_and, Bool.and_true] at hq_); omega)) rfl rfl ?_ | refine gl_yv (yv_indexS (i := 0) tab_ok c_gok rfl rfl rfl rfl c_imp c_imp (by intro hq_; (try simp only [Bool.and_eq_true, Bool.not_eq_true', Bool.not_eq_false', Bool.or_eq_false_iff, Bool.or_eq_true, decide_eq_true_eq, decide_eq_false_iff_not, Bool.true_and, Bool.and_true] at hq_); omega)) rfl rfl ?_))
    | (refine gc_gate ?_; first
      | refine gc_ret ?_)
    | (refine ge_gate ?_; first
      | ((with_reducible refine ge_gT ?_); first | with_reducible refine ge_then ?_ | with_reducible refine ge_then_exit ?_ | with_reducible refine ge_then_ret ?_)
      | ((with_reducible refine ge_gB ?_); first | refine ge_ret1 tab_ok rfl c_rvt ?_ | refine ge_end1 tab_ok rfl c_rvt ?_ | refine ge_ret2 tab_ok rfl c_rvt c_rvt ?_ | refine ge_ret_none rfl ?_ | refine ge_end_none rfl ?_))
  intro W hW
  exact ⟨congrArg Ending.returned hd0, hW.below0⟩
theorem rdShown {W : World} {n : Nat} {cs : List Value} (h : Rd tab W n 120 cs) : ∃ s : Shown, cs = s.l ∧ s.cell.Ok ∧ s.val.Ok := by
  obtain ⟨m, rfl, hl, hf⟩ := rd_st (fs := [(25, 0), (23, 3)]) h rfl
  obtain ⟨a, b, c, d, e, f, rfl⟩ : ∃ a b c d e f, cs = [a, b, c, d, e, f] := by
    match cs, hl with
    | [a, b, c, d, e, f], _ => exact ⟨a, b, c, d, e, f, rfl⟩
  obtain ⟨x, h1, ox⟩ := rdCell (hf (25, 0) (by simp) rfl)
  obtain ⟨y, h2, oy⟩ := rdVal (hf (23, 3) (by simp) rfl)
  have h1' : [a, b, c] = x.l := h1
  have h2' : [d, e, f] = y.l := h2
  exact ⟨⟨x, y⟩, by show [a, b, c] ++ [d, e, f] = _; rw [h1', h2']; rfl, ox, oy⟩
theorem rdRange {W : World} {n : Nat} {cs : List Value} (h : Rd tab W n 55 cs) : ∃ a b : Cell, cs = a.l ++ b.l ∧ a.Ok ∧ b.Ok := by
  obtain ⟨m, rfl, hl, hf⟩ := rd_st (fs := [(25, 0), (25, 3)]) h rfl
  obtain ⟨a, b, c, d, e, f, rfl⟩ : ∃ a b c d e f, cs = [a, b, c, d, e, f] := by
    match cs, hl with
    | [a, b, c, d, e, f], _ => exact ⟨a, b, c, d, e, f, rfl⟩
  obtain ⟨x, h1, ox⟩ := rdCell (hf (25, 0) (by simp) rfl)
  obtain ⟨y, h2, oy⟩ := rdCell (hf (25, 3) (by simp) rfl)
  have h1' : [a, b, c] = x.l := h1
  have h2' : [d, e, f] = y.l := h2
  exact ⟨x, y, by show [a, b, c] ++ [d, e, f] = _; rw [h1', h2'], ox, oy⟩
theorem law_WindowSees (W : World) {b0 b1 : Nat} {v0 v1 : Value} (o0 : Value.okWide Try.prog W .any b0 55 v0) (o1 : Value.okWide Try.prog W .any b1 56 v1)
    (r0 : ∃ m, Rd tab W m 55 v0.cells.toList) (r1 : ∃ m, Rd tab W m 56 v1.cells.toList) : Calls Try.prog 22 #[v0, v1] W fun e w' => e = .returned (.bool true) ∧ Bl W w' := by
  obtain ⟨cs, rfl⟩ := arg_struct tab_ok (t := 55) rfl o0
  rw [arg_one tab_ok (t := 56) rfl rfl o1] at r1
  obtain ⟨m0, r0⟩ := r0
  obtain ⟨m1, r1⟩ := r1
  obtain ⟨a, b, h0, _⟩ := rdRange r0
  obtain ⟨p, n, cap, l, h1, hn, hle, hcap, hs, _⟩ := rdFlat (f := Shown.l) r1 rfl rfl (by decide) fun _ _ h => rdShown h
  have h0' : cs = a.l ++ b.l := by simpa [Value.cells] using h0
  subst h0'
  cases h1
  exact walk_WindowSees a b l p n cap hn (by omega) W hs
end Go.Proofs.Ytkgjfcjciigcgaa
