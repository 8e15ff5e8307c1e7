/-
  FrontPlays: what any counts leave: which stamps are least, and which are passed.
-/
import Derived.Test.YtkgjfcjciigcgaaGoFrontR
import Derived.Test.YtkgjfcjciigcgaaGoFrontLeast
namespace Go.Proofs.Ytkgjfcjciigcgaa
open Go.Proofs.Ytkgjfcjciigcgaa.Sl Go.RowKit
set_option linter.unusedVariables false
set_option linter.unusedSimpArgs false
set_option linter.unusedSectionVars false
set_option maxRecDepth 100000

def accR (l : List Chg) : List Chg := l.foldl (fun m x => addC m x.s x.n) []
theorem accR_take (l : List Chg) (i : Nat) (hi : i < l.length) : accR (l.take (i + 1)) = addC (accR (l.take i)) (l.getD i default).s (l.getD i default).n := by
  unfold accR
  rw [take_succD _ _ hi, List.foldl_append]
  rfl
theorem acc_cnt (l : List Chg) : Cnt (accM l) (accR l) := by
  have key : ∀ (l : List Chg) (m : FM) (r : List Chg), Cnt m r → Cnt (l.foldl (fun m x => fadd m x.s x.n) m) (l.foldl (fun m x => addC m x.s x.n) r) := by
    intro l
    induction l with
    | nil => intro m r h; exact h
    | cons x t ih => intro m r h; exact ih _ _ (h.add x.s x.n)
  exact key l [] [] Cnt.nil
theorem accR_spec : ∀ (l : List Chg), (∀ x ∈ l, small x) → (accR l).length ≤ l.length ∧ ∀ x ∈ accR l, -((l.length : Int) * 1099511627776) ≤ x.n ∧ x.n ≤ (l.length : Int) * 1099511627776 := by
  have key : ∀ (l : List Chg) (m : List Chg) (n : Nat), (∀ x ∈ l, small x) → m.length ≤ n ∧ (∀ x ∈ m, -((n : Int) * 1099511627776) ≤ x.n ∧ x.n ≤ (n : Int) * 1099511627776) → (l.foldl (fun m x => addC m x.s x.n) m).length ≤ n + l.length ∧ ∀ x ∈ l.foldl (fun m x => addC m x.s x.n) m, -(((n + l.length : Nat) : Int) * 1099511627776) ≤ x.n ∧ x.n ≤ ((n + l.length : Nat) : Int) * 1099511627776 := by
    intro l
    induction l with
    | nil => intro m n _ h; exact h
    | cons x r ih =>
      intro m n hs h
      obtain ⟨h1, h2⟩ := h
      have := ih (addC m x.s x.n) (n + 1) (fun y hy => hs y (List.mem_cons_of_mem _ hy)) ⟨Nat.le_trans (addC_len _ _ _) (by omega), fun y hy => by
        have hx := hs x (List.mem_cons_self ..)
        unfold small at hx
        have := addC_bound (B := (n : Int) * 1099511627776) (C := 1099511627776) h2 hx (by omega) y hy
        omega⟩
      simp only [List.foldl_cons, List.length_cons]
      rw [show n + (r.length + 1) = n + 1 + r.length by omega]
      exact this
  intro l hl
  have := key l [] 0 hl ⟨Nat.le_refl _, fun x hx => absurd hx List.not_mem_nil⟩
  simpa [accR] using this
def one1 (x : Chg) : Chg := ⟨x.s, 1⟩
theorem accO_take (l : List Chg) (i : Nat) (hi : i < l.length) : accM ((l.take (i + 1)).map one1) = fadd (accM ((l.take i).map one1)) (l.getD i default).s 1 := by
  unfold accM
  rw [take_succD _ _ hi, List.map_append, List.foldl_append]
  rfl
theorem c_so {P : Prop} (h : P := by repeat first | exact List.sublist_append_left _ _ | exact List.Sublist.refl _ | apply sub_app) : P := h
theorem perm3a {α : Type} (A B C D : List α) : (A ++ (B ++ (C ++ D))).Perm (C ++ (A ++ (B ++ D))) :=
  (List.Perm.append_left A (List.perm_append_comm_assoc B C D)).trans (List.perm_append_comm_assoc A C (B ++ D))
theorem gok_f0 {l : List Oper} {F : Fl} {o : Oper} {j t : Nat} (h : o.guard = some (j, false)) (hj : (match nth l j with | some oj => oj.dst | none => none) = some t) (hc : Fg F t = some (true, .bool false)) : Gok l F o true := by
  have := gok_f h hj hc
  simpa using this
theorem c_gokF {P : Prop} (h : P := by first | exact gok_none rfl | exact gok_f0 rfl rfl rfl | exact gok_t rfl rfl rfl | exact gok_f rfl rfl rfl | exact gok_tn rfl rfl rfl | exact gok_fn rfl rfl rfl) : P := h
set_option maxHeartbeats 8000000 in
theorem walk_FrontPlays (l : List Chg) (s : Stamp) (p : Option Addr) (n cap : Nat) (hn : n = l.length) (hn9 : n ≤ 9223372036854775807) (w : World) (hs : SlA w 4 p n (fun i => (l.getD i default).l)) : Calls Try.prog 16 #[.slice p n cap, .agg s.l.toArray] w fun e w' => e = .returned (.bool true) ∧ Bl w w' := by
  refine enter (args := [_, _]) (M := []) (K := []) Try.func16 rfl Try.ntmps16 rfl (St.refl _ _) ?_
  repeat' first
    | (refine gl_gate ?_; first
      | refine gl_nil ?_
      | (refine gl_calv0 ?_; first | refine gl_yd (yd_call (gok_none rfl) rfl ent76 rfl rfl (fun _ => allT_of rfl) (fun _ W hW => ct_aliveF W)) rfl rfl ?_)
      | (refine gl_pick0 ?_; first | refine gl_yv (yv_and (gok_none rfl) rfl rfl rfl (fun _ => rfl) c_imp2) rfl rfl ?_ | refine gl_yv (yv_or (gok_none rfl) rfl rfl rfl (fun _ => rfl) c_imp2) rfl rfl ?_)
      | (refine gl_box0 ?_; first | (refine gl_box_agg rfl rfl rfl rfl rfl ?_; intro g_ hg_) | (refine gl_box_one rfl rfl rfl rfl rfl rfl ?_; intro g_ hg_) | (refine gl_box rfl rfl rfl rfl rfl ?_; intro g_ hg_))
      | (refine gl_any0 ?_; refine gl_pure tab_ok rfl rfl rfl rfl rfl rfl ?_)
      | (refine gl_anyG ?_; first | refine gl_yv (yv_pure tab_ok c_gok rfl rfl c_allT) rfl rfl ?_ | refine gl_yv (yv_indexS tab_ok c_gok rfl rfl rfl rfl c_imp c_imp (by intro hq_; (try simp only [Bool.and_eq_true, Bool.not_eq_true', Bool.not_eq_false', Bool.or_eq_false_iff, Bool.or_eq_true, decide_eq_true_eq, decide_eq_false_iff_not, Bool.true_and, Bool.and_true] at hq_); omega)) rfl rfl ?_ | refine gl_yv (yv_indexS (i := 0) tab_ok c_gok rfl rfl rfl rfl c_imp c_imp (by intro hq_; (try simp only [Bool.and_eq_true, Bool.not_eq_true', Bool.not_eq_false', Bool.or_eq_false_iff, Bool.or_eq_true, decide_eq_true_eq, decide_eq_false_iff_not, Bool.true_and, Bool.and_true] at hq_); omega)) rfl rfl ?_))
    | (refine gc_gate ?_; first
      | refine gc_seq ?_
      | refine gc_region ?_)
    | (refine ge_gate ?_; first
      | ((with_reducible refine ge_gT ?_); first | with_reducible refine ge_then ?_ | with_reducible refine ge_then_exit ?_ | with_reducible refine ge_then_ret ?_))
  (refine gc_cond rfl ?_ ?_ <;> intro h_ <;> have hd_ := h_ <;> (try simp only [bytes_beq, cell_beq, val_beq, stamp_beq, decide_eq_true_eq, decide_eq_false_iff_not, Bool.and_eq_true, Bool.or_eq_true, Bool.or_eq_false_iff, Bool.not_eq_true', Bool.not_eq_false', Bool.not_true, Bool.not_false, Bool.false_or, Bool.true_and, Bool.and_true, Bool.or_false, beq_iff_eq, bne_iff_ne, beq_eq_false_iff_ne, bne_eq_false_iff_eq, ne_eq, Bool.false_eq_true, reduceCtorEq] at hd_) <;> (try (exfalso; omega)))
  · repeat' first
      | (refine gl_gate ?_; first
        | refine gl_nil ?_
        | (refine gl_any0 ?_; refine gl_pure tab_ok rfl rfl rfl rfl rfl rfl ?_))
      | (refine gc_gate ?_; first
        | refine gc_seq ?_
        | refine gc_region ?_
        | refine gc_ret ?_)
      | (refine ge_gate ?_; first
        | ((with_reducible refine ge_gT ?_); first | with_reducible refine ge_then ?_ | with_reducible refine ge_then_exit ?_ | with_reducible refine ge_then_ret ?_)
        | ((with_reducible refine ge_gB ?_); first | refine ge_ret1 tab_ok rfl c_rvt ?_ | refine ge_end1 tab_ok rfl c_rvt ?_ | refine ge_ret2 tab_ok rfl c_rvt c_rvt ?_ | refine ge_ret_none rfl ?_ | refine ge_end_none rfl ?_))
    intro W hW
    exact ⟨rfl, hW.below0⟩
  have hn60 : n ≤ 60 := by simp at hd_; omega
  revert g_
  intro g3 hg3
  repeat' first
    | (refine gl_gate ?_; first
      | refine gl_nil ?_
      | (refine gl_box0 ?_; first | (refine gl_box_agg rfl rfl rfl rfl rfl ?_; intro g_ hg_) | (refine gl_box_one rfl rfl rfl rfl rfl rfl ?_; intro g_ hg_) | (refine gl_box rfl rfl rfl rfl rfl ?_; intro g_ hg_))
      | (refine gl_any0 ?_; refine gl_pure tab_ok rfl rfl rfl rfl rfl rfl ?_))
    | (refine gc_gate ?_; first
      | refine gc_seq ?_
      | refine gc_region ?_
      | refine gc_block ?_
      | refine gc_skip ?_)
    | (refine ge_gate ?_; first
      | ((with_reducible refine ge_gT ?_); first | with_reducible refine ge_then ?_ | with_reducible refine ge_then_exit ?_ | with_reducible refine ge_then_ret ?_))
  rename_i gf hgf go hgo
  generalize g_ = gr at *
  clear h_ hd_
  refine gc_loop (α := Nat × (Option Nat × Array MapEntry × Nat) × (Option Nat × Array MapEntry × Nat) × (Option Nat × Nat × List Value)) (fun x => [(0, true, .slice p n cap), (3, true, .pointer (some ⟨g3, 0, none⟩)), (6, true, .pointer (some ⟨gf, 0, none⟩)), (7, true, .pointer (some ⟨go, 0, none⟩)), (8, true, .pointer (some ⟨gr, 0, none⟩)), (9, true, .int .i64 (x.1 : Int))])
    (fun x => FrK gr x.2.2.2.1 x.2.2.2.2.1 (accR (l.take x.1)) x.2.2.2.2.2 ++ (FrPK go x.2.2.1.1 x.2.2.1.2.1 x.2.2.1.2.2 ++ (FrPK gf x.2.1.1 x.2.1.2.1 x.2.1.2.2 ++ [(g3, true, .cells s.l.toArray 38 (0, 0))])))
    (fun x => x.1 ≤ n ∧ FOk x.2.1.1 (accM (l.take x.1)) x.2.1.2.1 x.2.1.2.2 ∧ FOk x.2.2.1.1 (accM ((l.take x.1).map one1)) x.2.2.1.2.1 x.2.2.1.2.2 ∧ Ow x.2.2.2.1 (accR (l.take x.1)).length x.2.2.2.2.1 4 (cat Chg.l (accR (l.take x.1))) x.2.2.2.2.2 ∧ ∀ y ∈ l.take x.1, small y) (fun x => n - x.1) (0, (none, #[], 0), (none, #[], 0), (none, 0, [])) c_frs (List.Sublist.refl _) ⟨Nat.zero_le _, rfl, rfl, Ow.none0, fun y hy => by simp at hy⟩ ?_
  rintro ⟨i, ⟨mf, ef, cf⟩, ⟨mo, eo, co⟩, ⟨q, c, sp⟩⟩ ⟨hi, hf, hfo, ho, hsm⟩
  dsimp only at hi hf hfo ho hsm ⊢
  obtain ⟨k1, k2, k3⟩ := accM_spec _ hsm
  obtain ⟨o1, o2, o3⟩ := accM_spec ((l.take i).map one1) (fun y hy => by
    obtain ⟨z, _, rfl⟩ := List.mem_map.1 hy
    unfold small one1
    simp)
  obtain ⟨r1, r2⟩ := accR_spec _ hsm
  rw [List.length_map] at o2 o3
  rw [List.length_take, Nat.min_eq_left (by omega)] at k2 k3 o2 o3 r1 r2
  repeat' first
    | (refine gl_gate ?_; first
      | refine gl_nil ?_
      | (refine gl_any0 ?_; refine gl_pure tab_ok rfl rfl rfl rfl rfl rfl ?_))
    | (refine gc_gate ?_; first
      | refine gc_seq ?_
      | refine gc_region ?_)
    | (refine ge_gate ?_; first
      | ((with_reducible refine ge_gT ?_); first | with_reducible refine ge_then ?_ | with_reducible refine ge_then_exit ?_ | with_reducible refine ge_then_ret ?_))
  (refine gc_cond rfl ?_ ?_ <;> intro h_ <;> have hd_ := h_ <;> (try simp only [bytes_beq, cell_beq, val_beq, stamp_beq, decide_eq_true_eq, decide_eq_false_iff_not, Bool.and_eq_true, Bool.or_eq_true, Bool.or_eq_false_iff, Bool.not_eq_true', Bool.not_eq_false', Bool.not_true, Bool.not_false, Bool.false_or, Bool.true_and, Bool.and_true, Bool.or_false, beq_iff_eq, bne_iff_ne, beq_eq_false_iff_ne, bne_eq_false_iff_eq, ne_eq, Bool.false_eq_true, reduceCtorEq] at hd_) <;> (try (exfalso; omega)))
  rotate_left
  · repeat' first
      | (refine gl_gate ?_; first
        | refine gl_nil ?_
        | (refine gl_any0 ?_; refine gl_pure tab_ok rfl rfl rfl rfl rfl rfl ?_))
      | (refine gc_gate ?_; first
        | refine gc_seq ?_
        | refine gc_region ?_
        | refine gc_exit ?_
        | refine gc_ret ?_)
      | (refine ge_gate ?_; first
        | ((with_reducible refine ge_gT ?_); first | with_reducible refine ge_then ?_ | with_reducible refine ge_then_exit ?_ | with_reducible refine ge_then_ret ?_)
        | ((with_reducible refine ge_gK ?_); first | with_reducible refine ge_block ?_ | refine ge_block_exit ?_ | refine ge_block_pass rfl ?_ | with_reducible refine ge_block_ret ?_)
        | ((with_reducible refine ge_gB ?_); first | refine ge_ret1 tab_ok rfl c_rvt ?_ | refine ge_end1 tab_ok rfl c_rvt ?_ | refine ge_ret2 tab_ok rfl c_rvt c_rvt ?_ | refine ge_ret_none rfl ?_ | refine ge_end_none rfl ?_))
    intro W hW
    exact ⟨rfl, hW.below0⟩
  have hil : i < l.length := by omega
  have hnext := accM_take l i hil
  have honext := accO_take l i hil
  have hrnext := accR_take l i hil
  repeat' first
    | (refine gl_gate ?_; first
      | refine gl_nil ?_
      | (refine gl_idx0 ?_; refine gl_yv (yv_idxA tab_ok hs (gok_none rfl) rfl rfl rfl rfl rfl rfl (fun _ => rfl) (fun _ => rfl) c_bnd) rfl rfl ?_)
      | (refine gl_idxG ?_; refine gl_yv (yv_idxA tab_ok hs c_gok rfl rfl rfl rfl rfl rfl c_imp c_imp c_bnd) rfl rfl ?_)
      | (refine gl_load0 ?_; refine gl_yv (yv_ldA tab_ok hs c_nm (gok_none rfl) rfl rfl (fun _ => rfl) c_bnd (fun _ => c_lds)) rfl rfl ?_)
      | (refine gl_loadG ?_; refine gl_yv (yv_ldA tab_ok hs c_nm c_gok rfl rfl c_imp c_bnd (fun _ => c_lds)) rfl rfl ?_)
      | (refine gl_pick0 ?_; first | refine gl_yv (yv_and (gok_none rfl) rfl rfl rfl (fun _ => rfl) c_imp2) rfl rfl ?_ | refine gl_yv (yv_or (gok_none rfl) rfl rfl rfl (fun _ => rfl) c_imp2) rfl rfl ?_)
      | (refine gl_any0 ?_; refine gl_pure tab_ok rfl rfl rfl rfl rfl rfl ?_)
      | (refine gl_anyG ?_; first | refine gl_yv (yv_pure tab_ok c_gok rfl rfl c_allT) rfl rfl ?_ | refine gl_yv (yv_indexS tab_ok c_gok rfl rfl rfl rfl c_imp c_imp (by intro hq_; (try simp only [Bool.and_eq_true, Bool.not_eq_true', Bool.not_eq_false', Bool.or_eq_false_iff, Bool.or_eq_true, decide_eq_true_eq, decide_eq_false_iff_not, Bool.true_and, Bool.and_true] at hq_); omega)) rfl rfl ?_ | refine gl_yv (yv_indexS (i := 0) tab_ok c_gok rfl rfl rfl rfl c_imp c_imp (by intro hq_; (try simp only [Bool.and_eq_true, Bool.not_eq_true', Bool.not_eq_false', Bool.or_eq_false_iff, Bool.or_eq_true, decide_eq_true_eq, decide_eq_false_iff_not, Bool.true_and, Bool.and_true] at hq_); omega)) rfl rfl ?_))
    | (refine gc_gate ?_; first
      | refine gc_seq ?_
      | refine gc_region ?_
      | refine gc_block ?_
      | refine gc_skip ?_)
    | (refine ge_gate ?_; first
      | ((with_reducible refine ge_gT ?_); first | with_reducible refine ge_then ?_ | with_reducible refine ge_then_exit ?_ | with_reducible refine ge_then_ret ?_))
  (refine gc_cond rfl ?_ ?_ <;> intro h_ <;> have hd_ := h_ <;> (try simp only [bytes_beq, cell_beq, val_beq, stamp_beq, decide_eq_true_eq, decide_eq_false_iff_not, Bool.and_eq_true, Bool.or_eq_true, Bool.or_eq_false_iff, Bool.not_eq_true', Bool.not_eq_false', Bool.not_true, Bool.not_false, Bool.false_or, Bool.true_and, Bool.and_true, Bool.or_false, beq_iff_eq, bne_iff_ne, beq_eq_false_iff_ne, bne_eq_false_iff_eq, ne_eq, Bool.false_eq_true, reduceCtorEq] at hd_) <;> (try (exfalso; omega)))
  · repeat' first
      | (refine gl_gate ?_; first
        | refine gl_nil ?_
        | (refine gl_any0 ?_; refine gl_pure tab_ok rfl rfl rfl rfl rfl rfl ?_))
      | (refine gc_gate ?_; first
        | refine gc_seq ?_
        | refine gc_region ?_
        | refine gc_ret ?_)
      | (refine ge_gate ?_; first
        | ((with_reducible refine ge_gT ?_); first | with_reducible refine ge_then ?_ | with_reducible refine ge_then_exit ?_ | with_reducible refine ge_then_ret ?_)
        | ((with_reducible refine ge_gK ?_); first | with_reducible refine ge_block ?_ | refine ge_block_exit ?_ | refine ge_block_pass rfl ?_ | with_reducible refine ge_block_ret ?_)
        | ((with_reducible refine ge_gB ?_); first | refine ge_ret1 tab_ok rfl c_rvt ?_ | refine ge_end1 tab_ok rfl c_rvt ?_ | refine ge_ret2 tab_ok rfl c_rvt c_rvt ?_ | refine ge_ret_none rfl ?_ | refine ge_end_none rfl ?_))
    intro W hW
    exact ⟨rfl, hW.below0⟩
  have hx : small (l.getD i default) := by unfold small; omega
  have h3 := k3 (l.getD i default).s
  have h3o := o3 (l.getD i default).s
  have hx' := hx
  unfold small at hx'
  repeat' first
    | (refine gl_gate ?_; first
      | refine gl_nil ?_
      | (refine gl_idx0 ?_; refine gl_yv (yv_idxA tab_ok hs (gok_none rfl) rfl rfl rfl rfl rfl rfl (fun _ => rfl) (fun _ => rfl) c_bnd) rfl rfl ?_)
      | (refine gl_load0 ?_; refine gl_yv (yv_ldA tab_ok hs c_nm (gok_none rfl) rfl rfl (fun _ => rfl) c_bnd (fun _ => c_lds)) rfl rfl ?_)
      | (refine gl_any0 ?_; (refine gl_ev (ev_addF (g := go) (mo := mo) (m := accM ((l.take i).map one1)) (es := eo) (clock := co) (s := (l.getD i default).s) (n := 1) rfl rfl rfl rfl rfl (List.perm_append_comm_assoc ..) hfo (by unfold In64; omega) ?_) rfl rfl; intro go2 eo2 co2 hmo))
      | (refine gl_any0 ?_; refine gl_pure tab_ok rfl rfl rfl rfl rfl rfl ?_))
    | (refine gc_gate ?_; first
      | refine gc_seq ?_
      | refine gc_region ?_
      | refine gc_skip ?_)
    | (refine ge_gate ?_; first
      | ((with_reducible refine ge_gT ?_); first | with_reducible refine ge_then ?_ | with_reducible refine ge_then_exit ?_ | with_reducible refine ge_then_ret ?_))
  have hcnt := acc_cnt (l.take (i + 1))
  rw [hnext, hrnext] at hcnt
  refine gp_start [11] #[false, false, false, false, false, false, false, false, false, false, false, false] mixed rfl rfl c_qp ?_; intro hqp_
  refine gp_take 0 #[true, false, false, false, false, false, false, false, false, false, false, false] hqp_ rfl (by kernel_rfl) (yv_pure tab_ok c_gok rfl rfl c_allT) c_cl rfl rfl ?_
  refine gp_take 1 #[true, true, false, false, false, false, false, false, false, false, false, false] hqp_ rfl (by kernel_rfl) (yv_pure tab_ok c_gok rfl rfl c_allT) c_cl rfl rfl ?_
  refine gp_take 2 #[true, true, true, false, false, false, false, false, false, false, false, false] hqp_ rfl (by kernel_rfl) (yv_pure tab_ok c_gok rfl rfl c_allT) c_cl rfl rfl ?_
  refine gp_take 3 #[true, true, true, true, false, false, false, false, false, false, false, false] hqp_ rfl (by kernel_rfl) (yv_idxA tab_ok hs c_gok rfl rfl rfl rfl rfl rfl c_imp c_imp c_bnd) c_cl rfl rfl ?_
  refine gp_take 4 #[true, true, true, true, true, false, false, false, false, false, false, false] hqp_ rfl (by kernel_rfl) (yv_pure tab_ok c_gok rfl rfl c_allT) c_cl rfl rfl ?_
  refine gp_take 5 #[true, true, true, true, true, true, false, false, false, false, false, false] hqp_ rfl (by kernel_rfl) (yv_ldA tab_ok hs c_nm c_gok rfl rfl c_imp c_bnd (fun _ => c_lds)) c_cl rfl rfl ?_
  refine gp_take 6 #[true, true, true, true, true, true, true, false, false, false, false, false] hqp_ rfl (by kernel_rfl) (yv_pure tab_ok c_gok rfl rfl c_allT) c_cl rfl rfl ?_
  refine gp_take 7 #[true, true, true, true, true, true, true, true, false, false, false, false] hqp_ rfl (by kernel_rfl) (yv_pure tab_ok c_gok rfl rfl c_allT) c_cl rfl rfl ?_
  refine gp_take 8 #[true, true, true, true, true, true, true, true, true, false, false, false] hqp_ rfl (by kernel_rfl) (yv_idxA tab_ok hs c_gok rfl rfl rfl rfl rfl rfl c_imp c_imp c_bnd) c_cl rfl rfl ?_
  refine gp_take 9 #[true, true, true, true, true, true, true, true, true, true, false, false] hqp_ rfl (by kernel_rfl) (yv_pure tab_ok c_gok rfl rfl c_allT) c_cl rfl rfl ?_
  refine gp_take 10 #[true, true, true, true, true, true, true, true, true, true, true, false] hqp_ rfl (by kernel_rfl) (yv_ldA tab_ok hs c_nm c_gok rfl rfl c_imp c_bnd (fun _ => c_lds)) c_cl rfl rfl ?_
  refine gp_last 11 #[true, true, true, true, true, true, true, true, true, true, true, true] rfl (by kernel_rfl) (by simp) rfl rfl (ev_addF (g := gf) (mo := mf) (m := accM (l.take i)) (es := ef) (clock := cf) (s := (l.getD i default).s) (n := (l.getD i default).n) rfl rfl rfl rfl rfl (perm3a ..) hf (by unfold In64; omega) (fun gf2 ef2 cf2 hmf => ?_))
  refine gp_done (by kernel_rfl) ?_; clear hqp_
  repeat' first
    | (refine gc_gate ?_; first
      | refine gc_seq ?_)
    | (refine ge_gate ?_; first
      | ((with_reducible refine ge_gT ?_); first | with_reducible refine ge_then ?_ | with_reducible refine ge_then_exit ?_ | with_reducible refine ge_then_ret ?_))
  refine gp_start [11] #[false, false, false, false, false, false, false, false, false, false, false, false] mixed rfl rfl c_qp ?_; intro hqp_
  refine gp_take 0 #[true, false, false, false, false, false, false, false, false, false, false, false] hqp_ rfl (by kernel_rfl) (yv_pure tab_ok c_gok rfl rfl c_allT) c_cl rfl rfl ?_
  refine gp_take 1 #[true, true, false, false, false, false, false, false, false, false, false, false] hqp_ rfl (by kernel_rfl) (yv_pure tab_ok c_gok rfl rfl c_allT) c_cl rfl rfl ?_
  refine gp_take 2 #[true, true, true, false, false, false, false, false, false, false, false, false] hqp_ rfl (by kernel_rfl) (yv_pure tab_ok c_gok rfl rfl c_allT) c_cl rfl rfl ?_
  refine gp_take 3 #[true, true, true, true, false, false, false, false, false, false, false, false] hqp_ rfl (by kernel_rfl) (yv_idxA tab_ok hs c_gok rfl rfl rfl rfl rfl rfl c_imp c_imp c_bnd) c_cl rfl rfl ?_
  refine gp_take 4 #[true, true, true, true, true, false, false, false, false, false, false, false] hqp_ rfl (by kernel_rfl) (yv_pure tab_ok c_gok rfl rfl c_allT) c_cl rfl rfl ?_
  refine gp_take 5 #[true, true, true, true, true, true, false, false, false, false, false, false] hqp_ rfl (by kernel_rfl) (yv_ldA tab_ok hs c_nm c_gok rfl rfl c_imp c_bnd (fun _ => c_lds)) c_cl rfl rfl ?_
  refine gp_take 6 #[true, true, true, true, true, true, true, false, false, false, false, false] hqp_ rfl (by kernel_rfl) (yv_pure tab_ok c_gok rfl rfl c_allT) c_cl rfl rfl ?_
  refine gp_take 7 #[true, true, true, true, true, true, true, true, false, false, false, false] hqp_ rfl (by kernel_rfl) (yv_pure tab_ok c_gok rfl rfl c_allT) c_cl rfl rfl ?_
  refine gp_take 8 #[true, true, true, true, true, true, true, true, true, false, false, false] hqp_ rfl (by kernel_rfl) (yv_idxA tab_ok hs c_gok rfl rfl rfl rfl rfl rfl c_imp c_imp c_bnd) c_cl rfl rfl ?_
  refine gp_take 9 #[true, true, true, true, true, true, true, true, true, true, false, false] hqp_ rfl (by kernel_rfl) (yv_pure tab_ok c_gok rfl rfl c_allT) c_cl rfl rfl ?_
  refine gp_take 10 #[true, true, true, true, true, true, true, true, true, true, true, false] hqp_ rfl (by kernel_rfl) (yv_ldA tab_ok hs c_nm c_gok rfl rfl c_imp c_bnd (fun _ => c_lds)) c_cl rfl rfl ?_
  refine gp_last 11 #[true, true, true, true, true, true, true, true, true, true, true, true] rfl (by kernel_rfl) (by simp) rfl rfl (ev_addR (g := gr) (q := q) (c := c) (l := accR (l.take i)) (sp := sp) (s := (l.getD i default).s) (n := (l.getD i default).n) rfl rfl rfl rfl rfl ((perm3a ..).trans (List.Perm.append_left _ (List.perm_append_comm_assoc ..))) ho (by omega) (by unfold In64; omega) (fun x hx => by unfold In64; have := r2 x hx; omega) (fun q2 c2 sp2 ho2 => ?_))
  refine gp_done (by kernel_rfl) ?_; clear hqp_
  repeat' first
    | (refine gc_gate ?_; first
      | refine gc_seq ?_)
    | (refine ge_gate ?_; first
      | ((with_reducible refine ge_gT ?_); first | with_reducible refine ge_then ?_ | with_reducible refine ge_then_exit ?_ | with_reducible refine ge_then_ret ?_))
  have hm1 : (fadd (accM (l.take i)) (l.getD i default).s (l.getD i default).n).length ≤ i + 1 := Nat.le_trans (mset_lenO _ _ _) (by omega)
  have hr1 := addC_len (accR (l.take i)) (l.getD i default).s (l.getD i default).n
  rw [← hnext] at hmf hm1 hcnt
  rw [← hrnext] at ho2 hr1 hcnt ⊢
  rw [← honext] at hmo
  have hleast := hcnt.least
  have hpass := hcnt.passed s
  have hc1 := hcnt.eq
  clear hnext hrnext honext hcnt k1 k2 k3 o1 o2 o3 r2 h3 h3o ho hf hfo
  have hsm2 : ∀ y ∈ l.take (i + 1), small y := fun y hy => by
    rw [take_succD _ _ hil, List.mem_append, List.mem_singleton] at hy
    rcases hy with hy | rfl
    · exact hsm y hy
    · exact hx
  generalize hm : accM (l.take (i + 1)) = m at *
  generalize hr : accR (l.take (i + 1)) = r at *
  have hLl : (leastM m).length ≤ i + 1 := Nat.le_trans (Nat.le_trans (List.length_filter_le ..) (aboveM_len _)) hm1
  generalize hL : leastM m = L at *
  have k80 : ∀ W, ObIn (FrPK gf (some gf2) ef2 cf2) W → Calls Try.prog 80 #[.pointer (some ⟨gf, 0, none⟩)] W (RetOw W L.length 3 (cat Stamp.l L) 38) := fun W h => by
    have := ct_LeastF (m := m) h hmf (by omega)
    rwa [hL] at this
  have k81 : ∀ W, ObIn (FrK gr q2 c2 r sp2) W → Calls Try.prog 81 #[.pointer (some ⟨gr, 0, none⟩)] W (RetOw W L.length 3 (cat Stamp.l L) 38) := fun W h => by
    have := ct_LeastR h ho2 (by omega)
    rwa [← hleast] at this
  refine gp_start [] #[false, false, false, false, false, false, false, false, false, false, false, false, false, false, false, false, false, false, false, false, false, false, false, false, false, false, false, false, false, false, false, false, false, false, false, false, false, false, false, false, false] mixed rfl rfl c_qp ?_; intro hqp_
  refine gp_take 0 #[true, false, false, false, false, false, false, false, false, false, false, false, false, false, false, false, false, false, false, false, false, false, false, false, false, false, false, false, false, false, false, false, false, false, false, false, false, false, false, false, false] hqp_ rfl (by kernel_rfl) (yv_pure tab_ok c_gokF rfl rfl c_allT) c_cl rfl rfl ?_
  refine gp_take 2 #[true, false, true, false, false, false, false, false, false, false, false, false, false, false, false, false, false, false, false, false, false, false, false, false, false, false, false, false, false, false, false, false, false, false, false, false, false, false, false, false, false] hqp_ rfl (by kernel_rfl) (yv_pure tab_ok c_gokF rfl rfl c_allT) c_cl rfl rfl ?_
  (refine gp_ev 1 #[true, true, true, false, false, false, false, false, false, false, false, false, false, false, false, false, false, false, false, false, false, false, false, false, false, false, false, false, false, false, false, false, false, false, false, false, false, false, false, false, false] rfl (by kernel_rfl) rfl rfl rfl (ev_callOw rfl rfl ent80 rfl rfl rfl (fun W hW => k80 W (ObIn.of hW c_so)) ?_); intro p_ c_ sp_ hw_; refine ⟨c_cl, ?_⟩)
  (refine gp_ev 3 #[true, true, true, true, false, false, false, false, false, false, false, false, false, false, false, false, false, false, false, false, false, false, false, false, false, false, false, false, false, false, false, false, false, false, false, false, false, false, false, false, false] rfl (by kernel_rfl) rfl rfl rfl (ev_callOw rfl rfl ent81 rfl rfl rfl (fun W hW => k81 W (ObIn.of hW c_so)) ?_); intro p_ c_ sp_ hw_; refine ⟨c_cl, ?_⟩)
  refine gp_ev 4 #[true, true, true, true, true, false, false, false, false, false, false, false, false, false, false, false, false, false, false, false, false, false, false, false, false, false, false, false, false, false, false, false, false, false, false, false, false, false, false, false, false] rfl (by kernel_rfl) rfl rfl rfl (ev_callq rfl rfl ent79 rfl rfl rfl (fun W hW => ct_sameT L _ _ _ _ _ _ W rfl rfl (slA_cat len_stamp rfl hW c_oa (by assumption)) (slA_cat len_stamp rfl hW c_oa (by assumption)) (by omega)) ⟨c_cl, ?_⟩)
  refine gp_take 5 #[true, true, true, true, true, true, false, false, false, false, false, false, false, false, false, false, false, false, false, false, false, false, false, false, false, false, false, false, false, false, false, false, false, false, false, false, false, false, false, false, false] hqp_ rfl (by kernel_rfl) (((yv_pure tab_ok c_gokF rfl rfl c_allT).cast (v' := .bool false) rfl)) c_cl rfl rfl ?_
  refine gp_take 6 #[true, true, true, true, true, true, true, false, false, false, false, false, false, false, false, false, false, false, false, false, false, false, false, false, false, false, false, false, false, false, false, false, false, false, false, false, false, false, false, false, false] hqp_ rfl (by kernel_rfl) (yv_pure tab_ok c_gokF rfl rfl c_allT) c_cl rfl rfl ?_
  refine gp_take 7 #[true, true, true, true, true, true, true, true, false, false, false, false, false, false, false, false, false, false, false, false, false, false, false, false, false, false, false, false, false, false, false, false, false, false, false, false, false, false, false, false, false] hqp_ rfl (by kernel_rfl) (yv_pure tab_ok c_gokF rfl rfl c_allT) c_cl rfl rfl ?_
  refine gp_take 8 #[true, true, true, true, true, true, true, true, true, false, false, false, false, false, false, false, false, false, false, false, false, false, false, false, false, false, false, false, false, false, false, false, false, false, false, false, false, false, false, false, false] hqp_ rfl (by kernel_rfl) (yv_load tab_ok c_gokF rfl rfl c_imp c_mem (fun _ => c_lds)) c_cl rfl rfl ?_
  refine gp_take 10 #[true, true, true, true, true, true, true, true, true, false, true, false, false, false, false, false, false, false, false, false, false, false, false, false, false, false, false, false, false, false, false, false, false, false, false, false, false, false, false, false, false] hqp_ rfl (by kernel_rfl) (yv_pure tab_ok c_gokF rfl rfl c_allT) c_cl rfl rfl ?_
  refine gp_take 11 #[true, true, true, true, true, true, true, true, true, false, true, true, false, false, false, false, false, false, false, false, false, false, false, false, false, false, false, false, false, false, false, false, false, false, false, false, false, false, false, false, false] hqp_ rfl (by kernel_rfl) (yv_load tab_ok c_gokF rfl rfl c_imp c_mem (fun _ => c_lds)) c_cl rfl rfl ?_
  refine gp_evG 9 #[true, true, true, true, true, true, true, true, true, true, true, true, false, false, false, false, false, false, false, false, false, false, false, false, false, false, false, false, false, false, false, false, false, false, false, false, false, false, false, false, false] rfl (by kernel_rfl) rfl rfl rfl c_gokF (ev_callq rfl rfl ent82 rfl rfl rfl (fun W hW => ct_PassedF (m := m) s (ObIn.of (Ko := FrPK gf (some gf2) ef2 cf2) hW c_so) hmf (by omega)) ⟨c_cl, ?_⟩)
  refine gp_evG 12 #[true, true, true, true, true, true, true, true, true, true, true, true, true, false, false, false, false, false, false, false, false, false, false, false, false, false, false, false, false, false, false, false, false, false, false, false, false, false, false, false, false] rfl (by kernel_rfl) rfl rfl rfl c_gokF (ev_callq rfl rfl ent83 rfl rfl rfl (fun W hW => ct_PassedR s (ObIn.of (Ko := FrK gr q2 c2 r sp2) hW c_so) ho2 (by omega)) ⟨c_cl, ?_⟩)
  refine gp_take 13 #[true, true, true, true, true, true, true, true, true, true, true, true, true, true, false, false, false, false, false, false, false, false, false, false, false, false, false, false, false, false, false, false, false, false, false, false, false, false, false, false, false] hqp_ rfl (by kernel_rfl) (((yv_pure tab_ok c_gokF rfl rfl c_allT).cast (v' := .bool false) (by rw [hpass]; simp))) c_cl rfl rfl ?_
  refine gp_take 14 #[true, true, true, true, true, true, true, true, true, true, true, true, true, true, true, false, false, false, false, false, false, false, false, false, false, false, false, false, false, false, false, false, false, false, false, false, false, false, false, false, false] hqp_ rfl (by kernel_rfl) (yv_or c_gokF rfl rfl rfl c_imp c_imp2) c_cl rfl rfl ?_
  refine gp_take 15 #[true, true, true, true, true, true, true, true, true, true, true, true, true, true, true, true, false, false, false, false, false, false, false, false, false, false, false, false, false, false, false, false, false, false, false, false, false, false, false, false, false] hqp_ rfl (by kernel_rfl) (yv_pure tab_ok c_gokF rfl rfl c_allT) c_cl rfl rfl ?_
  refine gp_take 16 #[true, true, true, true, true, true, true, true, true, true, true, true, true, true, true, true, true, false, false, false, false, false, false, false, false, false, false, false, false, false, false, false, false, false, false, false, false, false, false, false, false] hqp_ rfl (by kernel_rfl) (yv_pure tab_ok c_gokF rfl rfl c_allT) c_cl rfl rfl ?_
  refine gp_take 17 #[true, true, true, true, true, true, true, true, true, true, true, true, true, true, true, true, true, true, false, false, false, false, false, false, false, false, false, false, false, false, false, false, false, false, false, false, false, false, false, false, false] hqp_ rfl (by kernel_rfl) (yv_pure tab_ok c_gokF rfl rfl c_allT) c_cl rfl rfl ?_
  refine gp_take 18 #[true, true, true, true, true, true, true, true, true, true, true, true, true, true, true, true, true, true, true, false, false, false, false, false, false, false, false, false, false, false, false, false, false, false, false, false, false, false, false, false, false] hqp_ rfl (by kernel_rfl) (yv_pure tab_ok c_gokF rfl rfl c_allT) c_cl rfl rfl ?_
  refine gp_take 19 #[true, true, true, true, true, true, true, true, true, true, true, true, true, true, true, true, true, true, true, true, false, false, false, false, false, false, false, false, false, false, false, false, false, false, false, false, false, false, false, false, false] hqp_ rfl (by kernel_rfl) (yv_idxA tab_ok hs c_gokF rfl rfl rfl rfl rfl rfl c_imp c_imp c_bnd) c_cl rfl rfl ?_
  refine gp_take 20 #[true, true, true, true, true, true, true, true, true, true, true, true, true, true, true, true, true, true, true, true, true, false, false, false, false, false, false, false, false, false, false, false, false, false, false, false, false, false, false, false, false] hqp_ rfl (by kernel_rfl) (yv_pure tab_ok c_gokF rfl rfl c_allT) c_cl rfl rfl ?_
  refine gp_take 21 #[true, true, true, true, true, true, true, true, true, true, true, true, true, true, true, true, true, true, true, true, true, true, false, false, false, false, false, false, false, false, false, false, false, false, false, false, false, false, false, false, false] hqp_ rfl (by kernel_rfl) (yv_ldA tab_ok hs c_nm c_gokF rfl rfl c_imp c_bnd (fun _ => c_lds)) c_cl rfl rfl ?_
  refine gp_take 23 #[true, true, true, true, true, true, true, true, true, true, true, true, true, true, true, true, true, true, true, true, true, true, false, true, false, false, false, false, false, false, false, false, false, false, false, false, false, false, false, false, false] hqp_ rfl (by kernel_rfl) (yv_pure tab_ok c_gokF rfl rfl c_allT) c_cl rfl rfl ?_
  refine gp_take 24 #[true, true, true, true, true, true, true, true, true, true, true, true, true, true, true, true, true, true, true, true, true, true, false, true, true, false, false, false, false, false, false, false, false, false, false, false, false, false, false, false, false] hqp_ rfl (by kernel_rfl) (yv_pure tab_ok c_gokF rfl rfl c_allT) c_cl rfl rfl ?_
  refine gp_take 25 #[true, true, true, true, true, true, true, true, true, true, true, true, true, true, true, true, true, true, true, true, true, true, false, true, true, true, false, false, false, false, false, false, false, false, false, false, false, false, false, false, false] hqp_ rfl (by kernel_rfl) (yv_pure tab_ok c_gokF rfl rfl c_allT) c_cl rfl rfl ?_
  refine gp_take 26 #[true, true, true, true, true, true, true, true, true, true, true, true, true, true, true, true, true, true, true, true, true, true, false, true, true, true, true, false, false, false, false, false, false, false, false, false, false, false, false, false, false] hqp_ rfl (by kernel_rfl) (yv_idxA tab_ok hs c_gokF rfl rfl rfl rfl rfl rfl c_imp c_imp c_bnd) c_cl rfl rfl ?_
  refine gp_take 27 #[true, true, true, true, true, true, true, true, true, true, true, true, true, true, true, true, true, true, true, true, true, true, false, true, true, true, true, true, false, false, false, false, false, false, false, false, false, false, false, false, false] hqp_ rfl (by kernel_rfl) (yv_pure tab_ok c_gokF rfl rfl c_allT) c_cl rfl rfl ?_
  refine gp_take 28 #[true, true, true, true, true, true, true, true, true, true, true, true, true, true, true, true, true, true, true, true, true, true, false, true, true, true, true, true, true, false, false, false, false, false, false, false, false, false, false, false, false] hqp_ rfl (by kernel_rfl) (yv_ldA tab_ok hs c_nm c_gokF rfl rfl c_imp c_bnd (fun _ => c_lds)) c_cl rfl rfl ?_
  refine gp_evG 22 #[true, true, true, true, true, true, true, true, true, true, true, true, true, true, true, true, true, true, true, true, true, true, true, true, true, true, true, true, true, false, false, false, false, false, false, false, false, false, false, false, false] rfl (by kernel_rfl) rfl rfl rfl c_gokF (ev_callq rfl rfl ent84 rfl rfl rfl (fun W hW => ct_CountF (m := m) _ (ObIn.of (Ko := FrPK gf (some gf2) ef2 cf2) hW c_so) hmf) ⟨c_cl, ?_⟩)
  refine gp_evG 29 #[true, true, true, true, true, true, true, true, true, true, true, true, true, true, true, true, true, true, true, true, true, true, true, true, true, true, true, true, true, true, false, false, false, false, false, false, false, false, false, false, false] rfl (by kernel_rfl) rfl rfl rfl c_gokF (ev_callq rfl rfl ent85 rfl rfl rfl (fun W hW => ct_CountR _ (ObIn.of (Ko := FrK gr q2 c2 r sp2) hW c_so) ho2 (by omega)) ⟨c_cl, ?_⟩)
  refine gp_take 30 #[true, true, true, true, true, true, true, true, true, true, true, true, true, true, true, true, true, true, true, true, true, true, true, true, true, true, true, true, true, true, true, false, false, false, false, false, false, false, false, false, false] hqp_ rfl (by kernel_rfl) (((yv_pure tab_ok c_gokF rfl rfl c_allT).cast (v' := .bool false) (by rw [hc1]; simp))) c_cl rfl rfl ?_
  refine gp_take 31 #[true, true, true, true, true, true, true, true, true, true, true, true, true, true, true, true, true, true, true, true, true, true, true, true, true, true, true, true, true, true, true, true, false, false, false, false, false, false, false, false, false] hqp_ rfl (by kernel_rfl) (yv_or c_gokF rfl rfl rfl c_imp c_imp2) c_cl rfl rfl ?_
  refine gp_take 32 #[true, true, true, true, true, true, true, true, true, true, true, true, true, true, true, true, true, true, true, true, true, true, true, true, true, true, true, true, true, true, true, true, true, false, false, false, false, false, false, false, false] hqp_ rfl (by kernel_rfl) (yv_pure tab_ok c_gokF rfl rfl c_allT) c_cl rfl rfl ?_
  refine gp_take 33 #[true, true, true, true, true, true, true, true, true, true, true, true, true, true, true, true, true, true, true, true, true, true, true, true, true, true, true, true, true, true, true, true, true, true, false, false, false, false, false, false, false] hqp_ rfl (by kernel_rfl) (yv_pure tab_ok c_gokF rfl rfl c_allT) c_cl rfl rfl ?_
  refine gp_take 34 #[true, true, true, true, true, true, true, true, true, true, true, true, true, true, true, true, true, true, true, true, true, true, true, true, true, true, true, true, true, true, true, true, true, true, true, false, false, false, false, false, false] hqp_ rfl (by kernel_rfl) (yv_load tab_ok c_gokF rfl rfl c_imp c_mem (fun _ => c_lds)) c_cl rfl rfl ?_
  refine gp_take 36 #[true, true, true, true, true, true, true, true, true, true, true, true, true, true, true, true, true, true, true, true, true, true, true, true, true, true, true, true, true, true, true, true, true, true, true, false, true, false, false, false, false] hqp_ rfl (by kernel_rfl) (yv_pure tab_ok c_gokF rfl rfl c_allT) c_cl rfl rfl ?_
  refine gp_take 37 #[true, true, true, true, true, true, true, true, true, true, true, true, true, true, true, true, true, true, true, true, true, true, true, true, true, true, true, true, true, true, true, true, true, true, true, false, true, true, false, false, false] hqp_ rfl (by kernel_rfl) (yv_load tab_ok c_gokF rfl rfl c_imp c_mem (fun _ => c_lds)) c_cl rfl rfl ?_
  refine gp_evG 35 #[true, true, true, true, true, true, true, true, true, true, true, true, true, true, true, true, true, true, true, true, true, true, true, true, true, true, true, true, true, true, true, true, true, true, true, true, true, true, false, false, false] rfl (by kernel_rfl) rfl rfl rfl c_gokF (ev_callq rfl rfl ent84 rfl rfl rfl (fun W hW => ct_CountF (m := m) _ (ObIn.of (Ko := FrPK gf (some gf2) ef2 cf2) hW c_so) hmf) ⟨c_cl, ?_⟩)
  refine gp_evG 38 #[true, true, true, true, true, true, true, true, true, true, true, true, true, true, true, true, true, true, true, true, true, true, true, true, true, true, true, true, true, true, true, true, true, true, true, true, true, true, true, false, false] rfl (by kernel_rfl) rfl rfl rfl c_gokF (ev_callq rfl rfl ent85 rfl rfl rfl (fun W hW => ct_CountR _ (ObIn.of (Ko := FrK gr q2 c2 r sp2) hW c_so) ho2 (by omega)) ⟨c_cl, ?_⟩)
  refine gp_take 39 #[true, true, true, true, true, true, true, true, true, true, true, true, true, true, true, true, true, true, true, true, true, true, true, true, true, true, true, true, true, true, true, true, true, true, true, true, true, true, true, true, false] hqp_ rfl (by kernel_rfl) (((yv_pure tab_ok c_gokF rfl rfl c_allT).cast (v' := .bool false) (by rw [hc1]; simp))) c_cl rfl rfl ?_
  refine gp_take 40 #[true, true, true, true, true, true, true, true, true, true, true, true, true, true, true, true, true, true, true, true, true, true, true, true, true, true, true, true, true, true, true, true, true, true, true, true, true, true, true, true, true] hqp_ rfl (by kernel_rfl) (yv_or c_gokF rfl rfl rfl c_imp c_imp2) c_cl rfl rfl ?_
  refine gp_done (by kernel_rfl) ?_; clear hqp_
  repeat' first
    | (refine gl_gate ?_; first
      | refine gl_nil ?_
      | (refine gl_add0 ?_; refine gl_yv (yv_add tab_ok (gok_none rfl) rfl rfl rfl rfl (fun _ => allT_of rfl) (by intro _; omega)) rfl rfl ?_)
      | (refine gl_any0 ?_; refine gl_pure tab_ok rfl rfl rfl rfl rfl rfl ?_))
    | (refine gc_gate ?_; first
      | refine gc_region ?_
      | refine gc_false rfl ?_
      | refine gc_skip ?_)
    | (refine ge_gate ?_; first
      | ((with_reducible refine ge_gT ?_); first | with_reducible refine ge_then ?_ | with_reducible refine ge_then_exit ?_ | with_reducible refine ge_then_ret ?_)
      | ((with_reducible refine ge_gK ?_); first | with_reducible refine ge_block ?_ | refine ge_block_exit ?_ | refine ge_block_pass rfl ?_ | with_reducible refine ge_block_ret ?_))
  refine ge_round (i + 1, (some gf2, ef2, cf2), (some go2, eo2, co2), (q2, c2, sp2)) ⟨by omega, ?_, hmo, ?_, hsm2⟩ (by show n - (i + 1) < n - i; omega) c_frs ?_
  · dsimp only
    rw [hm]
    exact hmf
  · dsimp only
    rw [hr]
    exact ho2
  · dsimp only
    rw [hr]
    exact sub_app (sub_app (List.Sublist.refl _))
theorem law_FrontPlays (W : World) {b0 b1 : Nat} {v0 v1 : Value} (o0 : Value.okWide Try.prog W .any b0 87 v0) (o1 : Value.okWide Try.prog W .any b1 38 v1)
    (r0 : ∃ m, Rd tab W m 87 v0.cells.toList) (r1 : ∃ m, Rd tab W m 38 v1.cells.toList) : Calls Try.prog 16 #[v0, v1] W fun e w' => e = .returned (.bool true) ∧ Bl W w' := by
  rw [arg_one tab_ok (t := 87) rfl rfl o0] at r0
  obtain ⟨cs, rfl⟩ := arg_struct tab_ok (t := 38) rfl o1
  obtain ⟨m0, r0⟩ := r0
  obtain ⟨m1, r1⟩ := r1
  obtain ⟨p, n, cap, l, h0, hn, hle, hcap, hs, _⟩ := rdFlat (f := Chg.l) r0 rfl rfl (by decide) fun _ _ h => rdAct h
  obtain ⟨s, h1, _⟩ := rdStamp r1
  have h1' : cs = s.l := by simpa [Value.cells] using h1
  subst h1'
  cases h0
  exact walk_FrontPlays l s p n cap hn (by omega) W hs
end Go.Proofs.Ytkgjfcjciigcgaa
