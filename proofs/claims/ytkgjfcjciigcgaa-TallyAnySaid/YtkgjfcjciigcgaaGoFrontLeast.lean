/-
  FrontLeast: of the least none is within another one, each counted one has one within it, and a stamp is passed just if none of the least is within it.
-/
import Derived.Test.YtkgjfcjciigcgaaGoFrontF
import Derived.Test.YtkgjfcjciigcgaaGoActs
namespace Go.Proofs.Ytkgjfcjciigcgaa
open Go.Proofs.Ytkgjfcjciigcgaa.Sl Go.RowKit
set_option linter.unusedVariables false
set_option linter.unusedSimpArgs false
set_option linter.unusedSectionVars false
set_option maxRecDepth 100000

theorem Yv.castQ {P : Program} {C : World → Prop} {l : List Oper} {N : Nat} {F : Fl} {o : Oper} {q : Bool} {v v' : Value} (h : Yv P C l N F o q v) (e : q = true → v = v') : Yv P C l N F o q v' := ⟨h.1, fun a hF hq w hw => e hq ▸ h.2 a hF hq w hw⟩
def accM (l : List Chg) : FM := l.foldl (fun m x => fadd m x.s x.n) []
theorem accM_take (l : List Chg) (i : Nat) (hi : i < l.length) : accM (l.take (i + 1)) = fadd (accM (l.take i)) (l.getD i default).s (l.getD i default).n := by
  unfold accM
  rw [take_succD _ _ hi, List.foldl_append]
  rfl
def small (x : Chg) : Prop := -1099511627776 ≤ x.n ∧ x.n ≤ 1099511627776
theorem accM_spec : ∀ (l : List Chg), (∀ x ∈ l, small x) → ((accM l).map (·.1)).Nodup ∧ (accM l).length ≤ l.length ∧ ∀ s, -((l.length : Int) * 1099511627776) ≤ mgetD (accM l) s 0 ∧ mgetD (accM l) s 0 ≤ (l.length : Int) * 1099511627776 := by
  have key : ∀ (l : List Chg) (m : FM) (n : Nat), (∀ x ∈ l, small x) → (m.map (·.1)).Nodup ∧ m.length ≤ n ∧ (∀ s, -((n : Int) * 1099511627776) ≤ mgetD m s 0 ∧ mgetD m s 0 ≤ (n : Int) * 1099511627776) → ((l.foldl (fun m x => fadd m x.s x.n) m).map (·.1)).Nodup ∧ (l.foldl (fun m x => fadd m x.s x.n) m).length ≤ n + l.length ∧ ∀ s, -(((n + l.length : Nat) : Int) * 1099511627776) ≤ mgetD (l.foldl (fun m x => fadd m x.s x.n) m) s 0 ∧ mgetD (l.foldl (fun m x => fadd m x.s x.n) m) s 0 ≤ ((n + l.length : Nat) : Int) * 1099511627776 := by
    intro l
    induction l with
    | nil => intro m n _ h; exact h
    | cons x r ih =>
      intro m n hs h
      obtain ⟨h1, h2, h3⟩ := h
      have := ih (fadd m x.s x.n) (n + 1) (fun y hy => hs y (List.mem_cons_of_mem _ hy)) ⟨mset_keysO h1, Nat.le_trans (mset_lenO _ _ _) (by omega), fun s => by
        have hx := hs x (List.mem_cons_self ..)
        unfold small at hx
        have h4 := h3 x.s
        have h5 := h3 s
        unfold fadd
        rw [mgetD_mset]
        split <;> omega⟩
      simp only [List.foldl_cons, List.length_cons]
      rw [show n + (r.length + 1) = n + 1 + r.length by omega]
      exact this
  intro l hl
  have := key l [] 0 hl ⟨List.nodup_nil, Nat.le_refl _, fun s => by simp [mgetD, fnd]⟩
  simpa [accM] using this
theorem least_pos {m : FM} (hk : (m.map (·.1)).Nodup) (i : Nat) (hi : i < (leastM m).length) : mgetD m ((leastM m).getD i default) 0 > 0 :=
  (aboveM_mem m hk _).1 ((leastM_mem m _).1 (getD_mem _ _ hi)).1
theorem least_lt {m : FM} (hk : (m.map (·.1)).Nodup) (i : Nat) (hi : i + 1 < (leastM m).length) : ltOf cSt ((leastM m).getD i default) ((leastM m).getD (i + 1) default) = true := by
  rw [ltS_iff, getD_get _ i (by omega), getD_get _ (i + 1) hi]
  exact List.pairwise_iff_getElem.1 (leastM_lt m hk) i (i + 1) (by omega) hi (by omega)
theorem least_not {m : FM} (hk : (m.map (·.1)).Nodup) (i k : Nat) (hi : i < (leastM m).length) (hkl : k < (leastM m).length) (hne : k ≠ i) : wi ((leastM m).getD k default) ((leastM m).getD i default) = false := by
  refine ((leastM_mem m _).1 (getD_mem _ _ hi)).2 _ ((leastM_mem m _).1 (getD_mem _ _ hkl)).1 fun e => ?_
  have hn := List.pairwise_iff_getElem.1 (tLt_nodup (leastM_lt m hk))
  rw [getD_get _ k hkl, getD_get _ i hi] at e
  rcases Nat.lt_or_ge k i with h | h
  · exact hn k i hkl hi h e
  · exact hn i k hi hkl (by omega) e.symm
theorem least_any {m : FM} (hk : (m.map (·.1)).Nodup) {s : Stamp} (h : mgetD m s 0 > 0) : (leastM m).any (fun x => wi x s) = true := by
  obtain ⟨x, hx, h1, h2⟩ := least_below _ s ((aboveM_mem m hk s).2 h)
  exact List.any_eq_true.2 ⟨x, (leastM_mem m x).2 ⟨hx, h2⟩, h1⟩
theorem all_snocT {l : List Stamp} {i : Nat} (hi : i < l.length) (f : Stamp → Bool) : (l.take (i + 1)).all f = ((l.take i).all f && f (l.getD i default)) := by
  rw [take_succD _ _ hi, List.all_append]
  simp
theorem any_snocT {l : List Stamp} {i : Nat} (hi : i < l.length) (f : Stamp → Bool) : (l.take (i + 1)).any f = ((l.take i).any f || f (l.getD i default)) := by
  rw [take_succD _ _ hi, List.any_append]
  simp
set_option maxHeartbeats 4000000 in
theorem walk_FrontLeast (l : List Chg) (s : Stamp) (p : Option Addr) (n cap : Nat) (hn : n = l.length) (hn9 : n ≤ 9223372036854775807) (w : World) (hs : SlA w 4 p n (fun i => (l.getD i default).l)) : Calls Try.prog 17 #[.slice p n cap, .agg s.l.toArray] w fun e w' => e = .returned (.bool true) ∧ Bl w w' := by
  refine enter (args := [_, _]) (M := []) (K := []) Try.func17 rfl Try.ntmps17 rfl (St.refl _ _) ?_
  repeat' first
    | (refine gl_gate ?_; first
      | refine gl_nil ?_
      | (refine gl_calv0 ?_; first | refine gl_yd (yd_call (gok_none rfl) rfl ent76 rfl rfl (fun _ => allT_of rfl) (fun _ W hW => ct_aliveF W)) rfl rfl ?_)
      | (refine gl_pick0 ?_; first | refine gl_yv (yv_and (gok_none rfl) rfl rfl rfl (fun _ => rfl) c_imp2) rfl rfl ?_ | refine gl_yv (yv_or (gok_none rfl) rfl rfl rfl (fun _ => rfl) c_imp2) rfl rfl ?_)
      | (refine gl_box0 ?_; first | (refine gl_box_agg rfl rfl rfl rfl rfl ?_; intro g_ hg_) | (refine gl_box_one rfl rfl rfl rfl rfl rfl ?_; intro g_ hg_) | (refine gl_box rfl rfl rfl rfl rfl ?_; intro g_ hg_))
      | (refine gl_any0 ?_; refine gl_pure tab_ok rfl rfl rfl rfl rfl rfl ?_)
      | (refine gl_anyG ?_; first | refine gl_yv (yv_pure tab_ok c_gok rfl rfl c_allT) rfl rfl ?_ | refine gl_yv (yv_indexS tab_ok c_gok rfl rfl rfl rfl c_imp c_imp (by intro hq_; (try simp only [Bool.and_eq_true, Bool.not_eq_true', Bool.not_eq_false', Bool.or_eq_false_iff, Bool.or_eq_true, decide_eq_true_eq, decide_eq_false_iff_not, Bool.true_and, Bool.and_true] at hq_); omega)) rfl rfl ?_ | refine gl_yv (yv_indexS (i := 0) tab_ok c_gok rfl rfl rfl rfl c_imp c_imp (by intro hq_; (try simp only [Bool.and_eq_true, Bool.not_eq_true', Bool.not_eq_false', Bool.or_eq_false_iff, Bool.or_eq_true, decide_eq_true_eq, decide_eq_false_iff_not, Bool.true_and, Bool.and_true] at hq_); omega)) rfl rfl ?_))
    | (refine gc_gate ?_; first
      | refine gc_seq ?_
      | refine gc_region ?_)
    | (refine ge_gate ?_; first
      | ((with_reducible refine ge_gT ?_); first | with_reducible refine ge_then ?_ | with_reducible refine ge_then_exit ?_ | with_reducible refine ge_then_ret ?_))
  (refine gc_cond rfl ?_ ?_ <;> intro h_ <;> have hd_ := h_ <;> (try simp only [bytes_beq, cell_beq, val_beq, stamp_beq, decide_eq_true_eq, decide_eq_false_iff_not, Bool.and_eq_true, Bool.or_eq_true, Bool.or_eq_false_iff, Bool.not_eq_true', Bool.not_eq_false', Bool.not_true, Bool.not_false, Bool.false_or, Bool.true_and, Bool.and_true, Bool.or_false, beq_iff_eq, bne_iff_ne, beq_eq_false_iff_ne, bne_eq_false_iff_eq, ne_eq, Bool.false_eq_true, reduceCtorEq] at hd_) <;> (try (exfalso; omega)))
  · repeat' first
      | (refine gl_gate ?_; first
        | refine gl_nil ?_
        | (refine gl_any0 ?_; refine gl_pure tab_ok rfl rfl rfl rfl rfl rfl ?_))
      | (refine gc_gate ?_; first
        | refine gc_seq ?_
        | refine gc_region ?_
        | refine gc_ret ?_)
      | (refine ge_gate ?_; first
        | ((with_reducible refine ge_gT ?_); first | with_reducible refine ge_then ?_ | with_reducible refine ge_then_exit ?_ | with_reducible refine ge_then_ret ?_)
        | ((with_reducible refine ge_gB ?_); first | refine ge_ret1 tab_ok rfl c_rvt ?_ | refine ge_end1 tab_ok rfl c_rvt ?_ | refine ge_ret2 tab_ok rfl c_rvt c_rvt ?_ | refine ge_ret_none rfl ?_ | refine ge_end_none rfl ?_))
    intro W hW
    exact ⟨rfl, hW.below0⟩
  have hn40 : n ≤ 40 := by simp at hd_; omega
  revert g_
  intro g3 hg3
  repeat' first
    | (refine gl_gate ?_; first
      | refine gl_nil ?_
      | (refine gl_box0 ?_; first | (refine gl_box_agg rfl rfl rfl rfl rfl ?_; intro g_ hg_) | (refine gl_box_one rfl rfl rfl rfl rfl rfl ?_; intro g_ hg_) | (refine gl_box rfl rfl rfl rfl rfl ?_; intro g_ hg_))
      | (refine gl_any0 ?_; refine gl_pure tab_ok rfl rfl rfl rfl rfl rfl ?_))
    | (refine gc_gate ?_; first
      | refine gc_seq ?_
      | refine gc_region ?_
      | refine gc_block ?_
      | refine gc_skip ?_)
    | (refine ge_gate ?_; first
      | ((with_reducible refine ge_gT ?_); first | with_reducible refine ge_then ?_ | with_reducible refine ge_then_exit ?_ | with_reducible refine ge_then_ret ?_))
  clear h_ hd_
  refine gc_loop (α := Nat × Option Nat × Array MapEntry × Nat) (fun x => [(0, true, .slice p n cap), (3, true, .pointer (some ⟨g3, 0, none⟩)), (6, true, .pointer (some ⟨g_, 0, none⟩)), (7, true, .int .i64 (x.1 : Int))])
    (fun x => FrPK g_ x.2.1 x.2.2.1 x.2.2.2 ++ [(g3, true, .cells s.l.toArray 38 (0, 0))]) (fun x => x.1 ≤ n ∧ FOk x.2.1 (accM (l.take x.1)) x.2.2.1 x.2.2.2 ∧ ∀ y ∈ l.take x.1, small y) (fun x => n - x.1) (0, none, #[], 0) c_frs (List.Sublist.refl _) ⟨Nat.zero_le _, rfl, fun y hy => by simp at hy⟩ ?_
  rintro ⟨i, mo, es, clock⟩ ⟨hi, hf, hsm⟩
  dsimp only at hi hf hsm ⊢
  obtain ⟨k1, k2, k3⟩ := accM_spec _ hsm
  rw [List.length_take, Nat.min_eq_left (by omega)] at k2 k3
  repeat' first
    | (refine gl_gate ?_; first
      | refine gl_nil ?_
      | (refine gl_any0 ?_; refine gl_pure tab_ok rfl rfl rfl rfl rfl rfl ?_))
    | (refine gc_gate ?_; first
      | refine gc_seq ?_
      | refine gc_region ?_)
    | (refine ge_gate ?_; first
      | ((with_reducible refine ge_gT ?_); first | with_reducible refine ge_then ?_ | with_reducible refine ge_then_exit ?_ | with_reducible refine ge_then_ret ?_))
  (refine gc_cond rfl ?_ ?_ <;> intro h_ <;> have hd_ := h_ <;> (try simp only [bytes_beq, cell_beq, val_beq, stamp_beq, decide_eq_true_eq, decide_eq_false_iff_not, Bool.and_eq_true, Bool.or_eq_true, Bool.or_eq_false_iff, Bool.not_eq_true', Bool.not_eq_false', Bool.not_true, Bool.not_false, Bool.false_or, Bool.true_and, Bool.and_true, Bool.or_false, beq_iff_eq, bne_iff_ne, beq_eq_false_iff_ne, bne_eq_false_iff_eq, ne_eq, Bool.false_eq_true, reduceCtorEq] at hd_) <;> (try (exfalso; omega)))
  · have hil : i < l.length := by omega
    have hnext := accM_take l i hil
    repeat' first
      | (refine gl_gate ?_; first
        | refine gl_nil ?_
        | (refine gl_idx0 ?_; refine gl_yv (yv_idxA tab_ok hs (gok_none rfl) rfl rfl rfl rfl rfl rfl (fun _ => rfl) (fun _ => rfl) c_bnd) rfl rfl ?_)
        | (refine gl_idxG ?_; refine gl_yv (yv_idxA tab_ok hs c_gok rfl rfl rfl rfl rfl rfl c_imp c_imp c_bnd) rfl rfl ?_)
        | (refine gl_load0 ?_; refine gl_yv (yv_ldA tab_ok hs c_nm (gok_none rfl) rfl rfl (fun _ => rfl) c_bnd (fun _ => c_lds)) rfl rfl ?_)
        | (refine gl_loadG ?_; refine gl_yv (yv_ldA tab_ok hs c_nm c_gok rfl rfl c_imp c_bnd (fun _ => c_lds)) rfl rfl ?_)
        | (refine gl_pick0 ?_; first | refine gl_yv (yv_and (gok_none rfl) rfl rfl rfl (fun _ => rfl) c_imp2) rfl rfl ?_ | refine gl_yv (yv_or (gok_none rfl) rfl rfl rfl (fun _ => rfl) c_imp2) rfl rfl ?_)
        | (refine gl_any0 ?_; refine gl_pure tab_ok rfl rfl rfl rfl rfl rfl ?_)
        | (refine gl_anyG ?_; first | refine gl_yv (yv_pure tab_ok c_gok rfl rfl c_allT) rfl rfl ?_ | refine gl_yv (yv_indexS tab_ok c_gok rfl rfl rfl rfl c_imp c_imp (by intro hq_; (try simp only [Bool.and_eq_true, Bool.not_eq_true', Bool.not_eq_false', Bool.or_eq_false_iff, Bool.or_eq_true, decide_eq_true_eq, decide_eq_false_iff_not, Bool.true_and, Bool.and_true] at hq_); omega)) rfl rfl ?_ | refine gl_yv (yv_indexS (i := 0) tab_ok c_gok rfl rfl rfl rfl c_imp c_imp (by intro hq_; (try simp only [Bool.and_eq_true, Bool.not_eq_true', Bool.not_eq_false', Bool.or_eq_false_iff, Bool.or_eq_true, decide_eq_true_eq, decide_eq_false_iff_not, Bool.true_and, Bool.and_true] at hq_); omega)) rfl rfl ?_))
      | (refine gc_gate ?_; first
        | refine gc_seq ?_
        | refine gc_region ?_
        | refine gc_block ?_
        | refine gc_skip ?_)
      | (refine ge_gate ?_; first
        | ((with_reducible refine ge_gT ?_); first | with_reducible refine ge_then ?_ | with_reducible refine ge_then_exit ?_ | with_reducible refine ge_then_ret ?_))
    (refine gc_cond rfl ?_ ?_ <;> intro h_ <;> have hd_ := h_ <;> (try simp only [bytes_beq, cell_beq, val_beq, stamp_beq, decide_eq_true_eq, decide_eq_false_iff_not, Bool.and_eq_true, Bool.or_eq_true, Bool.or_eq_false_iff, Bool.not_eq_true', Bool.not_eq_false', Bool.not_true, Bool.not_false, Bool.false_or, Bool.true_and, Bool.and_true, Bool.or_false, beq_iff_eq, bne_iff_ne, beq_eq_false_iff_ne, bne_eq_false_iff_eq, ne_eq, Bool.false_eq_true, reduceCtorEq] at hd_) <;> (try (exfalso; omega)))
    · repeat' first
        | (refine gl_gate ?_; first
          | refine gl_nil ?_
          | (refine gl_any0 ?_; refine gl_pure tab_ok rfl rfl rfl rfl rfl rfl ?_))
        | (refine gc_gate ?_; first
          | refine gc_seq ?_
          | refine gc_region ?_
          | refine gc_ret ?_)
        | (refine ge_gate ?_; first
          | ((with_reducible refine ge_gT ?_); first | with_reducible refine ge_then ?_ | with_reducible refine ge_then_exit ?_ | with_reducible refine ge_then_ret ?_)
          | ((with_reducible refine ge_gK ?_); first | with_reducible refine ge_block ?_ | refine ge_block_exit ?_ | refine ge_block_pass rfl ?_ | with_reducible refine ge_block_ret ?_)
          | ((with_reducible refine ge_gB ?_); first | refine ge_ret1 tab_ok rfl c_rvt ?_ | refine ge_end1 tab_ok rfl c_rvt ?_ | refine ge_ret2 tab_ok rfl c_rvt c_rvt ?_ | refine ge_ret_none rfl ?_ | refine ge_end_none rfl ?_))
      intro W hW
      exact ⟨rfl, hW.below0⟩
    have hx : small (l.getD i default) := by unfold small; omega
    have h3 := k3 (l.getD i default).s
    repeat' first
      | (refine gc_gate ?_; first
        | refine gc_skip ?_)
      | (refine ge_gate ?_; first
        | ((with_reducible refine ge_gT ?_); first | with_reducible refine ge_then ?_ | with_reducible refine ge_then_exit ?_ | with_reducible refine ge_then_ret ?_))
    refine gp_start [11] #[false, false, false, false, false, false, false, false, false, false, false, false] mixed rfl rfl c_qp ?_; intro hqp_
    refine gp_take 0 #[true, false, false, false, false, false, false, false, false, false, false, false] hqp_ rfl (by kernel_rfl) (yv_pure tab_ok c_gok rfl rfl c_allT) c_cl rfl rfl ?_
    refine gp_take 1 #[true, true, false, false, false, false, false, false, false, false, false, false] hqp_ rfl (by kernel_rfl) (yv_pure tab_ok c_gok rfl rfl c_allT) c_cl rfl rfl ?_
    refine gp_take 2 #[true, true, true, false, false, false, false, false, false, false, false, false] hqp_ rfl (by kernel_rfl) (yv_pure tab_ok c_gok rfl rfl c_allT) c_cl rfl rfl ?_
    refine gp_take 3 #[true, true, true, true, false, false, false, false, false, false, false, false] hqp_ rfl (by kernel_rfl) (yv_idxA tab_ok hs c_gok rfl rfl rfl rfl rfl rfl c_imp c_imp c_bnd) c_cl rfl rfl ?_
    refine gp_take 4 #[true, true, true, true, true, false, false, false, false, false, false, false] hqp_ rfl (by kernel_rfl) (yv_pure tab_ok c_gok rfl rfl c_allT) c_cl rfl rfl ?_
    refine gp_take 5 #[true, true, true, true, true, true, false, false, false, false, false, false] hqp_ rfl (by kernel_rfl) (yv_ldA tab_ok hs c_nm c_gok rfl rfl c_imp c_bnd (fun _ => c_lds)) c_cl rfl rfl ?_
    refine gp_take 6 #[true, true, true, true, true, true, true, false, false, false, false, false] hqp_ rfl (by kernel_rfl) (yv_pure tab_ok c_gok rfl rfl c_allT) c_cl rfl rfl ?_
    refine gp_take 7 #[true, true, true, true, true, true, true, true, false, false, false, false] hqp_ rfl (by kernel_rfl) (yv_pure tab_ok c_gok rfl rfl c_allT) c_cl rfl rfl ?_
    refine gp_take 8 #[true, true, true, true, true, true, true, true, true, false, false, false] hqp_ rfl (by kernel_rfl) (yv_idxA tab_ok hs c_gok rfl rfl rfl rfl rfl rfl c_imp c_imp c_bnd) c_cl rfl rfl ?_
    refine gp_take 9 #[true, true, true, true, true, true, true, true, true, true, false, false] hqp_ rfl (by kernel_rfl) (yv_pure tab_ok c_gok rfl rfl c_allT) c_cl rfl rfl ?_
    refine gp_take 10 #[true, true, true, true, true, true, true, true, true, true, true, false] hqp_ rfl (by kernel_rfl) (yv_ldA tab_ok hs c_nm c_gok rfl rfl c_imp c_bnd (fun _ => c_lds)) c_cl rfl rfl ?_
    refine gp_last 11 #[true, true, true, true, true, true, true, true, true, true, true, true] rfl (by kernel_rfl) (by simp) rfl rfl (ev_addF (g := g_) (mo := mo) (m := accM (l.take i)) (es := es) (clock := clock) (s := (l.getD i default).s) (n := (l.getD i default).n) rfl rfl rfl rfl rfl (List.Perm.refl _) hf (by unfold In64; unfold small at hx; omega) (fun gm es' clock' hm => ?_))
    refine gp_done (by kernel_rfl) ?_; clear hqp_
    repeat' first
      | (refine gl_gate ?_; first
        | refine gl_nil ?_
        | (refine gl_add0 ?_; refine gl_yv (yv_add tab_ok (gok_none rfl) rfl rfl rfl rfl (fun _ => allT_of rfl) (by intro _; omega)) rfl rfl ?_)
        | (refine gl_any0 ?_; refine gl_pure tab_ok rfl rfl rfl rfl rfl rfl ?_))
      | (refine gc_gate ?_; first
        | refine gc_region ?_)
      | (refine ge_gate ?_; first
        | ((with_reducible refine ge_gT ?_); first | with_reducible refine ge_then ?_ | with_reducible refine ge_then_exit ?_ | with_reducible refine ge_then_ret ?_)
        | ((with_reducible refine ge_gK ?_); first | with_reducible refine ge_block ?_ | refine ge_block_exit ?_ | refine ge_block_pass rfl ?_ | with_reducible refine ge_block_ret ?_))
    refine ge_round (i + 1, some gm, es', clock') ⟨by omega, ?_, ?_⟩ (by show n - (i + 1) < n - i; omega) c_frs (List.Sublist.refl _)
    · dsimp only
      rw [hnext]
      exact hm
    · intro y hy
      dsimp only at hy
      rw [take_succD _ _ hil, List.mem_append, List.mem_singleton] at hy
      rcases hy with hy | rfl
      · exact hsm y hy
      · exact hx
  have hin : i = l.length := by omega
  rw [hin, List.take_length] at hf hsm k1 k2 k3
  clear h_ hd_
  have hm100 : (accM l).length ≤ 100000000 := by omega
  have f1 := fun i hi => least_pos k1 i hi
  have f2 := fun i hi => least_lt k1 i hi
  have f3 := fun i k hi hk hne => least_not k1 i k hi hk hne
  have f4 := fun s h => least_any (s := s) k1 h
  have f5 := passedM_least (accM l) s
  have hLl : (leastM (accM l)).length ≤ 40 := Nat.le_trans (Nat.le_trans (List.length_filter_le ..) (aboveM_len _)) (by omega)
  repeat' first
    | (refine gl_gate ?_; first
      | refine gl_nil ?_
      | (refine gl_any0 ?_; (refine gl_ev (ev_callOw rfl rfl ent80 rfl rfl rfl (fun W hW => ct_LeastF (g := g_) (ObIn.of hW (List.sublist_append_left _ _)) hf hm100) ?_) rfl rfl; intro p8 c8 sp8 hw8))
      | (refine gl_any0 ?_; refine gl_pure tab_ok rfl rfl rfl rfl rfl rfl ?_))
    | (refine gc_gate ?_; first
      | refine gc_seq ?_
      | refine gc_region ?_
      | refine gc_block ?_
      | refine gc_exit ?_)
    | (refine ge_gate ?_; first
      | ((with_reducible refine ge_gT ?_); first | with_reducible refine ge_then ?_ | with_reducible refine ge_then_exit ?_ | with_reducible refine ge_then_ret ?_)
      | ((with_reducible refine ge_gK ?_); first | with_reducible refine ge_block ?_ | refine ge_block_exit ?_ | refine ge_block_pass rfl ?_ | with_reducible refine ge_block_ret ?_))
  generalize hL : leastM (accM l) = L at *
  refine gc_loop (α := Nat) (fun i => [(0, true, .slice p n cap), (3, true, .pointer (some ⟨g3, 0, none⟩)), (6, true, .pointer (some ⟨g_, 0, none⟩)), (8, true, .slice (p8.map ad) L.length c8), (9, true, .bool ((L.take i).all fun x => !wi x s)), (10, true, .int .i64 (i : Int))])
    (fun _ => ow p8 true (cat Stamp.l L ++ sp8) 38 ++ (FrPK g_ mo es clock ++ [(g3, true, .cells s.l.toArray 38 (0, 0))])) (fun i => i ≤ L.length) (fun i => L.length - i) 0 c_frs (List.Sublist.refl _) (Nat.zero_le _) ?_
  · intro i hi
    repeat' first
      | (refine gl_gate ?_; first
        | refine gl_nil ?_
        | (refine gl_any0 ?_; refine gl_pure tab_ok rfl rfl rfl rfl rfl rfl ?_))
      | (refine gc_gate ?_; first
        | refine gc_seq ?_
        | refine gc_region ?_)
      | (refine ge_gate ?_; first
        | ((with_reducible refine ge_gT ?_); first | with_reducible refine ge_then ?_ | with_reducible refine ge_then_exit ?_ | with_reducible refine ge_then_ret ?_))
    (refine gc_cond rfl ?_ ?_ <;> intro h_ <;> have hd_ := h_ <;> (try simp only [bytes_beq, cell_beq, val_beq, stamp_beq, decide_eq_true_eq, decide_eq_false_iff_not, Bool.and_eq_true, Bool.or_eq_true, Bool.or_eq_false_iff, Bool.not_eq_true', Bool.not_eq_false', Bool.not_true, Bool.not_false, Bool.false_or, Bool.true_and, Bool.and_true, Bool.or_false, beq_iff_eq, bne_iff_ne, beq_eq_false_iff_ne, bne_eq_false_iff_eq, ne_eq, Bool.false_eq_true, reduceCtorEq] at hd_) <;> (try (exfalso; omega)))
    · have hil : i < L.length := by omega
      have g1 := f1 i hil
      repeat' first
        | (refine gq_subG ?_; refine gq_yv (Yv.castQ (yv_sub tab_ok c_gok rfl rfl rfl rfl c_allT c_bnd) (v' := .int .i64 ((i - 1 : Nat) : Int)) (by intro hq_; simp only [Bool.and_eq_true, decide_eq_true_eq] at hq_; congr 1; omega)) rfl rfl ?_)
        | (refine gq_idx0 ?_; refine gq_yv (yv_idxO tab_ok hw8 (gok_none rfl) rfl rfl rfl rfl rfl rfl (fun _ => rfl) (fun _ => rfl) c_bnd) rfl rfl ?_)
        | (refine gq_load0 ?_; refine gq_yv (yv_ldO tab_ok c_oa hw8 (gok_none rfl) rfl rfl (fun _ => rfl) (fun _ => lds_cat len_stamp (by omega) rfl rfl rfl) c_bnd) rfl rfl ?_)
        | (refine gq_idxG ?_; refine gq_yv (yv_idxO tab_ok hw8 c_gok rfl rfl rfl rfl rfl rfl c_imp c_imp (fun _ => by omega)) rfl rfl ?_)
        | (refine gq_loadG ?_; refine gq_yv (yv_ldO tab_ok c_oa hw8 c_gok rfl rfl c_imp (fun hq_ => lds_cat len_stamp (by omega) rfl rfl rfl) (fun _ => by omega)) rfl rfl ?_)
        | (refine gc_gate ?_; first
          | refine gc_seq ?_
          | refine gc_quietRo rfl mixed (by decide +kernel) ?_
          | refine gc_block ?_
          | refine gc_skip ?_)
        | (refine ge_gate ?_; first
          | ((with_reducible refine ge_gT ?_); first | with_reducible refine ge_then ?_ | with_reducible refine ge_then_exit ?_ | with_reducible refine ge_then_ret ?_))
        | (refine gq_gate ?_; first
          | refine gq_nil ?_
          | (refine gq_calv0 ?_; first | refine gq_yd (yd_call (gok_none rfl) rfl ent84 rfl rfl (fun _ => allT_of rfl) (fun _ W hW => ct_CountF (m := accM l) (L.getD i default) (ObIn.of (Ko := FrPK g_ mo es clock) hW (sub_app (List.sublist_append_left _ _))) hf)) rfl rfl ?_ | refine gq_yd (yd_call (gok_none rfl) rfl ent86 rfl rfl (fun _ => allT_of rfl) (fun _ W hW => ct_LessStampR (L.getD (i - 1) default) (L.getD i default) W)) rfl rfl ?_)
          | (refine gq_calvG ?_; first | refine gq_yd (yd_call c_gok rfl ent84 rfl rfl c_allT (fun _ W hW => ct_CountF (m := accM l) (L.getD i default) (ObIn.of (Ko := FrPK g_ mo es clock) hW (sub_app (List.sublist_append_left _ _))) hf)) rfl rfl ?_ | refine gq_yd (yd_call c_gok rfl ent86 rfl rfl c_allT (fun _ W hW => ct_LessStampR (L.getD (i - 1) default) (L.getD i default) W)) rfl rfl ?_)
          | (refine gq_pick0 ?_; first | refine gq_yv (yv_and (gok_none rfl) rfl rfl rfl (fun _ => rfl) c_imp2) rfl rfl ?_ | refine gq_yv (yv_or (gok_none rfl) rfl rfl rfl (fun _ => rfl) c_imp2) rfl rfl ?_)
          | (refine gq_pickG ?_; first | refine gq_yv (yv_and c_gok rfl rfl rfl c_imp c_imp2) rfl rfl ?_ | refine gq_yv (yv_or c_gok rfl rfl rfl c_imp c_imp2) rfl rfl ?_)
          | (refine gq_any0 ?_; refine gq_pure tab_ok rfl rfl rfl rfl rfl rfl ?_)
          | (refine gq_anyG ?_; first | refine gq_yv (yv_pure tab_ok c_gok rfl rfl c_allT) rfl rfl ?_ | refine gq_yv (yv_indexS tab_ok c_gok rfl rfl rfl rfl c_imp c_imp (by intro hq_; (try simp only [Bool.and_eq_true, Bool.not_eq_true', Bool.not_eq_false', Bool.or_eq_false_iff, Bool.or_eq_true, decide_eq_true_eq, decide_eq_false_iff_not, Bool.true_and, Bool.and_true] at hq_); omega)) rfl rfl ?_ | refine gq_yv (yv_indexS (i := 0) tab_ok c_gok rfl rfl rfl rfl c_imp c_imp (by intro hq_; (try simp only [Bool.and_eq_true, Bool.not_eq_true', Bool.not_eq_false', Bool.or_eq_false_iff, Bool.or_eq_true, decide_eq_true_eq, decide_eq_false_iff_not, Bool.true_and, Bool.and_true] at hq_); omega)) rfl rfl ?_))
      (refine gc_cond rfl ?_ ?_ <;> intro h_ <;> have hd_ := h_ <;> (try simp only [bytes_beq, cell_beq, val_beq, stamp_beq, decide_eq_true_eq, decide_eq_false_iff_not, Bool.and_eq_true, Bool.or_eq_true, Bool.or_eq_false_iff, Bool.not_eq_true', Bool.not_eq_false', Bool.not_true, Bool.not_false, Bool.false_or, Bool.true_and, Bool.and_true, Bool.or_false, beq_iff_eq, bne_iff_ne, beq_eq_false_iff_ne, bne_eq_false_iff_eq, ne_eq, Bool.false_eq_true, reduceCtorEq] at hd_) <;> (try (exfalso; omega)))
      · exfalso
        rcases hd_ with h | ⟨h1, h2⟩
        · omega
        · have := f2 (i - 1) (by omega)
          rw [show i - 1 + 1 = i by omega] at this
          rw [this] at h2
          cases h2
      repeat' first
        | (refine gl_gate ?_; first
          | refine gl_nil ?_
          | (refine gl_any0 ?_; refine gl_pure tab_ok rfl rfl rfl rfl rfl rfl ?_))
        | (refine gc_gate ?_; first
          | refine gc_seq ?_
          | refine gc_region ?_
          | refine gc_block ?_
          | refine gc_skip ?_)
        | (refine ge_gate ?_; first
          | ((with_reducible refine ge_gT ?_); first | with_reducible refine ge_then ?_ | with_reducible refine ge_then_exit ?_ | with_reducible refine ge_then_ret ?_))
      refine gc_loop (α := Nat) (fun k => [(0, true, .slice p n cap), (3, true, .pointer (some ⟨g3, 0, none⟩)), (6, true, .pointer (some ⟨g_, 0, none⟩)), (8, true, .slice (p8.map ad) L.length c8), (9, true, .bool ((L.take i).all fun x => !wi x s)), (10, true, .int .i64 (i : Int)), (11, true, .int .i64 (k : Int))])
        (fun _ => ow p8 true (cat Stamp.l L ++ sp8) 38 ++ (FrPK g_ mo es clock ++ [(g3, true, .cells s.l.toArray 38 (0, 0))])) (fun k => k ≤ L.length) (fun k => L.length - k) 0 c_frs (List.Sublist.refl _) (Nat.zero_le _) ?_
      clear h_ hd_
      intro k hk
      repeat' first
        | (refine gl_gate ?_; first
          | refine gl_nil ?_
          | (refine gl_any0 ?_; refine gl_pure tab_ok rfl rfl rfl rfl rfl rfl ?_))
        | (refine gc_gate ?_; first
          | refine gc_seq ?_
          | refine gc_region ?_)
        | (refine ge_gate ?_; first
          | ((with_reducible refine ge_gT ?_); first | with_reducible refine ge_then ?_ | with_reducible refine ge_then_exit ?_ | with_reducible refine ge_then_ret ?_))
      (refine gc_cond rfl ?_ ?_ <;> intro h_ <;> have hd_ := h_ <;> (try simp only [bytes_beq, cell_beq, val_beq, stamp_beq, decide_eq_true_eq, decide_eq_false_iff_not, Bool.and_eq_true, Bool.or_eq_true, Bool.or_eq_false_iff, Bool.not_eq_true', Bool.not_eq_false', Bool.not_true, Bool.not_false, Bool.false_or, Bool.true_and, Bool.and_true, Bool.or_false, beq_iff_eq, bne_iff_ne, beq_eq_false_iff_ne, bne_eq_false_iff_eq, ne_eq, Bool.false_eq_true, reduceCtorEq] at hd_) <;> (try (exfalso; omega)))
      · repeat' first
          | (refine gq_idxG ?_; refine gq_yv (yv_idxO tab_ok hw8 c_gok rfl rfl rfl rfl rfl rfl c_imp c_imp (fun _ => by omega)) rfl rfl ?_)
          | (refine gq_loadG ?_; refine gq_yv (yv_ldO tab_ok c_oa hw8 c_gok rfl rfl c_imp (fun hq_ => lds_cat len_stamp (by omega) rfl rfl rfl) (fun _ => by omega)) rfl rfl ?_)
          | (refine gc_gate ?_; first
            | refine gc_seq ?_
            | refine gc_quietRo rfl mixed (by decide +kernel) ?_
            | refine gc_block ?_
            | refine gc_skip ?_)
          | (refine ge_gate ?_; first
            | ((with_reducible refine ge_gT ?_); first | with_reducible refine ge_then ?_ | with_reducible refine ge_then_exit ?_ | with_reducible refine ge_then_ret ?_))
          | (refine gq_gate ?_; first
            | refine gq_nil ?_
            | (refine gq_calvG ?_; first | refine gq_yd (yd_call c_gok rfl ent87 rfl rfl c_allT (fun _ W hW => ct_WithinR (L.getD k default) (L.getD i default) W)) rfl rfl ?_)
            | (refine gq_pick0 ?_; first | refine gq_yv (yv_and (gok_none rfl) rfl rfl rfl (fun _ => rfl) c_imp2) rfl rfl ?_ | refine gq_yv (yv_or (gok_none rfl) rfl rfl rfl (fun _ => rfl) c_imp2) rfl rfl ?_)
            | (refine gq_any0 ?_; refine gq_pure tab_ok rfl rfl rfl rfl rfl rfl ?_)
            | (refine gq_anyG ?_; first | refine gq_yv (yv_pure tab_ok c_gok rfl rfl c_allT) rfl rfl ?_ | refine gq_yv (yv_indexS tab_ok c_gok rfl rfl rfl rfl c_imp c_imp (by intro hq_; (try simp only [Bool.and_eq_true, Bool.not_eq_true', Bool.not_eq_false', Bool.or_eq_false_iff, Bool.or_eq_true, decide_eq_true_eq, decide_eq_false_iff_not, Bool.true_and, Bool.and_true] at hq_); omega)) rfl rfl ?_ | refine gq_yv (yv_indexS (i := 0) tab_ok c_gok rfl rfl rfl rfl c_imp c_imp (by intro hq_; (try simp only [Bool.and_eq_true, Bool.not_eq_true', Bool.not_eq_false', Bool.or_eq_false_iff, Bool.or_eq_true, decide_eq_true_eq, decide_eq_false_iff_not, Bool.true_and, Bool.and_true] at hq_); omega)) rfl rfl ?_))
        (refine gc_cond rfl ?_ ?_ <;> intro h_ <;> have hd_ := h_ <;> (try simp only [bytes_beq, cell_beq, val_beq, stamp_beq, decide_eq_true_eq, decide_eq_false_iff_not, Bool.and_eq_true, Bool.or_eq_true, Bool.or_eq_false_iff, Bool.not_eq_true', Bool.not_eq_false', Bool.not_true, Bool.not_false, Bool.false_or, Bool.true_and, Bool.and_true, Bool.or_false, beq_iff_eq, bne_iff_ne, beq_eq_false_iff_ne, bne_eq_false_iff_eq, ne_eq, Bool.false_eq_true, reduceCtorEq] at hd_) <;> (try (exfalso; omega)))
        · exfalso
          have h1 := f3 i k hil (by omega) (by intro e; subst e; simp at hd_)
          rw [h1] at h_
          simp at h_
        · repeat' first
            | (refine gl_gate ?_; first
              | refine gl_nil ?_
              | (refine gl_add0 ?_; refine gl_yv (yv_add tab_ok (gok_none rfl) rfl rfl rfl rfl (fun _ => allT_of rfl) (by intro _; omega)) rfl rfl ?_)
              | (refine gl_any0 ?_; refine gl_pure tab_ok rfl rfl rfl rfl rfl rfl ?_))
            | (refine gc_gate ?_; first
              | refine gc_region ?_
              | refine gc_skip ?_)
            | (refine ge_gate ?_; first
              | ((with_reducible refine ge_gT ?_); first | with_reducible refine ge_then ?_ | with_reducible refine ge_then_exit ?_ | with_reducible refine ge_then_ret ?_)
              | ((with_reducible refine ge_gK ?_); first | with_reducible refine ge_block ?_ | refine ge_block_exit ?_ | refine ge_block_pass rfl ?_ | with_reducible refine ge_block_ret ?_))
          exact ge_round (k + 1) (by omega) (by omega) c_frs (List.Sublist.refl _)
      · repeat' first
          | (refine gc_gate ?_; first
            | refine gc_exit ?_)
          | (refine ge_gate ?_; first
            | ((with_reducible refine ge_gT ?_); first | with_reducible refine ge_then ?_ | with_reducible refine ge_then_exit ?_ | with_reducible refine ge_then_ret ?_)
            | ((with_reducible refine ge_gK ?_); first | with_reducible refine ge_block ?_ | refine ge_block_exit ?_ | refine ge_block_pass rfl ?_ | with_reducible refine ge_block_ret ?_))
        have hst := all_snocT hil (fun x => !wi x s)
        repeat' first
          | (refine gq_idxG ?_; refine gq_yv (yv_idxO tab_ok hw8 c_gok rfl rfl rfl rfl rfl rfl c_imp c_imp (fun _ => by omega)) rfl rfl ?_)
          | (refine gq_loadG ?_; refine gq_yv (yv_ldO tab_ok c_oa hw8 c_gok rfl rfl c_imp (fun hq_ => lds_cat len_stamp (by omega) rfl rfl rfl) (fun _ => by omega)) rfl rfl ?_)
          | (refine gl_gate ?_; first
            | refine gl_nil ?_
            | (refine gl_add0 ?_; refine gl_yv (yv_add tab_ok (gok_none rfl) rfl rfl rfl rfl (fun _ => allT_of rfl) (by intro _; omega)) rfl rfl ?_)
            | (refine gl_any0 ?_; refine gl_pure tab_ok rfl rfl rfl rfl rfl rfl ?_))
          | (refine gc_gate ?_; first
            | refine gc_region ?_
            | refine gc_quietRo rfl mixed (by decide +kernel) ?_)
          | (refine ge_gate ?_; first
            | ((with_reducible refine ge_gT ?_); first | with_reducible refine ge_then ?_ | with_reducible refine ge_then_exit ?_ | with_reducible refine ge_then_ret ?_)
            | ((with_reducible refine ge_gK ?_); first | with_reducible refine ge_block ?_ | refine ge_block_exit ?_ | refine ge_block_pass rfl ?_ | with_reducible refine ge_block_ret ?_))
          | (refine gq_gate ?_; first
            | refine gq_nil ?_
            | (refine gq_calvG ?_; first | refine gq_yd (yd_call c_gok rfl ent87 rfl rfl c_allT (fun _ W hW => ct_WithinR (L.getD i default) s W)) rfl rfl ?_)
            | (refine gq_pick0 ?_; first | refine gq_yv (yv_and (gok_none rfl) rfl rfl rfl (fun _ => rfl) c_imp2) rfl rfl ?_ | refine gq_yv (yv_or (gok_none rfl) rfl rfl rfl (fun _ => rfl) c_imp2) rfl rfl ?_)
            | (refine gq_loadG ?_; refine gq_yv (yv_load tab_ok c_gok rfl rfl c_imp c_mem (fun _ => c_lds)) rfl rfl ?_)
            | (refine gq_any0 ?_; refine gq_pure tab_ok rfl rfl rfl rfl rfl rfl ?_)
            | (refine gq_anyG ?_; first | refine gq_yv (yv_pure tab_ok c_gok rfl rfl c_allT) rfl rfl ?_ | refine gq_yv (yv_indexS tab_ok c_gok rfl rfl rfl rfl c_imp c_imp (by intro hq_; (try simp only [Bool.and_eq_true, Bool.not_eq_true', Bool.not_eq_false', Bool.or_eq_false_iff, Bool.or_eq_true, decide_eq_true_eq, decide_eq_false_iff_not, Bool.true_and, Bool.and_true] at hq_); omega)) rfl rfl ?_ | refine gq_yv (yv_indexS (i := 0) tab_ok c_gok rfl rfl rfl rfl c_imp c_imp (by intro hq_; (try simp only [Bool.and_eq_true, Bool.not_eq_true', Bool.not_eq_false', Bool.or_eq_false_iff, Bool.or_eq_true, decide_eq_true_eq, decide_eq_false_iff_not, Bool.true_and, Bool.and_true] at hq_); omega)) rfl rfl ?_))
        refine ge_round (i + 1) (by omega) (by omega) ?_ (List.Sublist.refl _)
        rw [hst]
        exact c_frs
    · have hi2 : i = L.length := by omega
      rw [hi2, List.take_length, ← f5]
      repeat' first
        | (refine gl_gate ?_; first
          | refine gl_nil ?_
          | (refine gl_any0 ?_; refine gl_pure tab_ok rfl rfl rfl rfl rfl rfl ?_))
        | (refine gc_gate ?_; first
          | refine gc_seq ?_
          | refine gc_region ?_
          | refine gc_block ?_
          | refine gc_exit ?_)
        | (refine ge_gate ?_; first
          | ((with_reducible refine ge_gT ?_); first | with_reducible refine ge_then ?_ | with_reducible refine ge_then_exit ?_ | with_reducible refine ge_then_ret ?_)
          | ((with_reducible refine ge_gK ?_); first | with_reducible refine ge_block ?_ | refine ge_block_exit ?_ | refine ge_block_pass rfl ?_ | with_reducible refine ge_block_ret ?_))
      refine gc_loop (α := Nat) (fun j => [(0, true, .slice p n cap), (3, true, .pointer (some ⟨g3, 0, none⟩)), (6, true, .pointer (some ⟨g_, 0, none⟩)), (8, true, .slice (p8.map ad) L.length c8), (9, true, .bool (passedM (accM l) s)), (12, true, .int .i64 (j : Int))])
        (fun _ => ow p8 true (cat Stamp.l L ++ sp8) 38 ++ (FrPK g_ mo es clock ++ [(g3, true, .cells s.l.toArray 38 (0, 0))])) (fun j => j ≤ n) (fun j => n - j) 0 c_frs (List.Sublist.refl _) (Nat.zero_le _) ?_
      clear h_ hd_
      intro j hj
      repeat' first
        | (refine gl_gate ?_; first
          | refine gl_nil ?_
          | (refine gl_any0 ?_; refine gl_pure tab_ok rfl rfl rfl rfl rfl rfl ?_))
        | (refine gc_gate ?_; first
          | refine gc_seq ?_
          | refine gc_region ?_)
        | (refine ge_gate ?_; first
          | ((with_reducible refine ge_gT ?_); first | with_reducible refine ge_then ?_ | with_reducible refine ge_then_exit ?_ | with_reducible refine ge_then_ret ?_))
      (refine gc_cond rfl ?_ ?_ <;> intro h_ <;> have hd_ := h_ <;> (try simp only [bytes_beq, cell_beq, val_beq, stamp_beq, decide_eq_true_eq, decide_eq_false_iff_not, Bool.and_eq_true, Bool.or_eq_true, Bool.or_eq_false_iff, Bool.not_eq_true', Bool.not_eq_false', Bool.not_true, Bool.not_false, Bool.false_or, Bool.true_and, Bool.and_true, Bool.or_false, beq_iff_eq, bne_iff_ne, beq_eq_false_iff_ne, bne_eq_false_iff_eq, ne_eq, Bool.false_eq_true, reduceCtorEq] at hd_) <;> (try (exfalso; omega)))
      · have hjl : j < l.length := by omega
        repeat' first
          | (refine gl_gate ?_; first
            | refine gl_nil ?_
            | (refine gl_idx0 ?_; refine gl_yv (yv_idxA tab_ok hs (gok_none rfl) rfl rfl rfl rfl rfl rfl (fun _ => rfl) (fun _ => rfl) c_bnd) rfl rfl ?_)
            | (refine gl_load0 ?_; refine gl_yv (yv_ldA tab_ok hs c_nm (gok_none rfl) rfl rfl (fun _ => rfl) c_bnd (fun _ => c_lds)) rfl rfl ?_)
            | (refine gl_calv0 ?_; first | refine gl_yd (yd_call (gok_none rfl) rfl ent84 rfl rfl (fun _ => allT_of rfl) (fun _ W hW => ct_CountF (m := accM l) (l.getD j default).s (ObIn.of (Ko := FrPK g_ mo es clock) hW (sub_app (List.sublist_append_left _ _))) hf)) rfl rfl ?_)
            | (refine gl_any0 ?_; refine gl_pure tab_ok rfl rfl rfl rfl rfl rfl ?_))
          | (refine gc_gate ?_; first
            | refine gc_seq ?_
            | refine gc_region ?_
            | refine gc_block ?_
            | refine gc_skip ?_)
          | (refine ge_gate ?_; first
            | ((with_reducible refine ge_gT ?_); first | with_reducible refine ge_then ?_ | with_reducible refine ge_then_exit ?_ | with_reducible refine ge_then_ret ?_))
        (refine gc_cond rfl ?_ ?_ <;> intro h_ <;> have hd_ := h_ <;> (try simp only [bytes_beq, cell_beq, val_beq, stamp_beq, decide_eq_true_eq, decide_eq_false_iff_not, Bool.and_eq_true, Bool.or_eq_true, Bool.or_eq_false_iff, Bool.not_eq_true', Bool.not_eq_false', Bool.not_true, Bool.not_false, Bool.false_or, Bool.true_and, Bool.and_true, Bool.or_false, beq_iff_eq, bne_iff_ne, beq_eq_false_iff_ne, bne_eq_false_iff_eq, ne_eq, Bool.false_eq_true, reduceCtorEq] at hd_) <;> (try (exfalso; omega)))
        · repeat' first
            | (refine gl_gate ?_; first
              | refine gl_nil ?_
              | (refine gl_add0 ?_; refine gl_yv (yv_add tab_ok (gok_none rfl) rfl rfl rfl rfl (fun _ => allT_of rfl) (by intro _; omega)) rfl rfl ?_)
              | (refine gl_any0 ?_; refine gl_pure tab_ok rfl rfl rfl rfl rfl rfl ?_))
            | (refine gc_gate ?_; first
              | refine gc_region ?_
              | refine gc_exit ?_)
            | (refine ge_gate ?_; first
              | ((with_reducible refine ge_gT ?_); first | with_reducible refine ge_then ?_ | with_reducible refine ge_then_exit ?_ | with_reducible refine ge_then_ret ?_)
              | ((with_reducible refine ge_gK ?_); first | with_reducible refine ge_block ?_ | refine ge_block_exit ?_ | refine ge_block_pass rfl ?_ | with_reducible refine ge_block_ret ?_))
          exact ge_round (j + 1) (by omega) (by omega) c_frs (List.Sublist.refl _)
        have h4 := f4 _ (show mgetD (accM l) (l.getD j default).s 0 > 0 by omega)
        repeat' first
          | (refine gl_gate ?_; first
            | refine gl_nil ?_
            | (refine gl_any0 ?_; refine gl_pure tab_ok rfl rfl rfl rfl rfl rfl ?_))
          | (refine gc_gate ?_; first
            | refine gc_seq ?_
            | refine gc_region ?_
            | refine gc_block ?_
            | refine gc_skip ?_)
          | (refine ge_gate ?_; first
            | ((with_reducible refine ge_gT ?_); first | with_reducible refine ge_then ?_ | with_reducible refine ge_then_exit ?_ | with_reducible refine ge_then_ret ?_))
        refine gc_loop (α := Nat) (fun k => [(0, true, .slice p n cap), (3, true, .pointer (some ⟨g3, 0, none⟩)), (6, true, .pointer (some ⟨g_, 0, none⟩)), (8, true, .slice (p8.map ad) L.length c8), (9, true, .bool (passedM (accM l) s)), (12, true, .int .i64 (j : Int)), (13, true, .bool ((L.take k).any fun x => wi x (l.getD j default).s)), (14, true, .int .i64 (k : Int))])
          (fun _ => ow p8 true (cat Stamp.l L ++ sp8) 38 ++ (FrPK g_ mo es clock ++ [(g3, true, .cells s.l.toArray 38 (0, 0))])) (fun k => k ≤ L.length) (fun k => L.length - k) 0 c_frs (List.Sublist.refl _) (Nat.zero_le _) ?_
        clear h_ hd_
        intro k hk
        repeat' first
          | (refine gl_gate ?_; first
            | refine gl_nil ?_
            | (refine gl_any0 ?_; refine gl_pure tab_ok rfl rfl rfl rfl rfl rfl ?_))
          | (refine gc_gate ?_; first
            | refine gc_seq ?_
            | refine gc_region ?_)
          | (refine ge_gate ?_; first
            | ((with_reducible refine ge_gT ?_); first | with_reducible refine ge_then ?_ | with_reducible refine ge_then_exit ?_ | with_reducible refine ge_then_ret ?_))
        (refine gc_cond rfl ?_ ?_ <;> intro h_ <;> have hd_ := h_ <;> (try simp only [bytes_beq, cell_beq, val_beq, stamp_beq, decide_eq_true_eq, decide_eq_false_iff_not, Bool.and_eq_true, Bool.or_eq_true, Bool.or_eq_false_iff, Bool.not_eq_true', Bool.not_eq_false', Bool.not_true, Bool.not_false, Bool.false_or, Bool.true_and, Bool.and_true, Bool.or_false, beq_iff_eq, bne_iff_ne, beq_eq_false_iff_ne, bne_eq_false_iff_eq, ne_eq, Bool.false_eq_true, reduceCtorEq] at hd_) <;> (try (exfalso; omega)))
        · have hkl : k < L.length := by omega
          have hst := any_snocT hkl (fun x => wi x (l.getD j default).s)
          repeat' first
            | (refine gq_idxG ?_; refine gq_yv (yv_idxO tab_ok hw8 c_gok rfl rfl rfl rfl rfl rfl c_imp c_imp (fun _ => by omega)) rfl rfl ?_)
            | (refine gq_loadG ?_; refine gq_yv (yv_ldO tab_ok c_oa hw8 c_gok rfl rfl c_imp (fun hq_ => lds_cat len_stamp (by omega) rfl rfl rfl) (fun _ => by omega)) rfl rfl ?_)
            | (refine gl_gate ?_; first
              | refine gl_nil ?_
              | (refine gl_add0 ?_; refine gl_yv (yv_add tab_ok (gok_none rfl) rfl rfl rfl rfl (fun _ => allT_of rfl) (by intro _; omega)) rfl rfl ?_)
              | (refine gl_any0 ?_; refine gl_pure tab_ok rfl rfl rfl rfl rfl rfl ?_))
            | (refine gc_gate ?_; first
              | refine gc_seq ?_
              | refine gc_region ?_
              | refine gc_quietRo rfl mixed (by decide +kernel) ?_
              | refine gc_block ?_
              | refine gc_skip ?_)
            | (refine ge_gate ?_; first
              | ((with_reducible refine ge_gT ?_); first | with_reducible refine ge_then ?_ | with_reducible refine ge_then_exit ?_ | with_reducible refine ge_then_ret ?_)
              | ((with_reducible refine ge_gK ?_); first | with_reducible refine ge_block ?_ | refine ge_block_exit ?_ | refine ge_block_pass rfl ?_ | with_reducible refine ge_block_ret ?_))
            | (refine gq_gate ?_; first
              | refine gq_nil ?_
              | (refine gq_idxG ?_; refine gq_yv (yv_idxA tab_ok hs c_gok rfl rfl rfl rfl rfl rfl c_imp c_imp c_bnd) rfl rfl ?_)
              | (refine gq_loadG ?_; refine gq_yv (yv_ldA tab_ok hs c_nm c_gok rfl rfl c_imp c_bnd (fun _ => c_lds)) rfl rfl ?_)
              | (refine gq_calvG ?_; first | refine gq_yd (yd_call c_gok rfl ent87 rfl rfl c_allT (fun _ W hW => ct_WithinR (L.getD k default) (l.getD j default).s W)) rfl rfl ?_)
              | (refine gq_pick0 ?_; first | refine gq_yv (yv_and (gok_none rfl) rfl rfl rfl (fun _ => rfl) c_imp2) rfl rfl ?_ | refine gq_yv (yv_or (gok_none rfl) rfl rfl rfl (fun _ => rfl) c_imp2) rfl rfl ?_)
              | (refine gq_any0 ?_; refine gq_pure tab_ok rfl rfl rfl rfl rfl rfl ?_)
              | (refine gq_anyG ?_; first | refine gq_yv (yv_pure tab_ok c_gok rfl rfl c_allT) rfl rfl ?_ | refine gq_yv (yv_indexS tab_ok c_gok rfl rfl rfl rfl c_imp c_imp (by intro hq_; (try simp only [Bool.and_eq_true, Bool.not_eq_true', Bool.not_eq_false', Bool.or_eq_false_iff, Bool.or_eq_true, decide_eq_true_eq, decide_eq_false_iff_not, Bool.true_and, Bool.and_true] at hq_); omega)) rfl rfl ?_ | refine gq_yv (yv_indexS (i := 0) tab_ok c_gok rfl rfl rfl rfl c_imp c_imp (by intro hq_; (try simp only [Bool.and_eq_true, Bool.not_eq_true', Bool.not_eq_false', Bool.or_eq_false_iff, Bool.or_eq_true, decide_eq_true_eq, decide_eq_false_iff_not, Bool.true_and, Bool.and_true] at hq_); omega)) rfl rfl ?_))
          refine ge_round (k + 1) (by omega) (by omega) ?_ (List.Sublist.refl _)
          rw [hst]
          exact c_frs
        · have hk2 : k = L.length := by omega
          rw [hk2, List.take_length, h4]
          repeat' first
            | (refine gl_gate ?_; first
              | refine gl_nil ?_
              | (refine gl_add0 ?_; refine gl_yv (yv_add tab_ok (gok_none rfl) rfl rfl rfl rfl (fun _ => allT_of rfl) (by intro _; omega)) rfl rfl ?_)
              | (refine gl_any0 ?_; refine gl_pure tab_ok rfl rfl rfl rfl rfl rfl ?_))
            | (refine gc_gate ?_; first
              | refine gc_seq ?_
              | refine gc_region ?_
              | refine gc_false rfl ?_
              | refine gc_exit ?_
              | refine gc_skip ?_)
            | (refine ge_gate ?_; first
              | ((with_reducible refine ge_gT ?_); first | with_reducible refine ge_then ?_ | with_reducible refine ge_then_exit ?_ | with_reducible refine ge_then_ret ?_)
              | ((with_reducible refine ge_gK ?_); first | with_reducible refine ge_block ?_ | refine ge_block_exit ?_ | refine ge_block_pass rfl ?_ | with_reducible refine ge_block_ret ?_))
          exact ge_round (j + 1) (by omega) (by omega) c_frs (List.Sublist.refl _)
      · repeat' first
          | (refine gl_gate ?_; first
            | refine gl_nil ?_
            | (refine gl_load0 ?_; refine gl_yv (yv_load tab_ok (gok_none rfl) rfl rfl (fun _ => rfl) c_mem (fun _ => c_lds)) rfl rfl ?_)
            | (refine gl_calv0 ?_; first | refine gl_yd (yd_call (gok_none rfl) rfl ent82 rfl rfl (fun _ => allT_of rfl) (fun _ W hW => ct_PassedF (m := accM l) s (ObIn.of (Ko := FrPK g_ mo es clock) hW (sub_app (List.sublist_append_left _ _))) hf hm100)) rfl rfl ?_)
            | (refine gl_any0 ?_; refine gl_pure tab_ok rfl rfl rfl rfl rfl rfl ?_))
          | (refine gc_gate ?_; first
            | refine gc_seq ?_
            | refine gc_region ?_
            | refine gc_exit ?_
            | refine gc_ret ?_)
          | (refine ge_gate ?_; first
            | ((with_reducible refine ge_gT ?_); first | with_reducible refine ge_then ?_ | with_reducible refine ge_then_exit ?_ | with_reducible refine ge_then_ret ?_)
            | ((with_reducible refine ge_gK ?_); first | with_reducible refine ge_block ?_ | refine ge_block_exit ?_ | refine ge_block_pass rfl ?_ | with_reducible refine ge_block_ret ?_)
            | ((with_reducible refine ge_gB ?_); first | refine ge_ret1 tab_ok rfl c_rvt ?_ | refine ge_end1 tab_ok rfl c_rvt ?_ | refine ge_ret2 tab_ok rfl c_rvt c_rvt ?_ | refine ge_ret_none rfl ?_ | refine ge_end_none rfl ?_))
        intro W hW
        refine ⟨?_, hW.below0⟩
        simp
theorem law_FrontLeast (W : World) {b0 b1 : Nat} {v0 v1 : Value} (o0 : Value.okWide Try.prog W .any b0 87 v0) (o1 : Value.okWide Try.prog W .any b1 38 v1)
    (r0 : ∃ m, Rd tab W m 87 v0.cells.toList) (r1 : ∃ m, Rd tab W m 38 v1.cells.toList) : Calls Try.prog 17 #[v0, v1] W fun e w' => e = .returned (.bool true) ∧ Bl W w' := by
  rw [arg_one tab_ok (t := 87) rfl rfl o0] at r0
  obtain ⟨cs, rfl⟩ := arg_struct tab_ok (t := 38) rfl o1
  obtain ⟨m0, r0⟩ := r0
  obtain ⟨m1, r1⟩ := r1
  obtain ⟨p, n, cap, l, h0, hn, hle, hcap, hs, _⟩ := rdFlat (f := Chg.l) r0 rfl rfl (by decide) fun _ _ h => rdAct h
  obtain ⟨s, h1, _⟩ := rdStamp r1
  have h1' : cs = s.l := by simpa [Value.cells] using h1
  subst h1'
  cases h0
  exact walk_FrontLeast l s p n cap hn (by omega) W hs
end Go.Proofs.Ytkgjfcjciigcgaa
