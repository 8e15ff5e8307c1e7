/-
  What a watcher's screen does: show, may; what a map of values lists.
-/
import Derived.Test.YtkgjfcjciigcgaaGoSort
import Derived.Test.YtkgjfcjciigcgaaSlSlice
namespace Go.Proofs.Ytkgjfcjciigcgaa
open Go.Proofs.Ytkgjfcjciigcgaa.Sl Go.RowKit
set_option linter.unusedVariables false
set_option linter.unusedSimpArgs false
set_option maxRecDepth 100000

theorem c_cl2 {P : Prop} (h : P := by intro W_ h_; refine h_.drop ?_; repeat first | exact List.Sublist.refl _ | exact List.nil_sublist _ | apply List.Sublist.cons_cons | apply List.Sublist.cons | apply sub_app) : P := h
structure Shown where
  cell : Cell
  val : Val
  deriving DecidableEq, Inhabited
def Shown.l (x : Shown) : List Value := x.cell.l ++ x.val.l
def vV (v : Val) : Value := .agg v.l.toArray
theorem len_shown (x : Shown) : x.l.length = 6 := rfl
theorem ones_shown (x : Shown) : ∀ u ∈ x.l, u.oneCell' = true := by
  intro u hu
  simp [Shown.l, Cell.l, Val.l] at hu
  rcases hu with rfl | rfl | rfl | rfl | rfl | rfl <;> rfl
theorem ct_blank (x : Shown) (w : World) : Calls Try.prog 176 #[.agg x.l.toArray] w fun e w' => e = .returned (.bool (x.val.kind == 0)) ∧ Bl w w' := by
  refine enter (args := [_]) (M := []) (K := []) Try.func176 rfl Try.ntmps176 rfl (St.refl _ _) ?_
  repeat' first
    | (refine gl_gate ?_; first
      | refine gl_nil ?_
      | (refine gl_load0 ?_; refine gl_yv (yv_load tab_ok (gok_none rfl) rfl rfl (fun _ => rfl) c_mem (fun _ => c_lds)) rfl rfl ?_)
      | (refine gl_box0 ?_; first | (refine gl_box_agg rfl rfl rfl rfl rfl ?_; intro g_ hg_) | (refine gl_box_one rfl rfl rfl rfl rfl rfl ?_; intro g_ hg_) | (refine gl_box rfl rfl rfl rfl rfl ?_; intro g_ hg_))
      | (refine gl_any0 ?_; refine gl_pure tab_ok rfl rfl rfl rfl rfl rfl ?_))
    | (refine gc_gate ?_; first
      | refine gc_seq ?_
      | refine gc_region ?_
      | refine gc_ret ?_)
    | (refine ge_gate ?_; first
      | ((with_reducible refine ge_gT ?_); first | with_reducible refine ge_then ?_ | with_reducible refine ge_then_exit ?_ | with_reducible refine ge_then_ret ?_)
      | ((with_reducible refine ge_gB ?_); first | refine ge_ret1 tab_ok rfl c_rvt ?_ | refine ge_end1 tab_ok rfl c_rvt ?_ | refine ge_ret2 tab_ok rfl c_rvt c_rvt ?_ | refine ge_ret_none rfl ?_ | refine ge_end_none rfl ?_))
  intro W hW
  exact ⟨rfl, hW.below0⟩
def show1 (m : List (Cell × Val)) (x : Shown) : List (Cell × Val) := if x.val.kind = 0 then mdel m x.cell else mset m x.cell x.val
def showAll (l : List Shown) (m : List (Cell × Val)) : List (Cell × Val) := l.foldl show1 m
theorem showAll_snoc (l : List Shown) (x : Shown) (m : List (Cell × Val)) : showAll (l ++ [x]) m = show1 (showAll l m) x := by simp [showAll]
theorem ct_show {w : World} {b g : Nat} {ver : Int} {l : List Shown} {p : Option Addr} {n cap : Nat} {m : List (Cell × Val)} {es : Array MapEntry} {clock : Nat} (hb : w.heap[b]? = some (.cells [.map (some g), .int .i64 ver].toArray 182 (0, 0))) (hg : w.heap[g]? = some (.map es clock)) (hm : Mp kCell vV m es clock)
    (hs : SlA w 6 p n (fun i => (l.getD i default).l)) (hn : n = l.length) (hp : 0 < n → pb p ≠ g) (hbg : b ≠ g) (hl : n ≤ 1000000000) :
    Calls Try.prog 158 #[.pointer (some ⟨b, 0, none⟩), .slice p n cap] w (RetG w g (fun _ : Array MapEntry × Nat => .tuple #[]) (fun x => .map x.1 x.2) (fun x => Mp kCell vV (showAll l m) x.1 x.2)) := by
  refine enter (args := [_, _]) (M := []) (K := []) Try.func158 rfl Try.ntmps158 rfl (St.refl _ _) ?_
  refine gc_own [(g, true, .map es clock)] (by simpa using hg) (by simp) ?_
  have hM : ([(g, true, Obj.map es clock)] : Kl).map (·.1) = [g] := rfl
  rw [hM]
  have hpb : 0 < n → pb p ∉ [g] := fun h => by simpa using hp h
  refine gc_old hb (by simpa using hbg) (by simpa using hbg) ?_
  repeat' first
    | (refine gl_gate ?_; first
      | refine gl_nil ?_
      | (refine gl_any0 ?_; refine gl_pure tab_ok rfl rfl rfl rfl rfl rfl ?_))
    | (refine gc_gate ?_; first
      | refine gc_seq ?_
      | refine gc_region ?_
      | refine gc_block ?_)
    | (refine ge_gate ?_; first
      | ((with_reducible refine ge_gT ?_); first | with_reducible refine ge_then ?_ | with_reducible refine ge_then_exit ?_ | with_reducible refine ge_then_ret ?_))
  refine gc_loop (α := Nat × Array MapEntry × Nat) (fun x => [(0, true, .pointer (some ⟨b, 0, none⟩)), (6, true, .slice p n cap), (7, true, .int .i64 n), (8, true, .int .i64 (x.1 : Int))])
    (fun x => [(b, false, .cells [.map (some g), .int .i64 ver].toArray 182 (0, 0)), (g, true, .map x.2.1 x.2.2)]) (fun x => x.1 ≤ n ∧ Mp kCell vV (showAll (l.take x.1) m) x.2.1 x.2.2) (fun x => n - x.1) (0, es, clock) c_frs (List.Sublist.refl _) ⟨Nat.zero_le _, hm⟩ ?_
  rintro ⟨i, es1, clock1⟩ ⟨hi, hm1⟩
  dsimp only at hi hm1 ⊢
  repeat' first
    | (refine gl_gate ?_; first
      | refine gl_nil ?_
      | (refine gl_load0 ?_; refine gl_yv (yv_load tab_ok (gok_none rfl) rfl rfl (fun _ => rfl) c_mem (fun _ => c_lds)) rfl rfl ?_)
      | (refine gl_idx0 ?_; refine gl_yv (yv_idxA tab_ok hs (gok_none rfl) rfl rfl rfl rfl rfl rfl (fun _ => rfl) (fun _ => rfl) c_bnd) rfl rfl ?_)
      | (refine gl_load0 ?_; refine gl_yv (yv_ldA0 tab_ok hs c_nm (gok_none rfl) rfl rfl (fun _ => rfl) c_bnd (fun _ => c_lds)) rfl rfl ?_)
      | (refine gl_calv0 ?_; first | refine gl_yd (yd_call (gok_none rfl) rfl ent176 rfl rfl (fun _ => allT_of rfl) (fun _ W hW => ct_blank (l.getD i default) W)) rfl rfl ?_)
      | (refine gl_alc0 ?_; (refine gl_alloc tab_ok rfl rfl rfl rfl rfl ?_; intro g_ hg_))
      | (refine gl_sto0 ?_; refine gl_store tab_ok rfl rfl rfl rfl rfl rfl rfl c_one rfl c_ku ?_)
      | (refine gl_any0 ?_; refine gl_pure tab_ok rfl rfl rfl rfl rfl rfl ?_))
    | (refine gc_gate ?_; first
      | refine gc_seq ?_
      | refine gc_region ?_
      | (refine gc_cond rfl ?_ ?_ <;> intro h_ <;> have hd_ := h_ <;> (try simp only [bytes_beq, cell_beq, val_beq, stamp_beq, decide_eq_true_eq, decide_eq_false_iff_not, Bool.and_eq_true, Bool.or_eq_true, Bool.or_eq_false_iff, Bool.not_eq_true', Bool.not_eq_false', Bool.not_true, Bool.not_false, Bool.false_or, Bool.true_and, Bool.and_true, Bool.or_false, beq_iff_eq, bne_iff_ne, beq_eq_false_iff_ne, bne_eq_false_iff_eq, ne_eq, Bool.false_eq_true, reduceCtorEq] at hd_) <;> (try (exfalso; omega)))
      | refine gc_block ?_
      | refine gc_exit ?_
      | refine gc_skip ?_)
    | (refine ge_gate ?_; first
      | ((with_reducible refine ge_gT ?_); first | with_reducible refine ge_then ?_ | with_reducible refine ge_then_exit ?_ | with_reducible refine ge_then_ret ?_)
      | ((with_reducible refine ge_gK ?_); first | with_reducible refine ge_block ?_ | refine ge_block_exit ?_ | refine ge_block_pass rfl ?_ | with_reducible refine ge_block_ret ?_)
      | ((with_reducible refine ge_gB ?_); first | refine ge_ret1 tab_ok rfl c_rvt ?_ | refine ge_end1 tab_ok rfl c_rvt ?_ | refine ge_ret2 tab_ok rfl c_rvt c_rvt ?_ | refine ge_ret_none rfl ?_ | refine ge_end_none rfl ?_))
  · refine gp_start [6] #[false, false, false, false, false, false, false] mixed rfl rfl c_qp ?_; intro hqp_
    refine gp_take 0 #[true, false, false, false, false, false, false] hqp_ rfl (by kernel_rfl) (yv_pure tab_ok c_gok rfl rfl c_allT) c_cl rfl rfl ?_
    refine gp_take 1 #[true, true, false, false, false, false, false] hqp_ rfl (by kernel_rfl) (yv_pure tab_ok c_gok rfl rfl c_allT) c_cl rfl rfl ?_
    refine gp_take 2 #[true, true, true, false, false, false, false] hqp_ rfl (by kernel_rfl) (yv_pure tab_ok c_gok rfl rfl c_allT) c_cl rfl rfl ?_
    refine gp_take 3 #[true, true, true, true, false, false, false] hqp_ rfl (by kernel_rfl) (yv_load tab_ok c_gok rfl rfl c_imp c_mem (fun _ => c_lds)) c_cl rfl rfl ?_
    refine gp_take 4 #[true, true, true, true, true, false, false] hqp_ rfl (by kernel_rfl) (yv_pure tab_ok c_gok rfl rfl c_allT) c_cl rfl rfl ?_
    refine gp_take 5 #[true, true, true, true, true, true, false] hqp_ rfl (by kernel_rfl) (yv_load tab_ok c_gok rfl rfl c_imp c_mem (fun _ => c_lds)) c_cl rfl rfl ?_
    refine gp_last0 6 #[true, true, true, true, true, true, true] rfl (by kernel_rfl) (by simp) rfl (ev_mapDelete (kf := kCell) (vf := vV) (k := (l.getD i default).cell) key_cell tab_ok rfl rfl rfl rfl rfl hm1 c_mem (fun es2 hm2 => ⟨_, c_ku, ?_⟩))
    refine gp_done (by kernel_rfl) ?_; clear hqp_
    repeat' first
      | (refine gl_gate ?_; first
        | refine gl_nil ?_
        | (refine gl_add0 ?_; refine gl_yv (yv_add tab_ok (gok_none rfl) rfl rfl rfl rfl (fun _ => allT_of rfl) (by intro _; omega)) rfl rfl ?_)
        | (refine gl_any0 ?_; refine gl_pure tab_ok rfl rfl rfl rfl rfl rfl ?_))
      | (refine gc_gate ?_; first
        | refine gc_region ?_)
      | (refine ge_gate ?_; first
        | ((with_reducible refine ge_gT ?_); first | with_reducible refine ge_then ?_ | with_reducible refine ge_then_exit ?_ | with_reducible refine ge_then_ret ?_)
        | ((with_reducible refine ge_gK ?_); first | with_reducible refine ge_block ?_ | refine ge_block_exit ?_ | refine ge_block_pass rfl ?_ | with_reducible refine ge_block_ret ?_))
    refine ge_round (i + 1, es2, clock1) ⟨by omega, ?_⟩ (by show n - (i + 1) < n - i; omega) c_frs (List.Sublist.cons _ (List.Sublist.refl _))
    show Mp kCell vV (showAll (l.take (i + 1)) m) es2 clock1
    rw [take_succD _ _ (by omega), showAll_snoc, show1, if_pos hd_]
    exact hm2
  · refine gp_start [8] #[false, false, false, false, false, false, false, false, false] mixed rfl rfl c_qp ?_; intro hqp_
    refine gp_take 0 #[true, false, false, false, false, false, false, false, false] hqp_ rfl (by kernel_rfl) (yv_pure tab_ok c_gok rfl rfl c_allT) c_cl rfl rfl ?_
    refine gp_take 1 #[true, true, false, false, false, false, false, false, false] hqp_ rfl (by kernel_rfl) (yv_pure tab_ok c_gok rfl rfl c_allT) c_cl rfl rfl ?_
    refine gp_take 2 #[true, true, true, false, false, false, false, false, false] hqp_ rfl (by kernel_rfl) (yv_pure tab_ok c_gok rfl rfl c_allT) c_cl rfl rfl ?_
    refine gp_take 3 #[true, true, true, true, false, false, false, false, false] hqp_ rfl (by kernel_rfl) (yv_load tab_ok c_gok rfl rfl c_imp c_mem (fun _ => c_lds)) c_cl rfl rfl ?_
    refine gp_take 4 #[true, true, true, true, true, false, false, false, false] hqp_ rfl (by kernel_rfl) (yv_pure tab_ok c_gok rfl rfl c_allT) c_cl rfl rfl ?_
    refine gp_take 5 #[true, true, true, true, true, true, false, false, false] hqp_ rfl (by kernel_rfl) (yv_load tab_ok c_gok rfl rfl c_imp c_mem (fun _ => c_lds)) c_cl rfl rfl ?_
    refine gp_take 6 #[true, true, true, true, true, true, true, false, false] hqp_ rfl (by kernel_rfl) (yv_pure tab_ok c_gok rfl rfl c_allT) c_cl rfl rfl ?_
    refine gp_take 7 #[true, true, true, true, true, true, true, true, false] hqp_ rfl (by kernel_rfl) (yv_load tab_ok c_gok rfl rfl c_imp c_mem (fun _ => c_lds)) c_cl rfl rfl ?_
    refine gp_last0 8 #[true, true, true, true, true, true, true, true, true] rfl (by kernel_rfl) (by simp) rfl (ev_mapUpdate (kf := kCell) (vf := vV) (k := (l.getD i default).cell) (u := (l.getD i default).val) key_cell tab_ok rfl rfl rfl rfl rfl rfl hm1 c_mem (fun es2 clock2 hm2 => ⟨_, c_ku, ?_⟩))
    refine gp_done (by kernel_rfl) ?_; clear hqp_
    repeat' first
      | (refine gl_gate ?_; first
        | refine gl_nil ?_
        | (refine gl_add0 ?_; refine gl_yv (yv_add tab_ok (gok_none rfl) rfl rfl rfl rfl (fun _ => allT_of rfl) (by intro _; omega)) rfl rfl ?_)
        | (refine gl_any0 ?_; refine gl_pure tab_ok rfl rfl rfl rfl rfl rfl ?_))
      | (refine gc_gate ?_; first
        | refine gc_region ?_)
      | (refine ge_gate ?_; first
        | ((with_reducible refine ge_gT ?_); first | with_reducible refine ge_then ?_ | with_reducible refine ge_then_exit ?_ | with_reducible refine ge_then_ret ?_)
        | ((with_reducible refine ge_gK ?_); first | with_reducible refine ge_block ?_ | refine ge_block_exit ?_ | refine ge_block_pass rfl ?_ | with_reducible refine ge_block_ret ?_))
    refine ge_round (i + 1, es2, clock2) ⟨by omega, ?_⟩ (by show n - (i + 1) < n - i; omega) c_frs (List.Sublist.cons _ (List.Sublist.refl _))
    show Mp kCell vV (showAll (l.take (i + 1)) m) es2 clock2
    rw [take_succD _ _ (by omega), showAll_snoc, show1, if_neg hd_]
    exact hm2
  · intro W hW
    have h1 : i = l.length := by omega
    rw [h1, List.take_length] at hm1
    exact ⟨(es1, clock1), rfl, hm1, hW.drop (List.Sublist.cons _ (List.Sublist.refl _))⟩
/-! ### may -/
def may (mo : Bool) (ver k v : Int) : Bool := if mo then (if k = 2 then decide (v ≥ ver) else decide (v > ver)) else decide (k = 2)
theorem ct_may {w : World} {b : Nat} {mo : Option Nat} {ver k v e : Int} (hb : w.heap[b]? = some (.cells [.map mo, .int .i64 ver].toArray 182 (0, 0))) (q : Option Addr) (n d : Nat) : Calls Try.prog 157 #[.pointer (some ⟨b, 0, none⟩), .agg #[.int .i64 k, .int .i64 v, .int .i64 e, .slice q n d]] w fun e w' => e = .returned (.bool (may mo.isSome ver k v)) ∧ Bl w w' := by
  refine enter (args := [_, _]) (M := []) (K := []) Try.func157 rfl Try.ntmps157 rfl (St.refl _ _) ?_
  refine gc_old hb (by simp) (by simp) ?_
  cases mo
  · repeat' first
      | (refine gl_gate ?_; first
        | refine gl_nil ?_
        | (refine gl_load0 ?_; refine gl_yv (yv_load tab_ok (gok_none rfl) rfl rfl (fun _ => rfl) c_mem (fun _ => c_lds)) rfl rfl ?_)
        | (refine gl_box0 ?_; first | (refine gl_box_agg rfl rfl rfl rfl rfl ?_; intro g_ hg_) | (refine gl_box_one rfl rfl rfl rfl rfl rfl ?_; intro g_ hg_) | (refine gl_box rfl rfl rfl rfl rfl ?_; intro g_ hg_))
        | (refine gl_any0 ?_; refine gl_pure tab_ok rfl rfl rfl rfl rfl rfl ?_))
      | (refine gc_gate ?_; first
        | refine gc_seq ?_
        | refine gc_region ?_
        | refine gc_true rfl ?_
        | refine gc_block ?_
        | refine gc_ret ?_)
      | (refine ge_gate ?_; first
        | ((with_reducible refine ge_gT ?_); first | with_reducible refine ge_then ?_ | with_reducible refine ge_then_exit ?_ | with_reducible refine ge_then_ret ?_)
        | ((with_reducible refine ge_gK ?_); first | with_reducible refine ge_block ?_ | refine ge_block_exit ?_ | refine ge_block_pass rfl ?_ | with_reducible refine ge_block_ret ?_)
        | ((with_reducible refine ge_gB ?_); first | refine ge_ret1 tab_ok rfl c_rvt ?_ | refine ge_end1 tab_ok rfl c_rvt ?_ | refine ge_ret2 tab_ok rfl c_rvt c_rvt ?_ | refine ge_ret_none rfl ?_ | refine ge_end_none rfl ?_))
    intro W hW
    refine ⟨?_, hW.below0⟩
    unfold may
    simp only [Option.isSome_none, Bool.false_eq_true, if_false]
    rw [show (k == 2) = decide (k = 2) from rfl]
  · repeat' first
      | (refine gl_gate ?_; first
        | refine gl_nil ?_
        | (refine gl_load0 ?_; refine gl_yv (yv_load tab_ok (gok_none rfl) rfl rfl (fun _ => rfl) c_mem (fun _ => c_lds)) rfl rfl ?_)
        | (refine gl_box0 ?_; first | (refine gl_box_agg rfl rfl rfl rfl rfl ?_; intro g_ hg_) | (refine gl_box_one rfl rfl rfl rfl rfl rfl ?_; intro g_ hg_) | (refine gl_box rfl rfl rfl rfl rfl ?_; intro g_ hg_))
        | (refine gl_any0 ?_; refine gl_pure tab_ok rfl rfl rfl rfl rfl rfl ?_))
      | (refine gc_gate ?_; first
        | refine gc_seq ?_
        | refine gc_region ?_
        | refine gc_quietRo rfl mixed (by decide +kernel) ?_
        | refine gc_false rfl ?_
        | (refine gc_cond rfl ?_ ?_ <;> intro h_ <;> have hd_ := h_ <;> (try simp only [bytes_beq, cell_beq, val_beq, stamp_beq, decide_eq_true_eq, decide_eq_false_iff_not, Bool.and_eq_true, Bool.or_eq_true, Bool.or_eq_false_iff, Bool.not_eq_true', Bool.not_eq_false', Bool.not_true, Bool.not_false, Bool.false_or, Bool.true_and, Bool.and_true, Bool.or_false, beq_iff_eq, bne_iff_ne, beq_eq_false_iff_ne, bne_eq_false_iff_eq, ne_eq, Bool.false_eq_true, reduceCtorEq] at hd_) <;> (try (exfalso; omega)))
        | refine gc_block ?_
        | refine gc_ret ?_
        | refine gc_skip ?_)
      | (refine ge_gate ?_; first
        | ((with_reducible refine ge_gT ?_); first | with_reducible refine ge_then ?_ | with_reducible refine ge_then_exit ?_ | with_reducible refine ge_then_ret ?_)
        | ((with_reducible refine ge_gK ?_); first | with_reducible refine ge_block ?_ | refine ge_block_exit ?_ | refine ge_block_pass rfl ?_ | with_reducible refine ge_block_ret ?_)
        | ((with_reducible refine ge_gB ?_); first | refine ge_ret1 tab_ok rfl c_rvt ?_ | refine ge_end1 tab_ok rfl c_rvt ?_ | refine ge_ret2 tab_ok rfl c_rvt c_rvt ?_ | refine ge_ret_none rfl ?_ | refine ge_end_none rfl ?_))
      | (refine gq_gate ?_; first
        | refine gq_nil ?_
        | (refine gq_load0 ?_; refine gq_yv (yv_load tab_ok (gok_none rfl) rfl rfl (fun _ => rfl) c_mem (fun _ => c_lds)) rfl rfl ?_)
        | (refine gq_any0 ?_; refine gq_pure tab_ok rfl rfl rfl rfl rfl rfl ?_))
    · intro W hW
      refine ⟨?_, hW.below0⟩
      simp [may, hd_]
    · intro W hW
      refine ⟨?_, hW.below0⟩
      simp [may, hd_]
theorem ct_Index23 (g : Nat) (k : Int) (w : World) (h : w.heap[g]? = some (.cells [.int .i64 2, .int .i64 3].toArray 3 (0, 0))) : Calls Try.prog 202 #[.slice (some ⟨g, 0, none⟩) 2 2, .int .i64 k] w fun e w' => e = .returned (.int .i64 (if k = 2 then 0 else if k = 3 then 1 else -1)) ∧ Bl w w' := by
  refine enter (args := [_, _]) (M := []) (K := []) Try.func202 rfl Try.ntmps202 rfl (St.refl _ _) ?_
  refine gc_old h (by simp) (by simp) ?_
  repeat' first
    | (refine gl_gate ?_; first
      | refine gl_nil ?_
      | (refine gl_any0 ?_; refine gl_pure tab_ok rfl rfl rfl rfl rfl rfl ?_))
    | (refine gc_gate ?_; first
      | refine gc_seq ?_
      | refine gc_region ?_
      | refine gc_block ?_)
    | (refine ge_gate ?_; first
      | ((with_reducible refine ge_gT ?_); first | with_reducible refine ge_then ?_ | with_reducible refine ge_then_exit ?_ | with_reducible refine ge_then_ret ?_))
  refine gc_rounds 3 ?_
  repeat' first
    | refine ge_rounds ?_
    | (refine gl_gate ?_; first
      | refine gl_nil ?_
      | (refine gl_load0 ?_; refine gl_yv (yv_load tab_ok (gok_none rfl) rfl rfl (fun _ => rfl) c_mem (fun _ => c_lds)) rfl rfl ?_)
      | (refine gl_add0 ?_; refine gl_yv (yv_add tab_ok (gok_none rfl) rfl rfl rfl rfl (fun _ => allT_of rfl) (by intro _; omega)) rfl rfl ?_)
      | (refine gl_idx0 ?_; refine gl_yv (yv_indexAddr tab_ok (gok_none rfl) rfl rfl rfl rfl rfl (fun _ => rfl) (fun _ => rfl) (by intro _; omega)) rfl rfl ?_)
      | (refine gl_any0 ?_; refine gl_pure tab_ok rfl rfl rfl rfl rfl rfl ?_))
    | (refine gc_gate ?_; first
      | refine gc_seq ?_
      | refine gc_region ?_
      | refine gc_true rfl ?_
      | refine gc_false rfl ?_
      | (refine gc_cond rfl ?_ ?_ <;> intro h_ <;> have hd_ := h_ <;> (try simp only [bytes_beq, cell_beq, val_beq, stamp_beq, decide_eq_true_eq, decide_eq_false_iff_not, Bool.and_eq_true, Bool.or_eq_true, Bool.or_eq_false_iff, Bool.not_eq_true', Bool.not_eq_false', Bool.not_true, Bool.not_false, Bool.false_or, Bool.true_and, Bool.and_true, Bool.or_false, beq_iff_eq, bne_iff_ne, beq_eq_false_iff_ne, bne_eq_false_iff_eq, ne_eq, Bool.false_eq_true, reduceCtorEq] at hd_) <;> (try (exfalso; omega)))
      | refine gc_block ?_
      | refine gc_exit ?_
      | refine gc_ret ?_
      | refine gc_skip ?_)
    | (refine ge_gate ?_; first
      | ((with_reducible refine ge_gT ?_); first | with_reducible refine ge_then ?_ | with_reducible refine ge_then_exit ?_ | with_reducible refine ge_then_ret ?_)
      | ((with_reducible refine ge_gK ?_); first | with_reducible refine ge_block ?_ | refine ge_block_exit ?_ | refine ge_block_pass rfl ?_ | with_reducible refine ge_block_ret ?_)
      | ((with_reducible refine ge_gB ?_); first | refine ge_ret1 tab_ok rfl c_rvt ?_ | refine ge_end1 tab_ok rfl c_rvt ?_ | refine ge_ret2 tab_ok rfl c_rvt c_rvt ?_ | refine ge_ret_none rfl ?_ | refine ge_end_none rfl ?_))
  all_goals intro W hW
  all_goals refine ⟨?_, hW.below0⟩
  all_goals simp_all
theorem ct_Contains23 (g : Nat) (k : Int) (w : World) (h : w.heap[g]? = some (.cells [.int .i64 2, .int .i64 3].toArray 3 (0, 0))) : Calls Try.prog 156 #[.slice (some ⟨g, 0, none⟩) 2 2, .int .i64 k] w fun e w' => e = .returned (.bool (decide (k = 2 ∨ k = 3))) ∧ Bl w w' := by
  refine enter (args := [_, _]) (M := []) (K := []) Try.func156 rfl Try.ntmps156 rfl (St.refl _ _) ?_
  refine gc_old h (by simp) (by simp) ?_
  repeat' first
    | (refine gl_gate ?_; first
      | refine gl_nil ?_
      | (refine gl_calv0 ?_; first | refine gl_yd (yd_call (gok_none rfl) rfl ent202 rfl rfl (fun _ => allT_of rfl) (fun _ W hW => ct_Index23 g k W (hW.kn c_mem))) rfl rfl ?_)
      | (refine gl_any0 ?_; refine gl_pure tab_ok rfl rfl rfl rfl rfl rfl ?_))
    | (refine gc_gate ?_; first
      | refine gc_seq ?_
      | refine gc_region ?_
      | refine gc_ret ?_)
    | (refine ge_gate ?_; first
      | ((with_reducible refine ge_gT ?_); first | with_reducible refine ge_then ?_ | with_reducible refine ge_then_exit ?_ | with_reducible refine ge_then_ret ?_)
      | ((with_reducible refine ge_gB ?_); first | refine ge_ret1 tab_ok rfl c_rvt ?_ | refine ge_end1 tab_ok rfl c_rvt ?_ | refine ge_ret2 tab_ok rfl c_rvt c_rvt ?_ | refine ge_ret_none rfl ?_ | refine ge_end_none rfl ?_))
  intro W hW
  refine ⟨?_, hW.below0⟩
  by_cases h2 : k = 2
  · simp [h2]
  · by_cases h3 : k = 3 <;> simp [h2, h3]
/-! ### a map's list -/
theorem rep3 (l : List Cell) : (cat Cell.l l).length = l.length * 3 := cat_length len_cell l
theorem ct_SortedV {m : List (Cell × Val)} {g clock : Nat} {es : Array MapEntry} {w : World} (hb : w.heap[g]? = some (.map es clock)) (hm : Mp kCell vV m es clock) (hlen : m.length ≤ 1000000000) : Calls Try.prog 203 #[.map (some g)] w (RetOw w m.length 3 (cat Cell.l (sortC (m.map (·.1)))) 25) := by
  refine enter (args := [_]) (M := []) (K := []) Try.func203 rfl Try.ntmps203 rfl (St.refl _ _) ?_
  refine gc_old hb (by simp) (by simp) ?_
  repeat' first
    | (refine gl_gate ?_; first
      | refine gl_nil ?_
      | (refine gl_any0 ?_; (refine gl_ev (ev_range tab_ok rfl rfl rfl rfl c_mem ?_) rfl rfl; intro r_ hr_))
      | (refine gl_any0 ?_; refine gl_pure tab_ok rfl rfl rfl rfl rfl rfl ?_))
    | (refine gc_gate ?_; first
      | refine gc_seq ?_
      | refine gc_region ?_
      | refine gc_block ?_)
    | (refine ge_gate ?_; first
      | ((with_reducible refine ge_gT ?_); first | with_reducible refine ge_then ?_ | with_reducible refine ge_then_exit ?_ | with_reducible refine ge_then_ret ?_))
  refine gc_loop (α := List (Cell × Val) × Array Nat × Option Nat × Nat × List Value) (fun x => [(2, true, .slice none 0 0), (3, true, .slice (x.2.2.1.map ad) x.1.length x.2.2.2.1), (6, true, .pointer (some ⟨r_, 0, none⟩))])
    (fun x => ow x.2.2.1 true (cat Cell.l (x.1.map (·.1)) ++ x.2.2.2.2) 25 ++ [(r_, true, .mapIter (some g) clock x.2.1 clock), (g, false, .map es clock)]) (fun x => Rng m es x.2.1 x.1 ∧ Ow x.2.2.1 x.1.length x.2.2.2.1 3 (cat Cell.l (x.1.map (·.1))) x.2.2.2.2 ∧ x.1.length ≤ m.length) (fun x => m.length - x.1.length) ([], #[], none, 0, []) c_frs (List.Sublist.refl _) ⟨Rng.start, Ow.none0, Nat.zero_le _⟩ ?_
  rintro ⟨out, seen, q, c, sp⟩ ⟨hs, ho, hl⟩
  dsimp only at hs ho hl ⊢
  repeat' first
    | refine gl_ev (ev_next rfl rfl rfl c_mem c_mem hm hs (fun hp_ => ?_) (fun y_ seen_ y1_ y2_ y3_ y4_ => ⟨_, c_ku, ?_⟩)) rfl rfl
    | refine gl_yv (yv_entry (gok_none rfl) rfl rfl (fun _ => rfl) c_mem c_mem hm y4_) rfl rfl ?_
    | (refine gl_gate ?_; first
      | refine gl_nil ?_
      | (refine gl_load0 ?_; refine gl_yv (yv_load tab_ok (gok_none rfl) rfl rfl (fun _ => rfl) c_mem (fun _ => c_lds)) rfl rfl ?_)
      | (refine gl_app0 ?_; (refine gl_ev (ev_append tab_ok rfl rfl rfl rfl rfl rfl rfl rfl c_oa (ho) (c_src) c_lim c_lim ?_) rfl rfl; intro p_ c_ sp_ hw_))
      | (refine gl_bld0 ?_; (refine gl_ev (ev_buildSlice tab_ok rfl rfl rfl rfl rfl rfl rfl rfl rfl rfl ?_) rfl rfl; intro g_ hg_))
      | (refine gl_alc0 ?_; (refine gl_alloc tab_ok rfl rfl rfl rfl rfl ?_; intro g_ hg_))
      | (refine gl_sto0 ?_; refine gl_store tab_ok rfl rfl rfl rfl rfl rfl rfl c_one rfl c_ku ?_)
      | (refine gl_any0 ?_; refine gl_pure tab_ok rfl rfl rfl rfl rfl rfl ?_))
    | (refine gc_gate ?_; first
      | refine gc_seq ?_
      | refine gc_region ?_
      | refine gc_true rfl ?_
      | refine gc_false rfl ?_
      | refine gc_block ?_
      | refine gc_exit ?_
      | refine gc_skip ?_)
    | (refine ge_gate ?_; first
      | ((with_reducible refine ge_gT ?_); first | with_reducible refine ge_then ?_ | with_reducible refine ge_then_exit ?_ | with_reducible refine ge_then_ret ?_)
      | ((with_reducible refine ge_gK ?_); first | with_reducible refine ge_block ?_ | refine ge_block_exit ?_ | refine ge_block_pass rfl ?_ | with_reducible refine ge_block_ret ?_))
  · have hkeys : (out.map (·.1)).Nodup := (hp_.map (·.1)).nodup_iff.2 hm.keys
    have hsort : sortC (out.map (·.1)) = sortC (m.map (·.1)) := sortC_of_perm hkeys (hp_.map (·.1))
    have hlen2 := hp_.length_eq
    rcases q with _ | g2
    · have h1 := ho.nil rfl
      have h2 := ho.le
      have h3 : out = [] := List.eq_nil_of_length_eq_zero (by omega)
      subst h3
      have h4 : m = [] := List.eq_nil_of_length_eq_zero (by simpa using hlen2.symm)
      subst h4
      repeat' first
        | (refine gl_gate ?_; first
          | refine gl_nil ?_
          | (refine gl_calv0 ?_; first | refine gl_yd (yd_call (gok_none rfl) rfl ent207 rfl rfl (fun _ => allT_of rfl) (fun _ W hW => ct_sortNone c none _ W)) rfl rfl ?_)
          | (refine gl_any0 ?_; refine gl_pure tab_ok rfl rfl rfl rfl rfl rfl ?_))
        | (refine gc_gate ?_; first
          | refine gc_seq ?_
          | refine gc_region ?_
          | refine gc_ret ?_)
        | (refine ge_gate ?_; first
          | ((with_reducible refine ge_gT ?_); first | with_reducible refine ge_then ?_ | with_reducible refine ge_then_exit ?_ | with_reducible refine ge_then_ret ?_)
          | ((with_reducible refine ge_gB ?_); first | refine ge_ret1 tab_ok rfl c_rvt ?_ | refine ge_end1 tab_ok rfl c_rvt ?_ | refine ge_ret2 tab_ok rfl c_rvt c_rvt ?_ | refine ge_ret_none rfl ?_ | refine ge_end_none rfl ?_))
      intro W hW
      subst h1
      have h5 : sp = [] := List.eq_nil_of_length_eq_zero (by have := ho.room; simpa using this)
      subst h5
      exact ⟨none, 0, [], rfl, ⟨by simp [sortC, cat], rfl, Nat.le_refl _, fun _ => rfl⟩, hW.drop (List.nil_sublist _)⟩
    · refine gl_ev (ev_callG (val := fun _ : Unit => .tuple #[]) (ob := fun _ => .cells (cat Cell.l (sortC (out.map (·.1))) ++ sp).toArray 25 (0, 0)) (φ := fun _ => True) (g := g2) (o1 := .cells (cat Cell.l (out.map (·.1)) ++ sp).toArray 25 (0, 0)) rfl rfl ent207 rfl rfl rfl (fun W hW => ?_) (fun x hx => ⟨_, c_ku, ?_⟩)) rfl rfl
      · have := ct_sortCells (g := g2) (c := c) (xs := out.map (·.1)) (sp := sp) (w := W) (hW.kn (wr := true) c_mem) (by rw [List.length_map]; omega)
        rw [List.length_map] at this
        exact this
      repeat' first
        | (refine gl_gate ?_; first
          | refine gl_nil ?_
          | (refine gl_any0 ?_; refine gl_pure tab_ok rfl rfl rfl rfl rfl rfl ?_))
        | (refine gc_gate ?_; first
          | refine gc_seq ?_
          | refine gc_region ?_
          | refine gc_ret ?_)
        | (refine ge_gate ?_; first
          | ((with_reducible refine ge_gT ?_); first | with_reducible refine ge_then ?_ | with_reducible refine ge_then_exit ?_ | with_reducible refine ge_then_ret ?_)
          | ((with_reducible refine ge_gB ?_); first | refine ge_ret1 tab_ok rfl c_rvt ?_ | refine ge_end1 tab_ok rfl c_rvt ?_ | refine ge_ret2 tab_ok rfl c_rvt c_rvt ?_ | refine ge_ret_none rfl ?_ | refine ge_end_none rfl ?_))
      intro W hW
      rw [← hlen2, ← hsort]
      refine ⟨some g2, c, sp, rfl, ⟨by rw [rep3, sortC_length, List.length_map], ho.room, ho.le, ho.nil⟩, hW.drop (List.Sublist.cons_cons _ (List.nil_sublist _))⟩
  · refine ge_round (out ++ [y_], seen_, p_, c_, sp_) ⟨y4_, ?_, by rw [List.length_append]; exact y3_⟩ (by show m.length - (out ++ [y_]).length < m.length - out.length; rw [List.length_append]; simp; omega) ?_ ?_
    · show Ow p_ (out ++ [y_]).length c_ 3 (cat Cell.l ((out ++ [y_]).map (·.1))) sp_
      rw [List.length_append, List.map_append, cat_append]
      exact hw_
    · dsimp only
      rw [List.length_append]
      exact c_frs
    · dsimp only
      rw [List.map_append, cat_append]
      exact List.Sublist.append (List.Sublist.refl _) (List.Sublist.cons _ (List.Sublist.cons _ (List.Sublist.refl _)))
theorem ct_SortedN (w : World) : Calls Try.prog 203 #[.map none] w (RetOw w 0 3 [] 25) := by
  refine enter (args := [_]) (M := []) (K := []) Try.func203 rfl Try.ntmps203 rfl (St.refl _ _) ?_
  repeat' first
    | (refine gl_gate ?_; first
      | refine gl_nil ?_
      | (refine gl_any0 ?_; (refine gl_ev (ev_rangeNil tab_ok rfl rfl rfl rfl ?_) rfl rfl; intro r_ hr_))
      | (refine gl_any0 ?_; refine gl_pure tab_ok rfl rfl rfl rfl rfl rfl ?_))
    | (refine gc_gate ?_; first
      | refine gc_seq ?_
      | refine gc_region ?_
      | refine gc_block ?_)
    | (refine ge_gate ?_; first
      | ((with_reducible refine ge_gT ?_); first | with_reducible refine ge_then ?_ | with_reducible refine ge_then_exit ?_ | with_reducible refine ge_then_ret ?_))
  refine gc_rounds 0 ?_
  repeat' first
    | refine gl_ev (ev_nextNil rfl rfl rfl c_mem ?_) rfl rfl
    | (refine gl_gate ?_; first
      | refine gl_nil ?_
      | (refine gl_calv0 ?_; first | refine gl_yd (yd_call (gok_none rfl) rfl ent207 rfl rfl (fun _ => allT_of rfl) (fun _ W hW => ct_sortNone 0 none _ W)) rfl rfl ?_)
      | (refine gl_any0 ?_; refine gl_pure tab_ok rfl rfl rfl rfl rfl rfl ?_))
    | (refine gc_gate ?_; first
      | refine gc_seq ?_
      | refine gc_region ?_
      | refine gc_false rfl ?_
      | refine gc_exit ?_
      | refine gc_ret ?_)
    | (refine ge_gate ?_; first
      | ((with_reducible refine ge_gT ?_); first | with_reducible refine ge_then ?_ | with_reducible refine ge_then_exit ?_ | with_reducible refine ge_then_ret ?_)
      | ((with_reducible refine ge_gK ?_); first | with_reducible refine ge_block ?_ | refine ge_block_exit ?_ | refine ge_block_pass rfl ?_ | with_reducible refine ge_block_ret ?_)
      | ((with_reducible refine ge_gB ?_); first | refine ge_ret1 tab_ok rfl c_rvt ?_ | refine ge_end1 tab_ok rfl c_rvt ?_ | refine ge_ret2 tab_ok rfl c_rvt c_rvt ?_ | refine ge_ret_none rfl ?_ | refine ge_end_none rfl ?_))
  intro W hW
  exact ⟨none, 0, [], rfl, Ow.none0, hW.drop (List.nil_sublist _)⟩
def v00 : Val := ⟨0, 0, .empty⟩
theorem zero_val (w : World) : (zeroValue 23).run Try.prog w = .ok (vV v00) w := Try.zeroValue23 w
def listM (m : List (Cell × Val)) : List Shown := (sortC (m.map (·.1))).map fun c => ⟨c, mgetD m c v00⟩
theorem ct_List {m : List (Cell × Val)} {g clock : Nat} {es : Array MapEntry} {w : World} (hb : w.heap[g]? = some (.map es clock)) (hm : Mp kCell vV m es clock) (hlen : m.length ≤ 1000000000) : Calls Try.prog 159 #[.map (some g)] w (RetOw w (listM m).length 6 (cat Shown.l (listM m)) 120) := by
  have hll : (listM m).length = m.length := by simp [listM, sortC_length]
  have hsl : (sortC (m.map (·.1))).length = m.length := by simp [sortC_length]
  refine enter (args := [_]) (M := []) (K := []) Try.func159 rfl Try.ntmps159 rfl (St.refl _ _) ?_
  refine gc_old hb (by simp) (by simp) ?_
  repeat' first
    | (refine gl_gate ?_; first
      | refine gl_nil ?_
      | (refine gl_any0 ?_; (refine gl_ev (ev_callOw rfl rfl ent203 rfl rfl rfl (fun W hW => ct_SortedV (hW.kn c_mem) hm hlen) ?_) rfl rfl; intro q1_ c1_ sp1_ hw1_))
      | (refine gl_any0 ?_; refine gl_pure tab_ok rfl rfl rfl rfl rfl rfl ?_))
    | (refine gc_gate ?_; first
      | refine gc_seq ?_
      | refine gc_region ?_
      | refine gc_block ?_)
    | (refine ge_gate ?_; first
      | ((with_reducible refine ge_gT ?_); first | with_reducible refine ge_then ?_ | with_reducible refine ge_then_exit ?_ | with_reducible refine ge_then_ret ?_))
  refine gc_loop (α := Nat × Option Nat × Nat × List Value) (fun x => [(0, true, .map (some g)), (3, true, .slice (x.2.1.map ad) x.1 x.2.2.1), (7, true, .slice (q1_.map ad) m.length c1_), (8, true, .int .i64 m.length), (9, true, .int .i64 (x.1 : Int))])
    (fun x => ow x.2.1 true (cat Shown.l ((listM m).take x.1) ++ x.2.2.2) 120 ++ (ow q1_ true (cat Cell.l (sortC (m.map (·.1))) ++ sp1_) 25 ++ [(g, false, .map es clock)])) (fun x => x.1 ≤ m.length ∧ Ow x.2.1 x.1 x.2.2.1 6 (cat Shown.l ((listM m).take x.1)) x.2.2.2) (fun x => m.length - x.1) (0, none, 0, []) c_frs (List.Sublist.refl _) ⟨Nat.zero_le _, Ow.none0⟩ ?_
  rintro ⟨i, q, c, sp⟩ ⟨hi, ho⟩
  dsimp only at hi ho ⊢
  repeat' first
    | refine gl_yv (yv_idxO tab_ok hw1_ (gok_none rfl) rfl rfl rfl rfl rfl rfl (fun _ => rfl) (fun _ => rfl) c_bnd) rfl rfl ?_
    | refine gl_yv (yv_ldO tab_ok c_oa hw1_ (gok_none rfl) rfl rfl (fun _ => rfl) (fun _ => lds_cat len_cell (by omega) rfl rfl rfl) c_bnd) rfl rfl ?_
    | (refine gl_gate ?_; first
      | refine gl_nil ?_
      | (refine gl_alc0 ?_; (refine gl_alloc tab_ok rfl rfl rfl rfl rfl ?_; intro g_ hg_))
      | (refine gl_sto0 ?_; refine gl_store tab_ok rfl rfl rfl rfl rfl rfl rfl c_one rfl c_ku ?_)
      | (refine gl_any0 ?_; refine gl_pure tab_ok rfl rfl rfl rfl rfl rfl ?_))
    | (refine gc_gate ?_; first
      | refine gc_seq ?_
      | refine gc_region ?_
      | (refine gc_cond rfl ?_ ?_ <;> intro h_ <;> have hd_ := h_ <;> (try simp only [bytes_beq, cell_beq, val_beq, stamp_beq, decide_eq_true_eq, decide_eq_false_iff_not, Bool.and_eq_true, Bool.or_eq_true, Bool.or_eq_false_iff, Bool.not_eq_true', Bool.not_eq_false', Bool.not_true, Bool.not_false, Bool.false_or, Bool.true_and, Bool.and_true, Bool.or_false, beq_iff_eq, bne_iff_ne, beq_eq_false_iff_ne, bne_eq_false_iff_eq, ne_eq, Bool.false_eq_true, reduceCtorEq] at hd_) <;> (try (exfalso; omega)))
      | refine gc_block ?_
      | refine gc_exit ?_
      | refine gc_ret ?_
      | refine gc_skip ?_)
    | (refine ge_gate ?_; first
      | ((with_reducible refine ge_gT ?_); first | with_reducible refine ge_then ?_ | with_reducible refine ge_then_exit ?_ | with_reducible refine ge_then_ret ?_)
      | ((with_reducible refine ge_gK ?_); first | with_reducible refine ge_block ?_ | refine ge_block_exit ?_ | refine ge_block_pass rfl ?_ | with_reducible refine ge_block_ret ?_)
      | ((with_reducible refine ge_gB ?_); first | refine ge_ret1 tab_ok rfl c_rvt ?_ | refine ge_end1 tab_ok rfl c_rvt ?_ | refine ge_ret2 tab_ok rfl c_rvt c_rvt ?_ | refine ge_ret_none rfl ?_ | refine ge_end_none rfl ?_))
  · have ht : (listM m).take (i + 1) = (listM m).take i ++ [⟨(sortC (m.map (·.1))).getD i default, mgetD m ((sortC (m.map (·.1))).getD i default) v00⟩] := by
      rw [List.take_succ_eq_append_getElem (by omega)]
      congr 2
      simp [listM, List.getD, show i < (sortC (m.map (·.1))).length by omega]
    generalize hcc : (sortC (m.map (·.1))).getD i default = cc at *
    refine gp_startC (St w [] [(g_, true, .cells cc.l.toArray 25 (0, 0)), (g, false, .map es clock)]) c_cl2 [7] #[false, false, false, false, false, false, false, false, false] mixed rfl rfl c_qp ?_; intro hqp_
    refine gp_take 0 #[true, false, false, false, false, false, false, false, false] hqp_ rfl (by kernel_rfl) (yv_pure tab_ok c_gok rfl rfl c_allT) c_cl2 rfl rfl ?_
    refine gp_take 1 #[true, true, false, false, false, false, false, false, false] hqp_ rfl (by kernel_rfl) (yv_load tab_ok c_gok rfl rfl c_imp c_mem (fun _ => c_lds)) c_cl2 rfl rfl ?_
    refine gp_take 2 #[true, true, true, false, false, false, false, false, false] hqp_ rfl (by kernel_rfl) (yv_pure tab_ok c_gok rfl rfl c_allT) c_cl2 rfl rfl ?_
    refine gp_take 3 #[true, true, true, true, false, false, false, false, false] hqp_ rfl (by kernel_rfl) (yv_load tab_ok c_gok rfl rfl c_imp c_mem (fun _ => c_lds)) c_cl2 rfl rfl ?_
    refine gp_take 4 #[true, true, true, true, true, false, false, false, false] hqp_ rfl (by kernel_rfl) (((yv_lookup (c := false) (kf := kCell) (vf := vV) (k := cc) (z0 := v00) key_cell tab_ok zero_val c_gok rfl rfl rfl rfl c_imp c_imp hm c_mem).cast (v' := vV (mgetD m cc v00)) rfl)) c_cl2 rfl rfl ?_
    refine gp_take 5 #[true, true, true, true, true, true, false, false, false] hqp_ rfl (by kernel_rfl) (yv_pure tab_ok c_gok rfl rfl c_allT) c_cl2 rfl rfl ?_
    (refine gp_ev 6 #[true, true, true, true, true, true, true, false, false] rfl (by kernel_rfl) rfl rfl rfl (ev_buildSlice tab_ok rfl rfl rfl rfl rfl rfl rfl rfl rfl rfl ?_); intro g_ hg_; refine ⟨c_cl2, ?_⟩)
    (refine gp_last 7 #[true, true, true, true, true, true, true, true, false] rfl (by kernel_rfl) (by simp) rfl rfl (ev_append tab_ok rfl rfl rfl rfl rfl rfl rfl rfl c_oa ho c_src c_lim c_lim ?_); intro p_ c_ sp_ hw_)
    refine gp_take 8 #[true, true, true, true, true, true, true, true, true] hqp_ rfl (by kernel_rfl) (yv_pure tab_ok c_gok rfl rfl c_allT) c_cl2 rfl rfl ?_
    refine gp_done (by kernel_rfl) ?_; clear hqp_
    repeat' first
      | (refine gl_gate ?_; first
        | refine gl_nil ?_
        | (refine gl_add0 ?_; refine gl_yv (yv_add tab_ok (gok_none rfl) rfl rfl rfl rfl (fun _ => allT_of rfl) (by intro _; omega)) rfl rfl ?_)
        | (refine gl_any0 ?_; refine gl_pure tab_ok rfl rfl rfl rfl rfl rfl ?_))
      | (refine gc_gate ?_; first
        | refine gc_region ?_)
      | (refine ge_gate ?_; first
        | ((with_reducible refine ge_gT ?_); first | with_reducible refine ge_then ?_ | with_reducible refine ge_then_exit ?_ | with_reducible refine ge_then_ret ?_)
        | ((with_reducible refine ge_gK ?_); first | with_reducible refine ge_block ?_ | refine ge_block_exit ?_ | refine ge_block_pass rfl ?_ | with_reducible refine ge_block_ret ?_))
    refine ge_round (i + 1, p_, c_, sp_) ⟨by omega, ?_⟩ (by show m.length - (i + 1) < m.length - i; omega) c_frs ?_
    · show Ow p_ (i + 1) c_ 6 (cat Shown.l ((listM m).take (i + 1))) sp_
      rw [ht, cat_snoc]
      exact hw_
    · dsimp only
      rw [ht, cat_snoc]
      exact List.Sublist.append (List.Sublist.refl _) (List.Sublist.cons _ (List.Sublist.cons _ (List.Sublist.refl _)))
  · intro W hW
    have h1 : i = (listM m).length := by omega
    rw [h1, List.take_length] at ho
    rw [h1, List.take_length] at hW
    rw [h1]
    exact ⟨q, c, sp, rfl, ho, hW.drop (List.sublist_append_left _ _)⟩
theorem ct_ListN (w : World) : Calls Try.prog 159 #[.map none] w (RetOw w 0 6 [] 120) := by
  refine enter (args := [_]) (M := []) (K := []) Try.func159 rfl Try.ntmps159 rfl (St.refl _ _) ?_
  repeat' first
    | (refine gl_gate ?_; first
      | refine gl_nil ?_
      | (refine gl_any0 ?_; (refine gl_ev (ev_callOw rfl rfl ent203 rfl rfl rfl (fun W hW => ct_SortedN W) ?_) rfl rfl; intro q1_ c1_ sp1_ hw1_))
      | (refine gl_any0 ?_; refine gl_pure tab_ok rfl rfl rfl rfl rfl rfl ?_))
    | (refine gc_gate ?_; first
      | refine gc_seq ?_
      | refine gc_region ?_
      | refine gc_block ?_)
    | (refine ge_gate ?_; first
      | ((with_reducible refine ge_gT ?_); first | with_reducible refine ge_then ?_ | with_reducible refine ge_then_exit ?_ | with_reducible refine ge_then_ret ?_))
  refine gc_rounds 0 ?_
  repeat' first
    | (refine gl_gate ?_; first
      | refine gl_nil ?_
      | (refine gl_any0 ?_; refine gl_pure tab_ok rfl rfl rfl rfl rfl rfl ?_))
    | (refine gc_gate ?_; first
      | refine gc_seq ?_
      | refine gc_region ?_
      | refine gc_false rfl ?_
      | refine gc_exit ?_
      | refine gc_ret ?_)
    | (refine ge_gate ?_; first
      | ((with_reducible refine ge_gT ?_); first | with_reducible refine ge_then ?_ | with_reducible refine ge_then_exit ?_ | with_reducible refine ge_then_ret ?_)
      | ((with_reducible refine ge_gK ?_); first | with_reducible refine ge_block ?_ | refine ge_block_exit ?_ | refine ge_block_pass rfl ?_ | with_reducible refine ge_block_ret ?_)
      | ((with_reducible refine ge_gB ?_); first | refine ge_ret1 tab_ok rfl c_rvt ?_ | refine ge_end1 tab_ok rfl c_rvt ?_ | refine ge_ret2 tab_ok rfl c_rvt c_rvt ?_ | refine ge_ret_none rfl ?_ | refine ge_end_none rfl ?_))
  intro W hW
  exact ⟨none, 0, [], rfl, Ow.none0, hW.drop (List.nil_sublist _)⟩
end Go.Proofs.Ytkgjfcjciigcgaa
