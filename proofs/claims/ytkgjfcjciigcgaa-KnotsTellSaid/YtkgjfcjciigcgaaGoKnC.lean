import Derived.Test.YtkgjfcjciigcgaaGoDepsQB
import Derived.Test.YtkgjfcjciigcgaaGoKnA
import Derived.Test.YtkgjfcjciigcgaaGoKnB
/-
  The reference's ready: are all cells told that a knot reads, but its own?
-/
namespace Go.Proofs.Ytkgjfcjciigcgaa
open Go.Proofs.Ytkgjfcjciigcgaa.Sl Go.RowKit
set_option linter.unusedVariables false
set_option linter.unusedSimpArgs false
set_option linter.unusedSectionVars false
set_option maxRecDepth 100000

theorem ct_readyR {l : List En} {g : Nat} {D : DR} {k : KP} {out : List Kn} {T : List Cell} {pt : Option Addr} {ct : Nat} {w : World} (h : DpR w l g D) (hl : l.length ≤ 1000) (hk : SlA w 3 k.p k.kn.cells.length (fun i => (k.kn.cells.getD i default).l)) (hT : SlA w 3 pt T.length (fun i => (T.getD i default).l)) (hkl : k.kn.cells.length ≤ 1000) (hTl : T.length ≤ 1000000) (hTo : ∀ c, c ∈ T ↔ ∃ m ∈ out, c ∈ m.cells) :
    Calls Try.prog 185 #[.pointer (some (ad g)), .agg k.l.toArray, .slice pt T.length ct] w fun e w' => e = .returned (.bool (rdyD l out k.kn)) ∧ Bl w w' := by
  obtain ⟨kp, ⟨C, rnd⟩, kc⟩ := k
  dsimp only at hk hkl ⊢
  rw [show KP.l ⟨kp, ⟨C, rnd⟩, kc⟩ = [.slice kp C.length kc, .bool rnd] from rfl]
  refine enter (args := [_, _, _]) (M := []) (K := []) Try.func185 rfl Try.ntmps185 rfl (St.refl _ _) ?_
  repeat' first
    | (refine gl_gate ?_; first
      | refine gl_nil ?_
      | (refine gl_box0 ?_; first | (refine gl_box_agg rfl rfl rfl rfl rfl ?_; intro g_ hg_) | (refine gl_box_one rfl rfl rfl rfl rfl rfl ?_; intro g_ hg_) | (refine gl_box rfl rfl rfl rfl rfl ?_; intro g_ hg_))
      | (refine gl_any0 ?_; refine gl_pure tab_ok rfl rfl rfl rfl rfl rfl ?_))
    | (refine gc_gate ?_; first
      | refine gc_seq ?_
      | refine gc_region ?_
      | refine gc_block ?_)
    | (refine ge_gate ?_; first
      | ((with_reducible refine ge_gT ?_); first | with_reducible refine ge_then ?_ | with_reducible refine ge_then_exit ?_ | with_reducible refine ge_then_ret ?_))
  revert g_
  intro g4 hg4
  refine gc_loop (α := Nat) (fun i => [(0, true, .pointer (some (ad g))), (2, true, .slice pt T.length ct), (4, true, .pointer (some ⟨g4, 0, none⟩)), (7, true, .int .i64 (i : Int))])
    (fun _ => [(g4, true, .cells [.slice kp C.length kc, .bool rnd].toArray 152 (0, 0))]) (fun i => i ≤ C.length ∧ ∀ x ∈ C.take i, ∀ r ∈ rdD l x, (∃ m ∈ out, r ∈ m.cells) ∨ r ∈ C) (fun i => C.length - i) 0 c_frs (List.Sublist.refl _) ⟨Nat.zero_le _, fun x hx => absurd hx (by simp)⟩ ?_
  rintro i ⟨hi, he⟩
  repeat' first
    | (refine gl_gate ?_; first
      | refine gl_nil ?_
      | (refine gl_load0 ?_; refine gl_yv (yv_load tab_ok (gok_none rfl) rfl rfl (fun _ => rfl) c_mem (fun _ => c_lds)) rfl rfl ?_)
      | (refine gl_any0 ?_; refine gl_pure tab_ok rfl rfl rfl rfl rfl rfl ?_))
    | (refine gc_gate ?_; first
      | refine gc_seq ?_
      | refine gc_region ?_)
    | (refine ge_gate ?_; first
      | ((with_reducible refine ge_gT ?_); first | with_reducible refine ge_then ?_ | with_reducible refine ge_then_exit ?_ | with_reducible refine ge_then_ret ?_))
  (refine gc_cond rfl ?_ ?_ <;> intro h_ <;> have hd_ := h_ <;> (try simp only [bytes_beq, cell_beq, val_beq, stamp_beq, decide_eq_true_eq, decide_eq_false_iff_not, Bool.and_eq_true, Bool.or_eq_true, Bool.or_eq_false_iff, Bool.not_eq_true', Bool.not_eq_false', Bool.not_true, Bool.not_false, Bool.false_or, Bool.true_and, Bool.and_true, Bool.or_false, beq_iff_eq, bne_iff_ne, beq_eq_false_iff_ne, bne_eq_false_iff_eq, ne_eq, Bool.false_eq_true, reduceCtorEq] at hd_) <;> (try (exfalso; omega)))
  · have hil : i < C.length := by omega
    have hxC := getD_mem C i hil
    have hstep := take_succD C i hil
    generalize hxx : C.getD i default = x at *
    have hrl := rdD_len l x
    obtain ⟨q, d, hv⟩ := rvD_shape D l x
    repeat' first
      | (refine gl_idx0 ?_; refine gl_yv (yv_idxA tab_ok hk (gok_none rfl) rfl rfl rfl rfl rfl rfl (fun _ => rfl) (fun _ => rfl) c_bnd) rfl rfl ?_)
      | (refine gl_load0 ?_; refine gl_yv (yv_ldA0 (v := .agg x.l.toArray) (i := i) tab_ok hk c_nm (gok_none rfl) rfl rfl (fun _ => rfl) c_bnd (fun _ => by rw [hxx]; exact lds_agg rfl rfl rfl)) rfl rfl ?_)
      | (refine gl_gate ?_; first
        | refine gl_nil ?_
        | (refine gl_load0 ?_; refine gl_yv (yv_load tab_ok (gok_none rfl) rfl rfl (fun _ => rfl) c_mem (fun _ => c_lds)) rfl rfl ?_)
        | (refine gl_calv0 ?_; first | refine gl_yd (yd_call (gok_none rfl) rfl ent114 rfl rfl (fun _ => allT_of rfl) (fun _ W hW => ct_ReadsD2 W hv (h.st hW) hl)) rfl rfl ?_)
        | (refine gl_any0 ?_; refine gl_pure tab_ok rfl rfl rfl rfl rfl rfl ?_))
      | (refine gc_gate ?_; first
        | refine gc_seq ?_
        | refine gc_region ?_
        | refine gc_block ?_
        | refine gc_skip ?_)
      | (refine ge_gate ?_; first
        | ((with_reducible refine ge_gT ?_); first | with_reducible refine ge_then ?_ | with_reducible refine ge_then_exit ?_ | with_reducible refine ge_then_ret ?_))
    have hrow := rvD_sl h hv
    refine gc_loop (α := Nat) (fun j => [(0, true, .pointer (some (ad g))), (2, true, .slice pt T.length ct), (4, true, .pointer (some ⟨g4, 0, none⟩)), (7, true, .int .i64 (i : Int)), (8, true, .slice q (rdD l x).length d), (9, true, .int .i64 (j : Int))])
      (fun _ => [(g4, true, .cells [.slice kp C.length kc, .bool rnd].toArray 152 (0, 0))]) (fun j => j ≤ (rdD l x).length ∧ ∀ r ∈ (rdD l x).take j, (∃ m ∈ out, r ∈ m.cells) ∨ r ∈ C) (fun j => (rdD l x).length - j) 0 c_frs (List.Sublist.refl _) ⟨Nat.zero_le _, fun r hr => absurd hr (by simp)⟩ ?_
    rintro j ⟨hj, hej⟩
    repeat' first
      | (refine gl_gate ?_; first
        | refine gl_nil ?_
        | (refine gl_any0 ?_; refine gl_pure tab_ok rfl rfl rfl rfl rfl rfl ?_))
      | (refine gc_gate ?_; first
        | refine gc_seq ?_
        | refine gc_region ?_)
      | (refine ge_gate ?_; first
        | ((with_reducible refine ge_gT ?_); first | with_reducible refine ge_then ?_ | with_reducible refine ge_then_exit ?_ | with_reducible refine ge_then_ret ?_))
    (refine gc_cond rfl ?_ ?_ <;> intro h_ <;> have hd_ := h_ <;> (try simp only [bytes_beq, cell_beq, val_beq, stamp_beq, decide_eq_true_eq, decide_eq_false_iff_not, Bool.and_eq_true, Bool.or_eq_true, Bool.or_eq_false_iff, Bool.not_eq_true', Bool.not_eq_false', Bool.not_true, Bool.not_false, Bool.false_or, Bool.true_and, Bool.and_true, Bool.or_false, beq_iff_eq, bne_iff_ne, beq_eq_false_iff_ne, bne_eq_false_iff_eq, ne_eq, Bool.false_eq_true, reduceCtorEq] at hd_) <;> (try (exfalso; omega)))
    · have hjl : j < (rdD l x).length := by omega
      have hrR := getD_mem _ j hjl
      have hstj := take_succD (rdD l x) j hjl
      generalize hrr : (rdD l x).getD j default = r at *
      repeat' first
        | (refine gc_gate ?_; first
          | refine gc_seq ?_
          | refine gc_block ?_
          | refine gc_skip ?_)
        | (refine ge_gate ?_; first
          | ((with_reducible refine ge_gT ?_); first | with_reducible refine ge_then ?_ | with_reducible refine ge_then_exit ?_ | with_reducible refine ge_then_ret ?_))
      by_cases h1 : r ∈ T
      · refine gp_start [] #[false, false, false, false, false, false, false, false, false, false, false, false, false, false, false, false, false] mixed rfl rfl c_qp ?_; intro hqp_
        refine gp_take 0 #[true, false, false, false, false, false, false, false, false, false, false, false, false, false, false, false, false] hqp_ rfl (by kernel_rfl) (yv_pure tab_ok c_gok rfl rfl c_allT) c_cl rfl rfl ?_
        refine gp_take 1 #[true, true, false, false, false, false, false, false, false, false, false, false, false, false, false, false, false] hqp_ rfl (by kernel_rfl) (yv_pure tab_ok c_gok rfl rfl c_allT) c_cl rfl rfl ?_
        refine gp_take 2 #[true, true, true, false, false, false, false, false, false, false, false, false, false, false, false, false, false] hqp_ rfl (by kernel_rfl) (yv_pure tab_ok c_gok rfl rfl c_allT) c_cl rfl rfl ?_
        refine gp_take 3 #[true, true, true, true, false, false, false, false, false, false, false, false, false, false, false, false, false] hqp_ rfl (by kernel_rfl) ((yv_idxA tab_ok hrow c_gok rfl rfl rfl rfl rfl rfl c_imp c_imp c_bnd)) c_cl rfl rfl ?_
        refine gp_take 4 #[true, true, true, true, true, false, false, false, false, false, false, false, false, false, false, false, false] hqp_ rfl (by kernel_rfl) (((yv_ldA0 (v := .agg r.l.toArray) (i := j) tab_ok hrow c_nm c_gok rfl rfl c_imp c_bnd (fun _ => by rw [hrr]; exact lds_agg rfl rfl rfl)))) c_cl rfl rfl ?_
        refine gp_ev 5 #[true, true, true, true, true, true, false, false, false, false, false, false, false, false, false, false, false] rfl (by kernel_rfl) rfl rfl rfl (ev_callq rfl rfl ent54 rfl rfl rfl (fun W hW => ct_HasT h1 W _ _ _ rfl (hT.st hW) (by omega)) ⟨c_cl, ?_⟩)
        refine gp_take 6 #[true, true, true, true, true, true, true, false, false, false, false, false, false, false, false, false, false] hqp_ rfl (by kernel_rfl) (((yv_pure tab_ok c_gok rfl rfl c_allT).cast (v' := .bool false) rfl)) c_cl rfl rfl ?_
        refine gp_take 7 #[true, true, true, true, true, true, true, true, false, false, false, false, false, false, false, false, false] hqp_ rfl (by kernel_rfl) (yv_pure tab_ok c_gok rfl rfl c_allT) c_cl rfl rfl ?_
        refine gp_take 8 #[true, true, true, true, true, true, true, true, true, false, false, false, false, false, false, false, false] hqp_ rfl (by kernel_rfl) (yv_pure tab_ok c_gok rfl rfl c_allT) c_cl rfl rfl ?_
        refine gp_take 9 #[true, true, true, true, true, true, true, true, true, true, false, false, false, false, false, false, false] hqp_ rfl (by kernel_rfl) (yv_load tab_ok c_gok rfl rfl c_imp c_mem (fun _ => c_lds)) c_cl rfl rfl ?_
        refine gp_take 10 #[true, true, true, true, true, true, true, true, true, true, true, false, false, false, false, false, false] hqp_ rfl (by kernel_rfl) (yv_pure tab_ok c_gok rfl rfl c_allT) c_cl rfl rfl ?_
        refine gp_take 11 #[true, true, true, true, true, true, true, true, true, true, true, true, false, false, false, false, false] hqp_ rfl (by kernel_rfl) (yv_pure tab_ok c_gok rfl rfl c_allT) c_cl rfl rfl ?_
        refine gp_take 12 #[true, true, true, true, true, true, true, true, true, true, true, true, true, false, false, false, false] hqp_ rfl (by kernel_rfl) ((yv_idxA tab_ok hrow c_gok rfl rfl rfl rfl rfl rfl c_imp c_imp c_bnd)) c_cl rfl rfl ?_
        refine gp_take 13 #[true, true, true, true, true, true, true, true, true, true, true, true, true, true, false, false, false] hqp_ rfl (by kernel_rfl) (((yv_ldA0 (v := .agg r.l.toArray) (i := j) tab_ok hrow c_nm c_gok rfl rfl c_imp c_bnd (fun _ => by rw [hrr]; exact lds_agg rfl rfl rfl)))) c_cl rfl rfl ?_
        refine gp_skipG 14 #[true, true, true, true, true, true, true, true, true, true, true, true, true, true, true, false, false] (Value.bool false) rfl (by kernel_rfl) rfl rfl rfl c_gok c_cl ?_
        refine gp_take 15 #[true, true, true, true, true, true, true, true, true, true, true, true, true, true, true, true, false] hqp_ rfl (by kernel_rfl) (yv_pure tab_ok c_gok rfl rfl c_allT) c_cl rfl rfl ?_
        refine gp_take 16 #[true, true, true, true, true, true, true, true, true, true, true, true, true, true, true, true, true] hqp_ rfl (by kernel_rfl) (yv_and c_gok rfl rfl rfl c_imp c_imp2) c_cl rfl rfl ?_
        refine gp_done (by kernel_rfl) ?_; clear hqp_
        repeat' first
          | (refine gl_gate ?_; first
            | refine gl_nil ?_
            | (refine gl_add0 ?_; refine gl_yv (yv_add tab_ok (gok_none rfl) rfl rfl rfl rfl (fun _ => allT_of rfl) (by intro _; omega)) rfl rfl ?_)
            | (refine gl_any0 ?_; refine gl_pure tab_ok rfl rfl rfl rfl rfl rfl ?_))
          | (refine gc_gate ?_; first
            | refine gc_region ?_
            | refine gc_false rfl ?_
            | refine gc_skip ?_)
          | (refine ge_gate ?_; first
            | ((with_reducible refine ge_gT ?_); first | with_reducible refine ge_then ?_ | with_reducible refine ge_then_exit ?_ | with_reducible refine ge_then_ret ?_)
            | ((with_reducible refine ge_gK ?_); first | with_reducible refine ge_block ?_ | refine ge_block_exit ?_ | refine ge_block_pass rfl ?_ | with_reducible refine ge_block_ret ?_))
        refine ge_round (j + 1) ⟨by omega, fun r' hr' => ?_⟩ (by omega) c_frs (List.Sublist.refl _)
        rw [hstj] at hr'
        rcases List.mem_append.1 hr' with h2 | h2
        · exact hej r' h2
        · rw [List.mem_singleton.1 h2]; exact .inl ((hTo r).1 h1)
      · by_cases h3 : r ∈ C
        · refine gp_start [] #[false, false, false, false, false, false, false, false, false, false, false, false, false, false, false, false, false] mixed rfl rfl c_qp ?_; intro hqp_
          refine gp_take 0 #[true, false, false, false, false, false, false, false, false, false, false, false, false, false, false, false, false] hqp_ rfl (by kernel_rfl) (yv_pure tab_ok c_gok rfl rfl c_allT) c_cl rfl rfl ?_
          refine gp_take 1 #[true, true, false, false, false, false, false, false, false, false, false, false, false, false, false, false, false] hqp_ rfl (by kernel_rfl) (yv_pure tab_ok c_gok rfl rfl c_allT) c_cl rfl rfl ?_
          refine gp_take 2 #[true, true, true, false, false, false, false, false, false, false, false, false, false, false, false, false, false] hqp_ rfl (by kernel_rfl) (yv_pure tab_ok c_gok rfl rfl c_allT) c_cl rfl rfl ?_
          refine gp_take 3 #[true, true, true, true, false, false, false, false, false, false, false, false, false, false, false, false, false] hqp_ rfl (by kernel_rfl) ((yv_idxA tab_ok hrow c_gok rfl rfl rfl rfl rfl rfl c_imp c_imp c_bnd)) c_cl rfl rfl ?_
          refine gp_take 4 #[true, true, true, true, true, false, false, false, false, false, false, false, false, false, false, false, false] hqp_ rfl (by kernel_rfl) (((yv_ldA0 (v := .agg r.l.toArray) (i := j) tab_ok hrow c_nm c_gok rfl rfl c_imp c_bnd (fun _ => by rw [hrr]; exact lds_agg rfl rfl rfl)))) c_cl rfl rfl ?_
          refine gp_ev 5 #[true, true, true, true, true, true, false, false, false, false, false, false, false, false, false, false, false] rfl (by kernel_rfl) rfl rfl rfl (ev_callq rfl rfl ent54 rfl rfl rfl (fun W hW => ct_HasF h1 W _ _ _ rfl (hT.st hW) (by omega)) ⟨c_cl, ?_⟩)
          refine gp_take 6 #[true, true, true, true, true, true, true, false, false, false, false, false, false, false, false, false, false] hqp_ rfl (by kernel_rfl) (((yv_pure tab_ok c_gok rfl rfl c_allT).cast (v' := .bool true) rfl)) c_cl rfl rfl ?_
          refine gp_take 7 #[true, true, true, true, true, true, true, true, false, false, false, false, false, false, false, false, false] hqp_ rfl (by kernel_rfl) (yv_pure tab_ok c_gok rfl rfl c_allT) c_cl rfl rfl ?_
          refine gp_take 8 #[true, true, true, true, true, true, true, true, true, false, false, false, false, false, false, false, false] hqp_ rfl (by kernel_rfl) (yv_pure tab_ok c_gok rfl rfl c_allT) c_cl rfl rfl ?_
          refine gp_take 9 #[true, true, true, true, true, true, true, true, true, true, false, false, false, false, false, false, false] hqp_ rfl (by kernel_rfl) (yv_load tab_ok c_gok rfl rfl c_imp c_mem (fun _ => c_lds)) c_cl rfl rfl ?_
          refine gp_take 10 #[true, true, true, true, true, true, true, true, true, true, true, false, false, false, false, false, false] hqp_ rfl (by kernel_rfl) (yv_pure tab_ok c_gok rfl rfl c_allT) c_cl rfl rfl ?_
          refine gp_take 11 #[true, true, true, true, true, true, true, true, true, true, true, true, false, false, false, false, false] hqp_ rfl (by kernel_rfl) (yv_pure tab_ok c_gok rfl rfl c_allT) c_cl rfl rfl ?_
          refine gp_take 12 #[true, true, true, true, true, true, true, true, true, true, true, true, true, false, false, false, false] hqp_ rfl (by kernel_rfl) ((yv_idxA tab_ok hrow c_gok rfl rfl rfl rfl rfl rfl c_imp c_imp c_bnd)) c_cl rfl rfl ?_
          refine gp_take 13 #[true, true, true, true, true, true, true, true, true, true, true, true, true, true, false, false, false] hqp_ rfl (by kernel_rfl) (((yv_ldA0 (v := .agg r.l.toArray) (i := j) tab_ok hrow c_nm c_gok rfl rfl c_imp c_bnd (fun _ => by rw [hrr]; exact lds_agg rfl rfl rfl)))) c_cl rfl rfl ?_
          refine gp_evG 14 #[true, true, true, true, true, true, true, true, true, true, true, true, true, true, true, false, false] rfl (by kernel_rfl) rfl rfl rfl c_gok (ev_callq rfl rfl ent54 rfl rfl rfl (fun W hW => ct_HasT h3 W _ _ _ rfl (hk.st hW) (by omega)) ⟨c_cl, ?_⟩)
          refine gp_take 15 #[true, true, true, true, true, true, true, true, true, true, true, true, true, true, true, true, false] hqp_ rfl (by kernel_rfl) (yv_pure tab_ok c_gok rfl rfl c_allT) c_cl rfl rfl ?_
          refine gp_take 16 #[true, true, true, true, true, true, true, true, true, true, true, true, true, true, true, true, true] hqp_ rfl (by kernel_rfl) (yv_and c_gok rfl rfl rfl c_imp c_imp2) c_cl rfl rfl ?_
          refine gp_done (by kernel_rfl) ?_; clear hqp_
          repeat' first
            | (refine gl_gate ?_; first
              | refine gl_nil ?_
              | (refine gl_add0 ?_; refine gl_yv (yv_add tab_ok (gok_none rfl) rfl rfl rfl rfl (fun _ => allT_of rfl) (by intro _; omega)) rfl rfl ?_)
              | (refine gl_any0 ?_; refine gl_pure tab_ok rfl rfl rfl rfl rfl rfl ?_))
            | (refine gc_gate ?_; first
              | refine gc_region ?_
              | refine gc_false rfl ?_
              | refine gc_skip ?_)
            | (refine ge_gate ?_; first
              | ((with_reducible refine ge_gT ?_); first | with_reducible refine ge_then ?_ | with_reducible refine ge_then_exit ?_ | with_reducible refine ge_then_ret ?_)
              | ((with_reducible refine ge_gK ?_); first | with_reducible refine ge_block ?_ | refine ge_block_exit ?_ | refine ge_block_pass rfl ?_ | with_reducible refine ge_block_ret ?_))
          refine ge_round (j + 1) ⟨by omega, fun r' hr' => ?_⟩ (by omega) c_frs (List.Sublist.refl _)
          rw [hstj] at hr'
          rcases List.mem_append.1 hr' with h2 | h2
          · exact hej r' h2
          · rw [List.mem_singleton.1 h2]; exact .inr h3
        · refine gp_start [] #[false, false, false, false, false, false, false, false, false, false, false, false, false, false, false, false, false] mixed rfl rfl c_qp ?_; intro hqp_
          refine gp_take 0 #[true, false, false, false, false, false, false, false, false, false, false, false, false, false, false, false, false] hqp_ rfl (by kernel_rfl) (yv_pure tab_ok c_gok rfl rfl c_allT) c_cl rfl rfl ?_
          refine gp_take 1 #[true, true, false, false, false, false, false, false, false, false, false, false, false, false, false, false, false] hqp_ rfl (by kernel_rfl) (yv_pure tab_ok c_gok rfl rfl c_allT) c_cl rfl rfl ?_
          refine gp_take 2 #[true, true, true, false, false, false, false, false, false, false, false, false, false, false, false, false, false] hqp_ rfl (by kernel_rfl) (yv_pure tab_ok c_gok rfl rfl c_allT) c_cl rfl rfl ?_
          refine gp_take 3 #[true, true, true, true, false, false, false, false, false, false, false, false, false, false, false, false, false] hqp_ rfl (by kernel_rfl) ((yv_idxA tab_ok hrow c_gok rfl rfl rfl rfl rfl rfl c_imp c_imp c_bnd)) c_cl rfl rfl ?_
          refine gp_take 4 #[true, true, true, true, true, false, false, false, false, false, false, false, false, false, false, false, false] hqp_ rfl (by kernel_rfl) (((yv_ldA0 (v := .agg r.l.toArray) (i := j) tab_ok hrow c_nm c_gok rfl rfl c_imp c_bnd (fun _ => by rw [hrr]; exact lds_agg rfl rfl rfl)))) c_cl rfl rfl ?_
          refine gp_ev 5 #[true, true, true, true, true, true, false, false, false, false, false, false, false, false, false, false, false] rfl (by kernel_rfl) rfl rfl rfl (ev_callq rfl rfl ent54 rfl rfl rfl (fun W hW => ct_HasF h1 W _ _ _ rfl (hT.st hW) (by omega)) ⟨c_cl, ?_⟩)
          refine gp_take 6 #[true, true, true, true, true, true, true, false, false, false, false, false, false, false, false, false, false] hqp_ rfl (by kernel_rfl) (((yv_pure tab_ok c_gok rfl rfl c_allT).cast (v' := .bool true) rfl)) c_cl rfl rfl ?_
          refine gp_take 7 #[true, true, true, true, true, true, true, true, false, false, false, false, false, false, false, false, false] hqp_ rfl (by kernel_rfl) (yv_pure tab_ok c_gok rfl rfl c_allT) c_cl rfl rfl ?_
          refine gp_take 8 #[true, true, true, true, true, true, true, true, true, false, false, false, false, false, false, false, false] hqp_ rfl (by kernel_rfl) (yv_pure tab_ok c_gok rfl rfl c_allT) c_cl rfl rfl ?_
          refine gp_take 9 #[true, true, true, true, true, true, true, true, true, true, false, false, false, false, false, false, false] hqp_ rfl (by kernel_rfl) (yv_load tab_ok c_gok rfl rfl c_imp c_mem (fun _ => c_lds)) c_cl rfl rfl ?_
          refine gp_take 10 #[true, true, true, true, true, true, true, true, true, true, true, false, false, false, false, false, false] hqp_ rfl (by kernel_rfl) (yv_pure tab_ok c_gok rfl rfl c_allT) c_cl rfl rfl ?_
          refine gp_take 11 #[true, true, true, true, true, true, true, true, true, true, true, true, false, false, false, false, false] hqp_ rfl (by kernel_rfl) (yv_pure tab_ok c_gok rfl rfl c_allT) c_cl rfl rfl ?_
          refine gp_take 12 #[true, true, true, true, true, true, true, true, true, true, true, true, true, false, false, false, false] hqp_ rfl (by kernel_rfl) ((yv_idxA tab_ok hrow c_gok rfl rfl rfl rfl rfl rfl c_imp c_imp c_bnd)) c_cl rfl rfl ?_
          refine gp_take 13 #[true, true, true, true, true, true, true, true, true, true, true, true, true, true, false, false, false] hqp_ rfl (by kernel_rfl) (((yv_ldA0 (v := .agg r.l.toArray) (i := j) tab_ok hrow c_nm c_gok rfl rfl c_imp c_bnd (fun _ => by rw [hrr]; exact lds_agg rfl rfl rfl)))) c_cl rfl rfl ?_
          refine gp_evG 14 #[true, true, true, true, true, true, true, true, true, true, true, true, true, true, true, false, false] rfl (by kernel_rfl) rfl rfl rfl c_gok (ev_callq rfl rfl ent54 rfl rfl rfl (fun W hW => ct_HasF h3 W _ _ _ rfl (hk.st hW) (by omega)) ⟨c_cl, ?_⟩)
          refine gp_take 15 #[true, true, true, true, true, true, true, true, true, true, true, true, true, true, true, true, false] hqp_ rfl (by kernel_rfl) (yv_pure tab_ok c_gok rfl rfl c_allT) c_cl rfl rfl ?_
          refine gp_take 16 #[true, true, true, true, true, true, true, true, true, true, true, true, true, true, true, true, true] hqp_ rfl (by kernel_rfl) (yv_and c_gok rfl rfl rfl c_imp c_imp2) c_cl rfl rfl ?_
          refine gp_done (by kernel_rfl) ?_; clear hqp_
          repeat' first
            | (refine gl_gate ?_; first
              | refine gl_nil ?_
              | (refine gl_any0 ?_; refine gl_pure tab_ok rfl rfl rfl rfl rfl rfl ?_))
            | (refine gc_gate ?_; first
              | refine gc_seq ?_
              | refine gc_region ?_
              | refine gc_true rfl ?_
              | refine gc_ret ?_)
            | (refine ge_gate ?_; first
              | ((with_reducible refine ge_gT ?_); first | with_reducible refine ge_then ?_ | with_reducible refine ge_then_exit ?_ | with_reducible refine ge_then_ret ?_)
              | ((with_reducible refine ge_gK ?_); first | with_reducible refine ge_block ?_ | refine ge_block_exit ?_ | refine ge_block_pass rfl ?_ | with_reducible refine ge_block_ret ?_)
              | ((with_reducible refine ge_gB ?_); first | refine ge_ret1 tab_ok rfl c_rvt ?_ | refine ge_end1 tab_ok rfl c_rvt ?_ | refine ge_ret2 tab_ok rfl c_rvt c_rvt ?_ | refine ge_ret_none rfl ?_ | refine ge_end_none rfl ?_))
          intro W hW
          refine ⟨?_, hW.below0⟩
          have : rdyD l out ⟨C, rnd⟩ = false := Bool.eq_false_iff.2 fun h7 => (rdyD_iff.1 h7 x hxC r hrR).elim (fun h8 => h1 ((hTo r).2 h8)) h3
          rw [this]
    · repeat' first
        | (refine gl_gate ?_; first
          | refine gl_nil ?_
          | (refine gl_add0 ?_; refine gl_yv (yv_add tab_ok (gok_none rfl) rfl rfl rfl rfl (fun _ => allT_of rfl) (by intro _; omega)) rfl rfl ?_)
          | (refine gl_any0 ?_; refine gl_pure tab_ok rfl rfl rfl rfl rfl rfl ?_))
        | (refine gc_gate ?_; first
          | refine gc_region ?_
          | refine gc_exit ?_)
        | (refine ge_gate ?_; first
          | ((with_reducible refine ge_gT ?_); first | with_reducible refine ge_then ?_ | with_reducible refine ge_then_exit ?_ | with_reducible refine ge_then_ret ?_)
          | ((with_reducible refine ge_gK ?_); first | with_reducible refine ge_block ?_ | refine ge_block_exit ?_ | refine ge_block_pass rfl ?_ | with_reducible refine ge_block_ret ?_))
      have hjl : j = (rdD l x).length := by omega
      rw [hjl, List.take_length] at hej
      refine ge_round (i + 1) ⟨by omega, fun x' hx' => ?_⟩ (by omega) c_frs (List.Sublist.refl _)
      rw [hstep] at hx'
      rcases List.mem_append.1 hx' with h1 | h1
      · exact he x' h1
      · rw [List.mem_singleton.1 h1]; exact hej
  · repeat' first
      | (refine gl_gate ?_; first
        | refine gl_nil ?_
        | (refine gl_any0 ?_; refine gl_pure tab_ok rfl rfl rfl rfl rfl rfl ?_))
      | (refine gc_gate ?_; first
        | refine gc_seq ?_
        | refine gc_region ?_
        | refine gc_exit ?_
        | refine gc_ret ?_)
      | (refine ge_gate ?_; first
        | ((with_reducible refine ge_gT ?_); first | with_reducible refine ge_then ?_ | with_reducible refine ge_then_exit ?_ | with_reducible refine ge_then_ret ?_)
        | ((with_reducible refine ge_gK ?_); first | with_reducible refine ge_block ?_ | refine ge_block_exit ?_ | refine ge_block_pass rfl ?_ | with_reducible refine ge_block_ret ?_)
        | ((with_reducible refine ge_gB ?_); first | refine ge_ret1 tab_ok rfl c_rvt ?_ | refine ge_end1 tab_ok rfl c_rvt ?_ | refine ge_ret2 tab_ok rfl c_rvt c_rvt ?_ | refine ge_ret_none rfl ?_ | refine ge_end_none rfl ?_))
    intro W hW
    refine ⟨?_, hW.below0⟩
    have hil : i = C.length := by omega
    rw [hil, List.take_length] at he
    rw [rdyD_iff.2 he]
end Go.Proofs.Ytkgjfcjciigcgaa

/-
  The reference's Order walked.
-/
namespace Go.Proofs.Ytkgjfcjciigcgaa
open Go.Proofs.Ytkgjfcjciigcgaa.Sl Go.RowKit
set_option linter.unusedVariables false
set_option linter.unusedSimpArgs false
set_option linter.unusedSectionVars false
set_option maxRecDepth 100000

theorem gok_sk_t {l : List Oper} {F : Fl} {o : Oper} {j t : Nat} {p c : Bool} (h : o.guard = some (j, true)) (hj : (match nth l j with | some oj => oj.dst | none => none) = some t) (hc : Fg F t = some (p, .bool c)) (hpc : (p && c) = false) : Gok l F o false := hpc ▸ gok_tn h hj hc
theorem gok_sk_f {l : List Oper} {F : Fl} {o : Oper} {j t : Nat} {p c : Bool} (h : o.guard = some (j, false)) (hj : (match nth l j with | some oj => oj.dst | none => none) = some t) (hc : Fg F t = some (p, .bool c)) (hpc : (p && !c) = false) : Gok l F o false := hpc ▸ gok_fn h hj hc
theorem c_gokE {P : Prop} (h : P := by first | exact gok_none rfl | exact gok_f0D rfl rfl rfl | exact gok_t rfl rfl rfl | exact gok_sk_t rfl rfl rfl rfl | exact gok_sk_f rfl rfl rfl rfl | exact gok_f rfl rfl rfl | exact gok_tn rfl rfl rfl | exact gok_fn rfl rfl rfl) : P := h
structure OaS where
  i : Nat
  q : Option Nat
  d : Nat
  sp : List Value
  rs : List RS
  Ka : Kl
structure OaOk (l : List En) (s : OaS) : Prop where
  le : s.i ≤ (dC l).length
  len : s.rs.length = s.i
  ow : Ow s.q s.i s.d 1 (cat RS.l s.rs) s.sp
  n : ∀ j, j < s.i → (s.rs.getD j default).n = (aft l ((dC l).getD j default)).length
  fz : ∀ j, j < s.i → Fz s.Ka fun W => SlA W 3 (s.rs.getD j default).p (aft l ((dC l).getD j default)).length (fun m => ((aft l ((dC l).getD j default)).getD m default).l)
  wr : ∀ e ∈ s.Ka, e.2.1 = true
structure OtS where
  i : Nat
  pt : Option Nat
  ct : Nat
  st : List Value
  r : OrS
theorem ks_atR {l : List En} {ks : List KP} (h : ks.map KP.kn = allD l) {n : Nat} (hn : n < ks.length) : (ks.getD n default).kn = (allD l).getD n default := by
  rw [← h]
  simp [List.getD, hn]
theorem tldD_le' {l : List En} {n : Nat} (hn : n ≤ (allD l).length) : (tldD (ordD l n)).length ≤ l.length := tldD_le (by rw [orD_len]; exact hn)
structure ObOk (L : List Kn) (x : OrS) : Prop where
  ok : OrOk L x
  wr : ∀ e ∈ x.Ka, e.2.1 = true
set_option maxHeartbeats 8000000 in
theorem ct_OrderR {S : Nat → Prop} (l : List En) (p : Option Addr) (n cap : Nat) (w : World) (hn : n = l.length) (hs : SlA w 20 p n (fun i => (l.getD i default).l)) (hR : ∀ e ∈ l, NodeR S w e.node e.p) (hc : ∀ e ∈ l, e.node.count ≤ 400) (hl : n ≤ 1000) : Calls Try.prog 131 #[.slice p n cap] w
    (RetM w [] (fun x : OrX => .slice (x.1.q.map ad) x.1.ks.length x.1.c) (fun x => ow x.1.q true (cat KP.l x.1.ks ++ x.1.sp) 152 ++ x.1.Ka) (fun x => OrOk (orD l) x.1)) := by
  have hdl := dC_len l
  have hal := allD_len l
  refine enter (args := [_]) (M := []) (K := []) Try.func131 rfl Try.ntmps131 rfl (St.refl _ _) ?_
  repeat' first
    | (refine gl_gate ?_; first
      | refine gl_nil ?_
      | (refine gl_any0 ?_; refine gl_pure tab_ok rfl rfl rfl rfl rfl rfl ?_))
    | (refine gc_gate ?_; first
      | refine gc_seq ?_
      | refine gc_region ?_)
    | (refine ge_gate ?_; first
      | ((with_reducible refine ge_gT ?_); first | with_reducible refine ge_then ?_ | with_reducible refine ge_then_exit ?_ | with_reducible refine ge_then_ret ?_))
  refine gl_ev (ev_callM (M' := []) (K2 := _) rfl rfl ent110 rfl rfl rfl (fun W hW => ct_NewDeps (S := S) l p n cap W hn (hs.st hW) (fun e he => (hR e he).st hW) hc hl) (by simp) (fun x => x.2) (List.Sublist.refl _) (by simp) ?_) rfl rfl
  rintro ⟨⟨g, K1⟩, hK1⟩ ⟨D, hfD⟩
  dsimp only at hfD ⊢
  repeat' first
    | (refine gl_gate ?_; first
      | refine gl_nil ?_
      | (refine gl_any0 ?_; (refine gl_ev (ev_callOw rfl rfl ent112 rfl rfl rfl (fun W hW => ct_CellsD l g D W (hfD.at' hW c_kin) (by omega)) ?_) rfl rfl; intro p1 c1 sp1 hw1))
      | (refine gl_any0 ?_; refine gl_pure tab_ok rfl rfl rfl rfl rfl rfl ?_))
    | (refine gc_gate ?_; first
      | refine gc_seq ?_
      | refine gc_region ?_
      | refine gc_block ?_)
    | (refine ge_gate ?_; first
      | ((with_reducible refine ge_gT ?_); first | with_reducible refine ge_then ?_ | with_reducible refine ge_then_exit ?_ | with_reducible refine ge_then_ret ?_))
  refine gc_sq (ow p1 true (cat Cell.l (dC l) ++ sp1) 25 ++ (K1 ++ [])) c_sq ?_
  refine gc_loop (α := OaS) (fun x => [(3, true, .pointer (some (ad g))), (4, true, .slice (p1.map ad) (dC l).length c1), (5, true, .slice (x.q.map ad) x.i x.d), (6, true, .int .i64 (x.i : Int))])
    (fun x => ow x.q true (cat RS.l x.rs ++ x.sp) 44 ++ (ow p1 true (cat Cell.l (dC l) ++ sp1) 25 ++ (K1 ++ x.Ka))) (OaOk l) (fun x => (dC l).length - x.i) ⟨0, none, 0, [], [], []⟩ c_frs (List.Sublist.refl _) ⟨Nat.zero_le _, rfl, Ow.none0, fun j hj => absurd hj (Nat.not_lt_zero _), fun j hj => absurd hj (Nat.not_lt_zero _), fun e he => absurd he List.not_mem_nil⟩ ?_
  rintro ⟨i, q, d, sp, rs, Ka⟩ ⟨hi, hrl, hoq, hrn, hfz, hwr⟩
  dsimp only at hi hrl hoq hrn hfz hwr ⊢
  repeat' first
    | (refine gl_gate ?_; first
      | refine gl_nil ?_
      | (refine gl_any0 ?_; refine gl_pure tab_ok rfl rfl rfl rfl rfl rfl ?_))
    | (refine gc_gate ?_; first
      | refine gc_seq ?_
      | refine gc_region ?_)
    | (refine ge_gate ?_; first
      | ((with_reducible refine ge_gT ?_); first | with_reducible refine ge_then ?_ | with_reducible refine ge_then_exit ?_ | with_reducible refine ge_then_ret ?_))
  (refine gc_cond rfl ?_ ?_ <;> intro h_ <;> have hd_ := h_ <;> (try simp only [bytes_beq, cell_beq, val_beq, stamp_beq, decide_eq_true_eq, decide_eq_false_iff_not, Bool.and_eq_true, Bool.or_eq_true, Bool.or_eq_false_iff, Bool.not_eq_true', Bool.not_eq_false', Bool.not_true, Bool.not_false, Bool.false_or, Bool.true_and, Bool.and_true, Bool.or_false, beq_iff_eq, bne_iff_ne, beq_eq_false_iff_ne, bne_eq_false_iff_eq, ne_eq, Bool.false_eq_true, reduceCtorEq] at hd_) <;> (try (exfalso; omega)))
  · have hiN : i < (dC l).length := by omega
    generalize hcc : (dC l).getD i default = c
    have hcl := aft_len l c
    repeat' first
      | (refine gl_idx0 ?_; refine gl_yv (yv_idxO tab_ok hw1 (gok_none rfl) rfl rfl rfl rfl rfl rfl (fun _ => rfl) (fun _ => rfl) c_bnd) rfl rfl ?_)
      | (refine gl_load0 ?_; refine gl_yv (yv_ldO (v := .agg c.l.toArray) tab_ok c_oa hw1 (gok_none rfl) rfl rfl (fun _ => rfl) (fun _ => by rw [← hcc]; exact lds_cat len_cell (by omega) rfl rfl rfl) c_bnd) rfl rfl ?_)
      | (refine gl_gate ?_; first
        | (refine gl_any0 ?_; refine gl_pure tab_ok rfl rfl rfl rfl rfl rfl ?_))
      | (refine gc_gate ?_; first
        | refine gc_seq ?_
        | refine gc_region ?_
        | refine gc_block ?_
        | refine gc_skip ?_)
      | (refine ge_gate ?_; first
        | ((with_reducible refine ge_gT ?_); first | with_reducible refine ge_then ?_ | with_reducible refine ge_then_exit ?_ | with_reducible refine ge_then_ret ?_))
    refine gl_ev (ev_callOw rfl rfl ent118 rfl rfl rfl (fun W hW => ct_AfterD l g D c W (hfD.at' hW c_kin) (by omega)) ?_) rfl rfl
    intro pm cm spm hm
    have e4 : cat RS.l (rs ++ [⟨pm.map ad, (aft l c).length, cm⟩]) = cat RS.l rs ++ [.slice (pm.map ad) (aft l c).length cm] := cat_snoc ..
    have hgl : ∀ j, j < i → (rs ++ [(⟨pm.map ad, (aft l c).length, cm⟩ : RS)]).getD j default = rs.getD j default := fun j hj => by simp [List.getD, List.getElem?_append_left (show j < rs.length by omega)]
    have hgi : (rs ++ [(⟨pm.map ad, (aft l c).length, cm⟩ : RS)]).getD i default = ⟨pm.map ad, (aft l c).length, cm⟩ := by simp [List.getD, ← hrl]
    repeat' first
      | (refine gl_gate ?_; first
        | refine gl_nil ?_
        | (refine gl_add0 ?_; refine gl_yv (yv_add tab_ok (gok_none rfl) rfl rfl rfl rfl (fun _ => allT_of rfl) (by intro _; omega)) rfl rfl ?_)
        | (refine gl_app0 ?_; (refine gl_ev (ev_append tab_ok rfl rfl rfl rfl rfl rfl rfl rfl c_oa (hoq) (c_src) c_lim c_lim ?_) rfl rfl; intro p_ c_ sp_ hw_))
        | (refine gl_bld0 ?_; (refine gl_ev (ev_buildSlice tab_ok rfl rfl rfl rfl rfl rfl rfl rfl rfl rfl ?_) rfl rfl; intro g_ hg_))
        | (refine gl_any0 ?_; refine gl_pure tab_ok rfl rfl rfl rfl rfl rfl ?_))
      | (refine gc_gate ?_; first
        | refine gc_region ?_)
      | (refine ge_gate ?_; first
        | ((with_reducible refine ge_gT ?_); first | with_reducible refine ge_then ?_ | with_reducible refine ge_then_exit ?_ | with_reducible refine ge_then_ret ?_)
        | ((with_reducible refine ge_gK ?_); first | with_reducible refine ge_block ?_ | refine ge_block_exit ?_ | refine ge_block_pass rfl ?_ | with_reducible refine ge_block_ret ?_))
    refine ge_sq (ow p_ true (cat RS.l rs ++ [.slice (pm.map ad) (aft l c).length cm] ++ sp_) 44 ++ (ow p1 true (cat Cell.l (dC l) ++ sp1) 25 ++ (K1 ++ (ow pm true (cat Cell.l (aft l c) ++ spm) 25 ++ Ka)))) c_sq ?_
    refine ge_round ⟨i + 1, p_, c_, sp_, rs ++ [⟨pm.map ad, (aft l c).length, cm⟩], ow pm true (cat Cell.l (aft l c) ++ spm) 25 ++ Ka⟩ ⟨by dsimp only; omega, by dsimp only; rw [List.length_append, hrl]; rfl, by dsimp only; rw [e4]; exact hw_, fun j hj => ?_, fun j hj => ?_, fun e he => ?_⟩ (by show (dC l).length - (i + 1) < (dC l).length - i; omega) c_frs (by dsimp only; rw [e4]; exact List.Sublist.refl _)
    · dsimp only at hj ⊢
      rcases Nat.lt_or_ge j i with h | h
      · rw [hgl j h]; exact hrn j h
      · obtain rfl : j = i := by omega
        rw [hgi, hcc]
    · dsimp only at hj ⊢
      rcases Nat.lt_or_ge j i with h | h
      · rw [hgl j h]; exact (hfz j h).right
      · obtain rfl : j = i := by omega
        rw [hgi, hcc]
        exact (fz_cat (e := 25) len_cell rfl hm).left
    · rcases List.mem_append.1 he with h | h
      · exact ow_wr e h
      · exact hwr e h
  have hiN : i = (dC l).length := by omega
  subst hiN
  repeat' first
    | (refine gl_gate ?_; first
      | refine gl_nil ?_
      | (refine gl_any0 ?_; refine gl_pure tab_ok rfl rfl rfl rfl rfl rfl ?_))
    | (refine gc_gate ?_; first
      | refine gc_seq ?_
      | refine gc_region ?_
      | refine gc_block ?_
      | refine gc_exit ?_)
    | (refine ge_gate ?_; first
      | ((with_reducible refine ge_gT ?_); first | with_reducible refine ge_then ?_ | with_reducible refine ge_then_exit ?_ | with_reducible refine ge_then_ret ?_)
      | ((with_reducible refine ge_gK ?_); first | with_reducible refine ge_block ?_ | refine ge_block_exit ?_ | refine ge_block_pass rfl ?_ | with_reducible refine ge_block_ret ?_))
  refine gc_sq (ow q true (cat RS.l rs ++ sp) 44 ++ (ow p1 true (cat Cell.l (dC l) ++ sp1) 25 ++ (K1 ++ (Ka ++ [])))) c_sq ?_
  refine gc_loop (α := Nat × OrS) (fun x => [(3, true, .pointer (some (ad g))), (4, true, .slice (p1.map ad) (dC l).length c1), (5, true, .slice (q.map ad) (dC l).length d), (7, true, .slice (x.2.q.map ad) x.2.ks.length x.2.c), (8, true, .int .i64 (x.1 : Int))])
    (fun x => ow x.2.q true (cat KP.l x.2.ks ++ x.2.sp) 152 ++ (ow q true (cat RS.l rs ++ sp) 44 ++ (ow p1 true (cat Cell.l (dC l) ++ sp1) 25 ++ (K1 ++ (Ka ++ x.2.Ka))))) (fun x => x.1 ≤ (dC l).length ∧ ObOk (allP l x.1) x.2) (fun x => (dC l).length - x.1) (0, ⟨none, 0, [], [], []⟩) c_frs (List.Sublist.refl _) ⟨Nat.zero_le _, ⟨rfl, Ow.none0, fun j hj => absurd hj (Nat.not_lt_zero _)⟩, fun e he => absurd he List.not_mem_nil⟩ ?_
  rintro ⟨i, s⟩ ⟨hi, ⟨hsk, hso, hsz⟩, hsw⟩
  dsimp only at hi hsk hso hsz hsw ⊢
  repeat' first
    | (refine gl_gate ?_; first
      | refine gl_nil ?_
      | (refine gl_any0 ?_; refine gl_pure tab_ok rfl rfl rfl rfl rfl rfl ?_))
    | (refine gc_gate ?_; first
      | refine gc_seq ?_
      | refine gc_region ?_)
    | (refine ge_gate ?_; first
      | ((with_reducible refine ge_gT ?_); first | with_reducible refine ge_then ?_ | with_reducible refine ge_then_exit ?_ | with_reducible refine ge_then_ret ?_))
  (refine gc_cond rfl ?_ ?_ <;> intro h_ <;> have hd_ := h_ <;> (try simp only [bytes_beq, cell_beq, val_beq, stamp_beq, decide_eq_true_eq, decide_eq_false_iff_not, Bool.and_eq_true, Bool.or_eq_true, Bool.or_eq_false_iff, Bool.not_eq_true', Bool.not_eq_false', Bool.not_true, Bool.not_false, Bool.false_or, Bool.true_and, Bool.and_true, Bool.or_false, beq_iff_eq, bne_iff_ne, beq_eq_false_iff_ne, bne_eq_false_iff_eq, ne_eq, Bool.false_eq_true, reduceCtorEq] at hd_) <;> (try (exfalso; omega)))
  · have hiN : i < (dC l).length := by omega
    have hcD := getD_mem (dC l) i hiN
    have hsucc := allP_succ (l := l) hiN
    have hpl := allP_len l i
    have hksl : s.ks.length = (allP l i).length := by rw [← hsk, List.length_map]
    have hni := hrn i hiN
    have hzi := hfz i hiN
    generalize hcc : (dC l).getD i default = c at *
    have hcl := aft_len l c
    have hrdl := rdD_len l c
    obtain ⟨rq, rd, hv⟩ := rvD_shape D l c
    repeat' first
      | (refine gc_gate ?_; first
        | refine gc_seq ?_
        | refine gc_block ?_
        | refine gc_skip ?_)
      | (refine ge_gate ?_; first
        | ((with_reducible refine ge_gT ?_); first | with_reducible refine ge_then ?_ | with_reducible refine ge_then_exit ?_ | with_reducible refine ge_then_ret ?_))
    refine gc_cut (σ := Nat) (fun y => [(3, true, .pointer (some (ad g))), (4, true, .slice (p1.map ad) (dC l).length c1), (5, true, .slice (q.map ad) (dC l).length d), (7, true, .slice (s.q.map ad) s.ks.length s.c), (8, true, .int .i64 (i : Int)), (9, true, .pointer (some ⟨y, 0, none⟩))])
      (fun y => (y, true, .cells [.slice none 0 0, .bool (decide (c ∈ rdD l c))].toArray 152 (0, 0)) :: (ow s.q true (cat KP.l s.ks ++ s.sp) 152 ++ (ow q true (cat RS.l rs ++ sp) 44 ++ (ow p1 true (cat Cell.l (dC l) ++ sp1) 25 ++ (K1 ++ (Ka ++ s.Ka)))))) (fun _ => True) ?_ ?_
    · refine gp_start [13] #[false, false, false, false, false, false, false, false, false, false, false, false, false, false] mixed rfl rfl c_qp ?_; intro hqp_
      refine gp_take 0 #[true, false, false, false, false, false, false, false, false, false, false, false, false, false] hqp_ rfl (by kernel_rfl) (yv_pure tab_ok c_gokD rfl rfl c_allT) c_cl rfl rfl ?_
      refine gp_take 1 #[true, true, false, false, false, false, false, false, false, false, false, false, false, false] hqp_ rfl (by kernel_rfl) (yv_pure tab_ok c_gokD rfl rfl c_allT) c_cl rfl rfl ?_
      refine gp_take 2 #[true, true, true, false, false, false, false, false, false, false, false, false, false, false] hqp_ rfl (by kernel_rfl) (yv_pure tab_ok c_gokD rfl rfl c_allT) c_cl rfl rfl ?_
      refine gp_take 3 #[true, true, true, true, false, false, false, false, false, false, false, false, false, false] hqp_ rfl (by kernel_rfl) ((yv_idxO tab_ok hw1 c_gokD rfl rfl rfl rfl rfl rfl c_imp c_imp c_bnd)) c_cl rfl rfl ?_
      refine gp_take 4 #[true, true, true, true, true, false, false, false, false, false, false, false, false, false] hqp_ rfl (by kernel_rfl) (((yv_ldO (v := .agg c.l.toArray) tab_ok c_oa hw1 c_gokD rfl rfl c_imp (fun _ => by rw [← hcc]; exact lds_cat len_cell (by omega) rfl rfl rfl) c_bnd))) c_cl rfl rfl ?_
      refine gp_take 6 #[true, true, true, true, true, false, true, false, false, false, false, false, false, false] hqp_ rfl (by kernel_rfl) (yv_pure tab_ok c_gokD rfl rfl c_allT) c_cl rfl rfl ?_
      refine gp_take 7 #[true, true, true, true, true, false, true, true, false, false, false, false, false, false] hqp_ rfl (by kernel_rfl) (yv_pure tab_ok c_gokD rfl rfl c_allT) c_cl rfl rfl ?_
      refine gp_take 8 #[true, true, true, true, true, false, true, true, true, false, false, false, false, false] hqp_ rfl (by kernel_rfl) ((yv_idxO tab_ok hw1 c_gokD rfl rfl rfl rfl rfl rfl c_imp c_imp c_bnd)) c_cl rfl rfl ?_
      refine gp_take 9 #[true, true, true, true, true, false, true, true, true, true, false, false, false, false] hqp_ rfl (by kernel_rfl) (((yv_ldO (v := .agg c.l.toArray) tab_ok c_oa hw1 c_gokD rfl rfl c_imp (fun _ => by rw [← hcc]; exact lds_cat len_cell (by omega) rfl rfl rfl) c_bnd))) c_cl rfl rfl ?_
      refine gp_rs [5, 12] (by kernel_rfl) rfl (gr_ev 5 #[true, true, true, true, true, true, true, true, true, true, false, false, false, false] rfl rfl rfl rfl rfl (ev_callq rfl rfl ent114 rfl rfl rfl (fun W hW => ct_ReadsD2 W hv (hfD.at' hW c_kin) (by omega)) ⟨c_cl, ?_⟩) (gr_ev 12 #[true, true, true, true, true, false, true, true, true, true, false, false, true, false] rfl rfl rfl rfl rfl (ev_alloc (t := 152) (dd := ⟨.struct [(44, 0), (4, 1)], 2, 32, [.slice none 0 0, .bool false]⟩) tab_ok rfl rfl rfl ?_) gr_nil))
      refine gp_rs [10, 12] (by kernel_rfl) rfl (gr_ev 10 #[true, true, true, true, true, true, true, true, true, true, true, false, false, false] rfl rfl rfl rfl rfl (ev_callq rfl rfl ent54 rfl rfl rfl (fun W hW => ct_Has W (rdD l c) c _ _ _ rfl (rvD_sl (hfD.at' hW c_kin) hv) (by omega)) ⟨c_cl, ?_⟩) (gr_ev 12 #[true, true, true, true, true, true, true, true, true, true, false, false, true, false] rfl rfl rfl rfl rfl (ev_alloc (t := 152) (dd := ⟨.struct [(44, 0), (4, 1)], 2, 32, [.slice none 0 0, .bool false]⟩) tab_ok rfl rfl rfl ?_) gr_nil))
      refine gp_take 11 #[true, true, true, true, true, true, true, true, true, true, true, true, false, false] hqp_ rfl (by kernel_rfl) (yv_pure tab_ok c_gokD rfl rfl c_allT) c_cl rfl rfl ?_
      (refine gp_ev 12 #[true, true, true, true, true, true, true, true, true, true, true, true, true, false] rfl (by kernel_rfl) rfl rfl rfl (ev_alloc (t := 152) (dd := ⟨.struct [(44, 0), (4, 1)], 2, 32, [.slice none 0 0, .bool false]⟩) tab_ok rfl rfl rfl ?_); intro g9 hg9; refine ⟨c_cl, ?_⟩)
      refine gp_last0 13 #[true, true, true, true, true, true, true, true, true, true, true, true, true, true] rfl (by kernel_rfl) (by simp) rfl (ev_store tab_ok rfl rfl rfl rfl rfl rfl c_one rfl c_ku ?_)
      refine gp_done (by kernel_rfl) ?_; clear hqp_
      rotate_left 1
      intro g9 hg9; refine ⟨c_cl, ?_⟩
      refine gp_ev 10 #[true, true, true, true, true, true, true, true, true, true, true, false, true, false] rfl (by kernel_rfl) rfl rfl rfl (ev_callq rfl rfl ent54 rfl rfl rfl (fun W hW => ct_Has W (rdD l c) c _ _ _ rfl (rvD_sl (hfD.at' hW c_kin) hv) (by omega)) ⟨c_cl, ?_⟩)
      refine gp_take 11 #[true, true, true, true, true, true, true, true, true, true, true, true, true, false] hqp_ rfl (by kernel_rfl) (yv_pure tab_ok c_gokD rfl rfl c_allT) c_cl rfl rfl ?_
      refine gp_last0 13 #[true, true, true, true, true, true, true, true, true, true, true, true, true, true] rfl (by kernel_rfl) (by simp) rfl (ev_store tab_ok rfl rfl rfl rfl rfl rfl c_one rfl c_ku ?_)
      refine gp_done (by kernel_rfl) ?_; clear hqp_
      rotate_left 1
      intro g9 hg9; refine ⟨c_cl, ?_⟩
      refine gp_ev 5 #[true, true, true, true, true, true, true, true, true, true, false, false, true, false] rfl (by kernel_rfl) rfl rfl rfl (ev_callq rfl rfl ent114 rfl rfl rfl (fun W hW => ct_ReadsD2 W hv (hfD.at' hW c_kin) (by omega)) ⟨c_cl, ?_⟩)
      refine gp_ev 10 #[true, true, true, true, true, true, true, true, true, true, true, false, true, false] rfl (by kernel_rfl) rfl rfl rfl (ev_callq rfl rfl ent54 rfl rfl rfl (fun W hW => ct_Has W (rdD l c) c _ _ _ rfl (rvD_sl (hfD.at' hW c_kin) hv) (by omega)) ⟨c_cl, ?_⟩)
      refine gp_take 11 #[true, true, true, true, true, true, true, true, true, true, true, true, true, false] hqp_ rfl (by kernel_rfl) (yv_pure tab_ok c_gokD rfl rfl c_allT) c_cl rfl rfl ?_
      refine gp_last0 13 #[true, true, true, true, true, true, true, true, true, true, true, true, true, true] rfl (by kernel_rfl) (by simp) rfl (ev_store tab_ok rfl rfl rfl rfl rfl rfl c_one rfl c_ku ?_)
      refine gp_done (by kernel_rfl) ?_; clear hqp_
      all_goals
        exact ge_mid g9 trivial c_frs (List.Sublist.refl _)
    rintro g9 -
    repeat' first
      | (refine gl_gate ?_; first
        | refine gl_nil ?_
        | (refine gl_any0 ?_; refine gl_pure tab_ok rfl rfl rfl rfl rfl rfl ?_))
      | (refine gc_gate ?_; first
        | refine gc_seq ?_
        | refine gc_region ?_
        | refine gc_block ?_)
      | (refine ge_gate ?_; first
        | ((with_reducible refine ge_gT ?_); first | with_reducible refine ge_then ?_ | with_reducible refine ge_then_exit ?_ | with_reducible refine ge_then_ret ?_))
    refine gc_loop (α := Nat × Option Nat × Nat × List Value) (fun x => [(3, true, .pointer (some (ad g))), (4, true, .slice (p1.map ad) (dC l).length c1), (5, true, .slice (q.map ad) (dC l).length d), (7, true, .slice (s.q.map ad) s.ks.length s.c), (8, true, .int .i64 (i : Int)), (9, true, .pointer (some ⟨g9, 0, none⟩)), (10, true, .bool (fsI l c x.1)), (11, true, .int .i64 (x.1 : Int))])
      (fun x => (g9, true, .cells [.slice (x.2.1.map ad) (clI l c x.1).length x.2.2.1, .bool (decide (c ∈ rdD l c))].toArray 152 (0, 0)) :: (ow x.2.1 true (cat Cell.l (clI l c x.1) ++ x.2.2.2) 25 ++ (ow s.q true (cat KP.l s.ks ++ s.sp) 152 ++ (ow q true (cat RS.l rs ++ sp) 44 ++ (ow p1 true (cat Cell.l (dC l) ++ sp1) 25 ++ (K1 ++ (Ka ++ s.Ka))))))) (fun x => x.1 ≤ (dC l).length ∧ Ow x.2.1 (clI l c x.1).length x.2.2.1 3 (cat Cell.l (clI l c x.1)) x.2.2.2) (fun x => (dC l).length - x.1) (0, none, 0, []) ?_ (List.Sublist.refl _) ⟨Nat.zero_le _, Ow.none0⟩ ?_
    · dsimp only
      rw [fsI_zero]
      exact c_frs
    rintro ⟨j, pk, ck, spk⟩ ⟨hj, hk⟩
    dsimp only at hj hk ⊢
    have hkl := clI_len l c j
    repeat' first
      | (refine gl_gate ?_; first
        | refine gl_nil ?_
        | (refine gl_any0 ?_; refine gl_pure tab_ok rfl rfl rfl rfl rfl rfl ?_))
      | (refine gc_gate ?_; first
        | refine gc_seq ?_
        | refine gc_region ?_)
      | (refine ge_gate ?_; first
        | ((with_reducible refine ge_gT ?_); first | with_reducible refine ge_then ?_ | with_reducible refine ge_then_exit ?_ | with_reducible refine ge_then_ret ?_))
    (refine gc_cond rfl ?_ ?_ <;> intro h_ <;> have hd_ := h_ <;> (try simp only [bytes_beq, cell_beq, val_beq, stamp_beq, decide_eq_true_eq, decide_eq_false_iff_not, Bool.and_eq_true, Bool.or_eq_true, Bool.or_eq_false_iff, Bool.not_eq_true', Bool.not_eq_false', Bool.not_true, Bool.not_false, Bool.false_or, Bool.true_and, Bool.and_true, Bool.or_false, beq_iff_eq, bne_iff_ne, beq_eq_false_iff_ne, bne_eq_false_iff_eq, ne_eq, Bool.false_eq_true, reduceCtorEq] at hd_) <;> (try (exfalso; omega)))
    · have hjN : j < (dC l).length := by omega
      have hyes := clI_yes (l := l) (c := c) hjN
      have hno := clI_no (l := l) (c := c) hjN
      have hfyes := fsI_yes hiN hcc hjN
      have hfno := fsI_no (l := l) (c := c) hjN
      have hnj := hrn j hjN
      have hzj := hfz j hjN
      have hyc : j = i → (dC l).getD j default = c := fun h => by rw [h]; exact hcc
      have hyn : ¬ j = i → ¬ (dC l).getD j default = c := fun h h2 => by
        have h3 := getD_lt (dC_lt l) hiN hjN
        have h4 := getD_lt (dC_lt l) hjN hiN
        rw [hcc] at h3 h4
        rw [h2] at h3 h4
        rcases Nat.lt_or_gt_of_ne h with h5 | h5
        · exact cLt_irrefl _ (h3.2 h5)
        · exact cLt_irrefl _ (h4.2 h5)
      generalize hyy : (dC l).getD j default = y at *
      have hyl := aft_len l y
      repeat' first
        | (refine gc_gate ?_; first
          | refine gc_seq ?_
          | refine gc_block ?_
          | refine gc_skip ?_)
        | (refine ge_gate ?_; first
          | ((with_reducible refine ge_gT ?_); first | with_reducible refine ge_then ?_ | with_reducible refine ge_then_exit ?_ | with_reducible refine ge_then_ret ?_))
      refine gc_cut (σ := Unit) (fun _ => [(3, true, .pointer (some (ad g))), (4, true, .slice (p1.map ad) (dC l).length c1), (5, true, .slice (q.map ad) (dC l).length d), (7, true, .slice (s.q.map ad) s.ks.length s.c), (8, true, .int .i64 (i : Int)), (9, true, .pointer (some ⟨g9, 0, none⟩)), (10, true, .bool (fsI l c j)), (11, true, .int .i64 (j : Int)), (82, true, .bool (inD l c y))]) (fun _ => (g9, true, .cells [.slice (pk.map ad) (clI l c j).length ck, .bool (decide (c ∈ rdD l c))].toArray 152 (0, 0)) :: (ow pk true (cat Cell.l (clI l c j) ++ spk) 25 ++ (ow s.q true (cat KP.l s.ks ++ s.sp) 152 ++ (ow q true (cat RS.l rs ++ sp) 44 ++ (ow p1 true (cat Cell.l (dC l) ++ sp1) 25 ++ (K1 ++ (Ka ++ s.Ka))))))) (fun _ => True) ?_ ?_
      · by_cases hji : j = i
        · have hin : inD l c y = true := by unfold inD; exact dec_of (.inl (hyc hji))
          rw [hin]
          refine gp_start [] #[false, false, false, false, false, false, false, false, false, false, false, false, false, false, false, false, false, false, false, false, false, false, false, false, false] mixed rfl rfl c_qp ?_; intro hqp_
          refine gp_take 0 #[true, false, false, false, false, false, false, false, false, false, false, false, false, false, false, false, false, false, false, false, false, false, false, false, false] hqp_ rfl (by kernel_rfl) (yv_pure tab_ok c_gokE rfl rfl c_allT) c_cl rfl rfl ?_
          refine gp_take 1 #[true, true, false, false, false, false, false, false, false, false, false, false, false, false, false, false, false, false, false, false, false, false, false, false, false] hqp_ rfl (by kernel_rfl) (yv_pure tab_ok c_gokE rfl rfl c_allT) c_cl rfl rfl ?_
          refine gp_take 2 #[true, true, true, false, false, false, false, false, false, false, false, false, false, false, false, false, false, false, false, false, false, false, false, false, false] hqp_ rfl (by kernel_rfl) (((yv_pure tab_ok c_gokE rfl rfl c_allT).cast (v' := .bool true) (by simp [hji]))) c_cl rfl rfl ?_
          refine gp_take 3 #[true, true, true, true, false, false, false, false, false, false, false, false, false, false, false, false, false, false, false, false, false, false, false, false, false] hqp_ rfl (by kernel_rfl) (yv_pure tab_ok c_gokE rfl rfl c_allT) c_cl rfl rfl ?_
          refine gp_take 4 #[true, true, true, true, true, false, false, false, false, false, false, false, false, false, false, false, false, false, false, false, false, false, false, false, false] hqp_ rfl (by kernel_rfl) (yv_pure tab_ok c_gokE rfl rfl c_allT) c_cl rfl rfl ?_
          refine gp_take 5 #[true, true, true, true, true, true, false, false, false, false, false, false, false, false, false, false, false, false, false, false, false, false, false, false, false] hqp_ rfl (by kernel_rfl) (yv_pure tab_ok c_gokE rfl rfl c_allT) c_cl rfl rfl ?_
          refine gp_take 6 #[true, true, true, true, true, true, true, false, false, false, false, false, false, false, false, false, false, false, false, false, false, false, false, false, false] hqp_ rfl (by kernel_rfl) ((yv_idxO tab_ok hoq c_gokE rfl rfl rfl rfl rfl rfl c_imp c_imp c_bnd)) c_cl rfl rfl ?_
          refine gp_take 7 #[true, true, true, true, true, true, true, true, false, false, false, false, false, false, false, false, false, false, false, false, false, false, false, false, false] hqp_ rfl (by kernel_rfl) (((yv_ldO (v := .slice (rs.getD i default).p (aft l c).length (rs.getD i default).c) tab_ok c_oa hoq c_gokE rfl rfl c_imp (fun _ => lds_partD (o := 0) len_rs (by omega) rfl (by decide) (lds_one rfl rfl rfl (by rw [← hni]; rfl))) c_bnd))) c_cl rfl rfl ?_
          refine gp_take 8 #[true, true, true, true, true, true, true, true, true, false, false, false, false, false, false, false, false, false, false, false, false, false, false, false, false] hqp_ rfl (by kernel_rfl) (yv_pure tab_ok c_gokE rfl rfl c_allT) c_cl rfl rfl ?_
          refine gp_take 9 #[true, true, true, true, true, true, true, true, true, true, false, false, false, false, false, false, false, false, false, false, false, false, false, false, false] hqp_ rfl (by kernel_rfl) (yv_pure tab_ok c_gokE rfl rfl c_allT) c_cl rfl rfl ?_
          refine gp_take 10 #[true, true, true, true, true, true, true, true, true, true, true, false, false, false, false, false, false, false, false, false, false, false, false, false, false] hqp_ rfl (by kernel_rfl) ((yv_idxO tab_ok hw1 c_gokE rfl rfl rfl rfl rfl rfl c_imp c_imp c_bnd)) c_cl rfl rfl ?_
          refine gp_take 11 #[true, true, true, true, true, true, true, true, true, true, true, true, false, false, false, false, false, false, false, false, false, false, false, false, false] hqp_ rfl (by kernel_rfl) (((yv_ldO (v := .agg y.l.toArray) tab_ok c_oa hw1 c_gokE rfl rfl c_imp (fun _ => by rw [← hyy]; exact lds_cat len_cell (by omega) rfl rfl rfl) c_bnd))) c_cl rfl rfl ?_
          refine gp_skipG 12 #[true, true, true, true, true, true, true, true, true, true, true, true, true, false, false, false, false, false, false, false, false, false, false, false, false] (Value.bool false) rfl (by kernel_rfl) rfl rfl rfl c_gokE c_cl ?_
          refine gp_take 13 #[true, true, true, true, true, true, true, true, true, true, true, true, true, true, false, false, false, false, false, false, false, false, false, false, false] hqp_ rfl (by kernel_rfl) (yv_pure tab_ok c_gokE rfl rfl c_allT) c_cl rfl rfl ?_
          refine gp_take 14 #[true, true, true, true, true, true, true, true, true, true, true, true, true, true, true, false, false, false, false, false, false, false, false, false, false] hqp_ rfl (by kernel_rfl) (yv_pure tab_ok c_gokE rfl rfl c_allT) c_cl rfl rfl ?_
          refine gp_take 15 #[true, true, true, true, true, true, true, true, true, true, true, true, true, true, true, true, false, false, false, false, false, false, false, false, false] hqp_ rfl (by kernel_rfl) (yv_pure tab_ok c_gokE rfl rfl c_allT) c_cl rfl rfl ?_
          refine gp_take 16 #[true, true, true, true, true, true, true, true, true, true, true, true, true, true, true, true, true, false, false, false, false, false, false, false, false] hqp_ rfl (by kernel_rfl) ((yv_idxO tab_ok hoq c_gokE rfl rfl rfl rfl rfl rfl c_imp c_imp c_bnd)) c_cl rfl rfl ?_
          refine gp_take 17 #[true, true, true, true, true, true, true, true, true, true, true, true, true, true, true, true, true, true, false, false, false, false, false, false, false] hqp_ rfl (by kernel_rfl) (((yv_ldO (v := .slice (rs.getD j default).p (aft l y).length (rs.getD j default).c) tab_ok c_oa hoq c_gokE rfl rfl c_imp (fun _ => lds_partD (o := 0) len_rs (by omega) rfl (by decide) (lds_one rfl rfl rfl (by rw [← hnj]; rfl))) c_bnd))) c_cl rfl rfl ?_
          refine gp_take 18 #[true, true, true, true, true, true, true, true, true, true, true, true, true, true, true, true, true, true, true, false, false, false, false, false, false] hqp_ rfl (by kernel_rfl) (yv_pure tab_ok c_gokE rfl rfl c_allT) c_cl rfl rfl ?_
          refine gp_take 19 #[true, true, true, true, true, true, true, true, true, true, true, true, true, true, true, true, true, true, true, true, false, false, false, false, false] hqp_ rfl (by kernel_rfl) (yv_pure tab_ok c_gokE rfl rfl c_allT) c_cl rfl rfl ?_
          refine gp_take 20 #[true, true, true, true, true, true, true, true, true, true, true, true, true, true, true, true, true, true, true, true, true, false, false, false, false] hqp_ rfl (by kernel_rfl) ((yv_idxO tab_ok hw1 c_gokE rfl rfl rfl rfl rfl rfl c_imp c_imp c_bnd)) c_cl rfl rfl ?_
          refine gp_take 21 #[true, true, true, true, true, true, true, true, true, true, true, true, true, true, true, true, true, true, true, true, true, true, false, false, false] hqp_ rfl (by kernel_rfl) (((yv_ldO (v := .agg c.l.toArray) tab_ok c_oa hw1 c_gokE rfl rfl c_imp (fun _ => by rw [← hcc]; exact lds_cat len_cell (by omega) rfl rfl rfl) c_bnd))) c_cl rfl rfl ?_
          refine gp_skipG 22 #[true, true, true, true, true, true, true, true, true, true, true, true, true, true, true, true, true, true, true, true, true, true, true, false, false] (Value.bool false) rfl (by kernel_rfl) rfl rfl rfl c_gokE c_cl ?_
          refine gp_take 23 #[true, true, true, true, true, true, true, true, true, true, true, true, true, true, true, true, true, true, true, true, true, true, true, true, false] hqp_ rfl (by kernel_rfl) (yv_and c_gokE rfl rfl rfl c_imp c_imp2) c_cl rfl rfl ?_
          refine gp_take 24 #[true, true, true, true, true, true, true, true, true, true, true, true, true, true, true, true, true, true, true, true, true, true, true, true, true] hqp_ rfl (by kernel_rfl) (yv_or c_gokE rfl rfl rfl c_imp c_imp2) c_cl rfl rfl ?_
          refine gp_done (by kernel_rfl) ?_; clear hqp_
          exact ge_mid () trivial c_frs (List.Sublist.refl _)
        · by_cases h1 : y ∈ aft l c
          · by_cases h2 : c ∈ aft l y
            · have hin : inD l c y = true := by unfold inD; exact dec_of (.inr ⟨h1, h2⟩)
              rw [hin]
              refine gp_start [] #[false, false, false, false, false, false, false, false, false, false, false, false, false, false, false, false, false, false, false, false, false, false, false, false, false] mixed rfl rfl c_qp ?_; intro hqp_
              refine gp_take 0 #[true, false, false, false, false, false, false, false, false, false, false, false, false, false, false, false, false, false, false, false, false, false, false, false, false] hqp_ rfl (by kernel_rfl) (yv_pure tab_ok c_gokE rfl rfl c_allT) c_cl rfl rfl ?_
              refine gp_take 1 #[true, true, false, false, false, false, false, false, false, false, false, false, false, false, false, false, false, false, false, false, false, false, false, false, false] hqp_ rfl (by kernel_rfl) (yv_pure tab_ok c_gokE rfl rfl c_allT) c_cl rfl rfl ?_
              refine gp_take 2 #[true, true, true, false, false, false, false, false, false, false, false, false, false, false, false, false, false, false, false, false, false, false, false, false, false] hqp_ rfl (by kernel_rfl) (((yv_pure tab_ok c_gokE rfl rfl c_allT).cast (v' := .bool false) (by simp; omega))) c_cl rfl rfl ?_
              refine gp_take 3 #[true, true, true, true, false, false, false, false, false, false, false, false, false, false, false, false, false, false, false, false, false, false, false, false, false] hqp_ rfl (by kernel_rfl) (yv_pure tab_ok c_gokE rfl rfl c_allT) c_cl rfl rfl ?_
              refine gp_take 4 #[true, true, true, true, true, false, false, false, false, false, false, false, false, false, false, false, false, false, false, false, false, false, false, false, false] hqp_ rfl (by kernel_rfl) (yv_pure tab_ok c_gokE rfl rfl c_allT) c_cl rfl rfl ?_
              refine gp_take 5 #[true, true, true, true, true, true, false, false, false, false, false, false, false, false, false, false, false, false, false, false, false, false, false, false, false] hqp_ rfl (by kernel_rfl) (yv_pure tab_ok c_gokE rfl rfl c_allT) c_cl rfl rfl ?_
              refine gp_take 6 #[true, true, true, true, true, true, true, false, false, false, false, false, false, false, false, false, false, false, false, false, false, false, false, false, false] hqp_ rfl (by kernel_rfl) ((yv_idxO tab_ok hoq c_gokE rfl rfl rfl rfl rfl rfl c_imp c_imp c_bnd)) c_cl rfl rfl ?_
              refine gp_take 7 #[true, true, true, true, true, true, true, true, false, false, false, false, false, false, false, false, false, false, false, false, false, false, false, false, false] hqp_ rfl (by kernel_rfl) (((yv_ldO (v := .slice (rs.getD i default).p (aft l c).length (rs.getD i default).c) tab_ok c_oa hoq c_gokE rfl rfl c_imp (fun _ => lds_partD (o := 0) len_rs (by omega) rfl (by decide) (lds_one rfl rfl rfl (by rw [← hni]; rfl))) c_bnd))) c_cl rfl rfl ?_
              refine gp_take 8 #[true, true, true, true, true, true, true, true, true, false, false, false, false, false, false, false, false, false, false, false, false, false, false, false, false] hqp_ rfl (by kernel_rfl) (yv_pure tab_ok c_gokE rfl rfl c_allT) c_cl rfl rfl ?_
              refine gp_take 9 #[true, true, true, true, true, true, true, true, true, true, false, false, false, false, false, false, false, false, false, false, false, false, false, false, false] hqp_ rfl (by kernel_rfl) (yv_pure tab_ok c_gokE rfl rfl c_allT) c_cl rfl rfl ?_
              refine gp_take 10 #[true, true, true, true, true, true, true, true, true, true, true, false, false, false, false, false, false, false, false, false, false, false, false, false, false] hqp_ rfl (by kernel_rfl) ((yv_idxO tab_ok hw1 c_gokE rfl rfl rfl rfl rfl rfl c_imp c_imp c_bnd)) c_cl rfl rfl ?_
              refine gp_take 11 #[true, true, true, true, true, true, true, true, true, true, true, true, false, false, false, false, false, false, false, false, false, false, false, false, false] hqp_ rfl (by kernel_rfl) (((yv_ldO (v := .agg y.l.toArray) tab_ok c_oa hw1 c_gokE rfl rfl c_imp (fun _ => by rw [← hyy]; exact lds_cat len_cell (by omega) rfl rfl rfl) c_bnd))) c_cl rfl rfl ?_
              refine gp_evG 12 #[true, true, true, true, true, true, true, true, true, true, true, true, true, false, false, false, false, false, false, false, false, false, false, false, false] rfl (by kernel_rfl) rfl rfl rfl c_gokE (ev_callq rfl rfl ent54 rfl rfl rfl (fun W hW => ct_HasT h1 W _ _ _ rfl (hzi.at' hW c_kin) (by omega)) ⟨c_cl, ?_⟩)
              refine gp_take 13 #[true, true, true, true, true, true, true, true, true, true, true, true, true, true, false, false, false, false, false, false, false, false, false, false, false] hqp_ rfl (by kernel_rfl) (yv_pure tab_ok c_gokE rfl rfl c_allT) c_cl rfl rfl ?_
              refine gp_take 14 #[true, true, true, true, true, true, true, true, true, true, true, true, true, true, true, false, false, false, false, false, false, false, false, false, false] hqp_ rfl (by kernel_rfl) (yv_pure tab_ok c_gokE rfl rfl c_allT) c_cl rfl rfl ?_
              refine gp_take 15 #[true, true, true, true, true, true, true, true, true, true, true, true, true, true, true, true, false, false, false, false, false, false, false, false, false] hqp_ rfl (by kernel_rfl) (yv_pure tab_ok c_gokE rfl rfl c_allT) c_cl rfl rfl ?_
              refine gp_take 16 #[true, true, true, true, true, true, true, true, true, true, true, true, true, true, true, true, true, false, false, false, false, false, false, false, false] hqp_ rfl (by kernel_rfl) ((yv_idxO tab_ok hoq c_gokE rfl rfl rfl rfl rfl rfl c_imp c_imp c_bnd)) c_cl rfl rfl ?_
              refine gp_take 17 #[true, true, true, true, true, true, true, true, true, true, true, true, true, true, true, true, true, true, false, false, false, false, false, false, false] hqp_ rfl (by kernel_rfl) (((yv_ldO (v := .slice (rs.getD j default).p (aft l y).length (rs.getD j default).c) tab_ok c_oa hoq c_gokE rfl rfl c_imp (fun _ => lds_partD (o := 0) len_rs (by omega) rfl (by decide) (lds_one rfl rfl rfl (by rw [← hnj]; rfl))) c_bnd))) c_cl rfl rfl ?_
              refine gp_take 18 #[true, true, true, true, true, true, true, true, true, true, true, true, true, true, true, true, true, true, true, false, false, false, false, false, false] hqp_ rfl (by kernel_rfl) (yv_pure tab_ok c_gokE rfl rfl c_allT) c_cl rfl rfl ?_
              refine gp_take 19 #[true, true, true, true, true, true, true, true, true, true, true, true, true, true, true, true, true, true, true, true, false, false, false, false, false] hqp_ rfl (by kernel_rfl) (yv_pure tab_ok c_gokE rfl rfl c_allT) c_cl rfl rfl ?_
              refine gp_take 20 #[true, true, true, true, true, true, true, true, true, true, true, true, true, true, true, true, true, true, true, true, true, false, false, false, false] hqp_ rfl (by kernel_rfl) ((yv_idxO tab_ok hw1 c_gokE rfl rfl rfl rfl rfl rfl c_imp c_imp c_bnd)) c_cl rfl rfl ?_
              refine gp_take 21 #[true, true, true, true, true, true, true, true, true, true, true, true, true, true, true, true, true, true, true, true, true, true, false, false, false] hqp_ rfl (by kernel_rfl) (((yv_ldO (v := .agg c.l.toArray) tab_ok c_oa hw1 c_gokE rfl rfl c_imp (fun _ => by rw [← hcc]; exact lds_cat len_cell (by omega) rfl rfl rfl) c_bnd))) c_cl rfl rfl ?_
              refine gp_evG 22 #[true, true, true, true, true, true, true, true, true, true, true, true, true, true, true, true, true, true, true, true, true, true, true, false, false] rfl (by kernel_rfl) rfl rfl rfl c_gokE (ev_callq rfl rfl ent54 rfl rfl rfl (fun W hW => ct_HasT h2 W _ _ _ rfl (hzj.at' hW c_kin) (by omega)) ⟨c_cl, ?_⟩)
              refine gp_take 23 #[true, true, true, true, true, true, true, true, true, true, true, true, true, true, true, true, true, true, true, true, true, true, true, true, false] hqp_ rfl (by kernel_rfl) (yv_and c_gokE rfl rfl rfl c_imp c_imp2) c_cl rfl rfl ?_
              refine gp_take 24 #[true, true, true, true, true, true, true, true, true, true, true, true, true, true, true, true, true, true, true, true, true, true, true, true, true] hqp_ rfl (by kernel_rfl) (yv_or c_gokE rfl rfl rfl c_imp c_imp2) c_cl rfl rfl ?_
              refine gp_done (by kernel_rfl) ?_; clear hqp_
              exact ge_mid () trivial c_frs (List.Sublist.refl _)
            · have hin : inD l c y = false := by unfold inD; exact dec_no fun h => h.elim (hyn hji) fun h => h2 h.2
              rw [hin]
              refine gp_start [] #[false, false, false, false, false, false, false, false, false, false, false, false, false, false, false, false, false, false, false, false, false, false, false, false, false] mixed rfl rfl c_qp ?_; intro hqp_
              refine gp_take 0 #[true, false, false, false, false, false, false, false, false, false, false, false, false, false, false, false, false, false, false, false, false, false, false, false, false] hqp_ rfl (by kernel_rfl) (yv_pure tab_ok c_gokE rfl rfl c_allT) c_cl rfl rfl ?_
              refine gp_take 1 #[true, true, false, false, false, false, false, false, false, false, false, false, false, false, false, false, false, false, false, false, false, false, false, false, false] hqp_ rfl (by kernel_rfl) (yv_pure tab_ok c_gokE rfl rfl c_allT) c_cl rfl rfl ?_
              refine gp_take 2 #[true, true, true, false, false, false, false, false, false, false, false, false, false, false, false, false, false, false, false, false, false, false, false, false, false] hqp_ rfl (by kernel_rfl) (((yv_pure tab_ok c_gokE rfl rfl c_allT).cast (v' := .bool false) (by simp; omega))) c_cl rfl rfl ?_
              refine gp_take 3 #[true, true, true, true, false, false, false, false, false, false, false, false, false, false, false, false, false, false, false, false, false, false, false, false, false] hqp_ rfl (by kernel_rfl) (yv_pure tab_ok c_gokE rfl rfl c_allT) c_cl rfl rfl ?_
              refine gp_take 4 #[true, true, true, true, true, false, false, false, false, false, false, false, false, false, false, false, false, false, false, false, false, false, false, false, false] hqp_ rfl (by kernel_rfl) (yv_pure tab_ok c_gokE rfl rfl c_allT) c_cl rfl rfl ?_
              refine gp_take 5 #[true, true, true, true, true, true, false, false, false, false, false, false, false, false, false, false, false, false, false, false, false, false, false, false, false] hqp_ rfl (by kernel_rfl) (yv_pure tab_ok c_gokE rfl rfl c_allT) c_cl rfl rfl ?_
              refine gp_take 6 #[true, true, true, true, true, true, true, false, false, false, false, false, false, false, false, false, false, false, false, false, false, false, false, false, false] hqp_ rfl (by kernel_rfl) ((yv_idxO tab_ok hoq c_gokE rfl rfl rfl rfl rfl rfl c_imp c_imp c_bnd)) c_cl rfl rfl ?_
              refine gp_take 7 #[true, true, true, true, true, true, true, true, false, false, false, false, false, false, false, false, false, false, false, false, false, false, false, false, false] hqp_ rfl (by kernel_rfl) (((yv_ldO (v := .slice (rs.getD i default).p (aft l c).length (rs.getD i default).c) tab_ok c_oa hoq c_gokE rfl rfl c_imp (fun _ => lds_partD (o := 0) len_rs (by omega) rfl (by decide) (lds_one rfl rfl rfl (by rw [← hni]; rfl))) c_bnd))) c_cl rfl rfl ?_
              refine gp_take 8 #[true, true, true, true, true, true, true, true, true, false, false, false, false, false, false, false, false, false, false, false, false, false, false, false, false] hqp_ rfl (by kernel_rfl) (yv_pure tab_ok c_gokE rfl rfl c_allT) c_cl rfl rfl ?_
              refine gp_take 9 #[true, true, true, true, true, true, true, true, true, true, false, false, false, false, false, false, false, false, false, false, false, false, false, false, false] hqp_ rfl (by kernel_rfl) (yv_pure tab_ok c_gokE rfl rfl c_allT) c_cl rfl rfl ?_
              refine gp_take 10 #[true, true, true, true, true, true, true, true, true, true, true, false, false, false, false, false, false, false, false, false, false, false, false, false, false] hqp_ rfl (by kernel_rfl) ((yv_idxO tab_ok hw1 c_gokE rfl rfl rfl rfl rfl rfl c_imp c_imp c_bnd)) c_cl rfl rfl ?_
              refine gp_take 11 #[true, true, true, true, true, true, true, true, true, true, true, true, false, false, false, false, false, false, false, false, false, false, false, false, false] hqp_ rfl (by kernel_rfl) (((yv_ldO (v := .agg y.l.toArray) tab_ok c_oa hw1 c_gokE rfl rfl c_imp (fun _ => by rw [← hyy]; exact lds_cat len_cell (by omega) rfl rfl rfl) c_bnd))) c_cl rfl rfl ?_
              refine gp_evG 12 #[true, true, true, true, true, true, true, true, true, true, true, true, true, false, false, false, false, false, false, false, false, false, false, false, false] rfl (by kernel_rfl) rfl rfl rfl c_gokE (ev_callq rfl rfl ent54 rfl rfl rfl (fun W hW => ct_HasT h1 W _ _ _ rfl (hzi.at' hW c_kin) (by omega)) ⟨c_cl, ?_⟩)
              refine gp_take 13 #[true, true, true, true, true, true, true, true, true, true, true, true, true, true, false, false, false, false, false, false, false, false, false, false, false] hqp_ rfl (by kernel_rfl) (yv_pure tab_ok c_gokE rfl rfl c_allT) c_cl rfl rfl ?_
              refine gp_take 14 #[true, true, true, true, true, true, true, true, true, true, true, true, true, true, true, false, false, false, false, false, false, false, false, false, false] hqp_ rfl (by kernel_rfl) (yv_pure tab_ok c_gokE rfl rfl c_allT) c_cl rfl rfl ?_
              refine gp_take 15 #[true, true, true, true, true, true, true, true, true, true, true, true, true, true, true, true, false, false, false, false, false, false, false, false, false] hqp_ rfl (by kernel_rfl) (yv_pure tab_ok c_gokE rfl rfl c_allT) c_cl rfl rfl ?_
              refine gp_take 16 #[true, true, true, true, true, true, true, true, true, true, true, true, true, true, true, true, true, false, false, false, false, false, false, false, false] hqp_ rfl (by kernel_rfl) ((yv_idxO tab_ok hoq c_gokE rfl rfl rfl rfl rfl rfl c_imp c_imp c_bnd)) c_cl rfl rfl ?_
              refine gp_take 17 #[true, true, true, true, true, true, true, true, true, true, true, true, true, true, true, true, true, true, false, false, false, false, false, false, false] hqp_ rfl (by kernel_rfl) (((yv_ldO (v := .slice (rs.getD j default).p (aft l y).length (rs.getD j default).c) tab_ok c_oa hoq c_gokE rfl rfl c_imp (fun _ => lds_partD (o := 0) len_rs (by omega) rfl (by decide) (lds_one rfl rfl rfl (by rw [← hnj]; rfl))) c_bnd))) c_cl rfl rfl ?_
              refine gp_take 18 #[true, true, true, true, true, true, true, true, true, true, true, true, true, true, true, true, true, true, true, false, false, false, false, false, false] hqp_ rfl (by kernel_rfl) (yv_pure tab_ok c_gokE rfl rfl c_allT) c_cl rfl rfl ?_
              refine gp_take 19 #[true, true, true, true, true, true, true, true, true, true, true, true, true, true, true, true, true, true, true, true, false, false, false, false, false] hqp_ rfl (by kernel_rfl) (yv_pure tab_ok c_gokE rfl rfl c_allT) c_cl rfl rfl ?_
              refine gp_take 20 #[true, true, true, true, true, true, true, true, true, true, true, true, true, true, true, true, true, true, true, true, true, false, false, false, false] hqp_ rfl (by kernel_rfl) ((yv_idxO tab_ok hw1 c_gokE rfl rfl rfl rfl rfl rfl c_imp c_imp c_bnd)) c_cl rfl rfl ?_
              refine gp_take 21 #[true, true, true, true, true, true, true, true, true, true, true, true, true, true, true, true, true, true, true, true, true, true, false, false, false] hqp_ rfl (by kernel_rfl) (((yv_ldO (v := .agg c.l.toArray) tab_ok c_oa hw1 c_gokE rfl rfl c_imp (fun _ => by rw [← hcc]; exact lds_cat len_cell (by omega) rfl rfl rfl) c_bnd))) c_cl rfl rfl ?_
              refine gp_evG 22 #[true, true, true, true, true, true, true, true, true, true, true, true, true, true, true, true, true, true, true, true, true, true, true, false, false] rfl (by kernel_rfl) rfl rfl rfl c_gokE (ev_callq rfl rfl ent54 rfl rfl rfl (fun W hW => ct_HasF h2 W _ _ _ rfl (hzj.at' hW c_kin) (by omega)) ⟨c_cl, ?_⟩)
              refine gp_take 23 #[true, true, true, true, true, true, true, true, true, true, true, true, true, true, true, true, true, true, true, true, true, true, true, true, false] hqp_ rfl (by kernel_rfl) (yv_and c_gokE rfl rfl rfl c_imp c_imp2) c_cl rfl rfl ?_
              refine gp_take 24 #[true, true, true, true, true, true, true, true, true, true, true, true, true, true, true, true, true, true, true, true, true, true, true, true, true] hqp_ rfl (by kernel_rfl) (yv_or c_gokE rfl rfl rfl c_imp c_imp2) c_cl rfl rfl ?_
              refine gp_done (by kernel_rfl) ?_; clear hqp_
              exact ge_mid () trivial c_frs (List.Sublist.refl _)
          · have hin : inD l c y = false := by unfold inD; exact dec_no fun h => h.elim (hyn hji) fun h => h1 h.1
            rw [hin]
            refine gp_start [] #[false, false, false, false, false, false, false, false, false, false, false, false, false, false, false, false, false, false, false, false, false, false, false, false, false] mixed rfl rfl c_qp ?_; intro hqp_
            refine gp_take 0 #[true, false, false, false, false, false, false, false, false, false, false, false, false, false, false, false, false, false, false, false, false, false, false, false, false] hqp_ rfl (by kernel_rfl) (yv_pure tab_ok c_gokE rfl rfl c_allT) c_cl rfl rfl ?_
            refine gp_take 1 #[true, true, false, false, false, false, false, false, false, false, false, false, false, false, false, false, false, false, false, false, false, false, false, false, false] hqp_ rfl (by kernel_rfl) (yv_pure tab_ok c_gokE rfl rfl c_allT) c_cl rfl rfl ?_
            refine gp_take 2 #[true, true, true, false, false, false, false, false, false, false, false, false, false, false, false, false, false, false, false, false, false, false, false, false, false] hqp_ rfl (by kernel_rfl) (((yv_pure tab_ok c_gokE rfl rfl c_allT).cast (v' := .bool false) (by simp; omega))) c_cl rfl rfl ?_
            refine gp_take 3 #[true, true, true, true, false, false, false, false, false, false, false, false, false, false, false, false, false, false, false, false, false, false, false, false, false] hqp_ rfl (by kernel_rfl) (yv_pure tab_ok c_gokE rfl rfl c_allT) c_cl rfl rfl ?_
            refine gp_take 4 #[true, true, true, true, true, false, false, false, false, false, false, false, false, false, false, false, false, false, false, false, false, false, false, false, false] hqp_ rfl (by kernel_rfl) (yv_pure tab_ok c_gokE rfl rfl c_allT) c_cl rfl rfl ?_
            refine gp_take 5 #[true, true, true, true, true, true, false, false, false, false, false, false, false, false, false, false, false, false, false, false, false, false, false, false, false] hqp_ rfl (by kernel_rfl) (yv_pure tab_ok c_gokE rfl rfl c_allT) c_cl rfl rfl ?_
            refine gp_take 6 #[true, true, true, true, true, true, true, false, false, false, false, false, false, false, false, false, false, false, false, false, false, false, false, false, false] hqp_ rfl (by kernel_rfl) ((yv_idxO tab_ok hoq c_gokE rfl rfl rfl rfl rfl rfl c_imp c_imp c_bnd)) c_cl rfl rfl ?_
            refine gp_take 7 #[true, true, true, true, true, true, true, true, false, false, false, false, false, false, false, false, false, false, false, false, false, false, false, false, false] hqp_ rfl (by kernel_rfl) (((yv_ldO (v := .slice (rs.getD i default).p (aft l c).length (rs.getD i default).c) tab_ok c_oa hoq c_gokE rfl rfl c_imp (fun _ => lds_partD (o := 0) len_rs (by omega) rfl (by decide) (lds_one rfl rfl rfl (by rw [← hni]; rfl))) c_bnd))) c_cl rfl rfl ?_
            refine gp_take 8 #[true, true, true, true, true, true, true, true, true, false, false, false, false, false, false, false, false, false, false, false, false, false, false, false, false] hqp_ rfl (by kernel_rfl) (yv_pure tab_ok c_gokE rfl rfl c_allT) c_cl rfl rfl ?_
            refine gp_take 9 #[true, true, true, true, true, true, true, true, true, true, false, false, false, false, false, false, false, false, false, false, false, false, false, false, false] hqp_ rfl (by kernel_rfl) (yv_pure tab_ok c_gokE rfl rfl c_allT) c_cl rfl rfl ?_
            refine gp_take 10 #[true, true, true, true, true, true, true, true, true, true, true, false, false, false, false, false, false, false, false, false, false, false, false, false, false] hqp_ rfl (by kernel_rfl) ((yv_idxO tab_ok hw1 c_gokE rfl rfl rfl rfl rfl rfl c_imp c_imp c_bnd)) c_cl rfl rfl ?_
            refine gp_take 11 #[true, true, true, true, true, true, true, true, true, true, true, true, false, false, false, false, false, false, false, false, false, false, false, false, false] hqp_ rfl (by kernel_rfl) (((yv_ldO (v := .agg y.l.toArray) tab_ok c_oa hw1 c_gokE rfl rfl c_imp (fun _ => by rw [← hyy]; exact lds_cat len_cell (by omega) rfl rfl rfl) c_bnd))) c_cl rfl rfl ?_
            refine gp_evG 12 #[true, true, true, true, true, true, true, true, true, true, true, true, true, false, false, false, false, false, false, false, false, false, false, false, false] rfl (by kernel_rfl) rfl rfl rfl c_gokE (ev_callq rfl rfl ent54 rfl rfl rfl (fun W hW => ct_HasF h1 W _ _ _ rfl (hzi.at' hW c_kin) (by omega)) ⟨c_cl, ?_⟩)
            refine gp_take 13 #[true, true, true, true, true, true, true, true, true, true, true, true, true, true, false, false, false, false, false, false, false, false, false, false, false] hqp_ rfl (by kernel_rfl) (yv_pure tab_ok c_gokE rfl rfl c_allT) c_cl rfl rfl ?_
            refine gp_take 14 #[true, true, true, true, true, true, true, true, true, true, true, true, true, true, true, false, false, false, false, false, false, false, false, false, false] hqp_ rfl (by kernel_rfl) (yv_pure tab_ok c_gokE rfl rfl c_allT) c_cl rfl rfl ?_
            refine gp_take 15 #[true, true, true, true, true, true, true, true, true, true, true, true, true, true, true, true, false, false, false, false, false, false, false, false, false] hqp_ rfl (by kernel_rfl) (yv_pure tab_ok c_gokE rfl rfl c_allT) c_cl rfl rfl ?_
            refine gp_take 16 #[true, true, true, true, true, true, true, true, true, true, true, true, true, true, true, true, true, false, false, false, false, false, false, false, false] hqp_ rfl (by kernel_rfl) ((yv_idxO tab_ok hoq c_gokE rfl rfl rfl rfl rfl rfl c_imp c_imp c_bnd)) c_cl rfl rfl ?_
            refine gp_take 17 #[true, true, true, true, true, true, true, true, true, true, true, true, true, true, true, true, true, true, false, false, false, false, false, false, false] hqp_ rfl (by kernel_rfl) (((yv_ldO (v := .slice (rs.getD j default).p (aft l y).length (rs.getD j default).c) tab_ok c_oa hoq c_gokE rfl rfl c_imp (fun _ => lds_partD (o := 0) len_rs (by omega) rfl (by decide) (lds_one rfl rfl rfl (by rw [← hnj]; rfl))) c_bnd))) c_cl rfl rfl ?_
            refine gp_take 18 #[true, true, true, true, true, true, true, true, true, true, true, true, true, true, true, true, true, true, true, false, false, false, false, false, false] hqp_ rfl (by kernel_rfl) (yv_pure tab_ok c_gokE rfl rfl c_allT) c_cl rfl rfl ?_
            refine gp_take 19 #[true, true, true, true, true, true, true, true, true, true, true, true, true, true, true, true, true, true, true, true, false, false, false, false, false] hqp_ rfl (by kernel_rfl) (yv_pure tab_ok c_gokE rfl rfl c_allT) c_cl rfl rfl ?_
            refine gp_take 20 #[true, true, true, true, true, true, true, true, true, true, true, true, true, true, true, true, true, true, true, true, true, false, false, false, false] hqp_ rfl (by kernel_rfl) ((yv_idxO tab_ok hw1 c_gokE rfl rfl rfl rfl rfl rfl c_imp c_imp c_bnd)) c_cl rfl rfl ?_
            refine gp_take 21 #[true, true, true, true, true, true, true, true, true, true, true, true, true, true, true, true, true, true, true, true, true, true, false, false, false] hqp_ rfl (by kernel_rfl) (((yv_ldO (v := .agg c.l.toArray) tab_ok c_oa hw1 c_gokE rfl rfl c_imp (fun _ => by rw [← hcc]; exact lds_cat len_cell (by omega) rfl rfl rfl) c_bnd))) c_cl rfl rfl ?_
            refine gp_skipG 22 #[true, true, true, true, true, true, true, true, true, true, true, true, true, true, true, true, true, true, true, true, true, true, true, false, false] (Value.bool false) rfl (by kernel_rfl) rfl rfl rfl c_gokE c_cl ?_
            refine gp_take 23 #[true, true, true, true, true, true, true, true, true, true, true, true, true, true, true, true, true, true, true, true, true, true, true, true, false] hqp_ rfl (by kernel_rfl) (yv_and c_gokE rfl rfl rfl c_imp c_imp2) c_cl rfl rfl ?_
            refine gp_take 24 #[true, true, true, true, true, true, true, true, true, true, true, true, true, true, true, true, true, true, true, true, true, true, true, true, true] hqp_ rfl (by kernel_rfl) (yv_or c_gokE rfl rfl rfl c_imp c_imp2) c_cl rfl rfl ?_
            refine gp_done (by kernel_rfl) ?_; clear hqp_
            exact ge_mid () trivial c_frs (List.Sublist.refl _)
      rintro ⟨⟩ -
      by_cases hin : inD l c y = true
      · have e3 := hyes hin
        have e4 : cat Cell.l (clI l c (j + 1)) = cat Cell.l (clI l c j) ++ y.l := by rw [e3, cat_snoc]
        have e5 : (clI l c (j + 1)).length = (clI l c j).length + 1 := by rw [e3, List.length_append]; rfl
        have e6 := hfyes hin
        rw [hin]
        repeat' first
          | (refine gc_gate ?_; first
            | refine gc_seq ?_
            | refine gc_true rfl ?_)
          | (refine ge_gate ?_; first
            | ((with_reducible refine ge_gT ?_); first | with_reducible refine ge_then ?_ | with_reducible refine ge_then_exit ?_ | with_reducible refine ge_then_ret ?_))
        refine gp_startC (St w [] ((g9, true, .cells [.slice (pk.map ad) (clI l c j).length ck, .bool (decide (c ∈ rdD l c))].toArray 152 (0, 0)) :: (ow p1 true (cat Cell.l (dC l) ++ sp1) 25 ++ []))) (by intro W_ h_; exact h_.drop (by repeat first | exact List.nil_sublist _ | apply List.Sublist.cons_cons | apply List.Sublist.cons | exact List.Sublist.append (List.Sublist.refl _) (List.nil_sublist _) | apply List.sublist_append_of_sublist_right)) [9] #[false, false, false, false, false, false, false, false, false, false] mixed rfl rfl c_qp ?_; intro hqp_
        refine gp_take 0 #[true, false, false, false, false, false, false, false, false, false] hqp_ rfl (by kernel_rfl) (yv_pure tab_ok c_gok rfl rfl c_allT) (by intro W_ h_; exact h_.drop (by repeat first | exact List.nil_sublist _ | apply List.Sublist.cons_cons | apply List.Sublist.cons | exact List.Sublist.append (List.Sublist.refl _) (List.nil_sublist _) | apply List.sublist_append_of_sublist_right)) rfl rfl ?_
        refine gp_take 1 #[true, true, false, false, false, false, false, false, false, false] hqp_ rfl (by kernel_rfl) (yv_load tab_ok c_gok rfl rfl c_imp c_mem (fun _ => c_lds)) (by intro W_ h_; exact h_.drop (by repeat first | exact List.nil_sublist _ | apply List.Sublist.cons_cons | apply List.Sublist.cons | exact List.Sublist.append (List.Sublist.refl _) (List.nil_sublist _) | apply List.sublist_append_of_sublist_right)) rfl rfl ?_
        refine gp_take 2 #[true, true, true, false, false, false, false, false, false, false] hqp_ rfl (by kernel_rfl) (yv_pure tab_ok c_gok rfl rfl c_allT) (by intro W_ h_; exact h_.drop (by repeat first | exact List.nil_sublist _ | apply List.Sublist.cons_cons | apply List.Sublist.cons | exact List.Sublist.append (List.Sublist.refl _) (List.nil_sublist _) | apply List.sublist_append_of_sublist_right)) rfl rfl ?_
        refine gp_take 3 #[true, true, true, true, false, false, false, false, false, false] hqp_ rfl (by kernel_rfl) (yv_pure tab_ok c_gok rfl rfl c_allT) (by intro W_ h_; exact h_.drop (by repeat first | exact List.nil_sublist _ | apply List.Sublist.cons_cons | apply List.Sublist.cons | exact List.Sublist.append (List.Sublist.refl _) (List.nil_sublist _) | apply List.sublist_append_of_sublist_right)) rfl rfl ?_
        refine gp_take 4 #[true, true, true, true, true, false, false, false, false, false] hqp_ rfl (by kernel_rfl) ((yv_idxO tab_ok hw1 c_gok rfl rfl rfl rfl rfl rfl c_imp c_imp c_bnd)) (by intro W_ h_; exact h_.drop (by repeat first | exact List.nil_sublist _ | apply List.Sublist.cons_cons | apply List.Sublist.cons | exact List.Sublist.append (List.Sublist.refl _) (List.nil_sublist _) | apply List.sublist_append_of_sublist_right)) rfl rfl ?_
        refine gp_take 5 #[true, true, true, true, true, true, false, false, false, false] hqp_ rfl (by kernel_rfl) (((yv_ldO (v := .agg y.l.toArray) tab_ok c_oa hw1 c_gok rfl rfl c_imp (fun _ => by rw [← hyy]; exact lds_cat len_cell (by omega) rfl rfl rfl) c_bnd))) (by intro W_ h_; exact h_.drop (by repeat first | exact List.nil_sublist _ | apply List.Sublist.cons_cons | apply List.Sublist.cons | exact List.Sublist.append (List.Sublist.refl _) (List.nil_sublist _) | apply List.sublist_append_of_sublist_right)) rfl rfl ?_
        (refine gp_ev 6 #[true, true, true, true, true, true, true, false, false, false] rfl (by kernel_rfl) rfl rfl rfl (ev_buildSlice tab_ok rfl rfl rfl rfl rfl rfl rfl rfl rfl rfl ?_); intro g_ hg_; refine ⟨(by intro W_ h_; exact h_.drop (by repeat first | exact List.nil_sublist _ | apply List.Sublist.cons_cons | apply List.Sublist.cons | exact List.Sublist.append (List.Sublist.refl _) (List.nil_sublist _) | apply List.sublist_append_of_sublist_right)), ?_⟩)
        (refine gp_ev 7 #[true, true, true, true, true, true, true, true, false, false] rfl (by kernel_rfl) rfl rfl rfl (ev_append tab_ok rfl rfl rfl rfl rfl rfl rfl rfl c_oa hk c_src c_lim c_lim ?_); intro p3 c3 sp3 hw3; refine ⟨(by intro W_ h_; exact h_.drop (by repeat first | exact List.nil_sublist _ | apply List.Sublist.cons_cons | apply List.Sublist.cons | exact List.Sublist.append (List.Sublist.refl _) (List.nil_sublist _) | apply List.sublist_append_of_sublist_right)), ?_⟩)
        refine gp_take 8 #[true, true, true, true, true, true, true, true, true, false] hqp_ rfl (by kernel_rfl) (yv_pure tab_ok c_gok rfl rfl c_allT) (by intro W_ h_; exact h_.drop (by repeat first | exact List.nil_sublist _ | apply List.Sublist.cons_cons | apply List.Sublist.cons | exact List.Sublist.append (List.Sublist.refl _) (List.nil_sublist _) | apply List.sublist_append_of_sublist_right)) rfl rfl ?_
        refine gp_last0 9 #[true, true, true, true, true, true, true, true, true, true] rfl (by kernel_rfl) (by simp) rfl (ev_store tab_ok rfl rfl rfl rfl rfl rfl c_one rfl c_ku ?_)
        refine gp_done (by kernel_rfl) ?_; clear hqp_
        repeat' first
          | (refine gl_gate ?_; first
            | refine gl_nil ?_
            | (refine gl_add0 ?_; refine gl_yv (yv_add tab_ok (gok_none rfl) rfl rfl rfl rfl (fun _ => allT_of rfl) (by intro _; omega)) rfl rfl ?_)
            | (refine gl_pick0 ?_; first | refine gl_yv (yv_and (gok_none rfl) rfl rfl rfl (fun _ => rfl) c_imp2) rfl rfl ?_ | refine gl_yv (yv_or (gok_none rfl) rfl rfl rfl (fun _ => rfl) c_imp2) rfl rfl ?_)
            | (refine gl_any0 ?_; refine gl_pure tab_ok rfl rfl rfl rfl rfl rfl ?_)
            | (refine gl_anyG ?_; first | refine gl_yv (yv_pure tab_ok c_gok rfl rfl c_allT) rfl rfl ?_ | refine gl_yv (yv_indexS tab_ok c_gok rfl rfl rfl rfl c_imp c_imp (by intro hq_; (try simp only [Bool.and_eq_true, Bool.not_eq_true', Bool.not_eq_false', Bool.or_eq_false_iff, Bool.or_eq_true, decide_eq_true_eq, decide_eq_false_iff_not, Bool.true_and, Bool.and_true] at hq_); omega)) rfl rfl ?_ | refine gl_yv (yv_indexS (i := 0) tab_ok c_gok rfl rfl rfl rfl c_imp c_imp (by intro hq_; (try simp only [Bool.and_eq_true, Bool.not_eq_true', Bool.not_eq_false', Bool.or_eq_false_iff, Bool.or_eq_true, decide_eq_true_eq, decide_eq_false_iff_not, Bool.true_and, Bool.and_true] at hq_); omega)) rfl rfl ?_))
          | (refine gc_gate ?_; first
            | refine gc_region ?_)
          | (refine ge_gate ?_; first
            | ((with_reducible refine ge_gT ?_); first | with_reducible refine ge_then ?_ | with_reducible refine ge_then_exit ?_ | with_reducible refine ge_then_ret ?_)
            | ((with_reducible refine ge_gK ?_); first | with_reducible refine ge_block ?_ | refine ge_block_exit ?_ | refine ge_block_pass rfl ?_ | with_reducible refine ge_block_ret ?_))
        refine ge_sq ((g9, true, .cells [.slice (p3.map ad) ((clI l c j).length + 1) c3, .bool (decide (c ∈ rdD l c))].toArray 152 (0, 0)) :: (ow p3 true (cat Cell.l (clI l c j) ++ y.l ++ sp3) 25 ++ (ow s.q true (cat KP.l s.ks ++ s.sp) 152 ++ (ow q true (cat RS.l rs ++ sp) 44 ++ (ow p1 true (cat Cell.l (dC l) ++ sp1) 25 ++ (K1 ++ (Ka ++ s.Ka))))))) c_sq ?_
        have e7 : (fsI l c j && decide ((j : Int) ≥ (i : Int))) = fsI l c (j + 1) := by
          rw [e6]
          congr 1
          rw [decide_eq_decide]
          omega
        rw [e7]
        exact ge_round (j + 1, p3, c3, sp3) ⟨by dsimp only; omega, by dsimp only; rw [e4, e5]; exact hw3⟩ (by show (dC l).length - (j + 1) < (dC l).length - j; omega) c_frs (by dsimp only; rw [e4, e5]; exact List.Sublist.refl _)
      · have hin' : inD l c y = false := by simpa using hin
        have e3 := hno hin'
        have e6 := hfno hin'
        rw [hin']
        repeat' first
          | (refine gl_gate ?_; first
            | refine gl_nil ?_
            | (refine gl_add0 ?_; refine gl_yv (yv_add tab_ok (gok_none rfl) rfl rfl rfl rfl (fun _ => allT_of rfl) (by intro _; omega)) rfl rfl ?_)
            | (refine gl_any0 ?_; refine gl_pure tab_ok rfl rfl rfl rfl rfl rfl ?_))
          | (refine gc_gate ?_; first
            | refine gc_region ?_
            | refine gc_false rfl ?_
            | refine gc_skip ?_)
          | (refine ge_gate ?_; first
            | ((with_reducible refine ge_gT ?_); first | with_reducible refine ge_then ?_ | with_reducible refine ge_then_exit ?_ | with_reducible refine ge_then_ret ?_)
            | ((with_reducible refine ge_gK ?_); first | with_reducible refine ge_block ?_ | refine ge_block_exit ?_ | refine ge_block_pass rfl ?_ | with_reducible refine ge_block_ret ?_))
        exact ge_round (j + 1, pk, ck, spk) ⟨by dsimp only; omega, by dsimp only; rw [e3]; exact hk⟩ (by show (dC l).length - (j + 1) < (dC l).length - j; omega) (by dsimp only; rw [e6]; exact c_frs) (by dsimp only; rw [e3]; exact List.Sublist.refl _)
    · have hjN : j = (dC l).length := by omega
      have e3 : clI l c j = clsD l c := by rw [hjN, clI_all]
      have e6 : fsI l c j = fstD l c := by rw [hjN, fsI_all]
      have hrnd := rnd_ref hcD
      rw [e3] at hk hkl ⊢
      rw [e6]
      repeat' first
        | (refine gl_gate ?_; first
          | refine gl_nil ?_
          | (refine gl_load0 ?_; refine gl_yv (yv_load tab_ok (gok_none rfl) rfl rfl (fun _ => rfl) c_mem (fun _ => c_lds)) rfl rfl ?_)
          | (refine gl_pick0 ?_; first | refine gl_yv (yv_and (gok_none rfl) rfl rfl rfl (fun _ => rfl) c_imp2) rfl rfl ?_ | refine gl_yv (yv_or (gok_none rfl) rfl rfl rfl (fun _ => rfl) c_imp2) rfl rfl ?_)
          | (refine gl_loadG ?_; refine gl_yv (yv_load tab_ok c_gok rfl rfl c_imp c_mem (fun _ => c_lds)) rfl rfl ?_)
          | (refine gl_sto0 ?_; refine gl_store tab_ok rfl rfl rfl rfl rfl rfl rfl c_one rfl c_ku ?_)
          | (refine gl_any0 ?_; refine gl_pure tab_ok rfl rfl rfl rfl rfl rfl ?_)
          | (refine gl_anyG ?_; first | refine gl_yv (yv_pure tab_ok c_gok rfl rfl c_allT) rfl rfl ?_ | refine gl_yv (yv_indexS tab_ok c_gok rfl rfl rfl rfl c_imp c_imp (by intro hq_; (try simp only [Bool.and_eq_true, Bool.not_eq_true', Bool.not_eq_false', Bool.or_eq_false_iff, Bool.or_eq_true, decide_eq_true_eq, decide_eq_false_iff_not, Bool.true_and, Bool.and_true] at hq_); omega)) rfl rfl ?_ | refine gl_yv (yv_indexS (i := 0) tab_ok c_gok rfl rfl rfl rfl c_imp c_imp (by intro hq_; (try simp only [Bool.and_eq_true, Bool.not_eq_true', Bool.not_eq_false', Bool.or_eq_false_iff, Bool.or_eq_true, decide_eq_true_eq, decide_eq_false_iff_not, Bool.true_and, Bool.and_true] at hq_); omega)) rfl rfl ?_))
        | (refine gc_gate ?_; first
          | refine gc_seq ?_
          | refine gc_region ?_
          | refine gc_exit ?_)
        | (refine ge_gate ?_; first
          | ((with_reducible refine ge_gT ?_); first | with_reducible refine ge_then ?_ | with_reducible refine ge_then_exit ?_ | with_reducible refine ge_then_ret ?_)
          | ((with_reducible refine ge_gK ?_); first | with_reducible refine ge_block ?_ | refine ge_block_exit ?_ | refine ge_block_pass rfl ?_ | with_reducible refine ge_block_ret ?_))
      have hrnd' : (decide (c ∈ rdD l c) || decide (((clsD l c).length : Int) > 1)) = rndD l c := by
        rw [← hrnd]
        congr 1
        rw [decide_eq_decide]
        omega
      rw [hrnd']
      by_cases hf : fstD l c = true
      · have e4 : cat KP.l (s.ks ++ [⟨pk.map ad, knD l c, ck⟩]) = cat KP.l s.ks ++ [.slice (pk.map ad) (clsD l c).length ck, .bool (rndD l c)] := cat_snoc ..
        have e5 : (s.ks ++ [(⟨pk.map ad, knD l c, ck⟩ : KP)]).length = s.ks.length + 1 := by rw [List.length_append]; rfl
        have hgl : ∀ j, j < s.ks.length → (s.ks ++ [(⟨pk.map ad, knD l c, ck⟩ : KP)]).getD j default = s.ks.getD j default := fun j hj => by simp [List.getD, List.getElem?_append_left hj]
        have hgi : (s.ks ++ [(⟨pk.map ad, knD l c, ck⟩ : KP)]).getD s.ks.length default = ⟨pk.map ad, knD l c, ck⟩ := by simp [List.getD]
        rw [hf, if_pos rfl] at hsucc
        rw [hf]
        repeat' first
          | (refine gl_gate ?_; first
            | refine gl_nil ?_
            | (refine gl_load0 ?_; refine gl_yv (yv_load tab_ok (gok_none rfl) rfl rfl (fun _ => rfl) c_mem (fun _ => c_lds)) rfl rfl ?_)
            | (refine gl_add0 ?_; refine gl_yv (yv_add tab_ok (gok_none rfl) rfl rfl rfl rfl (fun _ => allT_of rfl) (by intro _; omega)) rfl rfl ?_)
            | (refine gl_app0 ?_; (refine gl_ev (ev_append tab_ok rfl rfl rfl rfl rfl rfl rfl rfl c_oa (hso) (c_src) c_lim c_lim ?_) rfl rfl; intro p_ c_ sp_ hw_))
            | (refine gl_bld0 ?_; (refine gl_ev (ev_buildSlice tab_ok rfl rfl rfl rfl rfl rfl rfl rfl rfl rfl ?_) rfl rfl; intro g_ hg_))
            | (refine gl_any0 ?_; refine gl_pure tab_ok rfl rfl rfl rfl rfl rfl ?_))
          | (refine gc_gate ?_; first
            | refine gc_region ?_
            | refine gc_true rfl ?_)
          | (refine ge_gate ?_; first
            | ((with_reducible refine ge_gT ?_); first | with_reducible refine ge_then ?_ | with_reducible refine ge_then_exit ?_ | with_reducible refine ge_then_ret ?_)
            | ((with_reducible refine ge_gK ?_); first | with_reducible refine ge_block ?_ | refine ge_block_exit ?_ | refine ge_block_pass rfl ?_ | with_reducible refine ge_block_ret ?_))
        refine ge_sq (ow p_ true (cat KP.l s.ks ++ [.slice (pk.map ad) (clsD l c).length ck, .bool (rndD l c)] ++ sp_) 152 ++ (ow q true (cat RS.l rs ++ sp) 44 ++ (ow p1 true (cat Cell.l (dC l) ++ sp1) 25 ++ (K1 ++ (Ka ++ (ow pk true (cat Cell.l (clsD l c) ++ spk) 25 ++ s.Ka)))))) c_sq ?_
        refine ge_round (i + 1, ⟨p_, c_, s.ks ++ [⟨pk.map ad, knD l c, ck⟩], sp_, ow pk true (cat Cell.l (clsD l c) ++ spk) 25 ++ s.Ka⟩) ⟨by dsimp only; omega, ⟨by dsimp only; rw [hsucc, List.map_append, hsk]; rfl, by dsimp only; rw [e4, e5]; exact hw_, fun j hj => ?_⟩, fun e he => ?_⟩ (by show (dC l).length - (i + 1) < (dC l).length - i; omega) (by dsimp only; rw [e5]; exact c_frs) (by dsimp only; rw [e4]; exact List.Sublist.refl _)
        · dsimp only at hj ⊢
          rw [e5] at hj
          rcases Nat.lt_or_ge j s.ks.length with h | h
          · rw [hgl j h]; exact (hsz j h).right
          · obtain rfl : j = s.ks.length := by omega
            rw [hgi]
            exact (fz_cat (e := 25) len_cell rfl hk).left
        · rcases List.mem_append.1 he with h | h
          · exact ow_wr e h
          · exact hsw e h
      · have hf' : fstD l c = false := by simpa using hf
        rw [hf', if_neg (by simp), List.append_nil] at hsucc
        rw [hf']
        repeat' first
          | (refine gl_gate ?_; first
            | refine gl_nil ?_
            | (refine gl_add0 ?_; refine gl_yv (yv_add tab_ok (gok_none rfl) rfl rfl rfl rfl (fun _ => allT_of rfl) (by intro _; omega)) rfl rfl ?_)
            | (refine gl_any0 ?_; refine gl_pure tab_ok rfl rfl rfl rfl rfl rfl ?_))
          | (refine gc_gate ?_; first
            | refine gc_region ?_
            | refine gc_false rfl ?_
            | refine gc_skip ?_)
          | (refine ge_gate ?_; first
            | ((with_reducible refine ge_gT ?_); first | with_reducible refine ge_then ?_ | with_reducible refine ge_then_exit ?_ | with_reducible refine ge_then_ret ?_)
            | ((with_reducible refine ge_gK ?_); first | with_reducible refine ge_block ?_ | refine ge_block_exit ?_ | refine ge_block_pass rfl ?_ | with_reducible refine ge_block_ret ?_))
        refine ge_sq (ow s.q true (cat KP.l s.ks ++ s.sp) 152 ++ (ow q true (cat RS.l rs ++ sp) 44 ++ (ow p1 true (cat Cell.l (dC l) ++ sp1) 25 ++ (K1 ++ (Ka ++ s.Ka))))) c_sq ?_
        exact ge_round (i + 1, s) ⟨by dsimp only; omega, ⟨by dsimp only; rw [hsucc]; exact hsk, hso, hsz⟩, hsw⟩ (by show (dC l).length - (i + 1) < (dC l).length - i; omega) c_frs (List.Sublist.refl _)
  have hiN : i = (dC l).length := by omega
  subst hiN
  rw [allP_all] at hsk
  have hkl : s.ks.length = (allD l).length := by rw [← hsk, List.length_map]
  repeat' first
    | (refine gl_gate ?_; first
      | refine gl_nil ?_
      | (refine gl_any0 ?_; refine gl_pure tab_ok rfl rfl rfl rfl rfl rfl ?_))
    | (refine gc_gate ?_; first
      | refine gc_seq ?_
      | refine gc_region ?_
      | refine gc_block ?_
      | refine gc_exit ?_)
    | (refine ge_gate ?_; first
      | ((with_reducible refine ge_gT ?_); first | with_reducible refine ge_then ?_ | with_reducible refine ge_then_exit ?_ | with_reducible refine ge_then_ret ?_)
      | ((with_reducible refine ge_gK ?_); first | with_reducible refine ge_block ?_ | refine ge_block_exit ?_ | refine ge_block_pass rfl ?_ | with_reducible refine ge_block_ret ?_))
  refine gc_sq (ow s.q true (cat KP.l s.ks ++ s.sp) 152 ++ (K1 ++ s.Ka)) c_sq ?_
  refine gc_loop (α := OtS) (fun x => [(3, true, .pointer (some (ad g))), (7, true, .slice (s.q.map ad) s.ks.length s.c), (12, true, .slice (x.pt.map ad) (tldD (ordD l x.i)).length x.ct), (13, true, .slice (x.r.q.map ad) x.r.ks.length x.r.c)])
    (fun x => ow x.pt true (cat Cell.l (tldD (ordD l x.i)) ++ x.st) 25 ++ (ow x.r.q true (cat KP.l x.r.ks ++ x.r.sp) 152 ++ (ow s.q true (cat KP.l s.ks ++ s.sp) 152 ++ (K1 ++ s.Ka)))) (fun x => x.i ≤ s.ks.length ∧ x.r.ks.map KP.kn = ordD l x.i ∧ Ow x.r.q x.r.ks.length x.r.c 2 (cat KP.l x.r.ks) x.r.sp ∧ KsZ s.Ka x.r.ks ∧ Ow x.pt (tldD (ordD l x.i)).length x.ct 3 (cat Cell.l (tldD (ordD l x.i))) x.st) (fun x => s.ks.length - x.i) ⟨0, none, 0, [], ⟨none, 0, [], [], []⟩⟩ c_frs (List.Sublist.refl _) ⟨Nat.zero_le _, rfl, Ow.none0, fun j hj => absurd hj (Nat.not_lt_zero _), Ow.none0⟩ ?_
  rintro ⟨i, pt, ct, st, r⟩ ⟨hi, hrk, hro, hrz, hto⟩
  dsimp only at hi hrk hro hrz hto ⊢
  have hol : (ordD l i).length = i := ordD_len (by omega)
  have hrl : r.ks.length = i := by rw [← hol, ← hrk, List.length_map]
  have htl := tldD_le' (l := l) (n := i) (by omega)
  have hTo : ∀ c, c ∈ tldD (ordD l i) ↔ ∃ m ∈ ordD l i, c ∈ m.cells := fun c => tldD_mem
  repeat' first
    | (refine gl_gate ?_; first
      | refine gl_nil ?_
      | (refine gl_any0 ?_; refine gl_pure tab_ok rfl rfl rfl rfl rfl rfl ?_))
    | (refine gc_gate ?_; first
      | refine gc_seq ?_
      | refine gc_region ?_)
    | (refine ge_gate ?_; first
      | ((with_reducible refine ge_gT ?_); first | with_reducible refine ge_then ?_ | with_reducible refine ge_then_exit ?_ | with_reducible refine ge_then_ret ?_))
  (refine gc_cond rfl ?_ ?_ <;> intro h_ <;> have hd_ := h_ <;> (try simp only [bytes_beq, cell_beq, val_beq, stamp_beq, decide_eq_true_eq, decide_eq_false_iff_not, Bool.and_eq_true, Bool.or_eq_true, Bool.or_eq_false_iff, Bool.not_eq_true', Bool.not_eq_false', Bool.not_true, Bool.not_false, Bool.false_or, Bool.true_and, Bool.and_true, Bool.or_false, beq_iff_eq, bne_iff_ne, beq_eq_false_iff_ne, bne_eq_false_iff_eq, ne_eq, Bool.false_eq_true, reduceCtorEq] at hd_) <;> (try (exfalso; omega)))
  · have hiN : i < s.ks.length := by omega
    repeat' first
      | (refine gl_gate ?_; first
        | refine gl_nil ?_
        | (refine gl_any0 ?_; refine gl_pure tab_ok rfl rfl rfl rfl rfl rfl ?_))
      | (refine gc_gate ?_; first
        | refine gc_seq ?_
        | refine gc_region ?_
        | refine gc_block ?_
        | refine gc_skip ?_)
      | (refine ge_gate ?_; first
        | ((with_reducible refine ge_gT ?_); first | with_reducible refine ge_then ?_ | with_reducible refine ge_then_exit ?_ | with_reducible refine ge_then_ret ?_))
    refine gc_loop (α := Nat) (fun k => [(3, true, .pointer (some (ad g))), (7, true, .slice (s.q.map ad) s.ks.length s.c), (12, true, .slice (pt.map ad) (tldD (ordD l i)).length ct), (13, true, .slice (r.q.map ad) r.ks.length r.c), (14, true, .int .i64 (k : Int))])
      (fun _ => ow pt true (cat Cell.l (tldD (ordD l i)) ++ st) 25 ++ (ow r.q true (cat KP.l r.ks ++ r.sp) 152 ++ (ow s.q true (cat KP.l s.ks ++ s.sp) 152 ++ (K1 ++ s.Ka)))) (fun k => k ≤ s.ks.length ∧ ∀ j, j < k → canD l (ordD l i) ((allD l).getD j default) = false) (fun k => s.ks.length - k) 0 c_frs (List.Sublist.refl _) ⟨Nat.zero_le _, fun j hj => absurd hj (Nat.not_lt_zero _)⟩ ?_
    rintro k ⟨hk, hek⟩
    repeat' first
      | (refine gl_gate ?_; first
        | refine gl_nil ?_
        | (refine gl_any0 ?_; refine gl_pure tab_ok rfl rfl rfl rfl rfl rfl ?_))
      | (refine gc_gate ?_; first
        | refine gc_seq ?_
        | refine gc_region ?_)
      | (refine ge_gate ?_; first
        | ((with_reducible refine ge_gT ?_); first | with_reducible refine ge_then ?_ | with_reducible refine ge_then_exit ?_ | with_reducible refine ge_then_ret ?_))
    (refine gc_cond rfl ?_ ?_ <;> intro h_ <;> have hd_ := h_ <;> (try simp only [bytes_beq, cell_beq, val_beq, stamp_beq, decide_eq_true_eq, decide_eq_false_iff_not, Bool.and_eq_true, Bool.or_eq_true, Bool.or_eq_false_iff, Bool.not_eq_true', Bool.not_eq_false', Bool.not_true, Bool.not_false, Bool.false_or, Bool.true_and, Bool.and_true, Bool.or_false, beq_iff_eq, bne_iff_ne, beq_eq_false_iff_ne, bne_eq_false_iff_eq, ne_eq, Bool.false_eq_true, reduceCtorEq] at hd_) <;> (try (exfalso; omega)))
    · have hkN : k < s.ks.length := by omega
      have hkk := ks_atR hsk hkN
      have hz := hsz k hkN
      have hkA : (allD l).getD k default ∈ allD l := allD_at (by omega)
      have hne := allD_ne hkA
      have hcl : (s.ks.getD k default).kn.cells.length ≤ 1000 := by
        rw [hkk]
        obtain ⟨f, h1, h2, h3⟩ := allD_mem.1 hkA
        rw [h3]
        exact Nat.le_trans ((cLt_nodup (clsD_lt l f)).length_le_of_subset fun x hx => clsD_sub hx) (by omega)
      have hpos : 0 < (s.ks.getD k default).kn.cells.length := by rw [hkk]; exact List.length_pos_iff.2 hne
      have h0 : (s.ks.getD k default).kn.cells.getD 0 default ∈ ((allD l).getD k default).cells := by rw [← hkk]; exact getD_mem _ 0 hpos
      generalize hyy : (s.ks.getD k default).kn.cells.getD 0 default = y at *
      have hcan := told_fst (fun k hk => ordD_mem hk) hkA h0 (tldD (ordD l i)) hTo
      rw [← hkk] at hcan
      repeat' first
        | (refine gl_idx0 ?_; refine gl_yv (yv_idxO tab_ok hso (gok_none rfl) rfl rfl rfl rfl rfl rfl (fun _ => rfl) (fun _ => rfl) c_bnd) rfl rfl ?_)
        | (refine gl_idxG ?_; refine gl_yv (yv_idxO tab_ok hso c_gok rfl rfl rfl rfl rfl rfl c_imp c_imp c_bnd) rfl rfl ?_)
        | (refine gl_load0 ?_; refine gl_yv (yv_ldO (v := .slice (s.ks.getD k default).p (s.ks.getD k default).kn.cells.length (s.ks.getD k default).c) tab_ok c_oa hso (gok_none rfl) rfl rfl (fun _ => rfl) (fun _ => lds_partD (o := 0) len_kp (by omega) rfl (by decide) (lds_one rfl rfl rfl rfl)) c_bnd) rfl rfl ?_)
        | (refine gl_loadG ?_; refine gl_yv (yv_ldO (v := .agg (s.ks.getD k default).l.toArray) tab_ok c_oa hso c_gok rfl rfl c_imp (fun _ => lds_cat len_kp (by omega) rfl rfl rfl) c_bnd) rfl rfl ?_)
        | (refine gl_idx0 ?_; refine gl_yv (yv_idxF (i := 0) tab_ok hz c_kin (gok_none rfl) rfl rfl rfl rfl rfl rfl (fun _ => rfl) (fun _ => rfl) (fun _ => hpos)) rfl rfl ?_)
        | (refine gl_load0 ?_; refine gl_yv (yv_ldF (v := .agg y.l.toArray) (i := 0) tab_ok hz c_kin (gok_none rfl) rfl rfl (fun _ => rfl) (fun _ => hpos) (fun _ => by show Lds tab 25 ((s.ks.getD k default).kn.cells.getD 0 default).l 0 _; rw [hyy]; exact lds_agg rfl rfl rfl)) rfl rfl ?_)
        | (refine gl_gate ?_; first
          | refine gl_nil ?_
          | (refine gl_calv0 ?_; first | refine gl_yd (yd_call (gok_none rfl) rfl ent54 rfl rfl (fun _ => allT_of rfl) (fun _ W hW => ct_Has W (tldD (ordD l i)) y _ _ _ rfl (slA_cat len_cell rfl hW c_oa hto) (by omega))) rfl rfl ?_ | refine gl_yd (yd_call (gok_none rfl) rfl ent185 rfl rfl (fun _ => allT_of rfl) (fun _ W hW => ct_readyR (out := ordD l i) (hfD.at' hW c_kin) (by omega) (hz.at' hW c_kin) (slA_cat len_cell rfl hW c_oa hto) hcl (by omega) hTo)) rfl rfl ?_)
          | (refine gl_calvG ?_; first | refine gl_yd (yd_call c_gok rfl ent54 rfl rfl c_allT (fun _ W hW => ct_Has W (tldD (ordD l i)) y _ _ _ rfl (slA_cat len_cell rfl hW c_oa hto) (by omega))) rfl rfl ?_ | refine gl_yd (yd_call c_gok rfl ent185 rfl rfl c_allT (fun _ W hW => ct_readyR (out := ordD l i) (hfD.at' hW c_kin) (by omega) (hz.at' hW c_kin) (slA_cat len_cell rfl hW c_oa hto) hcl (by omega) hTo)) rfl rfl ?_)
          | (refine gl_pick0 ?_; first | refine gl_yv (yv_and (gok_none rfl) rfl rfl rfl (fun _ => rfl) c_imp2) rfl rfl ?_ | refine gl_yv (yv_or (gok_none rfl) rfl rfl rfl (fun _ => rfl) c_imp2) rfl rfl ?_)
          | (refine gl_any0 ?_; refine gl_pure tab_ok rfl rfl rfl rfl rfl rfl ?_)
          | (refine gl_anyG ?_; first | refine gl_yv (yv_pure tab_ok c_gok rfl rfl c_allT) rfl rfl ?_ | refine gl_yv (yv_indexS tab_ok c_gok rfl rfl rfl rfl c_imp c_imp (by intro hq_; (try simp only [Bool.and_eq_true, Bool.not_eq_true', Bool.not_eq_false', Bool.or_eq_false_iff, Bool.or_eq_true, decide_eq_true_eq, decide_eq_false_iff_not, Bool.true_and, Bool.and_true] at hq_); omega)) rfl rfl ?_ | refine gl_yv (yv_indexS (i := 0) tab_ok c_gok rfl rfl rfl rfl c_imp c_imp (by intro hq_; (try simp only [Bool.and_eq_true, Bool.not_eq_true', Bool.not_eq_false', Bool.or_eq_false_iff, Bool.or_eq_true, decide_eq_true_eq, decide_eq_false_iff_not, Bool.true_and, Bool.and_true] at hq_); omega)) rfl rfl ?_))
        | (refine gc_gate ?_; first
          | refine gc_seq ?_
          | refine gc_region ?_
          | refine gc_block ?_
          | refine gc_skip ?_)
        | (refine ge_gate ?_; first
          | ((with_reducible refine ge_gT ?_); first | with_reducible refine ge_then ?_ | with_reducible refine ge_then_exit ?_ | with_reducible refine ge_then_ret ?_))
      rw [hcan, hkk]
      by_cases hcn : canD l (ordD l i) ((allD l).getD k default) = true
      · have hnx := nxt_at (by omega) hcn hek
        have hord : ordD l (i + 1) = ordD l i ++ [(allD l).getD k default] := by rw [ordD, hnx]; rfl
        have htd : tldD (ordD l (i + 1)) = tldD (ordD l i) ++ (s.ks.getD k default).kn.cells := by rw [hord, hkk]; unfold tldD; rw [List.flatMap_append]; simp
        have e4 : cat KP.l (r.ks ++ [s.ks.getD k default]) = cat KP.l r.ks ++ (s.ks.getD k default).l := cat_snoc ..
        have e5 : (r.ks ++ [s.ks.getD k default]).length = r.ks.length + 1 := by rw [List.length_append]; rfl
        have e6 : cat Cell.l (tldD (ordD l (i + 1))) = cat Cell.l (tldD (ordD l i)) ++ (elems (s.ks.getD k default).kn.cells.length fun j => ((s.ks.getD k default).kn.cells.getD j default).l).flatten := by rw [htd, cat_append, elemsAllC]
        have e7 : (tldD (ordD l (i + 1))).length = (tldD (ordD l i)).length + (s.ks.getD k default).kn.cells.length := by rw [htd, List.length_append]
        rw [hcn]
        repeat' first
          | (refine gl_idx0 ?_; refine gl_yv (yv_idxO tab_ok hso (gok_none rfl) rfl rfl rfl rfl rfl rfl (fun _ => rfl) (fun _ => rfl) c_bnd) rfl rfl ?_)
          | (refine gl_load0 ?_; refine gl_yv (yv_ldO (v := .agg (s.ks.getD k default).l.toArray) tab_ok c_oa hso (gok_none rfl) rfl rfl (fun _ => rfl) (fun _ => lds_cat len_kp (by omega) rfl rfl rfl) c_bnd) rfl rfl ?_)
          | (refine gl_gate ?_; first
            | refine gl_nil ?_
            | (refine gl_app0 ?_; (refine gl_ev (ev_append tab_ok rfl rfl rfl rfl rfl rfl rfl rfl c_oa (hro) (c_src) c_lim c_lim ?_) rfl rfl; intro p_ c_ sp_ hw_))
            | (refine gl_bld0 ?_; (refine gl_ev (ev_buildSlice tab_ok rfl rfl rfl rfl rfl rfl rfl rfl rfl rfl ?_) rfl rfl; intro g_ hg_))
            | (refine gl_any0 ?_; refine gl_pure tab_ok rfl rfl rfl rfl rfl rfl ?_))
          | (refine gc_gate ?_; first
            | refine gc_seq ?_
            | refine gc_region ?_
            | refine gc_true rfl ?_)
          | (refine ge_gate ?_; first
            | ((with_reducible refine ge_gT ?_); first | with_reducible refine ge_then ?_ | with_reducible refine ge_then_exit ?_ | with_reducible refine ge_then_ret ?_))
        repeat' first
          | (refine gl_load0 ?_; refine gl_yv (yv_ldO (v := .slice (s.ks.getD k default).p (s.ks.getD k default).kn.cells.length (s.ks.getD k default).c) tab_ok c_oa hso (gok_none rfl) rfl rfl (fun _ => rfl) (fun _ => lds_partD (o := 0) len_kp (by omega) rfl (by decide) (lds_one rfl rfl rfl rfl)) c_bnd) rfl rfl ?_)
          | (refine gl_gate ?_; first
            | refine gl_nil ?_
            | (refine gl_app0 ?_; (refine gl_ev (ev_append tab_ok rfl rfl rfl rfl rfl rfl rfl rfl c_oa (hto) (fun W hW => src_any tab_ok rfl (hz.at' hW c_kin) (fun _ => List.not_mem_nil) (fun j _ => ones_of rfl) W (St.refl W [])) c_lim c_lim ?_) rfl rfl; intro p_ c_ sp_ hw_))
            | (refine gl_any0 ?_; refine gl_pure tab_ok rfl rfl rfl rfl rfl rfl ?_))
          | (refine gc_gate ?_; first
            | refine gc_exit ?_)
          | (refine ge_gate ?_; first
            | ((with_reducible refine ge_gT ?_); first | with_reducible refine ge_then ?_ | with_reducible refine ge_then_exit ?_ | with_reducible refine ge_then_ret ?_)
            | ((with_reducible refine ge_gK ?_); first | with_reducible refine ge_block ?_ | refine ge_block_exit ?_ | refine ge_block_pass rfl ?_ | with_reducible refine ge_block_ret ?_))
        rename_i p4 c4 sp4 hw4
        refine ge_sq (ow p_ true (cat Cell.l (tldD (ordD l i)) ++ (elems (s.ks.getD k default).kn.cells.length fun j => ((s.ks.getD k default).kn.cells.getD j default).l).flatten ++ sp_) 25 ++ (ow p4 true (cat KP.l r.ks ++ (s.ks.getD k default).l ++ sp4) 152 ++ (ow s.q true (cat KP.l s.ks ++ s.sp) 152 ++ (K1 ++ s.Ka)))) c_sq ?_
        refine ge_round ⟨i + 1, p_, c_, sp_, ⟨p4, c4, r.ks ++ [s.ks.getD k default], sp4, []⟩⟩ ⟨by dsimp only; omega, by dsimp only; rw [List.map_append, hrk, hord, ← hkk]; rfl, by dsimp only; rw [e4, e5]; exact hw4, fun j hj => ?_, by dsimp only; rw [e6, e7]; exact hw_⟩ (by show s.ks.length - (i + 1) < s.ks.length - i; omega) (by dsimp only; rw [e5, e7]; exact c_frs) (by dsimp only; rw [e4, e6]; exact List.Sublist.refl _)
        dsimp only at hj ⊢
        rw [e5] at hj
        rcases Nat.lt_or_ge j r.ks.length with h | h
        · rw [show (r.ks ++ [s.ks.getD k default]).getD j default = r.ks.getD j default by simp [List.getD, List.getElem?_append_left h]]
          exact hrz j h
        · obtain rfl : j = r.ks.length := by omega
          rw [show (r.ks ++ [s.ks.getD k default]).getD r.ks.length default = s.ks.getD k default by simp [List.getD]]
          exact hsz k hkN
      · have hcn' : canD l (ordD l i) ((allD l).getD k default) = false := by simpa using hcn
        rw [hcn']
        repeat' first
          | (refine gl_gate ?_; first
            | refine gl_nil ?_
            | (refine gl_add0 ?_; refine gl_yv (yv_add tab_ok (gok_none rfl) rfl rfl rfl rfl (fun _ => allT_of rfl) (by intro _; omega)) rfl rfl ?_)
            | (refine gl_any0 ?_; refine gl_pure tab_ok rfl rfl rfl rfl rfl rfl ?_))
          | (refine gc_gate ?_; first
            | refine gc_region ?_
            | refine gc_false rfl ?_
            | refine gc_skip ?_)
          | (refine ge_gate ?_; first
            | ((with_reducible refine ge_gT ?_); first | with_reducible refine ge_then ?_ | with_reducible refine ge_then_exit ?_ | with_reducible refine ge_then_ret ?_)
            | ((with_reducible refine ge_gK ?_); first | with_reducible refine ge_block ?_ | refine ge_block_exit ?_ | refine ge_block_pass rfl ?_ | with_reducible refine ge_block_ret ?_))
        refine ge_round (k + 1) ⟨by omega, fun j hj => ?_⟩ (by omega) c_frs (List.Sublist.refl _)
        rcases Nat.lt_or_ge j k with h | h
        · exact hek j h
        · obtain rfl : j = k := by omega
          exact hcn'
    · exact (nxt_not (l := l) (i := i) (by omega) fun j hj => hek j (by omega)).elim
  · have hiN : i = (allD l).length := by omega
    repeat' first
      | (refine gl_gate ?_; first
        | refine gl_nil ?_
        | (refine gl_any0 ?_; refine gl_pure tab_ok rfl rfl rfl rfl rfl rfl ?_))
      | (refine gc_gate ?_; first
        | refine gc_seq ?_
        | refine gc_region ?_
        | refine gc_exit ?_
        | refine gc_ret ?_)
      | (refine ge_gate ?_; first
        | ((with_reducible refine ge_gT ?_); first | with_reducible refine ge_then ?_ | with_reducible refine ge_then_exit ?_ | with_reducible refine ge_then_ret ?_)
        | ((with_reducible refine ge_gK ?_); first | with_reducible refine ge_block ?_ | refine ge_block_exit ?_ | refine ge_block_pass rfl ?_ | with_reducible refine ge_block_ret ?_)
        | ((with_reducible refine ge_gB ?_); first | refine ge_ret1 tab_ok rfl c_rvt ?_ | refine ge_end1 tab_ok rfl c_rvt ?_ | refine ge_ret2 tab_ok rfl c_rvt c_rvt ?_ | refine ge_ret_none rfl ?_ | refine ge_end_none rfl ?_))
    intro W hW
    refine ⟨⟨⟨r.q, r.c, r.ks, r.sp, s.Ka⟩, hsw⟩, rfl, ⟨by rw [hrk, hiN]; rfl, hro, hrz⟩, ?_⟩
    exact Sq.st c_sq hW
end Go.Proofs.Ytkgjfcjciigcgaa

/-
  Knots of any entries, and the reference's: abacistlaw13.
-/
namespace Go.Proofs.Ytkgjfcjciigcgaa
open Go.Proofs.Ytkgjfcjciigcgaa.Sl Go.RowKit
set_option linter.unusedVariables false
set_option linter.unusedSimpArgs false
set_option linter.unusedSectionVars false
set_option maxRecDepth 100000

theorem orX_wr2 (x : OrX) : ∀ e ∈ ow x.1.q true (cat KP.l x.1.ks ++ x.1.sp) 152 ++ x.1.Ka, e.2.1 = true := fun e he => by
  rcases List.mem_append.1 he with h | h
  · exact ow_wr e h
  · exact x.2 e h
theorem kn_len {l : List En} {k : Kn} (hk : k ∈ orD l) : k.cells.length ≤ l.length := by
  obtain ⟨f, _, _, rfl⟩ := allD_mem.1 (orD_mem.1 hk)
  exact Nat.le_trans (List.length_filter_le ..) (dC_len l)
theorem kp_at {ks : List KP} {L : List Kn} (h : ks.map KP.kn = L) {i : Nat} (hi : i < ks.length) : ∃ p k c, ks.getD i default = ⟨p, k, c⟩ ∧ L.getD i default = k ∧ k ∈ L := by
  subst h
  refine ⟨(ks.getD i default).p, (ks.getD i default).kn, (ks.getD i default).c, rfl, by simp [List.getD, hi], ?_⟩
  rw [List.mem_map]
  exact ⟨_, getD_mem _ _ hi, rfl⟩
set_option maxHeartbeats 8000000 in
theorem walk_KnotsTell (l : List En) (p : Option Addr) (n cap : Nat) (hn : n = l.length) (hn9 : n ≤ 9223372036854775807) (w : World) (hs : SlA w 20 p n (fun i => (l.getD i default).l)) (hR : ∀ e ∈ l, NodeR All w e.node e.p) : Calls Try.prog 28 #[.slice p n cap] w fun e w' => e = .returned (.bool true) ∧ Bl w w' := by
  subst hn
  refine enter (args := [_]) (M := []) (K := []) Try.func28 rfl Try.ntmps28 rfl (St.refl _ _) ?_
  repeat' first
    | (refine gl_gate ?_; first
      | refine gl_nil ?_
      | (refine gl_calv0 ?_; first | refine gl_yd (yd_call (gok_none rfl) rfl ent129 rfl rfl (fun _ => allT_of rfl) (fun _ W hW => ct_aliveK W)) rfl rfl ?_ | refine gl_yd (yd_call (gok_none rfl) rfl ent108 rfl rfl (fun _ => allT_of rfl) (fun _ W hW => ct_Few12 l p _ cap W rfl (hs.st hW) (fun e he => (hR e he).st hW) (by omega))) rfl rfl ?_)
      | (refine gl_calvG ?_; first | refine gl_yd (yd_call c_gok rfl ent129 rfl rfl c_allT (fun _ W hW => ct_aliveK W)) rfl rfl ?_ | refine gl_yd (yd_call c_gok rfl ent108 rfl rfl c_allT (fun _ W hW => ct_Few12 l p _ cap W rfl (hs.st hW) (fun e he => (hR e he).st hW) (by omega))) rfl rfl ?_)
      | (refine gl_pick0 ?_; first | refine gl_yv (yv_and (gok_none rfl) rfl rfl rfl (fun _ => rfl) c_imp2) rfl rfl ?_ | refine gl_yv (yv_or (gok_none rfl) rfl rfl rfl (fun _ => rfl) c_imp2) rfl rfl ?_)
      | (refine gl_any0 ?_; refine gl_pure tab_ok rfl rfl rfl rfl rfl rfl ?_)
      | (refine gl_anyG ?_; first | refine gl_yv (yv_pure tab_ok c_gok rfl rfl c_allT) rfl rfl ?_ | refine gl_yv (yv_indexS tab_ok c_gok rfl rfl rfl rfl c_imp c_imp (by intro hq_; (try simp only [Bool.and_eq_true, Bool.not_eq_true', Bool.not_eq_false', Bool.or_eq_false_iff, Bool.or_eq_true, decide_eq_true_eq, decide_eq_false_iff_not, Bool.true_and, Bool.and_true] at hq_); omega)) rfl rfl ?_ | refine gl_yv (yv_indexS (i := 0) tab_ok c_gok rfl rfl rfl rfl c_imp c_imp (by intro hq_; (try simp only [Bool.and_eq_true, Bool.not_eq_true', Bool.not_eq_false', Bool.or_eq_false_iff, Bool.or_eq_true, decide_eq_true_eq, decide_eq_false_iff_not, Bool.true_and, Bool.and_true] at hq_); omega)) rfl rfl ?_))
    | (refine gc_gate ?_; first
      | refine gc_seq ?_
      | refine gc_region ?_)
    | (refine ge_gate ?_; first
      | ((with_reducible refine ge_gT ?_); first | with_reducible refine ge_then ?_ | with_reducible refine ge_then_exit ?_ | with_reducible refine ge_then_ret ?_))
  (refine gc_cond rfl ?_ ?_ <;> intro h_ <;> have hd_ := h_ <;> (try simp only [bytes_beq, cell_beq, val_beq, stamp_beq, decide_eq_true_eq, decide_eq_false_iff_not, Bool.and_eq_true, Bool.or_eq_true, Bool.or_eq_false_iff, Bool.not_eq_true', Bool.not_eq_false', Bool.not_true, Bool.not_false, Bool.false_or, Bool.true_and, Bool.and_true, Bool.or_false, beq_iff_eq, bne_iff_ne, beq_eq_false_iff_ne, bne_eq_false_iff_eq, ne_eq, Bool.false_eq_true, reduceCtorEq] at hd_) <;> (try (exfalso; omega)))
  · repeat' first
      | (refine gl_gate ?_; first
        | refine gl_nil ?_
        | (refine gl_any0 ?_; refine gl_pure tab_ok rfl rfl rfl rfl rfl rfl ?_))
      | (refine gc_gate ?_; first
        | refine gc_seq ?_
        | refine gc_region ?_
        | refine gc_ret ?_)
      | (refine ge_gate ?_; first
        | ((with_reducible refine ge_gT ?_); first | with_reducible refine ge_then ?_ | with_reducible refine ge_then_exit ?_ | with_reducible refine ge_then_ret ?_)
        | ((with_reducible refine ge_gB ?_); first | refine ge_ret1 tab_ok rfl c_rvt ?_ | refine ge_end1 tab_ok rfl c_rvt ?_ | refine ge_ret2 tab_ok rfl c_rvt c_rvt ?_ | refine ge_ret_none rfl ?_ | refine ge_end_none rfl ?_))
    intro W hW
    exact ⟨rfl, hW.below0⟩
  have hfew : few12 l = true := by simpa using hd_
  have hlen := few12_len hfew
  have hcn := fun e he => few12_node hfew (e := e) he
  clear h_ hd_
  repeat' first
    | (refine gl_gate ?_; first
      | (refine gl_app0 ?_; (refine gl_ev (ev_append tab_ok rfl rfl rfl rfl rfl rfl rfl rfl c_oa ((Ow.none0 (k := 20))) (src_any tab_ok rfl hs (fun _ => List.not_mem_nil) (fun i _ => ones_en _)) c_lim c_lim ?_) rfl rfl; intro p_ c_ sp_ hw_))
      | (refine gl_any0 ?_; refine gl_pure tab_ok rfl rfl rfl rfl rfl rfl ?_))
    | (refine gc_gate ?_; first
      | refine gc_seq ?_
      | refine gc_region ?_
      | refine gc_skip ?_)
    | (refine ge_gate ?_; first
      | ((with_reducible refine ge_gT ?_); first | with_reducible refine ge_then ?_ | with_reducible refine ge_then_exit ?_ | with_reducible refine ge_then_ret ?_))
  have e0 : [] ++ (elems l.length fun i => (l.getD i default).l).flatten = cat En.l l := by rw [elemsAllC]; rfl
  rw [e0, Nat.zero_add] at hw_
  rw [e0, Nat.zero_add]
  refine gl_ev (ev_callM (M' := []) (K2 := _) rfl rfl ent130 rfl rfl rfl (fun W hW => ct_Order (S := All) l _ _ _ W rfl (slA_cat len_en rfl hW c_oa hw_) (fun e he => (hR e he).st hW) hcn (by omega)) (by simp) orX_wr (List.Sublist.refl _) (by simp) ?_) rfl rfl
  rintro ⟨⟨q1, c1, ks, sp1, K1⟩, hK1⟩ ⟨hk1, hw1, hz1⟩
  dsimp only at hk1 hw1 hz1 ⊢
  repeat' first
    | (refine gl_gate ?_; first
      | refine gl_nil ?_
      | (refine gl_any0 ?_; refine gl_pure tab_ok rfl rfl rfl rfl rfl rfl ?_))
    | (refine gc_gate ?_; first
      | refine gc_seq ?_
      | refine gc_region ?_)
    | (refine ge_gate ?_; first
      | ((with_reducible refine ge_gT ?_); first | with_reducible refine ge_then ?_ | with_reducible refine ge_then_exit ?_ | with_reducible refine ge_then_ret ?_))
  refine gl_ev (ev_callM (M' := []) (K2 := _) rfl rfl ent131 rfl rfl rfl (fun W hW => ct_OrderR (S := All) l _ _ _ W rfl (hs.st hW) (fun e he => (hR e he).st hW) hcn (by omega)) (by simp) orX_wr2 (List.Sublist.refl _) (by simp) ?_) rfl rfl
  rintro ⟨⟨q2, c2, js, sp2, K2⟩, hK2⟩ ⟨hk2, hw2, hz2⟩
  dsimp only at hk2 hw2 hz2 ⊢
  have hkl : ks.length = js.length := by have := congrArg List.length (hk1.trans hk2.symm); rw [List.length_map, List.length_map] at this; exact this
  have hkb : ks.length ≤ l.length := by
    have := congrArg List.length hk1
    rw [List.length_map, orD_len] at this
    exact this ▸ allD_len l
  rw [List.append_assoc (ow q2 true _ 152), List.append_assoc (ow q1 true _ 151)]
  repeat' first
    | (refine gl_gate ?_; first
      | refine gl_nil ?_
      | (refine gl_any0 ?_; refine gl_pure tab_ok rfl rfl rfl rfl rfl rfl ?_))
    | (refine gc_gate ?_; first
      | refine gc_seq ?_
      | refine gc_region ?_)
    | (refine ge_gate ?_; first
      | ((with_reducible refine ge_gT ?_); first | with_reducible refine ge_then ?_ | with_reducible refine ge_then_exit ?_ | with_reducible refine ge_then_ret ?_))
  (refine gc_cond rfl ?_ ?_ <;> intro h_ <;> have hd_ := h_ <;> (try simp only [bytes_beq, cell_beq, val_beq, stamp_beq, decide_eq_true_eq, decide_eq_false_iff_not, Bool.and_eq_true, Bool.or_eq_true, Bool.or_eq_false_iff, Bool.not_eq_true', Bool.not_eq_false', Bool.not_true, Bool.not_false, Bool.false_or, Bool.true_and, Bool.and_true, Bool.or_false, beq_iff_eq, bne_iff_ne, beq_eq_false_iff_ne, bne_eq_false_iff_eq, ne_eq, Bool.false_eq_true, reduceCtorEq] at hd_) <;> (try (exfalso; omega)))
  repeat' first
    | (refine gl_gate ?_; first
      | refine gl_nil ?_
      | (refine gl_any0 ?_; refine gl_pure tab_ok rfl rfl rfl rfl rfl rfl ?_))
    | (refine gc_gate ?_; first
      | refine gc_seq ?_
      | refine gc_region ?_
      | refine gc_block ?_
      | refine gc_skip ?_)
    | (refine ge_gate ?_; first
      | ((with_reducible refine ge_gT ?_); first | with_reducible refine ge_then ?_ | with_reducible refine ge_then_exit ?_ | with_reducible refine ge_then_ret ?_))
  refine gc_sq (ow q2 true (cat KP.l js ++ sp2) 152 ++ (ow q1 true (cat KP.l ks ++ sp1) 151 ++ (K2 ++ K1))) c_sq ?_
  refine gc_loop (α := Nat) (fun i => [(4, true, .slice (q1.map ad) ks.length c1), (5, true, .slice (q2.map ad) js.length c2), (6, true, .int .i64 (i : Int))]) (fun _ => ow q2 true (cat KP.l js ++ sp2) 152 ++ (ow q1 true (cat KP.l ks ++ sp1) 151 ++ (K2 ++ K1))) (fun i => i ≤ ks.length) (fun i => ks.length - i) 0 c_frs (List.Sublist.refl _) (Nat.zero_le _) ?_
  rintro i hi
  repeat' first
    | (refine gl_gate ?_; first
      | refine gl_nil ?_
      | (refine gl_any0 ?_; refine gl_pure tab_ok rfl rfl rfl rfl rfl rfl ?_))
    | (refine gc_gate ?_; first
      | refine gc_seq ?_
      | refine gc_region ?_)
    | (refine ge_gate ?_; first
      | ((with_reducible refine ge_gT ?_); first | with_reducible refine ge_then ?_ | with_reducible refine ge_then_exit ?_ | with_reducible refine ge_then_ret ?_))
  (refine gc_cond rfl ?_ ?_ <;> intro h_ <;> have hd_ := h_ <;> (try simp only [bytes_beq, cell_beq, val_beq, stamp_beq, decide_eq_true_eq, decide_eq_false_iff_not, Bool.and_eq_true, Bool.or_eq_true, Bool.or_eq_false_iff, Bool.not_eq_true', Bool.not_eq_false', Bool.not_true, Bool.not_false, Bool.false_or, Bool.true_and, Bool.and_true, Bool.or_false, beq_iff_eq, bne_iff_ne, beq_eq_false_iff_ne, bne_eq_false_iff_eq, ne_eq, Bool.false_eq_true, reduceCtorEq] at hd_) <;> (try (exfalso; omega)))
  · have hik : i < ks.length := by omega
    have hij : i < js.length := by omega
    obtain ⟨p3, k, c3, hkk, hk3, hkm⟩ := kp_at hk1 hik
    obtain ⟨p4, k', c4, hjj, hk4, _⟩ := kp_at hk2 hij
    have hkq : k = k' := by rw [← hk3, ← hk4]
    subst hkq
    have hkn := kn_len hkm
    have hz3 := hz1 i hik
    rw [hkk] at hz3
    have hz4 := hz2 i hij
    rw [hjj] at hz4
    dsimp only at hz3 hz4
    repeat' first
      | (refine gc_gate ?_; first
        | refine gc_seq ?_
        | refine gc_block ?_
        | refine gc_skip ?_)
      | (refine ge_gate ?_; first
        | ((with_reducible refine ge_gT ?_); first | with_reducible refine ge_then ?_ | with_reducible refine ge_then_exit ?_ | with_reducible refine ge_then_ret ?_))
    refine gp_start [] #[false, false, false, false, false, false, false, false, false, false, false, false, false, false, false, false, false, false, false, false, false, false, false, false, false] mixed rfl rfl c_qp ?_; intro hqp_
    refine gp_take 0 #[true, false, false, false, false, false, false, false, false, false, false, false, false, false, false, false, false, false, false, false, false, false, false, false, false] hqp_ rfl (by kernel_rfl) (yv_pure tab_ok c_gokE rfl rfl c_allT) c_cl rfl rfl ?_
    refine gp_take 1 #[true, true, false, false, false, false, false, false, false, false, false, false, false, false, false, false, false, false, false, false, false, false, false, false, false] hqp_ rfl (by kernel_rfl) (yv_pure tab_ok c_gokE rfl rfl c_allT) c_cl rfl rfl ?_
    refine gp_take 2 #[true, true, true, false, false, false, false, false, false, false, false, false, false, false, false, false, false, false, false, false, false, false, false, false, false] hqp_ rfl (by kernel_rfl) ((yv_idxO tab_ok hw1 c_gokE rfl rfl rfl rfl rfl rfl c_imp c_imp c_bnd)) c_cl rfl rfl ?_
    refine gp_take 3 #[true, true, true, true, false, false, false, false, false, false, false, false, false, false, false, false, false, false, false, false, false, false, false, false, false] hqp_ rfl (by kernel_rfl) (yv_pure tab_ok c_gokE rfl rfl c_allT) c_cl rfl rfl ?_
    refine gp_take 4 #[true, true, true, true, true, false, false, false, false, false, false, false, false, false, false, false, false, false, false, false, false, false, false, false, false] hqp_ rfl (by kernel_rfl) (((yv_ldO (v := .slice p3 k.cells.length c3) tab_ok c_oa hw1 c_gokE rfl rfl c_imp (fun _ => lds_partD (o := 0) len_kp (by omega) rfl (by decide) (lds_one rfl rfl rfl (by rw [hkk]; rfl))) c_bnd))) c_cl rfl rfl ?_
    refine gp_take 5 #[true, true, true, true, true, true, false, false, false, false, false, false, false, false, false, false, false, false, false, false, false, false, false, false, false] hqp_ rfl (by kernel_rfl) (yv_pure tab_ok c_gokE rfl rfl c_allT) c_cl rfl rfl ?_
    refine gp_take 6 #[true, true, true, true, true, true, true, false, false, false, false, false, false, false, false, false, false, false, false, false, false, false, false, false, false] hqp_ rfl (by kernel_rfl) (yv_pure tab_ok c_gokE rfl rfl c_allT) c_cl rfl rfl ?_
    refine gp_take 7 #[true, true, true, true, true, true, true, true, false, false, false, false, false, false, false, false, false, false, false, false, false, false, false, false, false] hqp_ rfl (by kernel_rfl) ((yv_idxO tab_ok hw2 c_gokE rfl rfl rfl rfl rfl rfl c_imp c_imp c_bnd)) c_cl rfl rfl ?_
    refine gp_take 8 #[true, true, true, true, true, true, true, true, true, false, false, false, false, false, false, false, false, false, false, false, false, false, false, false, false] hqp_ rfl (by kernel_rfl) (yv_pure tab_ok c_gokE rfl rfl c_allT) c_cl rfl rfl ?_
    refine gp_take 9 #[true, true, true, true, true, true, true, true, true, true, false, false, false, false, false, false, false, false, false, false, false, false, false, false, false] hqp_ rfl (by kernel_rfl) (((yv_ldO (v := .slice p4 k.cells.length c4) tab_ok c_oa hw2 c_gokE rfl rfl c_imp (fun _ => lds_partD (o := 0) len_kp (by omega) rfl (by decide) (lds_one rfl rfl rfl (by rw [hjj]; rfl))) c_bnd))) c_cl rfl rfl ?_
    refine gp_ev 10 #[true, true, true, true, true, true, true, true, true, true, true, false, false, false, false, false, false, false, false, false, false, false, false, false, false] rfl (by kernel_rfl) rfl rfl rfl (ev_callq rfl rfl ent51 rfl rfl rfl (fun W hW => ct_SameC W k.cells _ _ _ _ _ _ rfl rfl (hz3.at' hW c_kin) (hz4.at' hW c_kin) (by omega)) ⟨c_cl, ?_⟩)
    refine gp_take 11 #[true, true, true, true, true, true, true, true, true, true, true, true, false, false, false, false, false, false, false, false, false, false, false, false, false] hqp_ rfl (by kernel_rfl) (yv_pure tab_ok c_gokE rfl rfl c_allT) c_cl rfl rfl ?_
    refine gp_take 12 #[true, true, true, true, true, true, true, true, true, true, true, true, true, false, false, false, false, false, false, false, false, false, false, false, false] hqp_ rfl (by kernel_rfl) (((yv_pure tab_ok c_gokE rfl rfl c_allT).cast (v' := .bool false) rfl)) c_cl rfl rfl ?_
    refine gp_take 13 #[true, true, true, true, true, true, true, true, true, true, true, true, true, true, false, false, false, false, false, false, false, false, false, false, false] hqp_ rfl (by kernel_rfl) (yv_pure tab_ok c_gokE rfl rfl c_allT) c_cl rfl rfl ?_
    refine gp_take 14 #[true, true, true, true, true, true, true, true, true, true, true, true, true, true, true, false, false, false, false, false, false, false, false, false, false] hqp_ rfl (by kernel_rfl) (yv_pure tab_ok c_gokE rfl rfl c_allT) c_cl rfl rfl ?_
    refine gp_take 15 #[true, true, true, true, true, true, true, true, true, true, true, true, true, true, true, true, false, false, false, false, false, false, false, false, false] hqp_ rfl (by kernel_rfl) ((yv_idxO tab_ok hw1 c_gokE rfl rfl rfl rfl rfl rfl c_imp c_imp c_bnd)) c_cl rfl rfl ?_
    refine gp_take 16 #[true, true, true, true, true, true, true, true, true, true, true, true, true, true, true, true, true, false, false, false, false, false, false, false, false] hqp_ rfl (by kernel_rfl) (yv_pure tab_ok c_gokE rfl rfl c_allT) c_cl rfl rfl ?_
    refine gp_take 17 #[true, true, true, true, true, true, true, true, true, true, true, true, true, true, true, true, true, true, false, false, false, false, false, false, false] hqp_ rfl (by kernel_rfl) (((yv_ldO (v := .bool k.rnd) tab_ok c_oa hw1 c_gokE rfl rfl c_imp (fun _ => lds_partD (o := 1) len_kp (by omega) rfl (by decide) (lds_one rfl rfl rfl (by rw [hkk]; rfl))) c_bnd))) c_cl rfl rfl ?_
    refine gp_take 18 #[true, true, true, true, true, true, true, true, true, true, true, true, true, true, true, true, true, true, true, false, false, false, false, false, false] hqp_ rfl (by kernel_rfl) (yv_pure tab_ok c_gokE rfl rfl c_allT) c_cl rfl rfl ?_
    refine gp_take 19 #[true, true, true, true, true, true, true, true, true, true, true, true, true, true, true, true, true, true, true, true, false, false, false, false, false] hqp_ rfl (by kernel_rfl) (yv_pure tab_ok c_gokE rfl rfl c_allT) c_cl rfl rfl ?_
    refine gp_take 20 #[true, true, true, true, true, true, true, true, true, true, true, true, true, true, true, true, true, true, true, true, true, false, false, false, false] hqp_ rfl (by kernel_rfl) ((yv_idxO tab_ok hw2 c_gokE rfl rfl rfl rfl rfl rfl c_imp c_imp c_bnd)) c_cl rfl rfl ?_
    refine gp_take 21 #[true, true, true, true, true, true, true, true, true, true, true, true, true, true, true, true, true, true, true, true, true, true, false, false, false] hqp_ rfl (by kernel_rfl) (yv_pure tab_ok c_gokE rfl rfl c_allT) c_cl rfl rfl ?_
    refine gp_take 22 #[true, true, true, true, true, true, true, true, true, true, true, true, true, true, true, true, true, true, true, true, true, true, true, false, false] hqp_ rfl (by kernel_rfl) (((yv_ldO (v := .bool k.rnd) tab_ok c_oa hw2 c_gokE rfl rfl c_imp (fun _ => lds_partD (o := 1) len_kp (by omega) rfl (by decide) (lds_one rfl rfl rfl (by rw [hjj]; rfl))) c_bnd))) c_cl rfl rfl ?_
    refine gp_take 23 #[true, true, true, true, true, true, true, true, true, true, true, true, true, true, true, true, true, true, true, true, true, true, true, true, false] hqp_ rfl (by kernel_rfl) (((yv_pure tab_ok c_gokE rfl rfl c_allT).cast (v' := .bool false) (by simp))) c_cl rfl rfl ?_
    refine gp_take 24 #[true, true, true, true, true, true, true, true, true, true, true, true, true, true, true, true, true, true, true, true, true, true, true, true, true] hqp_ rfl (by kernel_rfl) (yv_or c_gokE rfl rfl rfl c_imp c_imp2) c_cl rfl rfl ?_
    refine gp_done (by kernel_rfl) ?_; clear hqp_
    repeat' first
      | (refine gl_gate ?_; first
        | refine gl_nil ?_
        | (refine gl_add0 ?_; refine gl_yv (yv_add tab_ok (gok_none rfl) rfl rfl rfl rfl (fun _ => allT_of rfl) (by intro _; omega)) rfl rfl ?_)
        | (refine gl_any0 ?_; refine gl_pure tab_ok rfl rfl rfl rfl rfl rfl ?_))
      | (refine gc_gate ?_; first
        | refine gc_region ?_
        | refine gc_false rfl ?_
        | refine gc_skip ?_)
      | (refine ge_gate ?_; first
        | ((with_reducible refine ge_gT ?_); first | with_reducible refine ge_then ?_ | with_reducible refine ge_then_exit ?_ | with_reducible refine ge_then_ret ?_)
        | ((with_reducible refine ge_gK ?_); first | with_reducible refine ge_block ?_ | refine ge_block_exit ?_ | refine ge_block_pass rfl ?_ | with_reducible refine ge_block_ret ?_))
    exact ge_round (i + 1) (by omega) (by omega) c_frs (List.Sublist.refl _)
  · repeat' first
      | (refine gl_gate ?_; first
        | refine gl_nil ?_
        | (refine gl_any0 ?_; refine gl_pure tab_ok rfl rfl rfl rfl rfl rfl ?_))
      | (refine gc_gate ?_; first
        | refine gc_seq ?_
        | refine gc_region ?_
        | refine gc_exit ?_
        | refine gc_ret ?_)
      | (refine ge_gate ?_; first
        | ((with_reducible refine ge_gT ?_); first | with_reducible refine ge_then ?_ | with_reducible refine ge_then_exit ?_ | with_reducible refine ge_then_ret ?_)
        | ((with_reducible refine ge_gK ?_); first | with_reducible refine ge_block ?_ | refine ge_block_exit ?_ | refine ge_block_pass rfl ?_ | with_reducible refine ge_block_ret ?_)
        | ((with_reducible refine ge_gB ?_); first | refine ge_ret1 tab_ok rfl c_rvt ?_ | refine ge_end1 tab_ok rfl c_rvt ?_ | refine ge_ret2 tab_ok rfl c_rvt c_rvt ?_ | refine ge_ret_none rfl ?_ | refine ge_end_none rfl ?_))
    intro W hW
    exact ⟨rfl, hW.below0⟩
theorem law_KnotsTell (W : World) {b0 : Nat} {v0 : Value} (o0 : Value.okWide Try.prog W .any b0 124 v0)
    (r0 : ∃ m, Rd tab W m 124 v0.cells.toList) : Calls Try.prog 28 #[v0] W fun e w' => e = .returned (.bool true) ∧ Bl W w' := by
  rw [arg_one tab_ok (t := 124) rfl rfl o0] at r0
  obtain ⟨m0, r0⟩ := r0
  obtain ⟨p, n, cap, l, h0, hn, hle, hcap, hs, hR⟩ := rdEns r0
  cases h0
  exact walk_KnotsTell l p n cap hn (by omega) W hs hR
end Go.Proofs.Ytkgjfcjciigcgaa
