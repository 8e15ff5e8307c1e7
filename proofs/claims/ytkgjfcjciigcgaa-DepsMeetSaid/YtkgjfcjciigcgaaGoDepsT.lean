/-
  What entries have, read and are read by: abacistlaw12.
-/
import Derived.Test.YtkgjfcjciigcgaaGoDepsP2
import Derived.Test.YtkgjfcjciigcgaaGoDepsA
import Derived.Test.YtkgjfcjciigcgaaGoDepsB
namespace Go.Proofs.Ytkgjfcjciigcgaa
open Go.Proofs.Ytkgjfcjciigcgaa.Sl Go.RowKit
set_option linter.unusedVariables false
set_option linter.unusedSimpArgs false
set_option linter.unusedSectionVars false
set_option maxRecDepth 100000

theorem gok_f0D {l : List Oper} {F : Fl} {o : Oper} {j t : Nat} (h : o.guard = some (j, false)) (hj : (match nth l j with | some oj => oj.dst | none => none) = some t) (hc : Fg F t = some (true, .bool false)) : Gok l F o true := by
  have := gok_f h hj hc
  simpa using this
theorem c_gokD {P : Prop} (h : P := by first | exact gok_none rfl | exact gok_f0D rfl rfl rfl | exact gok_t rfl rfl rfl | exact gok_f rfl rfl rfl | exact gok_tn rfl rfl rfl | exact gok_fn rfl rfl rfl) : P := h
def enS : En := ⟨cS, false, .mk 0 .empty .empty ⟨0, 0, .empty⟩ ⟨.empty, 0, 0⟩ ⟨.empty, 0, 0⟩ [], none, 0, ⟨0, 0, .empty⟩⟩
theorem dC_nil : dC [] = [] := rfl
theorem dC_enS : dC [enS] = [cS] := rfl
theorem ct_CellsP0 (g : Nat) (w : World) (h : DpP w [] g) : Calls Try.prog 111 #[.pointer (some (ad g))] w (RetOw w 0 3 [] 25) := ct_CellsP [] g w h (by decide)
theorem ct_CellsP1 (g : Nat) (w : World) (h : DpP w [enS] g) : Calls Try.prog 111 #[.pointer (some (ad g))] w (RetOw w 1 3 (cat Cell.l [cS]) 25) := ct_CellsP [enS] g w h (by decide)
theorem ct_aliveD (w : World) : Calls Try.prog 107 #[] w fun e w' => e = .returned (.bool true) ∧ Bl w w' := by
  refine enter (args := []) (M := []) (K := []) Try.func107 rfl Try.ntmps107 rfl (St.refl _ _) ?_
  repeat' first
    | (refine gl_gate ?_; first
      | refine gl_nil ?_
      | (refine gl_load0 ?_; refine gl_yv (yv_load tab_ok (gok_none rfl) rfl rfl (fun _ => rfl) c_mem (fun _ => c_lds)) rfl rfl ?_)
      | (refine gl_bld0 ?_; (refine gl_ev (ev_buildSlice tab_ok rfl rfl rfl rfl rfl rfl rfl rfl rfl rfl ?_) rfl rfl; intro g_ hg_))
      | (refine gl_alc0 ?_; (refine gl_alloc tab_ok rfl rfl rfl rfl rfl ?_; intro g_ hg_))
      | (refine gl_sto0 ?_; refine gl_store tab_ok rfl rfl rfl rfl rfl rfl rfl c_one rfl c_ku ?_)
      | (refine gl_any0 ?_; refine gl_pure tab_ok rfl rfl rfl rfl rfl rfl ?_))
    | (refine gc_gate ?_; first
      | refine gc_seq ?_
      | refine gc_region ?_)
    | (refine ge_gate ?_; first
      | ((with_reducible refine ge_gT ?_); first | with_reducible refine ge_then ?_ | with_reducible refine ge_then_exit ?_ | with_reducible refine ge_then_ret ?_))
  refine gl_ev (ev_callM (M' := []) (K2 := _) rfl rfl ent109 rfl rfl rfl (fun W hW => ct_New (S := All) [enS] _ _ _ W rfl (slA_cat (p := some _) (sp := []) len_en rfl hW Oa.one ⟨rfl, rfl, Nat.le_refl _, fun h => by cases h⟩) (fun e he => by rw [List.mem_singleton.1 he]; exact NodeR.leaf rfl) (fun e he => by rw [List.mem_singleton.1 he]; decide) (by decide)) (by simp) (fun x => x.2) (List.Sublist.refl _) (by simp) ?_) rfl rfl
  rintro ⟨⟨g1, K1⟩, hK1⟩ hf1
  dsimp only at hf1 ⊢
  repeat' first
    | (refine gl_gate ?_; first
      | refine gl_nil ?_
      | (refine gl_any0 ?_; refine gl_pure tab_ok rfl rfl rfl rfl rfl rfl ?_))
    | (refine gc_gate ?_; first
      | refine gc_seq ?_
      | refine gc_region ?_)
    | (refine ge_gate ?_; first
      | ((with_reducible refine ge_gT ?_); first | with_reducible refine ge_then ?_ | with_reducible refine ge_then_exit ?_ | with_reducible refine ge_then_ret ?_))
  refine gl_ev (ev_callM (M' := []) (K2 := _) rfl rfl ent109 rfl rfl rfl (fun W hW => ct_New (S := All) [] none 0 0 W rfl SlA.nil (fun e he => absurd he List.not_mem_nil) (fun e he => absurd he List.not_mem_nil) (by decide)) (by simp) (fun x => x.2) (List.Sublist.refl _) (by simp) ?_) rfl rfl
  rintro ⟨⟨g2, K2⟩, hK2⟩ hf2
  dsimp only at hf2 ⊢
  repeat' first
    | (refine gl_gate ?_; first
      | refine gl_nil ?_
      | (refine gl_any0 ?_; refine gl_pure tab_ok rfl rfl rfl rfl rfl rfl ?_))
    | (refine gc_gate ?_; first
      | refine gc_seq ?_)
    | (refine ge_gate ?_; first
      | ((with_reducible refine ge_gT ?_); first | with_reducible refine ge_then ?_ | with_reducible refine ge_then_exit ?_ | with_reducible refine ge_then_ret ?_))
  refine gp_start [] #[false, false, false, false, false, false, false, false, false, false, false, false, false, false, false, false, false, false, false, false, false, false, false, false, false, false, false] mixed rfl rfl c_qp ?_; intro hqp_
  refine gp_take 0 #[true, false, false, false, false, false, false, false, false, false, false, false, false, false, false, false, false, false, false, false, false, false, false, false, false, false, false] hqp_ rfl (by kernel_rfl) (yv_pure tab_ok c_gok rfl rfl c_allT) c_cl rfl rfl ?_
  refine gp_take 1 #[true, true, false, false, false, false, false, false, false, false, false, false, false, false, false, false, false, false, false, false, false, false, false, false, false, false, false] hqp_ rfl (by kernel_rfl) (yv_pure tab_ok c_gok rfl rfl c_allT) c_cl rfl rfl ?_
  refine gp_take 2 #[true, true, true, false, false, false, false, false, false, false, false, false, false, false, false, false, false, false, false, false, false, false, false, false, false, false, false] hqp_ rfl (by kernel_rfl) (yv_pure tab_ok c_gok rfl rfl c_allT) c_cl rfl rfl ?_
  refine gp_take 3 #[true, true, true, true, false, false, false, false, false, false, false, false, false, false, false, false, false, false, false, false, false, false, false, false, false, false, false] hqp_ rfl (by kernel_rfl) (yv_pure tab_ok c_gok rfl rfl c_allT) c_cl rfl rfl ?_
  refine gp_take 4 #[true, true, true, true, true, false, false, false, false, false, false, false, false, false, false, false, false, false, false, false, false, false, false, false, false, false, false] hqp_ rfl (by kernel_rfl) (yv_pure tab_ok c_gok rfl rfl c_allT) c_cl rfl rfl ?_
  refine gp_take 5 #[true, true, true, true, true, true, false, false, false, false, false, false, false, false, false, false, false, false, false, false, false, false, false, false, false, false, false] hqp_ rfl (by kernel_rfl) (yv_and c_gok rfl rfl rfl c_imp c_imp2) c_cl rfl rfl ?_
  refine gp_take 6 #[true, true, true, true, true, true, true, false, false, false, false, false, false, false, false, false, false, false, false, false, false, false, false, false, false, false, false] hqp_ rfl (by kernel_rfl) (yv_pure tab_ok c_gok rfl rfl c_allT) c_cl rfl rfl ?_
  refine gp_take 7 #[true, true, true, true, true, true, true, true, false, false, false, false, false, false, false, false, false, false, false, false, false, false, false, false, false, false, false] hqp_ rfl (by kernel_rfl) (yv_pure tab_ok c_gok rfl rfl c_allT) c_cl rfl rfl ?_
  (refine gp_evG 8 #[true, true, true, true, true, true, true, true, true, false, false, false, false, false, false, false, false, false, false, false, false, false, false, false, false, false, false] rfl (by kernel_rfl) rfl rfl rfl c_gok (ev_callOw rfl rfl ent111 rfl rfl rfl (fun W hW => ct_CellsP0 g2 W (hf2.at' hW c_kin)) ?_); intro pa ca spa hwa; refine ⟨c_cl, ?_⟩)
  refine gp_take 9 #[true, true, true, true, true, true, true, true, true, true, false, false, false, false, false, false, false, false, false, false, false, false, false, false, false, false, false] hqp_ rfl (by kernel_rfl) (yv_pure tab_ok c_gok rfl rfl c_allT) c_cl rfl rfl ?_
  refine gp_take 10 #[true, true, true, true, true, true, true, true, true, true, true, false, false, false, false, false, false, false, false, false, false, false, false, false, false, false, false] hqp_ rfl (by kernel_rfl) (((yv_pure tab_ok c_gok rfl rfl c_allT).cast (v' := .bool true) rfl)) c_cl rfl rfl ?_
  refine gp_take 11 #[true, true, true, true, true, true, true, true, true, true, true, true, false, false, false, false, false, false, false, false, false, false, false, false, false, false, false] hqp_ rfl (by kernel_rfl) (yv_and c_gok rfl rfl rfl c_imp c_imp2) c_cl rfl rfl ?_
  refine gp_take 12 #[true, true, true, true, true, true, true, true, true, true, true, true, true, false, false, false, false, false, false, false, false, false, false, false, false, false, false] hqp_ rfl (by kernel_rfl) (yv_pure tab_ok c_gok rfl rfl c_allT) c_cl rfl rfl ?_
  refine gp_take 13 #[true, true, true, true, true, true, true, true, true, true, true, true, true, true, false, false, false, false, false, false, false, false, false, false, false, false, false] hqp_ rfl (by kernel_rfl) (yv_pure tab_ok c_gok rfl rfl c_allT) c_cl rfl rfl ?_
  (refine gp_evG 14 #[true, true, true, true, true, true, true, true, true, true, true, true, true, true, true, false, false, false, false, false, false, false, false, false, false, false, false] rfl (by kernel_rfl) rfl rfl rfl c_gok (ev_callOw rfl rfl ent111 rfl rfl rfl (fun W hW => ct_CellsP1 g1 W (hf1.at' hW c_kin)) ?_); intro pb cb spb hwb; refine ⟨c_cl, ?_⟩)
  refine gp_take 15 #[true, true, true, true, true, true, true, true, true, true, true, true, true, true, true, true, false, false, false, false, false, false, false, false, false, false, false] hqp_ rfl (by kernel_rfl) (yv_pure tab_ok c_gok rfl rfl c_allT) c_cl rfl rfl ?_
  refine gp_take 16 #[true, true, true, true, true, true, true, true, true, true, true, true, true, true, true, true, true, false, false, false, false, false, false, false, false, false, false] hqp_ rfl (by kernel_rfl) (((yv_pure tab_ok c_gok rfl rfl c_allT).cast (v' := .bool true) rfl)) c_cl rfl rfl ?_
  refine gp_take 17 #[true, true, true, true, true, true, true, true, true, true, true, true, true, true, true, true, true, true, false, false, false, false, false, false, false, false, false] hqp_ rfl (by kernel_rfl) (yv_and c_gok rfl rfl rfl c_imp c_imp2) c_cl rfl rfl ?_
  refine gp_take 18 #[true, true, true, true, true, true, true, true, true, true, true, true, true, true, true, true, true, true, true, false, false, false, false, false, false, false, false] hqp_ rfl (by kernel_rfl) (yv_pure tab_ok c_gok rfl rfl c_allT) c_cl rfl rfl ?_
  refine gp_take 19 #[true, true, true, true, true, true, true, true, true, true, true, true, true, true, true, true, true, true, true, true, false, false, false, false, false, false, false] hqp_ rfl (by kernel_rfl) (yv_pure tab_ok c_gok rfl rfl c_allT) c_cl rfl rfl ?_
  refine gp_take 23 #[true, true, true, true, true, true, true, true, true, true, true, true, true, true, true, true, true, true, true, true, false, false, false, true, false, false, false] hqp_ rfl (by kernel_rfl) (yv_load tab_ok c_gok rfl rfl c_imp c_mem (fun _ => c_lds)) c_cl rfl rfl ?_
  (refine gp_evG 20 #[true, true, true, true, true, true, true, true, true, true, true, true, true, true, true, true, true, true, true, true, true, false, false, true, false, false, false] rfl (by kernel_rfl) rfl rfl rfl c_gok (ev_callOw rfl rfl ent111 rfl rfl rfl (fun W hW => ct_CellsP1 g1 W (hf1.at' hW c_kin)) ?_); intro pd cd spd hwd; refine ⟨c_cl, ?_⟩)
  refine gp_take 21 #[true, true, true, true, true, true, true, true, true, true, true, true, true, true, true, true, true, true, true, true, true, true, false, true, false, false, false] hqp_ rfl (by kernel_rfl) ((yv_idxO (i := 0) tab_ok hwd c_gok rfl rfl rfl rfl rfl rfl c_imp c_imp (fun _ => by decide))) c_cl rfl rfl ?_
  refine gp_evG 22 #[true, true, true, true, true, true, true, true, true, true, true, true, true, true, true, true, true, true, true, true, true, true, true, true, false, false, false] rfl (by kernel_rfl) rfl rfl rfl c_gok (ev_yv (l := []) rfl (yv_ldO tab_ok c_oa hwd (gok_none rfl) rfl rfl (fun _ => rfl) (fun _ => lds_cat (i := 0) len_cell (by decide) rfl rfl rfl) (fun _ => by decide)) ⟨c_cl, ?_⟩)
  refine gp_take 24 #[true, true, true, true, true, true, true, true, true, true, true, true, true, true, true, true, true, true, true, true, true, true, true, true, true, false, false] hqp_ rfl (by kernel_rfl) (yv_eqS tab_ok eqs_ok c_gok rfl rfl rfl rfl c_allT rfl rfl rfl) c_cl rfl rfl ?_
  refine gp_take 25 #[true, true, true, true, true, true, true, true, true, true, true, true, true, true, true, true, true, true, true, true, true, true, true, true, true, true, false] hqp_ rfl (by kernel_rfl) (yv_and c_gok rfl rfl rfl c_imp c_imp2) c_cl rfl rfl ?_
  refine gp_take 26 #[true, true, true, true, true, true, true, true, true, true, true, true, true, true, true, true, true, true, true, true, true, true, true, true, true, true, true] hqp_ rfl (by kernel_rfl) (yv_pure tab_ok c_gok rfl rfl c_allT) c_cl rfl rfl ?_
  refine gp_done (by kernel_rfl) ?_; clear hqp_
  repeat' first
    | (refine gc_gate ?_; first
      | refine gc_ret ?_)
    | (refine ge_gate ?_; first
      | ((with_reducible refine ge_gT ?_); first | with_reducible refine ge_then ?_ | with_reducible refine ge_then_exit ?_ | with_reducible refine ge_then_ret ?_)
      | ((with_reducible refine ge_gB ?_); first | refine ge_ret1 tab_ok rfl c_rvt ?_ | refine ge_end1 tab_ok rfl c_rvt ?_ | refine ge_ret2 tab_ok rfl c_rvt c_rvt ?_ | refine ge_ret_none rfl ?_ | refine ge_end_none rfl ?_))
  intro W hW
  exact ⟨by simp [cS], hW.below0⟩
theorem ct_CellsD (l : List En) (g : Nat) (D : DR) (w : World) (h : DpR w l g D) (hl : l.length ≤ 1000) : Calls Try.prog 112 #[.pointer (some (ad g))] w (RetOw w (dC l).length 3 (cat Cell.l (dC l)) 25) := by
  have hll := lastR_len l
  have := ct_CellsF (lastR l) g D.p D.c _ w h.hb h.es (by omega)
  rw [← dC_len2, show (lastR l).map En.cell = dC l from rfl] at this
  exact this
theorem ct_SameC (w : World) (L : List Cell) (p q : Option Addr) (n k cap cap' : Nat) (hn : n = L.length) (hk : k = L.length) (hs : SlA w 3 p n (fun i => (L.getD i default).l)) (hs' : SlA w 3 q k (fun i => (L.getD i default).l)) (hl : n ≤ 4611686018427387904) : Calls Try.prog 51 #[.slice p n cap, .slice q k cap'] w fun e w' => e = .returned (.bool true) ∧ Bl w w' := by
  have := ct_SameCells w L L p q n k cap cap' hn hk hs hs' hl (by omega)
  rw [decide_eq_true rfl] at this
  exact this
theorem rvD_shape (D : DR) (l : List En) (x : Cell) : ∃ q d, rvD D l x = .slice q (rdD l x).length d := by
  by_cases hx : x ∈ dC l
  · exact ⟨_, _, by unfold rvD; rw [if_pos hx]⟩
  · have h2 : rdD l x = [] := by
      cases h3 : rdD l x with
      | nil => rfl
      | cons y r => exact absurd (rdD_in (l := l) (c := x) (x := y) (by rw [h3]; exact List.mem_cons_self ..)) hx
    exact ⟨none, 0, by unfold rvD; rw [if_neg hx, h2]; rfl⟩
theorem rvD_sl {D : DR} {l : List En} {g : Nat} {W : World} {x : Cell} {q : Option Addr} {d : Nat} (h : DpR W l g D) (hv : rvD D l x = .slice q (rdD l x).length d) : SlA W 3 q (rdD l x).length (fun i => ((rdD l x).getD i default).l) := by
  obtain ⟨q', d', h1, h2⟩ := rvD_row h x
  rw [hv] at h1
  injection h1 with h3 _ _
  rw [h3]
  exact h2
theorem ct_ReadsD2 {D : DR} {l : List En} {g : Nat} {x : Cell} {q : Option Addr} {d : Nat} (w : World) (hv : rvD D l x = .slice q (rdD l x).length d) (h : DpR w l g D) (hl : l.length ≤ 1000) : Calls Try.prog 114 #[.pointer (some (ad g)), .agg x.l.toArray] w fun e w' => e = .returned (.slice q (rdD l x).length d) ∧ Bl w w' := by
  have := ct_ReadsD l g D x w h hl
  rw [hv] at this
  exact this
set_option maxHeartbeats 8000000 in
theorem walk_DepsTell (l : List En) (x : Cell) (p : Option Addr) (n cap : Nat) (hn : n = l.length) (hn9 : n ≤ 9223372036854775807) (w : World) (hs : SlA w 20 p n (fun i => (l.getD i default).l)) (hR : ∀ e ∈ l, NodeR All w e.node e.p) : Calls Try.prog 24 #[.slice p n cap, .agg x.l.toArray] w fun e w' => e = .returned (.bool true) ∧ Bl w w' := by
  subst hn
  refine enter (args := [_, _]) (M := []) (K := []) Try.func24 rfl Try.ntmps24 rfl (St.refl _ _) ?_
  repeat' first
    | (refine gl_gate ?_; first
      | refine gl_nil ?_
      | (refine gl_calv0 ?_; first | refine gl_yd (yd_call (gok_none rfl) rfl ent107 rfl rfl (fun _ => allT_of rfl) (fun _ W hW => ct_aliveD W)) rfl rfl ?_ | refine gl_yd (yd_call (gok_none rfl) rfl ent108 rfl rfl (fun _ => allT_of rfl) (fun _ W hW => ct_Few12 l p _ cap W rfl (hs.st hW) (fun e he => (hR e he).st hW) (by omega))) rfl rfl ?_)
      | (refine gl_calvG ?_; first | refine gl_yd (yd_call c_gok rfl ent107 rfl rfl c_allT (fun _ W hW => ct_aliveD W)) rfl rfl ?_ | refine gl_yd (yd_call c_gok rfl ent108 rfl rfl c_allT (fun _ W hW => ct_Few12 l p _ cap W rfl (hs.st hW) (fun e he => (hR e he).st hW) (by omega))) rfl rfl ?_)
      | (refine gl_pick0 ?_; first | refine gl_yv (yv_and (gok_none rfl) rfl rfl rfl (fun _ => rfl) c_imp2) rfl rfl ?_ | refine gl_yv (yv_or (gok_none rfl) rfl rfl rfl (fun _ => rfl) c_imp2) rfl rfl ?_)
      | (refine gl_box0 ?_; first | (refine gl_box_agg rfl rfl rfl rfl rfl ?_; intro g_ hg_) | (refine gl_box_one rfl rfl rfl rfl rfl rfl ?_; intro g_ hg_) | (refine gl_box rfl rfl rfl rfl rfl ?_; intro g_ hg_))
      | (refine gl_any0 ?_; refine gl_pure tab_ok rfl rfl rfl rfl rfl rfl ?_)
      | (refine gl_anyG ?_; first | refine gl_yv (yv_pure tab_ok c_gok rfl rfl c_allT) rfl rfl ?_ | refine gl_yv (yv_indexS tab_ok c_gok rfl rfl rfl rfl c_imp c_imp (by intro hq_; (try simp only [Bool.and_eq_true, Bool.not_eq_true', Bool.not_eq_false', Bool.or_eq_false_iff, Bool.or_eq_true, decide_eq_true_eq, decide_eq_false_iff_not, Bool.true_and, Bool.and_true] at hq_); omega)) rfl rfl ?_ | refine gl_yv (yv_indexS (i := 0) tab_ok c_gok rfl rfl rfl rfl c_imp c_imp (by intro hq_; (try simp only [Bool.and_eq_true, Bool.not_eq_true', Bool.not_eq_false', Bool.or_eq_false_iff, Bool.or_eq_true, decide_eq_true_eq, decide_eq_false_iff_not, Bool.true_and, Bool.and_true] at hq_); omega)) rfl rfl ?_))
    | (refine gc_gate ?_; first
      | refine gc_seq ?_
      | refine gc_region ?_)
    | (refine ge_gate ?_; first
      | ((with_reducible refine ge_gT ?_); first | with_reducible refine ge_then ?_ | with_reducible refine ge_then_exit ?_ | with_reducible refine ge_then_ret ?_))
  (refine gc_cond rfl ?_ ?_ <;> intro h_ <;> have hd_ := h_ <;> (try simp only [bytes_beq, cell_beq, val_beq, stamp_beq, decide_eq_true_eq, decide_eq_false_iff_not, Bool.and_eq_true, Bool.or_eq_true, Bool.or_eq_false_iff, Bool.not_eq_true', Bool.not_eq_false', Bool.not_true, Bool.not_false, Bool.false_or, Bool.true_and, Bool.and_true, Bool.or_false, beq_iff_eq, bne_iff_ne, beq_eq_false_iff_ne, bne_eq_false_iff_eq, ne_eq, Bool.false_eq_true, reduceCtorEq] at hd_) <;> (try (exfalso; omega)))
  · repeat' first
      | (refine gl_gate ?_; first
        | refine gl_nil ?_
        | (refine gl_any0 ?_; refine gl_pure tab_ok rfl rfl rfl rfl rfl rfl ?_))
      | (refine gc_gate ?_; first
        | refine gc_seq ?_
        | refine gc_region ?_
        | refine gc_ret ?_)
      | (refine ge_gate ?_; first
        | ((with_reducible refine ge_gT ?_); first | with_reducible refine ge_then ?_ | with_reducible refine ge_then_exit ?_ | with_reducible refine ge_then_ret ?_)
        | ((with_reducible refine ge_gB ?_); first | refine ge_ret1 tab_ok rfl c_rvt ?_ | refine ge_end1 tab_ok rfl c_rvt ?_ | refine ge_ret2 tab_ok rfl c_rvt c_rvt ?_ | refine ge_ret_none rfl ?_ | refine ge_end_none rfl ?_))
    intro W hW
    exact ⟨rfl, hW.below0⟩
  have hfew : few12 l = true := by simpa using hd_
  have hlen := few12_len hfew
  have hcn := fun e he => few12_node hfew (e := e) he
  clear h_ hd_
  repeat' first
    | (refine gl_gate ?_; first
      | (refine gl_app0 ?_; (refine gl_ev (ev_append tab_ok rfl rfl rfl rfl rfl rfl rfl rfl c_oa ((Ow.none0 (k := 20))) (src_any tab_ok rfl hs (fun _ => List.not_mem_nil) (fun i _ => ones_en _)) c_lim c_lim ?_) rfl rfl; intro p_ c_ sp_ hw_))
      | (refine gl_any0 ?_; refine gl_pure tab_ok rfl rfl rfl rfl rfl rfl ?_))
    | (refine gc_gate ?_; first
      | refine gc_seq ?_
      | refine gc_region ?_
      | refine gc_skip ?_)
    | (refine ge_gate ?_; first
      | ((with_reducible refine ge_gT ?_); first | with_reducible refine ge_then ?_ | with_reducible refine ge_then_exit ?_ | with_reducible refine ge_then_ret ?_))
  have e0 : [] ++ (elems l.length fun i => (l.getD i default).l).flatten = cat En.l l := by rw [elemsAllC]; rfl
  rw [e0, Nat.zero_add] at hw_
  rw [e0, Nat.zero_add]
  refine gl_ev (ev_callM (M' := []) (K2 := _) rfl rfl ent109 rfl rfl rfl (fun W hW => ct_New (S := All) l _ _ _ W rfl (slA_cat len_en rfl hW c_oa hw_) (fun e he => (hR e he).st hW) hcn (by omega)) (by simp) (fun x => x.2) (List.Sublist.refl _) (by simp) ?_) rfl rfl
  rintro ⟨⟨g1, K1⟩, hK1⟩ hf1
  dsimp only at hf1 ⊢
  repeat' first
    | (refine gl_gate ?_; first
      | refine gl_nil ?_
      | (refine gl_any0 ?_; refine gl_pure tab_ok rfl rfl rfl rfl rfl rfl ?_))
    | (refine gc_gate ?_; first
      | refine gc_seq ?_
      | refine gc_region ?_)
    | (refine ge_gate ?_; first
      | ((with_reducible refine ge_gT ?_); first | with_reducible refine ge_then ?_ | with_reducible refine ge_then_exit ?_ | with_reducible refine ge_then_ret ?_))
  refine gl_ev (ev_callM (M' := []) (K2 := _) rfl rfl ent110 rfl rfl rfl (fun W hW => ct_NewDeps (S := All) l _ _ _ W rfl (hs.st hW) (fun e he => (hR e he).st hW) hcn (by omega)) (by simp) (fun x => x.2) (List.Sublist.refl _) (by simp) ?_) rfl rfl
  rintro ⟨⟨gr, K2⟩, hK2⟩ ⟨D, hfD⟩
  dsimp only at hfD ⊢
  repeat' first
    | (refine gl_gate ?_; first
      | refine gl_nil ?_
      | (refine gl_any0 ?_; refine gl_pure tab_ok rfl rfl rfl rfl rfl rfl ?_)
      | (refine gl_anyG ?_; first | refine gl_yv (yv_pure tab_ok c_gok rfl rfl c_allT) rfl rfl ?_ | refine gl_yv (yv_indexS tab_ok c_gok rfl rfl rfl rfl c_imp c_imp (by intro hq_; (try simp only [Bool.and_eq_true, Bool.not_eq_true', Bool.not_eq_false', Bool.or_eq_false_iff, Bool.or_eq_true, decide_eq_true_eq, decide_eq_false_iff_not, Bool.true_and, Bool.and_true] at hq_); omega)) rfl rfl ?_ | refine gl_yv (yv_indexS (i := 0) tab_ok c_gok rfl rfl rfl rfl c_imp c_imp (by intro hq_; (try simp only [Bool.and_eq_true, Bool.not_eq_true', Bool.not_eq_false', Bool.or_eq_false_iff, Bool.or_eq_true, decide_eq_true_eq, decide_eq_false_iff_not, Bool.true_and, Bool.and_true] at hq_); omega)) rfl rfl ?_))
    | (refine gc_gate ?_; first
      | refine gc_seq ?_
      | refine gc_region ?_)
    | (refine ge_gate ?_; first
      | ((with_reducible refine ge_gT ?_); first | with_reducible refine ge_then ?_ | with_reducible refine ge_then_exit ?_ | with_reducible refine ge_then_ret ?_))
  refine gl_evG c_gokD (ev_callOw rfl rfl ent111 rfl rfl rfl (fun W hW => ct_CellsP l g1 W (hf1.at' hW c_kin) (by omega)) ?_) rfl rfl
  intro pa ca spa hwa
  repeat' first
    | (refine gl_gate ?_; first
      | (refine gl_anyG ?_; first | refine gl_yv (yv_pure tab_ok c_gok rfl rfl c_allT) rfl rfl ?_ | refine gl_yv (yv_indexS tab_ok c_gok rfl rfl rfl rfl c_imp c_imp (by intro hq_; (try simp only [Bool.and_eq_true, Bool.not_eq_true', Bool.not_eq_false', Bool.or_eq_false_iff, Bool.or_eq_true, decide_eq_true_eq, decide_eq_false_iff_not, Bool.true_and, Bool.and_true] at hq_); omega)) rfl rfl ?_ | refine gl_yv (yv_indexS (i := 0) tab_ok c_gok rfl rfl rfl rfl c_imp c_imp (by intro hq_; (try simp only [Bool.and_eq_true, Bool.not_eq_true', Bool.not_eq_false', Bool.or_eq_false_iff, Bool.or_eq_true, decide_eq_true_eq, decide_eq_false_iff_not, Bool.true_and, Bool.and_true] at hq_); omega)) rfl rfl ?_))
  refine gl_evG c_gokD (ev_callOw rfl rfl ent112 rfl rfl rfl (fun W hW => ct_CellsD l gr D W (hfD.at' hW c_kin) (by omega)) ?_) rfl rfl
  intro pb cb spb hwb
  have hdl := dC_len l
  repeat' first
    | (refine gl_gate ?_; first
      | refine gl_nil ?_
      | (refine gl_calvG ?_; first | refine gl_yd (yd_call c_gok rfl ent51 rfl rfl c_allT (fun _ W hW => ct_SameC W (dC l) _ _ _ _ _ _ rfl rfl (slA_cat len_cell rfl hW c_oa hwa) (slA_cat len_cell rfl hW c_oa hwb) (by omega))) rfl rfl ?_)
      | (refine gl_pick0 ?_; first | refine gl_yv (yv_and (gok_none rfl) rfl rfl rfl (fun _ => rfl) c_imp2) rfl rfl ?_ | refine gl_yv (yv_or (gok_none rfl) rfl rfl rfl (fun _ => rfl) c_imp2) rfl rfl ?_)
      | (refine gl_anyG ?_; first | refine gl_yv (yv_pure tab_ok c_gok rfl rfl c_allT) rfl rfl ?_ | refine gl_yv (yv_indexS tab_ok c_gok rfl rfl rfl rfl c_imp c_imp (by intro hq_; (try simp only [Bool.and_eq_true, Bool.not_eq_true', Bool.not_eq_false', Bool.or_eq_false_iff, Bool.or_eq_true, decide_eq_true_eq, decide_eq_false_iff_not, Bool.true_and, Bool.and_true] at hq_); omega)) rfl rfl ?_ | refine gl_yv (yv_indexS (i := 0) tab_ok c_gok rfl rfl rfl rfl c_imp c_imp (by intro hq_; (try simp only [Bool.and_eq_true, Bool.not_eq_true', Bool.not_eq_false', Bool.or_eq_false_iff, Bool.or_eq_true, decide_eq_true_eq, decide_eq_false_iff_not, Bool.true_and, Bool.and_true] at hq_); omega)) rfl rfl ?_))
    | (refine gc_gate ?_; first
      | refine gc_seq ?_
      | refine gc_false rfl ?_
      | refine gc_skip ?_)
    | (refine ge_gate ?_; first
      | ((with_reducible refine ge_gT ?_); first | with_reducible refine ge_then ?_ | with_reducible refine ge_then_exit ?_ | with_reducible refine ge_then_ret ?_))
  refine gc_sq (K2 ++ (K1 ++ [(g_, true, .cells x.l.toArray 25 (0, 0))])) c_sq ?_
  refine gc_cut (σ := Option Nat × Nat × List Value) (fun s => [(6, true, .pointer (some (ad g1))), (7, true, .pointer (some (ad gr))), (8, true, .slice (s.1.map ad) (dC l ++ [x]).length s.2.1)]) (fun s => ow s.1 true (cat Cell.l (dC l ++ [x]) ++ s.2.2) 25 ++ (K2 ++ K1)) (fun s => Ow s.1 (dC l ++ [x]).length s.2.1 3 (cat Cell.l (dC l ++ [x])) s.2.2) ?_ ?_
  · have e1 : cat Cell.l (dC l ++ [x]) = cat Cell.l (dC l) ++ x.l := cat_snoc ..
    have e2 : (dC l ++ [x]).length = (dC l).length + 1 := by simp
    rw [e1, e2]
    refine gp_start [4] #[false, false, false, false, false, false] mixed rfl rfl c_qp ?_; intro hqp_
    refine gp_take 0 #[true, false, false, false, false, false] hqp_ rfl (by kernel_rfl) (yv_pure tab_ok c_gok rfl rfl c_allT) c_cl rfl rfl ?_
    refine gp_take 2 #[true, false, true, false, false, false] hqp_ rfl (by kernel_rfl) (yv_load tab_ok c_gok rfl rfl c_imp c_mem (fun _ => c_lds)) c_cl rfl rfl ?_
    refine gp_rs [1, 3] (by kernel_rfl) rfl (gr_ev 1 #[true, true, true, false, false, false] rfl rfl rfl rfl rfl (ev_callOw rfl rfl ent112 rfl rfl rfl (fun W hW => ct_CellsD l gr D W (hfD.at' hW c_kin) (by omega)) ?_) (gr_ev 3 #[true, false, true, true, false, false] rfl rfl rfl rfl rfl (ev_buildSlice tab_ok rfl rfl rfl rfl rfl rfl rfl rfl rfl rfl ?_) gr_nil))
    intro pe ce spe hwe; refine ⟨c_cl, ?_⟩
    (refine gp_ev 3 #[true, true, true, true, false, false] rfl (by kernel_rfl) rfl rfl rfl (ev_buildSlice tab_ok rfl rfl rfl rfl rfl rfl rfl rfl rfl rfl ?_); intro g_ hg_; refine ⟨c_cl, ?_⟩)
    (refine gp_last 4 #[true, true, true, true, true, false] rfl (by kernel_rfl) (by simp) rfl rfl (ev_append tab_ok rfl rfl rfl rfl rfl rfl rfl rfl c_oa hwe c_src c_lim c_lim ?_); intro p8 c8 sp8 hw8)
    refine gp_take 5 #[true, true, true, true, true, true] hqp_ rfl (by kernel_rfl) (yv_pure tab_ok c_gok rfl rfl c_allT) c_cl rfl rfl ?_
    refine gp_done (by kernel_rfl) ?_; clear hqp_
    rotate_left 1
    intro g_ hg_; refine ⟨c_cl, ?_⟩
    (refine gp_ev 1 #[true, true, true, true, false, false] rfl (by kernel_rfl) rfl rfl rfl (ev_callOw rfl rfl ent112 rfl rfl rfl (fun W hW => ct_CellsD l gr D W (hfD.at' hW c_kin) (by omega)) ?_); intro pe ce spe hwe; refine ⟨c_cl, ?_⟩)
    (refine gp_last 4 #[true, true, true, true, true, false] rfl (by kernel_rfl) (by simp) rfl rfl (ev_append tab_ok rfl rfl rfl rfl rfl rfl rfl rfl c_oa hwe c_src c_lim c_lim ?_); intro p8 c8 sp8 hw8)
    refine gp_take 5 #[true, true, true, true, true, true] hqp_ rfl (by kernel_rfl) (yv_pure tab_ok c_gok rfl rfl c_allT) c_cl rfl rfl ?_
    refine gp_done (by kernel_rfl) ?_; clear hqp_
    all_goals
      refine ge_sq (ow p8 true (cat Cell.l (dC l) ++ x.l ++ sp8) 25 ++ (K2 ++ K1)) c_sq ?_
      exact ge_mid (p8, c8, sp8) hw8 c_frs (List.Sublist.refl _)
  rintro ⟨p8, c8, sp8⟩ hw8
  dsimp only at hw8 ⊢
  have hLl : (dC l ++ [x]).length ≤ 25 := by simp; omega
  generalize dC l ++ [x] = L at *
  repeat' first
    | (refine gl_gate ?_; first
      | refine gl_nil ?_
      | (refine gl_any0 ?_; refine gl_pure tab_ok rfl rfl rfl rfl rfl rfl ?_))
    | (refine gc_gate ?_; first
      | refine gc_seq ?_
      | refine gc_region ?_
      | refine gc_block ?_)
    | (refine ge_gate ?_; first
      | ((with_reducible refine ge_gT ?_); first | with_reducible refine ge_then ?_ | with_reducible refine ge_then_exit ?_ | with_reducible refine ge_then_ret ?_))
  refine gc_loop (α := Nat) (fun i => [(6, true, .pointer (some (ad g1))), (7, true, .pointer (some (ad gr))), (8, true, .slice (p8.map ad) L.length c8), (9, true, .int .i64 (i : Int))])
    (fun _ => ow p8 true (cat Cell.l L ++ sp8) 25 ++ (K2 ++ K1)) (fun i => i ≤ L.length) (fun i => L.length - i) 0 c_frs (List.Sublist.refl _) (Nat.zero_le _) ?_
  rintro i hi
  repeat' first
    | (refine gl_gate ?_; first
      | refine gl_nil ?_
      | (refine gl_any0 ?_; refine gl_pure tab_ok rfl rfl rfl rfl rfl rfl ?_))
    | (refine gc_gate ?_; first
      | refine gc_seq ?_
      | refine gc_region ?_)
    | (refine ge_gate ?_; first
      | ((with_reducible refine ge_gT ?_); first | with_reducible refine ge_then ?_ | with_reducible refine ge_then_exit ?_ | with_reducible refine ge_then_ret ?_))
  (refine gc_cond rfl ?_ ?_ <;> intro h_ <;> have hd_ := h_ <;> (try simp only [bytes_beq, cell_beq, val_beq, stamp_beq, decide_eq_true_eq, decide_eq_false_iff_not, Bool.and_eq_true, Bool.or_eq_true, Bool.or_eq_false_iff, Bool.not_eq_true', Bool.not_eq_false', Bool.not_true, Bool.not_false, Bool.false_or, Bool.true_and, Bool.and_true, Bool.or_false, beq_iff_eq, bne_iff_ne, beq_eq_false_iff_ne, bne_eq_false_iff_eq, ne_eq, Bool.false_eq_true, reduceCtorEq] at hd_) <;> (try (exfalso; omega)))
  · have hiL : i < L.length := by omega
    generalize hyy : L.getD i default = y
    obtain ⟨q, d, hv⟩ := rvD_shape D l y
    have h1 := rdD_len l y
    have h2 := rrD_len l y
    have h3 := aft_len l y
    repeat' first
      | (refine gc_gate ?_; first
        | refine gc_seq ?_
        | refine gc_block ?_
        | refine gc_skip ?_)
      | (refine ge_gate ?_; first
        | ((with_reducible refine ge_gT ?_); first | with_reducible refine ge_then ?_ | with_reducible refine ge_then_exit ?_ | with_reducible refine ge_then_ret ?_))
    refine gp_start [] #[false, false, false, false, false, false, false, false, false, false, false, false, false, false, false, false, false, false, false, false, false, false, false, false, false, false, false, false, false, false, false, false, false, false, false, false, false, false, false, false, false, false, false, false, false, false] mixed rfl rfl c_qp ?_; intro hqp_
    refine gp_take 0 #[true, false, false, false, false, false, false, false, false, false, false, false, false, false, false, false, false, false, false, false, false, false, false, false, false, false, false, false, false, false, false, false, false, false, false, false, false, false, false, false, false, false, false, false, false, false] hqp_ rfl (by kernel_rfl) (yv_pure tab_ok c_gokD rfl rfl c_allT) c_cl rfl rfl ?_
    refine gp_take 1 #[true, true, false, false, false, false, false, false, false, false, false, false, false, false, false, false, false, false, false, false, false, false, false, false, false, false, false, false, false, false, false, false, false, false, false, false, false, false, false, false, false, false, false, false, false, false] hqp_ rfl (by kernel_rfl) (yv_pure tab_ok c_gokD rfl rfl c_allT) c_cl rfl rfl ?_
    refine gp_take 2 #[true, true, true, false, false, false, false, false, false, false, false, false, false, false, false, false, false, false, false, false, false, false, false, false, false, false, false, false, false, false, false, false, false, false, false, false, false, false, false, false, false, false, false, false, false, false] hqp_ rfl (by kernel_rfl) (yv_pure tab_ok c_gokD rfl rfl c_allT) c_cl rfl rfl ?_
    refine gp_take 3 #[true, true, true, true, false, false, false, false, false, false, false, false, false, false, false, false, false, false, false, false, false, false, false, false, false, false, false, false, false, false, false, false, false, false, false, false, false, false, false, false, false, false, false, false, false, false] hqp_ rfl (by kernel_rfl) ((yv_idxO tab_ok hw8 c_gokD rfl rfl rfl rfl rfl rfl c_imp c_imp c_bnd)) c_cl rfl rfl ?_
    refine gp_take 4 #[true, true, true, true, true, false, false, false, false, false, false, false, false, false, false, false, false, false, false, false, false, false, false, false, false, false, false, false, false, false, false, false, false, false, false, false, false, false, false, false, false, false, false, false, false, false] hqp_ rfl (by kernel_rfl) (((yv_ldO (v := .agg y.l.toArray) tab_ok c_oa hw8 c_gokD rfl rfl c_imp (fun _ => by rw [← hyy]; exact lds_cat len_cell (by omega) rfl rfl rfl) c_bnd))) c_cl rfl rfl ?_
    refine gp_take 6 #[true, true, true, true, true, false, true, false, false, false, false, false, false, false, false, false, false, false, false, false, false, false, false, false, false, false, false, false, false, false, false, false, false, false, false, false, false, false, false, false, false, false, false, false, false, false] hqp_ rfl (by kernel_rfl) (yv_pure tab_ok c_gokD rfl rfl c_allT) c_cl rfl rfl ?_
    refine gp_take 7 #[true, true, true, true, true, false, true, true, false, false, false, false, false, false, false, false, false, false, false, false, false, false, false, false, false, false, false, false, false, false, false, false, false, false, false, false, false, false, false, false, false, false, false, false, false, false] hqp_ rfl (by kernel_rfl) (yv_pure tab_ok c_gokD rfl rfl c_allT) c_cl rfl rfl ?_
    refine gp_take 8 #[true, true, true, true, true, false, true, true, true, false, false, false, false, false, false, false, false, false, false, false, false, false, false, false, false, false, false, false, false, false, false, false, false, false, false, false, false, false, false, false, false, false, false, false, false, false] hqp_ rfl (by kernel_rfl) (yv_pure tab_ok c_gokD rfl rfl c_allT) c_cl rfl rfl ?_
    refine gp_take 9 #[true, true, true, true, true, false, true, true, true, true, false, false, false, false, false, false, false, false, false, false, false, false, false, false, false, false, false, false, false, false, false, false, false, false, false, false, false, false, false, false, false, false, false, false, false, false] hqp_ rfl (by kernel_rfl) ((yv_idxO tab_ok hw8 c_gokD rfl rfl rfl rfl rfl rfl c_imp c_imp c_bnd)) c_cl rfl rfl ?_
    refine gp_take 10 #[true, true, true, true, true, false, true, true, true, true, true, false, false, false, false, false, false, false, false, false, false, false, false, false, false, false, false, false, false, false, false, false, false, false, false, false, false, false, false, false, false, false, false, false, false, false] hqp_ rfl (by kernel_rfl) (((yv_ldO (v := .agg y.l.toArray) tab_ok c_oa hw8 c_gokD rfl rfl c_imp (fun _ => by rw [← hyy]; exact lds_cat len_cell (by omega) rfl rfl rfl) c_bnd))) c_cl rfl rfl ?_
    (refine gp_ev 5 #[true, true, true, true, true, true, true, true, true, true, true, false, false, false, false, false, false, false, false, false, false, false, false, false, false, false, false, false, false, false, false, false, false, false, false, false, false, false, false, false, false, false, false, false, false, false] rfl (by kernel_rfl) rfl rfl rfl (ev_callOw rfl rfl ent113 rfl rfl rfl (fun W hW => ct_ReadsP l g1 y W (hf1.at' hW c_kin) (by omega)) ?_); intro pa ca spa hwa; refine ⟨c_cl, ?_⟩)
    refine gp_ev 11 #[true, true, true, true, true, true, true, true, true, true, true, true, false, false, false, false, false, false, false, false, false, false, false, false, false, false, false, false, false, false, false, false, false, false, false, false, false, false, false, false, false, false, false, false, false, false] rfl (by kernel_rfl) rfl rfl rfl (ev_callq rfl rfl ent114 rfl rfl rfl (fun W hW => ct_ReadsD2 W hv (hfD.at' hW c_kin) (by omega)) ⟨c_cl, ?_⟩)
    refine gp_ev 12 #[true, true, true, true, true, true, true, true, true, true, true, true, true, false, false, false, false, false, false, false, false, false, false, false, false, false, false, false, false, false, false, false, false, false, false, false, false, false, false, false, false, false, false, false, false, false] rfl (by kernel_rfl) rfl rfl rfl (ev_callq rfl rfl ent51 rfl rfl rfl (fun W hW => ct_SameC W (rdD l y) _ _ _ _ _ _ rfl rfl (slA_cat len_cell rfl hW c_oa hwa) (rvD_sl (hfD.at' hW c_kin) hv) (by omega)) ⟨c_cl, ?_⟩)
    refine gp_take 13 #[true, true, true, true, true, true, true, true, true, true, true, true, true, true, false, false, false, false, false, false, false, false, false, false, false, false, false, false, false, false, false, false, false, false, false, false, false, false, false, false, false, false, false, false, false, false] hqp_ rfl (by kernel_rfl) (yv_pure tab_ok c_gokD rfl rfl c_allT) c_cl rfl rfl ?_
    refine gp_take 14 #[true, true, true, true, true, true, true, true, true, true, true, true, true, true, true, false, false, false, false, false, false, false, false, false, false, false, false, false, false, false, false, false, false, false, false, false, false, false, false, false, false, false, false, false, false, false] hqp_ rfl (by kernel_rfl) (((yv_pure tab_ok c_gokD rfl rfl c_allT).cast (v' := .bool false) rfl)) c_cl rfl rfl ?_
    refine gp_take 15 #[true, true, true, true, true, true, true, true, true, true, true, true, true, true, true, true, false, false, false, false, false, false, false, false, false, false, false, false, false, false, false, false, false, false, false, false, false, false, false, false, false, false, false, false, false, false] hqp_ rfl (by kernel_rfl) (yv_pure tab_ok c_gokD rfl rfl c_allT) c_cl rfl rfl ?_
    refine gp_take 16 #[true, true, true, true, true, true, true, true, true, true, true, true, true, true, true, true, true, false, false, false, false, false, false, false, false, false, false, false, false, false, false, false, false, false, false, false, false, false, false, false, false, false, false, false, false, false] hqp_ rfl (by kernel_rfl) (yv_pure tab_ok c_gokD rfl rfl c_allT) c_cl rfl rfl ?_
    refine gp_take 17 #[true, true, true, true, true, true, true, true, true, true, true, true, true, true, true, true, true, true, false, false, false, false, false, false, false, false, false, false, false, false, false, false, false, false, false, false, false, false, false, false, false, false, false, false, false, false] hqp_ rfl (by kernel_rfl) (yv_pure tab_ok c_gokD rfl rfl c_allT) c_cl rfl rfl ?_
    refine gp_take 18 #[true, true, true, true, true, true, true, true, true, true, true, true, true, true, true, true, true, true, true, false, false, false, false, false, false, false, false, false, false, false, false, false, false, false, false, false, false, false, false, false, false, false, false, false, false, false] hqp_ rfl (by kernel_rfl) ((yv_idxO tab_ok hw8 c_gokD rfl rfl rfl rfl rfl rfl c_imp c_imp c_bnd)) c_cl rfl rfl ?_
    refine gp_take 19 #[true, true, true, true, true, true, true, true, true, true, true, true, true, true, true, true, true, true, true, true, false, false, false, false, false, false, false, false, false, false, false, false, false, false, false, false, false, false, false, false, false, false, false, false, false, false] hqp_ rfl (by kernel_rfl) (((yv_ldO (v := .agg y.l.toArray) tab_ok c_oa hw8 c_gokD rfl rfl c_imp (fun _ => by rw [← hyy]; exact lds_cat len_cell (by omega) rfl rfl rfl) c_bnd))) c_cl rfl rfl ?_
    refine gp_take 21 #[true, true, true, true, true, true, true, true, true, true, true, true, true, true, true, true, true, true, true, true, false, true, false, false, false, false, false, false, false, false, false, false, false, false, false, false, false, false, false, false, false, false, false, false, false, false] hqp_ rfl (by kernel_rfl) (yv_pure tab_ok c_gokD rfl rfl c_allT) c_cl rfl rfl ?_
    refine gp_take 22 #[true, true, true, true, true, true, true, true, true, true, true, true, true, true, true, true, true, true, true, true, false, true, true, false, false, false, false, false, false, false, false, false, false, false, false, false, false, false, false, false, false, false, false, false, false, false] hqp_ rfl (by kernel_rfl) (yv_pure tab_ok c_gokD rfl rfl c_allT) c_cl rfl rfl ?_
    refine gp_take 23 #[true, true, true, true, true, true, true, true, true, true, true, true, true, true, true, true, true, true, true, true, false, true, true, true, false, false, false, false, false, false, false, false, false, false, false, false, false, false, false, false, false, false, false, false, false, false] hqp_ rfl (by kernel_rfl) (yv_pure tab_ok c_gokD rfl rfl c_allT) c_cl rfl rfl ?_
    refine gp_take 24 #[true, true, true, true, true, true, true, true, true, true, true, true, true, true, true, true, true, true, true, true, false, true, true, true, true, false, false, false, false, false, false, false, false, false, false, false, false, false, false, false, false, false, false, false, false, false] hqp_ rfl (by kernel_rfl) ((yv_idxO tab_ok hw8 c_gokD rfl rfl rfl rfl rfl rfl c_imp c_imp c_bnd)) c_cl rfl rfl ?_
    refine gp_take 25 #[true, true, true, true, true, true, true, true, true, true, true, true, true, true, true, true, true, true, true, true, false, true, true, true, true, true, false, false, false, false, false, false, false, false, false, false, false, false, false, false, false, false, false, false, false, false] hqp_ rfl (by kernel_rfl) (((yv_ldO (v := .agg y.l.toArray) tab_ok c_oa hw8 c_gokD rfl rfl c_imp (fun _ => by rw [← hyy]; exact lds_cat len_cell (by omega) rfl rfl rfl) c_bnd))) c_cl rfl rfl ?_
    (refine gp_evG 20 #[true, true, true, true, true, true, true, true, true, true, true, true, true, true, true, true, true, true, true, true, true, true, true, true, true, true, false, false, false, false, false, false, false, false, false, false, false, false, false, false, false, false, false, false, false, false] rfl (by kernel_rfl) rfl rfl rfl c_gokD (ev_callOw rfl rfl ent115 rfl rfl rfl (fun W hW => ct_ReadersP l g1 y W (hf1.at' hW c_kin) (by omega)) ?_); intro pb cb spb hwb; refine ⟨c_cl, ?_⟩)
    (refine gp_evG 26 #[true, true, true, true, true, true, true, true, true, true, true, true, true, true, true, true, true, true, true, true, true, true, true, true, true, true, true, false, false, false, false, false, false, false, false, false, false, false, false, false, false, false, false, false, false, false] rfl (by kernel_rfl) rfl rfl rfl c_gokD (ev_callOw rfl rfl ent116 rfl rfl rfl (fun W hW => ct_ReadersD l gr D y W (hfD.at' hW c_kin) (by omega)) ?_); intro pd cd spd hwd; refine ⟨c_cl, ?_⟩)
    refine gp_evG 27 #[true, true, true, true, true, true, true, true, true, true, true, true, true, true, true, true, true, true, true, true, true, true, true, true, true, true, true, true, false, false, false, false, false, false, false, false, false, false, false, false, false, false, false, false, false, false] rfl (by kernel_rfl) rfl rfl rfl c_gokD (ev_callq rfl rfl ent51 rfl rfl rfl (fun W hW => ct_SameC W (rrD l y) _ _ _ _ _ _ rfl rfl (slA_cat len_cell rfl hW c_oa hwb) (slA_cat len_cell rfl hW c_oa hwd) (by omega)) ⟨c_cl, ?_⟩)
    refine gp_take 28 #[true, true, true, true, true, true, true, true, true, true, true, true, true, true, true, true, true, true, true, true, true, true, true, true, true, true, true, true, true, false, false, false, false, false, false, false, false, false, false, false, false, false, false, false, false, false] hqp_ rfl (by kernel_rfl) (yv_pure tab_ok c_gokD rfl rfl c_allT) c_cl rfl rfl ?_
    refine gp_take 29 #[true, true, true, true, true, true, true, true, true, true, true, true, true, true, true, true, true, true, true, true, true, true, true, true, true, true, true, true, true, true, false, false, false, false, false, false, false, false, false, false, false, false, false, false, false, false] hqp_ rfl (by kernel_rfl) (yv_or c_gokD rfl rfl rfl c_imp c_imp2) c_cl rfl rfl ?_
    refine gp_take 30 #[true, true, true, true, true, true, true, true, true, true, true, true, true, true, true, true, true, true, true, true, true, true, true, true, true, true, true, true, true, true, true, false, false, false, false, false, false, false, false, false, false, false, false, false, false, false] hqp_ rfl (by kernel_rfl) (((yv_pure tab_ok c_gokD rfl rfl c_allT).cast (v' := .bool false) rfl)) c_cl rfl rfl ?_
    refine gp_take 31 #[true, true, true, true, true, true, true, true, true, true, true, true, true, true, true, true, true, true, true, true, true, true, true, true, true, true, true, true, true, true, true, true, false, false, false, false, false, false, false, false, false, false, false, false, false, false] hqp_ rfl (by kernel_rfl) (yv_pure tab_ok c_gokD rfl rfl c_allT) c_cl rfl rfl ?_
    refine gp_take 32 #[true, true, true, true, true, true, true, true, true, true, true, true, true, true, true, true, true, true, true, true, true, true, true, true, true, true, true, true, true, true, true, true, true, false, false, false, false, false, false, false, false, false, false, false, false, false] hqp_ rfl (by kernel_rfl) (yv_pure tab_ok c_gokD rfl rfl c_allT) c_cl rfl rfl ?_
    refine gp_take 33 #[true, true, true, true, true, true, true, true, true, true, true, true, true, true, true, true, true, true, true, true, true, true, true, true, true, true, true, true, true, true, true, true, true, true, false, false, false, false, false, false, false, false, false, false, false, false] hqp_ rfl (by kernel_rfl) (yv_pure tab_ok c_gokD rfl rfl c_allT) c_cl rfl rfl ?_
    refine gp_take 34 #[true, true, true, true, true, true, true, true, true, true, true, true, true, true, true, true, true, true, true, true, true, true, true, true, true, true, true, true, true, true, true, true, true, true, true, false, false, false, false, false, false, false, false, false, false, false] hqp_ rfl (by kernel_rfl) ((yv_idxO tab_ok hw8 c_gokD rfl rfl rfl rfl rfl rfl c_imp c_imp c_bnd)) c_cl rfl rfl ?_
    refine gp_take 35 #[true, true, true, true, true, true, true, true, true, true, true, true, true, true, true, true, true, true, true, true, true, true, true, true, true, true, true, true, true, true, true, true, true, true, true, true, false, false, false, false, false, false, false, false, false, false] hqp_ rfl (by kernel_rfl) (((yv_ldO (v := .agg y.l.toArray) tab_ok c_oa hw8 c_gokD rfl rfl c_imp (fun _ => by rw [← hyy]; exact lds_cat len_cell (by omega) rfl rfl rfl) c_bnd))) c_cl rfl rfl ?_
    refine gp_take 37 #[true, true, true, true, true, true, true, true, true, true, true, true, true, true, true, true, true, true, true, true, true, true, true, true, true, true, true, true, true, true, true, true, true, true, true, true, false, true, false, false, false, false, false, false, false, false] hqp_ rfl (by kernel_rfl) (yv_pure tab_ok c_gokD rfl rfl c_allT) c_cl rfl rfl ?_
    refine gp_take 38 #[true, true, true, true, true, true, true, true, true, true, true, true, true, true, true, true, true, true, true, true, true, true, true, true, true, true, true, true, true, true, true, true, true, true, true, true, false, true, true, false, false, false, false, false, false, false] hqp_ rfl (by kernel_rfl) (yv_pure tab_ok c_gokD rfl rfl c_allT) c_cl rfl rfl ?_
    refine gp_take 39 #[true, true, true, true, true, true, true, true, true, true, true, true, true, true, true, true, true, true, true, true, true, true, true, true, true, true, true, true, true, true, true, true, true, true, true, true, false, true, true, true, false, false, false, false, false, false] hqp_ rfl (by kernel_rfl) (yv_pure tab_ok c_gokD rfl rfl c_allT) c_cl rfl rfl ?_
    refine gp_take 40 #[true, true, true, true, true, true, true, true, true, true, true, true, true, true, true, true, true, true, true, true, true, true, true, true, true, true, true, true, true, true, true, true, true, true, true, true, false, true, true, true, true, false, false, false, false, false] hqp_ rfl (by kernel_rfl) ((yv_idxO tab_ok hw8 c_gokD rfl rfl rfl rfl rfl rfl c_imp c_imp c_bnd)) c_cl rfl rfl ?_
    refine gp_take 41 #[true, true, true, true, true, true, true, true, true, true, true, true, true, true, true, true, true, true, true, true, true, true, true, true, true, true, true, true, true, true, true, true, true, true, true, true, false, true, true, true, true, true, false, false, false, false] hqp_ rfl (by kernel_rfl) (((yv_ldO (v := .agg y.l.toArray) tab_ok c_oa hw8 c_gokD rfl rfl c_imp (fun _ => by rw [← hyy]; exact lds_cat len_cell (by omega) rfl rfl rfl) c_bnd))) c_cl rfl rfl ?_
    (refine gp_evG 36 #[true, true, true, true, true, true, true, true, true, true, true, true, true, true, true, true, true, true, true, true, true, true, true, true, true, true, true, true, true, true, true, true, true, true, true, true, true, true, true, true, true, true, false, false, false, false] rfl (by kernel_rfl) rfl rfl rfl c_gokD (ev_callOw rfl rfl ent117 rfl rfl rfl (fun W hW => ct_AfterP l g1 y W (hf1.at' hW c_kin) (by omega)) ?_); intro pe ce spe hwe; refine ⟨c_cl, ?_⟩)
    (refine gp_evG 42 #[true, true, true, true, true, true, true, true, true, true, true, true, true, true, true, true, true, true, true, true, true, true, true, true, true, true, true, true, true, true, true, true, true, true, true, true, true, true, true, true, true, true, true, false, false, false] rfl (by kernel_rfl) rfl rfl rfl c_gokD (ev_callOw rfl rfl ent118 rfl rfl rfl (fun W hW => ct_AfterD l gr D y W (hfD.at' hW c_kin) (by omega)) ?_); intro pf cf spf hwf; refine ⟨c_cl, ?_⟩)
    refine gp_evG 43 #[true, true, true, true, true, true, true, true, true, true, true, true, true, true, true, true, true, true, true, true, true, true, true, true, true, true, true, true, true, true, true, true, true, true, true, true, true, true, true, true, true, true, true, true, false, false] rfl (by kernel_rfl) rfl rfl rfl c_gokD (ev_callq rfl rfl ent51 rfl rfl rfl (fun W hW => ct_SameC W (aft l y) _ _ _ _ _ _ rfl rfl (slA_cat len_cell rfl hW c_oa hwe) (slA_cat len_cell rfl hW c_oa hwf) (by omega)) ⟨c_cl, ?_⟩)
    refine gp_take 44 #[true, true, true, true, true, true, true, true, true, true, true, true, true, true, true, true, true, true, true, true, true, true, true, true, true, true, true, true, true, true, true, true, true, true, true, true, true, true, true, true, true, true, true, true, true, false] hqp_ rfl (by kernel_rfl) (yv_pure tab_ok c_gokD rfl rfl c_allT) c_cl rfl rfl ?_
    refine gp_take 45 #[true, true, true, true, true, true, true, true, true, true, true, true, true, true, true, true, true, true, true, true, true, true, true, true, true, true, true, true, true, true, true, true, true, true, true, true, true, true, true, true, true, true, true, true, true, true] hqp_ rfl (by kernel_rfl) (yv_or c_gokD rfl rfl rfl c_imp c_imp2) c_cl rfl rfl ?_
    refine gp_done (by kernel_rfl) ?_; clear hqp_
    repeat' first
      | (refine gl_gate ?_; first
        | refine gl_nil ?_
        | (refine gl_add0 ?_; refine gl_yv (yv_add tab_ok (gok_none rfl) rfl rfl rfl rfl (fun _ => allT_of rfl) (by intro _; omega)) rfl rfl ?_)
        | (refine gl_any0 ?_; refine gl_pure tab_ok rfl rfl rfl rfl rfl rfl ?_))
      | (refine gc_gate ?_; first
        | refine gc_region ?_
        | refine gc_false rfl ?_
        | refine gc_skip ?_)
      | (refine ge_gate ?_; first
        | ((with_reducible refine ge_gT ?_); first | with_reducible refine ge_then ?_ | with_reducible refine ge_then_exit ?_ | with_reducible refine ge_then_ret ?_)
        | ((with_reducible refine ge_gK ?_); first | with_reducible refine ge_block ?_ | refine ge_block_exit ?_ | refine ge_block_pass rfl ?_ | with_reducible refine ge_block_ret ?_))
    refine ge_sq (ow p8 true (cat Cell.l L ++ sp8) 25 ++ (K2 ++ K1)) c_sq ?_
    exact ge_round (i + 1) (by omega) (by omega) c_frs (List.Sublist.refl _)
  · repeat' first
      | (refine gl_gate ?_; first
        | refine gl_nil ?_
        | (refine gl_any0 ?_; refine gl_pure tab_ok rfl rfl rfl rfl rfl rfl ?_))
      | (refine gc_gate ?_; first
        | refine gc_seq ?_
        | refine gc_region ?_
        | refine gc_exit ?_
        | refine gc_ret ?_)
      | (refine ge_gate ?_; first
        | ((with_reducible refine ge_gT ?_); first | with_reducible refine ge_then ?_ | with_reducible refine ge_then_exit ?_ | with_reducible refine ge_then_ret ?_)
        | ((with_reducible refine ge_gK ?_); first | with_reducible refine ge_block ?_ | refine ge_block_exit ?_ | refine ge_block_pass rfl ?_ | with_reducible refine ge_block_ret ?_)
        | ((with_reducible refine ge_gB ?_); first | refine ge_ret1 tab_ok rfl c_rvt ?_ | refine ge_end1 tab_ok rfl c_rvt ?_ | refine ge_ret2 tab_ok rfl c_rvt c_rvt ?_ | refine ge_ret_none rfl ?_ | refine ge_end_none rfl ?_))
    intro W hW
    exact ⟨rfl, hW.below0⟩
theorem law_DepsTell (W : World) {b0 b1 : Nat} {v0 v1 : Value} (o0 : Value.okWide Try.prog W .any b0 124 v0) (o1 : Value.okWide Try.prog W .any b1 25 v1)
    (r0 : ∃ m, Rd tab W m 124 v0.cells.toList) (r1 : ∃ m, Rd tab W m 25 v1.cells.toList) : Calls Try.prog 24 #[v0, v1] W fun e w' => e = .returned (.bool true) ∧ Bl W w' := by
  rw [arg_one tab_ok (t := 124) rfl rfl o0] at r0
  obtain ⟨cs, rfl⟩ := arg_struct tab_ok (t := 25) rfl o1
  obtain ⟨m0, r0⟩ := r0
  obtain ⟨m1, r1⟩ := r1
  obtain ⟨p, n, cap, l, h0, hn, hle, hcap, hs, hR⟩ := rdEns r0
  obtain ⟨d, h1, _⟩ := rdCell r1
  have h1' : cs = d.l := by simpa [Value.cells] using h1
  subst h1'
  cases h0
  exact walk_DepsTell l d p n cap hn (by omega) W hs hR
end Go.Proofs.Ytkgjfcjciigcgaa
