/-
  The methods of the reference's Deps.
-/
import Derived.Test.YtkgjfcjciigcgaaGoDepsR
namespace Go.Proofs.Ytkgjfcjciigcgaa
open Go.Proofs.Ytkgjfcjciigcgaa.Sl Go.RowKit
set_option linter.unusedVariables false
set_option linter.unusedSimpArgs false
set_option linter.unusedSectionVars false
set_option maxRecDepth 100000

theorem lkE_at {L : List En} (h : SrtE L) {e : En} (he : e ∈ L) : lkE L e.cell = some e := by
  induction L with
  | nil => cases he
  | cons x r ih =>
    have h' := List.pairwise_cons.1 h
    unfold lkE
    rcases List.mem_cons.1 he with rfl | he
    · rw [if_pos rfl]
    · rw [if_neg, ih h'.2 he]
      intro e2
      have := h'.1 e.cell (List.mem_map.2 ⟨e, he, rfl⟩)
      rw [e2] at this
      exact cLt_irrefl _ this
theorem rdD_at {l : List En} {i : Nat} (hi : i < (lastR l).length) : rdD l ((lastR l).getD i default).cell = rwI l i := by
  unfold rdD
  rw [lkE_at (lastR_srt l) (getD_mem _ i hi)]
  rfl
theorem rwI_len {l : List En} {i : Nat} (hi : i < (lastR l).length) : (rwI l i).length ≤ l.length := by
  rw [← rdD_at hi]
  exact rdD_len l _
def rvD (D : DR) (l : List En) (x : Cell) : Value := if x ∈ dC l then .slice (D.rp ((dC l).idxOf x)) (rdD l x).length (D.rc ((dC l).idxOf x)) else nilS
theorem rvD_at {D : DR} {l : List En} {x : Cell} {i : Nat} (hi : i < (lastR l).length) (hx : ((lastR l).getD i default).cell = x) : rvD D l x = .slice (D.rp i) (rwI l i).length (D.rc i) := by
  have h1 := dC_getD hi
  rw [hx] at h1
  have h2 : (dC l).idxOf x = i := by
    have h3 : i < (dC l).length := by rw [dC_len2]; exact hi
    rw [← h1, List.getD_eq_getElem?_getD, List.getElem?_eq_getElem h3, Option.getD_some]
    exact (cLt_nodup (dC_lt l)).idxOf_getElem i h3
  have h3 : x ∈ dC l := by rw [← h1]; exact getD_mem _ i (by rw [dC_len2]; exact hi)
  unfold rvD
  rw [if_pos h3, h2, ← hx, rdD_at hi]
theorem rvD_row {D : DR} {l : List En} {g : Nat} {W : World} (h : DpR W l g D) (x : Cell) : RowV W (rvD D l x) (rdD l x) := by
  by_cases hx : x ∈ dC l
  · obtain ⟨e, he, hex⟩ := List.mem_map.1 hx
    obtain ⟨i, hi, hie⟩ := List.mem_iff_getElem.1 he
    have h1 : ((lastR l).getD i default).cell = x := by rw [List.getD_eq_getElem?_getD, List.getElem?_eq_getElem hi, Option.getD_some, hie, hex]
    rw [rvD_at hi h1, ← h1, rdD_at hi]
    exact ⟨_, _, rfl, h.rows i hi⟩
  · have h2 : rdD l x = [] := by
      cases h3 : rdD l x with
      | nil => rfl
      | cons y r => exact absurd (rdD_in (l := l) (c := x) (x := y) (by rw [h3]; exact List.mem_cons_self ..)) hx
    unfold rvD
    rw [if_neg hx, h2]
    exact ⟨none, 0, rfl, SlA.nil⟩
theorem ct_ReadsD (l : List En) (g : Nat) (D : DR) (x : Cell) (w : World) (h : DpR w l g D) (hl : l.length ≤ 1000) : Calls Try.prog 114 #[.pointer (some (ad g)), .agg x.l.toArray] w fun e w' => e = .returned (rvD D l x) ∧ Bl w w' := by
  have hll := lastR_len l
  have hes := h.es
  have hrs := h.rs
  refine enter (args := [_, _]) (M := []) (K := []) Try.func114 rfl Try.ntmps114 rfl (St.refl _ _) ?_
  refine gc_old h.hb (by simp) (by simp) ?_
  repeat' first
    | (refine gl_gate ?_; first
      | refine gl_nil ?_
      | (refine gl_box0 ?_; first | (refine gl_box_agg rfl rfl rfl rfl rfl ?_; intro g_ hg_) | (refine gl_box_one rfl rfl rfl rfl rfl rfl ?_; intro g_ hg_) | (refine gl_box rfl rfl rfl rfl rfl ?_; intro g_ hg_))
      | (refine gl_any0 ?_; refine gl_pure tab_ok rfl rfl rfl rfl rfl rfl ?_))
    | (refine gc_gate ?_; first
      | refine gc_seq ?_
      | refine gc_region ?_
      | refine gc_block ?_)
    | (refine ge_gate ?_; first
      | ((with_reducible refine ge_gT ?_); first | with_reducible refine ge_then ?_ | with_reducible refine ge_then_exit ?_ | with_reducible refine ge_then_ret ?_))
  refine gc_loop (α := Nat) (fun i => [(0, true, .pointer (some (ad g))), (3, true, .pointer (some ⟨g_, 0, none⟩)), (5, true, .int .i64 (i : Int))])
    (fun _ => [(g_, true, .cells x.l.toArray 25 (0, 0)), (g, false, .cells [.slice D.p (lastR l).length D.c, .slice D.q (lastR l).length D.d].toArray 212 (0, 0))]) (fun i => i ≤ (lastR l).length ∧ ∀ j, j < i → ((lastR l).getD j default).cell ≠ x) (fun i => (lastR l).length - i) 0 c_frs (List.Sublist.refl _) ⟨Nat.zero_le _, fun j hj => absurd hj (Nat.not_lt_zero _)⟩ ?_
  rintro i ⟨hi, he⟩
  repeat' first
    | (refine gl_gate ?_; first
      | refine gl_nil ?_
      | (refine gl_load0 ?_; refine gl_yv (yv_load tab_ok (gok_none rfl) rfl rfl (fun _ => rfl) c_mem (fun _ => c_lds)) rfl rfl ?_)
      | (refine gl_any0 ?_; refine gl_pure tab_ok rfl rfl rfl rfl rfl rfl ?_))
    | (refine gc_gate ?_; first
      | refine gc_seq ?_
      | refine gc_region ?_)
    | (refine ge_gate ?_; first
      | ((with_reducible refine ge_gT ?_); first | with_reducible refine ge_then ?_ | with_reducible refine ge_then_exit ?_ | with_reducible refine ge_then_ret ?_))
  (refine gc_cond rfl ?_ ?_ <;> intro h_ <;> have hd_ := h_ <;> (try simp only [bytes_beq, cell_beq, val_beq, stamp_beq, decide_eq_true_eq, decide_eq_false_iff_not, Bool.and_eq_true, Bool.or_eq_true, Bool.or_eq_false_iff, Bool.not_eq_true', Bool.not_eq_false', Bool.not_true, Bool.not_false, Bool.false_or, Bool.true_and, Bool.and_true, Bool.or_false, beq_iff_eq, bne_iff_ne, beq_eq_false_iff_ne, bne_eq_false_iff_eq, ne_eq, Bool.false_eq_true, reduceCtorEq] at hd_) <;> (try (exfalso; omega)))
  · have hiN : i < (lastR l).length := by omega
    repeat' first
      | (refine gc_gate ?_; first
        | refine gc_seq ?_
        | refine gc_quietRo rfl mixed (by decide +kernel) ?_
        | refine gc_block ?_
        | refine gc_skip ?_)
      | (refine ge_gate ?_; first
        | ((with_reducible refine ge_gT ?_); first | with_reducible refine ge_then ?_ | with_reducible refine ge_then_exit ?_ | with_reducible refine ge_then_ret ?_))
      | (refine gq_gate ?_; first
        | refine gq_nil ?_
        | (refine gq_load0 ?_; refine gq_yv (yv_load tab_ok (gok_none rfl) rfl rfl (fun _ => rfl) c_mem (fun _ => c_lds)) rfl rfl ?_)
        | (refine gq_idx0 ?_; refine gq_yv (yv_idxA tab_ok hes (gok_none rfl) rfl rfl rfl rfl rfl rfl (fun _ => rfl) (fun _ => rfl) c_bnd) rfl rfl ?_)
        | (refine gq_load0 ?_; refine gq_yv (yv_ldA tab_ok hes c_nm (gok_none rfl) rfl rfl (fun _ => rfl) c_bnd (fun _ => c_lds)) rfl rfl ?_)
        | (refine gq_any0 ?_; refine gq_pure tab_ok rfl rfl rfl rfl rfl rfl ?_)
        | (refine gq_eqS ?_; first | refine gq_yv (yv_eqS tab_ok eqs_ok c_gok rfl rfl rfl rfl c_allT rfl rfl rfl) rfl rfl ?_))
    (refine gc_cond rfl ?_ ?_ <;> intro h_ <;> have hd_ := h_ <;> (try simp only [bytes_beq, cell_beq, val_beq, stamp_beq, decide_eq_true_eq, decide_eq_false_iff_not, Bool.and_eq_true, Bool.or_eq_true, Bool.or_eq_false_iff, Bool.not_eq_true', Bool.not_eq_false', Bool.not_true, Bool.not_false, Bool.false_or, Bool.true_and, Bool.and_true, Bool.or_false, beq_iff_eq, bne_iff_ne, beq_eq_false_iff_ne, bne_eq_false_iff_eq, ne_eq, Bool.false_eq_true, reduceCtorEq] at hd_) <;> (try (exfalso; omega)))
    · repeat' first
        | (refine gl_gate ?_; first
          | refine gl_nil ?_
          | (refine gl_load0 ?_; refine gl_yv (yv_load tab_ok (gok_none rfl) rfl rfl (fun _ => rfl) c_mem (fun _ => c_lds)) rfl rfl ?_)
          | (refine gl_idx0 ?_; refine gl_yv (yv_idxA tab_ok hrs (gok_none rfl) rfl rfl rfl rfl rfl rfl (fun _ => rfl) (fun _ => rfl) c_bnd) rfl rfl ?_)
          | (refine gl_load0 ?_; refine gl_yv (yv_ldA0 tab_ok hrs c_nm (gok_none rfl) rfl rfl (fun _ => rfl) c_bnd (fun _ => c_lds)) rfl rfl ?_)
          | (refine gl_any0 ?_; refine gl_pure tab_ok rfl rfl rfl rfl rfl rfl ?_))
        | (refine gc_gate ?_; first
          | refine gc_seq ?_
          | refine gc_region ?_
          | refine gc_ret ?_)
        | (refine ge_gate ?_; first
          | ((with_reducible refine ge_gT ?_); first | with_reducible refine ge_then ?_ | with_reducible refine ge_then_exit ?_ | with_reducible refine ge_then_ret ?_)
          | ((with_reducible refine ge_gK ?_); first | with_reducible refine ge_block ?_ | refine ge_block_exit ?_ | refine ge_block_pass rfl ?_ | with_reducible refine ge_block_ret ?_)
          | ((with_reducible refine ge_gB ?_); first | refine ge_ret1 tab_ok rfl c_rvt ?_ | refine ge_end1 tab_ok rfl c_rvt ?_ | refine ge_ret2 tab_ok rfl c_rvt c_rvt ?_ | refine ge_ret_none rfl ?_ | refine ge_end_none rfl ?_))
      intro W hW
      exact ⟨by rw [rvD_at hiN hd_], hW.below0⟩
    · repeat' first
        | (refine gl_gate ?_; first
          | refine gl_nil ?_
          | (refine gl_add0 ?_; refine gl_yv (yv_add tab_ok (gok_none rfl) rfl rfl rfl rfl (fun _ => allT_of rfl) (by intro _; omega)) rfl rfl ?_)
          | (refine gl_any0 ?_; refine gl_pure tab_ok rfl rfl rfl rfl rfl rfl ?_))
        | (refine gc_gate ?_; first
          | refine gc_region ?_
          | refine gc_skip ?_)
        | (refine ge_gate ?_; first
          | ((with_reducible refine ge_gT ?_); first | with_reducible refine ge_then ?_ | with_reducible refine ge_then_exit ?_ | with_reducible refine ge_then_ret ?_)
          | ((with_reducible refine ge_gK ?_); first | with_reducible refine ge_block ?_ | refine ge_block_exit ?_ | refine ge_block_pass rfl ?_ | with_reducible refine ge_block_ret ?_))
      refine ge_round (i + 1) ⟨by omega, fun j hj => ?_⟩ (by omega) c_frs (List.Sublist.refl _)
      rcases Nat.lt_or_ge j i with h2 | h2
      · exact he j h2
      · obtain rfl : j = i := by omega
        exact hd_
  · repeat' first
      | (refine gl_gate ?_; first
        | refine gl_nil ?_
        | (refine gl_any0 ?_; refine gl_pure tab_ok rfl rfl rfl rfl rfl rfl ?_))
      | (refine gc_gate ?_; first
        | refine gc_seq ?_
        | refine gc_region ?_
        | refine gc_exit ?_
        | refine gc_ret ?_)
      | (refine ge_gate ?_; first
        | ((with_reducible refine ge_gT ?_); first | with_reducible refine ge_then ?_ | with_reducible refine ge_then_exit ?_ | with_reducible refine ge_then_ret ?_)
        | ((with_reducible refine ge_gK ?_); first | with_reducible refine ge_block ?_ | refine ge_block_exit ?_ | refine ge_block_pass rfl ?_ | with_reducible refine ge_block_ret ?_)
        | ((with_reducible refine ge_gB ?_); first | refine ge_ret1 tab_ok rfl c_rvt ?_ | refine ge_end1 tab_ok rfl c_rvt ?_ | refine ge_ret2 tab_ok rfl c_rvt c_rvt ?_ | refine ge_ret_none rfl ?_ | refine ge_end_none rfl ?_))
    intro W hW
    refine ⟨?_, hW.below0⟩
    have hx : x ∉ dC l := fun hx => by
      obtain ⟨e, hel, hex⟩ := List.mem_map.1 hx
      obtain ⟨j, hj, hje⟩ := List.mem_iff_getElem.1 hel
      refine he j (by omega) ?_
      rw [List.getD_eq_getElem?_getD, List.getElem?_eq_getElem hj, Option.getD_some, hje, hex]
    unfold rvD
    rw [if_neg hx]
    rfl
/-- What reads x, of the first i. -/
def rrI (l : List En) (x : Cell) (i : Nat) : List Cell := ((dC l).take i).filter fun y => decide (x ∈ rdD l y)
theorem rrI_all (l : List En) (x : Cell) : rrI l x (dC l).length = rrD l x := by unfold rrI rrD; rw [List.take_length]
theorem rrI_yes {l : List En} {x : Cell} {i : Nat} (hi : i < (lastR l).length) (h : x ∈ rwI l i) : rrI l x (i + 1) = rrI l x i ++ [((lastR l).getD i default).cell] := by
  unfold rrI
  rw [take_succD _ _ (by rw [dC_len2]; exact hi), List.filter_append, dC_getD hi, fil_pos (by rw [decide_eq_true_eq, rdD_at hi]; exact h)]
theorem rrI_no {l : List En} {x : Cell} {i : Nat} (hi : i < (lastR l).length) (h : x ∉ rwI l i) : rrI l x (i + 1) = rrI l x i := by
  unfold rrI
  rw [take_succD _ _ (by rw [dC_len2]; exact hi), List.filter_append, dC_getD hi, fil_neg (by rw [decide_eq_true_eq, rdD_at hi]; exact h), List.append_nil]
theorem rrI_len (l : List En) (x : Cell) (i : Nat) : (rrI l x i).length ≤ l.length := Nat.le_trans (List.length_filter_le ..) (Nat.le_trans (List.length_take_le' ..) (dC_len l))
theorem ct_ReadersD (l : List En) (g : Nat) (D : DR) (x : Cell) (w : World) (h : DpR w l g D) (hl : l.length ≤ 1000) : Calls Try.prog 116 #[.pointer (some (ad g)), .agg x.l.toArray] w (RetOw w (rrD l x).length 3 (cat Cell.l (rrD l x)) 25) := by
  have hll := lastR_len l
  have hes := h.es
  have hrs := h.rs
  refine enter (args := [_, _]) (M := []) (K := []) Try.func116 rfl Try.ntmps116 rfl (St.refl _ _) ?_
  refine gc_old h.hb (by simp) (by simp) ?_
  repeat' first
    | (refine gl_gate ?_; first
      | refine gl_nil ?_
      | (refine gl_box0 ?_; first | (refine gl_box_agg rfl rfl rfl rfl rfl ?_; intro g_ hg_) | (refine gl_box_one rfl rfl rfl rfl rfl rfl ?_; intro g_ hg_) | (refine gl_box rfl rfl rfl rfl rfl ?_; intro g_ hg_))
      | (refine gl_any0 ?_; refine gl_pure tab_ok rfl rfl rfl rfl rfl rfl ?_))
    | (refine gc_gate ?_; first
      | refine gc_seq ?_
      | refine gc_region ?_
      | refine gc_block ?_)
    | (refine ge_gate ?_; first
      | ((with_reducible refine ge_gT ?_); first | with_reducible refine ge_then ?_ | with_reducible refine ge_then_exit ?_ | with_reducible refine ge_then_ret ?_))
  refine gc_loop (α := Nat × Option Nat × Nat × List Value) (fun s => [(0, true, .pointer (some (ad g))), (3, true, .pointer (some ⟨g_, 0, none⟩)), (5, true, .slice (s.2.1.map ad) (rrI l x s.1).length s.2.2.1), (6, true, .int .i64 (s.1 : Int))])
    (fun s => ow s.2.1 true (cat Cell.l (rrI l x s.1) ++ s.2.2.2) 25 ++ [(g_, true, .cells x.l.toArray 25 (0, 0)), (g, false, .cells [.slice D.p (lastR l).length D.c, .slice D.q (lastR l).length D.d].toArray 212 (0, 0))]) (fun s => s.1 ≤ (lastR l).length ∧ Ow s.2.1 (rrI l x s.1).length s.2.2.1 3 (cat Cell.l (rrI l x s.1)) s.2.2.2) (fun s => (lastR l).length - s.1) (0, none, 0, []) c_frs (List.Sublist.refl _) ⟨Nat.zero_le _, Ow.none0⟩ ?_
  rintro ⟨i, q, c, sp⟩ ⟨hi, ho⟩
  dsimp only at hi ho ⊢
  have hrl := rrI_len l x i
  repeat' first
    | (refine gl_gate ?_; first
      | refine gl_nil ?_
      | (refine gl_load0 ?_; refine gl_yv (yv_load tab_ok (gok_none rfl) rfl rfl (fun _ => rfl) c_mem (fun _ => c_lds)) rfl rfl ?_)
      | (refine gl_any0 ?_; refine gl_pure tab_ok rfl rfl rfl rfl rfl rfl ?_))
    | (refine gc_gate ?_; first
      | refine gc_seq ?_
      | refine gc_region ?_)
    | (refine ge_gate ?_; first
      | ((with_reducible refine ge_gT ?_); first | with_reducible refine ge_then ?_ | with_reducible refine ge_then_exit ?_ | with_reducible refine ge_then_ret ?_))
  (refine gc_cond rfl ?_ ?_ <;> intro h_ <;> have hd_ := h_ <;> (try simp only [bytes_beq, cell_beq, val_beq, stamp_beq, decide_eq_true_eq, decide_eq_false_iff_not, Bool.and_eq_true, Bool.or_eq_true, Bool.or_eq_false_iff, Bool.not_eq_true', Bool.not_eq_false', Bool.not_true, Bool.not_false, Bool.false_or, Bool.true_and, Bool.and_true, Bool.or_false, beq_iff_eq, bne_iff_ne, beq_eq_false_iff_ne, bne_eq_false_iff_eq, ne_eq, Bool.false_eq_true, reduceCtorEq] at hd_) <;> (try (exfalso; omega)))
  · have hiN : i < (lastR l).length := by omega
    have hrw := h.rows i hiN
    have hwl := rwI_len hiN
    repeat' first
      | (refine gc_gate ?_; first
        | refine gc_seq ?_
        | refine gc_quietRo rfl mixed (by decide +kernel) ?_
        | refine gc_block ?_
        | refine gc_skip ?_)
      | (refine ge_gate ?_; first
        | ((with_reducible refine ge_gT ?_); first | with_reducible refine ge_then ?_ | with_reducible refine ge_then_exit ?_ | with_reducible refine ge_then_ret ?_))
      | (refine gq_gate ?_; first
        | refine gq_nil ?_
        | (refine gq_load0 ?_; refine gq_yv (yv_load tab_ok (gok_none rfl) rfl rfl (fun _ => rfl) c_mem (fun _ => c_lds)) rfl rfl ?_)
        | (refine gq_idx0 ?_; refine gq_yv (yv_idxA tab_ok hrs (gok_none rfl) rfl rfl rfl rfl rfl rfl (fun _ => rfl) (fun _ => rfl) c_bnd) rfl rfl ?_)
        | (refine gq_load0 ?_; refine gq_yv (yv_ldA0 tab_ok hrs c_nm (gok_none rfl) rfl rfl (fun _ => rfl) c_bnd (fun _ => c_lds)) rfl rfl ?_)
        | (refine gq_calv0 ?_; first | refine gq_yd (yd_call (gok_none rfl) rfl ent54 rfl rfl (fun _ => allT_of rfl) (fun _ W hW => ct_Has W (rwI l i) x _ _ _ rfl (hrw.st hW) (by omega))) rfl rfl ?_)
        | (refine gq_any0 ?_; refine gq_pure tab_ok rfl rfl rfl rfl rfl rfl ?_))
    (refine gc_cond rfl ?_ ?_ <;> intro h_ <;> have hd_ := h_ <;> (try simp only [bytes_beq, cell_beq, val_beq, stamp_beq, decide_eq_true_eq, decide_eq_false_iff_not, Bool.and_eq_true, Bool.or_eq_true, Bool.or_eq_false_iff, Bool.not_eq_true', Bool.not_eq_false', Bool.not_true, Bool.not_false, Bool.false_or, Bool.true_and, Bool.and_true, Bool.or_false, beq_iff_eq, bne_iff_ne, beq_eq_false_iff_ne, bne_eq_false_iff_eq, ne_eq, Bool.false_eq_true, reduceCtorEq] at hd_) <;> (try (exfalso; omega)))
    · have e3 := rrI_yes hiN hd_
      have e4 : cat Cell.l (rrI l x (i + 1)) = cat Cell.l (rrI l x i) ++ ((lastR l).getD i default).cell.l := by rw [e3, cat_snoc]
      have e5 : (rrI l x (i + 1)).length = (rrI l x i).length + 1 := by rw [e3, List.length_append]; rfl
      repeat' first
        | (refine gl_gate ?_; first
          | refine gl_nil ?_
          | (refine gl_load0 ?_; refine gl_yv (yv_load tab_ok (gok_none rfl) rfl rfl (fun _ => rfl) c_mem (fun _ => c_lds)) rfl rfl ?_)
          | (refine gl_add0 ?_; refine gl_yv (yv_add tab_ok (gok_none rfl) rfl rfl rfl rfl (fun _ => allT_of rfl) (by intro _; omega)) rfl rfl ?_)
          | (refine gl_idx0 ?_; refine gl_yv (yv_idxA tab_ok hes (gok_none rfl) rfl rfl rfl rfl rfl rfl (fun _ => rfl) (fun _ => rfl) c_bnd) rfl rfl ?_)
          | (refine gl_load0 ?_; refine gl_yv (yv_ldA tab_ok hes c_nm (gok_none rfl) rfl rfl (fun _ => rfl) c_bnd (fun _ => c_lds)) rfl rfl ?_)
          | (refine gl_app0 ?_; (refine gl_ev (ev_append tab_ok rfl rfl rfl rfl rfl rfl rfl rfl c_oa (ho) (c_src) c_lim c_lim ?_) rfl rfl; intro p_ c_ sp_ hw_))
          | (refine gl_bld0 ?_; (refine gl_ev (ev_buildSlice tab_ok rfl rfl rfl rfl rfl rfl rfl rfl rfl rfl ?_) rfl rfl; intro g_ hg_))
          | (refine gl_any0 ?_; refine gl_pure tab_ok rfl rfl rfl rfl rfl rfl ?_))
        | (refine gc_gate ?_; first
          | refine gc_region ?_)
        | (refine ge_gate ?_; first
          | ((with_reducible refine ge_gT ?_); first | with_reducible refine ge_then ?_ | with_reducible refine ge_then_exit ?_ | with_reducible refine ge_then_ret ?_)
          | ((with_reducible refine ge_gK ?_); first | with_reducible refine ge_block ?_ | refine ge_block_exit ?_ | refine ge_block_pass rfl ?_ | with_reducible refine ge_block_ret ?_))
      exact ge_round (i + 1, p_, c_, sp_) ⟨by dsimp only; omega, by dsimp only; rw [e4, e5]; exact hw_⟩ (by show (lastR l).length - (i + 1) < (lastR l).length - i; omega) (by dsimp only; rw [e5]; exact c_frs) (by dsimp only; rw [e4]; exact List.Sublist.append (List.Sublist.refl _) (List.Sublist.cons _ (List.Sublist.refl _)))
    · have e3 := rrI_no hiN hd_
      repeat' first
        | (refine gl_gate ?_; first
          | refine gl_nil ?_
          | (refine gl_add0 ?_; refine gl_yv (yv_add tab_ok (gok_none rfl) rfl rfl rfl rfl (fun _ => allT_of rfl) (by intro _; omega)) rfl rfl ?_)
          | (refine gl_any0 ?_; refine gl_pure tab_ok rfl rfl rfl rfl rfl rfl ?_))
        | (refine gc_gate ?_; first
          | refine gc_region ?_
          | refine gc_skip ?_)
        | (refine ge_gate ?_; first
          | ((with_reducible refine ge_gT ?_); first | with_reducible refine ge_then ?_ | with_reducible refine ge_then_exit ?_ | with_reducible refine ge_then_ret ?_)
          | ((with_reducible refine ge_gK ?_); first | with_reducible refine ge_block ?_ | refine ge_block_exit ?_ | refine ge_block_pass rfl ?_ | with_reducible refine ge_block_ret ?_))
      exact ge_round (i + 1, q, c, sp) ⟨by dsimp only; omega, by dsimp only; rw [e3]; exact ho⟩ (by show (lastR l).length - (i + 1) < (lastR l).length - i; omega) (by dsimp only; rw [e3]; exact c_frs) (by dsimp only; rw [e3]; exact List.Sublist.refl _)
  · have e3 : rrI l x i = rrD l x := by rw [show i = (dC l).length by rw [dC_len2]; omega, rrI_all]
    rw [e3] at ho ⊢
    repeat' first
      | (refine gl_gate ?_; first
        | refine gl_nil ?_
        | (refine gl_any0 ?_; refine gl_pure tab_ok rfl rfl rfl rfl rfl rfl ?_))
      | (refine gc_gate ?_; first
        | refine gc_seq ?_
        | refine gc_region ?_
        | refine gc_exit ?_
        | refine gc_ret ?_)
      | (refine ge_gate ?_; first
        | ((with_reducible refine ge_gT ?_); first | with_reducible refine ge_then ?_ | with_reducible refine ge_then_exit ?_ | with_reducible refine ge_then_ret ?_)
        | ((with_reducible refine ge_gK ?_); first | with_reducible refine ge_block ?_ | refine ge_block_exit ?_ | refine ge_block_pass rfl ?_ | with_reducible refine ge_block_ret ?_)
        | ((with_reducible refine ge_gB ?_); first | refine ge_ret1 tab_ok rfl c_rvt ?_ | refine ge_end1 tab_ok rfl c_rvt ?_ | refine ge_ret2 tab_ok rfl c_rvt c_rvt ?_ | refine ge_ret_none rfl ?_ | refine ge_end_none rfl ?_))
    intro W hW
    exact ⟨q, c, sp, rfl, ho, hW.drop (List.sublist_append_left _ _)⟩
end Go.Proofs.Ytkgjfcjciigcgaa
