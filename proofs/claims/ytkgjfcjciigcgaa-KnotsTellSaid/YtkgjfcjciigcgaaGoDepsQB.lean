import Derived.Test.YtkgjfcjciigcgaaGoDepsLR
import Derived.Test.YtkgjfcjciigcgaaGoHas
/-
  The methods of the reference's Deps.
-/
namespace Go.Proofs.Ytkgjfcjciigcgaa
open Go.Proofs.Ytkgjfcjciigcgaa.Sl Go.RowKit
set_option linter.unusedVariables false
set_option linter.unusedSimpArgs false
set_option linter.unusedSectionVars false
set_option maxRecDepth 100000

theorem lkE_at {L : List En} (h : SrtE L) {e : En} (he : e ∈ L) : lkE L e.cell = some e := by
  induction L with
  | nil => cases he
  | cons x r ih =>
    have h' := List.pairwise_cons.1 h
    unfold lkE
    rcases List.mem_cons.1 he with rfl | he
    · rw [if_pos rfl]
    · rw [if_neg, ih h'.2 he]
      intro e2
      have := h'.1 e.cell (List.mem_map.2 ⟨e, he, rfl⟩)
      rw [e2] at this
      exact cLt_irrefl _ this
theorem rdD_at {l : List En} {i : Nat} (hi : i < (lastR l).length) : rdD l ((lastR l).getD i default).cell = rwI l i := by
  unfold rdD
  rw [lkE_at (lastR_srt l) (getD_mem _ i hi)]
  rfl
theorem rwI_len {l : List En} {i : Nat} (hi : i < (lastR l).length) : (rwI l i).length ≤ l.length := by
  rw [← rdD_at hi]
  exact rdD_len l _
def rvD (D : DR) (l : List En) (x : Cell) : Value := if x ∈ dC l then .slice (D.rp ((dC l).idxOf x)) (rdD l x).length (D.rc ((dC l).idxOf x)) else nilS
theorem rvD_at {D : DR} {l : List En} {x : Cell} {i : Nat} (hi : i < (lastR l).length) (hx : ((lastR l).getD i default).cell = x) : rvD D l x = .slice (D.rp i) (rwI l i).length (D.rc i) := by
  have h1 := dC_getD hi
  rw [hx] at h1
  have h2 : (dC l).idxOf x = i := by
    have h3 : i < (dC l).length := by rw [dC_len2]; exact hi
    rw [← h1, List.getD_eq_getElem?_getD, List.getElem?_eq_getElem h3, Option.getD_some]
    exact (cLt_nodup (dC_lt l)).idxOf_getElem i h3
  have h3 : x ∈ dC l := by rw [← h1]; exact getD_mem _ i (by rw [dC_len2]; exact hi)
  unfold rvD
  rw [if_pos h3, h2, ← hx, rdD_at hi]
theorem rvD_row {D : DR} {l : List En} {g : Nat} {W : World} (h : DpR W l g D) (x : Cell) : RowV W (rvD D l x) (rdD l x) := by
  by_cases hx : x ∈ dC l
  · obtain ⟨e, he, hex⟩ := List.mem_map.1 hx
    obtain ⟨i, hi, hie⟩ := List.mem_iff_getElem.1 he
    have h1 : ((lastR l).getD i default).cell = x := by rw [List.getD_eq_getElem?_getD, List.getElem?_eq_getElem hi, Option.getD_some, hie, hex]
    rw [rvD_at hi h1, ← h1, rdD_at hi]
    exact ⟨_, _, rfl, h.rows i hi⟩
  · have h2 : rdD l x = [] := by
      cases h3 : rdD l x with
      | nil => rfl
      | cons y r => exact absurd (rdD_in (l := l) (c := x) (x := y) (by rw [h3]; exact List.mem_cons_self ..)) hx
    unfold rvD
    rw [if_neg hx, h2]
    exact ⟨none, 0, rfl, SlA.nil⟩
theorem ct_ReadsD (l : List En) (g : Nat) (D : DR) (x : Cell) (w : World) (h : DpR w l g D) (hl : l.length ≤ 1000) : Calls Try.prog 114 #[.pointer (some (ad g)), .agg x.l.toArray] w fun e w' => e = .returned (rvD D l x) ∧ Bl w w' := by
  have hll := lastR_len l
  have hes := h.es
  have hrs := h.rs
  refine enter (args := [_, _]) (M := []) (K := []) Try.func114 rfl Try.ntmps114 rfl (St.refl _ _) ?_
  refine gc_old h.hb (by simp) (by simp) ?_
  repeat' first
    | (refine gl_gate ?_; first
      | refine gl_nil ?_
      | (refine gl_box0 ?_; first | (refine gl_box_agg rfl rfl rfl rfl rfl ?_; intro g_ hg_) | (refine gl_box_one rfl rfl rfl rfl rfl rfl ?_; intro g_ hg_) | (refine gl_box rfl rfl rfl rfl rfl ?_; intro g_ hg_))
      | (refine gl_any0 ?_; refine gl_pure tab_ok rfl rfl rfl rfl rfl rfl ?_))
    | (refine gc_gate ?_; first
      | refine gc_seq ?_
      | refine gc_region ?_
      | refine gc_block ?_)
    | (refine ge_gate ?_; first
      | ((with_reducible refine ge_gT ?_); first | with_reducible refine ge_then ?_ | with_reducible refine ge_then_exit ?_ | with_reducible refine ge_then_ret ?_))
  refine gc_loop (α := Nat) (fun i => [(0, true, .pointer (some (ad g))), (3, true, .pointer (some ⟨g_, 0, none⟩)), (5, true, .int .i64 (i : Int))])
    (fun _ => [(g_, true, .cells x.l.toArray 25 (0, 0)), (g, false, .cells [.slice D.p (lastR l).length D.c, .slice D.q (lastR l).length D.d].toArray 212 (0, 0))]) (fun i => i ≤ (lastR l).length ∧ ∀ j, j < i → ((lastR l).getD j default).cell ≠ x) (fun i => (lastR l).length - i) 0 c_frs (List.Sublist.refl _) ⟨Nat.zero_le _, fun j hj => absurd hj (Nat.not_lt_zero _)⟩ ?_
  rintro i ⟨hi, he⟩
  repeat' first
    | (refine gl_gate ?_; first
      | refine gl_nil ?_
      | (refine gl_load0 ?_; refine gl_yv (yv_load tab_ok (gok_none rfl) rfl rfl (fun _ => rfl) c_mem (fun _ => c_lds)) rfl rfl ?_)
      | (refine gl_any0 ?_; refine gl_pure tab_ok rfl rfl rfl rfl rfl rfl ?_))
    | (refine gc_gate ?_; first
      | refine gc_seq ?_
      | refine gc_region ?_)
    | (refine ge_gate ?_; first
      | ((with_reducible refine ge_gT ?_); first | with_reducible refine ge_then ?_ | with_reducible refine ge_then_exit ?_ | with_reducible refine ge_then_ret ?_))
  (refine gc_cond rfl ?_ ?_ <;> intro h_ <;> have hd_ := h_ <;> (try simp only [bytes_beq, cell_beq, val_beq, stamp_beq, decide_eq_true_eq, decide_eq_false_iff_not, Bool.and_eq_true, Bool.or_eq_true, Bool.or_eq_false_iff, Bool.not_eq_true', Bool.not_eq_false', Bool.not_true, Bool.not_false, Bool.false_or, Bool.true_and, Bool.and_true, Bool.or_false, beq_iff_eq, bne_iff_ne, beq_eq_false_iff_ne, bne_eq_false_iff_eq, ne_eq, Bool.false_eq_true, reduceCtorEq] at hd_) <;> (try (exfalso; omega)))
  · have hiN : i < (lastR l).length := by omega
    repeat' first
      | (refine gc_gate ?_; first
        | refine gc_seq ?_
        | refine gc_quietRo rfl mixed (by decide +kernel) ?_
        | refine gc_block ?_
        | refine gc_skip ?_)
      | (refine ge_gate ?_; first
        | ((with_reducible refine ge_gT ?_); first | with_reducible refine ge_then ?_ | with_reducible refine ge_then_exit ?_ | with_reducible refine ge_then_ret ?_))
      | (refine gq_gate ?_; first
        | refine gq_nil ?_
        | (refine gq_load0 ?_; refine gq_yv (yv_load tab_ok (gok_none rfl) rfl rfl (fun _ => rfl) c_mem (fun _ => c_lds)) rfl rfl ?_)
        | (refine gq_idx0 ?_; refine gq_yv (yv_idxA tab_ok hes (gok_none rfl) rfl rfl rfl rfl rfl rfl (fun _ => rfl) (fun _ => rfl) c_bnd) rfl rfl ?_)
        | (refine gq_load0 ?_; refine gq_yv (yv_ldA tab_ok hes c_nm (gok_none rfl) rfl rfl (fun _ => rfl) c_bnd (fun _ => c_lds)) rfl rfl ?_)
        | (refine gq_any0 ?_; refine gq_pure tab_ok rfl rfl rfl rfl rfl rfl ?_)
        | (refine gq_eqS ?_; first | refine gq_yv (yv_eqS tab_ok eqs_ok c_gok rfl rfl rfl rfl c_allT rfl rfl rfl) rfl rfl ?_))
    (refine gc_cond rfl ?_ ?_ <;> intro h_ <;> have hd_ := h_ <;> (try simp only [bytes_beq, cell_beq, val_beq, stamp_beq, decide_eq_true_eq, decide_eq_false_iff_not, Bool.and_eq_true, Bool.or_eq_true, Bool.or_eq_false_iff, Bool.not_eq_true', Bool.not_eq_false', Bool.not_true, Bool.not_false, Bool.false_or, Bool.true_and, Bool.and_true, Bool.or_false, beq_iff_eq, bne_iff_ne, beq_eq_false_iff_ne, bne_eq_false_iff_eq, ne_eq, Bool.false_eq_true, reduceCtorEq] at hd_) <;> (try (exfalso; omega)))
    · repeat' first
        | (refine gl_gate ?_; first
          | refine gl_nil ?_
          | (refine gl_load0 ?_; refine gl_yv (yv_load tab_ok (gok_none rfl) rfl rfl (fun _ => rfl) c_mem (fun _ => c_lds)) rfl rfl ?_)
          | (refine gl_idx0 ?_; refine gl_yv (yv_idxA tab_ok hrs (gok_none rfl) rfl rfl rfl rfl rfl rfl (fun _ => rfl) (fun _ => rfl) c_bnd) rfl rfl ?_)
          | (refine gl_load0 ?_; refine gl_yv (yv_ldA0 tab_ok hrs c_nm (gok_none rfl) rfl rfl (fun _ => rfl) c_bnd (fun _ => c_lds)) rfl rfl ?_)
          | (refine gl_any0 ?_; refine gl_pure tab_ok rfl rfl rfl rfl rfl rfl ?_))
        | (refine gc_gate ?_; first
          | refine gc_seq ?_
          | refine gc_region ?_
          | refine gc_ret ?_)
        | (refine ge_gate ?_; first
          | ((with_reducible refine ge_gT ?_); first | with_reducible refine ge_then ?_ | with_reducible refine ge_then_exit ?_ | with_reducible refine ge_then_ret ?_)
          | ((with_reducible refine ge_gK ?_); first | with_reducible refine ge_block ?_ | refine ge_block_exit ?_ | refine ge_block_pass rfl ?_ | with_reducible refine ge_block_ret ?_)
          | ((with_reducible refine ge_gB ?_); first | refine ge_ret1 tab_ok rfl c_rvt ?_ | refine ge_end1 tab_ok rfl c_rvt ?_ | refine ge_ret2 tab_ok rfl c_rvt c_rvt ?_ | refine ge_ret_none rfl ?_ | refine ge_end_none rfl ?_))
      intro W hW
      exact ⟨by rw [rvD_at hiN hd_], hW.below0⟩
    · repeat' first
        | (refine gl_gate ?_; first
          | refine gl_nil ?_
          | (refine gl_add0 ?_; refine gl_yv (yv_add tab_ok (gok_none rfl) rfl rfl rfl rfl (fun _ => allT_of rfl) (by intro _; omega)) rfl rfl ?_)
          | (refine gl_any0 ?_; refine gl_pure tab_ok rfl rfl rfl rfl rfl rfl ?_))
        | (refine gc_gate ?_; first
          | refine gc_region ?_
          | refine gc_skip ?_)
        | (refine ge_gate ?_; first
          | ((with_reducible refine ge_gT ?_); first | with_reducible refine ge_then ?_ | with_reducible refine ge_then_exit ?_ | with_reducible refine ge_then_ret ?_)
          | ((with_reducible refine ge_gK ?_); first | with_reducible refine ge_block ?_ | refine ge_block_exit ?_ | refine ge_block_pass rfl ?_ | with_reducible refine ge_block_ret ?_))
      refine ge_round (i + 1) ⟨by omega, fun j hj => ?_⟩ (by omega) c_frs (List.Sublist.refl _)
      rcases Nat.lt_or_ge j i with h2 | h2
      · exact he j h2
      · obtain rfl : j = i := by omega
        exact hd_
  · repeat' first
      | (refine gl_gate ?_; first
        | refine gl_nil ?_
        | (refine gl_any0 ?_; refine gl_pure tab_ok rfl rfl rfl rfl rfl rfl ?_))
      | (refine gc_gate ?_; first
        | refine gc_seq ?_
        | refine gc_region ?_
        | refine gc_exit ?_
        | refine gc_ret ?_)
      | (refine ge_gate ?_; first
        | ((with_reducible refine ge_gT ?_); first | with_reducible refine ge_then ?_ | with_reducible refine ge_then_exit ?_ | with_reducible refine ge_then_ret ?_)
        | ((with_reducible refine ge_gK ?_); first | with_reducible refine ge_block ?_ | refine ge_block_exit ?_ | refine ge_block_pass rfl ?_ | with_reducible refine ge_block_ret ?_)
        | ((with_reducible refine ge_gB ?_); first | refine ge_ret1 tab_ok rfl c_rvt ?_ | refine ge_end1 tab_ok rfl c_rvt ?_ | refine ge_ret2 tab_ok rfl c_rvt c_rvt ?_ | refine ge_ret_none rfl ?_ | refine ge_end_none rfl ?_))
    intro W hW
    refine ⟨?_, hW.below0⟩
    have hx : x ∉ dC l := fun hx => by
      obtain ⟨e, hel, hex⟩ := List.mem_map.1 hx
      obtain ⟨j, hj, hje⟩ := List.mem_iff_getElem.1 hel
      refine he j (by omega) ?_
      rw [List.getD_eq_getElem?_getD, List.getElem?_eq_getElem hj, Option.getD_some, hje, hex]
    unfold rvD
    rw [if_neg hx]
    rfl
/-- What reads x, of the first i. -/
def rrI (l : List En) (x : Cell) (i : Nat) : List Cell := ((dC l).take i).filter fun y => decide (x ∈ rdD l y)
theorem rrI_all (l : List En) (x : Cell) : rrI l x (dC l).length = rrD l x := by unfold rrI rrD; rw [List.take_length]
theorem rrI_yes {l : List En} {x : Cell} {i : Nat} (hi : i < (lastR l).length) (h : x ∈ rwI l i) : rrI l x (i + 1) = rrI l x i ++ [((lastR l).getD i default).cell] := by
  unfold rrI
  rw [take_succD _ _ (by rw [dC_len2]; exact hi), List.filter_append, dC_getD hi, fil_pos (by rw [decide_eq_true_eq, rdD_at hi]; exact h)]
theorem rrI_no {l : List En} {x : Cell} {i : Nat} (hi : i < (lastR l).length) (h : x ∉ rwI l i) : rrI l x (i + 1) = rrI l x i := by
  unfold rrI
  rw [take_succD _ _ (by rw [dC_len2]; exact hi), List.filter_append, dC_getD hi, fil_neg (by rw [decide_eq_true_eq, rdD_at hi]; exact h), List.append_nil]
theorem rrI_len (l : List En) (x : Cell) (i : Nat) : (rrI l x i).length ≤ l.length := Nat.le_trans (List.length_filter_le ..) (Nat.le_trans (List.length_take_le' ..) (dC_len l))
theorem ct_ReadersD (l : List En) (g : Nat) (D : DR) (x : Cell) (w : World) (h : DpR w l g D) (hl : l.length ≤ 1000) : Calls Try.prog 116 #[.pointer (some (ad g)), .agg x.l.toArray] w (RetOw w (rrD l x).length 3 (cat Cell.l (rrD l x)) 25) := by
  have hll := lastR_len l
  have hes := h.es
  have hrs := h.rs
  refine enter (args := [_, _]) (M := []) (K := []) Try.func116 rfl Try.ntmps116 rfl (St.refl _ _) ?_
  refine gc_old h.hb (by simp) (by simp) ?_
  repeat' first
    | (refine gl_gate ?_; first
      | refine gl_nil ?_
      | (refine gl_box0 ?_; first | (refine gl_box_agg rfl rfl rfl rfl rfl ?_; intro g_ hg_) | (refine gl_box_one rfl rfl rfl rfl rfl rfl ?_; intro g_ hg_) | (refine gl_box rfl rfl rfl rfl rfl ?_; intro g_ hg_))
      | (refine gl_any0 ?_; refine gl_pure tab_ok rfl rfl rfl rfl rfl rfl ?_))
    | (refine gc_gate ?_; first
      | refine gc_seq ?_
      | refine gc_region ?_
      | refine gc_block ?_)
    | (refine ge_gate ?_; first
      | ((with_reducible refine ge_gT ?_); first | with_reducible refine ge_then ?_ | with_reducible refine ge_then_exit ?_ | with_reducible refine ge_then_ret ?_))
  refine gc_loop (α := Nat × Option Nat × Nat × List Value) (fun s => [(0, true, .pointer (some (ad g))), (3, true, .pointer (some ⟨g_, 0, none⟩)), (5, true, .slice (s.2.1.map ad) (rrI l x s.1).length s.2.2.1), (6, true, .int .i64 (s.1 : Int))])
    (fun s => ow s.2.1 true (cat Cell.l (rrI l x s.1) ++ s.2.2.2) 25 ++ [(g_, true, .cells x.l.toArray 25 (0, 0)), (g, false, .cells [.slice D.p (lastR l).length D.c, .slice D.q (lastR l).length D.d].toArray 212 (0, 0))]) (fun s => s.1 ≤ (lastR l).length ∧ Ow s.2.1 (rrI l x s.1).length s.2.2.1 3 (cat Cell.l (rrI l x s.1)) s.2.2.2) (fun s => (lastR l).length - s.1) (0, none, 0, []) c_frs (List.Sublist.refl _) ⟨Nat.zero_le _, Ow.none0⟩ ?_
  rintro ⟨i, q, c, sp⟩ ⟨hi, ho⟩
  dsimp only at hi ho ⊢
  have hrl := rrI_len l x i
  repeat' first
    | (refine gl_gate ?_; first
      | refine gl_nil ?_
      | (refine gl_load0 ?_; refine gl_yv (yv_load tab_ok (gok_none rfl) rfl rfl (fun _ => rfl) c_mem (fun _ => c_lds)) rfl rfl ?_)
      | (refine gl_any0 ?_; refine gl_pure tab_ok rfl rfl rfl rfl rfl rfl ?_))
    | (refine gc_gate ?_; first
      | refine gc_seq ?_
      | refine gc_region ?_)
    | (refine ge_gate ?_; first
      | ((with_reducible refine ge_gT ?_); first | with_reducible refine ge_then ?_ | with_reducible refine ge_then_exit ?_ | with_reducible refine ge_then_ret ?_))
  (refine gc_cond rfl ?_ ?_ <;> intro h_ <;> have hd_ := h_ <;> (try simp only [bytes_beq, cell_beq, val_beq, stamp_beq, decide_eq_true_eq, decide_eq_false_iff_not, Bool.and_eq_true, Bool.or_eq_true, Bool.or_eq_false_iff, Bool.not_eq_true', Bool.not_eq_false', Bool.not_true, Bool.not_false, Bool.false_or, Bool.true_and, Bool.and_true, Bool.or_false, beq_iff_eq, bne_iff_ne, beq_eq_false_iff_ne, bne_eq_false_iff_eq, ne_eq, Bool.false_eq_true, reduceCtorEq] at hd_) <;> (try (exfalso; omega)))
  · have hiN : i < (lastR l).length := by omega
    have hrw := h.rows i hiN
    have hwl := rwI_len hiN
    repeat' first
      | (refine gc_gate ?_; first
        | refine gc_seq ?_
        | refine gc_quietRo rfl mixed (by decide +kernel) ?_
        | refine gc_block ?_
        | refine gc_skip ?_)
      | (refine ge_gate ?_; first
        | ((with_reducible refine ge_gT ?_); first | with_reducible refine ge_then ?_ | with_reducible refine ge_then_exit ?_ | with_reducible refine ge_then_ret ?_))
      | (refine gq_gate ?_; first
        | refine gq_nil ?_
        | (refine gq_load0 ?_; refine gq_yv (yv_load tab_ok (gok_none rfl) rfl rfl (fun _ => rfl) c_mem (fun _ => c_lds)) rfl rfl ?_)
        | (refine gq_idx0 ?_; refine gq_yv (yv_idxA tab_ok hrs (gok_none rfl) rfl rfl rfl rfl rfl rfl (fun _ => rfl) (fun _ => rfl) c_bnd) rfl rfl ?_)
        | (refine gq_load0 ?_; refine gq_yv (yv_ldA0 tab_ok hrs c_nm (gok_none rfl) rfl rfl (fun _ => rfl) c_bnd (fun _ => c_lds)) rfl rfl ?_)
        | (refine gq_calv0 ?_; first | refine gq_yd (yd_call (gok_none rfl) rfl ent54 rfl rfl (fun _ => allT_of rfl) (fun _ W hW => ct_Has W (rwI l i) x _ _ _ rfl (hrw.st hW) (by omega))) rfl rfl ?_)
        | (refine gq_any0 ?_; refine gq_pure tab_ok rfl rfl rfl rfl rfl rfl ?_))
    (refine gc_cond rfl ?_ ?_ <;> intro h_ <;> have hd_ := h_ <;> (try simp only [bytes_beq, cell_beq, val_beq, stamp_beq, decide_eq_true_eq, decide_eq_false_iff_not, Bool.and_eq_true, Bool.or_eq_true, Bool.or_eq_false_iff, Bool.not_eq_true', Bool.not_eq_false', Bool.not_true, Bool.not_false, Bool.false_or, Bool.true_and, Bool.and_true, Bool.or_false, beq_iff_eq, bne_iff_ne, beq_eq_false_iff_ne, bne_eq_false_iff_eq, ne_eq, Bool.false_eq_true, reduceCtorEq] at hd_) <;> (try (exfalso; omega)))
    · have e3 := rrI_yes hiN hd_
      have e4 : cat Cell.l (rrI l x (i + 1)) = cat Cell.l (rrI l x i) ++ ((lastR l).getD i default).cell.l := by rw [e3, cat_snoc]
      have e5 : (rrI l x (i + 1)).length = (rrI l x i).length + 1 := by rw [e3, List.length_append]; rfl
      repeat' first
        | (refine gl_gate ?_; first
          | refine gl_nil ?_
          | (refine gl_load0 ?_; refine gl_yv (yv_load tab_ok (gok_none rfl) rfl rfl (fun _ => rfl) c_mem (fun _ => c_lds)) rfl rfl ?_)
          | (refine gl_add0 ?_; refine gl_yv (yv_add tab_ok (gok_none rfl) rfl rfl rfl rfl (fun _ => allT_of rfl) (by intro _; omega)) rfl rfl ?_)
          | (refine gl_idx0 ?_; refine gl_yv (yv_idxA tab_ok hes (gok_none rfl) rfl rfl rfl rfl rfl rfl (fun _ => rfl) (fun _ => rfl) c_bnd) rfl rfl ?_)
          | (refine gl_load0 ?_; refine gl_yv (yv_ldA tab_ok hes c_nm (gok_none rfl) rfl rfl (fun _ => rfl) c_bnd (fun _ => c_lds)) rfl rfl ?_)
          | (refine gl_app0 ?_; (refine gl_ev (ev_append tab_ok rfl rfl rfl rfl rfl rfl rfl rfl c_oa (ho) (c_src) c_lim c_lim ?_) rfl rfl; intro p_ c_ sp_ hw_))
          | (refine gl_bld0 ?_; (refine gl_ev (ev_buildSlice tab_ok rfl rfl rfl rfl rfl rfl rfl rfl rfl rfl ?_) rfl rfl; intro g_ hg_))
          | (refine gl_any0 ?_; refine gl_pure tab_ok rfl rfl rfl rfl rfl rfl ?_))
        | (refine gc_gate ?_; first
          | refine gc_region ?_)
        | (refine ge_gate ?_; first
          | ((with_reducible refine ge_gT ?_); first | with_reducible refine ge_then ?_ | with_reducible refine ge_then_exit ?_ | with_reducible refine ge_then_ret ?_)
          | ((with_reducible refine ge_gK ?_); first | with_reducible refine ge_block ?_ | refine ge_block_exit ?_ | refine ge_block_pass rfl ?_ | with_reducible refine ge_block_ret ?_))
      exact ge_round (i + 1, p_, c_, sp_) ⟨by dsimp only; omega, by dsimp only; rw [e4, e5]; exact hw_⟩ (by show (lastR l).length - (i + 1) < (lastR l).length - i; omega) (by dsimp only; rw [e5]; exact c_frs) (by dsimp only; rw [e4]; exact List.Sublist.append (List.Sublist.refl _) (List.Sublist.cons _ (List.Sublist.refl _)))
    · have e3 := rrI_no hiN hd_
      repeat' first
        | (refine gl_gate ?_; first
          | refine gl_nil ?_
          | (refine gl_add0 ?_; refine gl_yv (yv_add tab_ok (gok_none rfl) rfl rfl rfl rfl (fun _ => allT_of rfl) (by intro _; omega)) rfl rfl ?_)
          | (refine gl_any0 ?_; refine gl_pure tab_ok rfl rfl rfl rfl rfl rfl ?_))
        | (refine gc_gate ?_; first
          | refine gc_region ?_
          | refine gc_skip ?_)
        | (refine ge_gate ?_; first
          | ((with_reducible refine ge_gT ?_); first | with_reducible refine ge_then ?_ | with_reducible refine ge_then_exit ?_ | with_reducible refine ge_then_ret ?_)
          | ((with_reducible refine ge_gK ?_); first | with_reducible refine ge_block ?_ | refine ge_block_exit ?_ | refine ge_block_pass rfl ?_ | with_reducible refine ge_block_ret ?_))
      exact ge_round (i + 1, q, c, sp) ⟨by dsimp only; omega, by dsimp only; rw [e3]; exact ho⟩ (by show (lastR l).length - (i + 1) < (lastR l).length - i; omega) (by dsimp only; rw [e3]; exact c_frs) (by dsimp only; rw [e3]; exact List.Sublist.refl _)
  · have e3 : rrI l x i = rrD l x := by rw [show i = (dC l).length by rw [dC_len2]; omega, rrI_all]
    rw [e3] at ho ⊢
    repeat' first
      | (refine gl_gate ?_; first
        | refine gl_nil ?_
        | (refine gl_any0 ?_; refine gl_pure tab_ok rfl rfl rfl rfl rfl rfl ?_))
      | (refine gc_gate ?_; first
        | refine gc_seq ?_
        | refine gc_region ?_
        | refine gc_exit ?_
        | refine gc_ret ?_)
      | (refine ge_gate ?_; first
        | ((with_reducible refine ge_gT ?_); first | with_reducible refine ge_then ?_ | with_reducible refine ge_then_exit ?_ | with_reducible refine ge_then_ret ?_)
        | ((with_reducible refine ge_gK ?_); first | with_reducible refine ge_block ?_ | refine ge_block_exit ?_ | refine ge_block_pass rfl ?_ | with_reducible refine ge_block_ret ?_)
        | ((with_reducible refine ge_gB ?_); first | refine ge_ret1 tab_ok rfl c_rvt ?_ | refine ge_end1 tab_ok rfl c_rvt ?_ | refine ge_ret2 tab_ok rfl c_rvt c_rvt ?_ | refine ge_ret_none rfl ?_ | refine ge_end_none rfl ?_))
    intro W hW
    exact ⟨q, c, sp, rfl, ho, hW.drop (List.sublist_append_left _ _)⟩
end Go.Proofs.Ytkgjfcjciigcgaa

/-
  The reference's After: adding until nothing comes.
-/
namespace Go.Proofs.Ytkgjfcjciigcgaa
open Go.Proofs.Ytkgjfcjciigcgaa.Sl Go.RowKit
set_option linter.unusedVariables false
set_option linter.unusedSimpArgs false
set_option linter.unusedSectionVars false
set_option maxRecDepth 100000

structure BfS where
  n : Int
  L : List Cell
  q : Option Nat
  c : Nat
  sp : List Value
structure BfOk (l : List En) (x : Cell) (s : BfS) : Prop where
  cl : Cl l x s.L
  ow : Ow s.q s.L.length s.c 3 (cat Cell.l s.L) s.sp
  dn : s.n = (s.L.length : Int) → s.L = aft l x
def bfM (l : List En) (s : BfS) : Nat := 2 * (l.length - s.L.length) + if s.n = (s.L.length : Int) then 0 else 1
set_option maxHeartbeats 4000000 in
theorem ct_AfterD (l : List En) (g : Nat) (D : DR) (x : Cell) (w : World) (h : DpR w l g D) (hl : l.length ≤ 1000) : Calls Try.prog 118 #[.pointer (some (ad g)), .agg x.l.toArray] w (RetOw w (aft l x).length 3 (cat Cell.l (aft l x)) 25) := by
  have hrx := rrD_len l x
  refine enter (args := [_, _]) (M := []) (K := []) Try.func118 rfl Try.ntmps118 rfl (St.refl _ _) ?_
  repeat' first
    | (refine gl_gate ?_; first
      | refine gl_nil ?_
      | (refine gl_load0 ?_; refine gl_yv (yv_load tab_ok (gok_none rfl) rfl rfl (fun _ => rfl) c_mem (fun _ => c_lds)) rfl rfl ?_)
      | (refine gl_any0 ?_; (refine gl_ev (ev_callOw rfl rfl ent116 rfl rfl rfl (fun W hW => ct_ReadersD l g D x W (h.st hW) hl) ?_) rfl rfl; intro p0 c0 sp0 hw0))
      | (refine gl_box0 ?_; first | (refine gl_box_agg rfl rfl rfl rfl rfl ?_; intro g_ hg_) | (refine gl_box_one rfl rfl rfl rfl rfl rfl ?_; intro g_ hg_) | (refine gl_box rfl rfl rfl rfl rfl ?_; intro g_ hg_))
      | (refine gl_any0 ?_; refine gl_pure tab_ok rfl rfl rfl rfl rfl rfl ?_))
    | (refine gc_gate ?_; first
      | refine gc_seq ?_
      | refine gc_region ?_
      | refine gc_block ?_)
    | (refine ge_gate ?_; first
      | ((with_reducible refine ge_gT ?_); first | with_reducible refine ge_then ?_ | with_reducible refine ge_then_exit ?_ | with_reducible refine ge_then_ret ?_))
  revert g_
  intro g3 hg3
  refine gc_loop (α := BfS) (fun s => [(0, true, .pointer (some (ad g))), (5, true, .slice (s.q.map ad) s.L.length s.c), (6, true, .int .i64 s.n)])
    (fun s => ow s.q true (cat Cell.l s.L ++ s.sp) 25 ++ [(g3, true, .cells x.l.toArray 25 (0, 0))]) (BfOk l x) (bfM l) ⟨-1, rrD l x, p0, c0, sp0⟩ c_frs (List.Sublist.refl _) ⟨Cl.start l x, hw0, fun h => by dsimp only at h; omega⟩ ?_
  rintro ⟨n, L0, q, c, sp⟩ ⟨hcl, ho, hdn⟩
  dsimp only at hcl ho hdn ⊢
  have hL0 := hcl.len
  repeat' first
    | (refine gl_gate ?_; first
      | refine gl_nil ?_
      | (refine gl_any0 ?_; refine gl_pure tab_ok rfl rfl rfl rfl rfl rfl ?_))
    | (refine gc_gate ?_; first
      | refine gc_seq ?_
      | refine gc_region ?_)
    | (refine ge_gate ?_; first
      | ((with_reducible refine ge_gT ?_); first | with_reducible refine ge_then ?_ | with_reducible refine ge_then_exit ?_ | with_reducible refine ge_then_ret ?_))
  (refine gc_cond rfl ?_ ?_ <;> intro h_ <;> have hd_ := h_ <;> (try simp only [bytes_beq, cell_beq, val_beq, stamp_beq, decide_eq_true_eq, decide_eq_false_iff_not, Bool.and_eq_true, Bool.or_eq_true, Bool.or_eq_false_iff, Bool.not_eq_true', Bool.not_eq_false', Bool.not_true, Bool.not_false, Bool.false_or, Bool.true_and, Bool.and_true, Bool.or_false, beq_iff_eq, bne_iff_ne, beq_eq_false_iff_ne, bne_eq_false_iff_eq, ne_eq, Bool.false_eq_true, reduceCtorEq] at hd_) <;> (try (exfalso; omega)))
  · have hne : ¬ n = (L0.length : Int) := hd_
    repeat' first
      | (refine gl_gate ?_; first
        | refine gl_nil ?_
        | (refine gl_any0 ?_; refine gl_pure tab_ok rfl rfl rfl rfl rfl rfl ?_))
      | (refine gc_gate ?_; first
        | refine gc_seq ?_
        | refine gc_region ?_
        | refine gc_block ?_
        | refine gc_skip ?_)
      | (refine ge_gate ?_; first
        | ((with_reducible refine ge_gT ?_); first | with_reducible refine ge_then ?_ | with_reducible refine ge_then_exit ?_ | with_reducible refine ge_then_ret ?_))
    refine gc_loop (α := Nat × BfS) (fun s => [(0, true, .pointer (some (ad g))), (5, true, .slice (s.2.q.map ad) s.2.L.length s.2.c), (6, true, .int .i64 (L0.length : Int)), (7, true, .int .i64 (s.1 : Int))])
      (fun s => ow s.2.q true (cat Cell.l s.2.L ++ s.2.sp) 25 ++ [(g3, true, .cells x.l.toArray 25 (0, 0))]) (fun s => s.1 ≤ L0.length ∧ Cl l x s.2.L ∧ Ow s.2.q s.2.L.length s.2.c 3 (cat Cell.l s.2.L) s.2.sp ∧ Ps l L0 s.2.L s.1 0) (fun s => L0.length - s.1) (0, ⟨0, L0, q, c, sp⟩) c_frs (List.Sublist.refl _) ⟨Nat.zero_le _, hcl, ho, Ps.start l L0⟩ ?_
    rintro ⟨i, ⟨_, L, q1, c1, sp1⟩⟩ ⟨hi, hcl1, ho1, hps⟩
    dsimp only at hi hcl1 ho1 hps ⊢
    have hL1 := hcl1.len
    have hle1 := hps.le
    repeat' first
      | (refine gl_gate ?_; first
        | refine gl_nil ?_
        | (refine gl_any0 ?_; refine gl_pure tab_ok rfl rfl rfl rfl rfl rfl ?_))
      | (refine gc_gate ?_; first
        | refine gc_seq ?_
        | refine gc_region ?_)
      | (refine ge_gate ?_; first
        | ((with_reducible refine ge_gT ?_); first | with_reducible refine ge_then ?_ | with_reducible refine ge_then_exit ?_ | with_reducible refine ge_then_ret ?_))
    (refine gc_cond rfl ?_ ?_ <;> intro h_ <;> have hd_ := h_ <;> (try simp only [bytes_beq, cell_beq, val_beq, stamp_beq, decide_eq_true_eq, decide_eq_false_iff_not, Bool.and_eq_true, Bool.or_eq_true, Bool.or_eq_false_iff, Bool.not_eq_true', Bool.not_eq_false', Bool.not_true, Bool.not_false, Bool.false_or, Bool.true_and, Bool.and_true, Bool.or_false, beq_iff_eq, bne_iff_ne, beq_eq_false_iff_ne, bne_eq_false_iff_eq, ne_eq, Bool.false_eq_true, reduceCtorEq] at hd_) <;> (try (exfalso; omega)))
    · have hiL : i < L0.length := by omega
      have hiL1 : i < L.length := by omega
      have hz : L = L0 → L.getD i default = L0.getD i default := fun e => by rw [e]
      have hzr := hcl1.r _ (getD_mem L i hiL1)
      generalize hzz : L.getD i default = z at *
      have hrz := rrD_len l z
      repeat' first
        | (refine gl_idx0 ?_; refine gl_yv (yv_idxO tab_ok ho1 (gok_none rfl) rfl rfl rfl rfl rfl rfl (fun _ => rfl) (fun _ => rfl) c_bnd) rfl rfl ?_)
        | (refine gl_load0 ?_; refine gl_yv ((yv_ldO (v := .agg z.l.toArray) tab_ok c_oa ho1 (gok_none rfl) rfl rfl (fun _ => rfl) (fun _ => by rw [← hzz]; exact lds_cat len_cell (by omega) rfl rfl rfl) c_bnd)) rfl rfl ?_)
        | (refine gl_gate ?_; first
          | refine gl_nil ?_
          | (refine gl_any0 ?_; (refine gl_ev (ev_callOw rfl rfl ent116 rfl rfl rfl (fun W hW => ct_ReadersD l g D z W (h.st hW) hl) ?_) rfl rfl; intro pr cr spr hwr))
          | (refine gl_any0 ?_; refine gl_pure tab_ok rfl rfl rfl rfl rfl rfl ?_))
        | (refine gc_gate ?_; first
          | refine gc_seq ?_
          | refine gc_region ?_
          | refine gc_block ?_
          | refine gc_skip ?_)
        | (refine ge_gate ?_; first
          | ((with_reducible refine ge_gT ?_); first | with_reducible refine ge_then ?_ | with_reducible refine ge_then_exit ?_ | with_reducible refine ge_then_ret ?_))
      refine gc_perm (List.perm_append_comm_assoc ..) ?_
      refine gc_loop (α := Nat × BfS) (fun s => [(0, true, .pointer (some (ad g))), (5, true, .slice (s.2.q.map ad) s.2.L.length s.2.c), (6, true, .int .i64 (L0.length : Int)), (7, true, .int .i64 (i : Int)), (8, true, .slice (pr.map ad) (rrD l z).length cr), (9, true, .int .i64 (s.1 : Int))])
        (fun s => ow s.2.q true (cat Cell.l s.2.L ++ s.2.sp) 25 ++ (ow pr true (cat Cell.l (rrD l z) ++ spr) 25 ++ [(g3, true, .cells x.l.toArray 25 (0, 0))])) (fun s => s.1 ≤ (rrD l z).length ∧ Cl l x s.2.L ∧ Ow s.2.q s.2.L.length s.2.c 3 (cat Cell.l s.2.L) s.2.sp ∧ Ps l L0 s.2.L i s.1 ∧ (s.2.L = L0 → z = L0.getD i default)) (fun s => (rrD l z).length - s.1) (0, ⟨0, L, q1, c1, sp1⟩) c_frs (List.Sublist.refl _) ⟨Nat.zero_le _, hcl1, ho1, hps, hz⟩ ?_
      clear hz ho1 hcl1 hps hzz hL1 hle1 hiL1 sp1 c1 q1
      rintro ⟨k, ⟨_, L2, q1, c1, sp1⟩⟩ ⟨hk, hcl1, ho1, hps, hz⟩
      dsimp only at hk hcl1 ho1 hps hz ⊢
      have hL1 := hcl1.len
      repeat' first
        | (refine gl_gate ?_; first
          | refine gl_nil ?_
          | (refine gl_any0 ?_; refine gl_pure tab_ok rfl rfl rfl rfl rfl rfl ?_))
        | (refine gc_gate ?_; first
          | refine gc_seq ?_
          | refine gc_region ?_)
        | (refine ge_gate ?_; first
          | ((with_reducible refine ge_gT ?_); first | with_reducible refine ge_then ?_ | with_reducible refine ge_then_exit ?_ | with_reducible refine ge_then_ret ?_))
      (refine gc_cond rfl ?_ ?_ <;> intro h_ <;> have hd_ := h_ <;> (try simp only [bytes_beq, cell_beq, val_beq, stamp_beq, decide_eq_true_eq, decide_eq_false_iff_not, Bool.and_eq_true, Bool.or_eq_true, Bool.or_eq_false_iff, Bool.not_eq_true', Bool.not_eq_false', Bool.not_true, Bool.not_false, Bool.false_or, Bool.true_and, Bool.and_true, Bool.or_false, beq_iff_eq, bne_iff_ne, beq_eq_false_iff_ne, bne_eq_false_iff_eq, ne_eq, Bool.false_eq_true, reduceCtorEq] at hd_) <;> (try (exfalso; omega)))
      · have hkl : k < (rrD l z).length := by omega
        have hyz := getD_mem _ k hkl
        have hps2 := hps.next (y := (rrD l z).getD k default) (fun e => by rw [← hz e])
        have hcl2 := hcl1.into hzr hyz
        have hz2 : intoL L2 ((rrD l z).getD k default) = L0 → z = L0.getD i default := fun e => hz (hps.back e)
        by_cases hin : (rrD l z).getD k default ∈ L2
        · rw [intoL_in hin] at hps2 hcl2 hz2
          repeat' first
            | (refine gl_idx0 ?_; refine gl_yv (yv_idxO tab_ok hwr (gok_none rfl) rfl rfl rfl rfl rfl rfl (fun _ => rfl) (fun _ => rfl) c_bnd) rfl rfl ?_)
            | (refine gl_load0 ?_; refine gl_yv (yv_ldO tab_ok c_oa hwr (gok_none rfl) rfl rfl (fun _ => rfl) (fun _ => lds_cat len_cell (by omega) rfl rfl rfl) c_bnd) rfl rfl ?_)
            | (refine gl_gate ?_; first
              | refine gl_nil ?_
              | (refine gl_add0 ?_; refine gl_yv (yv_add tab_ok (gok_none rfl) rfl rfl rfl rfl (fun _ => allT_of rfl) (by intro _; omega)) rfl rfl ?_)
              | (refine gl_calv0 ?_; first | refine gl_yd (yd_call (gok_none rfl) rfl ent172 rfl rfl (fun _ => allT_of rfl) (fun _ W hW => ct_IntoIn L2 ((rrD l z).getD k default) _ _ _ W rfl (slA_cat len_cell rfl hW c_oa ho1) (by omega) hin)) rfl rfl ?_)
              | (refine gl_any0 ?_; refine gl_pure tab_ok rfl rfl rfl rfl rfl rfl ?_))
            | (refine gc_gate ?_; first
              | refine gc_seq ?_
              | refine gc_region ?_
              | refine gc_block ?_
              | refine gc_skip ?_)
            | (refine ge_gate ?_; first
              | ((with_reducible refine ge_gT ?_); first | with_reducible refine ge_then ?_ | with_reducible refine ge_then_exit ?_ | with_reducible refine ge_then_ret ?_)
              | ((with_reducible refine ge_gK ?_); first | with_reducible refine ge_block ?_ | refine ge_block_exit ?_ | refine ge_block_pass rfl ?_ | with_reducible refine ge_block_ret ?_))
          exact ge_round (k + 1, ⟨0, L2, q1, c1, sp1⟩) ⟨by dsimp only; omega, hcl2, ho1, hps2, hz2⟩ (by show (rrD l z).length - (k + 1) < (rrD l z).length - k; omega) c_frs (List.Sublist.refl _)
        · repeat' first
            | (refine gl_idx0 ?_; refine gl_yv (yv_idxO tab_ok hwr (gok_none rfl) rfl rfl rfl rfl rfl rfl (fun _ => rfl) (fun _ => rfl) c_bnd) rfl rfl ?_)
            | (refine gl_load0 ?_; refine gl_yv (yv_ldO tab_ok c_oa hwr (gok_none rfl) rfl rfl (fun _ => rfl) (fun _ => lds_cat len_cell (by omega) rfl rfl rfl) c_bnd) rfl rfl ?_)
            | (refine gl_gate ?_; first
              | refine gl_nil ?_
              | (refine gl_add0 ?_; refine gl_yv (yv_add tab_ok (gok_none rfl) rfl rfl rfl rfl (fun _ => allT_of rfl) (by intro _; omega)) rfl rfl ?_)
              | (refine gl_any0 ?_; (refine gl_ev (ev_callOw rfl rfl ent172 rfl rfl rfl (fun W hW => ct_IntoNew L2 ((rrD l z).getD k default) _ _ _ W rfl (slA_cat len_cell rfl hW c_oa ho1) (by omega) ho1.le (fun h => ho1.nil (Option.map_eq_none_iff.1 h)) hin) ?_) rfl rfl; intro p_ c_ sp_ hw_))
              | (refine gl_any0 ?_; refine gl_pure tab_ok rfl rfl rfl rfl rfl rfl ?_))
            | (refine gc_gate ?_; first
              | refine gc_seq ?_
              | refine gc_region ?_
              | refine gc_block ?_
              | refine gc_skip ?_)
            | (refine ge_gate ?_; first
              | ((with_reducible refine ge_gT ?_); first | with_reducible refine ge_then ?_ | with_reducible refine ge_then_exit ?_ | with_reducible refine ge_then_ret ?_)
              | ((with_reducible refine ge_gK ?_); first | with_reducible refine ge_block ?_ | refine ge_block_exit ?_ | refine ge_block_pass rfl ?_ | with_reducible refine ge_block_ret ?_))
          exact ge_round (k + 1, ⟨0, intoL L2 ((rrD l z).getD k default), p_, c_, sp_⟩) ⟨by dsimp only; omega, hcl2, hw_, hps2, hz2⟩ (by show (rrD l z).length - (k + 1) < (rrD l z).length - k; omega) c_frs (List.Sublist.append (List.Sublist.refl _) (List.sublist_append_right _ _))
      · repeat' first
          | (refine gl_gate ?_; first
            | refine gl_nil ?_
            | (refine gl_add0 ?_; refine gl_yv (yv_add tab_ok (gok_none rfl) rfl rfl rfl rfl (fun _ => allT_of rfl) (by intro _; omega)) rfl rfl ?_)
            | (refine gl_any0 ?_; refine gl_pure tab_ok rfl rfl rfl rfl rfl rfl ?_))
          | (refine gc_gate ?_; first
            | refine gc_region ?_
            | refine gc_exit ?_)
          | (refine ge_gate ?_; first
            | ((with_reducible refine ge_gT ?_); first | with_reducible refine ge_then ?_ | with_reducible refine ge_then_exit ?_ | with_reducible refine ge_then_ret ?_)
            | ((with_reducible refine ge_gK ?_); first | with_reducible refine ge_block ?_ | refine ge_block_exit ?_ | refine ge_block_pass rfl ?_ | with_reducible refine ge_block_ret ?_))
        have hkl : k = (rrD l z).length := by omega
        exact ge_round (i + 1, ⟨0, L2, q1, c1, sp1⟩) ⟨by dsimp only; omega, hcl1, ho1, hps.row fun e => by rw [← hz e]; exact hkl, ⟩ (by show L0.length - (i + 1) < L0.length - i; omega) c_frs (List.Sublist.append (List.Sublist.refl _) (List.sublist_append_right _ _))
    · repeat' first
        | (refine gc_gate ?_; first
          | refine gc_exit ?_)
        | (refine ge_gate ?_; first
          | ((with_reducible refine ge_gT ?_); first | with_reducible refine ge_then ?_ | with_reducible refine ge_then_exit ?_ | with_reducible refine ge_then_ret ?_)
          | ((with_reducible refine ge_gK ?_); first | with_reducible refine ge_block ?_ | refine ge_block_exit ?_ | refine ge_block_pass rfl ?_ | with_reducible refine ge_block_ret ?_))
      have hiL : i = L0.length := by omega
      subst hiL
      refine ge_round ⟨(L0.length : Int), L, q1, c1, sp1⟩ ⟨hcl1, ho1, fun e => hps.done (by dsimp only at e ⊢; omega) hcl1⟩ ?_ c_frs (List.Sublist.refl _)
      unfold bfM
      dsimp only
      rw [if_neg hne]
      split
      · omega
      · omega
  · have hL : L0 = aft l x := hdn (by simpa using hd_)
    rw [hL] at ho ⊢
    repeat' first
      | (refine gl_gate ?_; first
        | refine gl_nil ?_
        | (refine gl_any0 ?_; refine gl_pure tab_ok rfl rfl rfl rfl rfl rfl ?_))
      | (refine gc_gate ?_; first
        | refine gc_seq ?_
        | refine gc_region ?_
        | refine gc_exit ?_
        | refine gc_ret ?_)
      | (refine ge_gate ?_; first
        | ((with_reducible refine ge_gT ?_); first | with_reducible refine ge_then ?_ | with_reducible refine ge_then_exit ?_ | with_reducible refine ge_then_ret ?_)
        | ((with_reducible refine ge_gK ?_); first | with_reducible refine ge_block ?_ | refine ge_block_exit ?_ | refine ge_block_pass rfl ?_ | with_reducible refine ge_block_ret ?_)
        | ((with_reducible refine ge_gB ?_); first | refine ge_ret1 tab_ok rfl c_rvt ?_ | refine ge_end1 tab_ok rfl c_rvt ?_ | refine ge_ret2 tab_ok rfl c_rvt c_rvt ?_ | refine ge_ret_none rfl ?_ | refine ge_end_none rfl ?_))
    intro W hW
    exact ⟨q, c, sp, rfl, ho, hW.drop (List.sublist_append_left _ _)⟩
end Go.Proofs.Ytkgjfcjciigcgaa

/-
  Small contracts of the reference's calls.
-/
namespace Go.Proofs.Ytkgjfcjciigcgaa
open Go.Proofs.Ytkgjfcjciigcgaa.Sl Go.RowKit
set_option linter.unusedVariables false
set_option linter.unusedSimpArgs false
set_option linter.unusedSectionVars false
set_option maxRecDepth 100000

theorem gok_f0D {l : List Oper} {F : Fl} {o : Oper} {j t : Nat} (h : o.guard = some (j, false)) (hj : (match nth l j with | some oj => oj.dst | none => none) = some t) (hc : Fg F t = some (true, .bool false)) : Gok l F o true := by
  have := gok_f h hj hc
  simpa using this
theorem c_gokD {P : Prop} (h : P := by first | exact gok_none rfl | exact gok_f0D rfl rfl rfl | exact gok_t rfl rfl rfl | exact gok_f rfl rfl rfl | exact gok_tn rfl rfl rfl | exact gok_fn rfl rfl rfl) : P := h
theorem ct_CellsD (l : List En) (g : Nat) (D : DR) (w : World) (h : DpR w l g D) (hl : l.length ≤ 1000) : Calls Try.prog 112 #[.pointer (some (ad g))] w (RetOw w (dC l).length 3 (cat Cell.l (dC l)) 25) := by
  have hll := lastR_len l
  have := ct_CellsF (lastR l) g D.p D.c _ w h.hb h.es (by omega)
  rw [← dC_len2, show (lastR l).map En.cell = dC l from rfl] at this
  exact this
theorem ct_SameC (w : World) (L : List Cell) (p q : Option Addr) (n k cap cap' : Nat) (hn : n = L.length) (hk : k = L.length) (hs : SlA w 3 p n (fun i => (L.getD i default).l)) (hs' : SlA w 3 q k (fun i => (L.getD i default).l)) (hl : n ≤ 4611686018427387904) : Calls Try.prog 51 #[.slice p n cap, .slice q k cap'] w fun e w' => e = .returned (.bool true) ∧ Bl w w' := by
  have := ct_SameCells w L L p q n k cap cap' hn hk hs hs' hl (by omega)
  rw [decide_eq_true rfl] at this
  exact this
theorem rvD_shape (D : DR) (l : List En) (x : Cell) : ∃ q d, rvD D l x = .slice q (rdD l x).length d := by
  by_cases hx : x ∈ dC l
  · exact ⟨_, _, by unfold rvD; rw [if_pos hx]⟩
  · have h2 : rdD l x = [] := by
      cases h3 : rdD l x with
      | nil => rfl
      | cons y r => exact absurd (rdD_in (l := l) (c := x) (x := y) (by rw [h3]; exact List.mem_cons_self ..)) hx
    exact ⟨none, 0, by unfold rvD; rw [if_neg hx, h2]; rfl⟩
theorem rvD_sl {D : DR} {l : List En} {g : Nat} {W : World} {x : Cell} {q : Option Addr} {d : Nat} (h : DpR W l g D) (hv : rvD D l x = .slice q (rdD l x).length d) : SlA W 3 q (rdD l x).length (fun i => ((rdD l x).getD i default).l) := by
  obtain ⟨q', d', h1, h2⟩ := rvD_row h x
  rw [hv] at h1
  injection h1 with h3 _ _
  rw [h3]
  exact h2
theorem ct_ReadsD2 {D : DR} {l : List En} {g : Nat} {x : Cell} {q : Option Addr} {d : Nat} (w : World) (hv : rvD D l x = .slice q (rdD l x).length d) (h : DpR w l g D) (hl : l.length ≤ 1000) : Calls Try.prog 114 #[.pointer (some (ad g)), .agg x.l.toArray] w fun e w' => e = .returned (.slice q (rdD l x).length d) ∧ Bl w w' := by
  have := ct_ReadsD l g D x w h hl
  rw [hv] at this
  exact this
theorem ct_HasT {l : List Cell} {c : Cell} (hc : c ∈ l) (w : World) (p : Option Addr) (n cap : Nat) (hn : n = l.length) (hs : SlA w 3 p n (fun i => (l.getD i default).l)) (hl : n ≤ 4611686018427387904) : Calls Try.prog 54 #[.slice p n cap, .agg #[.string c.sheet, .int .i64 c.col, .int .i64 c.row]] w fun e w' => e = .returned (.bool true) ∧ Bl w w' := by
  have := ct_Has w l c p n cap hn hs hl
  rw [decide_eq_true hc] at this
  exact this
theorem ct_HasF {l : List Cell} {c : Cell} (hc : c ∉ l) (w : World) (p : Option Addr) (n cap : Nat) (hn : n = l.length) (hs : SlA w 3 p n (fun i => (l.getD i default).l)) (hl : n ≤ 4611686018427387904) : Calls Try.prog 54 #[.slice p n cap, .agg #[.string c.sheet, .int .i64 c.col, .int .i64 c.row]] w fun e w' => e = .returned (.bool false) ∧ Bl w w' := by
  have := ct_Has w l c p n cap hn hs hl
  rw [decide_eq_false hc] at this
  exact this
end Go.Proofs.Ytkgjfcjciigcgaa
