/-
  The sheets that a formula reads, of both.
-/
import Derived.Test.YtkgjfcjciigcgaaGoCompact
namespace Go.Proofs.Ytkgjfcjciigcgaa
open Go.Proofs.Ytkgjfcjciigcgaa.Sl Go.RowKit
set_option linter.unusedVariables false
set_option linter.unusedSimpArgs false
set_option maxRecDepth 100000

/-! ### sheets -/
theorem Yv.castQ {P : Program} {C : World → Prop} {l : List Oper} {N : Nat} {F : Fl} {o : Oper} {q : Bool} {v v' : Value} (h : Yv P C l N F o q v) (e : q = true → v = v') : Yv P C l N F o q v' := ⟨h.1, fun a hF hq w hw => e hq ▸ h.2 a hF hq w hw⟩
theorem lds_part' {α : Type} [Inhabited α] {T : Tab} {f : α → List Value} {k o : Nat} {v : Value} (hf : ∀ x, (f x).length = k) {l : List α} {i : Nat} {t : TypeId} {d : TyD} (hi : i < l.length) (h : Lds T t (f (l.getD i default)) o v) (hd : ty T t = some d) (ho : o + d.size ≤ k) : Lds T t (cat f l) (i * k + o) v := by
  obtain ⟨d', vs, h1, h2, h3, h4⟩ := h
  rw [hd] at h1
  cases h1
  refine ⟨d, vs, hd, h2, fun j hj => ?_, h4⟩
  rw [← h3 j hj, Nat.add_assoc, cat_get hf l i (o + j) hi (by omega)]
theorem lds_S1' {xs : List ByteArray} {i : Nat} (hi : i < xs.length) : Lds tab 9 (cat S1 xs) (i * 1) (.string (xs.getD i default)) := by
  have := lds_S1 (sp := []) hi
  rw [List.append_nil] at this
  rw [Nat.mul_one]
  exact this
theorem addS_yes {O : List ByteArray} {s : ByteArray} (h : (O.length : Int) = 0 ∨ ¬ O.getD (O.length - 1) default = s) : addS O s = O ++ [s] := by
  unfold addS
  rw [if_pos]
  rcases Nat.eq_zero_or_pos O.length with h0 | h0
  · exact .inl (List.eq_nil_of_length_eq_zero h0)
  · right
    intro e
    rcases h with h | h
    · omega
    · apply h
      rw [List.getLast?_eq_getElem?] at e
      simp [List.getD, e]
theorem addS_no {O : List ByteArray} {s : ByteArray} (h : ¬ (O.length : Int) = 0 ∧ O.getD (O.length - 1) default = s) : addS O s = O := by
  unfold addS
  rw [if_neg]
  rintro (e | e)
  · rw [e] at h; simp at h
  · apply e
    rw [List.getLast?_eq_getElem?, ← h.2]
    have : O.length - 1 < O.length := by omega
    simp [List.getD, this]
theorem rep1 (l : List ByteArray) : (cat S1 l).length = l.length * 1 := cat_length len_S1 l
def shts (t : Node) : List ByteArray := sheetsOf ((cellsT t).map Cell.sheet)
theorem ct_Sheets {S : Nat → Prop} (t : Node) (p : Option Addr) (c : Nat) (w : World) (hR : NodeR S w t p) (hc : t.count ≤ 1000000) : Calls Try.prog 100 #[.agg (t.l p c).toArray] w (RetOw w (shts t).length 1 (cat S1 (shts t)) 9) := by
  have hlen := cellsT_len t
  refine enter (args := [_]) (M := []) (K := []) Try.func100 rfl Try.ntmps100 rfl (St.refl _ _) ?_
  repeat' first
    | (refine gl_gate ?_; first
      | refine gl_nil ?_
      | (refine gl_load0 ?_; refine gl_yv (yv_load tab_ok (gok_none rfl) rfl rfl (fun _ => rfl) c_mem (fun _ => c_lds)) rfl rfl ?_)
      | (refine gl_any0 ?_; (refine gl_ev (ev_callOw rfl rfl ent90 rfl rfl rfl (fun W hW => ct_Cells t p c W (hR.st hW) hc) ?_) rfl rfl; intro p7 c7 sp7 hw7))
      | (refine gl_box0 ?_; first | (refine gl_box_agg rfl rfl rfl rfl rfl ?_; intro g_ hg_) | (refine gl_box_one rfl rfl rfl rfl rfl rfl ?_; intro g_ hg_) | (refine gl_box rfl rfl rfl rfl rfl ?_; intro g_ hg_))
      | (refine gl_any0 ?_; refine gl_pure tab_ok rfl rfl rfl rfl rfl rfl ?_))
    | (refine gc_gate ?_; first
      | refine gc_seq ?_
      | refine gc_region ?_
      | refine gc_block ?_)
    | (refine ge_gate ?_; first
      | ((with_reducible refine ge_gT ?_); first | with_reducible refine ge_then ?_ | with_reducible refine ge_then_exit ?_ | with_reducible refine ge_then_ret ?_))
  unfold shts
  generalize hL : cellsT t = L at *
  refine gc_loop (α := Nat × Option Nat × Nat × List Value) (fun x => [(3, true, .slice (x.2.1.map ad) ((L.take x.1).map Cell.sheet).length x.2.2.1), (7, true, .slice (p7.map ad) L.length c7), (8, true, .int .i64 L.length), (9, true, .int .i64 (x.1 : Int))])
    (fun x => ow x.2.1 true (cat S1 ((L.take x.1).map Cell.sheet) ++ x.2.2.2) 9 ++ ow p7 true (cat Cell.l L ++ sp7) 25) (fun x => x.1 ≤ L.length ∧ Ow x.2.1 ((L.take x.1).map Cell.sheet).length x.2.2.1 1 (cat S1 ((L.take x.1).map Cell.sheet)) x.2.2.2) (fun x => L.length - x.1) (0, none, 0, []) c_frs ?_ ⟨Nat.zero_le _, Ow.none0⟩ ?_
  · exact List.sublist_append_left _ _
  rintro ⟨i, q, c1, sp⟩ ⟨hi, ho⟩
  dsimp only at hi ho ⊢
  have hll : ((L.take i).map Cell.sheet).length ≤ 400 * t.count := by simp; omega
  repeat' first
    | refine gl_idx0 ?_; refine gl_yv (yv_idxO tab_ok hw7 (gok_none rfl) rfl rfl rfl rfl rfl rfl (fun _ => rfl) (fun _ => rfl) c_bnd) rfl rfl ?_
    | refine gl_load0 ?_; refine gl_yv (yv_ldO tab_ok c_oa hw7 (gok_none rfl) rfl rfl (fun _ => rfl) (fun _ => lds_cat len_cell (by omega) rfl rfl rfl) c_bnd) rfl rfl ?_
    | (refine gl_gate ?_; first
      | refine gl_nil ?_
      | (refine gl_load0 ?_; refine gl_yv (yv_load tab_ok (gok_none rfl) rfl rfl (fun _ => rfl) c_mem (fun _ => c_lds)) rfl rfl ?_)
      | (refine gl_add0 ?_; refine gl_yv (yv_add tab_ok (gok_none rfl) rfl rfl rfl rfl (fun _ => allT_of rfl) (by intro _; omega)) rfl rfl ?_)
      | (refine gl_app0 ?_; (refine gl_ev (ev_append tab_ok rfl rfl rfl rfl rfl rfl rfl rfl c_oa (ho) (c_src) c_lim c_lim ?_) rfl rfl; intro p_ c_ sp_ hw_))
      | (refine gl_bld0 ?_; (refine gl_ev (ev_buildSlice tab_ok rfl rfl rfl rfl rfl rfl rfl rfl rfl rfl ?_) rfl rfl; intro g_ hg_))
      | (refine gl_alc0 ?_; (refine gl_alloc tab_ok rfl rfl rfl rfl rfl ?_; intro g_ hg_))
      | (refine gl_sto0 ?_; refine gl_store tab_ok rfl rfl rfl rfl rfl rfl rfl c_one rfl c_ku ?_)
      | (refine gl_any0 ?_; refine gl_pure tab_ok rfl rfl rfl rfl rfl rfl ?_))
    | (refine gc_gate ?_; first
      | refine gc_seq ?_
      | refine gc_region ?_
      | (refine gc_cond rfl ?_ ?_ <;> intro h_ <;> have hd_ := h_ <;> (try simp only [bytes_beq, cell_beq, val_beq, stamp_beq, decide_eq_true_eq, decide_eq_false_iff_not, Bool.and_eq_true, Bool.or_eq_true, Bool.or_eq_false_iff, Bool.not_eq_true', Bool.not_eq_false', Bool.not_true, Bool.not_false, Bool.false_or, Bool.true_and, Bool.and_true, Bool.or_false, beq_iff_eq, bne_iff_ne, beq_eq_false_iff_ne, bne_eq_false_iff_eq, ne_eq, Bool.false_eq_true, reduceCtorEq] at hd_) <;> (try (exfalso; omega)))
      | refine gc_block ?_
      | refine gc_exit ?_
      | refine gc_skip ?_)
    | (refine ge_gate ?_; first
      | ((with_reducible refine ge_gT ?_); first | with_reducible refine ge_then ?_ | with_reducible refine ge_then_exit ?_ | with_reducible refine ge_then_ret ?_)
      | ((with_reducible refine ge_gK ?_); first | with_reducible refine ge_block ?_ | refine ge_block_exit ?_ | refine ge_block_pass rfl ?_ | with_reducible refine ge_block_ret ?_))
  · have e : (L.take (i + 1)).map Cell.sheet = (L.take i).map Cell.sheet ++ [(L.getD i default).sheet] := by rw [take_succD _ _ (by omega), List.map_append]; rfl
    refine ge_round (i + 1, p_, c_, sp_) ⟨by omega, ?_⟩ (by show L.length - (i + 1) < L.length - i; omega) ?_ ?_
    · dsimp only
      rw [e, List.length_append, cat_snoc]
      exact hw_
    · dsimp only
      rw [e, List.length_append]
      exact c_frs
    · dsimp only
      rw [e, cat_snoc]
      exact List.Sublist.append (List.Sublist.refl _) (List.Sublist.cons _ (List.Sublist.cons _ (List.Sublist.refl _)))
  · have h1 : i = L.length := by omega
    rw [h1, List.take_length] at ho hll ⊢
    generalize hX : L.map Cell.sheet = X at *
    rcases q with _ | g2
    · have h1 := ho.nil rfl
      have h2 := ho.le
      have h3 : X = [] := List.eq_nil_of_length_eq_zero (by omega)
      subst h3 h1
      repeat' first
        | (refine gl_gate ?_; first
          | refine gl_nil ?_
          | (refine gl_calv0 ?_; first | refine gl_yd (yd_call (gok_none rfl) rfl ent174 rfl rfl (fun _ => allT_of rfl) (fun _ W hW => ct_CompactN W)) rfl rfl ?_)
          | (refine gl_any0 ?_; refine gl_pure tab_ok rfl rfl rfl rfl rfl rfl ?_))
        | (refine gc_gate ?_; first
          | refine gc_ret ?_)
        | (refine ge_gate ?_; first
          | ((with_reducible refine ge_gT ?_); first | with_reducible refine ge_then ?_ | with_reducible refine ge_then_exit ?_ | with_reducible refine ge_then_ret ?_)
          | ((with_reducible refine ge_gB ?_); first | refine ge_ret1 tab_ok rfl c_rvt ?_ | refine ge_end1 tab_ok rfl c_rvt ?_ | refine ge_ret2 tab_ok rfl c_rvt c_rvt ?_ | refine ge_ret_none rfl ?_ | refine ge_end_none rfl ?_))
      intro W hW
      exact ⟨none, 0, [], rfl, Ow.none0, hW.drop (List.nil_sublist _)⟩
    · refine gl_ev (ev_callG (val := fun _ : List Value => .slice (some (ad g2)) (sheetsOf X).length c1) (ob := fun s => .cells (cat S1 (sheetsOf X) ++ s).toArray 9 (0, 0)) (φ := fun s => s.length = c1 - (sheetsOf X).length) (g := g2) (o1 := .cells (cat S1 X ++ sp).toArray 9 (0, 0)) rfl rfl ent174 rfl rfl rfl (fun W hW => ?_) (fun x hx => ⟨_, c_ku, ?_⟩)) rfl rfl
      · exact ct_Compact (hW.kn (wr := true) c_mem) ho.le (by have := ho.room; omega) (by omega)
      repeat' first
        | (refine gl_gate ?_; first
          | refine gl_nil ?_
          | (refine gl_any0 ?_; refine gl_pure tab_ok rfl rfl rfl rfl rfl rfl ?_))
        | (refine gc_gate ?_; first
          | refine gc_ret ?_)
        | (refine ge_gate ?_; first
          | ((with_reducible refine ge_gT ?_); first | with_reducible refine ge_then ?_ | with_reducible refine ge_then_exit ?_ | with_reducible refine ge_then_ret ?_)
          | ((with_reducible refine ge_gB ?_); first | refine ge_ret1 tab_ok rfl c_rvt ?_ | refine ge_end1 tab_ok rfl c_rvt ?_ | refine ge_ret2 tab_ok rfl c_rvt c_rvt ?_ | refine ge_ret_none rfl ?_ | refine ge_end_none rfl ?_))
      intro W hW
      have hsl := sheetsOf_len X
      exact ⟨some g2, c1, x, rfl, ⟨rep1 _, by rw [hx, Nat.mul_one], by have := ho.le; omega, fun h => by cases h⟩, hW.drop (List.Sublist.cons_cons _ (List.nil_sublist _))⟩
theorem ct_SheetsR {S : Nat → Prop} (t : Node) (p : Option Addr) (c : Nat) (w : World) (hR : NodeR S w t p) (hc : t.count ≤ 1000000) : Calls Try.prog 101 #[.agg (t.l p c).toArray] w (RetOw w (shts t).length 1 (cat S1 (shts t)) 9) := by
  have hlen := readsR_len t
  refine enter (args := [_]) (M := []) (K := []) Try.func101 rfl Try.ntmps101 rfl (St.refl _ _) ?_
  repeat' first
    | (refine gl_gate ?_; first
      | refine gl_nil ?_
      | (refine gl_load0 ?_; refine gl_yv (yv_load tab_ok (gok_none rfl) rfl rfl (fun _ => rfl) c_mem (fun _ => c_lds)) rfl rfl ?_)
      | (refine gl_any0 ?_; (refine gl_ev (ev_callOw rfl rfl ent99 rfl rfl rfl (fun W hW => ct_ReadsR t p c W (hR.st hW) hc) ?_) rfl rfl; intro p7 c7 sp7 hw7))
      | (refine gl_box0 ?_; first | (refine gl_box_agg rfl rfl rfl rfl rfl ?_; intro g_ hg_) | (refine gl_box_one rfl rfl rfl rfl rfl rfl ?_; intro g_ hg_) | (refine gl_box rfl rfl rfl rfl rfl ?_; intro g_ hg_))
      | (refine gl_any0 ?_; refine gl_pure tab_ok rfl rfl rfl rfl rfl rfl ?_))
    | (refine gc_gate ?_; first
      | refine gc_seq ?_
      | refine gc_region ?_
      | refine gc_block ?_)
    | (refine ge_gate ?_; first
      | ((with_reducible refine ge_gT ?_); first | with_reducible refine ge_then ?_ | with_reducible refine ge_then_exit ?_ | with_reducible refine ge_then_ret ?_))
  unfold shts
  rw [readsR_cells t]
  generalize hL : readsR t = L at *
  refine gc_loop (α := Nat × Option Nat × Nat × List Value) (fun x => [(3, true, .slice (p7.map ad) L.length c7), (4, true, .slice (x.2.1.map ad) (sheetsOf ((L.map Cell.sheet).take x.1)).length x.2.2.1), (5, true, .int .i64 (x.1 : Int))])
    (fun x => ow x.2.1 true (cat S1 (sheetsOf ((L.map Cell.sheet).take x.1)) ++ x.2.2.2) 9 ++ ow p7 true (cat Cell.l L ++ sp7) 25) (fun x => x.1 ≤ L.length ∧ Ow x.2.1 (sheetsOf ((L.map Cell.sheet).take x.1)).length x.2.2.1 1 (cat S1 (sheetsOf ((L.map Cell.sheet).take x.1))) x.2.2.2) (fun x => L.length - x.1) (0, none, 0, []) c_frs ?_ ⟨Nat.zero_le _, Ow.none0⟩ ?_
  · exact List.sublist_append_left _ _
  rintro ⟨i, q, c1, sp⟩ ⟨hi, ho⟩
  dsimp only at hi ho ⊢
  have hll : (sheetsOf ((L.map Cell.sheet).take i)).length ≤ 400 * t.count := by have := sheetsOf_len ((L.map Cell.sheet).take i); simp at this; omega
  have hnext : i < L.length → sheetsOf ((L.map Cell.sheet).take (i + 1)) = addS (sheetsOf ((L.map Cell.sheet).take i)) (L.getD i default).sheet := fun h => by
    rw [sheetsOf_take _ _ (by simpa using h)]
    congr 1
    simp [List.getD, h]
  generalize hO : sheetsOf ((L.map Cell.sheet).take i) = O at *
  repeat' first
    | (refine gl_gate ?_; first
      | refine gl_nil ?_
      | (refine gl_any0 ?_; refine gl_pure tab_ok rfl rfl rfl rfl rfl rfl ?_))
    | (refine gc_gate ?_; first
      | refine gc_seq ?_
      | refine gc_region ?_)
    | (refine ge_gate ?_; first
      | ((with_reducible refine ge_gT ?_); first | with_reducible refine ge_then ?_ | with_reducible refine ge_then_exit ?_ | with_reducible refine ge_then_ret ?_))
  (refine gc_cond rfl ?_ ?_ <;> intro h_ <;> have hd_ := h_ <;> (try simp only [bytes_beq, cell_beq, val_beq, stamp_beq, decide_eq_true_eq, decide_eq_false_iff_not, Bool.and_eq_true, Bool.or_eq_true, Bool.or_eq_false_iff, Bool.not_eq_true', Bool.not_eq_false', Bool.not_true, Bool.not_false, Bool.false_or, Bool.true_and, Bool.and_true, Bool.or_false, beq_iff_eq, bne_iff_ne, beq_eq_false_iff_ne, bne_eq_false_iff_eq, ne_eq, Bool.false_eq_true, reduceCtorEq] at hd_) <;> (try (exfalso; omega)))
  rotate_left
  · repeat' first
      | (refine gl_gate ?_; first
        | refine gl_nil ?_
        | (refine gl_any0 ?_; refine gl_pure tab_ok rfl rfl rfl rfl rfl rfl ?_))
      | (refine gc_gate ?_; first
        | refine gc_seq ?_
        | refine gc_region ?_
        | refine gc_exit ?_
        | refine gc_ret ?_)
      | (refine ge_gate ?_; first
        | ((with_reducible refine ge_gT ?_); first | with_reducible refine ge_then ?_ | with_reducible refine ge_then_exit ?_ | with_reducible refine ge_then_ret ?_)
        | ((with_reducible refine ge_gK ?_); first | with_reducible refine ge_block ?_ | refine ge_block_exit ?_ | refine ge_block_pass rfl ?_ | with_reducible refine ge_block_ret ?_)
        | ((with_reducible refine ge_gB ?_); first | refine ge_ret1 tab_ok rfl c_rvt ?_ | refine ge_end1 tab_ok rfl c_rvt ?_ | refine ge_ret2 tab_ok rfl c_rvt c_rvt ?_ | refine ge_ret_none rfl ?_ | refine ge_end_none rfl ?_))
    intro W hW
    have h1 : i = L.length := by omega
    rw [h1, List.take_of_length_le (by simp)] at hO
    rw [hO]
    exact ⟨q, c1, sp, rfl, ho, hW.drop (List.sublist_append_left _ _)⟩
  have hiL : i < L.length := by omega
  replace hnext := hnext hiL
  repeat' first
    | (refine gq_subG ?_; refine gq_yv (Yv.castQ (yv_sub tab_ok c_gok rfl rfl rfl rfl c_allT c_bnd) (v' := .int .i64 ((O.length - 1 : Nat) : Int)) (by intro hq_; simp only [Bool.not_eq_true', beq_eq_false_iff_ne, ne_eq] at hq_; congr 1; omega)) rfl rfl ?_)
    | (refine gq_idxG ?_; refine gq_yv (yv_idxO tab_ok ho c_gok rfl rfl rfl rfl rfl rfl c_imp c_imp (by intro hq_; simp only [Bool.not_eq_true', beq_eq_false_iff_ne, ne_eq] at hq_; omega)) rfl rfl ?_)
    | (refine gq_idxG ?_; refine gq_yv (yv_idxO tab_ok hw7 c_gok rfl rfl rfl rfl rfl rfl c_imp c_imp (by intro hq_; omega)) rfl rfl ?_)
    | (refine gq_loadG ?_; refine gq_yv (yv_ldO tab_ok c_oa ho c_gok rfl rfl c_imp (fun hq_ => lds_S1' (by simp only [Bool.not_eq_true', beq_eq_false_iff_ne, ne_eq] at hq_; omega)) (by intro hq_; simp only [Bool.not_eq_true', beq_eq_false_iff_ne, ne_eq] at hq_; omega)) rfl rfl ?_)
    | (refine gq_loadG ?_; refine gq_yv (yv_ldO tab_ok c_oa hw7 c_gok rfl rfl c_imp (fun hq_ => lds_part' len_cell hiL (lds_one rfl rfl rfl rfl) rfl (by decide)) (by intro hq_; omega)) rfl rfl ?_)
    | (refine gc_gate ?_; first
      | refine gc_seq ?_
      | refine gc_quietRo rfl mixed (by decide +kernel) ?_
      | refine gc_block ?_
      | refine gc_skip ?_)
    | (refine ge_gate ?_; first
      | ((with_reducible refine ge_gT ?_); first | with_reducible refine ge_then ?_ | with_reducible refine ge_then_exit ?_ | with_reducible refine ge_then_ret ?_))
    | (refine gq_gate ?_; first
      | refine gq_nil ?_
      | (refine gq_pick0 ?_; first | refine gq_yv (yv_and (gok_none rfl) rfl rfl rfl (fun _ => rfl) c_imp2) rfl rfl ?_ | refine gq_yv (yv_or (gok_none rfl) rfl rfl rfl (fun _ => rfl) c_imp2) rfl rfl ?_)
      | (refine gq_any0 ?_; refine gq_pure tab_ok rfl rfl rfl rfl rfl rfl ?_)
      | (refine gq_anyG ?_; first | refine gq_yv (yv_pure tab_ok c_gok rfl rfl c_allT) rfl rfl ?_ | refine gq_yv (yv_indexS tab_ok c_gok rfl rfl rfl rfl c_imp c_imp (by intro hq_; (try simp only [Bool.and_eq_true, Bool.not_eq_true', Bool.not_eq_false', Bool.or_eq_false_iff, Bool.or_eq_true, decide_eq_true_eq, decide_eq_false_iff_not, Bool.true_and, Bool.and_true] at hq_); omega)) rfl rfl ?_ | refine gq_yv (yv_indexS (i := 0) tab_ok c_gok rfl rfl rfl rfl c_imp c_imp (by intro hq_; (try simp only [Bool.and_eq_true, Bool.not_eq_true', Bool.not_eq_false', Bool.or_eq_false_iff, Bool.or_eq_true, decide_eq_true_eq, decide_eq_false_iff_not, Bool.true_and, Bool.and_true] at hq_); omega)) rfl rfl ?_))
  (refine gc_cond rfl ?_ ?_ <;> intro h_ <;> have hd_ := h_ <;> (try simp only [bytes_beq, cell_beq, val_beq, stamp_beq, decide_eq_true_eq, decide_eq_false_iff_not, Bool.and_eq_true, Bool.or_eq_true, Bool.or_eq_false_iff, Bool.not_eq_true', Bool.not_eq_false', Bool.not_true, Bool.not_false, Bool.false_or, Bool.true_and, Bool.and_true, Bool.or_false, beq_iff_eq, bne_iff_ne, beq_eq_false_iff_ne, bne_eq_false_iff_eq, ne_eq, Bool.false_eq_true, reduceCtorEq] at hd_) <;> (try (exfalso; omega)))
  · rw [addS_yes hd_] at hnext
    repeat' first
      | (refine gl_idx0 ?_; refine gl_yv (yv_idxO tab_ok hw7 (gok_none rfl) rfl rfl rfl rfl rfl rfl (fun _ => rfl) (fun _ => rfl) c_bnd) rfl rfl ?_)
      | (refine gl_load0 ?_; refine gl_yv (yv_ldO tab_ok c_oa hw7 (gok_none rfl) rfl rfl (fun _ => rfl) (fun _ => lds_part' len_cell hiL (lds_one rfl rfl rfl rfl) rfl (by decide)) c_bnd) rfl rfl ?_)
      | (refine gl_gate ?_; first
        | refine gl_nil ?_
        | (refine gl_add0 ?_; refine gl_yv (yv_add tab_ok (gok_none rfl) rfl rfl rfl rfl (fun _ => allT_of rfl) (by intro _; omega)) rfl rfl ?_)
        | (refine gl_app0 ?_; (refine gl_ev (ev_append tab_ok rfl rfl rfl rfl rfl rfl rfl rfl c_oa (ho) (c_src) c_lim c_lim ?_) rfl rfl; intro p_ c_ sp_ hw_))
        | (refine gl_bld0 ?_; (refine gl_ev (ev_buildSlice tab_ok rfl rfl rfl rfl rfl rfl rfl rfl rfl rfl ?_) rfl rfl; intro g_ hg_))
        | (refine gl_any0 ?_; refine gl_pure tab_ok rfl rfl rfl rfl rfl rfl ?_))
      | (refine gc_gate ?_; first
        | refine gc_region ?_)
      | (refine ge_gate ?_; first
        | ((with_reducible refine ge_gT ?_); first | with_reducible refine ge_then ?_ | with_reducible refine ge_then_exit ?_ | with_reducible refine ge_then_ret ?_)
        | ((with_reducible refine ge_gK ?_); first | with_reducible refine ge_block ?_ | refine ge_block_exit ?_ | refine ge_block_pass rfl ?_ | with_reducible refine ge_block_ret ?_))
    refine ge_round (i + 1, p_, c_, sp_) ⟨by omega, ?_⟩ (by show L.length - (i + 1) < L.length - i; omega) ?_ ?_
    · dsimp only
      rw [hnext, List.length_append, cat_snoc]
      exact hw_
    · dsimp only
      rw [hnext, List.length_append]
      exact c_frs
    · dsimp only
      rw [hnext, cat_snoc]
      exact List.Sublist.append (List.Sublist.refl _) (List.Sublist.cons _ (List.Sublist.refl _))
  · rw [addS_no hd_] at hnext
    repeat' first
      | (refine gl_gate ?_; first
        | refine gl_nil ?_
        | (refine gl_add0 ?_; refine gl_yv (yv_add tab_ok (gok_none rfl) rfl rfl rfl rfl (fun _ => allT_of rfl) (by intro _; omega)) rfl rfl ?_)
        | (refine gl_any0 ?_; refine gl_pure tab_ok rfl rfl rfl rfl rfl rfl ?_))
      | (refine gc_gate ?_; first
        | refine gc_region ?_
        | refine gc_skip ?_)
      | (refine ge_gate ?_; first
        | ((with_reducible refine ge_gT ?_); first | with_reducible refine ge_then ?_ | with_reducible refine ge_then_exit ?_ | with_reducible refine ge_then_ret ?_)
        | ((with_reducible refine ge_gK ?_); first | with_reducible refine ge_block ?_ | refine ge_block_exit ?_ | refine ge_block_pass rfl ?_ | with_reducible refine ge_block_ret ?_))
    refine ge_round (i + 1, q, c1, sp) ⟨by omega, ?_⟩ (by show L.length - (i + 1) < L.length - i; omega) ?_ ?_
    all_goals
      dsimp only
      rw [hnext]
    · exact ho
    · exact c_frs
    · exact List.Sublist.refl _
end Go.Proofs.Ytkgjfcjciigcgaa
