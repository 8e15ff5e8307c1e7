import Derived.Test.YtkgjfcjciigcgaaGoDepsP3
import Derived.Test.YtkgjfcjciigcgaaGoReads
import Derived.Test.YtkgjfcjciigcgaaGoOrd
import Derived.Test.YtkgjfcjciigcgaaGoReadsN
import Derived.Test.YtkgjfcjciigcgaaSlSel
import Derived.Test.YtkgjfcjciigcgaaGoDepsP0
/-
  The reference's Last: of several entries of one cell the last, in order.
-/
namespace Go.Proofs.Ytkgjfcjciigcgaa
open Go.Proofs.Ytkgjfcjciigcgaa.Sl Go.RowKit
set_option linter.unusedVariables false
set_option linter.unusedSimpArgs false
set_option linter.unusedSectionVars false
set_option maxRecDepth 100000

theorem ones_en (e : En) : ∀ u ∈ e.l, u.oneCell' = true := ones_of rfl
theorem lds_partD {α : Type} [Inhabited α] {T : Tab} {f : α → List Value} {k o : Nat} {v : Value} (hf : ∀ x, (f x).length = k) {l : List α} {i : Nat} {t : TypeId} {d : TyD} (hi : i < l.length) (hd : ty T t = some d) (ho : o + d.size ≤ k) (h : Lds T t (f (l.getD i default)) o v) : Lds T t (cat f l) (i * k + o) v := by
  obtain ⟨d', vs, h1, h2, h3, h4, h5⟩ := h
  rw [hd] at h1
  cases h1
  refine ⟨d, vs, hd, h2, fun j hj => ?_, h4, h5⟩
  rw [← h3 j hj, Nat.add_assoc]
  exact cat_get hf l i (o + j) hi (by omega)
section
variable {P : Program} {T : Tab} {N : Nat} {F : Fl} {o : Oper} {w0 : World} {M : List Nat} {K K' Kx : Kl} {e : TypeId}
theorem Ev.permK {R : Value → Kl → Prop} (hp : ∀ W, St w0 M K W → St w0 M K' W) (h : Ev P o N w0 M F K' R) : Ev P o N w0 M F K R := ⟨h.1, fun a W hF hW => h.2 a W hF (hp W hW)⟩
/-- One element of an own slice, turned. -/
theorem ev_setO {α : Type} [Inhabited α] {f : α → List Value} {k : Nat} (hf : ∀ x, (f x).length = k) {l : List α} {y : α} (h1 : ∀ u ∈ f y, u.oneCell' = true) {p : Option Nat} {c i : Nat} {sp : List Value} {t : TypeId} {x v : Operand} {dd : TyD} {R : Value → Kl → Prop} (hT : TabOk P T) (hg : o.guard = none) (ho : o.op = .store t x v)
    (hx : Fo F x = some (true, .pointer (some ⟨p.getD 0, i * k, none⟩))) (hy : Fo F v = some (true, .agg (f y).toArray)) (ht : ty T t = some dd) (hs : dd.size = k) (hi : i < l.length) (hk : Oa K p (cat f l ++ sp) e Kx) (hw : Ow p l.length c k (cat f l) sp) (h : R undef (ow p true (cat f (l.set i y) ++ sp) e ++ Kx)) : Ev P o N w0 M F K R := by
  cases p with
  | none => have := hw.nil rfl; have := hw.le; omega
  | some g =>
    refine Ev.permK (fun W hW => hk.st hW) ?_
    have e1 : cat f l = (elems l.length (fun j => f (l.getD j default))).flatten := elemsAllC.symm
    have e2 : cat f (l.set i y) = (elems l.length (fun j => if j = i then f y else f (l.getD j default))).flatten := by
      have h3 := elemsAllC (f := f) (l := l.set i y)
      rw [← h3, List.length_set]
      congr 1
      unfold elems
      refine List.map_congr_left fun j hj => ?_
      have hj := List.mem_range.1 hj
      by_cases hji : j = i
      · subst hji
        rw [if_pos rfl]
        simp [List.getD, hj]
      · rw [if_neg hji]
        simp [List.getD, List.getElem?_set, Ne.symm hji]
    rw [e1]
    refine ev_storeE hT hg ho hx hy ht hs (hf y) h1 (fun _ _ => hf _) hi (Ku.head) ?_
    rw [← e2]
    exact h
end
def lastSt := Option Nat × Nat × List Value
theorem lastIns_len2 (l : List En) (e : En) : (lastIns l e).length = if lastI e.cell l < l.length ∧ (l.getD (lastI e.cell l) default).cell = e.cell then l.length else l.length + 1 := by
  have := lastI_le e.cell l
  unfold lastIns
  split
  · simp
  · simp; omega
set_option maxHeartbeats 4000000 in
theorem ct_LastR (l : List En) (p : Option Addr) (n cap : Nat) (w : World) (hn : n = l.length) (hs : SlA w 20 p n (fun i => (l.getD i default).l)) (hl : n ≤ 1000) : Calls Try.prog 180 #[.slice p n cap] w (RetOw w (lastR l).length 20 (cat En.l (lastR l)) 154) := by
  refine enter (args := [_]) (M := []) (K := []) Try.func180 rfl Try.ntmps180 rfl (St.refl _ _) ?_
  repeat' first
    | (refine gl_gate ?_; first
      | refine gl_nil ?_
      | (refine gl_any0 ?_; refine gl_pure tab_ok rfl rfl rfl rfl rfl rfl ?_))
    | (refine gc_gate ?_; first
      | refine gc_seq ?_
      | refine gc_region ?_
      | refine gc_block ?_)
    | (refine ge_gate ?_; first
      | ((with_reducible refine ge_gT ?_); first | with_reducible refine ge_then ?_ | with_reducible refine ge_then_exit ?_ | with_reducible refine ge_then_ret ?_))
  refine gc_loop (α := Nat × Option Nat × Nat × List Value) (fun x => [(0, true, .slice p n cap), (3, true, .slice (x.2.1.map ad) (lastR (l.take x.1)).length x.2.2.1), (4, true, .int .i64 (x.1 : Int))])
    (fun x => ow x.2.1 true (cat En.l (lastR (l.take x.1)) ++ x.2.2.2) 154) (fun x => x.1 ≤ n ∧ Ow x.2.1 (lastR (l.take x.1)).length x.2.2.1 20 (cat En.l (lastR (l.take x.1))) x.2.2.2) (fun x => n - x.1) (0, none, 0, []) c_frs (List.Sublist.refl _) ⟨Nat.zero_le _, Ow.none0⟩ ?_
  rintro ⟨i, q, c, sp⟩ ⟨hi, ho⟩
  dsimp only at hi ho ⊢
  have hLl := lastR_len (l.take i)
  rw [List.length_take] at hLl
  repeat' first
    | (refine gl_gate ?_; first
      | refine gl_nil ?_
      | (refine gl_any0 ?_; refine gl_pure tab_ok rfl rfl rfl rfl rfl rfl ?_))
    | (refine gc_gate ?_; first
      | refine gc_seq ?_
      | refine gc_region ?_)
    | (refine ge_gate ?_; first
      | ((with_reducible refine ge_gT ?_); first | with_reducible refine ge_then ?_ | with_reducible refine ge_then_exit ?_ | with_reducible refine ge_then_ret ?_))
  (refine gc_cond rfl ?_ ?_ <;> intro h_ <;> have hd_ := h_ <;> (try simp only [bytes_beq, cell_beq, val_beq, stamp_beq, decide_eq_true_eq, decide_eq_false_iff_not, Bool.and_eq_true, Bool.or_eq_true, Bool.or_eq_false_iff, Bool.not_eq_true', Bool.not_eq_false', Bool.not_true, Bool.not_false, Bool.false_or, Bool.true_and, Bool.and_true, Bool.or_false, beq_iff_eq, bne_iff_ne, beq_eq_false_iff_ne, bne_eq_false_iff_eq, ne_eq, Bool.false_eq_true, reduceCtorEq] at hd_) <;> (try (exfalso; omega)))
  · have hin : i < n := by omega
    have hLn := lastR_take l i (by omega)
    generalize hL : lastR (l.take i) = L at *
    repeat' first
      | (refine gl_gate ?_; first
        | refine gl_nil ?_
        | (refine gl_any0 ?_; refine gl_pure tab_ok rfl rfl rfl rfl rfl rfl ?_))
      | (refine gc_gate ?_; first
        | refine gc_seq ?_
        | refine gc_region ?_
        | refine gc_block ?_
        | refine gc_skip ?_)
      | (refine ge_gate ?_; first
        | ((with_reducible refine ge_gT ?_); first | with_reducible refine ge_then ?_ | with_reducible refine ge_then_exit ?_ | with_reducible refine ge_then_ret ?_))
    refine gc_loop (α := Nat) (fun k => [(0, true, .slice p n cap), (3, true, .slice (q.map ad) L.length c), (4, true, .int .i64 (i : Int)), (5, true, .int .i64 (k : Int))])
      (fun _ => ow q true (cat En.l L ++ sp) 154) (fun k => k ≤ L.length ∧ ∀ j, j < k → ltOf cmpC (L.getD j default).cell (l.getD i default).cell = true) (fun k => L.length - k) 0 c_frs (List.Sublist.refl _) ⟨Nat.zero_le _, fun j hj => by omega⟩ ?_
    rintro k ⟨hk, he⟩
    repeat' first
      | (refine gq_idxG ?_; refine gq_yv (yv_idxO tab_ok ho c_gok rfl rfl rfl rfl rfl rfl c_imp c_imp c_bnd) rfl rfl ?_)
      | (refine gq_loadG ?_; refine gq_yv (yv_ldO tab_ok c_oa ho c_gok rfl rfl c_imp (fun hq_ => lds_partD len_en (by simp at hq_; omega) rfl (by decide) (lds_agg rfl rfl rfl)) c_bnd) rfl rfl ?_)
      | (refine gc_gate ?_; first
        | refine gc_seq ?_
        | refine gc_quietRo rfl mixed (by decide +kernel) ?_)
      | (refine ge_gate ?_; first
        | ((with_reducible refine ge_gT ?_); first | with_reducible refine ge_then ?_ | with_reducible refine ge_then_exit ?_ | with_reducible refine ge_then_ret ?_))
      | (refine gq_gate ?_; first
        | refine gq_nil ?_
        | (refine gq_idxG ?_; refine gq_yv (yv_idxA tab_ok hs c_gok rfl rfl rfl rfl rfl rfl c_imp c_imp c_bnd) rfl rfl ?_)
        | (refine gq_loadG ?_; refine gq_yv (yv_ldA tab_ok hs c_nm c_gok rfl rfl c_imp c_bnd (fun _ => c_lds)) rfl rfl ?_)
        | (refine gq_calvG ?_; first | refine gq_yd (yd_call c_gok rfl ent91 rfl rfl c_allT (fun _ W hW => ct_LessR (L.getD k default).cell (l.getD i default).cell W)) rfl rfl ?_)
        | (refine gq_pick0 ?_; first | refine gq_yv (yv_and (gok_none rfl) rfl rfl rfl (fun _ => rfl) c_imp2) rfl rfl ?_ | refine gq_yv (yv_or (gok_none rfl) rfl rfl rfl (fun _ => rfl) c_imp2) rfl rfl ?_)
        | (refine gq_any0 ?_; refine gq_pure tab_ok rfl rfl rfl rfl rfl rfl ?_)
        | (refine gq_anyG ?_; first | refine gq_yv (yv_pure tab_ok c_gok rfl rfl c_allT) rfl rfl ?_ | refine gq_yv (yv_indexS tab_ok c_gok rfl rfl rfl rfl c_imp c_imp (by intro hq_; (try simp only [Bool.and_eq_true, Bool.not_eq_true', Bool.not_eq_false', Bool.or_eq_false_iff, Bool.or_eq_true, decide_eq_true_eq, decide_eq_false_iff_not, Bool.true_and, Bool.and_true] at hq_); omega)) rfl rfl ?_ | refine gq_yv (yv_indexS (i := 0) tab_ok c_gok rfl rfl rfl rfl c_imp c_imp (by intro hq_; (try simp only [Bool.and_eq_true, Bool.not_eq_true', Bool.not_eq_false', Bool.or_eq_false_iff, Bool.or_eq_true, decide_eq_true_eq, decide_eq_false_iff_not, Bool.true_and, Bool.and_true] at hq_); omega)) rfl rfl ?_))
    (refine gc_cond rfl ?_ ?_ <;> intro h_ <;> have hd_ := h_ <;> (try simp only [bytes_beq, cell_beq, val_beq, stamp_beq, decide_eq_true_eq, decide_eq_false_iff_not, Bool.and_eq_true, Bool.or_eq_true, Bool.or_eq_false_iff, Bool.not_eq_true', Bool.not_eq_false', Bool.not_true, Bool.not_false, Bool.false_or, Bool.true_and, Bool.and_true, Bool.or_false, beq_iff_eq, bne_iff_ne, beq_eq_false_iff_ne, bne_eq_false_iff_eq, ne_eq, Bool.false_eq_true, reduceCtorEq] at hd_) <;> (try (exfalso; omega)))
    · repeat' first
        | (refine gl_gate ?_; first
          | refine gl_nil ?_
          | (refine gl_add0 ?_; refine gl_yv (yv_add tab_ok (gok_none rfl) rfl rfl rfl rfl (fun _ => allT_of rfl) (by intro _; omega)) rfl rfl ?_)
          | (refine gl_any0 ?_; refine gl_pure tab_ok rfl rfl rfl rfl rfl rfl ?_))
        | (refine gc_gate ?_; first
          | refine gc_region ?_
          | refine gc_block ?_
          | refine gc_skip ?_)
        | (refine ge_gate ?_; first
          | ((with_reducible refine ge_gT ?_); first | with_reducible refine ge_then ?_ | with_reducible refine ge_then_exit ?_ | with_reducible refine ge_then_ret ?_)
          | ((with_reducible refine ge_gK ?_); first | with_reducible refine ge_block ?_ | refine ge_block_exit ?_ | refine ge_block_pass rfl ?_ | with_reducible refine ge_block_ret ?_))
      refine ge_round (k + 1) ⟨by omega, fun j hj => ?_⟩ (by omega) c_frs (List.Sublist.refl _)
      rcases Nat.lt_or_ge j k with h | h
      · exact he j h
      · obtain rfl : j = k := by omega
        exact hd_.2
    have hlt : k < L.length → ltOf cmpC (L.getD k default).cell (l.getD i default).cell = false := fun h => by
      cases h2 : ltOf cmpC (L.getD k default).cell (l.getD i default).cell with
      | false => rfl
      | true =>
        rw [h2, show decide ((k : Int) < (L.length : Int)) = true by simp; omega] at h_
        cases h_
    have hki : lastI (l.getD i default).cell L = k := lastI_eq _ L k hk he hlt
    clear h_ hd_
    repeat' first
      | (refine gq_idxG ?_; refine gq_yv (yv_idxO tab_ok ho c_gok rfl rfl rfl rfl rfl rfl c_imp c_imp (by intro hq_; simp at hq_; omega)) rfl rfl ?_)
      | (refine gq_loadG ?_; refine gq_yv (yv_ldO tab_ok c_oa ho c_gok rfl rfl c_imp (fun hq_ => lds_partD len_en (by simp at hq_; omega) rfl (by decide) (lds_agg rfl rfl rfl)) (by intro hq_; simp at hq_; omega)) rfl rfl ?_)
      | (refine gc_gate ?_; first
        | refine gc_seq ?_
        | refine gc_quietRo rfl mixed (by decide +kernel) ?_
        | refine gc_exit ?_)
      | (refine ge_gate ?_; first
        | ((with_reducible refine ge_gT ?_); first | with_reducible refine ge_then ?_ | with_reducible refine ge_then_exit ?_ | with_reducible refine ge_then_ret ?_)
        | ((with_reducible refine ge_gK ?_); first | with_reducible refine ge_block ?_ | refine ge_block_exit ?_ | refine ge_block_pass rfl ?_ | with_reducible refine ge_block_ret ?_))
      | (refine gq_gate ?_; first
        | refine gq_nil ?_
        | (refine gq_idxG ?_; refine gq_yv (yv_idxA tab_ok hs c_gok rfl rfl rfl rfl rfl rfl c_imp c_imp c_bnd) rfl rfl ?_)
        | (refine gq_loadG ?_; refine gq_yv (yv_ldA tab_ok hs c_nm c_gok rfl rfl c_imp c_bnd (fun _ => c_lds)) rfl rfl ?_)
        | (refine gq_pick0 ?_; first | refine gq_yv (yv_and (gok_none rfl) rfl rfl rfl (fun _ => rfl) c_imp2) rfl rfl ?_ | refine gq_yv (yv_or (gok_none rfl) rfl rfl rfl (fun _ => rfl) c_imp2) rfl rfl ?_)
        | (refine gq_any0 ?_; refine gq_pure tab_ok rfl rfl rfl rfl rfl rfl ?_)
        | (refine gq_eqS ?_; first | refine gq_yv (yv_eqS tab_ok eqs_ok c_gok rfl rfl rfl rfl c_allT rfl rfl rfl) rfl rfl ?_)
        | (refine gq_anyG ?_; first | refine gq_yv (yv_pure tab_ok c_gok rfl rfl c_allT) rfl rfl ?_ | refine gq_yv (yv_indexS tab_ok c_gok rfl rfl rfl rfl c_imp c_imp (by intro hq_; (try simp only [Bool.and_eq_true, Bool.not_eq_true', Bool.not_eq_false', Bool.or_eq_false_iff, Bool.or_eq_true, decide_eq_true_eq, decide_eq_false_iff_not, Bool.true_and, Bool.and_true] at hq_); omega)) rfl rfl ?_ | refine gq_yv (yv_indexS (i := 0) tab_ok c_gok rfl rfl rfl rfl c_imp c_imp (by intro hq_; (try simp only [Bool.and_eq_true, Bool.not_eq_true', Bool.not_eq_false', Bool.or_eq_false_iff, Bool.or_eq_true, decide_eq_true_eq, decide_eq_false_iff_not, Bool.true_and, Bool.and_true] at hq_); omega)) rfl rfl ?_))
    (refine gc_cond rfl ?_ ?_ <;> intro h_ <;> have hd_ := h_ <;> (try simp only [bytes_beq, cell_beq, val_beq, stamp_beq, decide_eq_true_eq, decide_eq_false_iff_not, Bool.and_eq_true, Bool.or_eq_true, Bool.or_eq_false_iff, Bool.not_eq_true', Bool.not_eq_false', Bool.not_true, Bool.not_false, Bool.false_or, Bool.true_and, Bool.and_true, Bool.or_false, beq_iff_eq, bne_iff_ne, beq_eq_false_iff_ne, bne_eq_false_iff_eq, ne_eq, Bool.false_eq_true, reduceCtorEq] at hd_) <;> (try (exfalso; omega)))
    · have hkL : k < L.length := by have := hd_.1; omega
      have hins : lastIns L (l.getD i default) = L.set k (l.getD i default) := by
        unfold lastIns
        rw [hki, if_pos ⟨hkL, hd_.2⟩]
      repeat' first
        | (refine gl_idx0 ?_; refine gl_yv (yv_idxO tab_ok ho (gok_none rfl) rfl rfl rfl rfl rfl rfl (fun _ => rfl) (fun _ => rfl) c_bnd) rfl rfl ?_)
        | refine gl_ev0 (ev_setO (y := l.getD i default) len_en (ones_en _) tab_ok rfl rfl rfl rfl rfl rfl hkL Oa.self ho ?_) rfl
        | (refine gl_gate ?_; first
          | refine gl_nil ?_
          | (refine gl_add0 ?_; refine gl_yv (yv_add tab_ok (gok_none rfl) rfl rfl rfl rfl (fun _ => allT_of rfl) (by intro _; omega)) rfl rfl ?_)
          | (refine gl_idx0 ?_; refine gl_yv (yv_idxA tab_ok hs (gok_none rfl) rfl rfl rfl rfl rfl rfl (fun _ => rfl) (fun _ => rfl) c_bnd) rfl rfl ?_)
          | (refine gl_load0 ?_; refine gl_yv (yv_ldA tab_ok hs c_nm (gok_none rfl) rfl rfl (fun _ => rfl) c_bnd (fun _ => c_lds)) rfl rfl ?_)
          | (refine gl_any0 ?_; refine gl_pure tab_ok rfl rfl rfl rfl rfl rfl ?_))
        | (refine gc_gate ?_; first
          | refine gc_seq ?_
          | refine gc_region ?_
          | refine gc_exit ?_)
        | (refine ge_gate ?_; first
          | ((with_reducible refine ge_gT ?_); first | with_reducible refine ge_then ?_ | with_reducible refine ge_then_exit ?_ | with_reducible refine ge_then_ret ?_)
          | ((with_reducible refine ge_gK ?_); first | with_reducible refine ge_block ?_ | refine ge_block_exit ?_ | refine ge_block_pass rfl ?_ | with_reducible refine ge_block_ret ?_))
      rw [← hins, ← hLn, List.append_nil]
      skip
      refine ge_round (i + 1, q, c, sp) ⟨by omega, ?_⟩ (by show n - (i + 1) < n - i; omega) ?_ (List.Sublist.refl _)
      all_goals
        dsimp only
      · have h1 := ho.len
        have h2 : (L.set k (l.getD i default)).length = L.length := List.length_set ..
        rw [hLn, hins, h2]
        exact ⟨by rw [cat_length len_en, h2], ho.room, ho.le, ho.nil⟩
      · have h2 : (L.set k (l.getD i default)).length = L.length := List.length_set ..
        rw [hLn, hins, h2]
        exact c_frs
    · have hins : lastIns L (l.getD i default) = L.take k ++ (l.getD i default :: L.drop k) := by
        unfold lastIns
        rw [hki, if_neg]
        rintro ⟨h1, h2⟩
        rw [h2, show decide ((k : Int) < (L.length : Int)) = true by simp; omega] at h_
        simp at h_
      have ho1 : ∀ j, j < L.length → ∀ u ∈ (L.getD j default).l, u.oneCell' = true := fun j hj => ones_en _
      have honil : q.map ad = none → c = 0 := fun h => ho.nil (Option.map_eq_none_iff.1 h)
      have hole := ho.le
      repeat' first
        | (refine gc_gate ?_; first
          | refine gc_skip ?_)
        | (refine ge_gate ?_; first
          | ((with_reducible refine ge_gT ?_); first | with_reducible refine ge_then ?_ | with_reducible refine ge_then_exit ?_ | with_reducible refine ge_then_ret ?_))
      refine gp_startC (St w [] []) (by intro W_ h_; exact h_.drop (List.nil_sublist _)) [13] #[false, false, false, false, false, false, false, false, false, false, false, false, false, false, false] mixed rfl rfl c_qp ?_; intro hqp_
      refine gp_take 0 #[true, false, false, false, false, false, false, false, false, false, false, false, false, false, false] hqp_ rfl (by kernel_rfl) (yv_pure tab_ok c_gok rfl rfl c_allT) (by intro W_ h_; exact h_.drop (List.nil_sublist _)) rfl rfl ?_
      refine gp_take 1 #[true, true, false, false, false, false, false, false, false, false, false, false, false, false, false] hqp_ rfl (by kernel_rfl) (yv_pure tab_ok c_gok rfl rfl c_allT) (by intro W_ h_; exact h_.drop (List.nil_sublist _)) rfl rfl ?_
      refine gp_take 2 #[true, true, true, false, false, false, false, false, false, false, false, false, false, false, false] hqp_ rfl (by kernel_rfl) ((yv_sliceH (h := k) tab_ok (gok_none rfl) rfl rfl rfl rfl rfl (fun _ => rfl) (fun _ => rfl) (fun _ => by omega))) (by intro W_ h_; exact h_.drop (List.nil_sublist _)) rfl rfl ?_
      refine gp_take 4 #[true, true, true, false, true, false, false, false, false, false, false, false, false, false, false] hqp_ rfl (by kernel_rfl) (yv_pure tab_ok c_gok rfl rfl c_allT) (by intro W_ h_; exact h_.drop (List.nil_sublist _)) rfl rfl ?_
      refine gp_take 5 #[true, true, true, false, true, true, false, false, false, false, false, false, false, false, false] hqp_ rfl (by kernel_rfl) (yv_pure tab_ok c_gok rfl rfl c_allT) (by intro W_ h_; exact h_.drop (List.nil_sublist _)) rfl rfl ?_
      refine gp_take 6 #[true, true, true, false, true, true, true, false, false, false, false, false, false, false, false] hqp_ rfl (by kernel_rfl) (yv_idxA tab_ok hs c_gok rfl rfl rfl rfl rfl rfl c_imp c_imp c_bnd) (by intro W_ h_; exact h_.drop (List.nil_sublist _)) rfl rfl ?_
      refine gp_take 7 #[true, true, true, false, true, true, true, true, false, false, false, false, false, false, false] hqp_ rfl (by kernel_rfl) (yv_ldA tab_ok hs c_nm c_gok rfl rfl c_imp c_bnd (fun _ => c_lds)) (by intro W_ h_; exact h_.drop (List.nil_sublist _)) rfl rfl ?_
      refine gp_take 10 #[true, true, true, false, true, true, true, true, false, false, true, false, false, false, false] hqp_ rfl (by kernel_rfl) (yv_pure tab_ok c_gok rfl rfl c_allT) (by intro W_ h_; exact h_.drop (List.nil_sublist _)) rfl rfl ?_
      refine gp_take 11 #[true, true, true, false, true, true, true, true, false, false, true, true, false, false, false] hqp_ rfl (by kernel_rfl) (yv_pure tab_ok c_gok rfl rfl c_allT) (by intro W_ h_; exact h_.drop (List.nil_sublist _)) rfl rfl ?_
      refine gp_take 12 #[true, true, true, false, true, true, true, true, false, false, true, true, true, false, false] hqp_ rfl (by kernel_rfl) ((yv_sliceL (lo := k) tab_ok (gok_none rfl) rfl rfl rfl rfl rfl (fun _ => rfl) (fun _ => rfl) (fun _ => by omega))) (by intro W_ h_; exact h_.drop (List.nil_sublist _)) rfl rfl ?_
      refine gp_rs [3, 8] (by kernel_rfl) rfl (gr_ev 3 #[true, true, true, true, true, true, true, true, false, false, true, true, true, false, false] rfl rfl rfl rfl rfl (ev_append (p := none) (xs := []) (sp := []) tab_ok rfl rfl rfl rfl rfl rfl rfl rfl Oa.nil Ow.none0 (fun W hW => srcA' tab_ok rfl (takeA' (slA_cat len_en rfl hW c_oa ho) hk) (fun _ => List.not_mem_nil) (fun j hj => ho1 j (by omega)) honil W (St.refl W [])) c_lim c_lim ?_) (gr_ev 8 #[true, true, true, false, true, true, true, true, true, false, true, true, true, false, false] rfl rfl rfl rfl rfl (ev_buildSlice tab_ok rfl rfl rfl rfl rfl rfl rfl rfl rfl rfl ?_) gr_nil))
      intro p3_ c3_ sp3_ hw3_; refine ⟨(by intro W_ h_; exact h_.drop (List.nil_sublist _)), ?_⟩
      (refine gp_ev 8 #[true, true, true, true, true, true, true, true, true, false, true, true, true, false, false] rfl (by kernel_rfl) rfl rfl rfl (ev_buildSlice tab_ok rfl rfl rfl rfl rfl rfl rfl rfl rfl rfl ?_); intro g_ hg_; refine ⟨(by intro W_ h_; exact h_.drop (List.nil_sublist _)), ?_⟩)
      (refine gp_ev 9 #[true, true, true, true, true, true, true, true, true, true, true, true, true, false, false] rfl (by kernel_rfl) rfl rfl rfl (ev_append tab_ok rfl rfl rfl rfl rfl rfl rfl rfl c_oa hw3_ c_src c_lim c_lim ?_); intro p8_ c8_ sp8_ hw8_; refine ⟨(by intro W_ h_; exact h_.drop (List.nil_sublist _)), ?_⟩)
      (refine gp_last 13 #[true, true, true, true, true, true, true, true, true, true, true, true, true, true, false] rfl (by kernel_rfl) (by simp) rfl rfl (ev_append tab_ok rfl rfl rfl rfl rfl rfl rfl rfl c_oa hw8_ (fun W hW => srcRestA' tab_ok rfl (slA_cat len_en rfl hW c_oa ho) hk hole (fun _ => List.not_mem_nil) ho1 honil W (St.refl W [])) c_lim c_lim ?_); intro p_ c_ sp_ hw_)
      refine gp_take 14 #[true, true, true, true, true, true, true, true, true, true, true, true, true, true, true] hqp_ rfl (by kernel_rfl) (yv_pure tab_ok c_gok rfl rfl c_allT) (by intro W_ h_; exact h_.drop (List.nil_sublist _)) rfl rfl ?_
      refine gp_done (by kernel_rfl) ?_; clear hqp_
      rotate_left 1
      intro g_ hg_; refine ⟨(by intro W_ h_; exact h_.drop (List.nil_sublist _)), ?_⟩
      (refine gp_ev 3 #[true, true, true, true, true, true, true, true, true, false, true, true, true, false, false] rfl (by kernel_rfl) rfl rfl rfl (ev_append (p := none) (xs := []) (sp := []) tab_ok rfl rfl rfl rfl rfl rfl rfl rfl Oa.nil Ow.none0 (fun W hW => srcA' tab_ok rfl (takeA' (slA_cat len_en rfl hW c_oa ho) hk) (fun _ => List.not_mem_nil) (fun j hj => ho1 j (by omega)) honil W (St.refl W [])) c_lim c_lim ?_); intro p3_ c3_ sp3_ hw3_; refine ⟨(by intro W_ h_; exact h_.drop (List.nil_sublist _)), ?_⟩)
      (refine gp_ev 9 #[true, true, true, true, true, true, true, true, true, true, true, true, true, false, false] rfl (by kernel_rfl) rfl rfl rfl (ev_append tab_ok rfl rfl rfl rfl rfl rfl rfl rfl c_oa hw3_ c_src c_lim c_lim ?_); intro p8_ c8_ sp8_ hw8_; refine ⟨(by intro W_ h_; exact h_.drop (List.nil_sublist _)), ?_⟩)
      (refine gp_last 13 #[true, true, true, true, true, true, true, true, true, true, true, true, true, true, false] rfl (by kernel_rfl) (by simp) rfl rfl (ev_append tab_ok rfl rfl rfl rfl rfl rfl rfl rfl c_oa hw8_ (fun W hW => srcRestA' tab_ok rfl (slA_cat len_en rfl hW c_oa ho) hk hole (fun _ => List.not_mem_nil) ho1 honil W (St.refl W [])) c_lim c_lim ?_); intro p_ c_ sp_ hw_)
      refine gp_take 14 #[true, true, true, true, true, true, true, true, true, true, true, true, true, true, true] hqp_ rfl (by kernel_rfl) (yv_pure tab_ok c_gok rfl rfl c_allT) (by intro W_ h_; exact h_.drop (List.nil_sublist _)) rfl rfl ?_
      refine gp_done (by kernel_rfl) ?_; clear hqp_
      all_goals
        repeat' first
          | (refine gl_gate ?_; first
            | refine gl_nil ?_
            | (refine gl_add0 ?_; refine gl_yv (yv_add tab_ok (gok_none rfl) rfl rfl rfl rfl (fun _ => allT_of rfl) (by intro _; omega)) rfl rfl ?_)
            | (refine gl_any0 ?_; refine gl_pure tab_ok rfl rfl rfl rfl rfl rfl ?_))
          | (refine gc_gate ?_; first
            | refine gc_region ?_)
          | (refine ge_gate ?_; first
            | ((with_reducible refine ge_gT ?_); first | with_reducible refine ge_then ?_ | with_reducible refine ge_then_exit ?_ | with_reducible refine ge_then_ret ?_)
            | ((with_reducible refine ge_gK ?_); first | with_reducible refine ge_block ?_ | refine ge_block_exit ?_ | refine ge_block_pass rfl ?_ | with_reducible refine ge_block_ret ?_))
      all_goals
        have hlen : (lastIns L (l.getD i default)).length = 0 + k + 1 + (L.length - k) := by
          rw [hins]
          simp
          omega
        have hX : cat En.l (lastIns L (l.getD i default)) = [] ++ (elems k fun j => (L.getD j default).l).flatten ++ (l.getD i default).l ++ (elems (L.length - k) fun j => (L.getD (k + j) default).l).flatten := by
          rw [elemsTake' hk, elemsDrop' hk, hins]
          simp [cat]
        exact ge_round (i + 1, p_, c_, sp_) ⟨by omega, by dsimp only; rw [hLn, hlen, hX]; exact hw_⟩ (by show n - (i + 1) < n - i; omega) (by dsimp only; rw [hLn, hlen]; exact c_frs) (by dsimp only; rw [hLn, hX]; exact List.sublist_append_left _ _)
  · repeat' first
      | (refine gl_gate ?_; first
        | refine gl_nil ?_
        | (refine gl_any0 ?_; refine gl_pure tab_ok rfl rfl rfl rfl rfl rfl ?_))
      | (refine gc_gate ?_; first
        | refine gc_seq ?_
        | refine gc_region ?_
        | refine gc_exit ?_
        | refine gc_ret ?_)
      | (refine ge_gate ?_; first
        | ((with_reducible refine ge_gT ?_); first | with_reducible refine ge_then ?_ | with_reducible refine ge_then_exit ?_ | with_reducible refine ge_then_ret ?_)
        | ((with_reducible refine ge_gK ?_); first | with_reducible refine ge_block ?_ | refine ge_block_exit ?_ | refine ge_block_pass rfl ?_ | with_reducible refine ge_block_ret ?_)
        | ((with_reducible refine ge_gB ?_); first | refine ge_ret1 tab_ok rfl c_rvt ?_ | refine ge_end1 tab_ok rfl c_rvt ?_ | refine ge_ret2 tab_ok rfl c_rvt c_rvt ?_ | refine ge_ret_none rfl ?_ | refine ge_end_none rfl ?_))
    intro W hW
    have h1 : i = l.length := by omega
    rw [h1, List.take_length] at ho hW ⊢
    exact ⟨q, c, sp, rfl, ho, hW⟩
end Go.Proofs.Ytkgjfcjciigcgaa

/-
  The reference's NewDeps, and its cells.
-/
namespace Go.Proofs.Ytkgjfcjciigcgaa
open Go.Proofs.Ytkgjfcjciigcgaa.Sl Go.RowKit
set_option linter.unusedVariables false
set_option linter.unusedSimpArgs false
set_option linter.unusedSectionVars false
set_option maxRecDepth 100000

def rwI (l : List En) (i : Nat) : List Cell := rdE l ((lastR l).getD i default)
structure DR where
  p : Option Addr
  c : Nat
  q : Option Addr
  d : Nat
  rp : Nat → Option Addr
  rc : Nat → Nat
structure DpR (W : World) (l : List En) (g : Nat) (D : DR) : Prop where
  hb : W.heap[g]? = some (.cells [.slice D.p (lastR l).length D.c, .slice D.q (lastR l).length D.d].toArray 212 (0, 0))
  es : SlA W 20 D.p (lastR l).length (fun i => ((lastR l).getD i default).l)
  rs : SlA W 1 D.q (lastR l).length (fun i => [.slice (D.rp i) (rwI l i).length (D.rc i)])
  rows : ∀ i, i < (lastR l).length → SlA W 3 (D.rp i) (rwI l i).length (fun j => ((rwI l i).getD j default).l)
theorem DpR.st {w W : World} {K : Kl} {l : List En} {g : Nat} {D : DR} (h : DpR w l g D) (hW : St w [] K W) : DpR W l g D :=
  ⟨heap_st h.hb hW, h.es.st hW, h.rs.st hW, fun i hi => (h.rows i hi).st hW⟩
theorem dC_getD {l : List En} {i : Nat} (hi : i < (lastR l).length) : (dC l).getD i default = ((lastR l).getD i default).cell := by
  unfold dC
  simp [List.getD, hi]
theorem dC_len2 (l : List En) : (dC l).length = (lastR l).length := by unfold dC; rw [List.length_map]
theorem cat_take {α : Type} [Inhabited α] (f : α → List Value) (l : List α) (i : Nat) (hi : i < l.length) : cat f (l.take (i + 1)) = cat f (l.take i) ++ f (l.getD i default) := by
  rw [take_succD _ _ hi, cat_snoc]
theorem ct_CellsF (L : List En) (g : Nat) (p : Option Addr) (c : Nat) (v : Value) (w : World) (hg : w.heap[g]? = some (.cells [.slice p L.length c, v].toArray 212 (0, 0))) (hs : SlA w 20 p L.length (fun i => (L.getD i default).l)) (hl : L.length ≤ 1000) : Calls Try.prog 112 #[.pointer (some (ad g))] w (RetOw w L.length 3 (cat Cell.l (L.map En.cell)) 25) := by
  refine enter (args := [_]) (M := []) (K := []) Try.func112 rfl Try.ntmps112 rfl (St.refl _ _) ?_
  refine gc_old hg (by simp) (by simp) ?_
  repeat' first
    | (refine gl_gate ?_; first
      | refine gl_nil ?_
      | (refine gl_any0 ?_; refine gl_pure tab_ok rfl rfl rfl rfl rfl rfl ?_))
    | (refine gc_gate ?_; first
      | refine gc_seq ?_
      | refine gc_region ?_
      | refine gc_block ?_)
    | (refine ge_gate ?_; first
      | ((with_reducible refine ge_gT ?_); first | with_reducible refine ge_then ?_ | with_reducible refine ge_then_exit ?_ | with_reducible refine ge_then_ret ?_))
  refine gc_loop (α := Nat × Option Nat × Nat × List Value) (fun x => [(0, true, .pointer (some (ad g))), (3, true, .slice (x.2.1.map ad) x.1 x.2.2.1), (4, true, .int .i64 (x.1 : Int))])
    (fun x => ow x.2.1 true (cat Cell.l ((L.map En.cell).take x.1) ++ x.2.2.2) 25 ++ [(g, false, .cells [.slice p L.length c, v].toArray 212 (0, 0))]) (fun x => x.1 ≤ L.length ∧ Ow x.2.1 x.1 x.2.2.1 3 (cat Cell.l ((L.map En.cell).take x.1)) x.2.2.2) (fun x => L.length - x.1) (0, none, 0, []) c_frs (List.Sublist.refl _) ⟨Nat.zero_le _, Ow.none0⟩ ?_
  rintro ⟨i, q, c1, sp⟩ ⟨hi, ho⟩
  dsimp only at hi ho ⊢
  repeat' first
    | (refine gl_gate ?_; first
      | refine gl_nil ?_
      | (refine gl_load0 ?_; refine gl_yv (yv_load tab_ok (gok_none rfl) rfl rfl (fun _ => rfl) c_mem (fun _ => c_lds)) rfl rfl ?_)
      | (refine gl_any0 ?_; refine gl_pure tab_ok rfl rfl rfl rfl rfl rfl ?_))
    | (refine gc_gate ?_; first
      | refine gc_seq ?_
      | refine gc_region ?_)
    | (refine ge_gate ?_; first
      | ((with_reducible refine ge_gT ?_); first | with_reducible refine ge_then ?_ | with_reducible refine ge_then_exit ?_ | with_reducible refine ge_then_ret ?_))
  (refine gc_cond rfl ?_ ?_ <;> intro h_ <;> have hd_ := h_ <;> (try simp only [bytes_beq, cell_beq, val_beq, stamp_beq, decide_eq_true_eq, decide_eq_false_iff_not, Bool.and_eq_true, Bool.or_eq_true, Bool.or_eq_false_iff, Bool.not_eq_true', Bool.not_eq_false', Bool.not_true, Bool.not_false, Bool.false_or, Bool.true_and, Bool.and_true, Bool.or_false, beq_iff_eq, bne_iff_ne, beq_eq_false_iff_ne, bne_eq_false_iff_eq, ne_eq, Bool.false_eq_true, reduceCtorEq] at hd_) <;> (try (exfalso; omega)))
  · have hil : i < L.length := by omega
    have e1 : (L.map En.cell).getD i default = (L.getD i default).cell := by simp [List.getD, hil]
    have e2 : cat Cell.l ((L.map En.cell).take (i + 1)) = cat Cell.l ((L.map En.cell).take i) ++ (L.getD i default).cell.l := by rw [cat_take _ _ _ (by rw [List.length_map]; exact hil), e1]
    repeat' first
      | (refine gl_gate ?_; first
        | refine gl_nil ?_
        | (refine gl_load0 ?_; refine gl_yv (yv_load tab_ok (gok_none rfl) rfl rfl (fun _ => rfl) c_mem (fun _ => c_lds)) rfl rfl ?_)
        | (refine gl_add0 ?_; refine gl_yv (yv_add tab_ok (gok_none rfl) rfl rfl rfl rfl (fun _ => allT_of rfl) (by intro _; omega)) rfl rfl ?_)
        | (refine gl_idx0 ?_; refine gl_yv (yv_idxA tab_ok hs (gok_none rfl) rfl rfl rfl rfl rfl rfl (fun _ => rfl) (fun _ => rfl) c_bnd) rfl rfl ?_)
        | (refine gl_load0 ?_; refine gl_yv (yv_ldA tab_ok hs c_nm (gok_none rfl) rfl rfl (fun _ => rfl) c_bnd (fun _ => c_lds)) rfl rfl ?_)
        | (refine gl_app0 ?_; (refine gl_ev (ev_append tab_ok rfl rfl rfl rfl rfl rfl rfl rfl c_oa (ho) (c_src) c_lim c_lim ?_) rfl rfl; intro p_ c_ sp_ hw_))
        | (refine gl_bld0 ?_; (refine gl_ev (ev_buildSlice tab_ok rfl rfl rfl rfl rfl rfl rfl rfl rfl rfl ?_) rfl rfl; intro g_ hg_))
        | (refine gl_any0 ?_; refine gl_pure tab_ok rfl rfl rfl rfl rfl rfl ?_))
      | (refine gc_gate ?_; first
        | refine gc_seq ?_
        | refine gc_region ?_
        | refine gc_block ?_
        | refine gc_skip ?_)
      | (refine ge_gate ?_; first
        | ((with_reducible refine ge_gT ?_); first | with_reducible refine ge_then ?_ | with_reducible refine ge_then_exit ?_ | with_reducible refine ge_then_ret ?_)
        | ((with_reducible refine ge_gK ?_); first | with_reducible refine ge_block ?_ | refine ge_block_exit ?_ | refine ge_block_pass rfl ?_ | with_reducible refine ge_block_ret ?_))
    refine ge_round (i + 1, p_, c_, sp_) ⟨by omega, by dsimp only; rw [e2]; exact hw_⟩ (by show L.length - (i + 1) < L.length - i; omega) c_frs (by dsimp only; rw [e2]; exact List.Sublist.append (List.Sublist.refl _) (List.Sublist.cons _ (List.Sublist.refl _)))
  · repeat' first
      | (refine gl_gate ?_; first
        | refine gl_nil ?_
        | (refine gl_any0 ?_; refine gl_pure tab_ok rfl rfl rfl rfl rfl rfl ?_))
      | (refine gc_gate ?_; first
        | refine gc_seq ?_
        | refine gc_region ?_
        | refine gc_exit ?_
        | refine gc_ret ?_)
      | (refine ge_gate ?_; first
        | ((with_reducible refine ge_gT ?_); first | with_reducible refine ge_then ?_ | with_reducible refine ge_then_exit ?_ | with_reducible refine ge_then_ret ?_)
        | ((with_reducible refine ge_gK ?_); first | with_reducible refine ge_block ?_ | refine ge_block_exit ?_ | refine ge_block_pass rfl ?_ | with_reducible refine ge_block_ret ?_)
        | ((with_reducible refine ge_gB ?_); first | refine ge_ret1 tab_ok rfl c_rvt ?_ | refine ge_end1 tab_ok rfl c_rvt ?_ | refine ge_ret2 tab_ok rfl c_rvt c_rvt ?_ | refine ge_ret_none rfl ?_ | refine ge_end_none rfl ?_))
    intro W hW
    have h1 : i = L.length := by omega
    subst h1
    rw [show (L.map En.cell).take L.length = L.map En.cell from List.take_of_length_le (by simp)] at ho hW
    exact ⟨q, c1, sp, rfl, ho, hW.drop (List.sublist_append_left _ _)⟩
def flD (l : List En) (L : List Cell) (k : Nat) : List Cell := (L.take k).filter fun x => decide (x ∈ dC l)
theorem flD_len (l : List En) (L : List Cell) (k : Nat) : (flD l L k).length ≤ L.length := Nat.le_trans (List.length_filter_le ..) (List.length_take_le' ..)
theorem flD_all (l : List En) (L : List Cell) : flD l L L.length = L.filter fun x => decide (x ∈ dC l) := by unfold flD; rw [List.take_length]
theorem flD_yes {l : List En} {L : List Cell} {k : Nat} (hk : k < L.length) (h : L.getD k default ∈ dC l) : flD l L (k + 1) = flD l L k ++ [L.getD k default] := by
  unfold flD
  rw [take_succD _ _ hk, List.filter_append, fil_pos (decide_eq_true h)]
theorem flD_no {l : List En} {L : List Cell} {k : Nat} (hk : k < L.length) (h : L.getD k default ∉ dC l) : flD l L (k + 1) = flD l L k := by
  unfold flD
  rw [take_succD _ _ hk, List.filter_append, fil_neg (by rw [decide_eq_true_eq]; exact h), List.append_nil]
structure RS where
  p : Option Addr
  n : Nat
  c : Nat
instance : Inhabited RS := ⟨⟨none, 0, 0⟩⟩
def RS.l (r : RS) : List Value := [.slice r.p r.n r.c]
theorem len_rs (r : RS) : r.l.length = 1 := rfl
structure NdS where
  i : Nat
  q : Option Nat
  d : Nat
  sp : List Value
  rs : List RS
  Ka : Kl
structure NdOk (l : List En) (s : NdS) : Prop where
  le : s.i ≤ (lastR l).length
  len : s.rs.length = s.i
  ow : Ow s.q s.i s.d 1 (cat RS.l s.rs) s.sp
  n : ∀ j, j < s.i → (s.rs.getD j default).n = (rwI l j).length
  fz : ∀ j, j < s.i → Fz s.Ka fun W => SlA W 3 (s.rs.getD j default).p (rwI l j).length (fun m => ((rwI l j).getD m default).l)
  wr : ∀ e ∈ s.Ka, e.2.1 = true
def NwQ := { x : Nat × Kl // ∀ e ∈ x.2, e.2.1 = true }
set_option maxHeartbeats 4000000 in
theorem ct_NewDeps {S : Nat → Prop} (l : List En) (p : Option Addr) (n cap : Nat) (w : World) (hn : n = l.length) (hs : SlA w 20 p n (fun i => (l.getD i default).l)) (hR : ∀ e ∈ l, NodeR S w e.node e.p) (hc : ∀ e ∈ l, e.node.count ≤ 400) (hl : n ≤ 1000) : Calls Try.prog 110 #[.slice p n cap] w
    (RetM w [] (fun x : NwQ => .pointer (some (ad x.1.1))) (fun x => x.1.2) (fun x => ∃ D : DR, Fz x.1.2 fun W => DpR W l x.1.1 D)) := by
  have hll := lastR_len l
  refine enter (args := [_]) (M := []) (K := []) Try.func110 rfl Try.ntmps110 rfl (St.refl _ _) ?_
  repeat' first
    | (refine gl_gate ?_; first
      | refine gl_nil ?_
      | (refine gl_any0 ?_; (refine gl_ev (ev_callOw rfl rfl ent180 rfl rfl rfl (fun W hW => ct_LastR l p n cap W hn (hs.st hW) hl) ?_) rfl rfl; intro p1 c1 sp1 hw1))
      | (refine gl_box0 ?_; first | (refine gl_box_agg rfl rfl rfl rfl rfl ?_; intro g_ hg_) | (refine gl_box_one rfl rfl rfl rfl rfl rfl ?_; intro g_ hg_) | (refine gl_box rfl rfl rfl rfl rfl ?_; intro g_ hg_))
      | (refine gl_any0 ?_; refine gl_pure tab_ok rfl rfl rfl rfl rfl rfl ?_))
    | (refine gc_gate ?_; first
      | refine gc_seq ?_
      | refine gc_region ?_)
    | (refine ge_gate ?_; first
      | ((with_reducible refine ge_gT ?_); first | with_reducible refine ge_then ?_ | with_reducible refine ge_then_exit ?_ | with_reducible refine ge_then_ret ?_))
  revert g_
  intro gd hgd
  repeat' first
    | (refine gl_gate ?_; first
      | refine gl_nil ?_
      | (refine gl_any0 ?_; (refine gl_ev (ev_callOw rfl rfl ent112 rfl rfl rfl (fun W hW => by have := ct_CellsF (lastR l) gd (p1.map ad) c1 _ W (hW.kn (wr := true) c_mem) (slA_cat len_en rfl hW c_oa hw1) (by omega); rw [← dC_len2, show (lastR l).map En.cell = dC l from rfl] at this; exact this) ?_) rfl rfl; intro pc cc spc hwc))
      | (refine gl_any0 ?_; refine gl_pure tab_ok rfl rfl rfl rfl rfl rfl ?_))
    | (refine gc_gate ?_; first
      | refine gc_seq ?_
      | refine gc_region ?_
      | refine gc_block ?_)
    | (refine ge_gate ?_; first
      | ((with_reducible refine ge_gT ?_); first | with_reducible refine ge_then ?_ | with_reducible refine ge_then_exit ?_ | with_reducible refine ge_then_ret ?_))
  have hnl := dC_len2 l
  refine gc_sq ((gd, true, .cells [.slice (p1.map ad) (lastR l).length c1, .slice none 0 0].toArray 212 (0, 0)) :: (ow pc true (cat Cell.l (dC l) ++ spc) 25 ++ (ow p1 true (cat En.l (lastR l) ++ sp1) 154 ++ []))) c_sq ?_
  refine gc_loop (α := NdS) (fun x => [(3, true, .pointer (some ⟨gd, 0, none⟩)), (4, true, .slice (pc.map ad) (dC l).length cc), (5, true, .int .i64 (x.i : Int))])
    (fun x => (gd, true, .cells [.slice (p1.map ad) (lastR l).length c1, .slice (x.q.map ad) x.i x.d].toArray 212 (0, 0)) :: (ow x.q true (cat RS.l x.rs ++ x.sp) 44 ++ (ow pc true (cat Cell.l (dC l) ++ spc) 25 ++ (ow p1 true (cat En.l (lastR l) ++ sp1) 154 ++ x.Ka)))) (NdOk l) (fun x => (lastR l).length - x.i) ⟨0, none, 0, [], [], []⟩ c_frs (List.Sublist.refl _) ⟨Nat.zero_le _, rfl, Ow.none0, fun j hj => absurd hj (Nat.not_lt_zero _), fun j hj => absurd hj (Nat.not_lt_zero _), fun e he => absurd he List.not_mem_nil⟩ ?_
  rintro ⟨i, q, d, sp, rs, Ka⟩ ⟨hi, hrl, ho, hrn, hfz, hwr⟩
  dsimp only at hi hrl ho hrn hfz hwr ⊢
  repeat' first
    | (refine gl_gate ?_; first
      | refine gl_nil ?_
      | (refine gl_load0 ?_; refine gl_yv (yv_load tab_ok (gok_none rfl) rfl rfl (fun _ => rfl) c_mem (fun _ => c_lds)) rfl rfl ?_)
      | (refine gl_any0 ?_; refine gl_pure tab_ok rfl rfl rfl rfl rfl rfl ?_))
    | (refine gc_gate ?_; first
      | refine gc_seq ?_
      | refine gc_region ?_)
    | (refine ge_gate ?_; first
      | ((with_reducible refine ge_gT ?_); first | with_reducible refine ge_then ?_ | with_reducible refine ge_then_exit ?_ | with_reducible refine ge_then_ret ?_))
  (refine gc_cond rfl ?_ ?_ <;> intro h_ <;> have hd_ := h_ <;> (try simp only [bytes_beq, cell_beq, val_beq, stamp_beq, decide_eq_true_eq, decide_eq_false_iff_not, Bool.and_eq_true, Bool.or_eq_true, Bool.or_eq_false_iff, Bool.not_eq_true', Bool.not_eq_false', Bool.not_true, Bool.not_false, Bool.false_or, Bool.true_and, Bool.and_true, Bool.or_false, beq_iff_eq, bne_iff_ne, beq_eq_false_iff_ne, bne_eq_false_iff_eq, ne_eq, Bool.false_eq_true, reduceCtorEq] at hd_) <;> (try (exfalso; omega)))
  · have hiN : i < (lastR l).length := by omega
    have hel : (lastR l).getD i default ∈ l := lastR_mem l _ (getD_mem _ i hiN)
    have hRe := hR _ hel
    have hce := hc _ hel
    have hrw : rwI l i = rdE l ((lastR l).getD i default) := rfl
    repeat' first
      | (refine gl_idx0 ?_; refine gl_yv (yv_idxO tab_ok hw1 (gok_none rfl) rfl rfl rfl rfl rfl rfl (fun _ => rfl) (fun _ => rfl) c_bnd) rfl rfl ?_)
      | (refine gl_load0 ?_; refine gl_yv (yv_ldO tab_ok c_oa hw1 (gok_none rfl) rfl rfl (fun _ => rfl) (fun _ => lds_partD (o := 3) len_en (by omega) rfl (by decide) (lds_one rfl rfl rfl rfl)) c_bnd) rfl rfl ?_)
      | (refine gl_gate ?_; first
        | refine gl_nil ?_
        | (refine gl_load0 ?_; refine gl_yv (yv_load tab_ok (gok_none rfl) rfl rfl (fun _ => rfl) c_mem (fun _ => c_lds)) rfl rfl ?_)
        | (refine gl_any0 ?_; refine gl_pure tab_ok rfl rfl rfl rfl rfl rfl ?_))
      | (refine gc_gate ?_; first
        | refine gc_seq ?_
        | refine gc_region ?_
        | refine gc_block ?_
        | refine gc_skip ?_)
      | (refine ge_gate ?_; first
        | ((with_reducible refine ge_gT ?_); first | with_reducible refine ge_then ?_ | with_reducible refine ge_then_exit ?_ | with_reducible refine ge_then_ret ?_))
    refine gc_cut (σ := Option Nat × Nat × List Value) (fun x => [(3, true, .pointer (some ⟨gd, 0, none⟩)), (4, true, .slice (pc.map ad) (dC l).length cc), (5, true, .int .i64 (i : Int)), (6, true, .slice (x.1.map ad) (rwI l i).length x.2.1)])
      (fun x => ow x.1 true (cat Cell.l (rwI l i) ++ x.2.2) 25 ++ ((gd, true, .cells [.slice (p1.map ad) (lastR l).length c1, .slice (q.map ad) i d].toArray 212 (0, 0)) :: (ow q true (cat RS.l rs ++ sp) 44 ++ (ow pc true (cat Cell.l (dC l) ++ spc) 25 ++ (ow p1 true (cat En.l (lastR l) ++ sp1) 154 ++ Ka))))) (fun x => Ow x.1 (rwI l i).length x.2.1 3 (cat Cell.l (rwI l i)) x.2.2) ?_ ?_
    · (refine gc_cond rfl ?_ ?_ <;> intro h_ <;> have hd_ := h_ <;> (try simp only [bytes_beq, cell_beq, val_beq, stamp_beq, decide_eq_true_eq, decide_eq_false_iff_not, Bool.and_eq_true, Bool.or_eq_true, Bool.or_eq_false_iff, Bool.not_eq_true', Bool.not_eq_false', Bool.not_true, Bool.not_false, Bool.false_or, Bool.true_and, Bool.and_true, Bool.or_false, beq_iff_eq, bne_iff_ne, beq_eq_false_iff_ne, bne_eq_false_iff_eq, ne_eq, Bool.false_eq_true, reduceCtorEq] at hd_) <;> (try (exfalso; omega)))
      · have hcl := readsR_cells ((lastR l).getD i default).node
        have hrr := readsR_len ((lastR l).getD i default).node
        have hfl : rwI l i = (readsR ((lastR l).getD i default).node).filter fun x => decide (x ∈ dC l) := by
          rw [hrw]
          unfold rdE
          rw [hd_, if_pos rfl, hcl]
        repeat' first
          | (refine gl_idx0 ?_; refine gl_yv (yv_idxO tab_ok hw1 (gok_none rfl) rfl rfl rfl rfl rfl rfl (fun _ => rfl) (fun _ => rfl) c_bnd) rfl rfl ?_)
          | (refine gl_load0 ?_; refine gl_yv (yv_ldO tab_ok c_oa hw1 (gok_none rfl) rfl rfl (fun _ => rfl) (fun _ => lds_partD (o := 4) len_en (by omega) rfl (by decide) (lds_agg rfl rfl rfl)) c_bnd) rfl rfl ?_)
          | (refine gl_gate ?_; first
            | refine gl_nil ?_
            | (refine gl_load0 ?_; refine gl_yv (yv_load tab_ok (gok_none rfl) rfl rfl (fun _ => rfl) c_mem (fun _ => c_lds)) rfl rfl ?_)
            | (refine gl_any0 ?_; (refine gl_ev (ev_callOw rfl rfl ent99 rfl rfl rfl (fun W hW => ct_ReadsR ((lastR l).getD i default).node ((lastR l).getD i default).p ((lastR l).getD i default).c W (hRe.st hW) (by omega)) ?_) rfl rfl; intro pr cr spr hwr))
            | (refine gl_any0 ?_; refine gl_pure tab_ok rfl rfl rfl rfl rfl rfl ?_))
          | (refine gc_gate ?_; first
            | refine gc_seq ?_
            | refine gc_region ?_
            | refine gc_block ?_)
          | (refine ge_gate ?_; first
            | ((with_reducible refine ge_gT ?_); first | with_reducible refine ge_then ?_ | with_reducible refine ge_then_exit ?_ | with_reducible refine ge_then_ret ?_))
        generalize hLr : readsR ((lastR l).getD i default).node = Lr at *
        refine gc_loop (α := Nat × Option Nat × Nat × List Value) (fun x => [(3, true, .pointer (some ⟨gd, 0, none⟩)), (4, true, .slice (pc.map ad) (dC l).length cc), (5, true, .int .i64 (i : Int)), (6, true, .slice (x.2.1.map ad) (flD l Lr x.1).length x.2.2.1), (7, true, .slice (pr.map ad) Lr.length cr), (8, true, .int .i64 (x.1 : Int))])
          (fun x => ow x.2.1 true (cat Cell.l (flD l Lr x.1) ++ x.2.2.2) 25 ++ (ow pr true (cat Cell.l Lr ++ spr) 25 ++ ((gd, true, .cells [.slice (p1.map ad) (lastR l).length c1, .slice (q.map ad) i d].toArray 212 (0, 0)) :: (ow q true (cat RS.l rs ++ sp) 44 ++ (ow pc true (cat Cell.l (dC l) ++ spc) 25 ++ (ow p1 true (cat En.l (lastR l) ++ sp1) 154 ++ Ka)))))) (fun x => x.1 ≤ Lr.length ∧ Ow x.2.1 (flD l Lr x.1).length x.2.2.1 3 (cat Cell.l (flD l Lr x.1)) x.2.2.2) (fun x => Lr.length - x.1) (0, none, 0, []) c_frs (List.Sublist.refl _) ⟨Nat.zero_le _, Ow.none0⟩ ?_
        rintro ⟨k, pm, cm, spm⟩ ⟨hk, hm⟩
        dsimp only at hk hm ⊢
        have hfk := flD_len l Lr k
        repeat' first
          | (refine gl_gate ?_; first
            | refine gl_nil ?_
            | (refine gl_any0 ?_; refine gl_pure tab_ok rfl rfl rfl rfl rfl rfl ?_))
          | (refine gc_gate ?_; first
            | refine gc_seq ?_
            | refine gc_region ?_)
          | (refine ge_gate ?_; first
            | ((with_reducible refine ge_gT ?_); first | with_reducible refine ge_then ?_ | with_reducible refine ge_then_exit ?_ | with_reducible refine ge_then_ret ?_))
        (refine gc_cond rfl ?_ ?_ <;> intro h_ <;> have hd_ := h_ <;> (try simp only [bytes_beq, cell_beq, val_beq, stamp_beq, decide_eq_true_eq, decide_eq_false_iff_not, Bool.and_eq_true, Bool.or_eq_true, Bool.or_eq_false_iff, Bool.not_eq_true', Bool.not_eq_false', Bool.not_true, Bool.not_false, Bool.false_or, Bool.true_and, Bool.and_true, Bool.or_false, beq_iff_eq, bne_iff_ne, beq_eq_false_iff_ne, bne_eq_false_iff_eq, ne_eq, Bool.false_eq_true, reduceCtorEq] at hd_) <;> (try (exfalso; omega)))
        · have hkl : k < Lr.length := by omega
          repeat' first
            | (refine gl_idx0 ?_; refine gl_yv (yv_idxO tab_ok hwr (gok_none rfl) rfl rfl rfl rfl rfl rfl (fun _ => rfl) (fun _ => rfl) c_bnd) rfl rfl ?_)
            | (refine gl_load0 ?_; refine gl_yv (yv_ldO tab_ok c_oa hwr (gok_none rfl) rfl rfl (fun _ => rfl) (fun _ => lds_cat len_cell (by omega) rfl rfl rfl) c_bnd) rfl rfl ?_)
            | (refine gl_gate ?_; first
              | refine gl_nil ?_
              | (refine gl_calv0 ?_; first | refine gl_yd (yd_call (gok_none rfl) rfl ent54 rfl rfl (fun _ => allT_of rfl) (fun _ W hW => ct_Has W (dC l) (Lr.getD k default) _ _ _ rfl (slA_cat len_cell rfl hW c_oa hwc) (by omega))) rfl rfl ?_)
              | (refine gl_any0 ?_; refine gl_pure tab_ok rfl rfl rfl rfl rfl rfl ?_))
            | (refine gc_gate ?_; first
              | refine gc_seq ?_
              | refine gc_region ?_
              | refine gc_block ?_
              | refine gc_skip ?_)
            | (refine ge_gate ?_; first
              | ((with_reducible refine ge_gT ?_); first | with_reducible refine ge_then ?_ | with_reducible refine ge_then_exit ?_ | with_reducible refine ge_then_ret ?_))
          (refine gc_cond rfl ?_ ?_ <;> intro h_ <;> have hd_ := h_ <;> (try simp only [bytes_beq, cell_beq, val_beq, stamp_beq, decide_eq_true_eq, decide_eq_false_iff_not, Bool.and_eq_true, Bool.or_eq_true, Bool.or_eq_false_iff, Bool.not_eq_true', Bool.not_eq_false', Bool.not_true, Bool.not_false, Bool.false_or, Bool.true_and, Bool.and_true, Bool.or_false, beq_iff_eq, bne_iff_ne, beq_eq_false_iff_ne, bne_eq_false_iff_eq, ne_eq, Bool.false_eq_true, reduceCtorEq] at hd_) <;> (try (exfalso; omega)))
          · have e3 := flD_yes hkl hd_
            have e4 : cat Cell.l (flD l Lr (k + 1)) = cat Cell.l (flD l Lr k) ++ (Lr.getD k default).l := by rw [e3, cat_snoc]
            have e5 : (flD l Lr (k + 1)).length = (flD l Lr k).length + 1 := by rw [e3, List.length_append]; rfl
            repeat' first
              | (refine gl_idx0 ?_; refine gl_yv (yv_idxO tab_ok hwr (gok_none rfl) rfl rfl rfl rfl rfl rfl (fun _ => rfl) (fun _ => rfl) c_bnd) rfl rfl ?_)
              | (refine gl_load0 ?_; refine gl_yv (yv_ldO tab_ok c_oa hwr (gok_none rfl) rfl rfl (fun _ => rfl) (fun _ => lds_cat len_cell (by omega) rfl rfl rfl) c_bnd) rfl rfl ?_)
              | (refine gl_gate ?_; first
                | refine gl_nil ?_
                | (refine gl_add0 ?_; refine gl_yv (yv_add tab_ok (gok_none rfl) rfl rfl rfl rfl (fun _ => allT_of rfl) (by intro _; omega)) rfl rfl ?_)
                | (refine gl_app0 ?_; (refine gl_ev (ev_append tab_ok rfl rfl rfl rfl rfl rfl rfl rfl c_oa (hm) (c_src) c_lim c_lim ?_) rfl rfl; intro p_ c_ sp_ hw_))
                | (refine gl_bld0 ?_; (refine gl_ev (ev_buildSlice tab_ok rfl rfl rfl rfl rfl rfl rfl rfl rfl rfl ?_) rfl rfl; intro g_ hg_))
                | (refine gl_any0 ?_; refine gl_pure tab_ok rfl rfl rfl rfl rfl rfl ?_))
              | (refine gc_gate ?_; first
                | refine gc_region ?_)
              | (refine ge_gate ?_; first
                | ((with_reducible refine ge_gT ?_); first | with_reducible refine ge_then ?_ | with_reducible refine ge_then_exit ?_ | with_reducible refine ge_then_ret ?_)
                | ((with_reducible refine ge_gK ?_); first | with_reducible refine ge_block ?_ | refine ge_block_exit ?_ | refine ge_block_pass rfl ?_ | with_reducible refine ge_block_ret ?_))
            exact ge_round (k + 1, p_, c_, sp_) ⟨by omega, by dsimp only; rw [e4, e5]; exact hw_⟩ (by show Lr.length - (k + 1) < Lr.length - k; omega) (by dsimp only; rw [e5]; exact c_frs) (by dsimp only; rw [e4]; exact List.Sublist.append (List.Sublist.refl _) (List.Sublist.cons _ (List.Sublist.refl _)))
          · have e3 := flD_no hkl hd_
            repeat' first
              | (refine gl_gate ?_; first
                | refine gl_nil ?_
                | (refine gl_add0 ?_; refine gl_yv (yv_add tab_ok (gok_none rfl) rfl rfl rfl rfl (fun _ => allT_of rfl) (by intro _; omega)) rfl rfl ?_)
                | (refine gl_any0 ?_; refine gl_pure tab_ok rfl rfl rfl rfl rfl rfl ?_))
              | (refine gc_gate ?_; first
                | refine gc_region ?_
                | refine gc_skip ?_)
              | (refine ge_gate ?_; first
                | ((with_reducible refine ge_gT ?_); first | with_reducible refine ge_then ?_ | with_reducible refine ge_then_exit ?_ | with_reducible refine ge_then_ret ?_)
                | ((with_reducible refine ge_gK ?_); first | with_reducible refine ge_block ?_ | refine ge_block_exit ?_ | refine ge_block_pass rfl ?_ | with_reducible refine ge_block_ret ?_))
            exact ge_round (k + 1, pm, cm, spm) ⟨by omega, by dsimp only; rw [e3]; exact hm⟩ (by show Lr.length - (k + 1) < Lr.length - k; omega) (by dsimp only; rw [e3]; exact c_frs) (by dsimp only; rw [e3]; exact List.Sublist.refl _)
        · repeat' first
            | (refine gc_gate ?_; first
              | refine gc_exit ?_)
            | (refine ge_gate ?_; first
              | ((with_reducible refine ge_gT ?_); first | with_reducible refine ge_then ?_ | with_reducible refine ge_then_exit ?_ | with_reducible refine ge_then_ret ?_)
              | ((with_reducible refine ge_gK ?_); first | with_reducible refine ge_block ?_ | refine ge_block_exit ?_ | refine ge_block_pass rfl ?_ | with_reducible refine ge_block_ret ?_))
          have hkl : k = Lr.length := by omega
          have e3 : flD l Lr k = rwI l i := by rw [hkl, flD_all, hfl]
          rw [e3] at hm ⊢
          exact ge_mid (pm, cm, spm) hm c_frs (List.Sublist.append (List.Sublist.refl _) (List.sublist_append_right _ _))
      · have hfl : rwI l i = [] := by
          rw [hrw]
          unfold rdE
          rw [hd_]
          rfl
        rw [hfl]
        repeat' first
          | (refine gc_gate ?_; first
            | refine gc_skip ?_)
        exact ge_mid (none, 0, []) Ow.none0 c_frs (List.Sublist.refl _)
    rintro ⟨pm, cm, spm⟩ hm
    dsimp only at hm ⊢
    have e4 : cat RS.l (rs ++ [⟨pm.map ad, (rwI l i).length, cm⟩]) = cat RS.l rs ++ [.slice (pm.map ad) (rwI l i).length cm] := cat_snoc ..
    repeat' first
      | (refine gl_gate ?_; first
        | refine gl_nil ?_
        | (refine gl_load0 ?_; refine gl_yv (yv_load tab_ok (gok_none rfl) rfl rfl (fun _ => rfl) c_mem (fun _ => c_lds)) rfl rfl ?_)
        | (refine gl_add0 ?_; refine gl_yv (yv_add tab_ok (gok_none rfl) rfl rfl rfl rfl (fun _ => allT_of rfl) (by intro _; omega)) rfl rfl ?_)
        | (refine gl_app0 ?_; (refine gl_ev (ev_append tab_ok rfl rfl rfl rfl rfl rfl rfl rfl c_oa (ho) (c_src) c_lim c_lim ?_) rfl rfl; intro p_ c_ sp_ hw_))
        | (refine gl_bld0 ?_; (refine gl_ev (ev_buildSlice tab_ok rfl rfl rfl rfl rfl rfl rfl rfl rfl rfl ?_) rfl rfl; intro g_ hg_))
        | (refine gl_sto0 ?_; refine gl_store tab_ok rfl rfl rfl rfl rfl rfl rfl c_one rfl c_ku ?_)
        | (refine gl_any0 ?_; refine gl_pure tab_ok rfl rfl rfl rfl rfl rfl ?_))
      | (refine gc_gate ?_; first
        | refine gc_region ?_)
      | (refine ge_gate ?_; first
        | ((with_reducible refine ge_gT ?_); first | with_reducible refine ge_then ?_ | with_reducible refine ge_then_exit ?_ | with_reducible refine ge_then_ret ?_)
        | ((with_reducible refine ge_gK ?_); first | with_reducible refine ge_block ?_ | refine ge_block_exit ?_ | refine ge_block_pass rfl ?_ | with_reducible refine ge_block_ret ?_))
    refine ge_sq ((gd, true, .cells [.slice (p1.map ad) (lastR l).length c1, .slice (p_.map ad) (i + 1) c_].toArray 212 (0, 0)) :: (ow p_ true (cat RS.l (rs ++ [⟨pm.map ad, (rwI l i).length, cm⟩]) ++ sp_) 44 ++ (ow pc true (cat Cell.l (dC l) ++ spc) 25 ++ (ow p1 true (cat En.l (lastR l) ++ sp1) 154 ++ (ow pm true (cat Cell.l (rwI l i) ++ spm) 25 ++ Ka))))) (by rw [e4]; exact c_sq) ?_
    have hgl : ∀ j, j < i → (rs ++ [(⟨pm.map ad, (rwI l i).length, cm⟩ : RS)]).getD j default = rs.getD j default := fun j hj => by simp [List.getD, List.getElem?_append_left (show j < rs.length by omega)]
    have hgi : (rs ++ [(⟨pm.map ad, (rwI l i).length, cm⟩ : RS)]).getD i default = ⟨pm.map ad, (rwI l i).length, cm⟩ := by simp [List.getD, ← hrl]
    refine ge_round ⟨i + 1, p_, c_, sp_, rs ++ [⟨pm.map ad, (rwI l i).length, cm⟩], ow pm true (cat Cell.l (rwI l i) ++ spm) 25 ++ Ka⟩ ⟨by dsimp only; omega, by dsimp only; rw [List.length_append, hrl]; rfl, by dsimp only; rw [e4]; exact hw_, fun j hj => ?_, fun j hj => ?_, fun e he => ?_⟩ (by show (lastR l).length - (i + 1) < (lastR l).length - i; omega) c_frs (List.Sublist.refl _)
    · dsimp only at hj ⊢
      rcases Nat.lt_or_ge j i with h | h
      · rw [hgl j h]; exact hrn j h
      · obtain rfl : j = i := by omega
        rw [hgi]
    · dsimp only at hj ⊢
      rcases Nat.lt_or_ge j i with h | h
      · rw [hgl j h]; exact (hfz j h).right
      · obtain rfl : j = i := by omega
        rw [hgi]
        exact (fz_cat (e := 25) len_cell rfl hm).left
    · rcases List.mem_append.1 he with h | h
      · exact ow_wr e h
      · exact hwr e h
  · repeat' first
      | (refine gl_gate ?_; first
        | refine gl_nil ?_
        | (refine gl_any0 ?_; refine gl_pure tab_ok rfl rfl rfl rfl rfl rfl ?_))
      | (refine gc_gate ?_; first
        | refine gc_seq ?_
        | refine gc_region ?_
        | refine gc_exit ?_
        | refine gc_ret ?_)
      | (refine ge_gate ?_; first
        | ((with_reducible refine ge_gT ?_); first | with_reducible refine ge_then ?_ | with_reducible refine ge_then_exit ?_ | with_reducible refine ge_then_ret ?_)
        | ((with_reducible refine ge_gK ?_); first | with_reducible refine ge_block ?_ | refine ge_block_exit ?_ | refine ge_block_pass rfl ?_ | with_reducible refine ge_block_ret ?_)
        | ((with_reducible refine ge_gB ?_); first | refine ge_ret1 tab_ok rfl c_rvt ?_ | refine ge_end1 tab_ok rfl c_rvt ?_ | refine ge_ret2 tab_ok rfl c_rvt c_rvt ?_ | refine ge_ret_none rfl ?_ | refine ge_end_none rfl ?_))
    intro W hW
    have hiN : i = (lastR l).length := by omega
    subst hiN
    refine ⟨⟨(gd, (gd, true, .cells [.slice (p1.map ad) (lastR l).length c1, .slice (q.map ad) (lastR l).length d].toArray 212 (0, 0)) :: (ow q true (cat RS.l rs ++ sp) 44 ++ (ow p1 true (cat En.l (lastR l) ++ sp1) 154 ++ Ka))), fun e he => ?_⟩, rfl, ?_, ?_⟩
    · rcases List.mem_cons.1 he with rfl | he
      · rfl
      rcases List.mem_append.1 he with h | h
      · exact ow_wr e h
      rcases List.mem_append.1 h with h | h
      · exact ow_wr e h
      · exact hwr e h
    · refine ⟨⟨p1.map ad, c1, q.map ad, d, fun j => (rs.getD j default).p, fun j => (rs.getD j default).c⟩, fun W hk => ?_⟩
      dsimp only at hk
      have k1 : ∀ e ∈ ow q true (cat RS.l rs ++ sp) 44, W.heap[e.1]? = some e.2.2 := fun e he => hk e (List.mem_cons_of_mem _ (List.mem_append_left _ he))
      have k2 : ∀ e ∈ ow p1 true (cat En.l (lastR l) ++ sp1) 154, W.heap[e.1]? = some e.2.2 := fun e he => hk e (List.mem_cons_of_mem _ (List.mem_append_right _ (List.mem_append_left _ he)))
      have k3 : ∀ e ∈ Ka, W.heap[e.1]? = some e.2.2 := fun e he => hk e (List.mem_cons_of_mem _ (List.mem_append_right _ (List.mem_append_right _ he)))
      refine ⟨hk _ (List.mem_cons_self ..), fz_cat (e := 154) len_en rfl hw1 W k2, ?_, fun j hj => hfz j hj W k3⟩
      refine (fz_cat (e := 44) len_rs hrl.symm ho W k1).congr fun j hj => ?_
      show [Value.slice _ (rs.getD j default).n _] = _
      rw [hrn j hj]
    · exact Sq.st c_sq hW
end Go.Proofs.Ytkgjfcjciigcgaa
