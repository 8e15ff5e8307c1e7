/-
  The reference's Set: what a cell shows, in its place in a list; and the law's whole.
-/
import Derived.Test.YtkgjfcjciigcgaaGoDelta
namespace Go.Proofs.Ytkgjfcjciigcgaa
open Go.Proofs.Ytkgjfcjciigcgaa.Sl Go.RowKit
set_option linter.unusedVariables false
set_option linter.unusedSimpArgs false
set_option linter.unusedSectionVars false
set_option maxRecDepth 100000

def setI (c : Cell) : List Shown → Nat
  | [] => 0
  | x :: r => if ltOf cmpC x.cell c then setI c r + 1 else 0
def setS (l : List Shown) (c : Cell) (v : Val) : List Shown :=
  if setI c l < l.length ∧ (l.getD (setI c l) default).cell = c then l.set (setI c l) ⟨c, v⟩ else l.take (setI c l) ++ (⟨c, v⟩ :: l.drop (setI c l))
theorem setI_le (c : Cell) : ∀ l : List Shown, setI c l ≤ l.length
  | [] => by simp [setI]
  | x :: r => by
    have := setI_le c r
    unfold setI
    split
    · simp; omega
    · simp
theorem setI_eq (c : Cell) : ∀ (l : List Shown) (i : Nat), i ≤ l.length → (∀ j, j < i → ltOf cmpC (l.getD j default).cell c = true) → (i < l.length → ltOf cmpC (l.getD i default).cell c = false) → setI c l = i
  | [], i, hi, _, _ => by simp at hi; subst hi; rfl
  | x :: r, 0, _, _, h2 => by
    have := h2 (by simp)
    unfold setI
    rw [show x.cell = ((x :: r).getD 0 default).cell from rfl, this]
    rfl
  | x :: r, i + 1, hi, h1, h2 => by
    have h3 := h1 0 (by omega)
    have h4 := setI_eq c r i (by simpa using hi) (fun j hj => h1 (j + 1) (by omega)) (fun hlt => h2 (by simpa using hlt))
    unfold setI
    rw [show x.cell = ((x :: r).getD 0 default).cell from rfl, h3, if_pos rfl, h4]
theorem setS_len (l : List Shown) (c : Cell) (v : Val) : (setS l c v).length ≤ l.length + 1 := by
  have := setI_le c l
  unfold setS
  split
  · simp
  · simp
    omega
section
variable {P : Program} {T : Tab} {w0 : World} {M : List Nat} {K : Kl} {k n i cap : Nat} {p : Option Addr} {e : Nat → List Value}
theorem addr_add (g o m : Nat) : (⟨g, o, none⟩ : Addr).add m = ⟨g, o + m, none⟩ := by unfold Addr.add; split <;> simp_all
theorem SlA.take (h : SlA w0 k p n e) (hi : i ≤ n) : SlA w0 k p i e :=
  ⟨fun h0 => h.ptr (by omega), fun j hj => h.len j (by omega), fun h0 => by
    obtain ⟨l, t, fr, h1, h2⟩ := h.mem (by omega)
    exact ⟨l, t, fr, h1, fun j hj => h2 j (by omega)⟩⟩
theorem SlA.dropS (h : SlA w0 k p n e) (hi : i < n) : SlA w0 k (p.map (·.add (i * k))) (n - i) (fun j => e (i + j)) := by
  have hp := h.ptr (by omega)
  obtain ⟨l, t, fr, h1, h2⟩ := h.mem (by omega)
  have hadd := addr_add (pb p) (po p) (i * k)
  have hm : p.map (·.add (i * k)) = some ⟨pb p, po p + i * k, none⟩ := by
    generalize hq : pb p = b at *
    generalize ho : po p = o at *
    rw [hp]
    simp only [Option.map_some, hadd]
  have e1 : pb (p.map (·.add (i * k))) = pb p := by rw [hm]; simp [pb]
  have e2 : po (p.map (·.add (i * k))) = po p + i * k := by rw [hm]; simp [po]
  refine ⟨fun _ => by rw [e1, e2]; exact hm, fun j hj => h.len _ (by omega), fun _ => ⟨l, t, fr, by rw [e1]; exact h1, fun j hj m hm => ?_⟩⟩
  rw [e2]
  have := h2 (i + j) (by omega) m hm
  rw [Nat.add_mul] at this
  rw [← this]
  congr 1
  omega
/-- A slice of old memory, appended: nil too. -/
theorem src_old {t' : TypeId} {s bs : Nat} {z : List Value} {tx : TypeId} (hT : TabOk P T) (ht : ty T tx = some ⟨.slice t', s, bs, z⟩) (h : SlA w0 k p n e) (hM : 0 < n → pb p ∉ M) (h1 : ∀ i, i < n → ∀ u ∈ e i, u.oneCell' = true) (hc : p = none → cap = 0) : SrcK P k tx w0 M K (.slice p n cap) n (elems n e).flatten := by
  cases p with
  | some g => exact src_slA hT ht h hM h1
  | none =>
    have hn : n = 0 := by
      rcases Nat.eq_zero_or_pos n with h0 | h0
      · exact h0
      · have := h.ptr h0; cases this
    subst hn
    rw [hc rfl]
    exact src_nil hT ht
end
theorem src_rest {P : Program} {T : Tab} {w0 : World} {M : List Nat} {K : Kl} {k n i cap : Nat} {p : Option Addr} {e : Nat → List Value} {t' : TypeId} {s bs : Nat} {z : List Value} {tx : TypeId} (hT : TabOk P T) (ht : ty T tx = some ⟨.slice t', s, bs, z⟩) (h : SlA w0 k p n e) (hi : i ≤ n) (hcap : n ≤ cap) (hM : M = []) (h1 : ∀ i, i < n → ∀ u ∈ e i, u.oneCell' = true) (hc : p = none → cap = 0) :
    SrcK P k tx w0 M K (.slice (if cap = i then p else p.map (·.add (i * k))) (n - i) (cap - i)) (n - i) (elems (n - i) (fun j => e (i + j))).flatten := by
  subst hM
  by_cases hlt : i < n
  · rw [if_neg (by omega)]
    refine src_old hT ht (SlA.dropS h hlt) (fun _ => List.not_mem_nil) (fun j hj => h1 _ (by omega)) (fun hn => ?_)
    have := h.ptr (by omega)
    rw [this] at hn
    cases hn
  · have e0 : n - i = 0 := by omega
    rw [e0]
    refine src_old hT ht SlA.nil (fun _ => List.not_mem_nil) (fun j hj => absurd hj (by omega)) (fun hn => ?_)
    split at hn
    · have := hc hn
      omega
    · cases p with
      | none => have := hc rfl; omega
      | some g => cases hn
theorem elems_take {l : List Shown} {i : Nat} (hi : i ≤ l.length) : (elems i (fun j => (l.getD j default).l)).flatten = cat Shown.l (l.take i) := by
  unfold elems cat
  rw [List.flatMap_def]
  congr 1
  apply List.ext_getElem?
  intro j
  by_cases hj : j < i
  · have : j < l.length := by omega
    simp [hj, List.getD, this, List.getElem?_take]
  · simp [hj, List.getElem?_take]
theorem elems_drop {l : List Shown} {i : Nat} (hi : i ≤ l.length) : (elems (l.length - i) (fun j => (l.getD (i + j) default).l)).flatten = cat Shown.l (l.drop i) := by
  unfold elems cat
  rw [List.flatMap_def]
  congr 1
  apply List.ext_getElem?
  intro j
  by_cases hj : j < l.length - i
  · have : i + j < l.length := by omega
    simp [hj, List.getD, this]
  · have : ¬ i + j < l.length := by omega
    simp [hj, this]
theorem elems_list {l : List Shown} : (elems l.length (fun i => (l.getD i default).l)).flatten = cat Shown.l l := by
  unfold elems cat
  rw [List.flatMap_def]
  congr 1
  apply List.ext_getElem?
  intro i
  by_cases hi : i < l.length
  · simp [hi, List.getD]
  · simp [hi]
theorem putL_cat (v : Val) (sp : List Value) : ∀ (l : List Shown) (i : Nat), i < l.length → putL (i * 6 + 3) v.l (cat Shown.l l ++ sp) = some (cat Shown.l (l.set i ⟨(l.getD i default).cell, v⟩) ++ sp)
  | x :: r, 0, _ => by
    have e2 : cat Shown.l (x :: r) ++ sp = .string x.cell.sheet :: .int .i64 x.cell.col :: .int .i64 x.cell.row :: .int .i64 x.val.kind :: .int .i64 x.val.n :: .string x.val.s :: (cat Shown.l r ++ sp) := by simp [cat, Shown.l, Cell.l, Val.l]
    rw [e2]
    simp [putL, cat, Shown.l, Cell.l, Val.l]
  | x :: r, i + 1, h => by
    have ih := putL_cat v sp r i (by simpa using h)
    have e1 : (i + 1) * 6 + 3 = (i * 6 + 3) + 6 := by omega
    have e2 : cat Shown.l (x :: r) ++ sp = .string x.cell.sheet :: .int .i64 x.cell.col :: .int .i64 x.cell.row :: .int .i64 x.val.kind :: .int .i64 x.val.n :: .string x.val.s :: (cat Shown.l r ++ sp) := by simp [cat, Shown.l, Cell.l, Val.l]
    rw [e1, e2]
    have e3 : ∀ (o : Nat) (c : List Value) (a b d f g h : Value) (t r' : List Value), putL o c t = some r' → putL (o + 6) c (a :: b :: d :: f :: g :: h :: t) = some (a :: b :: d :: f :: g :: h :: r') := by
      intro o c a b d f g h t r' hr
      simp [putL, hr]
    rw [e3 _ _ _ _ _ _ _ _ _ _ ih]
    simp [cat, Shown.l, Cell.l, Val.l]
theorem ct_Set (l : List Shown) (c : Cell) (v : Val) (p : Option Addr) (n cap : Nat) (w : World) (hn : n = l.length) (hs : SlA w 6 p n (fun i => (l.getD i default).l)) (hl : n ≤ 1000000000) (hcap : n ≤ cap) (hnil : p = none → cap = 0) : Calls Try.prog 119 #[.slice p n cap, .agg c.l.toArray, .agg v.l.toArray] w (RetOw w (setS l c v).length 6 (cat Shown.l (setS l c v)) 120) := by
  refine enter (args := [_, _, _]) (M := []) (K := []) Try.func119 rfl Try.ntmps119 rfl (St.refl _ _) ?_
  repeat' first
    | (refine gl_gate ?_; first
      | refine gl_nil ?_
      | (refine gl_box0 ?_; first | (refine gl_box_agg rfl rfl rfl rfl rfl ?_; intro g_ hg_) | (refine gl_box_one rfl rfl rfl rfl rfl rfl ?_; intro g_ hg_) | (refine gl_box rfl rfl rfl rfl rfl ?_; intro g_ hg_))
      | (refine gl_any0 ?_; refine gl_pure tab_ok rfl rfl rfl rfl rfl rfl ?_))
    | (refine gc_gate ?_; first
      | refine gc_seq ?_
      | refine gc_region ?_
      | refine gc_block ?_)
    | (refine ge_gate ?_; first
      | ((with_reducible refine ge_gT ?_); first | with_reducible refine ge_then ?_ | with_reducible refine ge_then_exit ?_ | with_reducible refine ge_then_ret ?_))
  refine gc_loop (α := Nat) (fun i => [(0, true, .slice p n cap), (4, true, .pointer (some ⟨_, 0, none⟩)), (5, true, .pointer (some ⟨g_, 0, none⟩)), (7, true, .int .i64 (i : Int))])
    (fun _ => [(g_, true, .cells v.l.toArray 23 (0, 0)), (_, true, .cells c.l.toArray 25 (0, 0))]) (fun i => i ≤ n ∧ ∀ j, j < i → ltOf cmpC (l.getD j default).cell c = true) (fun i => n - i) 0 c_frs c_sub ⟨Nat.zero_le _, fun j hj => by omega⟩ ?_
  rintro i ⟨hi, he⟩
  repeat' first
    | (refine gl_gate ?_; first
      | refine gl_nil ?_
      | (refine gl_add0 ?_; refine gl_yv (yv_add tab_ok (gok_none rfl) rfl rfl rfl rfl (fun _ => allT_of rfl) (by intro _; omega)) rfl rfl ?_)
      | (refine gl_any0 ?_; refine gl_pure tab_ok rfl rfl rfl rfl rfl rfl ?_))
    | (refine gc_gate ?_; first
      | refine gc_seq ?_
      | refine gc_region ?_
      | refine gc_quietRo rfl mixed (by decide +kernel) ?_
      | (refine gc_cond rfl ?_ ?_ <;> intro h_ <;> have hd_ := h_ <;> (try simp only [bytes_beq, cell_beq, val_beq, stamp_beq, decide_eq_true_eq, decide_eq_false_iff_not, Bool.and_eq_true, Bool.or_eq_true, Bool.or_eq_false_iff, Bool.not_eq_true', Bool.not_eq_false', Bool.not_true, Bool.not_false, Bool.false_or, Bool.true_and, Bool.and_true, Bool.or_false, beq_iff_eq, bne_iff_ne, beq_eq_false_iff_ne, bne_eq_false_iff_eq, ne_eq, Bool.false_eq_true, reduceCtorEq] at hd_) <;> (try (exfalso; omega)))
      | refine gc_block ?_
      | refine gc_exit ?_
      | refine gc_skip ?_)
    | (refine ge_gate ?_; first
      | ((with_reducible refine ge_gT ?_); first | with_reducible refine ge_then ?_ | with_reducible refine ge_then_exit ?_ | with_reducible refine ge_then_ret ?_)
      | ((with_reducible refine ge_gK ?_); first | with_reducible refine ge_block ?_ | refine ge_block_exit ?_ | refine ge_block_pass rfl ?_ | with_reducible refine ge_block_ret ?_))
    | (refine gq_gate ?_; first
      | refine gq_nil ?_
      | (refine gq_idxG ?_; refine gq_yv (yv_idxA tab_ok hs c_gok rfl rfl rfl rfl rfl rfl c_imp c_imp c_bnd) rfl rfl ?_)
      | (refine gq_loadG ?_; refine gq_yv (yv_ldA tab_ok hs c_nm c_gok rfl rfl c_imp c_bnd (fun _ => c_lds)) rfl rfl ?_)
      | (refine gq_calvG ?_; first | refine gq_yd (yd_call c_gok rfl ent91 rfl rfl c_allT (fun _ W hW => ct_LessR (l.getD i default).cell c W)) rfl rfl ?_)
      | (refine gq_pick0 ?_; first | refine gq_yv (yv_and (gok_none rfl) rfl rfl rfl (fun _ => rfl) c_imp2) rfl rfl ?_ | refine gq_yv (yv_or (gok_none rfl) rfl rfl rfl (fun _ => rfl) c_imp2) rfl rfl ?_)
      | (refine gq_loadG ?_; refine gq_yv (yv_load tab_ok c_gok rfl rfl c_imp c_mem (fun _ => c_lds)) rfl rfl ?_)
      | (refine gq_any0 ?_; refine gq_pure tab_ok rfl rfl rfl rfl rfl rfl ?_)
      | (refine gq_eqS ?_; first | refine gq_yv (yv_eqS tab_ok eqs_ok c_gok rfl rfl rfl rfl c_allT rfl rfl rfl) rfl rfl ?_)
      | (refine gq_anyG ?_; first | refine gq_yv (yv_pure tab_ok c_gok rfl rfl c_allT) rfl rfl ?_ | refine gq_yv (yv_indexS tab_ok c_gok rfl rfl rfl rfl c_imp c_imp (by intro hq_; (try simp only [Bool.and_eq_true, Bool.not_eq_true', Bool.not_eq_false', Bool.or_eq_false_iff, Bool.or_eq_true, decide_eq_true_eq, decide_eq_false_iff_not, Bool.true_and, Bool.and_true] at hq_); omega)) rfl rfl ?_ | refine gq_yv (yv_indexS (i := 0) tab_ok c_gok rfl rfl rfl rfl c_imp c_imp (by intro hq_; (try simp only [Bool.and_eq_true, Bool.not_eq_true', Bool.not_eq_false', Bool.or_eq_false_iff, Bool.or_eq_true, decide_eq_true_eq, decide_eq_false_iff_not, Bool.true_and, Bool.and_true] at hq_); omega)) rfl rfl ?_))
  · refine ge_round (i + 1) ⟨by omega, fun j hj => ?_⟩ (by omega) c_frs (List.Sublist.refl _)
    rcases Nat.lt_or_ge j i with h | h
    · exact he j h
    · obtain rfl : j = i := by omega
      exact hd_.2
  · have hi2 : i < l.length := by omega
    have hset : setI c l = i := setI_eq c l i (by omega) he (fun _ => by rw [hd_.2]; exact (ltC_false c c).2 (cLt_irrefl c))
    have hres : setS l c v = l.set i ⟨(l.getD i default).cell, v⟩ := by unfold setS; rw [hset, if_pos ⟨hi2, hd_.2⟩, hd_.2]
    refine gl_ev (ev_append (p := none) (xs := []) (sp := []) tab_ok rfl rfl rfl rfl rfl rfl rfl rfl Oa.nil Ow.none0 (src_old tab_ok rfl hs (fun _ => List.not_mem_nil) (fun j hj u hu => ones_shown _ u hu) hnil) c_lim c_lim (fun p_ c_ sp_ hw_ => ?_)) rfl rfl
    rw [List.nil_append, hn, elems_list] at hw_ ⊢
    rw [Nat.zero_add] at hw_ ⊢
    rcases p_ with _ | g2
    · have h1 := hw_.nil rfl
      have h2 := hw_.le
      omega
    simp only [Option.map_some, ow]
    repeat' first
      | refine gl_yv (yv_idxO tab_ok hw_ (gok_none rfl) rfl rfl rfl rfl rfl rfl (fun _ => rfl) (fun _ => rfl) c_bnd) rfl rfl ?_
      | (refine gl_gate ?_; first
        | refine gl_nil ?_
        | (refine gl_load0 ?_; refine gl_yv (yv_load tab_ok (gok_none rfl) rfl rfl (fun _ => rfl) c_mem (fun _ => c_lds)) rfl rfl ?_)
        | (refine gl_any0 ?_; refine gl_pure tab_ok rfl rfl rfl rfl rfl rfl ?_))
      | (refine gc_gate ?_; first
        | refine gc_seq ?_
        | refine gc_region ?_)
      | (refine ge_gate ?_; first
        | ((with_reducible refine ge_gT ?_); first | with_reducible refine ge_then ?_ | with_reducible refine ge_then_exit ?_ | with_reducible refine ge_then_ret ?_))
    refine gl_ev0 (ev_store (g := g2) (off := i * 6 + 3) (e := 120) (cs := cat Shown.l l ++ sp_) tab_ok rfl rfl rfl rfl rfl rfl c_one (putL_cat v sp_ l i hi2) c_ku ?_) rfl
    repeat' first
      | (refine gl_gate ?_; first
        | refine gl_nil ?_
        | (refine gl_any0 ?_; refine gl_pure tab_ok rfl rfl rfl rfl rfl rfl ?_))
      | (refine gc_gate ?_; first
        | refine gc_seq ?_
        | refine gc_region ?_
        | refine gc_ret ?_)
      | (refine ge_gate ?_; first
        | ((with_reducible refine ge_gT ?_); first | with_reducible refine ge_then ?_ | with_reducible refine ge_then_exit ?_ | with_reducible refine ge_then_ret ?_)
        | ((with_reducible refine ge_gB ?_); first | refine ge_ret1 tab_ok rfl c_rvt ?_ | refine ge_end1 tab_ok rfl c_rvt ?_ | refine ge_ret2 tab_ok rfl c_rvt c_rvt ?_ | refine ge_ret_none rfl ?_ | refine ge_end_none rfl ?_))
    intro W hW
    rw [hres]
    refine ⟨some g2, c_, sp_, by rw [List.length_set]; rfl, ⟨?_, ?_, by rw [List.length_set]; exact hw_.le, fun h => by cases h⟩, hW.drop (List.Sublist.cons_cons _ (List.nil_sublist _))⟩
    · rw [cat_length len_shown, List.length_set]
    · rw [List.length_set]; exact hw_.room
  · have hi3 : i < l.length → ltOf cmpC (l.getD i default).cell c = false := fun h => by
      rename_i h1 h2 _ _
      have h3 : (decide ((i : Int) < (n : Int)) && ltOf cmpC (l.getD i default).cell c) = false := by assumption
      have h4 : decide ((i : Int) < (n : Int)) = true := by simp; omega
      rw [h4] at h3
      simpa using h3
    have hset : setI c l = i := setI_eq c l i (by omega) he hi3
    have hne : ¬ (i < l.length ∧ (l.getD i default).cell = c) := fun ⟨h1, h2⟩ => by
      rw [h2] at hd_
      have h4 : decide ((i : Int) < (n : Int)) = true := by simp; omega
      rw [h4] at hd_
      simp at hd_
    have hres : setS l c v = l.take i ++ (⟨c, v⟩ :: l.drop i) := by unfold setS; rw [hset, if_neg hne]
    rename_i ga_ hga_ _ _
    have ho1 : ∀ j, j < n → ∀ u ∈ (l.getD j default).l, u.oneCell' = true := fun j hj u hu => ones_shown _ u hu
    refine gp_startC (St w [] [(g_, true, .cells v.l.toArray 23 (0, 0)), (ga_, true, .cells c.l.toArray 25 (0, 0))]) c_cl2 [12] #[false, false, false, false, false, false, false, false, false, false, false, false, false, false] mixed rfl rfl c_qp ?_; intro hqp_
    refine gp_take 0 #[true, false, false, false, false, false, false, false, false, false, false, false, false, false] hqp_ rfl (by kernel_rfl) (yv_pure tab_ok c_gok rfl rfl c_allT) c_cl2 rfl rfl ?_
    refine gp_take 1 #[true, true, false, false, false, false, false, false, false, false, false, false, false, false] hqp_ rfl (by kernel_rfl) (yv_pure tab_ok c_gok rfl rfl c_allT) c_cl2 rfl rfl ?_
    refine gp_take 2 #[true, true, true, false, false, false, false, false, false, false, false, false, false, false] hqp_ rfl (by kernel_rfl) ((yv_sliceH (h := i) tab_ok (gok_none rfl) rfl rfl rfl rfl rfl (fun _ => rfl) (fun _ => rfl) (fun _ => by omega))) c_cl2 rfl rfl ?_
    refine gp_take 4 #[true, true, true, false, true, false, false, false, false, false, false, false, false, false] hqp_ rfl (by kernel_rfl) (yv_load tab_ok c_gok rfl rfl c_imp c_mem (fun _ => c_lds)) c_cl2 rfl rfl ?_
    refine gp_take 5 #[true, true, true, false, true, true, false, false, false, false, false, false, false, false] hqp_ rfl (by kernel_rfl) (yv_load tab_ok c_gok rfl rfl c_imp c_mem (fun _ => c_lds)) c_cl2 rfl rfl ?_
    refine gp_take 6 #[true, true, true, false, true, true, true, false, false, false, false, false, false, false] hqp_ rfl (by kernel_rfl) (yv_pure tab_ok c_gok rfl rfl c_allT) c_cl2 rfl rfl ?_
    refine gp_take 9 #[true, true, true, false, true, true, true, false, false, true, false, false, false, false] hqp_ rfl (by kernel_rfl) (yv_pure tab_ok c_gok rfl rfl c_allT) c_cl2 rfl rfl ?_
    refine gp_take 10 #[true, true, true, false, true, true, true, false, false, true, true, false, false, false] hqp_ rfl (by kernel_rfl) (yv_pure tab_ok c_gok rfl rfl c_allT) c_cl2 rfl rfl ?_
    refine gp_take 11 #[true, true, true, false, true, true, true, false, false, true, true, true, false, false] hqp_ rfl (by kernel_rfl) ((yv_sliceL (lo := i) tab_ok (gok_none rfl) rfl rfl rfl rfl rfl (fun _ => rfl) (fun _ => rfl) (fun _ => by omega))) c_cl2 rfl rfl ?_
    refine gp_rs [3, 7] (by kernel_rfl) rfl (gr_ev 3 #[true, true, true, true, true, true, true, false, false, true, true, true, false, false] rfl rfl rfl rfl rfl (ev_append (p := none) (xs := []) (sp := []) tab_ok rfl rfl rfl rfl rfl rfl rfl rfl Oa.nil Ow.none0 (src_old tab_ok rfl (SlA.take hs hi) (fun _ => List.not_mem_nil) (fun j hj => ho1 j (by omega)) hnil) c_lim c_lim ?_) (gr_ev 7 #[true, true, true, false, true, true, true, true, false, true, true, true, false, false] rfl rfl rfl rfl rfl (ev_buildSlice tab_ok rfl rfl rfl rfl rfl rfl rfl rfl rfl rfl ?_) gr_nil))
    intro p3_ c3_ sp3_ hw3_; refine ⟨c_cl2, ?_⟩
    (refine gp_ev 7 #[true, true, true, true, true, true, true, true, false, true, true, true, false, false] rfl (by kernel_rfl) rfl rfl rfl (ev_buildSlice tab_ok rfl rfl rfl rfl rfl rfl rfl rfl rfl rfl ?_); intro g_ hg_; refine ⟨c_cl2, ?_⟩)
    (refine gp_ev 8 #[true, true, true, true, true, true, true, true, true, true, true, true, false, false] rfl (by kernel_rfl) rfl rfl rfl (ev_append tab_ok rfl rfl rfl rfl rfl rfl rfl rfl c_oa hw3_ c_src c_lim c_lim ?_); intro p8_ c8_ sp8_ hw8_; refine ⟨c_cl2, ?_⟩)
    (refine gp_last 12 #[true, true, true, true, true, true, true, true, true, true, true, true, true, false] rfl (by kernel_rfl) (by simp) rfl rfl (ev_append tab_ok rfl rfl rfl rfl rfl rfl rfl rfl c_oa hw8_ (src_rest tab_ok rfl hs hi hcap rfl ho1 hnil) c_lim c_lim ?_); intro p_ c_ sp_ hw_)
    refine gp_take 13 #[true, true, true, true, true, true, true, true, true, true, true, true, true, true] hqp_ rfl (by kernel_rfl) (yv_pure tab_ok c_gok rfl rfl c_allT) c_cl2 rfl rfl ?_
    refine gp_done (by kernel_rfl) ?_; clear hqp_
    rotate_left 1
    intro g_ hg_; refine ⟨c_cl2, ?_⟩
    (refine gp_ev 3 #[true, true, true, true, true, true, true, true, false, true, true, true, false, false] rfl (by kernel_rfl) rfl rfl rfl (ev_append (p := none) (xs := []) (sp := []) tab_ok rfl rfl rfl rfl rfl rfl rfl rfl Oa.nil Ow.none0 (src_old tab_ok rfl (SlA.take hs hi) (fun _ => List.not_mem_nil) (fun j hj => ho1 j (by omega)) hnil) c_lim c_lim ?_); intro p3_ c3_ sp3_ hw3_; refine ⟨c_cl2, ?_⟩)
    (refine gp_ev 8 #[true, true, true, true, true, true, true, true, true, true, true, true, false, false] rfl (by kernel_rfl) rfl rfl rfl (ev_append tab_ok rfl rfl rfl rfl rfl rfl rfl rfl c_oa hw3_ c_src c_lim c_lim ?_); intro p8_ c8_ sp8_ hw8_; refine ⟨c_cl2, ?_⟩)
    (refine gp_last 12 #[true, true, true, true, true, true, true, true, true, true, true, true, true, false] rfl (by kernel_rfl) (by simp) rfl rfl (ev_append tab_ok rfl rfl rfl rfl rfl rfl rfl rfl c_oa hw8_ (src_rest tab_ok rfl hs hi hcap rfl ho1 hnil) c_lim c_lim ?_); intro p_ c_ sp_ hw_)
    refine gp_take 13 #[true, true, true, true, true, true, true, true, true, true, true, true, true, true] hqp_ rfl (by kernel_rfl) (yv_pure tab_ok c_gok rfl rfl c_allT) c_cl2 rfl rfl ?_
    refine gp_done (by kernel_rfl) ?_; clear hqp_
    all_goals
      repeat' first
        | (refine gc_gate ?_; first
          | refine gc_ret ?_)
        | (refine ge_gate ?_; first
          | ((with_reducible refine ge_gT ?_); first | with_reducible refine ge_then ?_ | with_reducible refine ge_then_exit ?_ | with_reducible refine ge_then_ret ?_)
          | ((with_reducible refine ge_gB ?_); first | refine ge_ret1 tab_ok rfl c_rvt ?_ | refine ge_end1 tab_ok rfl c_rvt ?_ | refine ge_ret2 tab_ok rfl c_rvt c_rvt ?_ | refine ge_ret_none rfl ?_ | refine ge_end_none rfl ?_))
    all_goals
      refine fun W hW => ?_
      have hxs : cat Shown.l (setS l c v) = [] ++ (elems i fun i => (l.getD i default).l).flatten ++ (Value.string c.sheet :: Value.int IntKind.i64 c.col :: Value.int IntKind.i64 c.row :: Value.int IntKind.i64 v.kind :: Value.int IntKind.i64 v.n :: Value.string v.s :: []) ++ (elems (n - i) fun j => (l.getD (i + j) default).l).flatten := by
        rw [hn, elems_take (by omega), elems_drop (by omega), hres]
        simp [cat, Shown.l, Cell.l, Val.l]
      have hln : (setS l c v).length = 0 + i + 1 + (n - i) := by
        rw [hres]
        simp
        omega
      rw [hxs, hln]
      exact ⟨p_, c_, sp_, rfl, hw_, hW.drop (List.sublist_append_left _ _)⟩
end Go.Proofs.Ytkgjfcjciigcgaa
