/-
  TallyAny: in whichever order changes are told, one by one, or summed, the front is the same.
-/
import Derived.Test.YtkgjfcjciigcgaaGoApply
import Derived.Test.YtkgjfcjciigcgaaGoTallyTells
namespace Go.Proofs.Ytkgjfcjciigcgaa
open Go.Proofs.Ytkgjfcjciigcgaa.Sl Go.RowKit
set_option linter.unusedVariables false
set_option linter.unusedSimpArgs false
set_option linter.unusedSectionVars false
set_option maxRecDepth 100000

def bandN (a : Int) : Nat := (BitVec.ofInt IntKind.i64.bits a &&& BitVec.ofInt IntKind.i64.bits 1023).toNat
theorem bandN_le (a : Int) : bandN a ≤ 1023 := by
  unfold bandN
  rw [BitVec.toNat_and]
  refine Nat.le_trans Nat.and_le_right ?_
  decide
theorem band_val (a : Int) : IntKind.i64.wrap ((BitVec.ofInt IntKind.i64.bits a &&& BitVec.ofInt IntKind.i64.bits 1023).toNat : Int) = (bandN a : Int) := by
  have h := bandN_le a
  unfold bandN at h ⊢
  exact wrap64 (by omega) (by omega)
theorem tmod_nat (a b : Nat) : Int.tmod (a : Int) (b : Int) = ((a % b : Nat) : Int) := rfl
def hadL (n : Nat) (D : List Nat) : List Value := (List.range n).map fun k => .bool (decide (k ∈ D))
theorem hadL_nil (n : Nat) : List.replicate n (Value.bool false) = hadL n [] := by
  unfold hadL
  apply List.ext_getElem?
  intro i
  by_cases h : i < n <;> simp [h]
theorem hadL_len (n : Nat) (D : List Nat) : (hadL n D).length = n := by simp [hadL]
theorem hadL_get {n k : Nat} (D : List Nat) (hk : k < n) : nth (hadL n D) k = some (.bool (decide (k ∈ D))) := by
  rw [nth_eq]
  simp [hadL, hk]
theorem hadL_put {n k : Nat} (D : List Nat) (hk : k < n) : putL k [.bool true] (hadL n D) = some (hadL n (D ++ [k])) := by
  rw [putL_some _ _ _ (by rw [hadL_len]; show k + 1 ≤ n; omega)]
  congr 1
  apply List.ext_getElem?
  intro i
  have hl := hadL_len n D
  rw [List.append_assoc]
  by_cases h1 : i < k
  · rw [List.getElem?_append_left (by simp; omega), List.getElem?_take_of_lt h1]
    have : i < n := by omega
    simp [hadL, this, show i ≠ k by omega]
  · rw [List.getElem?_append_right (by simp; omega)]
    have e1 : (List.take k (hadL n D)).length = k := by simp; omega
    rw [e1]
    by_cases h2 : i = k
    · subst h2
      simp [hadL, hk]
    · obtain ⟨j, hj⟩ : ∃ j, i - k = j + 1 := ⟨i - k - 1, by omega⟩
      rw [hj]
      simp only [List.cons_append, List.nil_append, List.getElem?_cons_succ, List.length_cons, List.length_nil, List.getElem?_drop]
      rw [show k + (0 + 1) + j = i by omega]
      by_cases h3 : i < n
      · simp [hadL, h3, h2]
      · simp [hadL, h3]
theorem free_at {n : Nat} {D : List Nat} (hn : D.Nodup) (hl : D.length < n) : ∃ f, f < n ∧ f ∉ D := by
  refine Classical.byContradiction fun h => ?_
  have h2 : ∀ x ∈ List.range n, x ∈ D := fun x hx => Classical.byContradiction fun h3 => h ⟨x, List.mem_range.1 hx, h3⟩
  have := List.nodup_range.length_le_of_subset h2
  simp at this
  omega
theorem perm_range {n : Nat} {D : List Nat} (hn : D.Nodup) (hl : D.length = n) (hb : ∀ k ∈ D, k < n) : D.Perm (List.range n) := by
  have hs : ∀ x ∈ D, x ∈ List.range n := fun x hx => List.mem_range.2 (hb x hx)
  refine (List.perm_ext_iff_of_nodup hn List.nodup_range).2 fun x => ⟨hs x, fun hx => ?_⟩
  refine Classical.byContradiction fun h3 => ?_
  have h4 : (x :: D).Nodup := List.nodup_cons.2 ⟨h3, hn⟩
  have := h4.length_le_of_subset (l₂ := List.range n) (fun y hy => by
    rcases List.mem_cons.1 hy with rfl | hy
    · exact hx
    · exact hs y hy)
  simp at this
  omega
def doneC (vs : List Vc) (D : List Nat) : List Chg := D.flatMap fun k => (vs.getD k default).xs
theorem doneC_snoc (vs : List Vc) (D : List Nat) (k : Nat) : doneC vs (D ++ [k]) = doneC vs D ++ (vs.getD k default).xs := by simp [doneC]
theorem doneC_all {vs : List Vc} {D : List Nat} (h : D.Perm (List.range vs.length)) : (doneC vs D).Perm (allC vs) := by
  have h1 : (doneC vs D).Perm (doneC vs (List.range vs.length)) := h.flatMap_right _
  have h2 : doneC vs (List.range vs.length) = allC vs := by
    unfold doneC allC
    conv => rhs; rw [← range_getD vs]
    rw [List.flatMap_map]
  rw [h2] at h1
  exact h1
theorem doneC_mem {vs : List Vc} {D : List Nat} (hb : ∀ k ∈ D, k < vs.length) : ∀ x ∈ doneC vs D, x ∈ allC vs := fun x hx => by
  obtain ⟨k, hk, hx⟩ := List.mem_flatMap.1 hx
  exact List.mem_flatMap.2 ⟨_, getD_mem vs k (hb k hk), hx⟩
theorem doneC_len {vs : List Vc} {D : List Nat} (hn : D.Nodup) (hb : ∀ k ∈ D, k < vs.length) : (doneC vs D).length ≤ D.length * (allC vs).length := by
  have key : ∀ D : List Nat, (∀ k ∈ D, k < vs.length) → (doneC vs D).length ≤ D.length * (allC vs).length := by
    intro D
    induction D with
    | nil => intro _; simp [doneC]
    | cons k r ih =>
      intro hb
      have h1 := ih (fun j hj => hb j (List.mem_cons_of_mem _ hj))
      have hk := hb k (List.mem_cons_self ..)
      have h2 : (vs.getD k default).xs.length ≤ (allC vs).length := by
        have := allC_take vs k hk
        have h3 : (allC (vs.take (k + 1))).length ≤ (allC vs).length := by
          conv => rhs; rw [← List.take_append_drop (k + 1) vs]
          unfold allC
          rw [List.flatMap_append, List.length_append]
          omega
        rw [this, List.length_append] at h3
        omega
      show ((vs.getD k default).xs ++ doneC vs r).length ≤ _
      rw [List.length_append, List.length_cons, Nat.add_mul, Nat.one_mul]
      omega
  exact key D hb
theorem tot_sum (vs : List Vc) (s : Stamp) : tot (sumC vs) s = tot (allC vs) s := by
  have h := acc_cnt (allC vs)
  have h1 := h.eq s
  have h2 : mgetD (accM (allC vs)) s 0 = tot (allC vs) s := by
    have := appM_get s (allC vs) []
    have h3 : mgetD ([] : FM) s 0 = 0 := rfl
    rw [h3, Int.zero_add] at this
    exact this
  have key : ∀ (l : List Chg), SrtC l → tot l s = cnt l s := by
    intro l
    induction l with
    | nil => intro _; rfl
    | cons x r ih =>
      intro hs
      have hs' : (∀ d ∈ r.map Chg.s, tLt x.s d) ∧ SrtC r := List.pairwise_cons.1 hs
      rw [tot_cons, cnt, ih hs'.2]
      split
      · rename_i h
        have h3 : cnt r s = 0 := cnt_none fun hm => by
          have := hs'.1 s hm
          rw [h] at this
          exact tLt_irrefl _ this
        rw [h3]
        omega
      · omega
  rw [← h2, h1]
  exact key _ h.srt
theorem small_big {l : List Chg} (h : ∀ x ∈ l, small x) : ∀ x ∈ l, -1099511627776000 ≤ x.n ∧ x.n ≤ 1099511627776000 := fun x hx => by
  have := h x hx
  unfold small at this
  omega
theorem app_small {l : List Chg} (h : ∀ x ∈ l, small x) (hl : l.length ≤ 100000) (s : Stamp) : -1000000000000000000 ≤ mgetD (appM [] l) s 0 ∧ mgetD (appM [] l) s 0 ≤ 1000000000000000000 := by
  have h1 := appM_get s l []
  have h2 := tot_bound (B := 1099511627776) s l h (by decide)
  have h3 : mgetD ([] : FM) s 0 = 0 := rfl
  have h4 : (l.length : Int) * 1099511627776 ≤ 100000 * 1099511627776 := Int.mul_le_mul_of_nonneg_right (by omega) (by decide)
  omega
theorem rest_len {vs : List Vc} {i : Nat} (hil : i < vs.length) : (vs.getD i default).xs.length ≤ (allC vs).length := by
  have := allC_take vs i hil
  have h3 : (allC (vs.take (i + 1))).length ≤ (allC vs).length := by
    conv => rhs; rw [← List.take_append_drop (i + 1) vs]
    unfold allC
    rw [List.flatMap_append, List.length_append]
    omega
  rw [this, List.length_append] at h3
  omega
theorem take_mem {vs : List Vc} {i : Nat} : ∀ x ∈ allC (vs.take i), x ∈ allC vs := fun x hx => by
  obtain ⟨v, h1, h2⟩ := List.mem_flatMap.1 hx
  exact List.mem_flatMap.2 ⟨v, List.mem_of_mem_take h1, h2⟩
theorem take_len {vs : List Vc} {i : Nat} : (allC (vs.take i)).length ≤ (allC vs).length := by
  conv => rhs; rw [← List.take_append_drop i vs]
  unfold allC
  rw [List.flatMap_append, List.length_append]
  omega
section
variable {P : Program} {T : Tab} {F : Fl} {l : List Oper} {o : Oper} {q : Bool} {C : World → Prop} {N : Nat}
theorem yv_ix0 (hT : TabOk P T) {t : TypeId} {x ix : Operand} {px pi : Bool} {k : IntKind} {b n c i : Nat} {e : TypeId} {d : TyD} {s bs : Nat} {z : List Value} (hg : Gok l F o q) (ho : o.op = .indexAddr t x ix) (hx : Fo F x = some (px, .slice (some (ad b)) n c)) (hi : Fo F ix = some (pi, .int k (i : Int)))
    (ht : ty T t = some ⟨.slice e, s, bs, z⟩) (he : ty T e = some d) (hs : d.size = 1) (hp : q = true → px = true) (hp' : q = true → pi = true) (hb : q = true → i < n) : Yv P C l N F o q (.pointer (some ⟨b, i, none⟩)) :=
  (yv_indexAddr hT hg ho hx hi ht he hp hp' (fun h => ⟨by omega, by have := hb h; omega⟩)).cast (by rw [hs]; simp)
end
theorem pre6 {α : Type} (a d : α) (G A B C R : List α) : [a] ++ (G ++ (A ++ (B ++ (C ++ ([d] ++ R))))) = (a :: (G ++ (A ++ (B ++ (C ++ [d]))))) ++ R := by simp
theorem wrs_fst {K : Kl} {g : Nat} (h : g ∈ wrs K) : g ∈ K.map (·.1) := by
  obtain ⟨o, ho⟩ := wrs_mem h
  exact List.mem_map.2 ⟨_, ho, rfl⟩
section
attribute [local irreducible] Calls
set_option maxHeartbeats 8000000 in
theorem walk_TallyAny (vs : List Vc) (os : List Int) (s : Stamp) (p po : Option Addr) (n cap m capo : Nat) (hn : n = vs.length) (hn9 : n ≤ 140737488351232) (hm : m = os.length) (w : World) (hs : SlA w 1 p n (fun i => (vs.getD i default).l)) (hv : ∀ v ∈ vs, v.Ok w) (hb : ∀ v ∈ vs, v.xs.length ≤ 140737488351232) (hso : SlA w 1 po m (fun i => [.int .i64 (os.getD i default)])) :
    Calls Try.prog 23 #[.slice p n cap, .slice po m capo, .agg s.l.toArray] w fun e w' => e = .returned (.bool true) ∧ Bl w w' := by
  refine enter (args := [_, _, _]) (M := []) (K := []) Try.func23 rfl Try.ntmps23 rfl (St.refl _ _) ?_
  repeat' first
    | (refine gl_gate ?_; first
      | refine gl_nil ?_
      | (refine gl_calv0 ?_; first | refine gl_yd (yd_call (gok_none rfl) rfl ent69 rfl rfl (fun _ => allT_of rfl) (fun _ W hW => ct_aliveT W)) rfl rfl ?_ | refine gl_yd (yd_call (gok_none rfl) rfl ent70 rfl rfl (fun _ => allT_of rfl) (fun _ W hW => ct_FewC hn (hs.st hW) (fun v h => (hv v h).st hW) hb hn9)) rfl rfl ?_)
      | (refine gl_calvG ?_; first | refine gl_yd (yd_call c_gok rfl ent69 rfl rfl c_allT (fun _ W hW => ct_aliveT W)) rfl rfl ?_ | refine gl_yd (yd_call c_gok rfl ent70 rfl rfl c_allT (fun _ W hW => ct_FewC hn (hs.st hW) (fun v h => (hv v h).st hW) hb hn9)) rfl rfl ?_)
      | (refine gl_pick0 ?_; first | refine gl_yv (yv_and (gok_none rfl) rfl rfl rfl (fun _ => rfl) c_imp2) rfl rfl ?_ | refine gl_yv (yv_or (gok_none rfl) rfl rfl rfl (fun _ => rfl) c_imp2) rfl rfl ?_)
      | (refine gl_box0 ?_; first | (refine gl_box_agg rfl rfl rfl rfl rfl ?_; intro g_ hg_) | (refine gl_box_one rfl rfl rfl rfl rfl rfl ?_; intro g_ hg_) | (refine gl_box rfl rfl rfl rfl rfl ?_; intro g_ hg_))
      | (refine gl_any0 ?_; refine gl_pure tab_ok rfl rfl rfl rfl rfl rfl ?_)
      | (refine gl_anyG ?_; first | refine gl_yv (yv_pure tab_ok c_gok rfl rfl c_allT) rfl rfl ?_ | refine gl_yv (yv_indexS tab_ok c_gok rfl rfl rfl rfl c_imp c_imp (by intro hq_; (try simp only [Bool.and_eq_true, Bool.not_eq_true', Bool.not_eq_false', Bool.or_eq_false_iff, Bool.or_eq_true, decide_eq_true_eq, decide_eq_false_iff_not, Bool.true_and, Bool.and_true] at hq_); omega)) rfl rfl ?_ | refine gl_yv (yv_indexS (i := 0) tab_ok c_gok rfl rfl rfl rfl c_imp c_imp (by intro hq_; (try simp only [Bool.and_eq_true, Bool.not_eq_true', Bool.not_eq_false', Bool.or_eq_false_iff, Bool.or_eq_true, decide_eq_true_eq, decide_eq_false_iff_not, Bool.true_and, Bool.and_true] at hq_); omega)) rfl rfl ?_))
    | (refine gc_gate ?_; first
      | refine gc_seq ?_
      | refine gc_region ?_)
    | (refine ge_gate ?_; first
      | ((with_reducible refine ge_gT ?_); first | with_reducible refine ge_then ?_ | with_reducible refine ge_then_exit ?_ | with_reducible refine ge_then_ret ?_))
  (refine gc_cond rfl ?_ ?_ <;> intro h_ <;> have hd_ := h_ <;> (try simp only [bytes_beq, cell_beq, val_beq, stamp_beq, decide_eq_true_eq, decide_eq_false_iff_not, Bool.and_eq_true, Bool.or_eq_true, Bool.or_eq_false_iff, Bool.not_eq_true', Bool.not_eq_false', Bool.not_true, Bool.not_false, Bool.false_or, Bool.true_and, Bool.and_true, Bool.or_false, beq_iff_eq, bne_iff_ne, beq_eq_false_iff_ne, bne_eq_false_iff_eq, ne_eq, Bool.false_eq_true, reduceCtorEq] at hd_) <;> (try (exfalso; omega)))
  · repeat' first
      | (refine gl_gate ?_; first
        | refine gl_nil ?_
        | (refine gl_any0 ?_; refine gl_pure tab_ok rfl rfl rfl rfl rfl rfl ?_))
      | (refine gc_gate ?_; first
        | refine gc_seq ?_
        | refine gc_region ?_
        | refine gc_ret ?_)
      | (refine ge_gate ?_; first
        | ((with_reducible refine ge_gT ?_); first | with_reducible refine ge_then ?_ | with_reducible refine ge_then_exit ?_ | with_reducible refine ge_then_ret ?_)
        | ((with_reducible refine ge_gB ?_); first | refine ge_ret1 tab_ok rfl c_rvt ?_ | refine ge_end1 tab_ok rfl c_rvt ?_ | refine ge_ret2 tab_ok rfl c_rvt c_rvt ?_ | refine ge_ret_none rfl ?_ | refine ge_end_none rfl ?_))
    intro W hW
    exact ⟨rfl, hW.below0⟩
  have hmn : n ≤ m := by
    have := hd_.2
    omega
  obtain ⟨f1, f2⟩ := fewC_spec (vs := vs) (by simpa using hd_.1)
  clear h_ hd_
  revert g_
  intro g5 hg5
  repeat' first
    | (refine gl_any0 ?_; refine gl_ev (ev_makeSlice (n := n) tab_ok rfl rfl rfl rfl rfl (by omega) (by omega) ?_) rfl rfl; intro gh hgh)
    | (refine gl_gate ?_; first
      | refine gl_nil ?_
      | (refine gl_box0 ?_; first | (refine gl_box_agg rfl rfl rfl rfl rfl ?_; intro g_ hg_) | (refine gl_box_one rfl rfl rfl rfl rfl rfl ?_; intro g_ hg_) | (refine gl_box rfl rfl rfl rfl rfl ?_; intro g_ hg_))
      | (refine gl_any0 ?_; refine gl_pure tab_ok rfl rfl rfl rfl rfl rfl ?_))
    | (refine gc_gate ?_; first
      | refine gc_seq ?_
      | refine gc_region ?_
      | refine gc_block ?_
      | refine gc_skip ?_)
    | (refine ge_gate ?_; first
      | ((with_reducible refine ge_gT ?_); first | with_reducible refine ge_then ?_ | with_reducible refine ge_then_exit ?_ | with_reducible refine ge_then_ret ?_))
  rename_i ga hga gb hgb
  generalize g_ = gc at *
  rw [hadL_nil]
  refine gc_loopW (α := Nat × FPO × FPO × (Option Nat × Nat × List Value × List Vc) × List Nat) (fun x => [(0, true, .slice p n cap), (1, true, .slice po m capo), (5, true, .pointer (some ⟨g5, 0, none⟩)), (8, true, .pointer (some ⟨ga, 0, none⟩)), (9, true, .pointer (some ⟨gb, 0, none⟩)), (10, true, .pointer (some ⟨gc, 0, none⟩)), (11, true, .slice (x.2.2.2.1.1.map ad) x.2.2.2.1.2.2.2.length x.2.2.2.1.2.1), (12, true, .slice (some (ad gh)) n n), (13, true, .int .i64 (x.1 : Int))])
    (fun x => (gh, true, .cells (hadL n x.2.2.2.2).toArray 4 (0, 0)) :: (FrPK gc none #[] 0 ++ (FrPK gb x.2.2.1.1 x.2.2.1.2.1 x.2.2.1.2.2 ++ (FrPK ga x.2.1.1 x.2.1.2.1 x.2.1.2.2 ++ (ow x.2.2.2.1.1 true (cat Vc.l x.2.2.2.1.2.2.2 ++ x.2.2.2.1.2.2.1) 75 ++ [(g5, true, .cells s.l.toArray 38 (0, 0))])))))
    (fun x W => x.1 ≤ n ∧ FOk x.2.1.1 (appM [] (allC (vs.take x.1))) x.2.1.2.1 x.2.1.2.2 ∧ FOk x.2.2.1.1 (appM [] (doneC vs x.2.2.2.2)) x.2.2.1.2.1 x.2.2.1.2.2 ∧ (x.2.2.2.2.Nodup ∧ x.2.2.2.2.length = x.1 ∧ ∀ k ∈ x.2.2.2.2, k < vs.length) ∧
      x.2.2.2.1.2.2.2.map Vc.xs = (vs.take x.1).map Vc.xs ∧ Ow x.2.2.2.1.1 x.2.2.2.1.2.2.2.length x.2.2.2.1.2.1 1 (cat Vc.l x.2.2.2.1.2.2.2) x.2.2.2.1.2.2.1 ∧ ∀ v ∈ x.2.2.2.1.2.2.2, v.Ok W ∧ (0 < v.xs.length → pb v.p ∉ wrs ((gh, true, .cells (hadL n x.2.2.2.2).toArray 4 (0, 0)) :: (FrPK gc none #[] 0 ++ (FrPK gb x.2.2.1.1 x.2.2.1.2.1 x.2.2.1.2.2 ++ (FrPK ga x.2.1.1 x.2.1.2.1 x.2.1.2.2 ++ (ow x.2.2.2.1.1 true (cat Vc.l x.2.2.2.1.2.2.2 ++ x.2.2.2.1.2.2.1) 75 ++ [(g5, true, .cells s.l.toArray 38 (0, 0))])))))))
    (fun x => n - x.1) (0, (none, #[], 0), (none, #[], 0), (none, 0, [], []), []) c_frs (List.Sublist.refl _) (fun W hW => ⟨Nat.zero_le _, rfl, rfl, ⟨List.nodup_nil, rfl, fun k hk => absurd hk List.not_mem_nil⟩, rfl, Ow.none0, fun v (h : v ∈ []) => absurd h List.not_mem_nil⟩) ?_
  rintro ⟨i, ⟨ma, ea, ca⟩, ⟨mb, eb, cb⟩, ⟨q, c, sp, ins⟩, D⟩ W1 h1 ⟨hi, hfa, hfb, ⟨d1, d2, d3⟩, hr, ho, hrs⟩
  dsimp only at hi hfa hfb d1 d2 d3 hr ho hrs h1 ⊢
  have hil' : ins.length = i := by
    have := congrArg List.length hr
    simp only [List.length_map, List.length_take] at this
    omega
  generalize hMI : wrs ((gh, true, .cells (hadL n D).toArray 4 (0, 0)) :: (FrPK gc none #[] 0 ++ (FrPK gb mb eb cb ++ (FrPK ga ma ea ca ++ (ow q true (cat Vc.l ins ++ sp) 75 ++ [(g5, true, .cells s.l.toArray 38 (0, 0))]))))) = MI at hrs ⊢
  have hsW := hs.st h1
  have hsoW := hso.st h1
  have hnm : 0 < n → pb p ∉ MI := fun h => by rw [← hMI]; exact nm_wr' h1 (hs.lt h) (by simp)
  have hnmo : 0 < m → pb po ∉ MI := fun h => by rw [← hMI]; exact nm_wr' h1 (hso.lt h) (by simp)
  repeat' first
    | (refine gl_gate ?_; first
      | refine gl_nil ?_
      | (refine gl_any0 ?_; refine gl_pure tab_ok rfl rfl rfl rfl rfl rfl ?_))
    | (refine gc_gate ?_; first
      | refine gc_seq ?_
      | refine gc_region ?_)
    | (refine ge_gate ?_; first
      | ((with_reducible refine ge_gT ?_); first | with_reducible refine ge_then ?_ | with_reducible refine ge_then_exit ?_ | with_reducible refine ge_then_ret ?_))
  (refine gc_cond rfl ?_ ?_ <;> intro h_ <;> have hd_ := h_ <;> (try simp only [bytes_beq, cell_beq, val_beq, stamp_beq, decide_eq_true_eq, decide_eq_false_iff_not, Bool.and_eq_true, Bool.or_eq_true, Bool.or_eq_false_iff, Bool.not_eq_true', Bool.not_eq_false', Bool.not_true, Bool.not_false, Bool.false_or, Bool.true_and, Bool.and_true, Bool.or_false, beq_iff_eq, bne_iff_ne, beq_eq_false_iff_ne, bne_eq_false_iff_eq, ne_eq, Bool.false_eq_true, reduceCtorEq] at hd_) <;> (try (exfalso; omega)))
  · have hil : i < vs.length := by omega
    have hvi := hv _ (getD_mem vs i hil)
    have hxl := rest_len hil
    have hal := allC_take vs i hil
    have hsmi : ∀ x ∈ (vs.getD i default).xs, small x := fun x hx => f2 x (List.mem_flatMap.2 ⟨_, getD_mem vs i hil, hx⟩)
    have hapa : appM [] (allC (vs.take (i + 1))) = appM (appM [] (allC (vs.take i))) (vs.getD i default).xs := by rw [hal, appM_append]
    repeat' first
      | (refine gl_any0 ?_; refine gl_yv ((yv_pure tab_ok (gok_none rfl) rfl rfl (fun _ => allT_of rfl)).cast (v' := .int .i64 (bandN (os.getD i default) : Int)) (congrArg (Value.int .i64) (band_val _))) rfl rfl ?_)
      | (refine gl_any0 ?_; refine gl_yv ((yv_rem tab_ok (gok_none rfl) rfl rfl rfl (fun _ => rfl) (fun _ => rfl) (fun _ => by omega)).cast (v' := .int .i64 ((bandN (os.getD i default) % n : Nat) : Int)) rfl) rfl rfl ?_)
      | (refine gl_gate ?_; first
        | refine gl_nil ?_
        | (refine gl_idx0 ?_; refine gl_yv (yv_idxA tab_ok hsW (gok_none rfl) rfl rfl rfl rfl rfl rfl (fun _ => rfl) (fun _ => rfl) c_bnd) rfl rfl ?_)
        | (refine gl_load0 ?_; refine gl_yv (yv_ldA0 tab_ok hsW c_nm (gok_none rfl) rfl rfl (fun _ => rfl) c_bnd (fun _ => c_lds)) rfl rfl ?_)
        | (refine gl_idx0 ?_; refine gl_yv (yv_idxA tab_ok hsoW (gok_none rfl) rfl rfl rfl rfl rfl rfl (fun _ => rfl) (fun _ => rfl) c_bnd) rfl rfl ?_)
        | (refine gl_load0 ?_; refine gl_yv (yv_ldA0 tab_ok hsoW c_nm (gok_none rfl) rfl rfl (fun _ => rfl) c_bnd (fun _ => c_lds)) rfl rfl ?_)
        | (refine gl_any0 ?_; (refine gl_ev (ev_callOw rfl rfl ent71 rfl rfl rfl (fun W hW => ct_to (vs.getD i default).xs _ _ _ W rfl (hvi.sl.st (h1.trans (hMI ▸ hW))) (by omega)) ?_) rfl rfl; intro p1_ c1_ sp1_ hw1_))
        | (refine gl_any0 ?_; (refine gl_ev (ev_applyF (g := ga) (mo := ma) (m := appM [] (allC (vs.take i))) (es := ea) (clock := ca) (l := (vs.getD i default).xs) rfl rfl rfl rfl rfl c_pk hfa rfl (fun W hW => ⟨slA_cat len_chg rfl hW c_oa hw1_, fun h => ow_notin hW (Pk.perm c_pk) c_oa (ow_pos hw1_ h)⟩) (by omega) (small_big hsmi) (app_small (fun x hx => f2 x (take_mem x hx)) (Nat.le_trans take_len (by omega))) ?_) rfl rfl; intro ma2 ea2 ca2 hfa2))
        | (refine gl_app0 ?_; (refine gl_ev (ev_append tab_ok rfl rfl rfl rfl rfl rfl rfl rfl c_oa (ho) (c_src) c_lim c_lim ?_) rfl rfl; intro p_ c_ sp_ hw_))
        | (refine gl_bld0 ?_; (refine gl_ev (ev_buildSlice tab_ok rfl rfl rfl rfl rfl rfl rfl rfl rfl rfl ?_) rfl rfl; intro g_ hg_))
        | (refine gl_any0 ?_; refine gl_pure tab_ok rfl rfl rfl rfl rfl rfl ?_))
      | (refine gc_gate ?_; first
        | refine gc_seq ?_
        | refine gc_region ?_
        | refine gc_block ?_
        | refine gc_skip ?_)
      | (refine ge_gate ?_; first
        | ((with_reducible refine ge_gT ?_); first | with_reducible refine ge_then ?_ | with_reducible refine ge_then_exit ?_ | with_reducible refine ge_then_ret ?_))
    have e1 : cat Vc.l (ins ++ [⟨p1_.map ad, c1_, (vs.getD i default).xs⟩]) = cat Vc.l ins ++ [.slice (p1_.map ad) (vs.getD i default).xs.length c1_] := by simp [cat, Vc.l]
    obtain ⟨f, ff1, ff2⟩ := free_at (n := n) d1 (by omega)
    refine gc_loop (α := Nat) (fun k => [(0, true, .slice p n cap), (1, true, .slice po m capo), (5, true, .pointer (some ⟨g5, 0, none⟩)), (8, true, .pointer (some ⟨ga, 0, none⟩)), (9, true, .pointer (some ⟨gb, 0, none⟩)), (10, true, .pointer (some ⟨gc, 0, none⟩)), (11, true, .slice (p_.map ad) (ins.length + 1) c_), (12, true, .slice (some (ad gh)) n n), (13, true, .int .i64 (i : Int)), (14, true, .int .i64 (k : Int))]) (fun _ => _) (fun k => k < n) (fun k => if k ≤ f then f - k else f + n - k) (bandN (os.getD i default) % n) c_frs (List.Sublist.refl _) (Nat.mod_lt _ (by omega)) ?_
    clear h_ hd_
    intro k hk
    repeat' first
      | (refine gl_idx0 ?_; refine gl_yv (yv_ix0 tab_ok (gok_none rfl) rfl rfl rfl rfl rfl rfl (fun _ => rfl) (fun _ => rfl) (fun _ => hk)) rfl rfl ?_)
      | (refine gl_load0 ?_; refine gl_yv (yv_load tab_ok (gok_none rfl) rfl rfl (fun _ => rfl) c_mem (fun _ => lds_one rfl rfl rfl (hadL_get D hk))) rfl rfl ?_)
      | (refine gl_gate ?_; first
        | refine gl_nil ?_
        | (refine gl_any0 ?_; refine gl_pure tab_ok rfl rfl rfl rfl rfl rfl ?_))
      | (refine gc_gate ?_; first
        | refine gc_seq ?_
        | refine gc_region ?_)
      | (refine ge_gate ?_; first
        | ((with_reducible refine ge_gT ?_); first | with_reducible refine ge_then ?_ | with_reducible refine ge_then_exit ?_ | with_reducible refine ge_then_ret ?_))
    (refine gc_cond rfl ?_ ?_ <;> intro h_ <;> have hd_ := h_ <;> (try simp only [bytes_beq, cell_beq, val_beq, stamp_beq, decide_eq_true_eq, decide_eq_false_iff_not, Bool.and_eq_true, Bool.or_eq_true, Bool.or_eq_false_iff, Bool.not_eq_true', Bool.not_eq_false', Bool.not_true, Bool.not_false, Bool.false_or, Bool.true_and, Bool.and_true, Bool.or_false, beq_iff_eq, bne_iff_ne, beq_eq_false_iff_ne, bne_eq_false_iff_eq, ne_eq, Bool.false_eq_true, reduceCtorEq] at hd_) <;> (try (exfalso; omega)))
    · have hkf : k ≠ f := fun e => ff2 (e ▸ hd_)
      have hmod : (k + 1) % n = if k + 1 = n then 0 else k + 1 := by
        split
        · rename_i h; rw [h, Nat.mod_self]
        · exact Nat.mod_eq_of_lt (by omega)
      repeat' first
        | (refine gl_any0 ?_; refine gl_yv ((yv_rem tab_ok (gok_none rfl) rfl rfl rfl (fun _ => rfl) (fun _ => rfl) (fun _ => by omega)).cast (v' := .int .i64 (((k + 1) % n : Nat) : Int)) rfl) rfl rfl ?_)
        | (refine gl_gate ?_; first
          | refine gl_nil ?_
          | (refine gl_add0 ?_; refine gl_yv (yv_add tab_ok (gok_none rfl) rfl rfl rfl rfl (fun _ => allT_of rfl) (by intro _; omega)) rfl rfl ?_)
          | (refine gl_any0 ?_; refine gl_pure tab_ok rfl rfl rfl rfl rfl rfl ?_))
        | (refine gc_gate ?_; first
          | refine gc_region ?_
          | refine gc_block ?_
          | refine gc_skip ?_)
        | (refine ge_gate ?_; first
          | ((with_reducible refine ge_gT ?_); first | with_reducible refine ge_then ?_ | with_reducible refine ge_then_exit ?_ | with_reducible refine ge_then_ret ?_)
          | ((with_reducible refine ge_gK ?_); first | with_reducible refine ge_block ?_ | refine ge_block_exit ?_ | refine ge_block_pass rfl ?_ | with_reducible refine ge_block_ret ?_))
      refine ge_round ((k + 1) % n) (Nat.mod_lt _ (by omega)) ?_ c_frs (List.Sublist.refl _)
      rw [hmod]
      split <;> split <;> split <;> omega
    have hkl : k < vs.length := by omega
    have hvk := hv _ (getD_mem vs k hkl)
    have hxk := rest_len hkl
    have hsmk : ∀ x ∈ (vs.getD k default).xs, small x := fun x hx => f2 x (List.mem_flatMap.2 ⟨_, getD_mem vs k hkl, hx⟩)
    have hapb : appM [] (doneC vs (D ++ [k])) = appM (appM [] (doneC vs D)) (vs.getD k default).xs := by rw [doneC_snoc, appM_append]
    have hdl := doneC_len d1 d3
    have hdl2 : (doneC vs D).length ≤ 100000 := by
      have : D.length * (allC vs).length ≤ 100 * 100 := Nat.mul_le_mul (by omega) (by omega)
      omega
    repeat' first
      | (refine gl_idx0 ?_; refine gl_yv (yv_ix0 tab_ok (gok_none rfl) rfl rfl rfl rfl rfl rfl (fun _ => rfl) (fun _ => rfl) (fun _ => hk)) rfl rfl ?_)
      | (refine gl_ev0 (ev_store (g := gh) (off := k) (e := 4) (cs := hadL n D) tab_ok rfl rfl rfl rfl rfl rfl c_one (hadL_put D hk) c_ku ?_) rfl)
      | (refine gl_gate ?_; first
        | refine gl_nil ?_
        | (refine gl_add0 ?_; refine gl_yv (yv_add tab_ok (gok_none rfl) rfl rfl rfl rfl (fun _ => allT_of rfl) (by intro _; omega)) rfl rfl ?_)
        | (refine gl_idx0 ?_; refine gl_yv (yv_idxA tab_ok hsW (gok_none rfl) rfl rfl rfl rfl rfl rfl (fun _ => rfl) (fun _ => rfl) c_bnd) rfl rfl ?_)
        | (refine gl_load0 ?_; refine gl_yv (yv_ldA0 tab_ok hsW c_nm (gok_none rfl) rfl rfl (fun _ => rfl) c_bnd (fun _ => c_lds)) rfl rfl ?_)
        | (refine gl_any0 ?_; (refine gl_ev (ev_callOw rfl rfl ent71 rfl rfl rfl (fun W hW => ct_to (vs.getD k default).xs _ _ _ W rfl (hvk.sl.st (h1.trans (hMI ▸ hW))) (by omega)) ?_) rfl rfl; intro p3_ c3_ sp3_ hw3_))
        | (refine gl_any0 ?_; (refine gl_ev (ev_applyF (g := gb) (mo := mb) (m := appM [] (doneC vs D)) (es := eb) (clock := cb) (l := (vs.getD k default).xs) rfl rfl rfl rfl rfl c_pk hfb rfl (fun W hW => ⟨slA_cat len_chg rfl hW c_oa hw3_, fun h => ow_notin hW (Pk.perm c_pk) c_oa (ow_pos hw3_ h)⟩) (by omega) (small_big hsmk) (app_small (fun x hx => f2 x (doneC_mem d3 x hx)) hdl2) ?_) rfl rfl; intro mb2 eb2 cb2 hfb2))
        | (refine gl_any0 ?_; refine gl_pure tab_ok rfl rfl rfl rfl rfl rfl ?_))
      | (refine gc_gate ?_; first
        | refine gc_seq ?_
        | refine gc_region ?_
        | refine gc_exit ?_)
      | (refine ge_gate ?_; first
        | ((with_reducible refine ge_gT ?_); first | with_reducible refine ge_then ?_ | with_reducible refine ge_then_exit ?_ | with_reducible refine ge_then_ret ?_)
        | ((with_reducible refine ge_gK ?_); first | with_reducible refine ge_block ?_ | refine ge_block_exit ?_ | refine ge_block_pass rfl ?_ | with_reducible refine ge_block_ret ?_))
    subst hMI
    refine ge_pick [(g5, true, .cells s.l.toArray 38 (0, 0))] c_pk ?_
    refine ge_pick (ow p_ true ((cat Vc.l ins ++ [.slice (p1_.map ad) (vs.getD i default).xs.length c1_]) ++ sp_) 75) c_pk ?_
    refine ge_pick (FrPK ga ma2 ea2 ca2) c_pk ?_
    refine ge_pick (FrPK gb mb2 eb2 cb2) c_pk ?_
    refine ge_pick (FrPK gc none #[] 0) c_pk ?_
    refine ge_pick [(gh, true, .cells (hadL n (D ++ [k])).toArray 4 (0, 0))] c_pk ?_
    refine ge_roundW (i + 1, (ma2, ea2, ca2), (mb2, eb2, cb2), (p_, c_, sp_, ins ++ [⟨p1_.map ad, c1_, (vs.getD i default).xs⟩]), D ++ [k]) h1 (by show n - (i + 1) < n - i; omega) ?_ ?_ ?_
    · dsimp only
      rw [List.length_append]
      exact c_frs
    · dsimp only
      rw [e1]
      exact List.Sublist.cons_cons _ (List.Sublist.append_left (List.Sublist.append_left (List.Sublist.append_left (List.Sublist.append_left (List.sublist_append_left _ _) _) _) _) _)
    · intro W2 hW
      have hW' := hW.perm (List.Perm.of_eq (pre6 (gh, true, .cells (hadL n (D ++ [k])).toArray 4 (0, 0)) (g5, true, .cells s.l.toArray 38 (0, 0)) (FrPK gc none #[] 0) (FrPK gb mb2 eb2 cb2) (FrPK ga ma2 ea2 ca2) (ow p_ true ((cat Vc.l ins ++ [.slice (p1_.map ad) (vs.getD i default).xs.length c1_]) ++ sp_) 75) _))
      refine ⟨by dsimp only; omega, by rw [hapa]; exact hfa2, by rw [hapb]; exact hfb2, ⟨?_, by simp [d2], fun j hj => ?_⟩, ?_, ?_, fun v hv' => ?_⟩
      · rw [List.nodup_append]
        refine ⟨d1, by simp, fun a ha b hb => ?_⟩
        obtain rfl := List.mem_singleton.1 hb
        intro e
        exact hd_ (e ▸ ha)
      · rcases List.mem_append.1 hj with hj | hj
        · exact d3 j hj
        · obtain rfl := List.mem_singleton.1 hj
          exact hkl
      · dsimp only
        rw [List.map_append, hr, take_succD _ _ hil, List.map_append]
        rfl
      · dsimp only
        rw [e1, List.length_append]
        exact hw_
      · dsimp only at hv' ⊢
        rw [e1]
        rcases List.mem_append.1 hv' with hv' | hv'
        · obtain ⟨a1, a2⟩ := hrs v hv'
          exact ⟨⟨stm' a1.sl a2 hW, a1.nil⟩, fun h => nm_wr' (hW'.drop (List.sublist_append_left _ _)) (a1.sl.lt h) (a2 h)⟩
        · obtain rfl := List.mem_singleton.1 hv'
          exact ⟨⟨slA_cat len_chg rfl hW c_oa hw1_, fun h => hw1_.nil (Option.map_eq_none_iff.1 h)⟩, fun h hm => ow_notin hW' (List.Perm.refl _) c_oa (ow_pos hw1_ h) (wrs_fst hm)⟩
  · have hin : i = vs.length := by omega
    subst hMI
    rw [hin, List.take_length] at hr hfa
    have hall : allC ins = allC vs := by
      have e : ∀ l : List Vc, allC l = (l.map Vc.xs).flatMap id := fun l => by simp [allC, List.flatMap_map]
      rw [e, e, hr]
    have hsum : sumC ins = sumC vs := by unfold sumC; rw [hall]
    have hsl : (sumC vs).length ≤ 100 := by
      have := (accR_spec _ f2).1
      unfold sumC
      omega
    have hsb : ∀ x ∈ sumC vs, -1099511627776000 ≤ x.n ∧ x.n ≤ 1099511627776000 := fun x hx => by
      have := (accR_spec _ f2).2 x hx
      omega
    have hperm := doneC_all (perm_range d1 (by omega) (fun k hk => d3 k hk))
    have g1 : ∀ s, mgetD (appM [] (allC vs)) s 0 = tot (allC vs) s := fun s => by rw [appM_get]; show 0 + _ = _; omega
    have g2 : ∀ s, mgetD (appM [] (doneC vs D)) s 0 = tot (allC vs) s := fun s => by rw [appM_get, tot_perm hperm]; show 0 + _ = _; omega
    have g3 : ∀ s, mgetD (appM [] (sumC vs)) s 0 = tot (allC vs) s := fun s => by rw [appM_get, tot_sum]; show 0 + _ = _; omega
    have u1 := appM_keys (allC vs) [] List.nodup_nil
    have u2 := appM_keys (doneC vs D) [] List.nodup_nil
    have u3 := appM_keys (sumC vs) [] List.nodup_nil
    have n1 := appM_len (allC vs) []
    have n2 := appM_len (doneC vs D) []
    have n3 := appM_len (sumC vs) []
    have hdl2 : (doneC vs D).length = (allC vs).length := hperm.length_eq
    simp only [List.length_nil, Nat.zero_add] at n1 n2 n3
    have v2 : aboveM (appM [] (doneC vs D)) = aboveM (appM [] (allC vs)) := front_ext u2 u1 fun s => by rw [g1, g2]
    have v3 : aboveM (appM [] (sumC vs)) = aboveM (appM [] (allC vs)) := front_ext u3 u1 fun s => by rw [g1, g3]
    have l2 : leastM (appM [] (doneC vs D)) = leastM (appM [] (allC vs)) := by unfold leastM; rw [v2]
    have l3 : leastM (appM [] (sumC vs)) = leastM (appM [] (allC vs)) := by unfold leastM; rw [v3]
    have p2 : passedM (appM [] (doneC vs D)) s = passedM (appM [] (allC vs)) s := by unfold passedM; rw [v2]
    have p3 : passedM (appM [] (sumC vs)) s = passedM (appM [] (allC vs)) s := by unfold passedM; rw [v3]
    have c2 : mgetD (appM [] (doneC vs D)) s 0 = mgetD (appM [] (allC vs)) s 0 := by rw [g1, g2]
    have c3 : mgetD (appM [] (sumC vs)) s 0 = mgetD (appM [] (allC vs)) s 0 := by rw [g1, g3]
    have hLl : (leastM (appM [] (allC vs))).length ≤ 100 := Nat.le_trans (Nat.le_trans (List.length_filter_le ..) (aboveM_len _)) (by omega)
    generalize appM [] (allC vs) = A1 at *
    generalize appM [] (doneC vs D) = A2 at *
    generalize hA3 : appM [] (sumC vs) = A3 at *
    have k72 : ∀ W K, St W1 (wrs ((gh, true, .cells (hadL n D).toArray 4 (0, 0)) :: (FrPK gc none #[] 0 ++ (FrPK gb mb eb cb ++ (FrPK ga ma ea ca ++ (ow q true (cat Vc.l ins ++ sp) 75 ++ [(g5, true, .cells s.l.toArray 38 (0, 0))])))))) K W → SlA W 1 (q.map ad) ins.length (fun i => (ins.getD i default).l) → Calls Try.prog 72 #[.slice (q.map ad) ins.length c] W (RetOw W (sumC vs).length 4 (cat Chg.l (sumC vs)) 81) := fun W K hW hsl2 => by
      have := ct_SumP (w := W) (p := q.map ad) (cap := c) (vs := ins) rfl hsl2 (fun v h => ⟨stm' (hrs v h).1.sl (hrs v h).2 hW, (hrs v h).1.nil⟩) (by omega) (by rw [hall]; omega) (by rw [hall]; exact f2)
      rwa [hsum] at this
    have kb : ∀ W, ObIn (FrPK gb mb eb cb) W → Calls Try.prog 80 #[.pointer (some ⟨gb, 0, none⟩)] W (RetOw W (leastM A1).length 3 (cat Stamp.l (leastM A1)) 38) := fun W h => by
      have := ct_LeastF h hfb (by omega)
      rwa [l2] at this
    have kb2 : ∀ W, ObIn (FrPK gb mb eb cb) W → Calls Try.prog 82 #[.pointer (some ⟨gb, 0, none⟩), .agg s.l.toArray] W fun e w' => e = .returned (.bool (passedM A1 s)) ∧ Bl W w' := fun W h => by
      have := ct_PassedF s h hfb (by omega)
      rwa [p2] at this
    have kb4 : ∀ W, ObIn (FrPK gb mb eb cb) W → Calls Try.prog 84 #[.pointer (some ⟨gb, 0, none⟩), .agg s.l.toArray] W fun e w' => e = .returned (.int .i64 (mgetD A1 s 0)) ∧ Bl W w' := fun W h => by
      have := ct_CountF s h hfb
      rwa [c2] at this
    have kc : ∀ mc ec kk, FOk mc A3 ec kk → ∀ W, ObIn (FrPK gc mc ec kk) W → Calls Try.prog 80 #[.pointer (some ⟨gc, 0, none⟩)] W (RetOw W (leastM A1).length 3 (cat Stamp.l (leastM A1)) 38) := fun mc ec kk hfc W h => by
      have := ct_LeastF h hfc (by omega)
      rwa [l3] at this
    have kc2 : ∀ mc ec kk, FOk mc A3 ec kk → ∀ W, ObIn (FrPK gc mc ec kk) W → Calls Try.prog 82 #[.pointer (some ⟨gc, 0, none⟩), .agg s.l.toArray] W fun e w' => e = .returned (.bool (passedM A1 s)) ∧ Bl W w' := fun mc ec kk hfc W h => by
      have := ct_PassedF s h hfc (by omega)
      rwa [p3] at this
    have kc4 : ∀ mc ec kk, FOk mc A3 ec kk → ∀ W, ObIn (FrPK gc mc ec kk) W → Calls Try.prog 84 #[.pointer (some ⟨gc, 0, none⟩), .agg s.l.toArray] W fun e w' => e = .returned (.int .i64 (mgetD A1 s 0)) ∧ Bl W w' := fun mc ec kk hfc W h => by
      have := ct_CountF s h hfc
      rwa [c3] at this
    repeat' first
      | (refine gl_gate ?_; first
        | refine gl_nil ?_
        | (refine gl_any0 ?_; (refine gl_ev (ev_callOw rfl rfl ent72 rfl rfl rfl (fun W hW => k72 W _ hW (slA_cat len_vc rfl hW c_oa ho)) ?_) rfl rfl; intro q6 c6 sp6 hw6))
        | (refine gl_any0 ?_; (refine gl_ev (ev_applyF (g := gc) (mo := none) (m := []) (es := #[]) (clock := 0) (l := sumC vs) rfl rfl rfl rfl rfl c_pk rfl rfl (fun W hW => ⟨slA_cat len_chg rfl hW c_oa hw6, fun h => ow_notin hW (Pk.perm c_pk) c_oa (ow_pos hw6 h)⟩) (by omega) hsb (fun s => by show (-1000000000000000000 : Int) ≤ 0 ∧ (0 : Int) ≤ 1000000000000000000; decide) ?_) rfl rfl; intro mc ec kk hfc; rw [hA3] at hfc))
        | (refine gl_any0 ?_; refine gl_pure tab_ok rfl rfl rfl rfl rfl rfl ?_))
      | (refine gc_gate ?_; first
        | refine gc_seq ?_
        | refine gc_region ?_
        | refine gc_exit ?_)
      | (refine ge_gate ?_; first
        | ((with_reducible refine ge_gT ?_); first | with_reducible refine ge_then ?_ | with_reducible refine ge_then_exit ?_ | with_reducible refine ge_then_ret ?_)
        | ((with_reducible refine ge_gK ?_); first | with_reducible refine ge_block ?_ | refine ge_block_exit ?_ | refine ge_block_pass rfl ?_ | with_reducible refine ge_block_ret ?_))
    repeat' first
      | (refine gl_gate ?_; first
        | refine gl_nil ?_
        | (refine gl_any0 ?_; (refine gl_ev (ev_callOw rfl rfl ent80 rfl rfl rfl (fun W hW => ct_LeastF (g := ga) (ObIn.of hW c_sb) hfa (by omega)) ?_) rfl rfl; intro qa ka spa hwa))
        | (refine gl_any0 ?_; (refine gl_ev (ev_callOw rfl rfl ent80 rfl rfl rfl (fun W hW => kb W (ObIn.of hW c_sb)) ?_) rfl rfl; intro qb kb0 spb hwb))
        | (refine gl_any0 ?_; (refine gl_ev (ev_callOw rfl rfl ent80 rfl rfl rfl (fun W hW => kc mc ec kk hfc W (ObIn.of hW c_sb)) ?_) rfl rfl; intro qc kc0 spc hwc))
        | (refine gl_any0 ?_; refine gl_pure tab_ok rfl rfl rfl rfl rfl rfl ?_))
      | (refine gc_gate ?_; first
        | refine gc_seq ?_
        | refine gc_region ?_
        | refine gc_quietRo rfl mixed (by decide +kernel) ?_)
      | (refine ge_gate ?_; first
        | ((with_reducible refine ge_gT ?_); first | with_reducible refine ge_then ?_ | with_reducible refine ge_then_exit ?_ | with_reducible refine ge_then_ret ?_))
      | (refine gq_gate ?_; first
        | (refine gq_pick0 ?_; first | refine gq_yv (yv_and (gok_none rfl) rfl rfl rfl (fun _ => rfl) c_imp2) rfl rfl ?_ | refine gq_yv (yv_or (gok_none rfl) rfl rfl rfl (fun _ => rfl) c_imp2) rfl rfl ?_)
        | (refine gq_loadG ?_; refine gq_yv (yv_load tab_ok c_gok rfl rfl c_imp c_mem (fun _ => c_lds)) rfl rfl ?_)
        | (refine gq_any0 ?_; refine gq_pure tab_ok rfl rfl rfl rfl rfl rfl ?_)
        | (refine gq_anyG ?_; first | refine gq_yv (yv_pure tab_ok c_gok rfl rfl c_allT) rfl rfl ?_ | refine gq_yv (yv_indexS tab_ok c_gok rfl rfl rfl rfl c_imp c_imp (by intro hq_; (try simp only [Bool.and_eq_true, Bool.not_eq_true', Bool.not_eq_false', Bool.or_eq_false_iff, Bool.or_eq_true, decide_eq_true_eq, decide_eq_false_iff_not, Bool.true_and, Bool.and_true] at hq_); omega)) rfl rfl ?_ | refine gq_yv (yv_indexS (i := 0) tab_ok c_gok rfl rfl rfl rfl c_imp c_imp (by intro hq_; (try simp only [Bool.and_eq_true, Bool.not_eq_true', Bool.not_eq_false', Bool.or_eq_false_iff, Bool.or_eq_true, decide_eq_true_eq, decide_eq_false_iff_not, Bool.true_and, Bool.and_true] at hq_); omega)) rfl rfl ?_))
    repeat' first
      | (refine ge_gate ?_; first
        | ((with_reducible refine ge_gT ?_); first | with_reducible refine ge_then ?_ | with_reducible refine ge_then_exit ?_ | with_reducible refine ge_then_ret ?_))
      | (refine gq_gate ?_; first
        | refine gq_nil ?_
        | (refine gq_calvG ?_; first | refine gq_yd (yd_call c_gok rfl ent82 rfl rfl c_allT (fun _ W hW => ct_PassedF (g := ga) (mo := ma) s (ObIn.of (Ko := FrPK ga ma ea ca) hW c_sb) hfa (by omega))) rfl rfl ?_ | refine gq_yd (yd_call c_gok rfl ent82 rfl rfl c_allT (fun _ W hW => kb2 W (ObIn.of hW c_sb))) rfl rfl ?_ | refine gq_yd (yd_call c_gok rfl ent82 rfl rfl c_allT (fun _ W hW => kc2 mc ec kk hfc W (ObIn.of hW c_sb))) rfl rfl ?_ | refine gq_yd (yd_call c_gok rfl ent84 rfl rfl c_allT (fun _ W hW => ct_CountF (g := ga) (mo := ma) s (ObIn.of (Ko := FrPK ga ma ea ca) hW c_sb) hfa)) rfl rfl ?_ | refine gq_yd (yd_call c_gok rfl ent84 rfl rfl c_allT (fun _ W hW => kb4 W (ObIn.of hW c_sb))) rfl rfl ?_ | refine gq_yd (yd_call c_gok rfl ent84 rfl rfl c_allT (fun _ W hW => kc4 mc ec kk hfc W (ObIn.of hW c_sb))) rfl rfl ?_)
        | (refine gq_pick0 ?_; first | refine gq_yv (yv_and (gok_none rfl) rfl rfl rfl (fun _ => rfl) c_imp2) rfl rfl ?_ | refine gq_yv (yv_or (gok_none rfl) rfl rfl rfl (fun _ => rfl) c_imp2) rfl rfl ?_)
        | (refine gq_loadG ?_; refine gq_yv (yv_load tab_ok c_gok rfl rfl c_imp c_mem (fun _ => c_lds)) rfl rfl ?_)
        | (refine gq_any0 ?_; refine gq_pure tab_ok rfl rfl rfl rfl rfl rfl ?_)
        | (refine gq_anyG ?_; first | refine gq_yv (yv_pure tab_ok c_gok rfl rfl c_allT) rfl rfl ?_ | refine gq_yv (yv_indexS tab_ok c_gok rfl rfl rfl rfl c_imp c_imp (by intro hq_; (try simp only [Bool.and_eq_true, Bool.not_eq_true', Bool.not_eq_false', Bool.or_eq_false_iff, Bool.or_eq_true, decide_eq_true_eq, decide_eq_false_iff_not, Bool.true_and, Bool.and_true] at hq_); omega)) rfl rfl ?_ | refine gq_yv (yv_indexS (i := 0) tab_ok c_gok rfl rfl rfl rfl c_imp c_imp (by intro hq_; (try simp only [Bool.and_eq_true, Bool.not_eq_true', Bool.not_eq_false', Bool.or_eq_false_iff, Bool.or_eq_true, decide_eq_true_eq, decide_eq_false_iff_not, Bool.true_and, Bool.and_true] at hq_); omega)) rfl rfl ?_))
    generalize hL : leastM A1 = L at *
    (refine gc_cond rfl ?_ ?_ <;> intro h_ <;> have hd_ := h_ <;> (try simp only [bytes_beq, cell_beq, val_beq, stamp_beq, decide_eq_true_eq, decide_eq_false_iff_not, Bool.and_eq_true, Bool.or_eq_true, Bool.or_eq_false_iff, Bool.not_eq_true', Bool.not_eq_false', Bool.not_true, Bool.not_false, Bool.false_or, Bool.true_and, Bool.and_true, Bool.or_false, beq_iff_eq, bne_iff_ne, beq_eq_false_iff_ne, bne_eq_false_iff_eq, ne_eq, Bool.false_eq_true, reduceCtorEq] at hd_) <;> (try (exfalso; omega)))
    · exfalso
      simp at h_
    repeat' first
      | (refine gl_gate ?_; first
        | refine gl_nil ?_
        | (refine gl_any0 ?_; refine gl_pure tab_ok rfl rfl rfl rfl rfl rfl ?_))
      | (refine gc_gate ?_; first
        | refine gc_seq ?_
        | refine gc_region ?_
        | refine gc_block ?_
        | refine gc_skip ?_)
      | (refine ge_gate ?_; first
        | ((with_reducible refine ge_gT ?_); first | with_reducible refine ge_then ?_ | with_reducible refine ge_then_exit ?_ | with_reducible refine ge_then_ret ?_))
    refine gc_loop (α := Nat) (fun i => [(15, true, .slice (qa.map ad) L.length ka), (16, true, .slice (qb.map ad) L.length kb0), (17, true, .slice (qc.map ad) L.length kc0), (18, true, .int .i64 (i : Int))]) (fun _ => ow qc true (cat Stamp.l L ++ spc) 38 ++ (ow qb true (cat Stamp.l L ++ spb) 38 ++ (ow qa true (cat Stamp.l L ++ spa) 38))) (fun i => i ≤ L.length) (fun i => L.length - i) 0 c_frs ?_ (Nat.zero_le _) ?_
    · exact List.Sublist.append_left (List.Sublist.append_left (List.sublist_append_left _ _) _) _
    clear h_ hd_
    intro j hj
    repeat' first
      | (refine gl_gate ?_; first
        | refine gl_nil ?_
        | (refine gl_any0 ?_; refine gl_pure tab_ok rfl rfl rfl rfl rfl rfl ?_))
      | (refine gc_gate ?_; first
        | refine gc_seq ?_
        | refine gc_region ?_)
      | (refine ge_gate ?_; first
        | ((with_reducible refine ge_gT ?_); first | with_reducible refine ge_then ?_ | with_reducible refine ge_then_exit ?_ | with_reducible refine ge_then_ret ?_))
    (refine gc_cond rfl ?_ ?_ <;> intro h_ <;> have hd_ := h_ <;> (try simp only [bytes_beq, cell_beq, val_beq, stamp_beq, decide_eq_true_eq, decide_eq_false_iff_not, Bool.and_eq_true, Bool.or_eq_true, Bool.or_eq_false_iff, Bool.not_eq_true', Bool.not_eq_false', Bool.not_true, Bool.not_false, Bool.false_or, Bool.true_and, Bool.and_true, Bool.or_false, beq_iff_eq, bne_iff_ne, beq_eq_false_iff_ne, bne_eq_false_iff_eq, ne_eq, Bool.false_eq_true, reduceCtorEq] at hd_) <;> (try (exfalso; omega)))
    · repeat' first
        | (refine gq_idx0 ?_; refine gq_yv (yv_idxO tab_ok hwa (gok_none rfl) rfl rfl rfl rfl rfl rfl (fun _ => rfl) (fun _ => rfl) (fun _ => by omega)) rfl rfl ?_)
        | (refine gq_load0 ?_; refine gq_yv (yv_ldO tab_ok c_oa hwa (gok_none rfl) rfl rfl (fun _ => rfl) (fun hq_ => lds_cat len_stamp (by omega) rfl rfl rfl) (fun _ => by omega)) rfl rfl ?_)
        | (refine gq_idx0 ?_; refine gq_yv (yv_idxO tab_ok hwb (gok_none rfl) rfl rfl rfl rfl rfl rfl (fun _ => rfl) (fun _ => rfl) (fun _ => by omega)) rfl rfl ?_)
        | (refine gq_load0 ?_; refine gq_yv (yv_ldO tab_ok c_oa hwb (gok_none rfl) rfl rfl (fun _ => rfl) (fun hq_ => lds_cat len_stamp (by omega) rfl rfl rfl) (fun _ => by omega)) rfl rfl ?_)
        | (refine gq_idxG ?_; refine gq_yv (yv_idxO tab_ok hwa c_gok rfl rfl rfl rfl rfl rfl c_imp c_imp (fun _ => by omega)) rfl rfl ?_)
        | (refine gq_loadG ?_; refine gq_yv (yv_ldO tab_ok c_oa hwa c_gok rfl rfl c_imp (fun hq_ => lds_cat len_stamp (by omega) rfl rfl rfl) (fun _ => by omega)) rfl rfl ?_)
        | (refine gq_idxG ?_; refine gq_yv (yv_idxO tab_ok hwc c_gok rfl rfl rfl rfl rfl rfl c_imp c_imp (fun _ => by omega)) rfl rfl ?_)
        | (refine gq_loadG ?_; refine gq_yv (yv_ldO tab_ok c_oa hwc c_gok rfl rfl c_imp (fun hq_ => lds_cat len_stamp (by omega) rfl rfl rfl) (fun _ => by omega)) rfl rfl ?_)
        | (refine gc_gate ?_; first
          | refine gc_seq ?_
          | refine gc_quietRo rfl mixed (by decide +kernel) ?_
          | refine gc_block ?_
          | refine gc_skip ?_)
        | (refine ge_gate ?_; first
          | ((with_reducible refine ge_gT ?_); first | with_reducible refine ge_then ?_ | with_reducible refine ge_then_exit ?_ | with_reducible refine ge_then_ret ?_))
        | (refine gq_gate ?_; first
          | refine gq_nil ?_
          | (refine gq_pick0 ?_; first | refine gq_yv (yv_and (gok_none rfl) rfl rfl rfl (fun _ => rfl) c_imp2) rfl rfl ?_ | refine gq_yv (yv_or (gok_none rfl) rfl rfl rfl (fun _ => rfl) c_imp2) rfl rfl ?_)
          | (refine gq_any0 ?_; refine gq_pure tab_ok rfl rfl rfl rfl rfl rfl ?_)
          | (refine gq_neS ?_; first | refine gq_yv (yv_neS tab_ok eqs_ok c_gok rfl rfl rfl rfl c_allT rfl rfl rfl) rfl rfl ?_)
          | (refine gq_anyG ?_; first | refine gq_yv (yv_pure tab_ok c_gok rfl rfl c_allT) rfl rfl ?_ | refine gq_yv (yv_indexS tab_ok c_gok rfl rfl rfl rfl c_imp c_imp (by intro hq_; (try simp only [Bool.and_eq_true, Bool.not_eq_true', Bool.not_eq_false', Bool.or_eq_false_iff, Bool.or_eq_true, decide_eq_true_eq, decide_eq_false_iff_not, Bool.true_and, Bool.and_true] at hq_); omega)) rfl rfl ?_ | refine gq_yv (yv_indexS (i := 0) tab_ok c_gok rfl rfl rfl rfl c_imp c_imp (by intro hq_; (try simp only [Bool.and_eq_true, Bool.not_eq_true', Bool.not_eq_false', Bool.or_eq_false_iff, Bool.or_eq_true, decide_eq_true_eq, decide_eq_false_iff_not, Bool.true_and, Bool.and_true] at hq_); omega)) rfl rfl ?_))
      (refine gc_cond rfl ?_ ?_ <;> intro h_ <;> have hd_ := h_ <;> (try simp only [bytes_beq, cell_beq, val_beq, stamp_beq, decide_eq_true_eq, decide_eq_false_iff_not, Bool.and_eq_true, Bool.or_eq_true, Bool.or_eq_false_iff, Bool.not_eq_true', Bool.not_eq_false', Bool.not_true, Bool.not_false, Bool.false_or, Bool.true_and, Bool.and_true, Bool.or_false, beq_iff_eq, bne_iff_ne, beq_eq_false_iff_ne, bne_eq_false_iff_eq, ne_eq, Bool.false_eq_true, reduceCtorEq] at hd_) <;> (try (exfalso; omega)))
      · exfalso
        simp at h_
      · repeat' first
          | (refine gl_gate ?_; first
            | refine gl_nil ?_
            | (refine gl_add0 ?_; refine gl_yv (yv_add tab_ok (gok_none rfl) rfl rfl rfl rfl (fun _ => allT_of rfl) (by intro _; omega)) rfl rfl ?_)
            | (refine gl_any0 ?_; refine gl_pure tab_ok rfl rfl rfl rfl rfl rfl ?_))
          | (refine gc_gate ?_; first
            | refine gc_region ?_
            | refine gc_skip ?_)
          | (refine ge_gate ?_; first
            | ((with_reducible refine ge_gT ?_); first | with_reducible refine ge_then ?_ | with_reducible refine ge_then_exit ?_ | with_reducible refine ge_then_ret ?_)
            | ((with_reducible refine ge_gK ?_); first | with_reducible refine ge_block ?_ | refine ge_block_exit ?_ | refine ge_block_pass rfl ?_ | with_reducible refine ge_block_ret ?_))
        exact ge_round (j + 1) (by omega) (by omega) c_frs (List.Sublist.refl _)
    · repeat' first
        | (refine gl_gate ?_; first
          | refine gl_nil ?_
          | (refine gl_any0 ?_; refine gl_pure tab_ok rfl rfl rfl rfl rfl rfl ?_))
        | (refine gc_gate ?_; first
          | refine gc_seq ?_
          | refine gc_region ?_
          | refine gc_exit ?_
          | refine gc_ret ?_)
        | (refine ge_gate ?_; first
          | ((with_reducible refine ge_gT ?_); first | with_reducible refine ge_then ?_ | with_reducible refine ge_then_exit ?_ | with_reducible refine ge_then_ret ?_)
          | ((with_reducible refine ge_gK ?_); first | with_reducible refine ge_block ?_ | refine ge_block_exit ?_ | refine ge_block_pass rfl ?_ | with_reducible refine ge_block_ret ?_)
          | ((with_reducible refine ge_gB ?_); first | refine ge_ret1 tab_ok rfl c_rvt ?_ | refine ge_end1 tab_ok rfl c_rvt ?_ | refine ge_ret2 tab_ok rfl c_rvt c_rvt ?_ | refine ge_ret_none rfl ?_ | refine ge_end_none rfl ?_))
      intro W hW
      exact ⟨rfl, (h1.trans hW).below0⟩
end
theorem law_TallyAny (W : World) {b0 b1 b2 : Nat} {v0 v1 v2 : Value} (o0 : Value.okWide Try.prog W .any b0 72 v0) (o1 : Value.okWide Try.prog W .any b1 83 v1) (o2 : Value.okWide Try.prog W .any b2 38 v2)
    (r0 : ∃ m, Rd tab W m 72 v0.cells.toList) (r1 : ∃ m, Rd tab W m 83 v1.cells.toList) (r2 : ∃ m, Rd tab W m 38 v2.cells.toList) : Calls Try.prog 23 #[v0, v1, v2] W fun e w' => e = .returned (.bool true) ∧ Bl W w' := by
  rw [arg_one tab_ok (t := 72) rfl rfl o0] at r0
  rw [arg_one tab_ok (t := 83) rfl rfl o1] at r1
  obtain ⟨cs, rfl⟩ := arg_struct tab_ok (t := 38) rfl o2
  obtain ⟨m0, r0⟩ := r0
  obtain ⟨m1, r1⟩ := r1
  obtain ⟨m2, r2⟩ := r2
  obtain ⟨p, n, cap, vs, h0, hn, hn9, hs, hv, hb⟩ := rdVcs r0
  obtain ⟨po, m, capo, os, h1, hm, _, _, hso, _⟩ := rdFlat (f := fun i : Int => [Value.int .i64 i]) (R := fun _ => True) r1 rfl rfl (by decide) fun _ _ h => by
    obtain ⟨x, hx, _⟩ := rd_i64 h rfl
    exact ⟨x, hx, trivial⟩
  obtain ⟨s, h2, _⟩ := rdStamp r2
  have h2' : cs = s.l := by simpa [Value.cells] using h2
  subst h2'
  cases h0
  cases h1
  exact walk_TallyAny vs os s p po n cap m capo hn hn9 hm W hs hv hb hso
end Go.Proofs.Ytkgjfcjciigcgaa
