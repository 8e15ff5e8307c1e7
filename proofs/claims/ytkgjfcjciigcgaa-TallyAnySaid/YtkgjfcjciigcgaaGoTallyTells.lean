/-
  TallyTells: the sum of any changes.
-/
import Derived.Test.YtkgjfcjciigcgaaGoTallySum
namespace Go.Proofs.Ytkgjfcjciigcgaa
open Go.Proofs.Ytkgjfcjciigcgaa.Sl Go.RowKit
set_option linter.unusedVariables false
set_option linter.unusedSimpArgs false
set_option linter.unusedSectionVars false
set_option maxRecDepth 100000

theorem nm_wr' {w0 W : World} {M : List Nat} {K : Kl} (h : St w0 M K W) {b : Nat} (hb : b < w0.heap.size) (hM : b ∉ M) : b ∉ wrs K := fun hm => by
  obtain ⟨o, ho⟩ := wrs_mem hm
  rcases h.wr _ ho rfl with h1 | h1
  · simp only at h1; omega
  · exact hM h1
theorem ow_ne' {w0 W : World} {M : List Nat} {K : Kl} {p q : Option Nat} {X Y : List Value} {t t' : TypeId} (h : St w0 M K W) (hs : (ow p true X t ++ ow q true Y t').Sublist K) (hq : q ≠ none) : pb (q.map ad) ∉ wrs (ow p true X t) := by
  have ha := (h.drop hs).apart
  cases q with
  | none => exact absurd rfl hq
  | some g =>
    cases p with
    | none => simp [ow, wrs]
    | some g' =>
      simp [ow] at ha
      simp [ow, wrs, pb, ad]
      exact fun e => ha e.symm
theorem slA_known {α : Type} [Inhabited α] {f : α → List Value} {k : Nat} (hf : ∀ x, (f x).length = k) {w0 W : World} {M : List Nat} {K : Kl} {l : List α} {g : Nat} {b : Bool} {cs : List Value} {t : TypeId} (hW : St w0 M K W) (hk : (g, b, .cells cs.toArray t (0, 0)) ∈ K) (he : cs = cat f l) : SlA W k (some ⟨g, 0, none⟩) l.length (fun i => f (l.getD i default)) := by
  subst he
  have e1 : pb (some (⟨g, 0, none⟩ : Addr)) = g := by simp [pb]
  have e2 : po (some (⟨g, 0, none⟩ : Addr)) = 0 := by simp [po]
  refine ⟨fun _ => by rw [e1, e2], fun i _ => hf _, fun _ => ⟨cat f l, t, (0, 0), by rw [e1]; exact hW.known _ hk, fun i hi j hj => ?_⟩⟩
  rw [e2, Nat.zero_add]
  exact cat_get hf l i j hi hj
def c02 : Chg := ⟨⟨0, 0, 0⟩, 2⟩
def c03 : Chg := ⟨⟨0, 0, 0⟩, 3⟩
def c05 : Chg := ⟨⟨0, 0, 0⟩, 5⟩
theorem sum_alive (p q : Option Addr) (c d : Nat) : sumC [⟨p, c, [c02]⟩, ⟨q, d, [c03]⟩] = [c05] := by
  show accR [c02, c03] = [c05]
  decide +kernel
theorem sum_none : sumC [] = [] := rfl
theorem small_alive : ∀ x ∈ [c02, c03], small x := by
  intro x hx
  simp at hx
  rcases hx with rfl | rfl <;> simp [small, c02, c03]
section
attribute [local irreducible] Calls
theorem ct_aliveT (w : World) : Calls Try.prog 69 #[] w fun e w' => e = .returned (.bool true) ∧ Bl w w' := by
  have k0 : ∀ W, Calls Try.prog 72 #[.slice none 0 0] W (RetOw W 0 4 [] 81) := fun W => ct_SumP (vs := []) rfl SlA.nil (fun v hv => absurd hv List.not_mem_nil) (by decide) (by decide) (fun x hx => absurd hx List.not_mem_nil)
  refine enter (args := []) (M := []) (K := []) Try.func69 rfl Try.ntmps69 rfl (St.refl _ _) ?_
  repeat' first
    | (refine gl_gate ?_; first
      | refine gl_nil ?_
      | (refine gl_bld0 ?_; (refine gl_ev (ev_buildSlice tab_ok rfl rfl rfl rfl rfl rfl rfl rfl rfl rfl ?_) rfl rfl; intro g_ hg_))
      | (refine gl_any0 ?_; refine gl_pure tab_ok rfl rfl rfl rfl rfl rfl ?_))
    | (refine gc_gate ?_; first
      | refine gc_seq ?_
      | refine gc_region ?_)
    | (refine ge_gate ?_; first
      | ((with_reducible refine ge_gT ?_); first | with_reducible refine ge_then ?_ | with_reducible refine ge_then_exit ?_ | with_reducible refine ge_then_ret ?_))
  rename_i ga hga gb hgb
  have k1 : ∀ W, St w [] [(g_, true, .cells [.slice (some ⟨ga, 0, none⟩) 1 1, .slice (some ⟨gb, 0, none⟩) 1 1].toArray 75 (0, 0)), (gb, true, .cells c03.l.toArray 81 (0, 0)), (ga, true, .cells c02.l.toArray 81 (0, 0))] W → Calls Try.prog 72 #[.slice (some ⟨g_, 0, none⟩) 2 2] W (RetOw W 1 4 (cat Chg.l [c05]) 81) := fun W hW => by
    have := ct_SumP (w := W) (p := some ⟨g_, 0, none⟩) (n := 2) (cap := 2) (vs := [⟨some ⟨ga, 0, none⟩, 1, [c02]⟩, ⟨some ⟨gb, 0, none⟩, 1, [c03]⟩]) rfl (slA_known (l := [⟨some ⟨ga, 0, none⟩, 1, [c02]⟩, ⟨some ⟨gb, 0, none⟩, 1, [c03]⟩]) len_vc hW c_mem rfl) (fun v hv => by
      rcases List.mem_cons.1 hv with rfl | hv
      · exact ⟨slA_known (l := [c02]) len_chg hW c_mem rfl, fun h => by cases h⟩
      · obtain rfl := List.mem_singleton.1 hv
        exact ⟨slA_known (l := [c03]) len_chg hW c_mem rfl, fun h => by cases h⟩) (by decide) (by show 2 ≤ 1000; decide) small_alive
    rw [sum_alive] at this
    exact this
  repeat' first
    | (refine gl_idxG ?_; refine gl_yv (yv_idxO (i := 0) tab_ok hw1 c_gok rfl rfl rfl rfl rfl rfl c_imp c_imp (fun _ => by decide)) rfl rfl ?_)
    | (refine gl_loadG ?_; refine gl_yv (yv_ldO tab_ok c_oa hw1 c_gok rfl rfl c_imp (fun _ => lds_one rfl rfl rfl rfl) (fun _ => by decide)) rfl rfl ?_)
    | (refine gl_gate ?_; first
      | refine gl_nil ?_
      | (refine gl_any0 ?_; (refine gl_ev (ev_callOw rfl rfl ent72 rfl rfl rfl (fun W hW => k1 W hW) ?_) rfl rfl; intro q1 c1 sp1 hw1))
      | (refine gl_any0 ?_; (refine gl_ev (ev_callOw rfl rfl ent72 rfl rfl rfl (fun W hW => k0 W) ?_) rfl rfl; intro q2 c2 sp2 hw2))
      | (refine gl_pick0 ?_; first | refine gl_yv (yv_and (gok_none rfl) rfl rfl rfl (fun _ => rfl) c_imp2) rfl rfl ?_ | refine gl_yv (yv_or (gok_none rfl) rfl rfl rfl (fun _ => rfl) c_imp2) rfl rfl ?_)
      | (refine gl_any0 ?_; refine gl_pure tab_ok rfl rfl rfl rfl rfl rfl ?_)
      | (refine gl_anyG ?_; first | refine gl_yv (yv_pure tab_ok c_gok rfl rfl c_allT) rfl rfl ?_ | refine gl_yv (yv_indexS tab_ok c_gok rfl rfl rfl rfl c_imp c_imp (by intro hq_; (try simp only [Bool.and_eq_true, Bool.not_eq_true', Bool.not_eq_false', Bool.or_eq_false_iff, Bool.or_eq_true, decide_eq_true_eq, decide_eq_false_iff_not, Bool.true_and, Bool.and_true] at hq_); omega)) rfl rfl ?_ | refine gl_yv (yv_indexS (i := 0) tab_ok c_gok rfl rfl rfl rfl c_imp c_imp (by intro hq_; (try simp only [Bool.and_eq_true, Bool.not_eq_true', Bool.not_eq_false', Bool.or_eq_false_iff, Bool.or_eq_true, decide_eq_true_eq, decide_eq_false_iff_not, Bool.true_and, Bool.and_true] at hq_); omega)) rfl rfl ?_))
    | (refine gc_gate ?_; first
      | refine gc_seq ?_
      | refine gc_region ?_
      | refine gc_ret ?_)
    | (refine ge_gate ?_; first
      | ((with_reducible refine ge_gT ?_); first | with_reducible refine ge_then ?_ | with_reducible refine ge_then_exit ?_ | with_reducible refine ge_then_ret ?_)
      | ((with_reducible refine ge_gB ?_); first | refine ge_ret1 tab_ok rfl c_rvt ?_ | refine ge_end1 tab_ok rfl c_rvt ?_ | refine ge_ret2 tab_ok rfl c_rvt c_rvt ?_ | refine ge_ret_none rfl ?_ | refine ge_end_none rfl ?_))
  intro W hW
  refine ⟨?_, hW.below0⟩
  rfl
end
set_option maxHeartbeats 4000000 in
theorem walk_TallyTells (vs : List Vc) (p : Option Addr) (n cap : Nat) (hn : n = vs.length) (hn9 : n ≤ 140737488351232) (w : World) (hs : SlA w 1 p n (fun i => (vs.getD i default).l)) (hv : ∀ v ∈ vs, v.Ok w) (hb : ∀ v ∈ vs, v.xs.length ≤ 140737488351232) :
    Calls Try.prog 14 #[.slice p n cap] w fun e w' => e = .returned (.bool true) ∧ Bl w w' := by
  refine enter (args := [_]) (M := []) (K := []) Try.func14 rfl Try.ntmps14 rfl (St.refl _ _) ?_
  repeat' first
    | (refine gl_gate ?_; first
      | refine gl_nil ?_
      | (refine gl_calv0 ?_; first | refine gl_yd (yd_call (gok_none rfl) rfl ent69 rfl rfl (fun _ => allT_of rfl) (fun _ W hW => ct_aliveT W)) rfl rfl ?_ | refine gl_yd (yd_call (gok_none rfl) rfl ent70 rfl rfl (fun _ => allT_of rfl) (fun _ W hW => ct_FewC hn (hs.st hW) (fun v h => (hv v h).st hW) hb hn9)) rfl rfl ?_)
      | (refine gl_calvG ?_; first | refine gl_yd (yd_call c_gok rfl ent69 rfl rfl c_allT (fun _ W hW => ct_aliveT W)) rfl rfl ?_ | refine gl_yd (yd_call c_gok rfl ent70 rfl rfl c_allT (fun _ W hW => ct_FewC hn (hs.st hW) (fun v h => (hv v h).st hW) hb hn9)) rfl rfl ?_)
      | (refine gl_pick0 ?_; first | refine gl_yv (yv_and (gok_none rfl) rfl rfl rfl (fun _ => rfl) c_imp2) rfl rfl ?_ | refine gl_yv (yv_or (gok_none rfl) rfl rfl rfl (fun _ => rfl) c_imp2) rfl rfl ?_)
      | (refine gl_any0 ?_; refine gl_pure tab_ok rfl rfl rfl rfl rfl rfl ?_)
      | (refine gl_anyG ?_; first | refine gl_yv (yv_pure tab_ok c_gok rfl rfl c_allT) rfl rfl ?_ | refine gl_yv (yv_indexS tab_ok c_gok rfl rfl rfl rfl c_imp c_imp (by intro hq_; (try simp only [Bool.and_eq_true, Bool.not_eq_true', Bool.not_eq_false', Bool.or_eq_false_iff, Bool.or_eq_true, decide_eq_true_eq, decide_eq_false_iff_not, Bool.true_and, Bool.and_true] at hq_); omega)) rfl rfl ?_ | refine gl_yv (yv_indexS (i := 0) tab_ok c_gok rfl rfl rfl rfl c_imp c_imp (by intro hq_; (try simp only [Bool.and_eq_true, Bool.not_eq_true', Bool.not_eq_false', Bool.or_eq_false_iff, Bool.or_eq_true, decide_eq_true_eq, decide_eq_false_iff_not, Bool.true_and, Bool.and_true] at hq_); omega)) rfl rfl ?_))
    | (refine gc_gate ?_; first
      | refine gc_seq ?_
      | refine gc_region ?_)
    | (refine ge_gate ?_; first
      | ((with_reducible refine ge_gT ?_); first | with_reducible refine ge_then ?_ | with_reducible refine ge_then_exit ?_ | with_reducible refine ge_then_ret ?_))
  (refine gc_cond rfl ?_ ?_ <;> intro h_ <;> have hd_ := h_ <;> (try simp only [bytes_beq, cell_beq, val_beq, stamp_beq, decide_eq_true_eq, decide_eq_false_iff_not, Bool.and_eq_true, Bool.or_eq_true, Bool.or_eq_false_iff, Bool.not_eq_true', Bool.not_eq_false', Bool.not_true, Bool.not_false, Bool.false_or, Bool.true_and, Bool.and_true, Bool.or_false, beq_iff_eq, bne_iff_ne, beq_eq_false_iff_ne, bne_eq_false_iff_eq, ne_eq, Bool.false_eq_true, reduceCtorEq] at hd_) <;> (try (exfalso; omega)))
  · repeat' first
      | (refine gl_gate ?_; first
        | refine gl_nil ?_
        | (refine gl_any0 ?_; refine gl_pure tab_ok rfl rfl rfl rfl rfl rfl ?_))
      | (refine gc_gate ?_; first
        | refine gc_seq ?_
        | refine gc_region ?_
        | refine gc_ret ?_)
      | (refine ge_gate ?_; first
        | ((with_reducible refine ge_gT ?_); first | with_reducible refine ge_then ?_ | with_reducible refine ge_then_exit ?_ | with_reducible refine ge_then_ret ?_)
        | ((with_reducible refine ge_gB ?_); first | refine ge_ret1 tab_ok rfl c_rvt ?_ | refine ge_end1 tab_ok rfl c_rvt ?_ | refine ge_ret2 tab_ok rfl c_rvt c_rvt ?_ | refine ge_ret_none rfl ?_ | refine ge_end_none rfl ?_))
    intro W hW
    exact ⟨rfl, hW.below0⟩
  obtain ⟨f1, f2⟩ := fewC_spec (vs := vs) (by simpa using hd_)
  clear h_ hd_
  repeat' first
    | (refine gl_gate ?_; first
      | refine gl_nil ?_
      | (refine gl_any0 ?_; refine gl_pure tab_ok rfl rfl rfl rfl rfl rfl ?_))
    | (refine gc_gate ?_; first
      | refine gc_seq ?_
      | refine gc_region ?_
      | refine gc_block ?_
      | refine gc_skip ?_)
    | (refine ge_gate ?_; first
      | ((with_reducible refine ge_gT ?_); first | with_reducible refine ge_then ?_ | with_reducible refine ge_then_exit ?_ | with_reducible refine ge_then_ret ?_))
  refine gc_loopW (α := Nat × Option Nat × Nat × List Value × List Vc) (fun x => [(0, true, .slice p n cap), (4, true, .slice (x.2.1.map ad) x.2.2.2.2.length x.2.2.1), (5, true, .int .i64 (x.1 : Int))])
    (fun x => ow x.2.1 true (cat Vc.l x.2.2.2.2 ++ x.2.2.2.1) 75)
    (fun x W => x.1 ≤ n ∧ x.2.2.2.2.map Vc.xs = (vs.take x.1).map Vc.xs ∧ Ow x.2.1 x.2.2.2.2.length x.2.2.1 1 (cat Vc.l x.2.2.2.2) x.2.2.2.1 ∧ ∀ v ∈ x.2.2.2.2, v.Ok W ∧ (0 < v.xs.length → pb v.p ∉ wrs (ow x.2.1 true (cat Vc.l x.2.2.2.2 ++ x.2.2.2.1) 75)))
    (fun x => n - x.1) (0, none, 0, [], []) c_frs (List.Sublist.refl _) (fun W hW => ⟨Nat.zero_le _, rfl, Ow.none0, fun v (h : v ∈ []) => absurd h List.not_mem_nil⟩) ?_
  rintro ⟨i, q, c, sp, ins⟩ W1 h1 ⟨hi, hr, ho, hrs⟩
  dsimp only at hi hr ho hrs h1 ⊢
  have hil' : ins.length = i := by
    have := congrArg List.length hr
    simp only [List.length_map, List.length_take] at this
    omega
  have hsW := hs.st h1
  have hnm : 0 < n → pb p ∉ wrs (ow q true (cat Vc.l ins ++ sp) 75) := fun h => nm_wr' h1 (hs.lt h) (by simp)
  repeat' first
    | (refine gl_gate ?_; first
      | refine gl_nil ?_
      | (refine gl_any0 ?_; refine gl_pure tab_ok rfl rfl rfl rfl rfl rfl ?_))
    | (refine gc_gate ?_; first
      | refine gc_seq ?_
      | refine gc_region ?_)
    | (refine ge_gate ?_; first
      | ((with_reducible refine ge_gT ?_); first | with_reducible refine ge_then ?_ | with_reducible refine ge_then_exit ?_ | with_reducible refine ge_then_ret ?_))
  (refine gc_cond rfl ?_ ?_ <;> intro h_ <;> have hd_ := h_ <;> (try simp only [bytes_beq, cell_beq, val_beq, stamp_beq, decide_eq_true_eq, decide_eq_false_iff_not, Bool.and_eq_true, Bool.or_eq_true, Bool.or_eq_false_iff, Bool.not_eq_true', Bool.not_eq_false', Bool.not_true, Bool.not_false, Bool.false_or, Bool.true_and, Bool.and_true, Bool.or_false, beq_iff_eq, bne_iff_ne, beq_eq_false_iff_ne, bne_eq_false_iff_eq, ne_eq, Bool.false_eq_true, reduceCtorEq] at hd_) <;> (try (exfalso; omega)))
  · have hil : i < vs.length := by omega
    have hvi := hv _ (getD_mem vs i hil)
    have hxl : (vs.getD i default).xs.length ≤ 100 := by
      have := allC_take vs i hil
      have h2 : (allC (vs.take (i + 1))).length ≤ (allC vs).length := by
        conv => rhs; rw [← List.take_append_drop (i + 1) vs]
        unfold allC
        rw [List.flatMap_append, List.length_append]
        omega
      rw [this, List.length_append] at h2
      omega
    repeat' first
      | (refine gl_gate ?_; first
        | refine gl_nil ?_
        | (refine gl_add0 ?_; refine gl_yv (yv_add tab_ok (gok_none rfl) rfl rfl rfl rfl (fun _ => allT_of rfl) (by intro _; omega)) rfl rfl ?_)
        | (refine gl_idx0 ?_; refine gl_yv (yv_idxA tab_ok hsW (gok_none rfl) rfl rfl rfl rfl rfl rfl (fun _ => rfl) (fun _ => rfl) c_bnd) rfl rfl ?_)
        | (refine gl_load0 ?_; refine gl_yv (yv_ldA0 tab_ok hsW c_nm (gok_none rfl) rfl rfl (fun _ => rfl) c_bnd (fun _ => c_lds)) rfl rfl ?_)
        | (refine gl_any0 ?_; (refine gl_ev (ev_callOw rfl rfl ent71 rfl rfl rfl (fun W hW => ct_to (vs.getD i default).xs _ _ _ W rfl (hvi.sl.st (h1.trans hW)) (by omega)) ?_) rfl rfl; intro p1_ c1_ sp1_ hw1_))
        | (refine gl_app0 ?_; (refine gl_ev (ev_append tab_ok rfl rfl rfl rfl rfl rfl rfl rfl c_oa (ho) (c_src) c_lim c_lim ?_) rfl rfl; intro p_ c_ sp_ hw_))
        | (refine gl_bld0 ?_; (refine gl_ev (ev_buildSlice tab_ok rfl rfl rfl rfl rfl rfl rfl rfl rfl rfl ?_) rfl rfl; intro g_ hg_))
        | (refine gl_any0 ?_; refine gl_pure tab_ok rfl rfl rfl rfl rfl rfl ?_))
      | (refine gc_gate ?_; first
        | refine gc_seq ?_
        | refine gc_region ?_
        | refine gc_block ?_
        | refine gc_skip ?_)
      | (refine ge_gate ?_; first
        | ((with_reducible refine ge_gT ?_); first | with_reducible refine ge_then ?_ | with_reducible refine ge_then_exit ?_ | with_reducible refine ge_then_ret ?_)
        | ((with_reducible refine ge_gK ?_); first | with_reducible refine ge_block ?_ | refine ge_block_exit ?_ | refine ge_block_pass rfl ?_ | with_reducible refine ge_block_ret ?_))
    have e1 : cat Vc.l (ins ++ [⟨p1_.map ad, c1_, (vs.getD i default).xs⟩]) = cat Vc.l ins ++ [.slice (p1_.map ad) (vs.getD i default).xs.length c1_] := by simp [cat, Vc.l]
    refine ge_roundW (i + 1, p_, c_, sp_, ins ++ [⟨p1_.map ad, c1_, (vs.getD i default).xs⟩]) h1 (by show n - (i + 1) < n - i; omega) ?_ ?_ ?_
    · dsimp only
      rw [List.length_append]
      exact c_frs
    · dsimp only
      rw [e1]
      exact List.sublist_append_left _ _
    · intro W2 hW
      have hsb := List.sublist_append_left (ow p_ true (cat Vc.l (ins ++ [⟨p1_.map ad, c1_, (vs.getD i default).xs⟩]) ++ sp_) 75) ((g_, true, Obj.cells [.slice (p1_.map ad) (vs.getD i default).xs.length c1_].toArray 75 (0, 0)) :: (ow p1_ true (cat Chg.l (vs.getD i default).xs ++ sp1_) 81 ++ []))
      rw [e1] at hsb
      refine ⟨by dsimp only; omega, ?_, ?_, fun v hv' => ?_⟩
      · dsimp only
        rw [List.map_append, hr, take_succD _ _ hil, List.map_append]
        rfl
      · dsimp only
        rw [e1, List.length_append]
        exact hw_
      · dsimp only at hv' ⊢
        rw [e1]
        rcases List.mem_append.1 hv' with hv' | hv'
        · obtain ⟨a1, a2⟩ := hrs v hv'
          exact ⟨⟨stm' a1.sl a2 hW, a1.nil⟩, fun h => nm_wr' (hW.drop hsb) (a1.sl.lt h) (a2 h)⟩
        · obtain rfl := List.mem_singleton.1 hv'
          exact ⟨⟨slA_cat len_chg rfl hW c_oa hw1_, fun h => hw1_.nil (Option.map_eq_none_iff.1 h)⟩, fun h => ow_ne' hW (List.Sublist.append (List.Sublist.refl _) (List.Sublist.cons _ (List.sublist_append_left _ _))) (ow_pos hw1_ h)⟩
  · have hin : i = vs.length := by omega
    rw [hin, List.take_length] at hr
    have hall : allC ins = allC vs := by
      have e : ∀ l : List Vc, allC l = (l.map Vc.xs).flatMap id := fun l => by simp [allC, List.flatMap_map]
      rw [e, e, hr]
    have hsum : sumC ins = sumC vs := by unfold sumC; rw [hall]
    have hsl : (sumC vs).length ≤ 100 := by
      have := (accR_spec _ f2).1
      unfold sumC
      omega
    have k72 : ∀ W, St W1 (wrs (ow q true (cat Vc.l ins ++ sp) 75)) (ow q true (cat Vc.l ins ++ sp) 75) W → Calls Try.prog 72 #[.slice (q.map ad) ins.length c] W (RetOw W (sumC vs).length 4 (cat Chg.l (sumC vs)) 81) := fun W hW => by
      have := ct_SumP (w := W) (p := q.map ad) (cap := c) (vs := ins) rfl (slA_cat len_vc rfl hW Oa.self ho) (fun v h => ⟨stm' (hrs v h).1.sl (hrs v h).2 hW, (hrs v h).1.nil⟩) (by omega) (by rw [hall]; omega) (by rw [hall]; exact f2)
      rwa [hsum] at this
    repeat' first
      | (refine gl_gate ?_; first
        | refine gl_nil ?_
        | (refine gl_any0 ?_; (refine gl_ev (ev_callOw rfl rfl ent72 rfl rfl rfl (fun W hW => k72 W hW) ?_) rfl rfl; intro q6 c6 sp6 hw6))
        | (refine gl_any0 ?_; (refine gl_ev (ev_callOw rfl rfl ent73 rfl rfl rfl (fun W hW => ct_SumR hn (hs.st (h1.trans hW)) (fun v h => (hv v h).st (h1.trans hW)) (by omega) (by omega) f2) ?_) rfl rfl; intro q7 c7 sp7 hw7))
        | (refine gl_any0 ?_; refine gl_pure tab_ok rfl rfl rfl rfl rfl rfl ?_))
      | (refine gc_gate ?_; first
        | refine gc_seq ?_
        | refine gc_region ?_
        | refine gc_exit ?_)
      | (refine ge_gate ?_; first
        | ((with_reducible refine ge_gT ?_); first | with_reducible refine ge_then ?_ | with_reducible refine ge_then_exit ?_ | with_reducible refine ge_then_ret ?_)
        | ((with_reducible refine ge_gK ?_); first | with_reducible refine ge_block ?_ | refine ge_block_exit ?_ | refine ge_block_pass rfl ?_ | with_reducible refine ge_block_ret ?_))
    generalize hY : sumC vs = Y at *
    (refine gc_cond rfl ?_ ?_ <;> intro h_ <;> have hd_ := h_ <;> (try simp only [bytes_beq, cell_beq, val_beq, stamp_beq, decide_eq_true_eq, decide_eq_false_iff_not, Bool.and_eq_true, Bool.or_eq_true, Bool.or_eq_false_iff, Bool.not_eq_true', Bool.not_eq_false', Bool.not_true, Bool.not_false, Bool.false_or, Bool.true_and, Bool.and_true, Bool.or_false, beq_iff_eq, bne_iff_ne, beq_eq_false_iff_ne, bne_eq_false_iff_eq, ne_eq, Bool.false_eq_true, reduceCtorEq] at hd_) <;> (try (exfalso; omega)))
    · first | exact absurd rfl hd_ | exact absurd trivial hd_
    repeat' first
      | (refine gl_gate ?_; first
        | refine gl_nil ?_
        | (refine gl_any0 ?_; refine gl_pure tab_ok rfl rfl rfl rfl rfl rfl ?_))
      | (refine gc_gate ?_; first
        | refine gc_seq ?_
        | refine gc_region ?_
        | refine gc_block ?_
        | refine gc_skip ?_)
      | (refine ge_gate ?_; first
        | ((with_reducible refine ge_gT ?_); first | with_reducible refine ge_then ?_ | with_reducible refine ge_then_exit ?_ | with_reducible refine ge_then_ret ?_))
    refine gc_loop (α := Nat) (fun i => [(6, true, .slice (q6.map ad) Y.length c6), (7, true, .slice (q7.map ad) Y.length c7), (8, true, .int .i64 (i : Int))]) (fun _ => ow q7 true (cat Chg.l Y ++ sp7) 82 ++ ow q6 true (cat Chg.l Y ++ sp6) 81) (fun i => i ≤ Y.length) (fun i => Y.length - i) 0 c_frs ?_ (Nat.zero_le _) ?_
    · exact List.Sublist.append (List.Sublist.refl _) (List.sublist_append_left _ _)
    intro j hj
    repeat' first
      | (refine gl_gate ?_; first
        | refine gl_nil ?_
        | (refine gl_any0 ?_; refine gl_pure tab_ok rfl rfl rfl rfl rfl rfl ?_))
      | (refine gc_gate ?_; first
        | refine gc_seq ?_
        | refine gc_region ?_)
      | (refine ge_gate ?_; first
        | ((with_reducible refine ge_gT ?_); first | with_reducible refine ge_then ?_ | with_reducible refine ge_then_exit ?_ | with_reducible refine ge_then_ret ?_))
    (refine gc_cond rfl ?_ ?_ <;> intro h_ <;> have hd_ := h_ <;> (try simp only [bytes_beq, cell_beq, val_beq, stamp_beq, decide_eq_true_eq, decide_eq_false_iff_not, Bool.and_eq_true, Bool.or_eq_true, Bool.or_eq_false_iff, Bool.not_eq_true', Bool.not_eq_false', Bool.not_true, Bool.not_false, Bool.false_or, Bool.true_and, Bool.and_true, Bool.or_false, beq_iff_eq, bne_iff_ne, beq_eq_false_iff_ne, bne_eq_false_iff_eq, ne_eq, Bool.false_eq_true, reduceCtorEq] at hd_) <;> (try (exfalso; omega)))
    · repeat' first
        | (refine gq_idx0 ?_; refine gq_yv (yv_idxO tab_ok hw6 (gok_none rfl) rfl rfl rfl rfl rfl rfl (fun _ => rfl) (fun _ => rfl) c_bnd) rfl rfl ?_)
        | (refine gq_idx0 ?_; refine gq_yv (yv_idxO tab_ok hw7 (gok_none rfl) rfl rfl rfl rfl rfl rfl (fun _ => rfl) (fun _ => rfl) c_bnd) rfl rfl ?_)
        | (refine gq_load0 ?_; refine gq_yv (yv_ldO tab_ok c_oa hw6 (gok_none rfl) rfl rfl (fun _ => rfl) (fun _ => lds_part len_chg (by omega) rfl (by decide) (lds_agg rfl rfl rfl)) c_bnd) rfl rfl ?_)
        | (refine gq_load0 ?_; refine gq_yv (yv_ldO tab_ok c_oa hw7 (gok_none rfl) rfl rfl (fun _ => rfl) (fun _ => lds_part len_chg (by omega) rfl (by decide) (lds_agg rfl rfl rfl)) c_bnd) rfl rfl ?_)
        | (refine gq_idxG ?_; refine gq_yv (yv_idxO tab_ok hw6 c_gok rfl rfl rfl rfl rfl rfl c_imp c_imp (fun _ => by omega)) rfl rfl ?_)
        | (refine gq_idxG ?_; refine gq_yv (yv_idxO tab_ok hw7 c_gok rfl rfl rfl rfl rfl rfl c_imp c_imp (fun _ => by omega)) rfl rfl ?_)
        | (refine gq_loadG ?_; refine gq_yv (yv_ldO tab_ok c_oa hw6 c_gok rfl rfl c_imp (fun hq_ => lds_part len_chg (by omega) rfl (by decide) (lds_one rfl rfl rfl rfl)) (fun _ => by omega)) rfl rfl ?_)
        | (refine gq_loadG ?_; refine gq_yv (yv_ldO tab_ok c_oa hw7 c_gok rfl rfl c_imp (fun hq_ => lds_part len_chg (by omega) rfl (by decide) (lds_one rfl rfl rfl rfl)) (fun _ => by omega)) rfl rfl ?_)
        | (refine gc_gate ?_; first
          | refine gc_seq ?_
          | refine gc_quietRo rfl mixed (by decide +kernel) ?_
          | refine gc_block ?_
          | refine gc_skip ?_)
        | (refine ge_gate ?_; first
          | ((with_reducible refine ge_gT ?_); first | with_reducible refine ge_then ?_ | with_reducible refine ge_then_exit ?_ | with_reducible refine ge_then_ret ?_))
        | (refine gq_gate ?_; first
          | refine gq_nil ?_
          | (refine gq_pick0 ?_; first | refine gq_yv (yv_and (gok_none rfl) rfl rfl rfl (fun _ => rfl) c_imp2) rfl rfl ?_ | refine gq_yv (yv_or (gok_none rfl) rfl rfl rfl (fun _ => rfl) c_imp2) rfl rfl ?_)
          | (refine gq_any0 ?_; refine gq_pure tab_ok rfl rfl rfl rfl rfl rfl ?_)
          | (refine gq_neS ?_; first | refine gq_yv (yv_neS tab_ok eqs_ok c_gok rfl rfl rfl rfl c_allT rfl rfl rfl) rfl rfl ?_)
          | (refine gq_anyG ?_; first | refine gq_yv (yv_pure tab_ok c_gok rfl rfl c_allT) rfl rfl ?_ | refine gq_yv (yv_indexS tab_ok c_gok rfl rfl rfl rfl c_imp c_imp (by intro hq_; (try simp only [Bool.and_eq_true, Bool.not_eq_true', Bool.not_eq_false', Bool.or_eq_false_iff, Bool.or_eq_true, decide_eq_true_eq, decide_eq_false_iff_not, Bool.true_and, Bool.and_true] at hq_); omega)) rfl rfl ?_ | refine gq_yv (yv_indexS (i := 0) tab_ok c_gok rfl rfl rfl rfl c_imp c_imp (by intro hq_; (try simp only [Bool.and_eq_true, Bool.not_eq_true', Bool.not_eq_false', Bool.or_eq_false_iff, Bool.or_eq_true, decide_eq_true_eq, decide_eq_false_iff_not, Bool.true_and, Bool.and_true] at hq_); omega)) rfl rfl ?_))
      (refine gc_cond rfl ?_ ?_ <;> intro h_ <;> have hd_ := h_ <;> (try simp only [bytes_beq, cell_beq, val_beq, stamp_beq, decide_eq_true_eq, decide_eq_false_iff_not, Bool.and_eq_true, Bool.or_eq_true, Bool.or_eq_false_iff, Bool.not_eq_true', Bool.not_eq_false', Bool.not_true, Bool.not_false, Bool.false_or, Bool.true_and, Bool.and_true, Bool.or_false, beq_iff_eq, bne_iff_ne, beq_eq_false_iff_ne, bne_eq_false_iff_eq, ne_eq, Bool.false_eq_true, reduceCtorEq] at hd_) <;> (try (exfalso; omega)))
      · exfalso
        rcases hd_ with h | h
        · first | exact absurd rfl h | exact absurd trivial h
        · first | exact absurd rfl h | exact absurd trivial h
      · repeat' first
          | (refine gl_gate ?_; first
            | refine gl_nil ?_
            | (refine gl_add0 ?_; refine gl_yv (yv_add tab_ok (gok_none rfl) rfl rfl rfl rfl (fun _ => allT_of rfl) (by intro _; omega)) rfl rfl ?_)
            | (refine gl_any0 ?_; refine gl_pure tab_ok rfl rfl rfl rfl rfl rfl ?_))
          | (refine gc_gate ?_; first
            | refine gc_region ?_
            | refine gc_skip ?_)
          | (refine ge_gate ?_; first
            | ((with_reducible refine ge_gT ?_); first | with_reducible refine ge_then ?_ | with_reducible refine ge_then_exit ?_ | with_reducible refine ge_then_ret ?_)
            | ((with_reducible refine ge_gK ?_); first | with_reducible refine ge_block ?_ | refine ge_block_exit ?_ | refine ge_block_pass rfl ?_ | with_reducible refine ge_block_ret ?_))
        exact ge_round (j + 1) (by omega) (by omega) c_frs (List.Sublist.refl _)
    · repeat' first
        | (refine gl_gate ?_; first
          | refine gl_nil ?_
          | (refine gl_any0 ?_; refine gl_pure tab_ok rfl rfl rfl rfl rfl rfl ?_))
        | (refine gc_gate ?_; first
          | refine gc_seq ?_
          | refine gc_region ?_
          | refine gc_exit ?_
          | refine gc_ret ?_)
        | (refine ge_gate ?_; first
          | ((with_reducible refine ge_gT ?_); first | with_reducible refine ge_then ?_ | with_reducible refine ge_then_exit ?_ | with_reducible refine ge_then_ret ?_)
          | ((with_reducible refine ge_gK ?_); first | with_reducible refine ge_block ?_ | refine ge_block_exit ?_ | refine ge_block_pass rfl ?_ | with_reducible refine ge_block_ret ?_)
          | ((with_reducible refine ge_gB ?_); first | refine ge_ret1 tab_ok rfl c_rvt ?_ | refine ge_end1 tab_ok rfl c_rvt ?_ | refine ge_ret2 tab_ok rfl c_rvt c_rvt ?_ | refine ge_ret_none rfl ?_ | refine ge_end_none rfl ?_))
      intro W hW
      exact ⟨rfl, (h1.trans hW).below0⟩
theorem rdVcs {W : World} {n : Nat} {cs : List Value} (h : Rd tab W n 72 cs) : ∃ (p : Option Addr) (len cap : Nat) (vs : List Vc), cs = [.slice p len cap] ∧ len = vs.length ∧ len ≤ 140737488351232 ∧ SlA W 1 p len (fun i => (vs.getD i default).l) ∧ (∀ v ∈ vs, v.Ok W) ∧ ∀ v ∈ vs, v.xs.length ≤ 140737488351232 := by
  have h' := h
  obtain ⟨m, p, len, cap, el, _, h0, hle, hcap, _, hs, hr⟩ := rd_slA h rfl rfl (by decide)
  subst h0
  have hb := rd_slB h' rfl rfl
  obtain ⟨vs, hn, hs', hv⟩ := hs.pick (f := Vc.l) (R := fun x => x.Ok W ∧ x.xs.length ≤ 140737488351232) fun i hi => by
    have h2 := hr i hi
    obtain ⟨m2, q, k, c, el2, _, h3, hle2, hcap2, hnil, hs2, hr2⟩ := rd_slA h2 rfl rfl (by decide)
    rw [h3] at h2
    have hb2 := rd_slB h2 rfl rfl
    obtain ⟨xs, hx, hs3, _⟩ := hs2.pick (f := Chg.l) (R := fun x => True) fun j hj => by
      obtain ⟨x, hx, _⟩ := rdChange (hr2 j hj)
      exact ⟨x, hx, trivial⟩
    subst hx
    have hb3 : xs.length * 32 ≤ 140737488351232 := hb2
    exact ⟨⟨q, c, xs⟩, h3, ⟨hs3, fun h => (hnil h).2⟩, by show xs.length ≤ _; omega⟩
  have hb4 : len * 24 ≤ 140737488351232 := hb
  exact ⟨p, len, cap, vs, rfl, hn.symm, by omega, hs', fun v h => (hv v h).1, fun v h => (hv v h).2⟩
theorem law_TallyTells (W : World) {b0 : Nat} {v0 : Value} (o0 : Value.okWide Try.prog W .any b0 72 v0)
    (r0 : ∃ m, Rd tab W m 72 v0.cells.toList) : Calls Try.prog 14 #[v0] W fun e w' => e = .returned (.bool true) ∧ Bl W w' := by
  rw [arg_one tab_ok (t := 72) rfl rfl o0] at r0
  obtain ⟨m0, r0⟩ := r0
  obtain ⟨p, n, cap, vs, h0, hn, hn9, hs, hv, hb⟩ := rdVcs r0
  cases h0
  exact walk_TallyTells vs p n cap hn hn9 W hs hv hb
end Go.Proofs.Ytkgjfcjciigcgaa
