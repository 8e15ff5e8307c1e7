/-
  tally.Sum and the reference's Sum.
-/
import Derived.Test.YtkgjfcjciigcgaaGoTally
namespace Go.Proofs.Ytkgjfcjciigcgaa
open Go.Proofs.Ytkgjfcjciigcgaa.Sl Go.RowKit
set_option linter.unusedVariables false
set_option linter.unusedSimpArgs false
set_option linter.unusedSectionVars false
set_option maxRecDepth 100000

def enc (m : FM) (s : Stamp) : List Value := (⟨s, mgetD m s 0⟩ : Chg).l
theorem len_enc (m : FM) (s : Stamp) : (enc m s).length = 4 := rfl
theorem ones_enc (m : FM) (s : Stamp) : ∀ u ∈ enc m s, u.oneCell' = true := ones_chg _
theorem ct_Sum1 (a b : Chg) (w : World) : Calls Try.prog 155 #[.agg a.l.toArray, .agg b.l.toArray] w fun e w' => e = .returned (.int .i64 (cSt a.s b.s)) ∧ Bl w w' := by
  refine enter (args := [_, _]) (M := []) (K := []) Try.func155 rfl Try.ntmps155 rfl (St.refl _ _) ?_
  repeat' first
    | (refine gl_gate ?_; first
      | refine gl_nil ?_
      | (refine gl_load0 ?_; refine gl_yv (yv_load tab_ok (gok_none rfl) rfl rfl (fun _ => rfl) c_mem (fun _ => c_lds)) rfl rfl ?_)
      | (refine gl_calv0 ?_; first | refine gl_yd (yd_call (gok_none rfl) rfl ent142 rfl rfl (fun _ => allT_of rfl) (fun _ W hW => ct_CompareS _ _ _ _ _ _ W)) rfl rfl ?_)
      | (refine gl_box0 ?_; first | (refine gl_box_agg rfl rfl rfl rfl rfl ?_; intro g_ hg_) | (refine gl_box_one rfl rfl rfl rfl rfl rfl ?_; intro g_ hg_) | (refine gl_box rfl rfl rfl rfl rfl ?_; intro g_ hg_))
      | (refine gl_any0 ?_; refine gl_pure tab_ok rfl rfl rfl rfl rfl rfl ?_))
    | (refine gc_gate ?_; first
      | refine gc_seq ?_
      | refine gc_region ?_
      | refine gc_ret ?_)
    | (refine ge_gate ?_; first
      | ((with_reducible refine ge_gT ?_); first | with_reducible refine ge_then ?_ | with_reducible refine ge_then_exit ?_ | with_reducible refine ge_then_ret ?_)
      | ((with_reducible refine ge_gB ?_); first | refine ge_ret1 tab_ok rfl c_rvt ?_ | refine ge_end1 tab_ok rfl c_rvt ?_ | refine ge_ret2 tab_ok rfl c_rvt c_rvt ?_ | refine ge_ret_none rfl ?_ | refine ge_end_none rfl ?_))
  intro W hW
  exact ⟨rfl, hW.below0⟩
theorem ct_sortChgs (m : FM) {g c : Nat} {xs : List Stamp} {sp : List Value} {w : World} (hb : w.heap[g]? = some (.cells (cat (enc m) xs ++ sp).toArray 81 (0, 0))) (hsz : xs.length < 4611686018427387904) :
    Calls Try.prog 154 #[.slice (some (ad g)) xs.length c, .func (.func 155) #[] #[]] w (RetG w g (fun _ : Unit => .tuple #[]) (fun _ => .cells (cat (enc m) (sortT xs) ++ sp).toArray 81 (0, 0)) (fun _ => True)) :=
  sort_own (ρ := sortH_ren) (k := 4) sortH_lay (fun w => (tab_ok 81 _ rfl).isAgg w) (fun w => (tab_ok 81 _ rfl).sizeOf w) (len_enc m) (ones_enc m) cSt swoS 155 #[] ent155 (fun x y W => ct_Sum1 _ _ W) totS hb hsz
theorem ct_sortNoneH (c : Nat) (p : Option Addr) (fv : Value) (w : World) : Calls Try.prog 154 #[.slice p 0 c, fv] w fun e w' => e = .returned (.tuple #[]) ∧ Bl w w' :=
  (Go.Proofs.AnyF.slices_SortFunc_none (P := Try.prog) (ρ := sortH_ren) sortH_lay p c fv w).mono fun e w' ⟨h1, h2⟩ => ⟨h1, by rw [h2]; exact ⟨rfl, rfl, rfl, Nat.le_refl _, fun _ _ => rfl, Nat.le_refl _⟩⟩
def nzM (x : Stamp × Int) : Bool := x.2 != 0
def nzK (out : FM) : List Stamp := (out.filter nzM).map (·.1)
theorem nzK_snoc (out : FM) (y : Stamp × Int) : nzK (out ++ [y]) = if nzM y then nzK out ++ [y.1] else nzK out := by
  unfold nzK
  rw [List.filter_append]
  cases h : nzM y <;> simp [h]
theorem nzK_len (out : FM) : (nzK out).length ≤ out.length := by
  unfold nzK
  rw [List.length_map]
  exact List.length_filter_le ..
def sumM (m : FM) : List Chg := (sortT (nzK m)).map fun s => ⟨s, mgetD m s 0⟩
theorem cat_enc (m : FM) (l : List Stamp) : cat Chg.l (l.map fun s => ⟨s, mgetD m s 0⟩) = cat (enc m) l := by
  unfold cat
  rw [List.flatMap_map]
  rfl
theorem sumM_len (m : FM) : (sumM m).length ≤ m.length := by
  unfold sumM
  rw [List.length_map, sortT_length]
  exact nzK_len m
theorem Cnt.sum {m : FM} {l : List Chg} (h : Cnt m l) : sumM m = l := by
  have hn : (nzK m).Nodup := h.keys.sublist ((List.filter_sublist ..).map _)
  have hk : sortT (nzK m) = l.map Chg.s := by
    refine tLt_unique (sortT_lt hn) h.srt fun s => ?_
    rw [sortT_mem]
    unfold nzK
    simp only [List.mem_map, List.mem_filter, nzM, bne_iff_ne, ne_eq]
    constructor
    · rintro ⟨⟨s', v⟩, ⟨h1, h2⟩, rfl⟩
      exact ⟨⟨s', v⟩, (h.get s' v h2).1 h1, rfl⟩
    · rintro ⟨⟨s', v⟩, h1, rfl⟩
      exact ⟨(s', v), ⟨(h.get s' v (h.nz _ h1)).2 h1, h.nz _ h1⟩, rfl⟩
  unfold sumM
  rw [hk, List.map_map]
  conv => rhs; rw [← List.map_id l]
  apply List.map_congr_left
  intro x hx
  simp only [Function.comp, id]
  rw [h.eq, cnt_mem h.srt hx]
theorem accM_snoc (l : List Chg) (x : Chg) : accM (l ++ [x]) = fadd (accM l) x.s x.n := by
  unfold accM
  rw [List.foldl_append]
  rfl
theorem accR_snoc (l : List Chg) (x : Chg) : accR (l ++ [x]) = addC (accR l) x.s x.n := by
  unfold accR
  rw [List.foldl_append]
  rfl
def sumC (vs : List Vc) : List Chg := accR (allC vs)
theorem sumC_eq (vs : List Vc) : sumM (accM (allC vs)) = sumC vs := (acc_cnt _).sum
set_option maxHeartbeats 4000000 in
theorem ct_SumP {w : World} {p : Option Addr} {n cap : Nat} {vs : List Vc} (hn : n = vs.length) (hs : SlA w 1 p n (fun i => (vs.getD i default).l)) (hv : ∀ v ∈ vs, v.Ok w) (hb : n ≤ 1000) (hA : (allC vs).length ≤ 1000) (hsm : ∀ x ∈ allC vs, small x) :
    Calls Try.prog 72 #[.slice p n cap] w (RetOw w (sumC vs).length 4 (cat Chg.l (sumC vs)) 81) := by
  have hsum := sumC_eq vs
  refine enter (args := [_]) (M := []) (K := []) Try.func72 rfl Try.ntmps72 rfl (St.refl _ _) ?_
  repeat' first
    | refine gl_ev (ev_makeMap rfl rfl ?_) rfl rfl; intro gm hgm_
    | (refine gl_gate ?_; first
      | refine gl_nil ?_
      | (refine gl_any0 ?_; (refine gl_ev (ev_callOw rfl rfl ent153 rfl rfl rfl (fun W hW => ct_ConcatC hn (hs.st hW) (fun v h => (hv v h).st hW) (by omega) (by omega)) ?_) rfl rfl; intro pc cc spc hwc))
      | (refine gl_any0 ?_; refine gl_pure tab_ok rfl rfl rfl rfl rfl rfl ?_))
    | (refine gc_gate ?_; first
      | refine gc_seq ?_
      | refine gc_region ?_
      | refine gc_block ?_)
    | (refine ge_gate ?_; first
      | ((with_reducible refine ge_gT ?_); first | with_reducible refine ge_then ?_ | with_reducible refine ge_then_exit ?_ | with_reducible refine ge_then_ret ?_))
  generalize hA0 : allC vs = A at *
  refine gc_loop (α := Nat × Array MapEntry × Nat) (fun x => [(3, true, .map (some gm)), (11, true, .slice (pc.map ad) A.length cc), (12, true, .int .i64 A.length), (13, true, .int .i64 (x.1 : Int))])
    (fun x => ow pc true (cat Chg.l A ++ spc) 81 ++ [(gm, true, .map x.2.1 x.2.2)]) (fun x => x.1 ≤ A.length ∧ Mp kStamp vI (accM (A.take x.1)) x.2.1 x.2.2) (fun x => A.length - x.1) (0, #[], 0) c_frs (List.Sublist.refl _) ⟨Nat.zero_le _, Mp.nil⟩ ?_
  rintro ⟨i, es, clock⟩ ⟨hi, hm⟩
  dsimp only at hi hm ⊢
  repeat' first
    | (refine gl_gate ?_; first
      | refine gl_nil ?_
      | (refine gl_any0 ?_; refine gl_pure tab_ok rfl rfl rfl rfl rfl rfl ?_))
    | (refine gc_gate ?_; first
      | refine gc_seq ?_
      | refine gc_region ?_)
    | (refine ge_gate ?_; first
      | ((with_reducible refine ge_gT ?_); first | with_reducible refine ge_then ?_ | with_reducible refine ge_then_exit ?_ | with_reducible refine ge_then_ret ?_))
  (refine gc_cond rfl ?_ ?_ <;> intro h_ <;> have hd_ := h_ <;> (try simp only [bytes_beq, cell_beq, val_beq, stamp_beq, decide_eq_true_eq, decide_eq_false_iff_not, Bool.and_eq_true, Bool.or_eq_true, Bool.or_eq_false_iff, Bool.not_eq_true', Bool.not_eq_false', Bool.not_true, Bool.not_false, Bool.false_or, Bool.true_and, Bool.and_true, Bool.or_false, beq_iff_eq, bne_iff_ne, beq_eq_false_iff_ne, bne_eq_false_iff_eq, ne_eq, Bool.false_eq_true, reduceCtorEq] at hd_) <;> (try (exfalso; omega)))
  · have hil : i < A.length := by omega
    have hacc := accM_take A i hil
    obtain ⟨k1, k2, k3⟩ := accM_spec (A.take i) (fun y hy => hsm y (List.mem_of_mem_take hy))
    rw [List.length_take, Nat.min_eq_left (by omega)] at k2 k3
    have hx := hsm _ (getD_mem A i hil)
    unfold small at hx
    have h3 := k3 (A.getD i default).s
    repeat' first
      | (refine gl_idx0 ?_; refine gl_yv (yv_idxO tab_ok hwc (gok_none rfl) rfl rfl rfl rfl rfl rfl (fun _ => rfl) (fun _ => rfl) c_bnd) rfl rfl ?_)
      | (refine gl_load0 ?_; refine gl_yv (yv_ldO tab_ok c_oa hwc (gok_none rfl) rfl rfl (fun _ => rfl) (fun _ => lds_cat len_chg (by omega) rfl rfl rfl) c_bnd) rfl rfl ?_)
      | (refine gl_gate ?_; first
        | refine gl_nil ?_
        | (refine gl_alc0 ?_; (refine gl_alloc tab_ok rfl rfl rfl rfl rfl ?_; intro g_ hg_))
        | (refine gl_sto0 ?_; refine gl_store tab_ok rfl rfl rfl rfl rfl rfl rfl c_one rfl c_ku ?_))
      | (refine gc_gate ?_; first
        | refine gc_seq ?_
        | refine gc_region ?_
        | refine gc_block ?_
        | refine gc_skip ?_)
      | (refine ge_gate ?_; first
        | ((with_reducible refine ge_gT ?_); first | with_reducible refine ge_then ?_ | with_reducible refine ge_then_exit ?_ | with_reducible refine ge_then_ret ?_))
    generalize hmm : accM (A.take i) = m at *
    generalize A.getD i default = x at *
    have hmem : mgetD m x.s 0 = mgetD m x.s 0 := rfl
    refine gp_startC (fun W => St w [] [(g_, true, .cells x.l.toArray 81 (0, 0))] W ∧ ∃ m' es' clock', W.heap[gm]? = some (.map es' clock') ∧ Mp kStamp vI m' es' clock' ∧ mgetD m' x.s 0 = mgetD m x.s 0) (by intro W_ h_; exact ⟨h_.drop (List.Sublist.cons_cons _ (List.nil_sublist _)), _, _, _, h_.kn c_mem, by assumption, by first | exact hmem | exact mgetD_self u2 u1.keys⟩) [9] #[false, false, false, false, false, false, false, false, false, false] mixed rfl rfl c_qp ?_; intro hqp_
    refine gp_take 0 #[true, false, false, false, false, false, false, false, false, false] hqp_ rfl (by kernel_rfl) (yv_pure tab_ok c_gok rfl rfl c_allT) (by intro W_ h_; exact ⟨h_.drop (List.Sublist.cons_cons _ (List.nil_sublist _)), _, _, _, h_.kn c_mem, by assumption, by first | exact hmem | exact mgetD_self u2 u1.keys⟩) rfl rfl ?_
    refine gp_take 1 #[true, true, false, false, false, false, false, false, false, false] hqp_ rfl (by kernel_rfl) (yv_pure tab_ok c_gok rfl rfl c_allT) (by intro W_ h_; exact ⟨h_.drop (List.Sublist.cons_cons _ (List.nil_sublist _)), _, _, _, h_.kn c_mem, by assumption, by first | exact hmem | exact mgetD_self u2 u1.keys⟩) rfl rfl ?_
    refine gp_take 2 #[true, true, true, false, false, false, false, false, false, false] hqp_ rfl (by kernel_rfl) ((Yv.imp (fun _ h => h.1) (yv_load tab_ok c_gok rfl rfl c_imp c_mem (fun _ => c_lds)))) (by intro W_ h_; exact ⟨h_.drop (List.Sublist.cons_cons _ (List.nil_sublist _)), _, _, _, h_.kn c_mem, by assumption, by first | exact hmem | exact mgetD_self u2 u1.keys⟩) rfl rfl ?_
    refine gp_take 3 #[true, true, true, true, false, false, false, false, false, false] hqp_ rfl (by kernel_rfl) ((yv_lookupC (k := x.s) (u := mgetD m x.s 0) key_stamp tab_ok zero_int c_gok rfl rfl rfl rfl c_imp c_imp (fun _ h => h.2))) (by intro W_ h_; exact ⟨h_.drop (List.Sublist.cons_cons _ (List.nil_sublist _)), _, _, _, h_.kn c_mem, by assumption, by first | exact hmem | exact mgetD_self u2 u1.keys⟩) rfl rfl ?_
    refine gp_take 4 #[true, true, true, true, true, false, false, false, false, false] hqp_ rfl (by kernel_rfl) (yv_pure tab_ok c_gok rfl rfl c_allT) (by intro W_ h_; exact ⟨h_.drop (List.Sublist.cons_cons _ (List.nil_sublist _)), _, _, _, h_.kn c_mem, by assumption, by first | exact hmem | exact mgetD_self u2 u1.keys⟩) rfl rfl ?_
    refine gp_take 5 #[true, true, true, true, true, true, false, false, false, false] hqp_ rfl (by kernel_rfl) ((Yv.imp (fun _ h => h.1) (yv_load tab_ok c_gok rfl rfl c_imp c_mem (fun _ => c_lds)))) (by intro W_ h_; exact ⟨h_.drop (List.Sublist.cons_cons _ (List.nil_sublist _)), _, _, _, h_.kn c_mem, by assumption, by first | exact hmem | exact mgetD_self u2 u1.keys⟩) rfl rfl ?_
    refine gp_take 6 #[true, true, true, true, true, true, true, false, false, false] hqp_ rfl (by kernel_rfl) (yv_add tab_ok c_gok rfl rfl rfl rfl c_allT c_bnd) (by intro W_ h_; exact ⟨h_.drop (List.Sublist.cons_cons _ (List.nil_sublist _)), _, _, _, h_.kn c_mem, by assumption, by first | exact hmem | exact mgetD_self u2 u1.keys⟩) rfl rfl ?_
    refine gp_ev 7 #[true, true, true, true, true, true, true, true, false, false] rfl (by kernel_rfl) rfl rfl rfl (ev_mapEntry (k := x.s) key_stamp tab_ok zero_int rfl rfl rfl rfl rfl hm c_mem (fun es1 clock1 m1 j1 st1 u1 u2 u3 u4 => ⟨_, c_ku, ⟨(by intro W_ h_; exact ⟨h_.drop (List.Sublist.cons_cons _ (List.nil_sublist _)), _, _, _, h_.kn c_mem, by assumption, by first | exact hmem | exact mgetD_self u2 u1.keys⟩), ?_⟩⟩))
    refine gp_take 8 #[true, true, true, true, true, true, true, true, true, false] hqp_ rfl (by kernel_rfl) (yv_pure tab_ok c_gok rfl rfl c_allT) (by intro W_ h_; exact ⟨h_.drop (List.Sublist.cons_cons _ (List.nil_sublist _)), _, _, _, h_.kn c_mem, by assumption, by first | exact hmem | exact mgetD_self u2 u1.keys⟩) rfl rfl ?_
    refine gp_last0 9 #[true, true, true, true, true, true, true, true, true, true] rfl (by kernel_rfl) (by simp) rfl (ev_entryStore (u := mgetD m x.s 0 + x.n) rfl rfl rfl rfl rfl u1 u2 u4 c_mem (fun es2 u5 => ⟨_, c_ku, ?_⟩))
    refine gp_done (by kernel_rfl) ?_; clear hqp_
    repeat' first
      | (refine gl_gate ?_; first
        | refine gl_nil ?_
        | (refine gl_add0 ?_; refine gl_yv (yv_add tab_ok (gok_none rfl) rfl rfl rfl rfl (fun _ => allT_of rfl) (by intro _; omega)) rfl rfl ?_)
        | (refine gl_any0 ?_; refine gl_pure tab_ok rfl rfl rfl rfl rfl rfl ?_))
      | (refine gc_gate ?_; first
        | refine gc_region ?_)
      | (refine ge_gate ?_; first
        | ((with_reducible refine ge_gT ?_); first | with_reducible refine ge_then ?_ | with_reducible refine ge_then_exit ?_ | with_reducible refine ge_then_ret ?_)
        | ((with_reducible refine ge_gK ?_); first | with_reducible refine ge_block ?_ | refine ge_block_exit ?_ | refine ge_block_pass rfl ?_ | with_reducible refine ge_block_ret ?_))
    refine ge_round (i + 1, es2, clock1) ⟨by omega, ?_⟩ (by show A.length - (i + 1) < A.length - i; omega) c_frs (List.Sublist.cons _ (List.Sublist.refl _))
    dsimp only
    have e : fadd m x.s x.n = m1.set j1 (x.s, mgetD m x.s 0 + x.n) := (u3 _).symm
    rw [hacc, e]
    exact u5
  have hin : i = A.length := by omega
  rw [hin, List.take_length] at hm
  obtain ⟨k1, k2, k3⟩ := accM_spec A hsm
  rw [← hsum]
  generalize accM A = m at *
  repeat' first
    | refine gl_rng0 ?_; refine gl_ev (ev_range tab_ok rfl rfl rfl rfl c_mem ?_) rfl rfl; intro r_ hr_
    | (refine gl_gate ?_; first
      | refine gl_nil ?_
      | (refine gl_any0 ?_; refine gl_pure tab_ok rfl rfl rfl rfl rfl rfl ?_))
    | (refine gc_gate ?_; first
      | refine gc_seq ?_
      | refine gc_region ?_
      | refine gc_block ?_
      | refine gc_exit ?_)
    | (refine ge_gate ?_; first
      | ((with_reducible refine ge_gT ?_); first | with_reducible refine ge_then ?_ | with_reducible refine ge_then_exit ?_ | with_reducible refine ge_then_ret ?_)
      | ((with_reducible refine ge_gK ?_); first | with_reducible refine ge_block ?_ | refine ge_block_exit ?_ | refine ge_block_pass rfl ?_ | with_reducible refine ge_block_ret ?_))
  refine gc_loop (α := FM × Array Nat × Option Nat × Nat × List Value) (fun x => [(6, true, .slice (x.2.2.1.map ad) (nzK x.1).length x.2.2.2.1), (28, true, .pointer (some ⟨r_, 0, none⟩))])
    (fun x => ow x.2.2.1 true (cat (enc m) (nzK x.1) ++ x.2.2.2.2) 81 ++ [(r_, true, .mapIter (some gm) clock x.2.1 clock), (gm, true, .map es clock)]) (fun x => Rng m es x.2.1 x.1 ∧ Ow x.2.2.1 (nzK x.1).length x.2.2.2.1 4 (cat (enc m) (nzK x.1)) x.2.2.2.2 ∧ x.1.length ≤ m.length) (fun x => m.length - x.1.length) ([], #[], none, 0, []) c_frs ?_ ⟨Rng.start, Ow.none0, Nat.zero_le _⟩ ?_
  · exact List.Sublist.cons_cons _ (List.sublist_append_right _ _)
  clear h_ hd_
  rintro ⟨out, seen, q, c, sp⟩ ⟨hs1, ho, hl⟩
  dsimp only at hs1 ho hl ⊢
  have hpl := nzK_len out
  repeat' first
    | refine gl_nxt0 ?_; refine gl_ev (ev_next rfl rfl rfl c_mem c_mem hm hs1 (fun hp_ => ?_) (fun y_ seen_ y1_ y2_ y3_ y4_ => ⟨_, c_ku, ?_⟩)) rfl rfl
    | refine gl_ent0 ?_; refine gl_yv (yv_entry (gok_none rfl) rfl rfl (fun _ => rfl) c_mem c_mem hm y4_) rfl rfl ?_
    | (refine gl_app0 ?_; refine gl_ev (ev_append tab_ok rfl rfl rfl rfl rfl rfl rfl rfl c_oa ho (src_one tab_ok rfl c_mem rfl c_ones) c_lim c_lim ?_) rfl rfl; intro p_ c_ sp_ hw_)
    | (refine gl_gate ?_; first
      | refine gl_nil ?_
      | (refine gl_load0 ?_; refine gl_yv (yv_load tab_ok (gok_none rfl) rfl rfl (fun _ => rfl) c_mem (fun _ => c_lds)) rfl rfl ?_)
      | (refine gl_bld0 ?_; (refine gl_ev (ev_buildSlice tab_ok rfl rfl rfl rfl rfl rfl rfl rfl rfl rfl ?_) rfl rfl; intro g_ hg_))
      | (refine gl_alc0 ?_; (refine gl_alloc tab_ok rfl rfl rfl rfl rfl ?_; intro g_ hg_))
      | (refine gl_sto0 ?_; refine gl_store tab_ok rfl rfl rfl rfl rfl rfl rfl c_one rfl c_ku ?_)
      | (refine gl_any0 ?_; refine gl_pure tab_ok rfl rfl rfl rfl rfl rfl ?_))
    | (refine gc_gate ?_; first
      | refine gc_seq ?_
      | refine gc_region ?_
      | refine gc_true rfl ?_
      | refine gc_false rfl ?_
      | (refine gc_cond rfl ?_ ?_ <;> intro h_ <;> have hd_ := h_ <;> (try simp only [bytes_beq, cell_beq, val_beq, stamp_beq, decide_eq_true_eq, decide_eq_false_iff_not, Bool.and_eq_true, Bool.or_eq_true, Bool.or_eq_false_iff, Bool.not_eq_true', Bool.not_eq_false', Bool.not_true, Bool.not_false, Bool.false_or, Bool.true_and, Bool.and_true, Bool.or_false, beq_iff_eq, bne_iff_ne, beq_eq_false_iff_ne, bne_eq_false_iff_eq, ne_eq, Bool.false_eq_true, reduceCtorEq] at hd_) <;> (try (exfalso; omega)))
      | refine gc_block ?_
      | refine gc_exit ?_
      | refine gc_skip ?_)
    | (refine ge_gate ?_; first
      | ((with_reducible refine ge_gT ?_); first | with_reducible refine ge_then ?_ | with_reducible refine ge_then_exit ?_ | with_reducible refine ge_then_ret ?_)
      | ((with_reducible refine ge_gK ?_); first | with_reducible refine ge_block ?_ | refine ge_block_exit ?_ | refine ge_block_pass rfl ?_ | with_reducible refine ge_block_ret ?_))
  · have hkeys : (nzK out).Nodup := ((hp_.map (·.1)).nodup_iff.2 k1).sublist ((List.filter_sublist ..).map _)
    have hsort : sortT (nzK out) = sortT (nzK m) := sortT_of_perm hkeys ((hp_.filter _).map _)
    have hlen2 : (sumM m).length = (nzK out).length := by unfold sumM; rw [List.length_map, ← hsort, sortT_length]
    have hcat : cat Chg.l (sumM m) = cat (enc m) (sortT (nzK out)) := by unfold sumM; rw [cat_enc, hsort]
    rw [hlen2, hcat]
    rcases q with _ | g2
    · have h1 := ho.nil rfl
      have h2 := ho.le
      have h3 : nzK out = [] := List.eq_nil_of_length_eq_zero (by omega)
      generalize nzK out = X at *
      subst h3
      repeat' first
        | (refine gl_gate ?_; first
          | refine gl_nil ?_
          | (refine gl_calv0 ?_; first | refine gl_yd (yd_call (gok_none rfl) rfl ent154 rfl rfl (fun _ => allT_of rfl) (fun _ W hW => ct_sortNoneH c none _ W)) rfl rfl ?_)
          | (refine gl_any0 ?_; refine gl_pure tab_ok rfl rfl rfl rfl rfl rfl ?_))
        | (refine gc_gate ?_; first
          | refine gc_seq ?_
          | refine gc_region ?_
          | refine gc_ret ?_)
        | (refine ge_gate ?_; first
          | ((with_reducible refine ge_gT ?_); first | with_reducible refine ge_then ?_ | with_reducible refine ge_then_exit ?_ | with_reducible refine ge_then_ret ?_)
          | ((with_reducible refine ge_gB ?_); first | refine ge_ret1 tab_ok rfl c_rvt ?_ | refine ge_end1 tab_ok rfl c_rvt ?_ | refine ge_ret2 tab_ok rfl c_rvt c_rvt ?_ | refine ge_ret_none rfl ?_ | refine ge_end_none rfl ?_))
      intro W hW
      subst h1
      have h5 : sp = [] := List.eq_nil_of_length_eq_zero (by have := ho.room; simpa using this)
      subst h5
      exact ⟨none, 0, [], rfl, ⟨by simp [sortT, cat], rfl, Nat.le_refl _, fun _ => rfl⟩, hW.drop (List.nil_sublist _)⟩
    · refine gl_ev (ev_callG (val := fun _ : Unit => .tuple #[]) (ob := fun _ => .cells (cat (enc m) (sortT (nzK out)) ++ sp).toArray 81 (0, 0)) (φ := fun _ => True) (g := g2) (o1 := .cells (cat (enc m) (nzK out) ++ sp).toArray 81 (0, 0)) rfl rfl ent154 rfl rfl rfl (fun W hW => ct_sortChgs m (g := g2) (c := c) (xs := nzK out) (sp := sp) (w := W) (hW.kn (wr := true) c_mem) (by omega)) (fun x hx => ⟨_, c_ku, ?_⟩)) rfl rfl
      repeat' first
        | (refine gl_gate ?_; first
          | refine gl_nil ?_
          | (refine gl_any0 ?_; refine gl_pure tab_ok rfl rfl rfl rfl rfl rfl ?_))
        | (refine gc_gate ?_; first
          | refine gc_seq ?_
          | refine gc_region ?_
          | refine gc_ret ?_)
        | (refine ge_gate ?_; first
          | ((with_reducible refine ge_gT ?_); first | with_reducible refine ge_then ?_ | with_reducible refine ge_then_exit ?_ | with_reducible refine ge_then_ret ?_)
          | ((with_reducible refine ge_gB ?_); first | refine ge_ret1 tab_ok rfl c_rvt ?_ | refine ge_end1 tab_ok rfl c_rvt ?_ | refine ge_ret2 tab_ok rfl c_rvt c_rvt ?_ | refine ge_ret_none rfl ?_ | refine ge_end_none rfl ?_))
      intro W hW
      exact ⟨some g2, c, sp, rfl, ⟨by rw [cat_length (len_enc m), sortT_length], ho.room, ho.le, ho.nil⟩, hW.drop (List.Sublist.cons_cons _ (List.nil_sublist _))⟩
  · have hy : mgetD m y_.1 0 = y_.2 := by
      rw [mgetD_mkO, mkO_of_mem k1 (show (y_.1, y_.2) ∈ m from y1_)]
      rfl
    have e : nzK (out ++ [y_]) = nzK out ++ [y_.1] := by rw [nzK_snoc, if_pos (show nzM y_ = true from h_)]
    have e2 : cat (enc m) (nzK out ++ [y_.1]) = cat (enc m) (nzK out) ++ (⟨y_.1, y_.2⟩ : Chg).l := by
      rw [cat_snoc]
      unfold enc
      rw [hy]
    refine ge_round (out ++ [y_], seen_, p_, c_, sp_) ⟨y4_, ?_, by rw [List.length_append]; exact y3_⟩ (by show m.length - (out ++ [y_]).length < m.length - out.length; rw [List.length_append]; simp; omega) ?_ ?_
    · dsimp only
      rw [e, List.length_append, e2]
      exact hw_
    · dsimp only
      rw [e, List.length_append]
      exact c_frs
    · dsimp only
      rw [e, e2]
      exact List.Sublist.append (List.Sublist.refl _) (List.Sublist.cons _ (List.Sublist.cons _ (List.Sublist.refl _)))
  · have e : nzK (out ++ [y_]) = nzK out := by rw [nzK_snoc, if_neg (show ¬ nzM y_ = true by rw [show nzM y_ = false from h_]; simp)]
    refine ge_round (out ++ [y_], seen_, q, c, sp) ⟨y4_, ?_, by rw [List.length_append]; exact y3_⟩ (by show m.length - (out ++ [y_]).length < m.length - out.length; rw [List.length_append]; simp; omega) ?_ ?_
    all_goals
      dsimp only
      rw [e]
    · exact ho
    · exact c_frs
    · exact List.Sublist.cons _ (List.Sublist.refl _)
set_option maxHeartbeats 4000000 in
theorem ct_SumR {w : World} {p : Option Addr} {n cap : Nat} {vs : List Vc} (hn : n = vs.length) (hs : SlA w 1 p n (fun i => (vs.getD i default).l)) (hv : ∀ v ∈ vs, v.Ok w) (hb : n ≤ 1000) (hA : (allC vs).length ≤ 1000) (hsm : ∀ x ∈ allC vs, small x) :
    Calls Try.prog 73 #[.slice p n cap] w (RetOw w (sumC vs).length 4 (cat Chg.l (sumC vs)) 82) := by
  have hlen : ∀ i, i < vs.length → (allC (vs.take i)).length + (vs.getD i default).xs.length ≤ (allC vs).length := fun i hi => by
    rw [← List.length_append, ← allC_take vs i hi]
    conv => rhs; rw [← List.take_append_drop (i + 1) vs]
    unfold allC
    rw [List.flatMap_append, List.length_append]
    omega
  have hsub : ∀ i j, i < vs.length → ∀ x ∈ allC (vs.take i) ++ (vs.getD i default).xs.take j, small x := fun i j hi x hx => by
    refine hsm x ?_
    rcases List.mem_append.1 hx with hx | hx
    · obtain ⟨v, h1, h2⟩ := List.mem_flatMap.1 hx
      exact List.mem_flatMap.2 ⟨v, List.mem_of_mem_take h1, h2⟩
    · exact List.mem_flatMap.2 ⟨_, getD_mem vs i hi, List.mem_of_mem_take hx⟩
  refine enter (args := [_]) (M := []) (K := []) Try.func73 rfl Try.ntmps73 rfl (St.refl _ _) ?_
  repeat' first
    | (refine gl_gate ?_; first
      | refine gl_nil ?_
      | (refine gl_box0 ?_; first | (refine gl_box_agg rfl rfl rfl rfl rfl ?_; intro g_ hg_) | (refine gl_box_one rfl rfl rfl rfl rfl rfl ?_; intro g_ hg_) | (refine gl_box rfl rfl rfl rfl rfl ?_; intro g_ hg_))
      | (refine gl_any0 ?_; refine gl_pure tab_ok rfl rfl rfl rfl rfl rfl ?_))
    | (refine gc_gate ?_; first
      | refine gc_seq ?_
      | refine gc_region ?_
      | refine gc_block ?_)
    | (refine ge_gate ?_; first
      | ((with_reducible refine ge_gT ?_); first | with_reducible refine ge_then ?_ | with_reducible refine ge_then_exit ?_ | with_reducible refine ge_then_ret ?_))
  generalize g_ = gr at *
  refine gc_loop (α := Nat × Option Nat × Nat × List Value) (fun x => [(0, true, .slice p n cap), (3, true, .pointer (some ⟨gr, 0, none⟩)), (4, true, .int .i64 (x.1 : Int))])
    (fun x => FrK gr x.2.1 x.2.2.1 (accR (allC (vs.take x.1))) x.2.2.2) (fun x => x.1 ≤ n ∧ Ow x.2.1 (accR (allC (vs.take x.1))).length x.2.2.1 4 (cat Chg.l (accR (allC (vs.take x.1)))) x.2.2.2) (fun x => n - x.1) (0, none, 0, []) c_frs (List.Sublist.refl _) ⟨Nat.zero_le _, Ow.none0⟩ ?_
  rintro ⟨i, q, c, sp⟩ ⟨hi, ho⟩
  dsimp only at hi ho ⊢
  repeat' first
    | (refine gl_gate ?_; first
      | refine gl_nil ?_
      | (refine gl_any0 ?_; refine gl_pure tab_ok rfl rfl rfl rfl rfl rfl ?_))
    | (refine gc_gate ?_; first
      | refine gc_seq ?_
      | refine gc_region ?_)
    | (refine ge_gate ?_; first
      | ((with_reducible refine ge_gT ?_); first | with_reducible refine ge_then ?_ | with_reducible refine ge_then_exit ?_ | with_reducible refine ge_then_ret ?_))
  (refine gc_cond rfl ?_ ?_ <;> intro h_ <;> have hd_ := h_ <;> (try simp only [bytes_beq, cell_beq, val_beq, stamp_beq, decide_eq_true_eq, decide_eq_false_iff_not, Bool.and_eq_true, Bool.or_eq_true, Bool.or_eq_false_iff, Bool.not_eq_true', Bool.not_eq_false', Bool.not_true, Bool.not_false, Bool.false_or, Bool.true_and, Bool.and_true, Bool.or_false, beq_iff_eq, bne_iff_ne, beq_eq_false_iff_ne, bne_eq_false_iff_eq, ne_eq, Bool.false_eq_true, reduceCtorEq] at hd_) <;> (try (exfalso; omega)))
  · have hil : i < vs.length := by omega
    have hvs := (hv _ (getD_mem vs i hil)).sl
    have hle := hlen i hil
    have hal := allC_take vs i hil
    repeat' first
      | (refine gl_gate ?_; first
        | refine gl_nil ?_
        | (refine gl_any0 ?_; refine gl_pure tab_ok rfl rfl rfl rfl rfl rfl ?_))
      | (refine gc_gate ?_; first
        | refine gc_seq ?_
        | refine gc_region ?_
        | refine gc_block ?_
        | refine gc_skip ?_)
      | (refine ge_gate ?_; first
        | ((with_reducible refine ge_gT ?_); first | with_reducible refine ge_then ?_ | with_reducible refine ge_then_exit ?_ | with_reducible refine ge_then_ret ?_))
    refine gc_loop (α := Nat × Option Nat × Nat × List Value) (fun x => [(0, true, .slice p n cap), (3, true, .pointer (some ⟨gr, 0, none⟩)), (4, true, .int .i64 (i : Int)), (5, true, .int .i64 (x.1 : Int))])
      (fun x => FrK gr x.2.1 x.2.2.1 (accR (allC (vs.take i) ++ (vs.getD i default).xs.take x.1)) x.2.2.2) (fun x => x.1 ≤ (vs.getD i default).xs.length ∧ Ow x.2.1 (accR (allC (vs.take i) ++ (vs.getD i default).xs.take x.1)).length x.2.2.1 4 (cat Chg.l (accR (allC (vs.take i) ++ (vs.getD i default).xs.take x.1))) x.2.2.2) (fun x => (vs.getD i default).xs.length - x.1) (0, q, c, sp) c_frs ?_ ⟨Nat.zero_le _, by rw [List.take_zero, List.append_nil]; exact ho⟩ ?_
    · dsimp only
      rw [List.take_zero, List.append_nil]
      exact List.Sublist.refl _
    clear h_ hd_ ho sp c q
    rintro ⟨j, q, c, sp⟩ ⟨hj, ho⟩
    dsimp only at hj ho ⊢
    obtain ⟨r1, r2⟩ := accR_spec _ (hsub i j hil)
    have hPl : (allC (vs.take i) ++ (vs.getD i default).xs.take j).length ≤ 1000 := by rw [List.length_append, List.length_take]; omega
    repeat' first
      | (refine gl_gate ?_; first
        | refine gl_nil ?_
        | (refine gl_idx0 ?_; refine gl_yv (yv_idxA tab_ok hs (gok_none rfl) rfl rfl rfl rfl rfl rfl (fun _ => rfl) (fun _ => rfl) c_bnd) rfl rfl ?_)
        | (refine gl_load0 ?_; refine gl_yv (yv_ldA0 tab_ok hs c_nm (gok_none rfl) rfl rfl (fun _ => rfl) c_bnd (fun _ => c_lds)) rfl rfl ?_)
        | (refine gl_any0 ?_; refine gl_pure tab_ok rfl rfl rfl rfl rfl rfl ?_))
      | (refine gc_gate ?_; first
        | refine gc_seq ?_
        | refine gc_region ?_)
      | (refine ge_gate ?_; first
        | ((with_reducible refine ge_gT ?_); first | with_reducible refine ge_then ?_ | with_reducible refine ge_then_exit ?_ | with_reducible refine ge_then_ret ?_))
    (refine gc_cond rfl ?_ ?_ <;> intro h_ <;> have hd_ := h_ <;> (try simp only [bytes_beq, cell_beq, val_beq, stamp_beq, decide_eq_true_eq, decide_eq_false_iff_not, Bool.and_eq_true, Bool.or_eq_true, Bool.or_eq_false_iff, Bool.not_eq_true', Bool.not_eq_false', Bool.not_true, Bool.not_false, Bool.false_or, Bool.true_and, Bool.and_true, Bool.or_false, beq_iff_eq, bne_iff_ne, beq_eq_false_iff_ne, bne_eq_false_iff_eq, ne_eq, Bool.false_eq_true, reduceCtorEq] at hd_) <;> (try (exfalso; omega)))
    · have hjl : j < (vs.getD i default).xs.length := by omega
      have hx := hsm _ (List.mem_flatMap.2 ⟨_, getD_mem vs i hil, getD_mem (vs.getD i default).xs j hjl⟩)
      unfold small at hx
      have hP : allC (vs.take i) ++ (vs.getD i default).xs.take (j + 1) = (allC (vs.take i) ++ (vs.getD i default).xs.take j) ++ [(vs.getD i default).xs.getD j default] := by rw [take_succD _ _ hjl, List.append_assoc]
      have hr := accR_snoc (allC (vs.take i) ++ (vs.getD i default).xs.take j) ((vs.getD i default).xs.getD j default)
      rw [← hP] at hr
      repeat' first
        | (refine gc_gate ?_; first
          | refine gc_seq ?_
          | refine gc_block ?_
          | refine gc_skip ?_)
        | (refine ge_gate ?_; first
          | ((with_reducible refine ge_gT ?_); first | with_reducible refine ge_then ?_ | with_reducible refine ge_then_exit ?_ | with_reducible refine ge_then_ret ?_))
      refine gp_start [17] #[false, false, false, false, false, false, false, false, false, false, false, false, false, false, false, false, false, false] mixed rfl rfl c_qp ?_; intro hqp_
      refine gp_take 0 #[true, false, false, false, false, false, false, false, false, false, false, false, false, false, false, false, false, false] hqp_ rfl (by kernel_rfl) (yv_pure tab_ok c_gok rfl rfl c_allT) c_cl rfl rfl ?_
      refine gp_take 1 #[true, true, false, false, false, false, false, false, false, false, false, false, false, false, false, false, false, false] hqp_ rfl (by kernel_rfl) (yv_pure tab_ok c_gok rfl rfl c_allT) c_cl rfl rfl ?_
      refine gp_take 2 #[true, true, true, false, false, false, false, false, false, false, false, false, false, false, false, false, false, false] hqp_ rfl (by kernel_rfl) (yv_pure tab_ok c_gok rfl rfl c_allT) c_cl rfl rfl ?_
      refine gp_take 3 #[true, true, true, true, false, false, false, false, false, false, false, false, false, false, false, false, false, false] hqp_ rfl (by kernel_rfl) (yv_idxA tab_ok hs c_gok rfl rfl rfl rfl rfl rfl c_imp c_imp c_bnd) c_cl rfl rfl ?_
      refine gp_take 4 #[true, true, true, true, true, false, false, false, false, false, false, false, false, false, false, false, false, false] hqp_ rfl (by kernel_rfl) (yv_ldA0 tab_ok hs c_nm c_gok rfl rfl c_imp c_bnd (fun _ => c_lds)) c_cl rfl rfl ?_
      refine gp_take 5 #[true, true, true, true, true, true, false, false, false, false, false, false, false, false, false, false, false, false] hqp_ rfl (by kernel_rfl) (yv_pure tab_ok c_gok rfl rfl c_allT) c_cl rfl rfl ?_
      refine gp_take 6 #[true, true, true, true, true, true, true, false, false, false, false, false, false, false, false, false, false, false] hqp_ rfl (by kernel_rfl) (yv_idxA tab_ok hvs c_gok rfl rfl rfl rfl rfl rfl c_imp c_imp c_bnd) c_cl rfl rfl ?_
      refine gp_take 7 #[true, true, true, true, true, true, true, true, false, false, false, false, false, false, false, false, false, false] hqp_ rfl (by kernel_rfl) (yv_pure tab_ok c_gok rfl rfl c_allT) c_cl rfl rfl ?_
      refine gp_take 8 #[true, true, true, true, true, true, true, true, true, false, false, false, false, false, false, false, false, false] hqp_ rfl (by kernel_rfl) (yv_ldA tab_ok hvs c_nm c_gok rfl rfl c_imp c_bnd (fun _ => c_lds)) c_cl rfl rfl ?_
      refine gp_take 9 #[true, true, true, true, true, true, true, true, true, true, false, false, false, false, false, false, false, false] hqp_ rfl (by kernel_rfl) (yv_pure tab_ok c_gok rfl rfl c_allT) c_cl rfl rfl ?_
      refine gp_take 10 #[true, true, true, true, true, true, true, true, true, true, true, false, false, false, false, false, false, false] hqp_ rfl (by kernel_rfl) (yv_pure tab_ok c_gok rfl rfl c_allT) c_cl rfl rfl ?_
      refine gp_take 11 #[true, true, true, true, true, true, true, true, true, true, true, true, false, false, false, false, false, false] hqp_ rfl (by kernel_rfl) (yv_idxA tab_ok hs c_gok rfl rfl rfl rfl rfl rfl c_imp c_imp c_bnd) c_cl rfl rfl ?_
      refine gp_take 12 #[true, true, true, true, true, true, true, true, true, true, true, true, true, false, false, false, false, false] hqp_ rfl (by kernel_rfl) (yv_ldA0 tab_ok hs c_nm c_gok rfl rfl c_imp c_bnd (fun _ => c_lds)) c_cl rfl rfl ?_
      refine gp_take 13 #[true, true, true, true, true, true, true, true, true, true, true, true, true, true, false, false, false, false] hqp_ rfl (by kernel_rfl) (yv_pure tab_ok c_gok rfl rfl c_allT) c_cl rfl rfl ?_
      refine gp_take 14 #[true, true, true, true, true, true, true, true, true, true, true, true, true, true, true, false, false, false] hqp_ rfl (by kernel_rfl) (yv_idxA tab_ok hvs c_gok rfl rfl rfl rfl rfl rfl c_imp c_imp c_bnd) c_cl rfl rfl ?_
      refine gp_take 15 #[true, true, true, true, true, true, true, true, true, true, true, true, true, true, true, true, false, false] hqp_ rfl (by kernel_rfl) (yv_pure tab_ok c_gok rfl rfl c_allT) c_cl rfl rfl ?_
      refine gp_take 16 #[true, true, true, true, true, true, true, true, true, true, true, true, true, true, true, true, true, false] hqp_ rfl (by kernel_rfl) (yv_ldA tab_ok hvs c_nm c_gok rfl rfl c_imp c_bnd (fun _ => c_lds)) c_cl rfl rfl ?_
      refine gp_last 17 #[true, true, true, true, true, true, true, true, true, true, true, true, true, true, true, true, true, true] rfl (by kernel_rfl) (by simp) rfl rfl (ev_addR (g := gr) (q := q) (c := c) (l := accR (allC (vs.take i) ++ (vs.getD i default).xs.take j)) (sp := sp) (s := ((vs.getD i default).xs.getD j default).s) (n := ((vs.getD i default).xs.getD j default).n) (Kx := []) rfl rfl rfl rfl rfl (by rw [List.append_nil]) ho (by omega) (by unfold In64; omega) (fun x hx => by unfold In64; have := r2 x hx; omega) (fun q2 c2 sp2 ho2 => ?_))
      refine gp_done (by kernel_rfl) ?_; clear hqp_
      repeat' first
        | (refine gl_gate ?_; first
          | refine gl_nil ?_
          | (refine gl_add0 ?_; refine gl_yv (yv_add tab_ok (gok_none rfl) rfl rfl rfl rfl (fun _ => allT_of rfl) (by intro _; omega)) rfl rfl ?_)
          | (refine gl_any0 ?_; refine gl_pure tab_ok rfl rfl rfl rfl rfl rfl ?_))
        | (refine gc_gate ?_; first
          | refine gc_region ?_)
        | (refine ge_gate ?_; first
          | ((with_reducible refine ge_gT ?_); first | with_reducible refine ge_then ?_ | with_reducible refine ge_then_exit ?_ | with_reducible refine ge_then_ret ?_)
          | ((with_reducible refine ge_gK ?_); first | with_reducible refine ge_block ?_ | refine ge_block_exit ?_ | refine ge_block_pass rfl ?_ | with_reducible refine ge_block_ret ?_))
      refine ge_round (j + 1, q2, c2, sp2) ⟨by omega, ?_⟩ (by show (vs.getD i default).xs.length - (j + 1) < (vs.getD i default).xs.length - j; omega) c_frs ?_
      · dsimp only
        rw [hr]
        exact ho2
      · dsimp only
        rw [hr]
        exact List.sublist_append_left _ _
    · repeat' first
        | (refine gl_gate ?_; first
          | refine gl_nil ?_
          | (refine gl_add0 ?_; refine gl_yv (yv_add tab_ok (gok_none rfl) rfl rfl rfl rfl (fun _ => allT_of rfl) (by intro _; omega)) rfl rfl ?_)
          | (refine gl_any0 ?_; refine gl_pure tab_ok rfl rfl rfl rfl rfl rfl ?_))
        | (refine gc_gate ?_; first
          | refine gc_region ?_
          | refine gc_exit ?_)
        | (refine ge_gate ?_; first
          | ((with_reducible refine ge_gT ?_); first | with_reducible refine ge_then ?_ | with_reducible refine ge_then_exit ?_ | with_reducible refine ge_then_ret ?_)
          | ((with_reducible refine ge_gK ?_); first | with_reducible refine ge_block ?_ | refine ge_block_exit ?_ | refine ge_block_pass rfl ?_ | with_reducible refine ge_block_ret ?_))
      have h1 : j = (vs.getD i default).xs.length := by omega
      rw [h1, List.take_length, ← hal] at ho ⊢
      exact ge_round (i + 1, q, c, sp) ⟨by omega, ho⟩ (by show n - (i + 1) < n - i; omega) c_frs (List.Sublist.refl _)
  · repeat' first
      | (refine gl_gate ?_; first
        | refine gl_nil ?_
        | (refine gl_load0 ?_; refine gl_yv (yv_load tab_ok (gok_none rfl) rfl rfl (fun _ => rfl) c_mem (fun _ => c_lds)) rfl rfl ?_)
        | (refine gl_any0 ?_; refine gl_pure tab_ok rfl rfl rfl rfl rfl rfl ?_))
      | (refine gc_gate ?_; first
        | refine gc_seq ?_
        | refine gc_region ?_
        | refine gc_exit ?_
        | refine gc_ret ?_)
      | (refine ge_gate ?_; first
        | ((with_reducible refine ge_gT ?_); first | with_reducible refine ge_then ?_ | with_reducible refine ge_then_exit ?_ | with_reducible refine ge_then_ret ?_)
        | ((with_reducible refine ge_gK ?_); first | with_reducible refine ge_block ?_ | refine ge_block_exit ?_ | refine ge_block_pass rfl ?_ | with_reducible refine ge_block_ret ?_)
        | ((with_reducible refine ge_gB ?_); first | refine ge_ret1 tab_ok rfl c_rvt ?_ | refine ge_end1 tab_ok rfl c_rvt ?_ | refine ge_ret2 tab_ok rfl c_rvt c_rvt ?_ | refine ge_ret_none rfl ?_ | refine ge_end_none rfl ?_))
    intro W hW
    have h1 : i = vs.length := by omega
    rw [h1, List.take_length] at ho hW ⊢
    exact ⟨q, c, sp, rfl, ho, hW.drop (List.sublist_cons_self _ _)⟩
end Go.Proofs.Ytkgjfcjciigcgaa
