/-
  WindowPlays: a snap of one view, and what turned to each next one, make the last.
-/
import Derived.Test.YtkgjfcjciigcgaaGoView
namespace Go.Proofs.Ytkgjfcjciigcgaa
open Go.Proofs.Ytkgjfcjciigcgaa.Sl Go.RowKit
set_option linter.unusedVariables false
set_option linter.unusedSimpArgs false
set_option linter.unusedSectionVars false
set_option maxRecDepth 100000

structure RP where
  rep : Rep
  p : Option Addr
  c : Nat
  deriving Inhabited
def RP.l (x : RP) : List Value := x.rep.rl x.p x.c
theorem len_rp (x : RP) : x.l.length = 4 := rfl
structure Vw where
  p : Option Addr
  c : Nat
  xs : List Shown
  deriving Inhabited
def Vw.l (x : Vw) : List Value := [.slice x.p x.xs.length x.c]
theorem repsR_of {W : World} {rps : List RP} {p : Option Addr} (hs : SlA W 4 p rps.length (fun i => (rps.getD i default).l)) (hc : ∀ x ∈ rps, SlA W 6 x.p x.rep.cells.length (fun j => (x.rep.cells.getD j default).l)) : RepsR W p (rps.map RP.rep) := by
  have e : ∀ i, i < rps.length → (rps.map RP.rep).getD i default = (rps.getD i default).rep := fun i hi => by simp [List.getD, hi]
  refine ⟨fun i => (rps.getD i default).p, fun i => (rps.getD i default).c, ?_, fun i hi => ?_⟩
  · rw [List.length_map]
    refine hs.congr fun i hi => ?_
    rw [e i hi]
    rfl
  · rw [List.length_map] at hi
    rw [e i hi]
    exact hc _ (getD_mem rps i hi)
theorem nm_wr {w0 W : World} {M : List Nat} {K : Kl} (h : St w0 M K W) {b : Nat} (hb : b < w0.heap.size) (hM : b ∉ M) : b ∉ wrs K := fun hm => by
  obtain ⟨o, ho⟩ := wrs_mem hm
  rcases h.wr _ ho rfl with h | h
  · simp only at h; omega
  · exact hM h
/-! ### the law's replies -/
def vrep (last : List Shown) (i : Nat) (v : List Shown) : List Rep := if i = 0 then [⟨2, 3, 0, v⟩] else [⟨4, 9, 0, []⟩, ⟨3, 3 + (i : Int), 0, deltaL last v⟩]
def lastV (vs : List Vw) : Nat → List Shown
  | 0 => []
  | i + 1 => wholeL (vs.getD i default).xs
def vreps (vs : List Vw) : Nat → List Rep
  | 0 => []
  | i + 1 => vreps vs i ++ vrep (lastV vs i) i (wholeL (vs.getD i default).xs)
theorem vreps_len (vs : List Vw) : ∀ i, (vreps vs i).length ≤ 2 * i
  | 0 => by simp [vreps]
  | i + 1 => by
    have := vreps_len vs i
    have h2 : (vrep (lastV vs i) i (wholeL (vs.getD i default).xs)).length ≤ 2 := by unfold vrep; split <;> simp
    rw [vreps, List.length_append]
    omega
theorem lastV_ok (vs : List Vw) : ∀ i, Srt (lastV vs i) ∧ NB (lastV vs i)
  | 0 => ⟨List.Pairwise.nil, fun x hx => by cases hx⟩
  | i + 1 => whole_ok _
theorem vreps_play (vs : List Vw) : ∀ i, ∃ m, playAll (vreps vs i) (none, 0) = some (if i = 0 then (none, 0) else (some m, 2 + (i : Int))) ∧ (0 < i → (m.map (·.1)).Nodup ∧ ∀ c, mk m c = lk (lastV vs i) c)
  | 0 => ⟨[], rfl, fun h => absurd h (Nat.lt_irrefl 0)⟩
  | i + 1 => by
    obtain ⟨m, h1, h2⟩ := vreps_play vs i
    have hw := whole_ok (vs.getD i default).xs
    rw [vreps, playAll_append, h1]
    rcases Nat.eq_zero_or_pos i with h0 | h0
    · subst h0
      refine ⟨showAll (wholeL (vs.getD 0 default).xs) [], ?_, fun _ => ⟨showAll_keys (by simp), fun c => show_all hw.1 hw.2 c⟩⟩
      rfl
    · obtain ⟨h3, h4⟩ := h2 h0
      refine ⟨showAll (deltaL (lastV vs i) (wholeL (vs.getD i default).xs)) m, ?_, fun _ => ⟨showAll_keys h3, fun c => show_delta (lastV_ok vs i).1 hw.1 hw.2 h3 h4 c⟩⟩
      rw [if_neg (by omega), if_neg (by omega)]
      unfold vrep
      rw [if_neg (by omega)]
      simp [playAll, playStep, may]
      omega
theorem vreps_res (vs : List Vw) (i : Nat) : playR (vreps vs i) = (lastV vs i, true) := by
  obtain ⟨m, h1, h2⟩ := vreps_play vs i
  unfold playR
  rw [h1]
  rcases Nat.eq_zero_or_pos i with h0 | h0
  · subst h0; rfl
  · rw [if_neg (by omega)]
    simp only
    rw [listM_eq (h2 h0).1 (lastV_ok vs i).1 (h2 h0).2]
theorem dl_len (a b : List Shown) : (deltaL a b).length ≤ a.length + b.length := by
  have h1 := ofL_len a
  have h2 := ofL_len b
  unfold deltaL listM
  rw [List.length_map, sortC_length, List.length_map]
  unfold deltaM tB tA
  rw [List.length_append, List.length_map]
  have h3 := List.length_filter_le (turnedB (ofL a)) (ofL b)
  have h4 := List.length_filter_le (goneB (ofL b)) (ofL a)
  omega
theorem few60 {l : List Shown} (h : fewL l = true) : l.length ≤ 60 := by
  unfold fewL at h
  simp at h
  omega
theorem Sl.SlA.stm {w0 W : World} {M : List Nat} {K : Kl} {k n : Nat} {p : Option Addr} {e : Nat → List Value} (h : SlA w0 k p n e) (hM : 0 < n → pb p ∉ M) (hW : St w0 M K W) : SlA W k p n e := h.mono1 fun hn => hW.frame _ (h.lt hn) (hM hn)
theorem nm_sub {w0 W : World} {M : List Nat} {K K' : Kl} (h : St w0 M K W) (hs : K'.Sublist K) {b : Nat} (hb : b < w0.heap.size) (hM : b ∉ M) : b ∉ wrs K' := nm_wr (h.drop hs) hb hM
theorem ow_ne {w0 W : World} {M : List Nat} {K : Kl} {p q : Option Nat} {X Y : List Value} {t t' : TypeId} (h : St w0 M K W) (hs : (ow p true X t ++ ow q true Y t').Sublist K) (hq : q ≠ none) : pb (q.map ad) ∉ wrs (ow p true X t) := by
  have ha := (h.drop hs).apart
  cases q with
  | none => exact absurd rfl hq
  | some g =>
    cases p with
    | none => simp [ow, wrs]
    | some g' =>
      simp [ow] at ha
      simp [ow, wrs, pb, ad]
      exact fun e => ha e.symm
theorem ow_some {p : Option Nat} {n c k : Nat} {xs sp : List Value} (h : Ow p n c k xs sp) (hn : 0 < n) : p ≠ none := fun e => by
  subst e
  have h1 := h.nil rfl
  have h2 := h.le
  omega
set_option maxHeartbeats 4000000 in
theorem walk_WindowPlays (vs : List Vw) (p : Option Addr) (n cap : Nat) (hn : n = vs.length) (hn9 : n ≤ 9223372036854775807) (w : World) (hs : SlA w 1 p n (fun i => (vs.getD i default).l)) (hv : ∀ i, i < n → SlA w 6 (vs.getD i default).p (vs.getD i default).xs.length (fun j => ((vs.getD i default).xs.getD j default).l) ∧ (vs.getD i default).xs.length ≤ 9223372036854775807) :
    Calls Try.prog 19 #[.slice p n cap] w fun e w' => e = .returned (.bool true) ∧ Bl w w' := by
  refine enter (args := [_]) (M := []) (K := []) Try.func19 rfl Try.ntmps19 rfl (St.refl _ _) ?_
  repeat' first
    | (refine gl_gate ?_; first
      | refine gl_nil ?_
      | (refine gl_calv0 ?_; first | refine gl_yd (yd_call (gok_none rfl) rfl ent74 rfl rfl (fun _ => allT_of rfl) (fun _ W hW => ct_aliveW W)) rfl rfl ?_)
      | (refine gl_pick0 ?_; first | refine gl_yv (yv_and (gok_none rfl) rfl rfl rfl (fun _ => rfl) c_imp2) rfl rfl ?_ | refine gl_yv (yv_or (gok_none rfl) rfl rfl rfl (fun _ => rfl) c_imp2) rfl rfl ?_)
      | (refine gl_any0 ?_; refine gl_pure tab_ok rfl rfl rfl rfl rfl rfl ?_)
      | (refine gl_anyG ?_; first | refine gl_yv (yv_pure tab_ok c_gok rfl rfl c_allT) rfl rfl ?_ | refine gl_yv (yv_indexS tab_ok c_gok rfl rfl rfl rfl c_imp c_imp (by intro hq_; (try simp only [Bool.and_eq_true, Bool.not_eq_true', Bool.not_eq_false', Bool.or_eq_false_iff, Bool.or_eq_true, decide_eq_true_eq, decide_eq_false_iff_not, Bool.true_and, Bool.and_true] at hq_); omega)) rfl rfl ?_ | refine gl_yv (yv_indexS (i := 0) tab_ok c_gok rfl rfl rfl rfl c_imp c_imp (by intro hq_; (try simp only [Bool.and_eq_true, Bool.not_eq_true', Bool.not_eq_false', Bool.or_eq_false_iff, Bool.or_eq_true, decide_eq_true_eq, decide_eq_false_iff_not, Bool.true_and, Bool.and_true] at hq_); omega)) rfl rfl ?_))
    | (refine gc_gate ?_; first
      | refine gc_seq ?_
      | refine gc_region ?_)
    | (refine ge_gate ?_; first
      | ((with_reducible refine ge_gT ?_); first | with_reducible refine ge_then ?_ | with_reducible refine ge_then_exit ?_ | with_reducible refine ge_then_ret ?_))
  refine gc_cond rfl ?_ ?_ <;> intro h_
  · repeat' first
      | (refine gl_gate ?_; first
        | refine gl_nil ?_
        | (refine gl_any0 ?_; refine gl_pure tab_ok rfl rfl rfl rfl rfl rfl ?_))
      | (refine gc_gate ?_; first
        | refine gc_seq ?_
        | refine gc_region ?_
        | refine gc_ret ?_)
      | (refine ge_gate ?_; first
        | ((with_reducible refine ge_gT ?_); first | with_reducible refine ge_then ?_ | with_reducible refine ge_then_exit ?_ | with_reducible refine ge_then_ret ?_)
        | ((with_reducible refine ge_gB ?_); first | refine ge_ret1 tab_ok rfl c_rvt ?_ | refine ge_end1 tab_ok rfl c_rvt ?_ | refine ge_ret2 tab_ok rfl c_rvt c_rvt ?_ | refine ge_ret_none rfl ?_ | refine ge_end_none rfl ?_))
    intro W hW
    exact ⟨rfl, hW.below0⟩
  have hn12 : 1 ≤ n ∧ n ≤ 12 := by simp at h_; omega
  clear h_
  repeat' first
    | (refine gl_gate ?_; first
      | refine gl_nil ?_
      | (refine gl_any0 ?_; refine gl_pure tab_ok rfl rfl rfl rfl rfl rfl ?_))
    | (refine gc_gate ?_; first
      | refine gc_seq ?_
      | refine gc_region ?_
      | refine gc_block ?_
      | refine gc_skip ?_)
    | (refine ge_gate ?_; first
      | ((with_reducible refine ge_gT ?_); first | with_reducible refine ge_then ?_ | with_reducible refine ge_then_exit ?_ | with_reducible refine ge_then_ret ?_))
  refine gc_loopW (α := Nat × Option Nat × Nat × List Value × List RP × Option Addr × Nat) (fun x => [(0, true, .slice p n cap), (4, true, .slice (x.2.1.map ad) (vreps vs x.1).length x.2.2.1), (5, true, .slice x.2.2.2.2.2.1 (lastV vs x.1).length x.2.2.2.2.2.2), (6, true, .int .i64 (x.1 : Int))])
    (fun x => ow x.2.1 true (cat RP.l x.2.2.2.2.1 ++ x.2.2.2.1) 65)
    (fun x W => x.1 ≤ n ∧ x.2.2.2.2.1.map RP.rep = vreps vs x.1 ∧ Ow x.2.1 (vreps vs x.1).length x.2.2.1 4 (cat RP.l x.2.2.2.2.1) x.2.2.2.1 ∧ (∀ r ∈ x.2.2.2.2.1, SlA W 6 r.p r.rep.cells.length (fun j => (r.rep.cells.getD j default).l) ∧ (0 < r.rep.cells.length → pb r.p ∉ wrs (ow x.2.1 true (cat RP.l x.2.2.2.2.1 ++ x.2.2.2.1) 65)) ∧ r.rep.cells.length ≤ 120) ∧
      SlA W 6 x.2.2.2.2.2.1 (lastV vs x.1).length (fun j => ((lastV vs x.1).getD j default).l) ∧ (0 < (lastV vs x.1).length → pb x.2.2.2.2.2.1 ∉ wrs (ow x.2.1 true (cat RP.l x.2.2.2.2.1 ++ x.2.2.2.1) 65)) ∧ (lastV vs x.1).length ≤ 60)
    (fun x => n - x.1) (0, none, 0, [], [], none, 0) c_frs (List.Sublist.refl _) (fun W hW => ⟨Nat.zero_le _, rfl, Ow.none0, fun r (hr : r ∈ []) => absurd hr List.not_mem_nil, SlA.nil, fun h => absurd h (Nat.lt_irrefl 0), Nat.zero_le _⟩) ?_
  rintro ⟨i, q, c, sp, rps, lp, lc⟩ W1 h1 ⟨hi, hr, ho, hrs, hls, hln, hl60⟩
  dsimp only at hi hr ho hrs hls hln hl60 h1 ⊢
  have hsW := hs.st h1
  have hnm : 0 < n → pb p ∉ wrs (ow q true (cat RP.l rps ++ sp) 65) := fun h => nm_wr h1 (hs.lt h) (by simp)
  repeat' first
    | (refine gl_gate ?_; first
      | refine gl_nil ?_
      | (refine gl_idx0 ?_; refine gl_yv (yv_idxA tab_ok hsW (gok_none rfl) rfl rfl rfl rfl rfl rfl (fun _ => rfl) (fun _ => rfl) c_bnd) rfl rfl ?_)
      | (refine gl_load0 ?_; refine gl_yv (yv_ldA0 tab_ok hsW c_nm (gok_none rfl) rfl rfl (fun _ => rfl) c_bnd (fun _ => c_lds)) rfl rfl ?_)
      | (refine gl_calv0 ?_; first | refine gl_yd (yd_call (gok_none rfl) rfl ent94 rfl rfl (fun _ => allT_of rfl) (fun _ W hW => ct_FewS (vs.getD i default).xs _ _ _ W rfl ((hv i (by omega)).1.st (h1.trans hW)) (hv i (by omega)).2)) rfl rfl ?_)
      | (refine gl_any0 ?_; refine gl_pure tab_ok rfl rfl rfl rfl rfl rfl ?_))
    | (refine gc_gate ?_; first
      | refine gc_seq ?_
      | refine gc_region ?_
      | refine gc_block ?_
      | (refine gc_cond rfl ?_ ?_ <;> intro h_ <;> have hd_ := h_ <;> (try simp only [bytes_beq, cell_beq, val_beq, stamp_beq, decide_eq_true_eq, decide_eq_false_iff_not, Bool.and_eq_true, Bool.or_eq_true, Bool.or_eq_false_iff, Bool.not_eq_true', Bool.not_eq_false', Bool.not_true, Bool.not_false, Bool.false_or, Bool.true_and, Bool.and_true, Bool.or_false, beq_iff_eq, bne_iff_ne, beq_eq_false_iff_ne, bne_eq_false_iff_eq, ne_eq, Bool.false_eq_true, reduceCtorEq] at hd_) <;> (try (exfalso; omega)))
      | refine gc_exit ?_
      | refine gc_ret ?_
      | refine gc_skip ?_)
    | (refine ge_gate ?_; first
      | ((with_reducible refine ge_gT ?_); first | with_reducible refine ge_then ?_ | with_reducible refine ge_then_exit ?_ | with_reducible refine ge_then_ret ?_)
      | ((with_reducible refine ge_gK ?_); first | with_reducible refine ge_block ?_ | refine ge_block_exit ?_ | refine ge_block_pass rfl ?_ | with_reducible refine ge_block_ret ?_)
      | ((with_reducible refine ge_gB ?_); first | refine ge_ret1 tab_ok rfl c_rvt ?_ | refine ge_end1 tab_ok rfl c_rvt ?_ | refine ge_ret2 tab_ok rfl c_rvt c_rvt ?_ | refine ge_ret_none rfl ?_ | refine ge_end_none rfl ?_))
  · intro W hW
    exact ⟨rfl, (h1.trans hW).below0⟩
  · have hx60 : (vs.getD i default).xs.length ≤ 60 := few60 hd_
    have hwl := wholeL_len (vs.getD i default).xs
    have hvl := vreps_len vs i
    have hdl := dl_len (lastV vs i) (wholeL (vs.getD i default).xs)
    repeat' first
      | (refine gl_gate ?_; first
        | refine gl_nil ?_
        | (refine gl_add0 ?_; refine gl_yv (yv_add tab_ok (gok_none rfl) rfl rfl rfl rfl (fun _ => allT_of rfl) (by intro _; omega)) rfl rfl ?_)
        | (refine gl_any0 ?_; (refine gl_ev (ev_callOw rfl rfl ent95 rfl rfl rfl (fun W hW => ct_whole (vs.getD i default).xs _ _ _ W rfl ((hv i (by omega)).1.st (h1.trans hW)) (by omega)) ?_) rfl rfl; intro p1_ c1_ sp1_ hw1_))
        | (refine gl_any0 ?_; (refine gl_ev (ev_callOw rfl rfl ent96 rfl rfl rfl (fun W hW => ct_Delta (lastV vs i) (wholeL (vs.getD i default).xs) _ _ _ _ _ _ W rfl rfl (hls.stm hln hW) (slA_cat len_shown rfl hW c_oa hw1_) (by omega) (by omega)) ?_) rfl rfl; intro p2_ c2_ sp2_ hw2_))
        | (refine gl_app0 ?_; (refine gl_ev (ev_append tab_ok rfl rfl rfl rfl rfl rfl rfl rfl c_oa (ho) (c_src) c_lim c_lim ?_) rfl rfl; intro p_ c_ sp_ hw_))
        | (refine gl_bld0 ?_; (refine gl_ev (ev_buildSlice tab_ok rfl rfl rfl rfl rfl rfl rfl rfl rfl rfl ?_) rfl rfl; intro g_ hg_))
        | (refine gl_any0 ?_; refine gl_pure tab_ok rfl rfl rfl rfl rfl rfl ?_))
      | (refine gc_gate ?_; first
        | refine gc_seq ?_
        | refine gc_region ?_
        | (refine gc_cond rfl ?_ ?_ <;> intro h_ <;> have hd_ := h_ <;> (try simp only [bytes_beq, cell_beq, val_beq, stamp_beq, decide_eq_true_eq, decide_eq_false_iff_not, Bool.and_eq_true, Bool.or_eq_true, Bool.or_eq_false_iff, Bool.not_eq_true', Bool.not_eq_false', Bool.not_true, Bool.not_false, Bool.false_or, Bool.true_and, Bool.and_true, Bool.or_false, beq_iff_eq, bne_iff_ne, beq_eq_false_iff_ne, bne_eq_false_iff_eq, ne_eq, Bool.false_eq_true, reduceCtorEq] at hd_) <;> (try (exfalso; omega))))
      | (refine ge_gate ?_; first
        | ((with_reducible refine ge_gT ?_); first | with_reducible refine ge_then ?_ | with_reducible refine ge_then_exit ?_ | with_reducible refine ge_then_ret ?_)
        | ((with_reducible refine ge_gK ?_); first | with_reducible refine ge_block ?_ | refine ge_block_exit ?_ | refine ge_block_pass rfl ?_ | with_reducible refine ge_block_ret ?_))
    · have h0 : i = 0 := by omega
      subst h0
      have e1 : cat RP.l (rps ++ [⟨⟨2, 3, 0, wholeL (vs.getD 0 default).xs⟩, p1_.map ad, c1_⟩]) = cat RP.l rps ++ [.int .i64 2, .int .i64 3, .int .i64 0, .slice (p1_.map ad) (wholeL (vs.getD 0 default).xs).length c1_] := by simp [cat, RP.l, Rep.rl]
      refine ge_roundW (1, p_, c_, sp_, rps ++ [⟨⟨2, 3, 0, wholeL (vs.getD 0 default).xs⟩, p1_.map ad, c1_⟩], p1_.map ad, c1_) h1 (by show n - 1 < n - 0; omega) ?_ ?_ ?_
      · exact c_frs
      · dsimp only
        rw [e1]
        exact List.sublist_append_left _ _
      · intro W2 hW
        have hsb := List.sublist_append_left (ow p_ true (cat RP.l (rps ++ [⟨⟨2, 3, 0, wholeL (vs.getD 0 default).xs⟩, p1_.map ad, c1_⟩]) ++ sp_) 65) ((g_, true, Obj.cells #[.int .i64 2, .int .i64 3, .int .i64 0, .slice (p1_.map ad) (wholeL (vs.getD 0 default).xs).length c1_] 65) :: (ow p1_ true (cat Shown.l (wholeL (vs.getD 0 default).xs) ++ sp1_) 120 ++ []))
        rw [e1] at hsb
        have h1s : SlA W2 6 (p1_.map ad) (wholeL (vs.getD 0 default).xs).length (fun j => ((wholeL (vs.getD 0 default).xs).getD j default).l) := slA_cat len_shown rfl hW c_oa hw1_
        have h1n : 0 < (wholeL (vs.getD 0 default).xs).length → pb (p1_.map ad) ∉ wrs (ow p_ true (cat RP.l (rps ++ [⟨⟨2, 3, 0, wholeL (vs.getD 0 default).xs⟩, p1_.map ad, c1_⟩]) ++ sp_) 65) := fun h => by
          rw [e1]
          exact ow_ne hW (List.Sublist.append (List.Sublist.refl _) (List.Sublist.cons _ (List.sublist_append_left _ _))) (ow_some hw1_ h)
        refine ⟨by dsimp only; omega, ?_, ?_, ?_, h1s, h1n, by show (wholeL (vs.getD 0 default).xs).length ≤ 60; omega⟩
        · show (rps ++ _).map RP.rep = vreps vs 1
          rw [List.map_append, hr]
          rfl
        · show Ow p_ (vreps vs 1).length c_ 4 (cat RP.l (rps ++ _)) sp_
          rw [e1]
          exact hw_
        · intro r hr'
          rcases List.mem_append.1 hr' with hr' | hr'
          · obtain ⟨a1, a2, a3⟩ := hrs r hr'
            refine ⟨a1.stm a2 hW, fun h => ?_, a3⟩
            show _ ∉ wrs (ow p_ true (cat RP.l (rps ++ _) ++ sp_) 65)
            rw [e1]
            exact nm_sub hW hsb (a1.lt h) (a2 h)
          · obtain rfl := List.mem_singleton.1 hr'
            exact ⟨h1s, h1n, by show (wholeL (vs.getD 0 default).xs).length ≤ 120; omega⟩
    · have h0 : i ≠ 0 := by omega
      generalize hD : deltaL (lastV vs i) (wholeL (vs.getD i default).xs) = D at *
      have e1 : cat RP.l (rps ++ [⟨⟨4, 9, 0, []⟩, none, 0⟩, ⟨⟨3, 3 + (i : Int), 0, D⟩, p2_.map ad, c2_⟩]) = cat RP.l rps ++ [.int .i64 4, .int .i64 9, .int .i64 0, .slice none 0 0, .int .i64 3, .int .i64 (3 + (i : Int)), .int .i64 0, .slice (p2_.map ad) D.length c2_] := by simp [cat, RP.l, Rep.rl]
      have e2 : vreps vs (i + 1) = vreps vs i ++ [⟨4, 9, 0, []⟩, ⟨3, 3 + (i : Int), 0, D⟩] := by
        rw [vreps, vrep, if_neg h0, hD]
      refine ge_roundW (i + 1, p_, c_, sp_, rps ++ [⟨⟨4, 9, 0, []⟩, none, 0⟩, ⟨⟨3, 3 + (i : Int), 0, D⟩, p2_.map ad, c2_⟩], p1_.map ad, c1_) h1 (by show n - (i + 1) < n - i; omega) ?_ ?_ ?_
      · dsimp only
        rw [e2, List.length_append]
        exact c_frs
      · dsimp only
        rw [e1]
        exact List.sublist_append_left _ _
      · intro W2 hW
        have hsb := List.sublist_append_left (ow p_ true (cat RP.l (rps ++ [⟨⟨4, 9, 0, []⟩, none, 0⟩, ⟨⟨3, 3 + (i : Int), 0, D⟩, p2_.map ad, c2_⟩]) ++ sp_) 65) ((g_, true, Obj.cells #[.int .i64 4, .int .i64 9, .int .i64 0, .slice none 0 0, .int .i64 3, .int .i64 (3 + (i : Int)), .int .i64 0, .slice (p2_.map ad) D.length c2_] 65) :: (ow p2_ true (cat Shown.l D ++ sp2_) 120 ++ (ow p1_ true (cat Shown.l (wholeL (vs.getD i default).xs) ++ sp1_) 120 ++ [])))
        rw [e1] at hsb
        have h1s : SlA W2 6 (p1_.map ad) (wholeL (vs.getD i default).xs).length (fun j => ((wholeL (vs.getD i default).xs).getD j default).l) := slA_cat len_shown rfl hW c_oa hw1_
        have h2s : SlA W2 6 (p2_.map ad) D.length (fun j => (D.getD j default).l) := slA_cat len_shown rfl hW c_oa hw2_
        have h1n : 0 < (wholeL (vs.getD i default).xs).length → pb (p1_.map ad) ∉ wrs (ow p_ true (cat RP.l (rps ++ [⟨⟨4, 9, 0, []⟩, none, 0⟩, ⟨⟨3, 3 + (i : Int), 0, D⟩, p2_.map ad, c2_⟩]) ++ sp_) 65) := fun h => by
          rw [e1]
          exact ow_ne hW (List.Sublist.append (List.Sublist.refl _) (List.Sublist.cons _ (sub_app (List.sublist_append_left _ _)))) (ow_some hw1_ h)
        have h2n : 0 < D.length → pb (p2_.map ad) ∉ wrs (ow p_ true (cat RP.l (rps ++ [⟨⟨4, 9, 0, []⟩, none, 0⟩, ⟨⟨3, 3 + (i : Int), 0, D⟩, p2_.map ad, c2_⟩]) ++ sp_) 65) := fun h => by
          rw [e1]
          exact ow_ne hW (List.Sublist.append (List.Sublist.refl _) (List.Sublist.cons _ (List.sublist_append_left _ _))) (ow_some hw2_ h)
        refine ⟨by dsimp only; omega, ?_, ?_, ?_, h1s, h1n, by show (wholeL (vs.getD i default).xs).length ≤ 60; omega⟩
        · show (rps ++ _).map RP.rep = vreps vs (i + 1)
          rw [List.map_append, hr, e2]
          rfl
        · show Ow p_ (vreps vs (i + 1)).length c_ 4 (cat RP.l (rps ++ _)) sp_
          rw [e1, e2, List.length_append]
          exact hw_
        · intro r hr'
          rcases List.mem_append.1 hr' with hr' | hr'
          · obtain ⟨a1, a2, a3⟩ := hrs r hr'
            refine ⟨a1.stm a2 hW, fun h => ?_, a3⟩
            show _ ∉ wrs (ow p_ true (cat RP.l (rps ++ _) ++ sp_) 65)
            rw [e1]
            exact nm_sub hW hsb (a1.lt h) (a2 h)
          · rcases List.mem_cons.1 hr' with rfl | hr'
            · exact ⟨SlA.nil, fun h => absurd h (Nat.lt_irrefl 0), Nat.zero_le _⟩
            · obtain rfl := List.mem_singleton.1 hr'
              exact ⟨h2s, h2n, by show D.length ≤ 120; omega⟩
  obtain rfl : i = n := by omega
  have hrl : rps.length = (vreps vs i).length := by rw [← hr, List.length_map]
  have hvl := vreps_len vs i
  refine gl_ev (ev_callPl (x := (lastV vs i, true)) rfl rfl rfl rfl rfl (fun W hW => ?_) (fun q2_ c2_ sp2_ hw2_ => ?_)) rfl rfl
  · rw [← vreps_res vs i, ← hr]
    have h2 := ct_Play (w := W) (p := q.map ad) (l := rps.map RP.rep) (repsR_of (slA_cat len_rp rfl hW Oa.self (by rw [hrl]; exact ho)) (fun r hr => (hrs r hr).1.stm (hrs r hr).2.1 hW)) (by rw [hr]; omega) (fun x hx => by
      obtain ⟨r, hr2, rfl⟩ := List.mem_map.1 hx
      have := (hrs r hr2).2.2
      omega) c
    exact h2
  dsimp only at hw2_ ⊢
  repeat' first
    | (refine gl_gate ?_; first
      | refine gl_nil ?_
      | (refine gl_calvG ?_; first | refine gl_yd (yd_call c_gok rfl ent97 rfl rfl c_allT (fun _ W hW => ct_SameShown W (lastV vs i) (lastV vs i) _ _ _ _ _ _ rfl rfl (slA_cat len_shown rfl hW c_oa hw2_) (hls.stm hln hW) (by omega) (by omega))) rfl rfl ?_)
      | (refine gl_pick0 ?_; first | refine gl_yv (yv_and (gok_none rfl) rfl rfl rfl (fun _ => rfl) c_imp2) rfl rfl ?_ | refine gl_yv (yv_or (gok_none rfl) rfl rfl rfl (fun _ => rfl) c_imp2) rfl rfl ?_)
      | (refine gl_any0 ?_; refine gl_pure tab_ok rfl rfl rfl rfl rfl rfl ?_)
      | (refine gl_anyG ?_; first | refine gl_yv (yv_pure tab_ok c_gok rfl rfl c_allT) rfl rfl ?_ | refine gl_yv (yv_indexS tab_ok c_gok rfl rfl rfl rfl c_imp c_imp (by intro hq_; (try simp only [Bool.and_eq_true, Bool.not_eq_true', Bool.not_eq_false', Bool.or_eq_false_iff, Bool.or_eq_true, decide_eq_true_eq, decide_eq_false_iff_not, Bool.true_and, Bool.and_true] at hq_); omega)) rfl rfl ?_ | refine gl_yv (yv_indexS (i := 0) tab_ok c_gok rfl rfl rfl rfl c_imp c_imp (by intro hq_; (try simp only [Bool.and_eq_true, Bool.not_eq_true', Bool.not_eq_false', Bool.or_eq_false_iff, Bool.or_eq_true, decide_eq_true_eq, decide_eq_false_iff_not, Bool.true_and, Bool.and_true] at hq_); omega)) rfl rfl ?_))
    | (refine gc_gate ?_; first
      | refine gc_seq ?_
      | refine gc_region ?_
      | refine gc_ret ?_)
    | (refine ge_gate ?_; first
      | ((with_reducible refine ge_gT ?_); first | with_reducible refine ge_then ?_ | with_reducible refine ge_then_exit ?_ | with_reducible refine ge_then_ret ?_)
      | ((with_reducible refine ge_gB ?_); first | refine ge_ret1 tab_ok rfl c_rvt ?_ | refine ge_end1 tab_ok rfl c_rvt ?_ | refine ge_ret2 tab_ok rfl c_rvt c_rvt ?_ | refine ge_ret_none rfl ?_ | refine ge_end_none rfl ?_))
  intro W hW
  exact ⟨by simp, (h1.trans hW).below0⟩
theorem law_WindowPlays (W : World) {b0 : Nat} {v0 : Value} (o0 : Value.okWide Try.prog W .any b0 109 v0)
    (r0 : ∃ m, Rd tab W m 109 v0.cells.toList) : Calls Try.prog 19 #[v0] W fun e w' => e = .returned (.bool true) ∧ Bl W w' := by
  rw [arg_one tab_ok (t := 109) rfl rfl o0] at r0
  obtain ⟨m0, r0⟩ := r0
  obtain ⟨m, p, n, cap, el, _, h0, hle, hcap, _, hs, hr⟩ := rd_slA r0 rfl rfl (by decide)
  cases h0
  obtain ⟨vs, hn, hs', hv⟩ := hs.pick (f := Vw.l) (R := fun x => SlA W 6 x.p x.xs.length (fun j => (x.xs.getD j default).l) ∧ x.xs.length ≤ 9223372036854775807) fun i hi => by
    obtain ⟨q, k, c, l, h1, hk, hle2, hcap2, hs2, _⟩ := rdFlat (f := Shown.l) (hr i hi) rfl rfl (by decide) fun _ _ h => rdShown h
    subst hk
    exact ⟨⟨q, c, l⟩, h1, hs2, by show l.length ≤ _; omega⟩
  exact walk_WindowPlays vs p n cap hn.symm (by omega) W hs' (fun i hi => hv _ (getD_mem vs i (by omega)))
end Go.Proofs.Ytkgjfcjciigcgaa
