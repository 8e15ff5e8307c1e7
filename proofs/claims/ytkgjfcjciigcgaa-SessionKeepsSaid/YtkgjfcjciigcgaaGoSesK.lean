/-
  SessionKeeps: who takes all that waits has what is seen. First: what the walk needs.
-/
import Derived.Test.YtkgjfcjciigcgaaGoSesH
namespace Go.Proofs.Ytkgjfcjciigcgaa
open Go.Proofs.Ytkgjfcjciigcgaa.Sl Go.RowKit
set_option linter.unusedVariables false
set_option linter.unusedSimpArgs false
set_option linter.unusedSectionVars false
set_option maxRecDepth 100000

section
attribute [local semireducible] GC GE GL GQ
variable {P : Program} {N : Nat} {w0 W W' : World} {M : List Nat} {F : Fl} {K Kx : Kl} {o : Oper}
theorem Sl.gc_im {c : Code} {Q : Exit → Act → World → Prop} (K' : Kl) (hs : Sel K' K) (h : ∀ W, St w0 M K W → St w0 M K' W → GC P c Q N W (wrs K') F K') : GC P c Q N w0 M F K := fun a W hF hW => h W hW (hs.st hW) a W hF (hs.st hW).base
end
section
attribute [local semireducible] GC GE GL GQ
variable {P : Program} {N : Nat} {w0 W W' : World} {M : List Nat} {F : Fl} {K Kx : Kl} {o : Oper}
theorem Sl.gl_im {l rest : List Oper} {Q : Exit → Act → World → Prop} (K' : Kl) (hs : Sel K' K) (h : ∀ W, St w0 M K W → St w0 M K' W → GL P l Q rest N W (wrs K') F K') : GL P l Q rest N w0 M F K := fun a W hF hW => h W hW (hs.st hW) a W hF (hs.st hW).base
end
theorem Im.drop {w0 W : World} {M : List Nat} {K K' : Kl} {p : Option Nat} {l : List Shown} {c : Nat} {sp : List Value} (hW : St w0 M K W) (hs : Sel (ow p true (cat Shown.l l ++ sp) 120 ++ K') K) (hw : Ow p l.length c 6 (cat Shown.l l) sp) (hl : l.length ≤ 1000) : Im W (wrs K') (p.map ad) l := by
  have h := hs.st hW
  refine ⟨slA_cat len_shown rfl h Oa.hd hw, fun h0 hm => ?_, hl⟩
  have hp := ow_some hw h0
  cases p with
  | none => exact hp rfl
  | some g =>
    rw [pb_map rfl] at hm
    obtain ⟨o, ho⟩ := wrs_mem hm
    have ha := h.apart
    exact (List.pairwise_append.1 ha).2.2 (g, true, .cells (cat Shown.l l ++ sp).toArray 120 (0, 0)) (by simp [ow]) _ ho rfl
/-- What a view's cells come to: one behind the other. -/
def setAll (l : List Shown) : List Shown := l.foldl (fun m x => setS m x.cell x.val) []
theorem setAll_take {l : List Shown} {i : Nat} (hi : i < l.length) : setAll (l.take (i + 1)) = setS (setAll (l.take i)) (l.getD i default).cell (l.getD i default).val := by
  unfold setAll
  rw [take_succD _ _ hi, List.foldl_append]
  rfl
theorem setAll_srt (l : List Shown) : Srt (setAll l) := by
  have key : ∀ (l s : List Shown), Srt s → Srt (l.foldl (fun m x => setS m x.cell x.val) s) := by
    intro l
    induction l with
    | nil => intro s h; exact h
    | cons x r ih => intro s h; exact ih _ h.set
  exact key l [] List.Pairwise.nil
theorem setAll_len (l : List Shown) : (setAll l).length ≤ l.length := by
  have key : ∀ (l s : List Shown), (l.foldl (fun m x => setS m x.cell x.val) s).length ≤ s.length + l.length := by
    intro l
    induction l with
    | nil => intro s; simp
    | cons x r ih =>
      intro s
      have h1 := ih (setS s x.cell x.val)
      have h2 := setS_len s x.cell x.val
      simp only [List.foldl_cons, List.length_cons]
      omega
  unfold setAll
  simpa using key l []
theorem SG.takeS_wt (s : SG) (v : Int) (cs : List Shown) : (s.takeS v cs).wt = s.wt := by
  unfold SG.takeS
  split
  · rfl
  · split <;> rfl
theorem SG.left_le {s : SG} (h : s.l.length ≤ 8) : s.left ≤ 9 := by
  unfold SG.left
  split <;> omega
theorem and3 (x : Int) : ∃ r : Nat, r ≤ 3 ∧ IntKind.i64.wrap ↑(BitVec.ofInt IntKind.i64.bits x &&& BitVec.ofInt IntKind.i64.bits 3).toNat = (r : Int) := by
  have h3 : (BitVec.ofInt IntKind.i64.bits 3).toNat = 3 := by decide
  have h : (BitVec.ofInt IntKind.i64.bits x &&& BitVec.ofInt IntKind.i64.bits 3).toNat ≤ 3 := by
    rw [BitVec.toNat_and, h3]
    exact Nat.and_le_right
  exact ⟨_, h, wrap64 (by omega) (by omega)⟩
theorem tk_s {x : Rep} {v : Value} {W : World} {X : List Nat} (h : TkV (some x) v W X) : ∃ p c, v = .tuple #[.agg #[.int .i64 x.kind, .int .i64 x.version, .int .i64 x.err, .slice p x.cells.length c], .bool true] ∧ Im W X p x.cells := by
  obtain ⟨p, c, h1, h2⟩ := h
  exact ⟨p, c, h1, h2⟩
theorem Ses.sgle {k : Bool} {s : SX} {g : Nat} {q : Option Nat} {c : Nat} {sp : List Value} {X : List Nat} {w : World} (h : Ses k s g q c sp X w) : s.sg.l.length ≤ 8 := by
  have := h.le
  simpa [SX.sg] using this
/-- Where the law stands. -/
structure XK where
  i : Nat
  s : SX
  q : Option Nat
  c : Nat
  sp : List Value
  al : List RP
  qa : Option Nat
  ca : Nat
  spa : List Value
  pn : Option Addr
  cn : Nat
  now : List Shown
def XK.K (x : XK) (g gr : Nat) (a b : Cell) : Kl := x.s.K true g x.q x.c x.sp (ow x.qa true (cat RP.l x.al ++ x.spa) 65 ++ [(gr, true, .cells (a.l ++ b.l).toArray 55 (0, 0))])
structure InvK (g gr : Nat) (a b : Cell) (x : XK) (W : World) : Prop where
  s : Ses true x.s g x.q x.c x.sp (wrs (x.K g gr a b)) W
  oa : Ow x.qa x.al.length x.ca 4 (cat RP.l x.al) x.spa
  im : ∀ r ∈ x.al, Im W (wrs (x.K g gr a b)) r.p r.rep.cells
  now : Im W (wrs (x.K g gr a b)) x.pn x.now
  n60 : x.now.length ≤ 60
  ns : Srt x.now
  kp : Keep a b x.i x.now x.s.sg (x.al.map RP.rep)
  ok : SgOk x.s.sg
set_option maxHeartbeats 4000000 in
theorem walk_SessionKeeps (a b : Cell) (vs : List Vw) (ts : Nat → Int) (fs : Nat → Bool) (p pt pf : Option Addr) (n m k cap capt capf : Nat) (hn : n = vs.length) (hn9 : n ≤ 9223372036854775807) (hm9 : m ≤ 9223372036854775807) (hk9 : k ≤ 9223372036854775807) (w : World) (hs : SlA w 1 p n (fun i => (vs.getD i default).l)) (hst : SlA w 1 pt m (fun i => [.int .i64 (ts i)])) (hsf : SlA w 1 pf k (fun i => [.bool (fs i)])) (hts : ∀ i, i < m → In64 (ts i))
    (hv : ∀ x ∈ vs, SlA w 6 x.p x.xs.length (fun j => (x.xs.getD j default).l) ∧ x.xs.length ≤ 9223372036854775807) :
    Calls Try.prog 26 #[.agg (a.l ++ b.l).toArray, .slice p n cap, .slice pt m capt, .slice pf k capf] w fun e w' => e = .returned (.bool true) ∧ Bl w w' := by
  refine enter (args := [_, _, _, _]) (M := []) (K := []) Try.func26 rfl Try.ntmps26 rfl (St.refl _ _) ?_
  repeat' first
    | (refine gl_gate ?_; first
      | refine gl_nil ?_
      | (refine gl_load0 ?_; refine gl_yv (yv_load tab_ok (gok_none rfl) rfl rfl (fun _ => rfl) c_mem (fun _ => c_lds)) rfl rfl ?_)
      | (refine gl_calv0 ?_; first | refine gl_yd (yd_call (gok_none rfl) rfl ent55 rfl rfl (fun _ => allT_of rfl) (fun _ W hW => ct_aliveS W)) rfl rfl ?_)
      | (refine gl_pick0 ?_; first | refine gl_yv (yv_and (gok_none rfl) rfl rfl rfl (fun _ => rfl) c_imp2) rfl rfl ?_ | refine gl_yv (yv_or (gok_none rfl) rfl rfl rfl (fun _ => rfl) c_imp2) rfl rfl ?_)
      | (refine gl_box0 ?_; first | (refine gl_box_agg rfl rfl rfl rfl rfl ?_; intro g_ hg_) | (refine gl_box_one rfl rfl rfl rfl rfl rfl ?_; intro g_ hg_) | (refine gl_box rfl rfl rfl rfl rfl ?_; intro g_ hg_))
      | (refine gl_any0 ?_; refine gl_pure tab_ok rfl rfl rfl rfl rfl rfl ?_)
      | (refine gl_anyG ?_; first | refine gl_yv (yv_pure tab_ok c_gok rfl rfl c_allT) rfl rfl ?_ | refine gl_yv (yv_indexS tab_ok c_gok rfl rfl rfl rfl c_imp c_imp (by intro hq_; (try simp only [Bool.and_eq_true, Bool.not_eq_true', Bool.not_eq_false', Bool.or_eq_false_iff, Bool.or_eq_true, decide_eq_true_eq, decide_eq_false_iff_not, Bool.true_and, Bool.and_true] at hq_); omega)) rfl rfl ?_ | refine gl_yv (yv_indexS (i := 0) tab_ok c_gok rfl rfl rfl rfl c_imp c_imp (by intro hq_; (try simp only [Bool.and_eq_true, Bool.not_eq_true', Bool.not_eq_false', Bool.or_eq_false_iff, Bool.or_eq_true, decide_eq_true_eq, decide_eq_false_iff_not, Bool.true_and, Bool.and_true] at hq_); omega)) rfl rfl ?_))
    | (refine gc_gate ?_; first
      | refine gc_seq ?_
      | refine gc_region ?_
      | (refine gc_cond rfl ?_ ?_ <;> intro h_ <;> have hd_ := h_ <;> (try simp only [bytes_beq, cell_beq, val_beq, stamp_beq, decide_eq_true_eq, decide_eq_false_iff_not, Bool.and_eq_true, Bool.or_eq_true, Bool.or_eq_false_iff, Bool.not_eq_true', Bool.not_eq_false', Bool.not_true, Bool.not_false, Bool.false_or, Bool.true_and, Bool.and_true, Bool.or_false, beq_iff_eq, bne_iff_ne, beq_eq_false_iff_ne, bne_eq_false_iff_eq, ne_eq, Bool.false_eq_true, reduceCtorEq] at hd_) <;> (try (exfalso; omega)))
      | refine gc_ret ?_
      | refine gc_skip ?_)
    | (refine ge_gate ?_; first
      | ((with_reducible refine ge_gT ?_); first | with_reducible refine ge_then ?_ | with_reducible refine ge_then_exit ?_ | with_reducible refine ge_then_ret ?_)
      | ((with_reducible refine ge_gB ?_); first | refine ge_ret1 tab_ok rfl c_rvt ?_ | refine ge_end1 tab_ok rfl c_rvt ?_ | refine ge_ret2 tab_ok rfl c_rvt c_rvt ?_ | refine ge_ret_none rfl ?_ | refine ge_end_none rfl ?_))
  · intro W hW
    exact ⟨rfl, hW.below0⟩
  have hcond : n ≤ 20 ∧ n ≤ m ∧ n ≤ k := by simp at hd_; omega
  obtain ⟨hn20, hnm, hnk⟩ := hcond
  rename_i gr hgr
  generalize g_ = g at *
  cases hsm : small400 a b with
  | false =>
    refine gl_evB (evb_ses (k := true) (s := sx0) (g := g) (q := none) (c := 0) (sp := []) (V := fun x _ _ => x = .int .i64 1) (t := sx0.sg) rfl rfl ent57 rfl rfl rfl c_sa (fun W hW => by
      have := ct_WatchP sx0 g 0 none [] _ a b 0 [] none 0 W (Ses.of hW c_sa Ow.none0 (by decide) Im.nil (fun r hr => by cases hr)) Im.nil
      rw [hsm] at this
      exact this) va_c ?_) rfl rfl
    intro Wi1 Wo1 v_ s1_ q1_ c1_ sp1_ hX1 hY1 hZ1 hV_ ht1_ hs1_
    subst hV_
    repeat' first
      | (refine gl_gate ?_; first
        | refine gl_nil ?_
        | (refine gl_load0 ?_; refine gl_yv (yv_load tab_ok (gok_none rfl) rfl rfl (fun _ => rfl) c_mem (fun _ => c_lds)) rfl rfl ?_)
        | (refine gl_calv0 ?_; first | refine gl_yd (yd_call (gok_none rfl) rfl ent56 rfl rfl (fun _ => allT_of rfl) (fun _ W hW => ct_num _ W)) rfl rfl ?_)
        | (refine gl_any0 ?_; refine gl_pure tab_ok rfl rfl rfl rfl rfl rfl ?_))
      | (refine gc_gate ?_; first
        | refine gc_seq ?_
        | refine gc_region ?_
        | refine gc_true rfl ?_)
      | (refine ge_gate ?_; first
        | ((with_reducible refine ge_gT ?_); first | with_reducible refine ge_then ?_ | with_reducible refine ge_then_exit ?_ | with_reducible refine ge_then_ret ?_))
    refine gl_evB (evb_ses (k := true) (s := s1_) (g := g) (q := q1_) (c := c1_) (sp := sp1_) (V := fun x _ _ => x = .int .i64 1) (t := s1_.sg) rfl rfl ent57 rfl rfl rfl c_sa (fun W hW => by
      have := ct_WatchP s1_ g c1_ q1_ sp1_ _ a b 0 [] none 0 W (hs1_.next hW c_sa) Im.nil
      rw [hsm] at this
      exact this) va_c ?_) rfl rfl
    intro Wi2 Wo2 v_ s2_ q2_ c2_ sp2_ hX2 hY2 hZ2 hV_ ht2_ hs2_
    subst hV_
    repeat' first
      | (refine gl_gate ?_; first
        | refine gl_nil ?_
        | (refine gl_calv0 ?_; first | refine gl_yd (yd_call (gok_none rfl) rfl ent56 rfl rfl (fun _ => allT_of rfl) (fun _ W hW => ct_num _ W)) rfl rfl ?_)
        | (refine gl_any0 ?_; refine gl_pure tab_ok rfl rfl rfl rfl rfl rfl ?_))
      | (refine gc_gate ?_; first
        | refine gc_ret ?_)
      | (refine ge_gate ?_; first
        | ((with_reducible refine ge_gT ?_); first | with_reducible refine ge_then ?_ | with_reducible refine ge_then_exit ?_ | with_reducible refine ge_then_ret ?_)
        | ((with_reducible refine ge_gB ?_); first | refine ge_ret1 tab_ok rfl c_rvt ?_ | refine ge_end1 tab_ok rfl c_rvt ?_ | refine ge_ret2 tab_ok rfl c_rvt c_rvt ?_ | refine ge_ret_none rfl ?_ | refine ge_end_none rfl ?_))
    intro W hW
    exact ⟨rfl, ((hY1.trans hY2).trans hW).below0⟩
  | true =>
    refine gl_evB (evb_ses (k := true) (s := sx0) (g := g) (q := none) (c := 0) (sp := []) (V := fun x _ _ => x = .int .i64 0) (t := sx0.sg.watch a b 0 []) rfl rfl ent57 rfl rfl rfl c_sa (fun W hW => by
      have := ct_WatchP sx0 g 0 none [] _ a b 0 [] none 0 W (Ses.of hW c_sa Ow.none0 (by decide) Im.nil (fun r hr => by cases hr)) Im.nil
      rw [hsm] at this
      exact this) va_c ?_) rfl rfl
    intro Wi1 Wo1 v_ s1_ q1_ c1_ sp1_ hX1 hY1 hZ1 hV_ ht1_ hs1_
    subst hV_
    repeat' first
      | (refine gl_gate ?_; first
        | refine gl_nil ?_
        | (refine gl_calv0 ?_; first | refine gl_yd (yd_call (gok_none rfl) rfl ent56 rfl rfl (fun _ => allT_of rfl) (fun _ W hW => ct_num _ W)) rfl rfl ?_)
        | (refine gl_any0 ?_; refine gl_pure tab_ok rfl rfl rfl rfl rfl rfl ?_))
      | (refine gc_gate ?_; first
        | refine gc_seq ?_
        | refine gc_region ?_
        | refine gc_false rfl ?_
        | refine gc_block ?_
        | refine gc_skip ?_)
      | (refine ge_gate ?_; first
        | ((with_reducible refine ge_gT ?_); first | with_reducible refine ge_then ?_ | with_reducible refine ge_then_exit ?_ | with_reducible refine ge_then_ret ?_))
    have hk1 : Keep a b 0 [] s1_.sg [] := by
      rw [ht1_]
      exact Keep.start a b sx0.sg rfl rfl
    have hok1 : SgOk s1_.sg := by
      rw [ht1_]
      exact SgOk.watch List.Pairwise.nil (by decide)
    refine gc_loopW (α := XK) (fun x => [(1, true, .slice p n cap), (2, true, .slice pt m capt), (3, true, .slice pf k capf), (4, true, .pointer (some ⟨gr, 0, none⟩)), (10, true, .slice (x.qa.map ad) x.al.length x.ca), (11, true, .pointer (some ⟨g, 0, none⟩)), (12, true, .slice x.pn x.now.length x.cn), (13, true, .int .i64 (x.i : Int))])
      (fun x => x.K g gr a b) (fun x W => InvK g gr a b x W ∧ x.i ≤ n ∧ x.al.length ≤ 3 * x.i) (fun x => n - x.i) ⟨0, s1_, q1_, c1_, sp1_, [], none, 0, [], none, 0, []⟩ c_frs (List.Sublist.refl _)
      (fun W hW => ⟨⟨hs1_.next hW c_sa, Ow.none0, fun r hr => absurd hr List.not_mem_nil, Im.nil, Nat.zero_le _, List.Pairwise.nil, hk1, hok1⟩, Nat.zero_le _, Nat.le_refl _⟩) ?_
    rintro ⟨i, s, q, c, sp, al, qa, ca, spa, pn, cn, now⟩ W1 hA ⟨⟨hs_, hoa, him, hnow, hn60, hns, hkp, hok⟩, hi, hal⟩
    dsimp only at hoa him hnow hn60 hns hkp hok hi hal ⊢
    unfold XK.K at hA hs_ him hnow ⊢
    dsimp only at hA hs_ him hnow ⊢
    have hB := hY1.trans hA
    have hsW := hs.st hB
    have hnmS : 0 < n → pb p ∉ wrs (s.K true g q c sp (ow qa true (cat RP.l al ++ spa) 65 ++ [(gr, true, .cells (a.l ++ b.l).toArray 55 (0, 0))])) := fun h => nm_wr hB (hs.lt h) (by simp)
    have hstW := hst.st hB
    have hnmT : 0 < m → pb pt ∉ wrs (s.K true g q c sp (ow qa true (cat RP.l al ++ spa) 65 ++ [(gr, true, .cells (a.l ++ b.l).toArray 55 (0, 0))])) := fun h => nm_wr hB (hst.lt h) (by simp)
    have hsfW := hsf.st hB
    have hnmF : 0 < k → pb pf ∉ wrs (s.K true g q c sp (ow qa true (cat RP.l al ++ spa) 65 ++ [(gr, true, .cells (a.l ++ b.l).toArray 55 (0, 0))])) := fun h => nm_wr hB (hsf.lt h) (by simp)
    repeat' first
      | (refine gl_gate ?_; first
        | refine gl_nil ?_
        | (refine gl_idx0 ?_; refine gl_yv (yv_idxA tab_ok hsW (gok_none rfl) rfl rfl rfl rfl rfl rfl (fun _ => rfl) (fun _ => rfl) c_bnd) rfl rfl ?_)
        | (refine gl_load0 ?_; refine gl_yv (yv_ldA0 tab_ok hsW c_nm (gok_none rfl) rfl rfl (fun _ => rfl) c_bnd (fun _ => c_lds)) rfl rfl ?_)
        | (refine gl_any0 ?_; refine gl_pure tab_ok rfl rfl rfl rfl rfl rfl ?_))
      | (refine gc_gate ?_; first
        | refine gc_seq ?_
        | refine gc_region ?_
        | refine gc_block ?_
        | (refine gc_cond rfl ?_ ?_ <;> intro h_ <;> have hd_ := h_ <;> (try simp only [bytes_beq, cell_beq, val_beq, stamp_beq, decide_eq_true_eq, decide_eq_false_iff_not, Bool.and_eq_true, Bool.or_eq_true, Bool.or_eq_false_iff, Bool.not_eq_true', Bool.not_eq_false', Bool.not_true, Bool.not_false, Bool.false_or, Bool.true_and, Bool.and_true, Bool.or_false, beq_iff_eq, bne_iff_ne, beq_eq_false_iff_ne, bne_eq_false_iff_eq, ne_eq, Bool.false_eq_true, reduceCtorEq] at hd_) <;> (try (exfalso; omega)))
        | refine gc_exit ?_
        | refine gc_skip ?_)
      | (refine ge_gate ?_; first
        | ((with_reducible refine ge_gT ?_); first | with_reducible refine ge_then ?_ | with_reducible refine ge_then_exit ?_ | with_reducible refine ge_then_ret ?_)
        | ((with_reducible refine ge_gK ?_); first | with_reducible refine ge_block ?_ | refine ge_block_exit ?_ | refine ge_block_pass rfl ?_ | with_reducible refine ge_block_ret ?_))
    · obtain ⟨hv1, hv2⟩ := hv _ (getD_mem vs i (by omega))
      refine gl_yd (yd_call c_gok rfl ent94 rfl rfl c_allT (fun _ W hW => ct_FewS (vs.getD i default).xs _ _ _ W rfl (hv1.st (hB.trans hW)) hv2)) rfl rfl ?_
      repeat' first
        | (refine gl_gate ?_; first
          | refine gl_nil ?_
          | (refine gl_any0 ?_; refine gl_pure tab_ok rfl rfl rfl rfl rfl rfl ?_))
        | (refine ge_gate ?_; first
          | ((with_reducible refine ge_gT ?_); first | with_reducible refine ge_then ?_ | with_reducible refine ge_then_exit ?_ | with_reducible refine ge_then_ret ?_))
      refine gc_cond rfl ?_ ?_ <;> intro hf_
      · repeat' first
          | (refine gl_gate ?_; first
            | refine gl_nil ?_
            | (refine gl_any0 ?_; refine gl_pure tab_ok rfl rfl rfl rfl rfl rfl ?_))
          | (refine gc_gate ?_; first
            | refine gc_seq ?_
            | refine gc_region ?_
            | refine gc_ret ?_)
          | (refine ge_gate ?_; first
            | ((with_reducible refine ge_gT ?_); first | with_reducible refine ge_then ?_ | with_reducible refine ge_then_exit ?_ | with_reducible refine ge_then_ret ?_)
            | ((with_reducible refine ge_gK ?_); first | with_reducible refine ge_block ?_ | refine ge_block_exit ?_ | refine ge_block_pass rfl ?_ | with_reducible refine ge_block_ret ?_)
            | ((with_reducible refine ge_gB ?_); first | refine ge_ret1 tab_ok rfl c_rvt ?_ | refine ge_end1 tab_ok rfl c_rvt ?_ | refine ge_ret2 tab_ok rfl c_rvt c_rvt ?_ | refine ge_ret_none rfl ?_ | refine ge_end_none rfl ?_))
        intro W hW
        exact ⟨rfl, (hB.trans hW).below0⟩
      have hfa : fewL (vs.getD i default).xs = true := by simpa using hf_
      have hca := few60 hfa
      clear hf_ hfa
      have hsc := hv1.st hB
      have hnc : 0 < (vs.getD i default).xs.length → pb (vs.getD i default).p ∉ wrs (s.K true g q c sp (ow qa true (cat RP.l al ++ spa) 65 ++ [(gr, true, .cells (a.l ++ b.l).toArray 55 (0, 0))])) := fun h => nm_wr hB (hv1.lt h) (by simp)
      repeat' first
        | (refine gl_gate ?_; first
          | refine gl_nil ?_
          | (refine gl_any0 ?_; refine gl_pure tab_ok rfl rfl rfl rfl rfl rfl ?_))
        | (refine gc_gate ?_; first
          | refine gc_seq ?_
          | refine gc_region ?_
          | refine gc_block ?_
          | refine gc_skip ?_)
        | (refine ge_gate ?_; first
          | ((with_reducible refine ge_gT ?_); first | with_reducible refine ge_then ?_ | with_reducible refine ge_then_exit ?_ | with_reducible refine ge_then_ret ?_))
      refine gc_loop (α := Nat × Option Nat × Nat × List Value) (fun x => [(1, true, .slice p n cap), (2, true, .slice pt m capt), (3, true, .slice pf k capf), (4, true, .pointer (some ⟨gr, 0, none⟩)), (10, true, .slice (qa.map ad) al.length ca), (11, true, .pointer (some ⟨g, 0, none⟩)), (12, true, .slice (x.2.1.map ad) (setAll ((vs.getD i default).xs.take x.1)).length x.2.2.1), (13, true, .int .i64 (i : Int)), (14, true, .int .i64 (x.1 : Int))])
        (fun x => ow x.2.1 true (cat Shown.l (setAll ((vs.getD i default).xs.take x.1)) ++ x.2.2.2) 120 ++ s.K true g q c sp (ow qa true (cat RP.l al ++ spa) 65 ++ [(gr, true, .cells (a.l ++ b.l).toArray 55 (0, 0))])) (fun x => x.1 ≤ (vs.getD i default).xs.length ∧ Ow x.2.1 (setAll ((vs.getD i default).xs.take x.1)).length x.2.2.1 6 (cat Shown.l (setAll ((vs.getD i default).xs.take x.1))) x.2.2.2) (fun x => (vs.getD i default).xs.length - x.1) (0, none, 0, []) c_frs (List.Sublist.refl _) ⟨Nat.zero_le _, Ow.none0⟩ ?_
      rintro ⟨j, qn, cn2, spn⟩ ⟨hj, hon⟩
      dsimp only at hj hon ⊢
      have hll : (setAll ((vs.getD i default).xs.take j)).length ≤ 1000000000 := by have := setAll_len ((vs.getD i default).xs.take j); rw [List.length_take] at this; omega
      repeat' first
        | (refine gl_gate ?_; first
          | refine gl_nil ?_
          | (refine gl_add0 ?_; refine gl_yv (yv_add tab_ok (gok_none rfl) rfl rfl rfl rfl (fun _ => allT_of rfl) (by intro _; omega)) rfl rfl ?_)
          | (refine gl_idx0 ?_; refine gl_yv (yv_idxA tab_ok hsW (gok_none rfl) rfl rfl rfl rfl rfl rfl (fun _ => rfl) (fun _ => rfl) c_bnd) rfl rfl ?_)
          | (refine gl_load0 ?_; refine gl_yv (yv_ldA0 tab_ok hsW c_nm (gok_none rfl) rfl rfl (fun _ => rfl) c_bnd (fun _ => c_lds)) rfl rfl ?_)
          | (refine gl_idx0 ?_; refine gl_yv (yv_idxA tab_ok hsfW (gok_none rfl) rfl rfl rfl rfl rfl rfl (fun _ => rfl) (fun _ => rfl) c_bnd) rfl rfl ?_)
          | (refine gl_load0 ?_; refine gl_yv (yv_ldA0 tab_ok hsfW c_nm (gok_none rfl) rfl rfl (fun _ => rfl) c_bnd (fun _ => c_lds)) rfl rfl ?_)
          | (refine gl_any0 ?_; refine gl_pure tab_ok rfl rfl rfl rfl rfl rfl ?_))
        | (refine gc_gate ?_; first
          | refine gc_seq ?_
          | refine gc_region ?_
          | refine gc_block ?_
          | (refine gc_cond rfl ?_ ?_ <;> intro h_ <;> have hd_ := h_ <;> (try simp only [bytes_beq, cell_beq, val_beq, stamp_beq, decide_eq_true_eq, decide_eq_false_iff_not, Bool.and_eq_true, Bool.or_eq_true, Bool.or_eq_false_iff, Bool.not_eq_true', Bool.not_eq_false', Bool.not_true, Bool.not_false, Bool.false_or, Bool.true_and, Bool.and_true, Bool.or_false, beq_iff_eq, bne_iff_ne, beq_eq_false_iff_ne, bne_eq_false_iff_eq, ne_eq, Bool.false_eq_true, reduceCtorEq] at hd_) <;> (try (exfalso; omega)))
          | refine gc_exit ?_
          | refine gc_skip ?_)
        | (refine ge_gate ?_; first
          | ((with_reducible refine ge_gT ?_); first | with_reducible refine ge_then ?_ | with_reducible refine ge_then_exit ?_ | with_reducible refine ge_then_ret ?_)
          | ((with_reducible refine ge_gK ?_); first | with_reducible refine ge_block ?_ | refine ge_block_exit ?_ | refine ge_block_pass rfl ?_ | with_reducible refine ge_block_ret ?_))
      · refine gp_start [] #[false, false, false, false, false, false, false, false, false, false, false, false, false, false, false, false, false, false, false] mixed rfl rfl c_qp ?_; intro hqp_
        refine gp_take 0 #[true, false, false, false, false, false, false, false, false, false, false, false, false, false, false, false, false, false, false] hqp_ rfl (by kernel_rfl) (yv_pure tab_ok c_gok rfl rfl c_allT) c_cl rfl rfl ?_
        refine gp_take 1 #[true, true, false, false, false, false, false, false, false, false, false, false, false, false, false, false, false, false, false] hqp_ rfl (by kernel_rfl) (yv_pure tab_ok c_gok rfl rfl c_allT) c_cl rfl rfl ?_
        refine gp_take 2 #[true, true, true, false, false, false, false, false, false, false, false, false, false, false, false, false, false, false, false] hqp_ rfl (by kernel_rfl) (yv_pure tab_ok c_gok rfl rfl c_allT) c_cl rfl rfl ?_
        refine gp_take 3 #[true, true, true, true, false, false, false, false, false, false, false, false, false, false, false, false, false, false, false] hqp_ rfl (by kernel_rfl) (yv_idxA tab_ok hsW c_gok rfl rfl rfl rfl rfl rfl c_imp c_imp c_bnd) c_cl rfl rfl ?_
        refine gp_take 4 #[true, true, true, true, true, false, false, false, false, false, false, false, false, false, false, false, false, false, false] hqp_ rfl (by kernel_rfl) (yv_ldA0 tab_ok hsW c_nm c_gok rfl rfl c_imp c_bnd (fun _ => c_lds)) c_cl rfl rfl ?_
        refine gp_take 5 #[true, true, true, true, true, true, false, false, false, false, false, false, false, false, false, false, false, false, false] hqp_ rfl (by kernel_rfl) (yv_pure tab_ok c_gok rfl rfl c_allT) c_cl rfl rfl ?_
        refine gp_take 6 #[true, true, true, true, true, true, true, false, false, false, false, false, false, false, false, false, false, false, false] hqp_ rfl (by kernel_rfl) (yv_idxA tab_ok hsc c_gok rfl rfl rfl rfl rfl rfl c_imp c_imp c_bnd) c_cl rfl rfl ?_
        refine gp_take 7 #[true, true, true, true, true, true, true, true, false, false, false, false, false, false, false, false, false, false, false] hqp_ rfl (by kernel_rfl) (yv_pure tab_ok c_gok rfl rfl c_allT) c_cl rfl rfl ?_
        refine gp_take 8 #[true, true, true, true, true, true, true, true, true, false, false, false, false, false, false, false, false, false, false] hqp_ rfl (by kernel_rfl) (yv_ldA tab_ok hsc c_nm c_gok rfl rfl c_imp c_bnd (fun _ => c_lds)) c_cl rfl rfl ?_
        refine gp_take 9 #[true, true, true, true, true, true, true, true, true, true, false, false, false, false, false, false, false, false, false] hqp_ rfl (by kernel_rfl) (yv_pure tab_ok c_gok rfl rfl c_allT) c_cl rfl rfl ?_
        refine gp_take 10 #[true, true, true, true, true, true, true, true, true, true, true, false, false, false, false, false, false, false, false] hqp_ rfl (by kernel_rfl) (yv_pure tab_ok c_gok rfl rfl c_allT) c_cl rfl rfl ?_
        refine gp_take 11 #[true, true, true, true, true, true, true, true, true, true, true, true, false, false, false, false, false, false, false] hqp_ rfl (by kernel_rfl) (yv_idxA tab_ok hsW c_gok rfl rfl rfl rfl rfl rfl c_imp c_imp c_bnd) c_cl rfl rfl ?_
        refine gp_take 12 #[true, true, true, true, true, true, true, true, true, true, true, true, true, false, false, false, false, false, false] hqp_ rfl (by kernel_rfl) (yv_ldA0 tab_ok hsW c_nm c_gok rfl rfl c_imp c_bnd (fun _ => c_lds)) c_cl rfl rfl ?_
        refine gp_take 13 #[true, true, true, true, true, true, true, true, true, true, true, true, true, true, false, false, false, false, false] hqp_ rfl (by kernel_rfl) (yv_pure tab_ok c_gok rfl rfl c_allT) c_cl rfl rfl ?_
        refine gp_take 14 #[true, true, true, true, true, true, true, true, true, true, true, true, true, true, true, false, false, false, false] hqp_ rfl (by kernel_rfl) (yv_idxA tab_ok hsc c_gok rfl rfl rfl rfl rfl rfl c_imp c_imp c_bnd) c_cl rfl rfl ?_
        refine gp_take 15 #[true, true, true, true, true, true, true, true, true, true, true, true, true, true, true, true, false, false, false] hqp_ rfl (by kernel_rfl) (yv_pure tab_ok c_gok rfl rfl c_allT) c_cl rfl rfl ?_
        refine gp_take 16 #[true, true, true, true, true, true, true, true, true, true, true, true, true, true, true, true, true, false, false] hqp_ rfl (by kernel_rfl) (yv_ldA tab_ok hsc c_nm c_gok rfl rfl c_imp c_bnd (fun _ => c_lds)) c_cl rfl rfl ?_
        (refine gp_ev 17 #[true, true, true, true, true, true, true, true, true, true, true, true, true, true, true, true, true, true, false] rfl (by kernel_rfl) rfl rfl rfl (ev_callOw rfl rfl ent119 rfl rfl rfl (fun W hW => ct_Set (setAll ((vs.getD i default).xs.take j)) ((vs.getD i default).xs.getD j default).cell ((vs.getD i default).xs.getD j default).val _ _ _ W rfl (slA_cat len_shown rfl hW c_oa hon) hll hon.le (fun h => hon.nil (Option.map_eq_none_iff.1 h))) ?_); intro p_ c_ sp_ hw_; refine ⟨c_cl, ?_⟩)
        refine gp_take 18 #[true, true, true, true, true, true, true, true, true, true, true, true, true, true, true, true, true, true, true] hqp_ rfl (by kernel_rfl) (yv_pure tab_ok c_gok rfl rfl c_allT) c_cl rfl rfl ?_
        refine gp_done (by kernel_rfl) ?_; clear hqp_
        repeat' first
          | (refine gl_gate ?_; first
            | refine gl_nil ?_
            | (refine gl_add0 ?_; refine gl_yv (yv_add tab_ok (gok_none rfl) rfl rfl rfl rfl (fun _ => allT_of rfl) (by intro _; omega)) rfl rfl ?_)
            | (refine gl_any0 ?_; refine gl_pure tab_ok rfl rfl rfl rfl rfl rfl ?_))
          | (refine gc_gate ?_; first
            | refine gc_region ?_)
          | (refine ge_gate ?_; first
            | ((with_reducible refine ge_gT ?_); first | with_reducible refine ge_then ?_ | with_reducible refine ge_then_exit ?_ | with_reducible refine ge_then_ret ?_)
            | ((with_reducible refine ge_gK ?_); first | with_reducible refine ge_block ?_ | refine ge_block_exit ?_ | refine ge_block_pass rfl ?_ | with_reducible refine ge_block_ret ?_))
        have e : setAll ((vs.getD i default).xs.take (j + 1)) = setS (setAll ((vs.getD i default).xs.take j)) ((vs.getD i default).xs.getD j default).cell ((vs.getD i default).xs.getD j default).val := setAll_take (by omega)
        refine ge_sel (ow p_ true (cat Shown.l (setAll ((vs.getD i default).xs.take (j + 1))) ++ sp_) 120 ++ s.K true g q c sp (ow qa true (cat RP.l al ++ spa) 65 ++ [(gr, true, .cells (a.l ++ b.l).toArray 55 (0, 0))])) (by rw [e]; exact c_sel) ?_
        refine ge_round (j + 1, p_, c_, sp_) ⟨by omega, ?_⟩ (by show (vs.getD i default).xs.length - (j + 1) < (vs.getD i default).xs.length - j; omega) ?_ (List.Sublist.refl _)
        · show Ow p_ (setAll ((vs.getD i default).xs.take (j + 1))).length c_ 6 (cat Shown.l (setAll ((vs.getD i default).xs.take (j + 1)))) sp_
          rw [e]
          exact hw_
        · dsimp only
          rw [e]
          exact c_frs
      · obtain rfl : j = (vs.getD i default).xs.length := by omega
        rw [List.take_length] at hon ⊢
        have hnl : (setAll (vs.getD i default).xs).length ≤ 60 := by have := setAll_len (vs.getD i default).xs; omega
        generalize hN : setAll (vs.getD i default).xs = nw at *
        have hnsr : Srt nw := hN ▸ setAll_srt _
        refine gl_im (s.K true g q c sp (ow qa true (cat RP.l al ++ spa) 65 ++ [(gr, true, .cells (a.l ++ b.l).toArray 55 (0, 0))])) c_sel fun W2 h2 h2' => ?_
        have hnow2 : Im W2 (wrs (s.K true g q c sp (ow qa true (cat RP.l al ++ spa) 65 ++ [(gr, true, .cells (a.l ++ b.l).toArray 55 (0, 0))]))) (qn.map ad) nw := Im.drop h2 c_sel hon (by omega)
        have hA2 := hA.trans h2'
        have hs2_ := hs_.next h2' (c_sa (P := Sa true s g q c sp _ _))
        have him2 := fun r hr => (him r hr).next h2'
        have hcast : ((i + 1 : Nat) : Int) = (i : Int) + 1 := by omega
        refine gl_evB (evb_ses (k := true) (s := s) (g := g) (q := q) (c := c) (sp := sp) (V := (fun v_ _ _ => v_ = .tuple #[])) (t := s.sg.tell ⟨1, 0, 3, []⟩) rfl rfl ent58 rfl rfl rfl c_sa (fun W hW => ct_TellXP s g c q sp _ ⟨⟨1, 0, 3, []⟩, none, 0⟩ W (hs2_.next hW c_sa) Im.nil) va_c ?_) rfl rfl
        intro Wi3 Wo3 v_ s3_ q3_ c3_ sp3_ hX3 hY3 hZ3 hV_ ht3_ hs3_
        subst hV_
        have hA3 := hA2.trans hY3
        have him3 := fun r hr => (him2 r hr).next hY3
        have hnow3 := hnow2.next hY3
        have hk3 : Keep a b i now s3_.sg (al.map RP.rep) := by
          rw [ht3_]
          exact hkp.noise (by decide)
        have hok3 : SgOk s3_.sg := by
          rw [ht3_]
          exact hok.tell _
        repeat' first
          | (refine gl_gate ?_; first
            | refine gl_nil ?_
            | (refine gl_add0 ?_; refine gl_yv (yv_add tab_ok (gok_none rfl) rfl rfl rfl rfl (fun _ => allT_of rfl) (by intro _; omega)) rfl rfl ?_)
            | (refine gl_any0 ?_; refine gl_pure tab_ok rfl rfl rfl rfl rfl rfl ?_))
          | (refine gc_gate ?_; first
            | refine gc_seq ?_
            | refine gc_region ?_)
          | (refine ge_gate ?_; first
            | ((with_reducible refine ge_gT ?_); first | with_reducible refine ge_then ?_ | with_reducible refine ge_then_exit ?_ | with_reducible refine ge_then_ret ?_))
        refine gl_evB (evb_ses (k := true) (s := s3_) (g := g) (q := q3_) (c := c3_) (sp := sp3_) (V := (fun v_ _ _ => v_ = .tuple #[])) (t := s3_.sg.pub ((i : Int) + 1) nw) rfl rfl ent120 rfl rfl rfl c_sa (fun W hW => ct_PubP s3_ g c3_ q3_ sp3_ _ ((i : Int) + 1) nw _ _ W (hs3_.next hW c_sa) (hnow3.next hW) (hok3.delta hnl)) va_c ?_) rfl rfl
        intro Wi4 Wo4 v_ s4_ q4_ c4_ sp4_ hX4 hY4 hZ4 hV_ ht4_ hs4_
        subst hV_
        have hA4 := hA3.trans hY4
        have him4 := fun r hr => (him3 r hr).next hY4
        have hnow4 := hnow3.next hY4
        have hk4 : Keep a b ((i + 1 : Nat) : Int) nw s4_.sg (al.map RP.rep) := by
          rw [ht4_, hcast]
          exact hk3.pub hnsr
        have hok4 : SgOk s4_.sg := by
          rw [ht4_]
          exact hok3.pub hnsr hnl
        have hB4 := hY1.trans hA4
        have hst4 := hst.st hB4
        have hnmT4 : 0 < m → pb pt ∉ wrs (s4_.K true g q4_ c4_ sp4_ (ow qa true (cat RP.l al ++ spa) 65 ++ [(gr, true, .cells (a.l ++ b.l).toArray 55 (0, 0))])) := fun h => nm_wr hB4 (hst.lt h) (by simp)
        repeat' first
          | (refine gl_gate ?_; first
            | refine gl_nil ?_
            | (refine gl_idx0 ?_; refine gl_yv (yv_idxA tab_ok hst4 (gok_none rfl) rfl rfl rfl rfl rfl rfl (fun _ => rfl) (fun _ => rfl) c_bnd) rfl rfl ?_)
            | (refine gl_load0 ?_; refine gl_yv (yv_ldA0 tab_ok hst4 c_nm (gok_none rfl) rfl rfl (fun _ => rfl) c_bnd (fun _ => c_lds)) rfl rfl ?_)
            | (refine gl_any0 ?_; refine gl_pure tab_ok rfl rfl rfl rfl rfl rfl ?_))
          | (refine gc_gate ?_; first
            | refine gc_seq ?_
            | refine gc_region ?_
            | refine gc_block ?_)
          | (refine ge_gate ?_; first
            | ((with_reducible refine ge_gT ?_); first | with_reducible refine ge_then ?_ | with_reducible refine ge_then_exit ?_ | with_reducible refine ge_then_ret ?_))
        obtain ⟨r0, hr0, hre⟩ := and3 (ts i)
        rw [hre]
        refine gc_loopW (α := XK × Int) (fun x => [(1, true, .slice p n cap), (2, true, .slice pt m capt), (3, true, .slice pf k capf), (4, true, .pointer (some ⟨gr, 0, none⟩)), (10, true, .slice (x.1.qa.map ad) x.1.al.length x.1.ca), (11, true, .pointer (some ⟨g, 0, none⟩)), (12, true, .slice x.1.pn x.1.now.length x.1.cn), (13, true, .int .i64 (i : Int)), (15, true, .int .i64 x.2)])
          (fun x => x.1.K g gr a b) (fun x W => InvK g gr a b x.1 W ∧ x.1.i = i + 1 ∧ x.2 ≤ 3 ∧ x.1.al.length + x.2.toNat ≤ 3 * (i + 1)) (fun x => x.2.toNat) (⟨i + 1, s4_, q4_, c4_, sp4_, al, qa, ca, spa, qn.map ad, cn2, nw⟩, (r0 : Int)) c_frs (List.Sublist.refl _)
          (fun W hW => ⟨⟨hs4_.next hW c_sa, hoa, fun r hr => (him4 r hr).next hW, hnow4.next hW, hnl, hnsr, hk4, hok4⟩, rfl, by show (r0 : Int) ≤ 3; omega, by dsimp only; omega⟩) ?_
        rintro ⟨⟨i5, s5, q5, c5, sp5, al5, qa5, ca5, spa5, pn5, cn5, now5⟩, r5⟩ W5 hA5 ⟨⟨hs5_, hoa5, him5, hnow5, hn605, hns5, hkp5, hok5⟩, hi5, hr5, hal5⟩
        dsimp only at hoa5 him5 hnow5 hn605 hns5 hkp5 hok5 hi5 hr5 hal5 ⊢
        subst hi5
        unfold XK.K at hA5 hs5_ him5 hnow5 ⊢
        dsimp only at hA5 hs5_ him5 hnow5 ⊢
        repeat' first
          | (refine gl_gate ?_; first
            | refine gl_nil ?_
            | (refine gl_add0 ?_; refine gl_yv (yv_add tab_ok (gok_none rfl) rfl rfl rfl rfl (fun _ => allT_of rfl) (by intro _; omega)) rfl rfl ?_)
            | (refine gl_any0 ?_; refine gl_pure tab_ok rfl rfl rfl rfl rfl rfl ?_))
          | (refine gc_gate ?_; first
            | refine gc_seq ?_
            | refine gc_region ?_
            | refine gc_block ?_
            | (refine gc_cond rfl ?_ ?_ <;> intro h_ <;> have hd_ := h_ <;> (try simp only [bytes_beq, cell_beq, val_beq, stamp_beq, decide_eq_true_eq, decide_eq_false_iff_not, Bool.and_eq_true, Bool.or_eq_true, Bool.or_eq_false_iff, Bool.not_eq_true', Bool.not_eq_false', Bool.not_true, Bool.not_false, Bool.false_or, Bool.true_and, Bool.and_true, Bool.or_false, beq_iff_eq, bne_iff_ne, beq_eq_false_iff_ne, bne_eq_false_iff_eq, ne_eq, Bool.false_eq_true, reduceCtorEq] at hd_) <;> (try (exfalso; omega)))
            | refine gc_exit ?_
            | refine gc_skip ?_)
          | (refine ge_gate ?_; first
            | ((with_reducible refine ge_gT ?_); first | with_reducible refine ge_then ?_ | with_reducible refine ge_then_exit ?_ | with_reducible refine ge_then_ret ?_)
            | ((with_reducible refine ge_gK ?_); first | with_reducible refine ge_block ?_ | refine ge_block_exit ?_ | refine ge_block_pass rfl ?_ | with_reducible refine ge_block_ret ?_))
        · cases htk : s5.sg.takeR ((i + 1 : Nat) : Int) now5 with
          | none =>
            refine gl_evB (evb_ses (k := true) (s := s5) (g := g) (q := q5) (c := c5) (sp := sp5) (V := TkV none) (t := s5.sg.takeS ((i + 1 : Nat) : Int) now5) rfl rfl ent60 rfl rfl rfl c_sa (fun W hW => by
              have := ct_TakeP s5 g c5 q5 sp5 _ ((i + 1 : Nat) : Int) now5 pn5 cn5 W (hs5_.next hW c_sa) (hnow5.next hW)
              rw [htk] at this
              exact this) va_t ?_) rfl rfl
            intro Wi6 Wo6 v_ s6_ q6_ c6_ sp6_ hX6 hY6 hZ6 hV_ ht6_ hs6_
            have him6 := fun r hr => (him5 r hr).next hY6
            have hnow6 := hnow5.next hY6
            have hok6 : SgOk s6_.sg := by
              rw [ht6_]
              exact hok5.takeS hns5 hn605
            have hkp6 := hkp5.take hns5
            rw [htk, ← ht6_] at hkp6
            simp only [Option.toList_none, List.append_nil] at hkp6
            obtain rfl : v_ = _ := hV_
            unfold z65
            repeat' first
              | (refine gl_gate ?_; first
                | refine gl_nil ?_
                | (refine gl_sub0 ?_; refine gl_yv (yv_sub tab_ok (gok_none rfl) rfl rfl rfl rfl (fun _ => allT_of rfl) (by intro _; omega)) rfl rfl ?_)
                | (refine gl_alc0 ?_; (refine gl_alloc tab_ok rfl rfl rfl rfl rfl ?_; intro g_ hg_))
                | (refine gl_sto0 ?_; refine gl_store tab_ok rfl rfl rfl rfl rfl rfl rfl c_one rfl c_ku ?_)
                | (refine gl_any0 ?_; refine gl_pure tab_ok rfl rfl rfl rfl rfl rfl ?_))
              | (refine gc_gate ?_; first
                | refine gc_seq ?_
                | refine gc_region ?_
                | refine gc_false rfl ?_
                | refine gc_skip ?_)
              | (refine ge_gate ?_; first
                | ((with_reducible refine ge_gT ?_); first | with_reducible refine ge_then ?_ | with_reducible refine ge_then_exit ?_ | with_reducible refine ge_then_ret ?_)
                | ((with_reducible refine ge_gK ?_); first | with_reducible refine ge_block ?_ | refine ge_block_exit ?_ | refine ge_block_pass rfl ?_ | with_reducible refine ge_block_ret ?_))
            refine ge_sel (XK.K ((⟨i + 1, s6_, q6_, c6_, sp6_, al5, qa5, ca5, spa5, pn5, cn5, now5⟩ : XK), r5 - 1).1 g gr a b) c_sel ?_
            exact ge_roundW ((⟨i + 1, s6_, q6_, c6_, sp6_, al5, qa5, ca5, spa5, pn5, cn5, now5⟩ : XK), r5 - 1) (hA5.trans hY6) (by show (r5 - 1).toNat < r5.toNat; omega) c_frs (List.Sublist.refl _) (fun W hW => ⟨⟨hs6_.next hW c_sa, hoa5, fun r hr => (him6 r hr).next hW, hnow6.next hW, hn605, hns5, hkp6, hok6⟩, rfl, by show r5 - 1 ≤ 3; omega, by dsimp only; (try rw [el]); omega⟩)
          | some x =>
            refine gl_evB (evb_ses (k := true) (s := s5) (g := g) (q := q5) (c := c5) (sp := sp5) (V := TkV (some x)) (t := s5.sg.takeS ((i + 1 : Nat) : Int) now5) rfl rfl ent60 rfl rfl rfl c_sa (fun W hW => by
              have := ct_TakeP s5 g c5 q5 sp5 _ ((i + 1 : Nat) : Int) now5 pn5 cn5 W (hs5_.next hW c_sa) (hnow5.next hW)
              rw [htk] at this
              exact this) va_t ?_) rfl rfl
            intro Wi6 Wo6 v_ s6_ q6_ c6_ sp6_ hX6 hY6 hZ6 hV_ ht6_ hs6_
            have him6 := fun r hr => (him5 r hr).next hY6
            have hnow6 := hnow5.next hY6
            have hok6 : SgOk s6_.sg := by
              rw [ht6_]
              exact hok5.takeS hns5 hn605
            have hkp6 := hkp5.take hns5
            rw [htk, ← ht6_] at hkp6
            simp only [Option.toList_some] at hkp6
            obtain ⟨pt_, ct_, rfl, him6x⟩ := tk_s hV_
            repeat' first
              | (refine gl_gate ?_; first
                | refine gl_nil ?_
                | (refine gl_load0 ?_; refine gl_yv (yv_load tab_ok (gok_none rfl) rfl rfl (fun _ => rfl) c_mem (fun _ => c_lds)) rfl rfl ?_)
                | (refine gl_sub0 ?_; refine gl_yv (yv_sub tab_ok (gok_none rfl) rfl rfl rfl rfl (fun _ => allT_of rfl) (by intro _; omega)) rfl rfl ?_)
                | (refine gl_app0 ?_; (refine gl_ev (ev_append tab_ok rfl rfl rfl rfl rfl rfl rfl rfl c_oa (hoa5) (c_src) c_lim c_lim ?_) rfl rfl; intro p_ c_ sp_ hw_))
                | (refine gl_bld0 ?_; (refine gl_ev (ev_buildSlice tab_ok rfl rfl rfl rfl rfl rfl rfl rfl rfl rfl ?_) rfl rfl; intro g_ hg_))
                | (refine gl_alc0 ?_; (refine gl_alloc tab_ok rfl rfl rfl rfl rfl ?_; intro g_ hg_))
                | (refine gl_sto0 ?_; refine gl_store tab_ok rfl rfl rfl rfl rfl rfl rfl c_one rfl c_ku ?_)
                | (refine gl_any0 ?_; refine gl_pure tab_ok rfl rfl rfl rfl rfl rfl ?_))
              | (refine gc_gate ?_; first
                | refine gc_seq ?_
                | refine gc_region ?_
                | refine gc_true rfl ?_)
              | (refine ge_gate ?_; first
                | ((with_reducible refine ge_gT ?_); first | with_reducible refine ge_then ?_ | with_reducible refine ge_then_exit ?_ | with_reducible refine ge_then_ret ?_)
                | ((with_reducible refine ge_gK ?_); first | with_reducible refine ge_block ?_ | refine ge_block_exit ?_ | refine ge_block_pass rfl ?_ | with_reducible refine ge_block_ret ?_))
            have e : cat RP.l (al5 ++ [⟨x, pt_, ct_⟩]) = cat RP.l al5 ++ [.int .i64 x.kind, .int .i64 x.version, .int .i64 x.err, .slice pt_ x.cells.length ct_] := cat_snoc _ _
            have el : (al5 ++ [(⟨x, pt_, ct_⟩ : RP)]).length = al5.length + 1 := by simp
            refine ge_sel (XK.K ((⟨i + 1, s6_, q6_, c6_, sp6_, al5 ++ [⟨x, pt_, ct_⟩], p_, c_, sp_, pn5, cn5, now5⟩ : XK), r5 - 1).1 g gr a b) (by unfold XK.K; dsimp only; rw [e]; exact c_sel) ?_
            refine ge_roundW ((⟨i + 1, s6_, q6_, c6_, sp6_, al5 ++ [⟨x, pt_, ct_⟩], p_, c_, sp_, pn5, cn5, now5⟩ : XK), r5 - 1) (hA5.trans hY6) (by show (r5 - 1).toNat < r5.toNat; omega) (by dsimp only; rw [el]; exact c_frs) (List.Sublist.refl _) (fun W hW => ⟨⟨hs6_.next hW c_sa, by dsimp only; rw [e, el]; exact hw_, fun r hr => ?_, hnow6.next hW, hn605, hns5, by dsimp only; rw [List.map_append]; exact hkp6, hok6⟩, rfl, by show r5 - 1 ≤ 3; omega, by dsimp only; (try rw [el]); omega⟩)
            rcases List.mem_append.1 hr with hr | hr
            · exact (him6 r hr).next hW
            · obtain rfl := List.mem_singleton.1 hr
              exact him6x.next hW
        · refine ge_sel (XK.K ⟨i + 1, s5, q5, c5, sp5, al5, qa5, ca5, spa5, pn5, cn5, now5⟩ g gr a b) c_sel ?_
          exact ge_roundW (⟨i + 1, s5, q5, c5, sp5, al5, qa5, ca5, spa5, pn5, cn5, now5⟩ : XK) (hA4.trans hA5) (by show n - (i + 1) < n - i; omega) c_frs (List.Sublist.refl _) (fun W hW => ⟨⟨hs5_.next hW c_sa, hoa5, fun r hr => (him5 r hr).next hW, hnow5.next hW, hn605, hns5, hkp5, hok5⟩, by show i + 1 ≤ n; omega, by show al5.length ≤ 3 * (i + 1); omega⟩)
      · obtain rfl : j = (vs.getD i default).xs.length := by omega
        rw [List.take_length] at hon ⊢
        have hnl : (setAll (vs.getD i default).xs).length ≤ 60 := by have := setAll_len (vs.getD i default).xs; omega
        generalize hN : setAll (vs.getD i default).xs = nw at *
        have hnsr : Srt nw := hN ▸ setAll_srt _
        refine gl_im (s.K true g q c sp (ow qa true (cat RP.l al ++ spa) 65 ++ [(gr, true, .cells (a.l ++ b.l).toArray 55 (0, 0))])) c_sel fun W2 h2 h2' => ?_
        have hnow2 : Im W2 (wrs (s.K true g q c sp (ow qa true (cat RP.l al ++ spa) 65 ++ [(gr, true, .cells (a.l ++ b.l).toArray 55 (0, 0))]))) (qn.map ad) nw := Im.drop h2 c_sel hon (by omega)
        have hA2 := hA.trans h2'
        have hs2_ := hs_.next h2' (c_sa (P := Sa true s g q c sp _ _))
        have him2 := fun r hr => (him r hr).next h2'
        have hcast : ((i + 1 : Nat) : Int) = (i : Int) + 1 := by omega
        have s3e : s.sg = s.sg := rfl
        have hA3 := hA2
        have him3 := him2
        have hnow3 := hnow2
        have hk3 := hkp
        have hok3 := hok
        have hs3_ := hs2_
        refine gl_evB (evb_ses (k := true) (s := s) (g := g) (q := q) (c := c) (sp := sp) (V := (fun v_ _ _ => v_ = .tuple #[])) (t := s.sg.pub ((i : Int) + 1) nw) rfl rfl ent120 rfl rfl rfl c_sa (fun W hW => ct_PubP s g c q sp _ ((i : Int) + 1) nw _ _ W (hs3_.next hW c_sa) (hnow3.next hW) (hok3.delta hnl)) va_c ?_) rfl rfl
        intro Wi4 Wo4 v_ s4_ q4_ c4_ sp4_ hX4 hY4 hZ4 hV_ ht4_ hs4_
        subst hV_
        have hA4 := hA3.trans hY4
        have him4 := fun r hr => (him3 r hr).next hY4
        have hnow4 := hnow3.next hY4
        have hk4 : Keep a b ((i + 1 : Nat) : Int) nw s4_.sg (al.map RP.rep) := by
          rw [ht4_, hcast]
          exact hk3.pub hnsr
        have hok4 : SgOk s4_.sg := by
          rw [ht4_]
          exact hok3.pub hnsr hnl
        have hB4 := hY1.trans hA4
        have hst4 := hst.st hB4
        have hnmT4 : 0 < m → pb pt ∉ wrs (s4_.K true g q4_ c4_ sp4_ (ow qa true (cat RP.l al ++ spa) 65 ++ [(gr, true, .cells (a.l ++ b.l).toArray 55 (0, 0))])) := fun h => nm_wr hB4 (hst.lt h) (by simp)
        repeat' first
          | (refine gl_gate ?_; first
            | refine gl_nil ?_
            | (refine gl_idx0 ?_; refine gl_yv (yv_idxA tab_ok hst4 (gok_none rfl) rfl rfl rfl rfl rfl rfl (fun _ => rfl) (fun _ => rfl) c_bnd) rfl rfl ?_)
            | (refine gl_load0 ?_; refine gl_yv (yv_ldA0 tab_ok hst4 c_nm (gok_none rfl) rfl rfl (fun _ => rfl) c_bnd (fun _ => c_lds)) rfl rfl ?_)
            | (refine gl_any0 ?_; refine gl_pure tab_ok rfl rfl rfl rfl rfl rfl ?_))
          | (refine gc_gate ?_; first
            | refine gc_seq ?_
            | refine gc_region ?_
            | refine gc_block ?_)
          | (refine ge_gate ?_; first
            | ((with_reducible refine ge_gT ?_); first | with_reducible refine ge_then ?_ | with_reducible refine ge_then_exit ?_ | with_reducible refine ge_then_ret ?_))
        obtain ⟨r0, hr0, hre⟩ := and3 (ts i)
        rw [hre]
        refine gc_loopW (α := XK × Int) (fun x => [(1, true, .slice p n cap), (2, true, .slice pt m capt), (3, true, .slice pf k capf), (4, true, .pointer (some ⟨gr, 0, none⟩)), (10, true, .slice (x.1.qa.map ad) x.1.al.length x.1.ca), (11, true, .pointer (some ⟨g, 0, none⟩)), (12, true, .slice x.1.pn x.1.now.length x.1.cn), (13, true, .int .i64 (i : Int)), (15, true, .int .i64 x.2)])
          (fun x => x.1.K g gr a b) (fun x W => InvK g gr a b x.1 W ∧ x.1.i = i + 1 ∧ x.2 ≤ 3 ∧ x.1.al.length + x.2.toNat ≤ 3 * (i + 1)) (fun x => x.2.toNat) (⟨i + 1, s4_, q4_, c4_, sp4_, al, qa, ca, spa, qn.map ad, cn2, nw⟩, (r0 : Int)) c_frs (List.Sublist.refl _)
          (fun W hW => ⟨⟨hs4_.next hW c_sa, hoa, fun r hr => (him4 r hr).next hW, hnow4.next hW, hnl, hnsr, hk4, hok4⟩, rfl, by show (r0 : Int) ≤ 3; omega, by dsimp only; omega⟩) ?_
        rintro ⟨⟨i5, s5, q5, c5, sp5, al5, qa5, ca5, spa5, pn5, cn5, now5⟩, r5⟩ W5 hA5 ⟨⟨hs5_, hoa5, him5, hnow5, hn605, hns5, hkp5, hok5⟩, hi5, hr5, hal5⟩
        dsimp only at hoa5 him5 hnow5 hn605 hns5 hkp5 hok5 hi5 hr5 hal5 ⊢
        subst hi5
        unfold XK.K at hA5 hs5_ him5 hnow5 ⊢
        dsimp only at hA5 hs5_ him5 hnow5 ⊢
        repeat' first
          | (refine gl_gate ?_; first
            | refine gl_nil ?_
            | (refine gl_add0 ?_; refine gl_yv (yv_add tab_ok (gok_none rfl) rfl rfl rfl rfl (fun _ => allT_of rfl) (by intro _; omega)) rfl rfl ?_)
            | (refine gl_any0 ?_; refine gl_pure tab_ok rfl rfl rfl rfl rfl rfl ?_))
          | (refine gc_gate ?_; first
            | refine gc_seq ?_
            | refine gc_region ?_
            | refine gc_block ?_
            | (refine gc_cond rfl ?_ ?_ <;> intro h_ <;> have hd_ := h_ <;> (try simp only [bytes_beq, cell_beq, val_beq, stamp_beq, decide_eq_true_eq, decide_eq_false_iff_not, Bool.and_eq_true, Bool.or_eq_true, Bool.or_eq_false_iff, Bool.not_eq_true', Bool.not_eq_false', Bool.not_true, Bool.not_false, Bool.false_or, Bool.true_and, Bool.and_true, Bool.or_false, beq_iff_eq, bne_iff_ne, beq_eq_false_iff_ne, bne_eq_false_iff_eq, ne_eq, Bool.false_eq_true, reduceCtorEq] at hd_) <;> (try (exfalso; omega)))
            | refine gc_exit ?_
            | refine gc_skip ?_)
          | (refine ge_gate ?_; first
            | ((with_reducible refine ge_gT ?_); first | with_reducible refine ge_then ?_ | with_reducible refine ge_then_exit ?_ | with_reducible refine ge_then_ret ?_)
            | ((with_reducible refine ge_gK ?_); first | with_reducible refine ge_block ?_ | refine ge_block_exit ?_ | refine ge_block_pass rfl ?_ | with_reducible refine ge_block_ret ?_))
        · cases htk : s5.sg.takeR ((i + 1 : Nat) : Int) now5 with
          | none =>
            refine gl_evB (evb_ses (k := true) (s := s5) (g := g) (q := q5) (c := c5) (sp := sp5) (V := TkV none) (t := s5.sg.takeS ((i + 1 : Nat) : Int) now5) rfl rfl ent60 rfl rfl rfl c_sa (fun W hW => by
              have := ct_TakeP s5 g c5 q5 sp5 _ ((i + 1 : Nat) : Int) now5 pn5 cn5 W (hs5_.next hW c_sa) (hnow5.next hW)
              rw [htk] at this
              exact this) va_t ?_) rfl rfl
            intro Wi6 Wo6 v_ s6_ q6_ c6_ sp6_ hX6 hY6 hZ6 hV_ ht6_ hs6_
            have him6 := fun r hr => (him5 r hr).next hY6
            have hnow6 := hnow5.next hY6
            have hok6 : SgOk s6_.sg := by
              rw [ht6_]
              exact hok5.takeS hns5 hn605
            have hkp6 := hkp5.take hns5
            rw [htk, ← ht6_] at hkp6
            simp only [Option.toList_none, List.append_nil] at hkp6
            obtain rfl : v_ = _ := hV_
            unfold z65
            repeat' first
              | (refine gl_gate ?_; first
                | refine gl_nil ?_
                | (refine gl_sub0 ?_; refine gl_yv (yv_sub tab_ok (gok_none rfl) rfl rfl rfl rfl (fun _ => allT_of rfl) (by intro _; omega)) rfl rfl ?_)
                | (refine gl_alc0 ?_; (refine gl_alloc tab_ok rfl rfl rfl rfl rfl ?_; intro g_ hg_))
                | (refine gl_sto0 ?_; refine gl_store tab_ok rfl rfl rfl rfl rfl rfl rfl c_one rfl c_ku ?_)
                | (refine gl_any0 ?_; refine gl_pure tab_ok rfl rfl rfl rfl rfl rfl ?_))
              | (refine gc_gate ?_; first
                | refine gc_seq ?_
                | refine gc_region ?_
                | refine gc_false rfl ?_
                | refine gc_skip ?_)
              | (refine ge_gate ?_; first
                | ((with_reducible refine ge_gT ?_); first | with_reducible refine ge_then ?_ | with_reducible refine ge_then_exit ?_ | with_reducible refine ge_then_ret ?_)
                | ((with_reducible refine ge_gK ?_); first | with_reducible refine ge_block ?_ | refine ge_block_exit ?_ | refine ge_block_pass rfl ?_ | with_reducible refine ge_block_ret ?_))
            refine ge_sel (XK.K ((⟨i + 1, s6_, q6_, c6_, sp6_, al5, qa5, ca5, spa5, pn5, cn5, now5⟩ : XK), r5 - 1).1 g gr a b) c_sel ?_
            exact ge_roundW ((⟨i + 1, s6_, q6_, c6_, sp6_, al5, qa5, ca5, spa5, pn5, cn5, now5⟩ : XK), r5 - 1) (hA5.trans hY6) (by show (r5 - 1).toNat < r5.toNat; omega) c_frs (List.Sublist.refl _) (fun W hW => ⟨⟨hs6_.next hW c_sa, hoa5, fun r hr => (him6 r hr).next hW, hnow6.next hW, hn605, hns5, hkp6, hok6⟩, rfl, by show r5 - 1 ≤ 3; omega, by dsimp only; (try rw [el]); omega⟩)
          | some x =>
            refine gl_evB (evb_ses (k := true) (s := s5) (g := g) (q := q5) (c := c5) (sp := sp5) (V := TkV (some x)) (t := s5.sg.takeS ((i + 1 : Nat) : Int) now5) rfl rfl ent60 rfl rfl rfl c_sa (fun W hW => by
              have := ct_TakeP s5 g c5 q5 sp5 _ ((i + 1 : Nat) : Int) now5 pn5 cn5 W (hs5_.next hW c_sa) (hnow5.next hW)
              rw [htk] at this
              exact this) va_t ?_) rfl rfl
            intro Wi6 Wo6 v_ s6_ q6_ c6_ sp6_ hX6 hY6 hZ6 hV_ ht6_ hs6_
            have him6 := fun r hr => (him5 r hr).next hY6
            have hnow6 := hnow5.next hY6
            have hok6 : SgOk s6_.sg := by
              rw [ht6_]
              exact hok5.takeS hns5 hn605
            have hkp6 := hkp5.take hns5
            rw [htk, ← ht6_] at hkp6
            simp only [Option.toList_some] at hkp6
            obtain ⟨pt_, ct_, rfl, him6x⟩ := tk_s hV_
            repeat' first
              | (refine gl_gate ?_; first
                | refine gl_nil ?_
                | (refine gl_load0 ?_; refine gl_yv (yv_load tab_ok (gok_none rfl) rfl rfl (fun _ => rfl) c_mem (fun _ => c_lds)) rfl rfl ?_)
                | (refine gl_sub0 ?_; refine gl_yv (yv_sub tab_ok (gok_none rfl) rfl rfl rfl rfl (fun _ => allT_of rfl) (by intro _; omega)) rfl rfl ?_)
                | (refine gl_app0 ?_; (refine gl_ev (ev_append tab_ok rfl rfl rfl rfl rfl rfl rfl rfl c_oa (hoa5) (c_src) c_lim c_lim ?_) rfl rfl; intro p_ c_ sp_ hw_))
                | (refine gl_bld0 ?_; (refine gl_ev (ev_buildSlice tab_ok rfl rfl rfl rfl rfl rfl rfl rfl rfl rfl ?_) rfl rfl; intro g_ hg_))
                | (refine gl_alc0 ?_; (refine gl_alloc tab_ok rfl rfl rfl rfl rfl ?_; intro g_ hg_))
                | (refine gl_sto0 ?_; refine gl_store tab_ok rfl rfl rfl rfl rfl rfl rfl c_one rfl c_ku ?_)
                | (refine gl_any0 ?_; refine gl_pure tab_ok rfl rfl rfl rfl rfl rfl ?_))
              | (refine gc_gate ?_; first
                | refine gc_seq ?_
                | refine gc_region ?_
                | refine gc_true rfl ?_)
              | (refine ge_gate ?_; first
                | ((with_reducible refine ge_gT ?_); first | with_reducible refine ge_then ?_ | with_reducible refine ge_then_exit ?_ | with_reducible refine ge_then_ret ?_)
                | ((with_reducible refine ge_gK ?_); first | with_reducible refine ge_block ?_ | refine ge_block_exit ?_ | refine ge_block_pass rfl ?_ | with_reducible refine ge_block_ret ?_))
            have e : cat RP.l (al5 ++ [⟨x, pt_, ct_⟩]) = cat RP.l al5 ++ [.int .i64 x.kind, .int .i64 x.version, .int .i64 x.err, .slice pt_ x.cells.length ct_] := cat_snoc _ _
            have el : (al5 ++ [(⟨x, pt_, ct_⟩ : RP)]).length = al5.length + 1 := by simp
            refine ge_sel (XK.K ((⟨i + 1, s6_, q6_, c6_, sp6_, al5 ++ [⟨x, pt_, ct_⟩], p_, c_, sp_, pn5, cn5, now5⟩ : XK), r5 - 1).1 g gr a b) (by unfold XK.K; dsimp only; rw [e]; exact c_sel) ?_
            refine ge_roundW ((⟨i + 1, s6_, q6_, c6_, sp6_, al5 ++ [⟨x, pt_, ct_⟩], p_, c_, sp_, pn5, cn5, now5⟩ : XK), r5 - 1) (hA5.trans hY6) (by show (r5 - 1).toNat < r5.toNat; omega) (by dsimp only; rw [el]; exact c_frs) (List.Sublist.refl _) (fun W hW => ⟨⟨hs6_.next hW c_sa, by dsimp only; rw [e, el]; exact hw_, fun r hr => ?_, hnow6.next hW, hn605, hns5, by dsimp only; rw [List.map_append]; exact hkp6, hok6⟩, rfl, by show r5 - 1 ≤ 3; omega, by dsimp only; (try rw [el]); omega⟩)
            rcases List.mem_append.1 hr with hr | hr
            · exact (him6 r hr).next hW
            · obtain rfl := List.mem_singleton.1 hr
              exact him6x.next hW
        · refine ge_sel (XK.K ⟨i + 1, s5, q5, c5, sp5, al5, qa5, ca5, spa5, pn5, cn5, now5⟩ g gr a b) c_sel ?_
          exact ge_roundW (⟨i + 1, s5, q5, c5, sp5, al5, qa5, ca5, spa5, pn5, cn5, now5⟩ : XK) (hA4.trans hA5) (by show n - (i + 1) < n - i; omega) c_frs (List.Sublist.refl _) (fun W hW => ⟨⟨hs5_.next hW c_sa, hoa5, fun r hr => (him5 r hr).next hW, hnow5.next hW, hn605, hns5, hkp5, hok5⟩, by show i + 1 ≤ n; omega, by show al5.length ≤ 3 * (i + 1); omega⟩)
    · obtain rfl : i = n := by omega
      have hlf := SG.left_le hs_.sgle
      refine gc_loopW (α := XK × Nat) (fun x => [(1, true, .slice p i cap), (4, true, .pointer (some ⟨gr, 0, none⟩)), (10, true, .slice (x.1.qa.map ad) x.1.al.length x.1.ca), (11, true, .pointer (some ⟨g, 0, none⟩)), (12, true, .slice x.1.pn x.1.now.length x.1.cn), (18, true, .int .i64 (x.2 : Int))])
        (fun x => x.1.K g gr a b) (fun x W => InvK g gr a b x.1 W ∧ x.1.i = i ∧ x.2 ≤ 20 ∧ x.1.al.length ≤ 3 * i + x.2 ∧ x.1.s.sg.left ≤ 9 - x.2) (fun x => 20 - x.2) (⟨i, s, q, c, sp, al, qa, ca, spa, pn, cn, now⟩, 0) c_frs (List.Sublist.refl _)
        (fun W hW => ⟨⟨hs_.next hW c_sa, hoa, fun r hr => (him r hr).next hW, hnow.next hW, hn60, hns, hkp, hok⟩, rfl, Nat.zero_le _, hal, hlf⟩) ?_
      rintro ⟨⟨i5, s5, q5, c5, sp5, al5, qa5, ca5, spa5, pn5, cn5, now5⟩, j5⟩ W5 hA5 ⟨⟨hs5_, hoa5, him5, hnow5, hn605, hns5, hkp5, hok5⟩, hi5, hj5, hal5, hlf5⟩
      dsimp only at hoa5 him5 hnow5 hn605 hns5 hkp5 hok5 hi5 hj5 hal5 hlf5 ⊢
      subst hi5
      unfold XK.K at hA5 hs5_ him5 hnow5 ⊢
      dsimp only at hA5 hs5_ him5 hnow5 ⊢
      repeat' first
        | (refine gl_gate ?_; first
          | refine gl_nil ?_
          | (refine gl_any0 ?_; refine gl_pure tab_ok rfl rfl rfl rfl rfl rfl ?_))
        | (refine gc_gate ?_; first
          | refine gc_seq ?_
          | refine gc_region ?_
          | refine gc_block ?_
          | (refine gc_cond rfl ?_ ?_ <;> intro h_ <;> have hd_ := h_ <;> (try simp only [bytes_beq, cell_beq, val_beq, stamp_beq, decide_eq_true_eq, decide_eq_false_iff_not, Bool.and_eq_true, Bool.or_eq_true, Bool.or_eq_false_iff, Bool.not_eq_true', Bool.not_eq_false', Bool.not_true, Bool.not_false, Bool.false_or, Bool.true_and, Bool.and_true, Bool.or_false, beq_iff_eq, bne_iff_ne, beq_eq_false_iff_ne, bne_eq_false_iff_eq, ne_eq, Bool.false_eq_true, reduceCtorEq] at hd_) <;> (try (exfalso; omega)))
          | refine gc_exit ?_
          | refine gc_skip ?_)
        | (refine ge_gate ?_; first
          | ((with_reducible refine ge_gT ?_); first | with_reducible refine ge_then ?_ | with_reducible refine ge_then_exit ?_ | with_reducible refine ge_then_ret ?_)
          | ((with_reducible refine ge_gK ?_); first | with_reducible refine ge_block ?_ | refine ge_block_exit ?_ | refine ge_block_pass rfl ?_ | with_reducible refine ge_block_ret ?_))
      · cases htk : s5.sg.takeR (i5 : Int) now5 with
        | none =>
          refine gl_evB (evb_ses (k := true) (s := s5) (g := g) (q := q5) (c := c5) (sp := sp5) (V := TkV none) (t := s5.sg.takeS (i5 : Int) now5) rfl rfl ent60 rfl rfl rfl c_sa (fun W hW => by
            have := ct_TakeP s5 g c5 q5 sp5 _ (i5 : Int) now5 pn5 cn5 W (hs5_.next hW c_sa) (hnow5.next hW)
            rw [htk] at this
            exact this) va_t ?_) rfl rfl
          intro Wi6 Wo6 v_ s6_ q6_ c6_ sp6_ hX6 hY6 hZ6 hV_ ht6_ hs6_
          have him6 := fun r hr => (him5 r hr).next hY6
          have hnow6 := hnow5.next hY6
          have hok6 : SgOk s6_.sg := by
            rw [ht6_]
            exact hok5.takeS hns5 hn605
          have hkp6 := hkp5.take hns5
          rw [htk, ← ht6_] at hkp6
          simp only [Option.toList_none, List.append_nil] at hkp6
          obtain rfl : v_ = _ := hV_
          unfold z65
          repeat' first
            | (refine gl_gate ?_; first
              | refine gl_nil ?_
              | (refine gl_add0 ?_; refine gl_yv (yv_add tab_ok (gok_none rfl) rfl rfl rfl rfl (fun _ => allT_of rfl) (by intro _; omega)) rfl rfl ?_)
              | (refine gl_alc0 ?_; (refine gl_alloc tab_ok rfl rfl rfl rfl rfl ?_; intro g_ hg_))
              | (refine gl_sto0 ?_; refine gl_store tab_ok rfl rfl rfl rfl rfl rfl rfl c_one rfl c_ku ?_)
              | (refine gl_any0 ?_; refine gl_pure tab_ok rfl rfl rfl rfl rfl rfl ?_))
            | (refine gc_gate ?_; first
              | refine gc_seq ?_
              | refine gc_region ?_
              | refine gc_false rfl ?_
              | refine gc_skip ?_)
            | (refine ge_gate ?_; first
              | ((with_reducible refine ge_gT ?_); first | with_reducible refine ge_then ?_ | with_reducible refine ge_then_exit ?_ | with_reducible refine ge_then_ret ?_)
              | ((with_reducible refine ge_gK ?_); first | with_reducible refine ge_block ?_ | refine ge_block_exit ?_ | refine ge_block_pass rfl ?_ | with_reducible refine ge_block_ret ?_))
          refine ge_sel (XK.K ((⟨i5, s6_, q6_, c6_, sp6_, al5, qa5, ca5, spa5, pn5, cn5, now5⟩ : XK), j5 + 1).1 g gr a b) c_sel ?_
          exact ge_roundW ((⟨i5, s6_, q6_, c6_, sp6_, al5, qa5, ca5, spa5, pn5, cn5, now5⟩ : XK), j5 + 1) (hA5.trans hY6) (by show 20 - (j5 + 1) < 20 - j5; omega) c_frs (List.Sublist.refl _) (fun W hW => ⟨⟨hs6_.next hW c_sa, hoa5, fun r hr => (him6 r hr).next hW, hnow6.next hW, hn605, hns5, hkp6, hok6⟩, rfl, by show j5 + 1 ≤ 20; omega, by dsimp only; (try rw [el]); omega, by show s6_.sg.left ≤ 9 - (j5 + 1); rw [ht6_, SG.takeS_left _ hkp5.wt]; omega⟩)
        | some x =>
          refine gl_evB (evb_ses (k := true) (s := s5) (g := g) (q := q5) (c := c5) (sp := sp5) (V := TkV (some x)) (t := s5.sg.takeS (i5 : Int) now5) rfl rfl ent60 rfl rfl rfl c_sa (fun W hW => by
            have := ct_TakeP s5 g c5 q5 sp5 _ (i5 : Int) now5 pn5 cn5 W (hs5_.next hW c_sa) (hnow5.next hW)
            rw [htk] at this
            exact this) va_t ?_) rfl rfl
          intro Wi6 Wo6 v_ s6_ q6_ c6_ sp6_ hX6 hY6 hZ6 hV_ ht6_ hs6_
          have him6 := fun r hr => (him5 r hr).next hY6
          have hnow6 := hnow5.next hY6
          have hok6 : SgOk s6_.sg := by
            rw [ht6_]
            exact hok5.takeS hns5 hn605
          have hkp6 := hkp5.take hns5
          rw [htk, ← ht6_] at hkp6
          simp only [Option.toList_some] at hkp6
          obtain ⟨pt_, ct_, rfl, him6x⟩ := tk_s hV_
          repeat' first
            | (refine gl_gate ?_; first
              | refine gl_nil ?_
              | (refine gl_load0 ?_; refine gl_yv (yv_load tab_ok (gok_none rfl) rfl rfl (fun _ => rfl) c_mem (fun _ => c_lds)) rfl rfl ?_)
              | (refine gl_add0 ?_; refine gl_yv (yv_add tab_ok (gok_none rfl) rfl rfl rfl rfl (fun _ => allT_of rfl) (by intro _; omega)) rfl rfl ?_)
              | (refine gl_app0 ?_; (refine gl_ev (ev_append tab_ok rfl rfl rfl rfl rfl rfl rfl rfl c_oa (hoa5) (c_src) c_lim c_lim ?_) rfl rfl; intro p_ c_ sp_ hw_))
              | (refine gl_bld0 ?_; (refine gl_ev (ev_buildSlice tab_ok rfl rfl rfl rfl rfl rfl rfl rfl rfl rfl ?_) rfl rfl; intro g_ hg_))
              | (refine gl_alc0 ?_; (refine gl_alloc tab_ok rfl rfl rfl rfl rfl ?_; intro g_ hg_))
              | (refine gl_sto0 ?_; refine gl_store tab_ok rfl rfl rfl rfl rfl rfl rfl c_one rfl c_ku ?_)
              | (refine gl_any0 ?_; refine gl_pure tab_ok rfl rfl rfl rfl rfl rfl ?_))
            | (refine gc_gate ?_; first
              | refine gc_seq ?_
              | refine gc_region ?_
              | refine gc_true rfl ?_)
            | (refine ge_gate ?_; first
              | ((with_reducible refine ge_gT ?_); first | with_reducible refine ge_then ?_ | with_reducible refine ge_then_exit ?_ | with_reducible refine ge_then_ret ?_)
              | ((with_reducible refine ge_gK ?_); first | with_reducible refine ge_block ?_ | refine ge_block_exit ?_ | refine ge_block_pass rfl ?_ | with_reducible refine ge_block_ret ?_))
          have e : cat RP.l (al5 ++ [⟨x, pt_, ct_⟩]) = cat RP.l al5 ++ [.int .i64 x.kind, .int .i64 x.version, .int .i64 x.err, .slice pt_ x.cells.length ct_] := cat_snoc _ _
          have el : (al5 ++ [(⟨x, pt_, ct_⟩ : RP)]).length = al5.length + 1 := by simp
          refine ge_sel (XK.K ((⟨i5, s6_, q6_, c6_, sp6_, al5 ++ [⟨x, pt_, ct_⟩], p_, c_, sp_, pn5, cn5, now5⟩ : XK), j5 + 1).1 g gr a b) (by unfold XK.K; dsimp only; rw [e]; exact c_sel) ?_
          refine ge_roundW ((⟨i5, s6_, q6_, c6_, sp6_, al5 ++ [⟨x, pt_, ct_⟩], p_, c_, sp_, pn5, cn5, now5⟩ : XK), j5 + 1) (hA5.trans hY6) (by show 20 - (j5 + 1) < 20 - j5; omega) (by dsimp only; rw [el]; exact c_frs) (List.Sublist.refl _) (fun W hW => ⟨⟨hs6_.next hW c_sa, by dsimp only; rw [e, el]; exact hw_, fun r hr => ?_, hnow6.next hW, hn605, hns5, by dsimp only; rw [List.map_append]; exact hkp6, hok6⟩, rfl, by show j5 + 1 ≤ 20; omega, by dsimp only; (try rw [el]); omega, by show s6_.sg.left ≤ 9 - (j5 + 1); rw [ht6_, SG.takeS_left _ hkp5.wt]; omega⟩)
          rcases List.mem_append.1 hr with hr | hr
          · exact (him6 r hr).next hW
          · obtain rfl := List.mem_singleton.1 hr
            exact him6x.next hW
      · have hpl := hkp5.end (by omega)
        have hal5l : (al5.map RP.rep).length = al5.length := List.length_map ..
        have hsl := seeL_len a b now5
        refine gl_ev (ev_callPlR (x := (seeL a b now5, true)) rfl rfl rfl rfl rfl (fun W hW => by
          have hpr := ct_PlayR (w := W) (p := qa5.map ad) (l := al5.map RP.rep) (repsR_of (slA_cat len_rp rfl hW c_oa hoa5) (fun r hr => ((him5 r hr).next hW).sl)) (by omega) (fun x hx => by
            obtain ⟨r, hr, rfl⟩ := List.mem_map.1 hx
            exact (him5 r hr).le) ca5
          rw [hal5l, playRR_eq, hpl] at hpr
          exact hpr) (fun q7_ c7_ sp7_ hw7_ => ?_)) rfl rfl
        dsimp only at hw7_ ⊢
        repeat' first
          | (refine gl_evG c_gok (ev_callOw rfl rfl ent104 rfl rfl rfl (fun W hW => ct_SeeR a b now5 pn5 _ cn5 W rfl (hnow5.next hW).sl (by omega)) ?_) rfl rfl; intro q8_ c8_ sp8_ hw8_)
          | (refine gl_gate ?_; first
            | refine gl_nil ?_
            | (refine gl_calvG ?_; first | refine gl_yd (yd_call c_gok rfl ent97 rfl rfl c_allT (fun _ W hW => ct_SameShown W (seeL a b now5) (seeL a b now5) _ _ _ _ _ _ rfl rfl (slA_cat len_shown rfl hW c_oa hw7_) (slA_cat len_shown rfl hW c_oa hw8_) (by omega) (by omega))) rfl rfl ?_)
            | (refine gl_pick0 ?_; first | refine gl_yv (yv_and (gok_none rfl) rfl rfl rfl (fun _ => rfl) c_imp2) rfl rfl ?_ | refine gl_yv (yv_or (gok_none rfl) rfl rfl rfl (fun _ => rfl) c_imp2) rfl rfl ?_)
            | (refine gl_loadG ?_; refine gl_yv (yv_load tab_ok c_gok rfl rfl c_imp c_mem (fun _ => c_lds)) rfl rfl ?_)
            | (refine gl_any0 ?_; refine gl_pure tab_ok rfl rfl rfl rfl rfl rfl ?_)
            | (refine gl_anyG ?_; first | refine gl_yv (yv_pure tab_ok c_gok rfl rfl c_allT) rfl rfl ?_ | refine gl_yv (yv_indexS tab_ok c_gok rfl rfl rfl rfl c_imp c_imp (by intro hq_; (try simp only [Bool.and_eq_true, Bool.not_eq_true', Bool.not_eq_false', Bool.or_eq_false_iff, Bool.or_eq_true, decide_eq_true_eq, decide_eq_false_iff_not, Bool.true_and, Bool.and_true] at hq_); omega)) rfl rfl ?_ | refine gl_yv (yv_indexS (i := 0) tab_ok c_gok rfl rfl rfl rfl c_imp c_imp (by intro hq_; (try simp only [Bool.and_eq_true, Bool.not_eq_true', Bool.not_eq_false', Bool.or_eq_false_iff, Bool.or_eq_true, decide_eq_true_eq, decide_eq_false_iff_not, Bool.true_and, Bool.and_true] at hq_); omega)) rfl rfl ?_))
          | (refine gc_gate ?_; first
            | refine gc_seq ?_
            | refine gc_region ?_
            | refine gc_ret ?_)
          | (refine ge_gate ?_; first
            | ((with_reducible refine ge_gT ?_); first | with_reducible refine ge_then ?_ | with_reducible refine ge_then_exit ?_ | with_reducible refine ge_then_ret ?_)
            | ((with_reducible refine ge_gB ?_); first | refine ge_ret1 tab_ok rfl c_rvt ?_ | refine ge_end1 tab_ok rfl c_rvt ?_ | refine ge_ret2 tab_ok rfl c_rvt c_rvt ?_ | refine ge_ret_none rfl ?_ | refine ge_end_none rfl ?_))
        intro W hW
        exact ⟨by simp, ((hB.trans hA5).trans hW).below0⟩
end Go.Proofs.Ytkgjfcjciigcgaa
