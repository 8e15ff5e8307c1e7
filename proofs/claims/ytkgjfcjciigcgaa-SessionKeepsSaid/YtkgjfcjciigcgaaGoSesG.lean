/-
  Sessions called one behind the other; replies and cells compared; the law's own helpers.
-/
import Derived.Test.YtkgjfcjciigcgaaGoSesF
namespace Go.Proofs.Ytkgjfcjciigcgaa
open Go.Proofs.Ytkgjfcjciigcgaa.Sl Go.RowKit
set_option linter.unusedVariables false
set_option linter.unusedSimpArgs false
set_option linter.unusedSectionVars false
set_option maxRecDepth 100000

section
attribute [local semireducible] GC GE GL GQ
variable {P : Program} {N : Nat} {w0 W W' : World} {M : List Nat} {F : Fl} {K Kx : Kl} {o : Oper}
theorem Sl.evb_callM {R : Value → World → List Nat → Kl → Prop} {f : FuncId} {args : Array Operand} {ts : Array TypeId} {vs : List Value} {ps : List Bool} (hg : o.guard = none) (ho : o.op = .call ⟨.value (.func f), args, ts⟩) (hf : Ent P f) (hv : vals F args.toList = some vs) (hc : cdl F args.toList = some ps) (hp : ps.all id = true)
    (h : ∀ W, St w0 M K W → Calls P f vs.toArray W fun e W' => ∃ v K', e = .returned v ∧ St w0 M K' W' ∧ R v W' (wrs K') K') : EvB P o N w0 M F K R :=
  ⟨hg, fun a W hF hW next Qx hn => by
    have e0 := vals_ok hF hc (allT_of hp) hv
    obtain ⟨dst, op, tp, pos, after, guard⟩ := o
    subst ho
    have e1 : args.map a.eval = vs.toArray := by apply Array.ext'; simpa using e0
    have hrun : (execOp a.eval ⟨dst, .call ⟨.value (.func f), args, ts⟩, tp, pos, after, guard⟩).run P W = .ok (.enter f vs.toArray) W := by
      have hf' := hf vs.toArray W
      simp [execOp, resolve, Act.eval, Deferred.ofValue, invoke, e1, hf']
    unfold Oper.wp
    rw [hrun, Oper.upon_enter]
    exact (h W hW).mono fun e W' ⟨v, K', he, hW', hR⟩ => by
      subst he
      exact hn _ _ _ _ _ hR hW'.base⟩
theorem Sl.ge_sel {Q : Exit → Act → World → Prop} {e : Exit} (A : Kl) (h : Sel A K) (h2 : GE Q e N w0 M F A) : GE Q e N w0 M F K := fun a W hF hW => h2 a W hF (h.st hW)
theorem Im.next {K' : Kl} {p : Option Addr} {l : List Shown} (h : Im W (wrs K) p l) (hW : St W (wrs K) K' W') : Im W' (wrs K') p l :=
  ⟨h.st hW (fun _ hb => hb), fun hn => nm_wr hW (h.sl.lt hn) (h.nm hn), h.le⟩
theorem Sa.mem {k : Bool} {s : SX} {g : Nat} {q : Option Nat} {c : Nat} {sp : List Value} (hk : Sa k s g q c sp K Kx) {b : Nat} (hb : b ∈ blks g q) : b ∈ wrs K := by
  unfold blks at hb
  rcases List.mem_cons.1 hb with rfl | hb
  · exact mem_wrs (o := .cells (s.cs k q c).toArray (bif k then 59 else 139) (0, 0)) (hk.perm.mem_iff.2 (List.mem_append_left _ (by simp [SX.K])))
  · exact mem_wrs (hk.perm.mem_iff.2 (List.mem_append_left _ (SX.q_mem hb)))
theorem St.wrs_lt (hW : St w0 M K W) {b : Nat} (hb : b ∈ wrs K) : b < W.heap.size := by
  obtain ⟨o, ho⟩ := wrs_mem hb
  exact hW.lt ho
theorem Ses.of {k : Bool} {s : SX} {g : Nat} {q : Option Nat} {c : Nat} {sp : List Value} (hW : St w0 M K W) (hk : Sa k s g q c sp K Kx) (ho : Ow q s.l.length c 4 (cat RP.l s.l) sp) (hle : s.l.length ≤ 8) (h1 : Im W (wrs K) s.saw.p s.saw.xs) (h2 : ∀ r ∈ s.l, Im W (wrs K) r.p r.rep.cells) : Ses k s g q c sp (wrs K) W :=
  ⟨SLi.of hW hk ho, fun _ hb => hk.mem hb, fun _ hb => St.wrs_lt hW hb, h1, h2, hle⟩
theorem Ses.next {K' : Kl} {k : Bool} {s : SX} {g : Nat} {q : Option Nat} {c : Nat} {sp : List Value} (h : Ses k s g q c sp (wrs K) W) (hW : St W (wrs K) K' W') (hk : Sa k s g q c sp K' Kx) : Ses k s g q c sp (wrs K') W' :=
  Ses.of hW hk h.li.ow h.le (h.saw.next hW) (fun r hr => (h.im r hr).next hW)
/-- A method of a session: a new base behind it. -/
theorem evb_ses {R : Value → World → List Nat → Kl → Prop} {f : FuncId} {args : Array Operand} {ts : Array TypeId} {vs : List Value} {ps : List Bool} {k : Bool} {s : SX} {g : Nat} {q : Option Nat} {c : Nat} {sp : List Value} {V : Value → World → List Nat → Prop} {t : SG} (hg : o.guard = none) (ho : o.op = .call ⟨.value (.func f), args, ts⟩) (hf : Ent Try.prog f) (hv : vals F args.toList = some vs) (hc : cdl F args.toList = some ps) (hp : ps.all id = true)
    (hk : Sa k s g q c sp K Kx) (h : ∀ W, St w0 M K W → Calls Try.prog f vs.toArray W (RetX k W g q (wrs K) V t)) (hVa : ∀ v W X X', V v W X → (∀ b ∈ X', b ∈ X) → V v W X')
    (hR : ∀ W W' v s' q' c' sp', St w0 M K W → St w0 M (s'.K k g q' c' sp' Kx) W' → St W (wrs K) (s'.K k g q' c' sp' Kx) W' → V v W' (wrs (s'.K k g q' c' sp' Kx)) → s'.sg = t → Ses k s' g q' c' sp' (wrs (s'.K k g q' c' sp' Kx)) W' → R v W' (wrs (s'.K k g q' c' sp' Kx)) (s'.K k g q' c' sp' Kx)) : EvB Try.prog o N w0 M F K R :=
  evb_callM hg ho hf hv hc hp fun W hW0 => (h W hW0).mono fun e W' ⟨v, s', q', c', sp', h1, h2, h3, h4, h5⟩ => by
    have hsub : ∀ {w1 : World} {M1 : List Nat}, St w1 M1 K W → St w1 M1 (s'.K k g q' c' sp' Kx) W' := fun {w1 M1} hW1 => by
      have hW := hW1.perm hk.perm
      have hap := hW.apart
      rw [← SX.K_app]
      refine hW.over h4 (fun b hb => ?_) (SX.K_wr s' k g q' c' sp') (List.sublist_append_right _ _) (fun e he hm => ?_)
      · rw [← s.K_map k g q c sp] at hb
        obtain ⟨⟨b', tr, ob⟩, he, rfl⟩ := List.mem_map.1 hb
        have := SX.K_wr _ _ _ _ _ _ _ he
        simp only at this
        subst this
        exact mem_wrs (o := ob) (List.mem_append_left _ he)
      · rw [← s.K_map k g q c sp] at hm
        obtain ⟨e', he', hee⟩ := List.mem_map.1 hm
        exact (List.pairwise_append.1 hap).2.2 e' he' e he hee
    have hw : ∀ b ∈ wrs (s'.K k g q' c' sp' Kx), b ∈ q'.toList ++ wrs K := fun b hb => by
      obtain ⟨o', ho'⟩ := wrs_mem hb
      rw [← SX.K_app] at ho'
      rcases List.mem_append.1 ho' with h | h
      · have : b ∈ blks g q' := by rw [← s'.K_map k g q' c' sp']; exact List.mem_map.2 ⟨_, h, rfl⟩
        unfold blks at this
        rcases List.mem_cons.1 this with rfl | this
        · exact List.mem_append_right _ (hk.mem (List.mem_cons_self ..))
        · exact List.mem_append_left _ this
      · exact List.mem_append_right _ (mem_wrs (hk.perm.mem_iff.2 (List.mem_append_right _ h)))
    refine ⟨v, _, h1, hsub hW0, hR W W' v s' q' c' sp' hW0 (hsub hW0) (hsub hW0.base) (hVa _ _ _ _ h2 hw) h3 ?_⟩
    exact Ses.of (hsub hW0) Sa.hd h5.li.ow h5.le (h5.saw.anti hw) (fun r hr => (h5.im r hr).anti hw)
end
theorem va_c {x : Value} : ∀ (v : Value) (W : World) (X X' : List Nat), v = x → (∀ b ∈ X', b ∈ X) → v = x := fun _ _ _ _ h _ => h
theorem va_t {t : Option Rep} : ∀ (v : Value) (W : World) (X X' : List Nat), TkV t v W X → (∀ b ∈ X', b ∈ X) → TkV t v W X' := fun v W X X' h hX => by
  cases t with
  | none => exact h
  | some x =>
    obtain ⟨p, c, h1, h2⟩ := h
    exact ⟨p, c, h1, h2.anti hX⟩
theorem lds_partS {α : Type} [Inhabited α] {T : Tab} {f : α → List Value} {k o : Nat} {v : Value} (hf : ∀ x, (f x).length = k) {l : List α} {i : Nat} {t : TypeId} {d : TyD} (hi : i < l.length) (hd : ty T t = some d) (ho : o + d.size ≤ k) (h : Lds T t (f (l.getD i default)) o v) : Lds T t (cat f l) (i * k + o) v := by
  obtain ⟨d', vs, h1, h2, h3, h4, h5⟩ := h
  rw [hd] at h1
  cases h1
  refine ⟨d, vs, hd, h2, fun j hj => ?_, h4, h5⟩
  rw [← h3 j hj, Nat.add_assoc]
  exact cat_get hf l i (o + j) hi (by omega)
def sx0 : SX := ⟨false, false, ⟨ByteArray.empty, 0, 0⟩, ⟨ByteArray.empty, 0, 0⟩, ⟨none, 0, []⟩, []⟩
theorem ct_num (n : Int) (w : World) : Calls Try.prog 56 #[.int .i64 n] w fun e w' => e = .returned (.int .i64 n) ∧ Bl w w' := by
  refine enter (args := [_]) (M := []) (K := []) Try.func56 rfl Try.ntmps56 rfl (St.refl _ _) ?_
  repeat' first
    | (refine gl_gate ?_; first
      | refine gl_nil ?_
      | (refine gl_any0 ?_; refine gl_pure tab_ok rfl rfl rfl rfl rfl rfl ?_))
    | (refine gc_gate ?_; first
      | refine gc_seq ?_
      | refine gc_region ?_
      | refine gc_ret ?_)
    | (refine ge_gate ?_; first
      | ((with_reducible refine ge_gT ?_); first | with_reducible refine ge_then ?_ | with_reducible refine ge_then_exit ?_ | with_reducible refine ge_then_ret ?_)
      | ((with_reducible refine ge_gB ?_); first | refine ge_ret1 tab_ok rfl c_rvt ?_ | refine ge_end1 tab_ok rfl c_rvt ?_ | refine ge_ret2 tab_ok rfl c_rvt c_rvt ?_ | refine ge_ret_none rfl ?_ | refine ge_end_none rfl ?_))
  intro W hW
  exact ⟨rfl, hW.below0⟩
theorem ct_SameReply (x : Rep) (p q : Option Addr) (c d : Nat) (w : World) (hs : SlA w 6 p x.cells.length (fun j => (x.cells.getD j default).l)) (hs' : SlA w 6 q x.cells.length (fun j => (x.cells.getD j default).l)) (hl : x.cells.length ≤ 1000) : Calls Try.prog 128 #[.agg (RP.l ⟨x, p, c⟩).toArray, .agg (RP.l ⟨x, q, d⟩).toArray] w fun e w' => e = .returned (.bool true) ∧ Bl w w' := by
  obtain ⟨xk, xv, xe, xl⟩ := x
  dsimp only at hs hs' hl
  rw [show RP.l ⟨⟨xk, xv, xe, xl⟩, p, c⟩ = [.int .i64 xk, .int .i64 xv, .int .i64 xe, .slice p xl.length c] from rfl, show RP.l ⟨⟨xk, xv, xe, xl⟩, q, d⟩ = [.int .i64 xk, .int .i64 xv, .int .i64 xe, .slice q xl.length d] from rfl]
  refine enter (args := [_, _]) (M := []) (K := []) Try.func128 rfl Try.ntmps128 rfl (St.refl _ _) ?_
  repeat' first
    | (refine gl_gate ?_; first
      | refine gl_nil ?_
      | (refine gl_load0 ?_; refine gl_yv (yv_load tab_ok (gok_none rfl) rfl rfl (fun _ => rfl) c_mem (fun _ => c_lds)) rfl rfl ?_)
      | (refine gl_calvG ?_; first | refine gl_yd (yd_call c_gok rfl ent97 rfl rfl c_allT (fun _ W hW => ct_SameShown W xl xl _ _ _ _ _ _ rfl rfl (hs.st hW) (hs'.st hW) (by omega) (by omega))) rfl rfl ?_)
      | (refine gl_pick0 ?_; first | refine gl_yv (yv_and (gok_none rfl) rfl rfl rfl (fun _ => rfl) c_imp2) rfl rfl ?_ | refine gl_yv (yv_or (gok_none rfl) rfl rfl rfl (fun _ => rfl) c_imp2) rfl rfl ?_)
      | (refine gl_loadG ?_; refine gl_yv (yv_load tab_ok c_gok rfl rfl c_imp c_mem (fun _ => c_lds)) rfl rfl ?_)
      | (refine gl_box0 ?_; first | (refine gl_box_agg rfl rfl rfl rfl rfl ?_; intro g_ hg_) | (refine gl_box_one rfl rfl rfl rfl rfl rfl ?_; intro g_ hg_) | (refine gl_box rfl rfl rfl rfl rfl ?_; intro g_ hg_))
      | (refine gl_any0 ?_; refine gl_pure tab_ok rfl rfl rfl rfl rfl rfl ?_)
      | (refine gl_anyG ?_; first | refine gl_yv (yv_pure tab_ok c_gok rfl rfl c_allT) rfl rfl ?_ | refine gl_yv (yv_indexS tab_ok c_gok rfl rfl rfl rfl c_imp c_imp (by intro hq_; (try simp only [Bool.and_eq_true, Bool.not_eq_true', Bool.not_eq_false', Bool.or_eq_false_iff, Bool.or_eq_true, decide_eq_true_eq, decide_eq_false_iff_not, Bool.true_and, Bool.and_true] at hq_); omega)) rfl rfl ?_ | refine gl_yv (yv_indexS (i := 0) tab_ok c_gok rfl rfl rfl rfl c_imp c_imp (by intro hq_; (try simp only [Bool.and_eq_true, Bool.not_eq_true', Bool.not_eq_false', Bool.or_eq_false_iff, Bool.or_eq_true, decide_eq_true_eq, decide_eq_false_iff_not, Bool.true_and, Bool.and_true] at hq_); omega)) rfl rfl ?_))
    | (refine gc_gate ?_; first
      | refine gc_seq ?_
      | refine gc_region ?_
      | refine gc_ret ?_)
    | (refine ge_gate ?_; first
      | ((with_reducible refine ge_gT ?_); first | with_reducible refine ge_then ?_ | with_reducible refine ge_then_exit ?_ | with_reducible refine ge_then_ret ?_)
      | ((with_reducible refine ge_gB ?_); first | refine ge_ret1 tab_ok rfl c_rvt ?_ | refine ge_end1 tab_ok rfl c_rvt ?_ | refine ge_ret2 tab_ok rfl c_rvt c_rvt ?_ | refine ge_ret_none rfl ?_ | refine ge_end_none rfl ?_))
  intro W hW
  exact ⟨by simp, hW.below0⟩
theorem cellB (c d : Cell) : (c.sheet.toList == d.sheet.toList && (c.col == d.col && c.row == d.row)) = decide (c = d) := by
  obtain ⟨s, x, y⟩ := c
  obtain ⟨t, u, v⟩ := d
  rw [bytes_beq, Bool.eq_iff_iff]
  simp
/-- abacistlaw26.ahead. -/
def aheadL (x y : Shown) : Bool := decide (((setS (setS [] x.cell x.val) y.cell y.val).length : Int) = 2) && decide (((setS (setS [] x.cell x.val) y.cell y.val).getD 0 default).cell = x.cell)
theorem aheadL_lt {x y : Shown} (h : aheadL x y = true) : cLt x.cell y.cell := by
  unfold aheadL at h
  rw [setS_nil, setS_cons, setS_nil] at h
  by_cases h1 : ltOf cmpC x.cell y.cell = true
  · exact (ltC_iff _ _).1 h1
  · simp only at h
    rw [if_neg h1] at h
    by_cases h2 : x.cell = y.cell
    · rw [if_pos h2] at h
      simp at h
    · rw [if_neg h2] at h
      simp at h
      exact absurd h.symm h2
theorem ct_ahead (x y : Shown) (w : World) : Calls Try.prog 121 #[.agg x.l.toArray, .agg y.l.toArray] w fun e w' => e = .returned (.bool (aheadL x y)) ∧ Bl w w' := by
  have h2 := setS_len (setS [] x.cell x.val) y.cell y.val
  rw [setS_nil, List.length_singleton, ← setS_nil x.cell x.val] at h2
  refine enter (args := [_, _]) (M := []) (K := []) Try.func121 rfl Try.ntmps121 rfl (St.refl _ _) ?_
  repeat' first
    | (refine gl_gate ?_; first
      | refine gl_nil ?_
      | (refine gl_box0 ?_; first | (refine gl_box_agg rfl rfl rfl rfl rfl ?_; intro g_ hg_) | (refine gl_box_one rfl rfl rfl rfl rfl rfl ?_; intro g_ hg_) | (refine gl_box rfl rfl rfl rfl rfl ?_; intro g_ hg_))
      | (refine gl_any0 ?_; refine gl_pure tab_ok rfl rfl rfl rfl rfl rfl ?_))
    | (refine gc_gate ?_; first
      | refine gc_seq ?_
      | refine gc_region ?_)
    | (refine ge_gate ?_; first
      | ((with_reducible refine ge_gT ?_); first | with_reducible refine ge_then ?_ | with_reducible refine ge_then_exit ?_ | with_reducible refine ge_then_ret ?_))
  refine gp_start [] #[false, false, false, false, false, false, false, false, false, false, false] mixed rfl rfl c_qp ?_; intro hqp_
  refine gp_take 0 #[true, false, false, false, false, false, false, false, false, false, false] hqp_ rfl (by kernel_rfl) (yv_pure tab_ok c_gok rfl rfl c_allT) c_cl rfl rfl ?_
  refine gp_take 1 #[true, true, false, false, false, false, false, false, false, false, false] hqp_ rfl (by kernel_rfl) (yv_load tab_ok c_gok rfl rfl c_imp c_mem (fun _ => c_lds)) c_cl rfl rfl ?_
  refine gp_take 2 #[true, true, true, false, false, false, false, false, false, false, false] hqp_ rfl (by kernel_rfl) (yv_pure tab_ok c_gok rfl rfl c_allT) c_cl rfl rfl ?_
  refine gp_take 3 #[true, true, true, true, false, false, false, false, false, false, false] hqp_ rfl (by kernel_rfl) (yv_load tab_ok c_gok rfl rfl c_imp c_mem (fun _ => c_lds)) c_cl rfl rfl ?_
  refine gp_take 5 #[true, true, true, true, false, true, false, false, false, false, false] hqp_ rfl (by kernel_rfl) (yv_pure tab_ok c_gok rfl rfl c_allT) c_cl rfl rfl ?_
  refine gp_take 6 #[true, true, true, true, false, true, true, false, false, false, false] hqp_ rfl (by kernel_rfl) (yv_load tab_ok c_gok rfl rfl c_imp c_mem (fun _ => c_lds)) c_cl rfl rfl ?_
  refine gp_take 7 #[true, true, true, true, false, true, true, true, false, false, false] hqp_ rfl (by kernel_rfl) (yv_pure tab_ok c_gok rfl rfl c_allT) c_cl rfl rfl ?_
  refine gp_take 8 #[true, true, true, true, false, true, true, true, true, false, false] hqp_ rfl (by kernel_rfl) (yv_load tab_ok c_gok rfl rfl c_imp c_mem (fun _ => c_lds)) c_cl rfl rfl ?_
  (refine gp_ev 4 #[true, true, true, true, true, true, true, true, true, false, false] rfl (by kernel_rfl) rfl rfl rfl (ev_callOw rfl rfl ent119 rfl rfl rfl (fun W hW => ct_Set [] x.cell x.val none 0 0 W rfl SlA.nil (by omega) (by omega) (fun _ => rfl)) ?_); intro pa_ ca_ spa_ hwa_; refine ⟨c_cl, ?_⟩)
  (refine gp_ev 9 #[true, true, true, true, true, true, true, true, true, true, false] rfl (by kernel_rfl) rfl rfl rfl (ev_callOw rfl rfl ent119 rfl rfl rfl (fun W hW => ct_Set (setS [] x.cell x.val) y.cell y.val _ _ _ W rfl (slA_cat len_shown rfl hW c_oa hwa_) (by rw [setS_nil]; simp) hwa_.le (fun h => hwa_.nil (Option.map_eq_none_iff.1 h))) ?_); intro pb_ cb_ spb_ hwb_; refine ⟨c_cl, ?_⟩)
  refine gp_take 10 #[true, true, true, true, true, true, true, true, true, true, true] hqp_ rfl (by kernel_rfl) (yv_pure tab_ok c_gok rfl rfl c_allT) c_cl rfl rfl ?_
  refine gp_done (by kernel_rfl) ?_; clear hqp_
  generalize hL : setS (setS [] x.cell x.val) y.cell y.val = L at *
  repeat' first
    | (refine gq_idxG ?_; refine gq_yv (yv_idxO (i := 0) tab_ok hwb_ c_gok rfl rfl rfl rfl rfl rfl c_imp c_imp (by intro hq_; simp at hq_; omega)) rfl rfl ?_)
    | (refine gq_loadG ?_; refine gq_yv (yv_ldO tab_ok c_oa hwb_ c_gok rfl rfl c_imp (fun hq_ => lds_partS (i := 0) (o := 0) len_shown (by simp at hq_; omega) rfl (by decide) (lds_agg rfl rfl rfl)) (by intro hq_; simp at hq_; omega)) rfl rfl ?_)
    | (refine gc_gate ?_; first
      | refine gc_seq ?_
      | refine gc_quietRo rfl mixed (by decide +kernel) ?_
      | refine gc_ret ?_)
    | (refine ge_gate ?_; first
      | ((with_reducible refine ge_gT ?_); first | with_reducible refine ge_then ?_ | with_reducible refine ge_then_exit ?_ | with_reducible refine ge_then_ret ?_)
      | ((with_reducible refine ge_gB ?_); first | refine ge_ret1 tab_ok rfl c_rvt ?_ | refine ge_end1 tab_ok rfl c_rvt ?_ | refine ge_ret2 tab_ok rfl c_rvt c_rvt ?_ | refine ge_ret_none rfl ?_ | refine ge_end_none rfl ?_))
    | (refine gq_gate ?_; first
      | refine gq_nil ?_
      | (refine gq_pick0 ?_; first | refine gq_yv (yv_and (gok_none rfl) rfl rfl rfl (fun _ => rfl) c_imp2) rfl rfl ?_ | refine gq_yv (yv_or (gok_none rfl) rfl rfl rfl (fun _ => rfl) c_imp2) rfl rfl ?_)
      | (refine gq_loadG ?_; refine gq_yv (yv_load tab_ok c_gok rfl rfl c_imp c_mem (fun _ => c_lds)) rfl rfl ?_)
      | (refine gq_any0 ?_; refine gq_pure tab_ok rfl rfl rfl rfl rfl rfl ?_)
      | (refine gq_eqS ?_; first | refine gq_yv (yv_eqS tab_ok eqs_ok c_gok rfl rfl rfl rfl c_allT rfl rfl rfl) rfl rfl ?_)
      | (refine gq_anyG ?_; first | refine gq_yv (yv_pure tab_ok c_gok rfl rfl c_allT) rfl rfl ?_ | refine gq_yv (yv_indexS tab_ok c_gok rfl rfl rfl rfl c_imp c_imp (by intro hq_; (try simp only [Bool.and_eq_true, Bool.not_eq_true', Bool.not_eq_false', Bool.or_eq_false_iff, Bool.or_eq_true, decide_eq_true_eq, decide_eq_false_iff_not, Bool.true_and, Bool.and_true] at hq_); omega)) rfl rfl ?_ | refine gq_yv (yv_indexS (i := 0) tab_ok c_gok rfl rfl rfl rfl c_imp c_imp (by intro hq_; (try simp only [Bool.and_eq_true, Bool.not_eq_true', Bool.not_eq_false', Bool.or_eq_false_iff, Bool.or_eq_true, decide_eq_true_eq, decide_eq_false_iff_not, Bool.true_and, Bool.and_true] at hq_); omega)) rfl rfl ?_))
  intro W hW
  refine ⟨?_, hW.below0⟩
  unfold aheadL
  rw [hL, cellB, int_beq]
def cSs : Cell := ⟨⟨#[115]⟩, 1, 1⟩
theorem ct_aliveS (w : World) : Calls Try.prog 55 #[] w fun e w' => e = .returned (.bool true) ∧ Bl w w' := by
  refine enter (args := []) (M := []) (K := []) Try.func55 rfl Try.ntmps55 rfl (St.refl _ _) ?_
  repeat' first
    | (refine gl_gate ?_; first
      | refine gl_nil ?_
      | (refine gl_load0 ?_; refine gl_yv (yv_load tab_ok (gok_none rfl) rfl rfl (fun _ => rfl) c_mem (fun _ => c_lds)) rfl rfl ?_)
      | (refine gl_calv0 ?_; first | refine gl_yd (yd_call (gok_none rfl) rfl ent59 rfl rfl (fun _ => allT_of rfl) (fun _ W hW => ct_LenP sx0 g_ 0 none [] W (SLi.of hW c_sa Ow.none0))) rfl rfl ?_ | refine gl_yd (yd_call (gok_none rfl) rfl ent56 rfl rfl (fun _ => allT_of rfl) (fun _ W hW => ct_num 0 W)) rfl rfl ?_)
      | (refine gl_box0 ?_; first | (refine gl_box_agg rfl rfl rfl rfl rfl ?_; intro g_ hg_) | (refine gl_box_one rfl rfl rfl rfl rfl rfl ?_; intro g_ hg_) | (refine gl_box rfl rfl rfl rfl rfl ?_; intro g_ hg_))
      | (refine gl_alc0 ?_; (refine gl_alloc tab_ok rfl rfl rfl rfl rfl ?_; intro g_ hg_))
      | (refine gl_sto0 ?_; refine gl_store tab_ok rfl rfl rfl rfl rfl rfl rfl c_one rfl c_ku ?_)
      | (refine gl_any0 ?_; refine gl_pure tab_ok rfl rfl rfl rfl rfl rfl ?_))
    | (refine gc_gate ?_; first
      | refine gc_seq ?_
      | refine gc_region ?_)
    | (refine ge_gate ?_; first
      | ((with_reducible refine ge_gT ?_); first | with_reducible refine ge_then ?_ | with_reducible refine ge_then_exit ?_ | with_reducible refine ge_then_ret ?_))
  rename_i g1 hg1
  have hsm : small400 cSs cSs = true := by decide +kernel
  refine gl_evB (evb_ses (k := true) (s := sx0) (g := g1) (q := none) (c := 0) (sp := []) (V := fun x _ _ => x = .int .i64 0) (t := sx0.sg.watch cSs cSs 2 []) rfl rfl ent57 rfl rfl rfl c_sa (fun W hW => by
    have := ct_WatchP sx0 g1 0 none [] _ cSs cSs 2 [] none 0 W (Ses.of hW c_sa Ow.none0 (by decide) Im.nil (fun r hr => by cases hr)) Im.nil
    rw [hsm] at this
    exact this) va_c ?_) rfl rfl
  intro W1 W2 v_ s1_ q1_ c1_ sp1_ hA1 hA2 hA3 hV_ ht_ hs_
  subst hV_
  repeat' first
    | (refine gl_gate ?_; first
      | refine gl_nil ?_
      | (refine gl_any0 ?_; refine gl_pure tab_ok rfl rfl rfl rfl rfl rfl ?_))
    | (refine gc_gate ?_; first
      | refine gc_seq ?_
      | refine gc_region ?_)
    | (refine ge_gate ?_; first
      | ((with_reducible refine ge_gT ?_); first | with_reducible refine ge_then ?_ | with_reducible refine ge_then_exit ?_ | with_reducible refine ge_then_ret ?_))
  have ht2 : s1_.sg.takeR 2 [] = some ⟨2, 2, 0, []⟩ := by rw [ht_]; rfl
  refine gl_evB (evb_ses (k := true) (s := s1_) (g := g1) (q := q1_) (c := c1_) (sp := sp1_) (V := TkV (some ⟨2, 2, 0, []⟩)) (t := s1_.sg.takeS 2 []) rfl rfl ent60 rfl rfl rfl c_sa (fun W hW => by
    have := ct_TakeP s1_ g1 c1_ q1_ sp1_ _ 2 [] none 0 W (hs_.next hW c_sa) Im.nil
    rw [ht2] at this
    exact this) va_t ?_) rfl rfl
  intro W3 W4 v_ s2_ q2_ c2_ sp2_ hB1 hB2 hB3 hV_ ht_ hs2_
  obtain ⟨p_, c_, rfl, him_⟩ := hV_
  unfold RP.l Rep.rl
  dsimp only
  repeat' first
    | (refine gl_gate ?_; first
      | refine gl_nil ?_
      | (refine gl_calvG ?_; first | refine gl_yd (yd_call c_gok rfl ent56 rfl rfl c_allT (fun _ W hW => ct_num 0 W)) rfl rfl ?_)
      | (refine gl_pick0 ?_; first | refine gl_yv (yv_and (gok_none rfl) rfl rfl rfl (fun _ => rfl) c_imp2) rfl rfl ?_ | refine gl_yv (yv_or (gok_none rfl) rfl rfl rfl (fun _ => rfl) c_imp2) rfl rfl ?_)
      | (refine gl_loadG ?_; refine gl_yv (yv_load tab_ok c_gok rfl rfl c_imp c_mem (fun _ => c_lds)) rfl rfl ?_)
      | (refine gl_alc0 ?_; (refine gl_alloc tab_ok rfl rfl rfl rfl rfl ?_; intro g_ hg_))
      | (refine gl_sto0 ?_; refine gl_store tab_ok rfl rfl rfl rfl rfl rfl rfl c_one rfl c_ku ?_)
      | (refine gl_any0 ?_; refine gl_pure tab_ok rfl rfl rfl rfl rfl rfl ?_)
      | (refine gl_anyG ?_; first | refine gl_yv (yv_pure tab_ok c_gok rfl rfl c_allT) rfl rfl ?_ | refine gl_yv (yv_indexS tab_ok c_gok rfl rfl rfl rfl c_imp c_imp (by intro hq_; (try simp only [Bool.and_eq_true, Bool.not_eq_true', Bool.not_eq_false', Bool.or_eq_false_iff, Bool.or_eq_true, decide_eq_true_eq, decide_eq_false_iff_not, Bool.true_and, Bool.and_true] at hq_); omega)) rfl rfl ?_ | refine gl_yv (yv_indexS (i := 0) tab_ok c_gok rfl rfl rfl rfl c_imp c_imp (by intro hq_; (try simp only [Bool.and_eq_true, Bool.not_eq_true', Bool.not_eq_false', Bool.or_eq_false_iff, Bool.or_eq_true, decide_eq_true_eq, decide_eq_false_iff_not, Bool.true_and, Bool.and_true] at hq_); omega)) rfl rfl ?_))
    | (refine gc_gate ?_; first
      | refine gc_seq ?_
      | refine gc_region ?_
      | refine gc_ret ?_)
    | (refine ge_gate ?_; first
      | ((with_reducible refine ge_gT ?_); first | with_reducible refine ge_then ?_ | with_reducible refine ge_then_exit ?_ | with_reducible refine ge_then_ret ?_)
      | ((with_reducible refine ge_gB ?_); first | refine ge_ret1 tab_ok rfl c_rvt ?_ | refine ge_end1 tab_ok rfl c_rvt ?_ | refine ge_ret2 tab_ok rfl c_rvt c_rvt ?_ | refine ge_ret_none rfl ?_ | refine ge_end_none rfl ?_))
  intro W hW
  exact ⟨rfl, (hA2.trans (hB2.trans hW)).below0⟩
end Go.Proofs.Ytkgjfcjciigcgaa