/-
  The reference's session.
-/
import Derived.Test.YtkgjfcjciigcgaaGoSesD
namespace Go.Proofs.Ytkgjfcjciigcgaa
open Go.Proofs.Ytkgjfcjciigcgaa.Sl Go.RowKit
set_option linter.unusedVariables false
set_option linter.unusedSimpArgs false
set_option linter.unusedSectionVars false
set_option maxRecDepth 100000

theorem ct_snapR (s : SX) (g c : Nat) (q : Option Nat) (sp : List Value) (v : Int) (cs : List Shown) (p : Option Addr) (cap : Nat) (w : World) (h : SLi false s g q c sp w) (hcs : Im w (blks g q) p cs) :
    Calls Try.prog 182 #[.pointer (some ⟨g, 0, none⟩), .int .i64 v, .slice p cs.length cap] w (RetM w (blks g q) (fun y : Y2 => .agg #[.int .i64 2, .int .i64 v, .int .i64 0, .slice (y.p1.map ad) (seeL s.a s.b cs).length y.c1])
      (fun y => ({ s with saw := ⟨y.p1.map ad, y.c1, seeL s.a s.b cs⟩ } : SX).K false g q c sp (ow y.p1 true (cat Shown.l (seeL s.a s.b cs) ++ y.sp1) 120 ++ []))
      (fun y => Ow y.p1 (seeL s.a s.b cs).length y.c1 6 (cat Shown.l (seeL s.a s.b cs)) y.sp1 ∧ Nw w y.p1)) := by
  have hle := hcs.le
  have hsl := seeL_len s.a s.b cs
  have ho := h.ow
  refine enter (args := [_, _, _]) (M := []) (K := []) Try.func182 rfl Try.ntmps182 rfl (St.refl _ _) ?_
  refine gc_own (s.K false g q c sp []) h.kn h.ap ?_
  rw [SX.K_map]
  unfold SX.K SX.cs SX.cR
  simp only [cond_false]
  repeat' first
    | (refine gl_gate ?_; first
      | refine gl_nil ?_
      | (refine gl_load0 ?_; refine gl_yv (yv_load tab_ok (gok_none rfl) rfl rfl (fun _ => rfl) c_mem (fun _ => c_lds)) rfl rfl ?_)
      | (refine gl_any0 ?_; (refine gl_ev (ev_callOwN rfl rfl ent104 rfl rfl rfl (fun W hW => ct_SeeR s.a s.b cs p _ _ W rfl (hcs.st hW (fun b hb => hb)) (by omega)) ?_) rfl rfl; intro p1_ c1_ sp1_ hw1_ hn1_))
      | (refine gl_alc0 ?_; (refine gl_alloc tab_ok rfl rfl rfl rfl rfl ?_; intro g_ hg_))
      | (refine gl_sto0 ?_; refine gl_store tab_ok rfl rfl rfl rfl rfl rfl rfl c_one rfl c_ku ?_)
      | (refine gl_any0 ?_; refine gl_pure tab_ok rfl rfl rfl rfl rfl rfl ?_))
    | (refine gc_gate ?_; first
      | refine gc_seq ?_
      | refine gc_region ?_
      | refine gc_ret ?_)
    | (refine ge_gate ?_; first
      | ((with_reducible refine ge_gT ?_); first | with_reducible refine ge_then ?_ | with_reducible refine ge_then_exit ?_ | with_reducible refine ge_then_ret ?_)
      | ((with_reducible refine ge_gB ?_); first | refine ge_ret1 tab_ok rfl c_rvt ?_ | refine ge_end1 tab_ok rfl c_rvt ?_ | refine ge_ret2 tab_ok rfl c_rvt c_rvt ?_ | refine ge_ret_none rfl ?_ | refine ge_end_none rfl ?_))
  intro W hW
  exact ⟨⟨p1_, c1_, sp1_, none, 0, []⟩, rfl, ⟨hw1_, hn1_⟩, Sel.st c_sel hW⟩
theorem ct_TellR (s : SX) (g c : Nat) (q : Option Nat) (sp : List Value) (x : RP) (w : World) (h : SLi false s g q c sp w) (hl : s.l.length ≤ 8) :
    Calls Try.prog 125 #[.pointer (some ⟨g, 0, none⟩), .agg x.l.toArray] w (RetM w (blks g q) (fun _ : YT => .tuple #[])
      (fun y => y.s.K false g y.q y.c y.sp []) (fun y => y.s = s.tl x ∧ Ow y.q y.s.l.length y.c 4 (cat RP.l y.s.l) y.sp)) := by
  have ho := h.ow
  obtain ⟨⟨xk, xv, xe, xl⟩, xp, xc⟩ := x
  have ex : RP.l ⟨⟨xk, xv, xe, xl⟩, xp, xc⟩ = [.int .i64 xk, .int .i64 xv, .int .i64 xe, .slice xp xl.length xc] := rfl
  rw [ex]
  rcases Nat.lt_or_ge s.l.length 8 with h8 | h8
  · refine enter (args := [_, _]) (M := []) (K := []) Try.func125 rfl Try.ntmps125 rfl (St.refl _ _) ?_
    refine gc_own (s.K false g q c sp []) h.kn h.ap ?_
    rw [SX.K_map]
    unfold SX.K SX.cs SX.cR
    simp only [cond_false]
    repeat' first
      | (refine gl_gate ?_; first
        | refine gl_nil ?_
        | (refine gl_load0 ?_; refine gl_yv (yv_load tab_ok (gok_none rfl) rfl rfl (fun _ => rfl) c_mem (fun _ => c_lds)) rfl rfl ?_)
        | (refine gl_box0 ?_; first | (refine gl_box_agg rfl rfl rfl rfl rfl ?_; intro g_ hg_) | (refine gl_box_one rfl rfl rfl rfl rfl rfl ?_; intro g_ hg_) | (refine gl_box rfl rfl rfl rfl rfl ?_; intro g_ hg_))
        | (refine gl_any0 ?_; refine gl_pure tab_ok rfl rfl rfl rfl rfl rfl ?_))
      | (refine gc_gate ?_; first
        | refine gc_seq ?_
        | refine gc_region ?_
        | (refine gc_cond rfl ?_ ?_ <;> intro h_ <;> have hd_ := h_ <;> (try simp only [bytes_beq, cell_beq, val_beq, stamp_beq, decide_eq_true_eq, decide_eq_false_iff_not, Bool.and_eq_true, Bool.or_eq_true, Bool.or_eq_false_iff, Bool.not_eq_true', Bool.not_eq_false', Bool.not_true, Bool.not_false, Bool.false_or, Bool.true_and, Bool.and_true, Bool.or_false, beq_iff_eq, bne_iff_ne, beq_eq_false_iff_ne, bne_eq_false_iff_eq, ne_eq, Bool.false_eq_true, reduceCtorEq] at hd_) <;> (try (exfalso; omega)))
        | refine gc_skip ?_)
      | (refine ge_gate ?_; first
        | ((with_reducible refine ge_gT ?_); first | with_reducible refine ge_then ?_ | with_reducible refine ge_then_exit ?_ | with_reducible refine ge_then_ret ?_))
    refine gp_startC (St w (blks g q) [(g_, true, .cells [.int .i64 xk, .int .i64 xv, .int .i64 xe, .slice xp xl.length xc].toArray 65 (0, 0)), (g, true, .cells (s.cR q c).toArray 139 (0, 0))]) c_cl [7, 10] #[false, false, false, false, false, false, false, false, false, false, false] mixed rfl rfl c_qp ?_; intro hqp_
    refine gp_take 1 #[false, true, false, false, false, false, false, false, false, false, false] hqp_ rfl (by kernel_rfl) (yv_pure tab_ok c_gok rfl rfl c_allT) c_cl rfl rfl ?_
    refine gp_take 2 #[false, true, true, false, false, false, false, false, false, false, false] hqp_ rfl (by kernel_rfl) (yv_pure tab_ok c_gok rfl rfl c_allT) c_cl rfl rfl ?_
    refine gp_take 3 #[false, true, true, true, false, false, false, false, false, false, false] hqp_ rfl (by kernel_rfl) (yv_pure tab_ok c_gok rfl rfl c_allT) c_cl rfl rfl ?_
    refine gp_take 4 #[false, true, true, true, true, false, false, false, false, false, false] hqp_ rfl (by kernel_rfl) (yv_load tab_ok c_gok rfl rfl c_imp c_mem (fun _ => c_lds)) c_cl rfl rfl ?_
    refine gp_take 5 #[false, true, true, true, true, true, false, false, false, false, false] hqp_ rfl (by kernel_rfl) (yv_load tab_ok c_gok rfl rfl c_imp c_mem (fun _ => c_lds)) c_cl rfl rfl ?_
    refine gp_rs [0, 6] (by kernel_rfl) rfl (gr_ev 0 #[true, true, true, true, true, true, false, false, false, false, false] rfl rfl rfl rfl rfl (ev_yv (l := []) rfl (yv_pure tab_ok (gok_none rfl) rfl rfl (fun _ => allT_of rfl)) ⟨c_cl, ?_⟩) (gr_ev 6 #[false, true, true, true, true, true, true, false, false, false, false] rfl rfl rfl rfl rfl (ev_buildSlice tab_ok rfl rfl rfl rfl rfl rfl rfl rfl rfl rfl ?_) gr_nil))
    (refine gp_ev 6 #[true, true, true, true, true, true, true, false, false, false, false] rfl (by kernel_rfl) rfl rfl rfl (ev_buildSlice tab_ok rfl rfl rfl rfl rfl rfl rfl rfl rfl rfl ?_); intro g_ hg_; refine ⟨c_cl, ?_⟩)
    (refine gp_last 7 #[true, true, true, true, true, true, true, true, false, false, false] rfl (by kernel_rfl) (by simp) rfl rfl (ev_append tab_ok rfl rfl rfl rfl rfl rfl rfl rfl c_oa ho c_src c_lim c_lim ?_); intro p_ c_ sp_ hw_)
    refine gp_take 8 #[true, true, true, true, true, true, true, true, true, false, false] hqp_ rfl (by kernel_rfl) (yv_pure tab_ok c_gok rfl rfl c_allT) c_cl rfl rfl ?_
    refine gp_take 9 #[true, true, true, true, true, true, true, true, true, true, false] hqp_ rfl (by kernel_rfl) (yv_pure tab_ok c_gok rfl rfl c_allT) c_cl rfl rfl ?_
    refine gp_last0 10 #[true, true, true, true, true, true, true, true, true, true, true] rfl (by kernel_rfl) (by simp) rfl (ev_store tab_ok rfl rfl rfl rfl rfl rfl c_one rfl c_ku ?_)
    refine gp_done (by kernel_rfl) ?_; clear hqp_
    rotate_left 1
    intro g_ hg_; refine ⟨c_cl, ?_⟩
    refine gp_rs [0, 7] (by kernel_rfl) rfl (gr_ev 0 #[true, true, true, true, true, true, true, false, false, false, false] rfl rfl rfl rfl rfl (ev_yv (l := []) rfl (yv_pure tab_ok (gok_none rfl) rfl rfl (fun _ => allT_of rfl)) ⟨c_cl, ?_⟩) (gr_last 7 #[false, true, true, true, true, true, true, true, false, false, false] rfl rfl (by simp) rfl rfl (ev_append tab_ok rfl rfl rfl rfl rfl rfl rfl rfl c_oa ho c_src c_lim c_lim ?_) gr_nil))
    (refine gp_last 7 #[true, true, true, true, true, true, true, true, false, false, false] rfl (by kernel_rfl) (by simp) rfl rfl (ev_append tab_ok rfl rfl rfl rfl rfl rfl rfl rfl c_oa ho c_src c_lim c_lim ?_); intro p_ c_ sp_ hw_)
    refine gp_take 8 #[true, true, true, true, true, true, true, true, true, false, false] hqp_ rfl (by kernel_rfl) (yv_pure tab_ok c_gok rfl rfl c_allT) c_cl rfl rfl ?_
    refine gp_take 9 #[true, true, true, true, true, true, true, true, true, true, false] hqp_ rfl (by kernel_rfl) (yv_pure tab_ok c_gok rfl rfl c_allT) c_cl rfl rfl ?_
    refine gp_last0 10 #[true, true, true, true, true, true, true, true, true, true, true] rfl (by kernel_rfl) (by simp) rfl (ev_store tab_ok rfl rfl rfl rfl rfl rfl c_one rfl c_ku ?_)
    refine gp_done (by kernel_rfl) ?_; clear hqp_
    rotate_left 1
    intro p_ c_ sp_ hw_
    refine gp_take 0 #[true, true, true, true, true, true, true, true, false, false, false] hqp_ rfl (by kernel_rfl) (yv_pure tab_ok c_gok rfl rfl c_allT) c_cl rfl rfl ?_
    refine gp_take 8 #[true, true, true, true, true, true, true, true, true, false, false] hqp_ rfl (by kernel_rfl) (yv_pure tab_ok c_gok rfl rfl c_allT) c_cl rfl rfl ?_
    refine gp_take 9 #[true, true, true, true, true, true, true, true, true, true, false] hqp_ rfl (by kernel_rfl) (yv_pure tab_ok c_gok rfl rfl c_allT) c_cl rfl rfl ?_
    refine gp_last0 10 #[true, true, true, true, true, true, true, true, true, true, true] rfl (by kernel_rfl) (by simp) rfl (ev_store tab_ok rfl rfl rfl rfl rfl rfl c_one rfl c_ku ?_)
    refine gp_done (by kernel_rfl) ?_; clear hqp_
    all_goals
      repeat' first
        | (refine ge_gate ?_; first
          | ((with_reducible refine ge_gB ?_); first | refine ge_ret1 tab_ok rfl c_rvt ?_ | refine ge_end1 tab_ok rfl c_rvt ?_ | refine ge_ret2 tab_ok rfl c_rvt c_rvt ?_ | refine ge_ret_none rfl ?_ | refine ge_end_none rfl ?_))
    all_goals
      intro W hW
      have e : cat RP.l (s.l ++ [⟨⟨xk, xv, xe, xl⟩, xp, xc⟩]) = cat RP.l s.l ++ [.int .i64 xk, .int .i64 xv, .int .i64 xe, .slice xp xl.length xc] := cat_snoc _ _
      refine ⟨⟨{ s with l := s.l ++ [⟨⟨xk, xv, xe, xl⟩, xp, xc⟩] }, p_, c_, sp_, none, 0, []⟩, rfl, ⟨by rw [SX.tl, if_pos h8], ?_⟩, ?_⟩
      · show Ow p_ (s.l ++ [_]).length c_ 4 (cat RP.l (s.l ++ [_])) sp_
        rw [e, List.length_append]
        exact hw_
      · dsimp only
        rw [e, List.length_append]
        exact Sel.st c_sel hW
  · refine enter (args := [_, _]) (M := []) (K := []) Try.func125 rfl Try.ntmps125 rfl (St.refl _ _) ?_
    refine gc_own (s.K false g q c sp []) h.kn h.ap ?_
    rw [SX.K_map]
    unfold SX.K SX.cs SX.cR
    simp only [cond_false]
    repeat' first
      | (refine gl_gate ?_; first
        | refine gl_nil ?_
        | (refine gl_load0 ?_; refine gl_yv (yv_load tab_ok (gok_none rfl) rfl rfl (fun _ => rfl) c_mem (fun _ => c_lds)) rfl rfl ?_)
        | (refine gl_box0 ?_; first | (refine gl_box_agg rfl rfl rfl rfl rfl ?_; intro g_ hg_) | (refine gl_box_one rfl rfl rfl rfl rfl rfl ?_; intro g_ hg_) | (refine gl_box rfl rfl rfl rfl rfl ?_; intro g_ hg_))
        | (refine gl_sto0 ?_; refine gl_store tab_ok rfl rfl rfl rfl rfl rfl rfl c_one rfl c_ku ?_)
        | (refine gl_any0 ?_; refine gl_pure tab_ok rfl rfl rfl rfl rfl rfl ?_))
      | (refine gc_gate ?_; first
        | refine gc_seq ?_
        | refine gc_region ?_
        | (refine gc_cond rfl ?_ ?_ <;> intro h_ <;> have hd_ := h_ <;> (try simp only [bytes_beq, cell_beq, val_beq, stamp_beq, decide_eq_true_eq, decide_eq_false_iff_not, Bool.and_eq_true, Bool.or_eq_true, Bool.or_eq_false_iff, Bool.not_eq_true', Bool.not_eq_false', Bool.not_true, Bool.not_false, Bool.false_or, Bool.true_and, Bool.and_true, Bool.or_false, beq_iff_eq, bne_iff_ne, beq_eq_false_iff_ne, bne_eq_false_iff_eq, ne_eq, Bool.false_eq_true, reduceCtorEq] at hd_) <;> (try (exfalso; omega)))
        | refine gc_ret ?_)
      | (refine ge_gate ?_; first
        | ((with_reducible refine ge_gT ?_); first | with_reducible refine ge_then ?_ | with_reducible refine ge_then_exit ?_ | with_reducible refine ge_then_ret ?_)
        | ((with_reducible refine ge_gB ?_); first | refine ge_ret1 tab_ok rfl c_rvt ?_ | refine ge_end1 tab_ok rfl c_rvt ?_ | refine ge_ret2 tab_ok rfl c_rvt c_rvt ?_ | refine ge_ret_none rfl ?_ | refine ge_end_none rfl ?_))
    intro W hW
    exact ⟨⟨{ s with bh := true }, q, c, sp, none, 0, []⟩, rfl, ⟨by rw [SX.tl, if_neg (by omega)], ho⟩, Sel.st c_sel hW⟩
section
variable {N : Nat} {w0 W : World} {M : List Nat} {F : Fl} {K Kx : Kl} {o : Oper}
theorem ev_snapR {R : Value → Kl → Prop} {args : Array Operand} {ts : Array TypeId} {ps : List Bool} {s : SX} {g : Nat} {q : Option Nat} {c : Nat} {sp : List Value} {v : Int} {cs : List Shown} {p : Option Addr} {cap : Nat} (hg : o.guard = none) (ho : o.op = .call ⟨.value (.func 182), args, ts⟩) (hv : vals F args.toList = some [.pointer (some ⟨g, 0, none⟩), .int .i64 v, .slice p cs.length cap]) (hc : cdl F args.toList = some ps) (hp : ps.all id = true)
    (hk : Sa false s g q c sp K Kx) (hw : Ow q s.l.length c 4 (cat RP.l s.l) sp) (him : ∀ W, St w0 M K W → Im W (blks g q) p cs)
    (hR : ∀ p1 c1 sp1, Ow p1 (seeL s.a s.b cs).length c1 6 (cat Shown.l (seeL s.a s.b cs)) sp1 → Nw w0 p1 → R (.agg #[.int .i64 2, .int .i64 v, .int .i64 0, .slice (Option.map ad p1) (seeL s.a s.b cs).length c1]) (({ s with saw := ⟨p1.map ad, c1, seeL s.a s.b cs⟩ } : SX).K false g q c sp (ow p1 true (cat Shown.l (seeL s.a s.b cs) ++ sp1) 120 ++ Kx))) : Ev Try.prog o N w0 M F K R :=
  ev_ses hg ho ent182 hv hc hp hk hw (fun W hW hi => ct_snapR s g c q sp v cs p cap W hi (him W hW)) (fun y => SX.K_wr2 (kw_app ow_wr kw_nil)) fun W y hW hy => by
    have := hR y.p1 y.c1 y.sp1 hy.1 (hy.2.of hW)
    rw [SX.K_app2, List.append_assoc, List.nil_append]
    exact this
theorem ev_tellR {R : Value → Kl → Prop} {args : Array Operand} {ts : Array TypeId} {ps : List Bool} {s : SX} {g : Nat} {q : Option Nat} {c : Nat} {sp : List Value} {x : RP} (hg : o.guard = none) (ho : o.op = .call ⟨.value (.func 125), args, ts⟩) (hv : vals F args.toList = some [.pointer (some ⟨g, 0, none⟩), .agg x.l.toArray]) (hc : cdl F args.toList = some ps) (hp : ps.all id = true)
    (hk : Sa false s g q c sp K Kx) (hw : Ow q s.l.length c 4 (cat RP.l s.l) sp) (hl : s.l.length ≤ 8)
    (hR : ∀ (s' : SX) q' c' sp', s' = s.tl x → Ow q' s'.l.length c' 4 (cat RP.l s'.l) sp' → R (.tuple #[]) (s'.K false g q' c' sp' Kx)) : Ev Try.prog o N w0 M F K R :=
  ev_ses hg ho ent125 hv hc hp hk hw (fun W hW hi => ct_TellR s g c q sp x W hi hl) (fun y => SX.K_wr2 kw_nil) fun W y hW hy => by
    have := hR y.s y.q y.c y.sp hy.1 hy.2
    rw [SX.K_app2, List.nil_append]
    exact this
end
theorem ct_AwayR (s : SX) (g c : Nat) (q : Option Nat) (sp : List Value) (X : List Nat) (w : World) (h : Ses false s g q c sp X w) : Calls Try.prog 124 #[.pointer (some ⟨g, 0, none⟩)] w (RetX false w g q X (fun v _ _ => v = .tuple #[]) { s.sg with wt := false }) := by
  have ho := h.li.ow
  refine enter (args := [_]) (M := []) (K := []) Try.func124 rfl Try.ntmps124 rfl (St.refl _ _) ?_
  refine gc_own (s.K false g q c sp []) h.li.kn h.li.ap ?_
  rw [SX.K_map]
  unfold SX.K SX.cs SX.cR
  simp only [cond_false]
  repeat' first
    | (refine gl_gate ?_; first
      | refine gl_nil ?_
      | (refine gl_sto0 ?_; refine gl_store tab_ok rfl rfl rfl rfl rfl rfl rfl c_one rfl c_ku ?_)
      | (refine gl_any0 ?_; refine gl_pure tab_ok rfl rfl rfl rfl rfl rfl ?_))
    | (refine gc_gate ?_; first
      | refine gc_region ?_)
    | (refine ge_gate ?_; first
      | ((with_reducible refine ge_gB ?_); first | refine ge_ret1 tab_ok rfl c_rvt ?_ | refine ge_end1 tab_ok rfl c_rvt ?_ | refine ge_ret2 tab_ok rfl c_rvt c_rvt ?_ | refine ge_ret_none rfl ?_ | refine ge_end_none rfl ?_))
  intro W hW
  exact RetX.of { s with wt := false } q c sp hW c_sel ho rfl h.le h.mX h.lX (fun hX => h.saw.keep hW h.mX hX) (fun hX r hr => (h.im r hr).keep hW h.mX hX) (fun _ => rfl)
theorem small_area {a b : Cell} : small400 a b = true ↔ badArea a b = false ∧ ¬ area a b > 400 := by
  unfold small400
  cases badArea a b <;> simp
theorem ct_WatchR (s : SX) (g c : Nat) (q : Option Nat) (sp : List Value) (X : List Nat) (a b : Cell) (v : Int) (cs : List Shown) (p : Option Addr) (cap : Nat) (w : World) (h : Ses false s g q c sp X w) (hcs : Im w X p cs) :
    Calls Try.prog 122 #[.pointer (some ⟨g, 0, none⟩), .agg (a.l ++ b.l).toArray, .int .i64 v, .slice p cs.length cap] w (RetX false w g q X (fun x _ _ => x = .int .i64 (if small400 a b then 0 else 1)) (if small400 a b then s.sg.watch a b v cs else s.sg)) := by
  have ho := h.li.ow
  have hle := h.le
  have hcl := hcs.le
  have hsl := seeL_len a b cs
  cases hs : small400 a b with
  | false =>
    simp only [Bool.false_eq_true, if_false]
    have hs2 : ¬ (badArea a b = false ∧ ¬ area a b > 400) := fun h => by rw [small_area.2 h] at hs; cases hs
    refine enter (args := [_, _, _, _]) (M := []) (K := []) Try.func122 rfl Try.ntmps122 rfl (St.refl _ _) ?_
    refine gc_own (s.K false g q c sp []) h.li.kn h.li.ap ?_
    rw [SX.K_map]
    unfold SX.K SX.cs SX.cR
    simp only [cond_false]
    repeat' first
      | (refine gl_gate ?_; first
        | refine gl_nil ?_
        | (refine gl_load0 ?_; refine gl_yv (yv_load tab_ok (gok_none rfl) rfl rfl (fun _ => rfl) c_mem (fun _ => c_lds)) rfl rfl ?_)
        | (refine gl_calv0 ?_; first | refine gl_yd (yd_call (gok_none rfl) rfl ent170 rfl rfl (fun _ => allT_of rfl) (fun _ W hW => ct_Area a b W)) rfl rfl ?_)
        | (refine gl_pick0 ?_; first | refine gl_yv (yv_and (gok_none rfl) rfl rfl rfl (fun _ => rfl) c_imp2) rfl rfl ?_ | refine gl_yv (yv_or (gok_none rfl) rfl rfl rfl (fun _ => rfl) c_imp2) rfl rfl ?_)
        | (refine gl_box0 ?_; first | (refine gl_box_agg rfl rfl rfl rfl rfl ?_; intro g_ hg_) | (refine gl_box_one rfl rfl rfl rfl rfl rfl ?_; intro g_ hg_) | (refine gl_box rfl rfl rfl rfl rfl ?_; intro g_ hg_))
        | (refine gl_sto0 ?_; refine gl_store tab_ok rfl rfl rfl rfl rfl rfl rfl c_one rfl c_ku ?_)
        | (refine gl_any0 ?_; refine gl_pure tab_ok rfl rfl rfl rfl rfl rfl ?_)
        | (refine gl_anyG ?_; first | refine gl_yv (yv_pure tab_ok c_gok rfl rfl c_allT) rfl rfl ?_ | refine gl_yv (yv_indexS tab_ok c_gok rfl rfl rfl rfl c_imp c_imp (by intro hq_; (try simp only [Bool.and_eq_true, Bool.not_eq_true', Bool.not_eq_false', Bool.or_eq_false_iff, Bool.or_eq_true, decide_eq_true_eq, decide_eq_false_iff_not, Bool.true_and, Bool.and_true] at hq_); omega)) rfl rfl ?_ | refine gl_yv (yv_indexS (i := 0) tab_ok c_gok rfl rfl rfl rfl c_imp c_imp (by intro hq_; (try simp only [Bool.and_eq_true, Bool.not_eq_true', Bool.not_eq_false', Bool.or_eq_false_iff, Bool.or_eq_true, decide_eq_true_eq, decide_eq_false_iff_not, Bool.true_and, Bool.and_true] at hq_); omega)) rfl rfl ?_))
      | (refine gc_gate ?_; first
        | refine gc_seq ?_
        | refine gc_region ?_
        | (refine gc_cond rfl ?_ ?_ <;> intro h_ <;> have hd_ := h_ <;> (try simp only [bytes_beq, cell_beq, val_beq, stamp_beq, decide_eq_true_eq, decide_eq_false_iff_not, Bool.and_eq_true, Bool.or_eq_true, Bool.or_eq_false_iff, Bool.not_eq_true', Bool.not_eq_false', Bool.not_true, Bool.not_false, Bool.false_or, Bool.true_and, Bool.and_true, Bool.or_false, beq_iff_eq, bne_iff_ne, beq_eq_false_iff_ne, bne_eq_false_iff_eq, ne_eq, Bool.false_eq_true, reduceCtorEq] at hd_) <;> (try (exfalso; omega)))
        | refine gc_ret ?_
        | refine gc_skip ?_)
      | (refine ge_gate ?_; first
        | ((with_reducible refine ge_gT ?_); first | with_reducible refine ge_then ?_ | with_reducible refine ge_then_exit ?_ | with_reducible refine ge_then_ret ?_)
        | ((with_reducible refine ge_gB ?_); first | refine ge_ret1 tab_ok rfl c_rvt ?_ | refine ge_end1 tab_ok rfl c_rvt ?_ | refine ge_ret2 tab_ok rfl c_rvt c_rvt ?_ | refine ge_ret_none rfl ?_ | refine ge_end_none rfl ?_))
    rotate_left
    · exact absurd hd_ hs2
    intro W hW
    exact RetX.of s q c sp hW c_sel ho rfl h.le h.mX h.lX (fun hX => h.saw.keep hW h.mX hX) (fun hX r hr => (h.im r hr).keep hW h.mX hX) (fun _ => rfl)
  | true =>
    simp only [if_true]
    have hs2 := small_area.1 hs
    refine enter (args := [_, _, _, _]) (M := []) (K := []) Try.func122 rfl Try.ntmps122 rfl (St.refl _ _) ?_
    refine gc_own (s.K false g q c sp []) h.li.kn h.li.ap ?_
    rw [SX.K_map]
    unfold SX.K SX.cs SX.cR
    simp only [cond_false]
    repeat' first
      | (refine gl_gate ?_; first
        | refine gl_nil ?_
        | (refine gl_load0 ?_; refine gl_yv (yv_load tab_ok (gok_none rfl) rfl rfl (fun _ => rfl) c_mem (fun _ => c_lds)) rfl rfl ?_)
        | (refine gl_any0 ?_; (refine gl_ev (ev_snapR (s := { s with wt := true, a := a, b := b }) (g := g) (q := q) (c := c) (sp := sp) (v := v) (cs := cs) (p := p) (cap := cap) rfl rfl rfl rfl rfl c_sa ho (fun W hW => hcs.keep hW h.mX (fun b hb => Or.inl (h.mX b hb))) ?_) rfl rfl; intro p1_ c1_ sp1_ hw1_ hn1_))
        | (refine gl_any0 ?_; (refine gl_ev (ev_tellR (s := { s with wt := true, a := a, b := b, saw := ⟨p1_.map ad, c1_, seeL a b cs⟩ }) (g := g) (q := q) (c := c) (sp := sp) (x := ⟨⟨2, v, 0, seeL a b cs⟩, p1_.map ad, c1_⟩) rfl rfl rfl rfl rfl c_sa ho hle ?_) rfl rfl; intro s3_ q3_ c3_ sp3_ hs3_ ho3_))
        | (refine gl_calv0 ?_; first | refine gl_yd (yd_call (gok_none rfl) rfl ent170 rfl rfl (fun _ => allT_of rfl) (fun _ W hW => ct_Area a b W)) rfl rfl ?_)
        | (refine gl_pick0 ?_; first | refine gl_yv (yv_and (gok_none rfl) rfl rfl rfl (fun _ => rfl) c_imp2) rfl rfl ?_ | refine gl_yv (yv_or (gok_none rfl) rfl rfl rfl (fun _ => rfl) c_imp2) rfl rfl ?_)
        | (refine gl_box0 ?_; first | (refine gl_box_agg rfl rfl rfl rfl rfl ?_; intro g_ hg_) | (refine gl_box_one rfl rfl rfl rfl rfl rfl ?_; intro g_ hg_) | (refine gl_box rfl rfl rfl rfl rfl ?_; intro g_ hg_))
        | (refine gl_sto0 ?_; refine gl_store tab_ok rfl rfl rfl rfl rfl rfl rfl c_one rfl c_ku ?_)
        | (refine gl_any0 ?_; refine gl_pure tab_ok rfl rfl rfl rfl rfl rfl ?_)
        | (refine gl_anyG ?_; first | refine gl_yv (yv_pure tab_ok c_gok rfl rfl c_allT) rfl rfl ?_ | refine gl_yv (yv_indexS tab_ok c_gok rfl rfl rfl rfl c_imp c_imp (by intro hq_; (try simp only [Bool.and_eq_true, Bool.not_eq_true', Bool.not_eq_false', Bool.or_eq_false_iff, Bool.or_eq_true, decide_eq_true_eq, decide_eq_false_iff_not, Bool.true_and, Bool.and_true] at hq_); omega)) rfl rfl ?_ | refine gl_yv (yv_indexS (i := 0) tab_ok c_gok rfl rfl rfl rfl c_imp c_imp (by intro hq_; (try simp only [Bool.and_eq_true, Bool.not_eq_true', Bool.not_eq_false', Bool.or_eq_false_iff, Bool.or_eq_true, decide_eq_true_eq, decide_eq_false_iff_not, Bool.true_and, Bool.and_true] at hq_); omega)) rfl rfl ?_))
      | (refine gc_gate ?_; first
        | refine gc_seq ?_
        | refine gc_region ?_
        | (refine gc_cond rfl ?_ ?_ <;> intro h_ <;> have hd_ := h_ <;> (try simp only [bytes_beq, cell_beq, val_beq, stamp_beq, decide_eq_true_eq, decide_eq_false_iff_not, Bool.and_eq_true, Bool.or_eq_true, Bool.or_eq_false_iff, Bool.not_eq_true', Bool.not_eq_false', Bool.not_true, Bool.not_false, Bool.false_or, Bool.true_and, Bool.and_true, Bool.or_false, beq_iff_eq, bne_iff_ne, beq_eq_false_iff_ne, bne_eq_false_iff_eq, ne_eq, Bool.false_eq_true, reduceCtorEq] at hd_) <;> (try (exfalso; omega)))
        | refine gc_ret ?_
        | refine gc_skip ?_)
      | (refine ge_gate ?_; first
        | ((with_reducible refine ge_gT ?_); first | with_reducible refine ge_then ?_ | with_reducible refine ge_then_exit ?_ | with_reducible refine ge_then_ret ?_)
        | ((with_reducible refine ge_gB ?_); first | refine ge_ret1 tab_ok rfl c_rvt ?_ | refine ge_end1 tab_ok rfl c_rvt ?_ | refine ge_ret2 tab_ok rfl c_rvt c_rvt ?_ | refine ge_ret_none rfl ?_ | refine ge_end_none rfl ?_))
    · exfalso
      rcases hd_ with h1 | h1
      · rw [hs2.1] at h1; cases h1
      · exact hs2.2 h1
    intro W hW
    subst hs3_
    have hnew : Im W (q3_.toList ++ X) (p1_.map ad) (seeL a b cs) := Im.new (l := seeL a b cs) (q := q3_) (X := X) hW c_sel hw1_ hn1_ h.lX (by omega)
    refine RetX.of _ q3_ c3_ sp3_ hW c_sel ho3_ (SX.tl_sg _ _) (SX.tl_le _ _ hle) h.mX h.lX (fun hX => ?_) (fun hX r hr => ?_) (fun _ => rfl)
    · rw [SX.tl_saw]
      exact hnew
    · rcases SX.tl_mem hr with hr | ⟨rfl, h8⟩
      · exact (h.im r hr).keep hW h.mX hX
      · exact hnew
theorem ct_PubR (s : SX) (g c : Nat) (q : Option Nat) (sp : List Value) (X : List Nat) (v : Int) (cs : List Shown) (p : Option Addr) (cap : Nat) (w : World) (h : Ses false s g q c sp X w) (hcs : Im w X p cs) (hd : (deltaL s.saw.xs (seeL s.a s.b cs)).length ≤ 1000) (hsr : Srt s.saw.xs) (hnb : NB s.saw.xs) (hcr : Srt cs) :
    Calls Try.prog 126 #[.pointer (some ⟨g, 0, none⟩), .int .i64 v, .slice p cs.length cap] w (RetX false w g q X (fun x _ _ => x = .tuple #[]) (s.sg.pub v cs)) := by
  have ho := h.li.ow
  have hle := h.le
  have hcl := hcs.le
  have hsl := seeL_len s.a s.b cs
  have hsw := h.saw.le
  have hdel := deltaR_eq hsr (see_srt (a := s.a) (b := s.b) hcr) hnb (see_nb s.a s.b cs)
  obtain ⟨wt, bh, a, b, saw, l⟩ := s
  dsimp only at hd ho hle hsl hsw hdel
  cases hb : (wt && !bh) with
  | false =>
    have e : SG.pub (SX.sg ⟨wt, bh, a, b, saw, l⟩) v cs = SX.sg ⟨wt, bh, a, b, saw, l⟩ := by
      simp [SG.pub, SX.sg, hb]
    rw [e]
    cases wt <;> cases bh <;> simp at hb
    all_goals
      refine enter (args := [_, _, _]) (M := []) (K := []) Try.func126 rfl Try.ntmps126 rfl (St.refl _ _) ?_
    · refine gc_own (SX.K ⟨false, false, a, b, saw, l⟩ false g q c sp []) h.li.kn h.li.ap ?_
      rw [SX.K_map]
      unfold SX.K SX.cs SX.cR
      simp only [cond_false]
      repeat' first
        | (refine gl_gate ?_; first
          | refine gl_nil ?_
          | (refine gl_load0 ?_; refine gl_yv (yv_load tab_ok (gok_none rfl) rfl rfl (fun _ => rfl) c_mem (fun _ => c_lds)) rfl rfl ?_)
          | (refine gl_pick0 ?_; first | refine gl_yv (yv_and (gok_none rfl) rfl rfl rfl (fun _ => rfl) c_imp2) rfl rfl ?_ | refine gl_yv (yv_or (gok_none rfl) rfl rfl rfl (fun _ => rfl) c_imp2) rfl rfl ?_)
          | (refine gl_loadG ?_; refine gl_yv (yv_load tab_ok c_gok rfl rfl c_imp c_mem (fun _ => c_lds)) rfl rfl ?_)
          | (refine gl_any0 ?_; refine gl_pure tab_ok rfl rfl rfl rfl rfl rfl ?_)
          | (refine gl_anyG ?_; first | refine gl_yv (yv_pure tab_ok c_gok rfl rfl c_allT) rfl rfl ?_ | refine gl_yv (yv_indexS tab_ok c_gok rfl rfl rfl rfl c_imp c_imp (by intro hq_; (try simp only [Bool.and_eq_true, Bool.not_eq_true', Bool.not_eq_false', Bool.or_eq_false_iff, Bool.or_eq_true, decide_eq_true_eq, decide_eq_false_iff_not, Bool.true_and, Bool.and_true] at hq_); omega)) rfl rfl ?_ | refine gl_yv (yv_indexS (i := 0) tab_ok c_gok rfl rfl rfl rfl c_imp c_imp (by intro hq_; (try simp only [Bool.and_eq_true, Bool.not_eq_true', Bool.not_eq_false', Bool.or_eq_false_iff, Bool.or_eq_true, decide_eq_true_eq, decide_eq_false_iff_not, Bool.true_and, Bool.and_true] at hq_); omega)) rfl rfl ?_))
        | (refine gc_gate ?_; first
          | refine gc_seq ?_
          | refine gc_region ?_
          | refine gc_true rfl ?_
          | refine gc_ret ?_)
        | (refine ge_gate ?_; first
          | ((with_reducible refine ge_gT ?_); first | with_reducible refine ge_then ?_ | with_reducible refine ge_then_exit ?_ | with_reducible refine ge_then_ret ?_)
          | ((with_reducible refine ge_gB ?_); first | refine ge_ret1 tab_ok rfl c_rvt ?_ | refine ge_end1 tab_ok rfl c_rvt ?_ | refine ge_ret2 tab_ok rfl c_rvt c_rvt ?_ | refine ge_ret_none rfl ?_ | refine ge_end_none rfl ?_))
      intro W hW
      exact RetX.of ⟨false, false, a, b, saw, l⟩ q c sp hW c_sel ho rfl h.le h.mX h.lX (fun hX => h.saw.keep hW h.mX hX) (fun hX r hr => (h.im r hr).keep hW h.mX hX) (fun _ => rfl)
    · refine gc_own (SX.K ⟨false, true, a, b, saw, l⟩ false g q c sp []) h.li.kn h.li.ap ?_
      rw [SX.K_map]
      unfold SX.K SX.cs SX.cR
      simp only [cond_false]
      repeat' first
        | (refine gl_gate ?_; first
          | refine gl_nil ?_
          | (refine gl_load0 ?_; refine gl_yv (yv_load tab_ok (gok_none rfl) rfl rfl (fun _ => rfl) c_mem (fun _ => c_lds)) rfl rfl ?_)
          | (refine gl_pick0 ?_; first | refine gl_yv (yv_and (gok_none rfl) rfl rfl rfl (fun _ => rfl) c_imp2) rfl rfl ?_ | refine gl_yv (yv_or (gok_none rfl) rfl rfl rfl (fun _ => rfl) c_imp2) rfl rfl ?_)
          | (refine gl_loadG ?_; refine gl_yv (yv_load tab_ok c_gok rfl rfl c_imp c_mem (fun _ => c_lds)) rfl rfl ?_)
          | (refine gl_any0 ?_; refine gl_pure tab_ok rfl rfl rfl rfl rfl rfl ?_)
          | (refine gl_anyG ?_; first | refine gl_yv (yv_pure tab_ok c_gok rfl rfl c_allT) rfl rfl ?_ | refine gl_yv (yv_indexS tab_ok c_gok rfl rfl rfl rfl c_imp c_imp (by intro hq_; (try simp only [Bool.and_eq_true, Bool.not_eq_true', Bool.not_eq_false', Bool.or_eq_false_iff, Bool.or_eq_true, decide_eq_true_eq, decide_eq_false_iff_not, Bool.true_and, Bool.and_true] at hq_); omega)) rfl rfl ?_ | refine gl_yv (yv_indexS (i := 0) tab_ok c_gok rfl rfl rfl rfl c_imp c_imp (by intro hq_; (try simp only [Bool.and_eq_true, Bool.not_eq_true', Bool.not_eq_false', Bool.or_eq_false_iff, Bool.or_eq_true, decide_eq_true_eq, decide_eq_false_iff_not, Bool.true_and, Bool.and_true] at hq_); omega)) rfl rfl ?_))
        | (refine gc_gate ?_; first
          | refine gc_seq ?_
          | refine gc_region ?_
          | refine gc_true rfl ?_
          | refine gc_ret ?_)
        | (refine ge_gate ?_; first
          | ((with_reducible refine ge_gT ?_); first | with_reducible refine ge_then ?_ | with_reducible refine ge_then_exit ?_ | with_reducible refine ge_then_ret ?_)
          | ((with_reducible refine ge_gB ?_); first | refine ge_ret1 tab_ok rfl c_rvt ?_ | refine ge_end1 tab_ok rfl c_rvt ?_ | refine ge_ret2 tab_ok rfl c_rvt c_rvt ?_ | refine ge_ret_none rfl ?_ | refine ge_end_none rfl ?_))
      intro W hW
      exact RetX.of ⟨false, true, a, b, saw, l⟩ q c sp hW c_sel ho rfl h.le h.mX h.lX (fun hX => h.saw.keep hW h.mX hX) (fun hX r hr => (h.im r hr).keep hW h.mX hX) (fun _ => rfl)
    · refine gc_own (SX.K ⟨true, true, a, b, saw, l⟩ false g q c sp []) h.li.kn h.li.ap ?_
      rw [SX.K_map]
      unfold SX.K SX.cs SX.cR
      simp only [cond_false]
      repeat' first
        | (refine gl_gate ?_; first
          | refine gl_nil ?_
          | (refine gl_load0 ?_; refine gl_yv (yv_load tab_ok (gok_none rfl) rfl rfl (fun _ => rfl) c_mem (fun _ => c_lds)) rfl rfl ?_)
          | (refine gl_pick0 ?_; first | refine gl_yv (yv_and (gok_none rfl) rfl rfl rfl (fun _ => rfl) c_imp2) rfl rfl ?_ | refine gl_yv (yv_or (gok_none rfl) rfl rfl rfl (fun _ => rfl) c_imp2) rfl rfl ?_)
          | (refine gl_loadG ?_; refine gl_yv (yv_load tab_ok c_gok rfl rfl c_imp c_mem (fun _ => c_lds)) rfl rfl ?_)
          | (refine gl_any0 ?_; refine gl_pure tab_ok rfl rfl rfl rfl rfl rfl ?_)
          | (refine gl_anyG ?_; first | refine gl_yv (yv_pure tab_ok c_gok rfl rfl c_allT) rfl rfl ?_ | refine gl_yv (yv_indexS tab_ok c_gok rfl rfl rfl rfl c_imp c_imp (by intro hq_; (try simp only [Bool.and_eq_true, Bool.not_eq_true', Bool.not_eq_false', Bool.or_eq_false_iff, Bool.or_eq_true, decide_eq_true_eq, decide_eq_false_iff_not, Bool.true_and, Bool.and_true] at hq_); omega)) rfl rfl ?_ | refine gl_yv (yv_indexS (i := 0) tab_ok c_gok rfl rfl rfl rfl c_imp c_imp (by intro hq_; (try simp only [Bool.and_eq_true, Bool.not_eq_true', Bool.not_eq_false', Bool.or_eq_false_iff, Bool.or_eq_true, decide_eq_true_eq, decide_eq_false_iff_not, Bool.true_and, Bool.and_true] at hq_); omega)) rfl rfl ?_))
        | (refine gc_gate ?_; first
          | refine gc_seq ?_
          | refine gc_region ?_
          | refine gc_true rfl ?_
          | refine gc_ret ?_)
        | (refine ge_gate ?_; first
          | ((with_reducible refine ge_gT ?_); first | with_reducible refine ge_then ?_ | with_reducible refine ge_then_exit ?_ | with_reducible refine ge_then_ret ?_)
          | ((with_reducible refine ge_gB ?_); first | refine ge_ret1 tab_ok rfl c_rvt ?_ | refine ge_end1 tab_ok rfl c_rvt ?_ | refine ge_ret2 tab_ok rfl c_rvt c_rvt ?_ | refine ge_ret_none rfl ?_ | refine ge_end_none rfl ?_))
      intro W hW
      exact RetX.of ⟨true, true, a, b, saw, l⟩ q c sp hW c_sel ho rfl h.le h.mX h.lX (fun hX => h.saw.keep hW h.mX hX) (fun hX r hr => (h.im r hr).keep hW h.mX hX) (fun _ => rfl)
  | true =>
    have h1 : wt = true := by simp at hb; exact hb.1
    have h2 : bh = false := by simp at hb; exact hb.2
    subst h1 h2
    have e : SG.pub (SX.sg ⟨true, false, a, b, saw, l⟩) v cs = (SG.saws (SX.sg ⟨true, false, a, b, saw, l⟩) (seeL a b cs)).tell ⟨3, v, 0, deltaL saw.xs (seeL a b cs)⟩ := by
      simp only [SG.pub, SX.sg, SG.tell, SG.saws, SG.look, List.length_map, Bool.not_false, Bool.and_true, if_true]
      split <;> rfl
    rw [e]
    refine enter (args := [_, _, _]) (M := []) (K := []) Try.func126 rfl Try.ntmps126 rfl (St.refl _ _) ?_
    refine gc_own (SX.K ⟨true, false, a, b, saw, l⟩ false g q c sp []) h.li.kn h.li.ap ?_
    rw [SX.K_map]
    unfold SX.K SX.cs SX.cR
    simp only [cond_false]
    repeat' first
      | (refine gl_gate ?_; first
        | refine gl_nil ?_
        | (refine gl_load0 ?_; refine gl_yv (yv_load tab_ok (gok_none rfl) rfl rfl (fun _ => rfl) c_mem (fun _ => c_lds)) rfl rfl ?_)
        | (refine gl_any0 ?_; (refine gl_ev (ev_callOwN rfl rfl ent104 rfl rfl rfl (fun W hW => ct_SeeR a b cs p _ _ W rfl (hcs.st hW h.mX) (by omega)) ?_) rfl rfl; intro p1_ c1_ sp1_ hw1_ hn1_))
        | (refine gl_any0 ?_; (refine gl_ev (ev_callOwN rfl rfl ent105 rfl rfl rfl (fun W hW => by { have h := ct_DeltaR saw.xs (seeL a b cs) _ _ _ _ saw.c c1_ W rfl rfl (h.saw.st hW h.mX) (slA_cat len_shown rfl hW c_oa hw1_) (by omega) (by omega); rw [hdel] at h; exact h }) ?_) rfl rfl; intro p2_ c2_ sp2_ hw2_ hn2_))
        | (refine gl_any0 ?_; (refine gl_ev (ev_tellR (s := ⟨true, false, a, b, ⟨p1_.map ad, c1_, seeL a b cs⟩, l⟩) (g := g) (q := q) (c := c) (sp := sp) (x := ⟨⟨3, v, 0, deltaL saw.xs (seeL a b cs)⟩, p2_.map ad, c2_⟩) rfl rfl rfl rfl rfl c_sa ho hle ?_) rfl rfl; intro s3_ q3_ c3_ sp3_ hs3_ ho3_))
        | (refine gl_pick0 ?_; first | refine gl_yv (yv_and (gok_none rfl) rfl rfl rfl (fun _ => rfl) c_imp2) rfl rfl ?_ | refine gl_yv (yv_or (gok_none rfl) rfl rfl rfl (fun _ => rfl) c_imp2) rfl rfl ?_)
        | (refine gl_loadG ?_; refine gl_yv (yv_load tab_ok c_gok rfl rfl c_imp c_mem (fun _ => c_lds)) rfl rfl ?_)
        | (refine gl_sto0 ?_; refine gl_store tab_ok rfl rfl rfl rfl rfl rfl rfl c_one rfl c_ku ?_)
        | (refine gl_any0 ?_; refine gl_pure tab_ok rfl rfl rfl rfl rfl rfl ?_)
        | (refine gl_anyG ?_; first | refine gl_yv (yv_pure tab_ok c_gok rfl rfl c_allT) rfl rfl ?_ | refine gl_yv (yv_indexS tab_ok c_gok rfl rfl rfl rfl c_imp c_imp (by intro hq_; (try simp only [Bool.and_eq_true, Bool.not_eq_true', Bool.not_eq_false', Bool.or_eq_false_iff, Bool.or_eq_true, decide_eq_true_eq, decide_eq_false_iff_not, Bool.true_and, Bool.and_true] at hq_); omega)) rfl rfl ?_ | refine gl_yv (yv_indexS (i := 0) tab_ok c_gok rfl rfl rfl rfl c_imp c_imp (by intro hq_; (try simp only [Bool.and_eq_true, Bool.not_eq_true', Bool.not_eq_false', Bool.or_eq_false_iff, Bool.or_eq_true, decide_eq_true_eq, decide_eq_false_iff_not, Bool.true_and, Bool.and_true] at hq_); omega)) rfl rfl ?_))
      | (refine gc_gate ?_; first
        | refine gc_seq ?_
        | refine gc_region ?_
        | refine gc_false rfl ?_
        | refine gc_skip ?_)
      | (refine ge_gate ?_; first
        | ((with_reducible refine ge_gT ?_); first | with_reducible refine ge_then ?_ | with_reducible refine ge_then_exit ?_ | with_reducible refine ge_then_ret ?_)
        | ((with_reducible refine ge_gB ?_); first | refine ge_ret1 tab_ok rfl c_rvt ?_ | refine ge_end1 tab_ok rfl c_rvt ?_ | refine ge_ret2 tab_ok rfl c_rvt c_rvt ?_ | refine ge_ret_none rfl ?_ | refine ge_end_none rfl ?_))
    intro W hW
    subst hs3_
    refine RetX.of _ q3_ c3_ sp3_ hW c_sel ho3_ (SX.tl_sg _ _) (SX.tl_le _ _ hle) h.mX h.lX (fun hX => ?_) (fun hX r hr => ?_) (fun _ => rfl)
    · rw [SX.tl_saw]
      exact Im.new (l := seeL a b cs) (q := q3_) (X := X) hW c_sel hw1_ hn1_ h.lX (by omega)
    · rcases SX.tl_mem hr with hr | ⟨rfl, h8⟩
      · exact (h.im r hr).keep hW h.mX hX
      · exact Im.new (l := deltaL saw.xs (seeL a b cs)) (q := q3_) (X := X) hW c_sel hw2_ hn2_ h.lX hd
end Go.Proofs.Ytkgjfcjciigcgaa
