/-
  The program's session: snap, Tell.
-/
import Derived.Test.YtkgjfcjciigcgaaGoSesA
namespace Go.Proofs.Ytkgjfcjciigcgaa
open Go.Proofs.Ytkgjfcjciigcgaa.Sl Go.RowKit
set_option linter.unusedVariables false
set_option linter.unusedSimpArgs false
set_option linter.unusedSectionVars false
set_option maxRecDepth 100000

/-- What a call has of its own in the caller's session. -/
theorem Im.own {w0 W : World} {M : List Nat} {K : Kl} {g : Nat} {ob : Obj} {p q : Option Nat} {l : List Shown} {c : Nat} {sp Y : List Value} {t : TypeId} (hW : St w0 M K W) (hs : Sel ((g, true, ob) :: (ow q true Y t ++ (ow p true (cat Shown.l l ++ sp) 120 ++ []))) K) (hw : Ow p l.length c 6 (cat Shown.l l) sp) (hl : l.length ≤ 1000) : Im W (blks g q) (p.map ad) l := by
  have h := hs.st hW
  refine ⟨slA_cat len_shown rfl h (Oa.tl (Oa.app Oa.hd)) hw, fun h0 hm => ?_, hl⟩
  have hp := ow_some hw h0
  have ha := h.apart
  cases p with
  | none => exact hp rfl
  | some g1 =>
    rw [pb_map rfl] at hm
    unfold blks at hm
    cases q with
    | none =>
      simp at hm
      subst hm
      simp [ow] at ha
    | some g' =>
      simp at hm
      simp [ow] at ha
      rcases hm with rfl | rfl
      · exact ha.1.2 rfl
      · exact ha.2 rfl
structure Y2 where
  p1 : Option Nat
  c1 : Nat
  sp1 : List Value
  p2 : Option Nat
  c2 : Nat
  sp2 : List Value
theorem ct_snapP (s : SX) (g c : Nat) (q : Option Nat) (sp : List Value) (v : Int) (cs : List Shown) (p : Option Addr) (cap : Nat) (w : World) (h : SLi true s g q c sp w) (hcs : Im w (blks g q) p cs) :
    Calls Try.prog 146 #[.pointer (some ⟨g, 0, none⟩), .int .i64 v, .slice p cs.length cap] w (RetM w (blks g q) (fun y : Y2 => .agg #[.int .i64 2, .int .i64 v, .int .i64 0, .slice (y.p2.map ad) (seeL s.a s.b cs).length y.c2])
      (fun y => ({ s with saw := ⟨y.p1.map ad, y.c1, seeL s.a s.b cs⟩ } : SX).K true g q c sp (ow y.p1 true (cat Shown.l (seeL s.a s.b cs) ++ y.sp1) 120 ++ (ow y.p2 true (cat Shown.l (seeL s.a s.b cs) ++ y.sp2) 120 ++ [])))
      (fun y => (Ow y.p1 (seeL s.a s.b cs).length y.c1 6 (cat Shown.l (seeL s.a s.b cs)) y.sp1 ∧ Nw w y.p1) ∧ (Ow y.p2 (seeL s.a s.b cs).length y.c2 6 (cat Shown.l (seeL s.a s.b cs)) y.sp2 ∧ Nw w y.p2))) := by
  have hle := hcs.le
  have hsl := seeL_len s.a s.b cs
  have ho := h.ow
  refine enter (args := [_, _, _]) (M := []) (K := []) Try.func146 rfl Try.ntmps146 rfl (St.refl _ _) ?_
  refine gc_own (s.K true g q c sp []) h.kn h.ap ?_
  rw [SX.K_map]
  unfold SX.K SX.cs SX.cP
  simp only [cond_true]
  repeat' first
    | (refine gl_gate ?_; first
      | refine gl_nil ?_
      | (refine gl_load0 ?_; refine gl_yv (yv_load tab_ok (gok_none rfl) rfl rfl (fun _ => rfl) c_mem (fun _ => c_lds)) rfl rfl ?_)
      | (refine gl_any0 ?_; (refine gl_ev (ev_callOwN rfl rfl ent103 rfl rfl rfl (fun W hW => ct_See s.a s.b cs p _ _ W rfl (hcs.st hW (fun b hb => hb)) (by omega)) ?_) rfl rfl; intro p1_ c1_ sp1_ hw1_ hn1_))
      | (refine gl_any0 ?_; (refine gl_ev (ev_callOwN rfl rfl ent147 rfl rfl rfl (fun W hW => ct_CloneS (seeL s.a s.b cs) _ _ _ W rfl (slA_cat len_shown rfl hW c_oa hw1_) (by omega)) ?_) rfl rfl; intro p2_ c2_ sp2_ hw2_ hn2_))
      | (refine gl_alc0 ?_; (refine gl_alloc tab_ok rfl rfl rfl rfl rfl ?_; intro g_ hg_))
      | (refine gl_sto0 ?_; refine gl_store tab_ok rfl rfl rfl rfl rfl rfl rfl c_one rfl c_ku ?_)
      | (refine gl_any0 ?_; refine gl_pure tab_ok rfl rfl rfl rfl rfl rfl ?_))
    | (refine gc_gate ?_; first
      | refine gc_seq ?_
      | refine gc_region ?_
      | refine gc_ret ?_)
    | (refine ge_gate ?_; first
      | ((with_reducible refine ge_gT ?_); first | with_reducible refine ge_then ?_ | with_reducible refine ge_then_exit ?_ | with_reducible refine ge_then_ret ?_)
      | ((with_reducible refine ge_gB ?_); first | refine ge_ret1 tab_ok rfl c_rvt ?_ | refine ge_end1 tab_ok rfl c_rvt ?_ | refine ge_ret2 tab_ok rfl c_rvt c_rvt ?_ | refine ge_ret_none rfl ?_ | refine ge_end_none rfl ?_))
  intro W hW
  exact ⟨⟨p1_, c1_, sp1_, p2_, c2_, sp2_⟩, rfl, ⟨⟨hw1_, hn1_⟩, hw2_, hn2_⟩, Sel.st c_sel hW⟩
structure YT where
  s : SX
  q : Option Nat
  c : Nat
  sp : List Value
  p2 : Option Nat
  c2 : Nat
  sp2 : List Value
theorem ct_TellP1 (s : SX) (g c : Nat) (q : Option Nat) (sp : List Value) (x : RP) (w : World) (h : SLi true s g q c sp w) (hx : Im w (blks g q) x.p x.rep.cells) (h8 : s.l.length < 8) :
    Calls Try.prog 58 #[.pointer (some ⟨g, 0, none⟩), .agg x.l.toArray] w (RetM w (blks g q) (fun _ : YT => .tuple #[])
      (fun y => y.s.K true g y.q y.c y.sp (ow y.p2 true (cat Shown.l x.rep.cells ++ y.sp2) 120 ++ []))
      (fun y => y.s = { s with l := s.l ++ [⟨x.rep, y.p2.map ad, y.c2⟩] } ∧ Ow y.q y.s.l.length y.c 4 (cat RP.l y.s.l) y.sp ∧ Ow y.p2 x.rep.cells.length y.c2 6 (cat Shown.l x.rep.cells) y.sp2 ∧ Nw w y.p2)) := by
  have hle := hx.le
  have ho := h.ow
  obtain ⟨⟨xk, xv, xe, xl⟩, xp, xc⟩ := x
  simp only at hx hle ⊢
  rw [show RP.l ⟨⟨xk, xv, xe, xl⟩, xp, xc⟩ = [.int .i64 xk, .int .i64 xv, .int .i64 xe, .slice xp xl.length xc] from rfl]
  refine enter (args := [_, _]) (M := []) (K := []) Try.func58 rfl Try.ntmps58 rfl (St.refl _ _) ?_
  refine gc_own (s.K true g q c sp []) h.kn h.ap ?_
  rw [SX.K_map]
  unfold SX.K SX.cs SX.cP
  simp only [cond_true]
  repeat' first
    | (refine gl_gate ?_; first
      | refine gl_nil ?_
      | (refine gl_load0 ?_; refine gl_yv (yv_load tab_ok (gok_none rfl) rfl rfl (fun _ => rfl) c_mem (fun _ => c_lds)) rfl rfl ?_)
      | (refine gl_any0 ?_; (refine gl_ev (ev_callOwN rfl rfl ent147 rfl rfl rfl (fun W hW => ct_CloneS xl _ _ _ W rfl (hx.st hW (fun b hb => hb)) (by omega)) ?_) rfl rfl; intro p2_ c2_ sp2_ hw2_ hn2_))
      | (refine gl_box0 ?_; first | (refine gl_box_agg rfl rfl rfl rfl rfl ?_; intro g_ hg_) | (refine gl_box_one rfl rfl rfl rfl rfl rfl ?_; intro g_ hg_) | (refine gl_box rfl rfl rfl rfl rfl ?_; intro g_ hg_))
      | (refine gl_sto0 ?_; refine gl_store tab_ok rfl rfl rfl rfl rfl rfl rfl c_one rfl c_ku ?_)
      | (refine gl_any0 ?_; refine gl_pure tab_ok rfl rfl rfl rfl rfl rfl ?_))
    | (refine gc_gate ?_; first
      | refine gc_seq ?_
      | refine gc_region ?_
      | refine gc_false rfl ?_
      | (refine gc_cond rfl ?_ ?_ <;> intro h_ <;> have hd_ := h_ <;> (try simp only [bytes_beq, cell_beq, val_beq, stamp_beq, decide_eq_true_eq, decide_eq_false_iff_not, Bool.and_eq_true, Bool.or_eq_true, Bool.or_eq_false_iff, Bool.not_eq_true', Bool.not_eq_false', Bool.not_true, Bool.not_false, Bool.false_or, Bool.true_and, Bool.and_true, Bool.or_false, beq_iff_eq, bne_iff_ne, beq_eq_false_iff_ne, bne_eq_false_iff_eq, ne_eq, Bool.false_eq_true, reduceCtorEq] at hd_) <;> (try (exfalso; omega)))
      | refine gc_block ?_)
    | (refine ge_gate ?_; first
      | ((with_reducible refine ge_gT ?_); first | with_reducible refine ge_then ?_ | with_reducible refine ge_then_exit ?_ | with_reducible refine ge_then_ret ?_))
  refine gp_startC (St w (blks g q) [(g_, true, .cells [.int .i64 xk, .int .i64 xv, .int .i64 xe, .slice (p2_.map ad) xl.length c2_].toArray 65 (0, 0)), (g, true, .cells (s.cP q c).toArray 59 (0, 0))]) c_cl [7, 10] #[false, false, false, false, false, false, false, false, false, false, false] mixed rfl rfl c_qp ?_; intro hqp_
  refine gp_take 1 #[false, true, false, false, false, false, false, false, false, false, false] hqp_ rfl (by kernel_rfl) (yv_pure tab_ok c_gok rfl rfl c_allT) c_cl rfl rfl ?_
  refine gp_take 2 #[false, true, true, false, false, false, false, false, false, false, false] hqp_ rfl (by kernel_rfl) (yv_pure tab_ok c_gok rfl rfl c_allT) c_cl rfl rfl ?_
  refine gp_take 3 #[false, true, true, true, false, false, false, false, false, false, false] hqp_ rfl (by kernel_rfl) (yv_pure tab_ok c_gok rfl rfl c_allT) c_cl rfl rfl ?_
  refine gp_take 4 #[false, true, true, true, true, false, false, false, false, false, false] hqp_ rfl (by kernel_rfl) (yv_load tab_ok c_gok rfl rfl c_imp c_mem (fun _ => c_lds)) c_cl rfl rfl ?_
  refine gp_take 5 #[false, true, true, true, true, true, false, false, false, false, false] hqp_ rfl (by kernel_rfl) (yv_load tab_ok c_gok rfl rfl c_imp c_mem (fun _ => c_lds)) c_cl rfl rfl ?_
  refine gp_rs [0, 6] (by kernel_rfl) rfl (gr_ev 0 #[true, true, true, true, true, true, false, false, false, false, false] rfl rfl rfl rfl rfl (ev_yv (l := []) rfl (yv_pure tab_ok (gok_none rfl) rfl rfl (fun _ => allT_of rfl)) ⟨c_cl, ?_⟩) (gr_ev 6 #[false, true, true, true, true, true, true, false, false, false, false] rfl rfl rfl rfl rfl (ev_buildSlice tab_ok rfl rfl rfl rfl rfl rfl rfl rfl rfl rfl ?_) gr_nil))
  (refine gp_ev 6 #[true, true, true, true, true, true, true, false, false, false, false] rfl (by kernel_rfl) rfl rfl rfl (ev_buildSlice tab_ok rfl rfl rfl rfl rfl rfl rfl rfl rfl rfl ?_); intro g_ hg_; refine ⟨c_cl, ?_⟩)
  (refine gp_last 7 #[true, true, true, true, true, true, true, true, false, false, false] rfl (by kernel_rfl) (by simp) rfl rfl (ev_append tab_ok rfl rfl rfl rfl rfl rfl rfl rfl c_oa ho c_src c_lim c_lim ?_); intro p_ c_ sp_ hw_)
  refine gp_take 8 #[true, true, true, true, true, true, true, true, true, false, false] hqp_ rfl (by kernel_rfl) (yv_pure tab_ok c_gok rfl rfl c_allT) c_cl rfl rfl ?_
  refine gp_take 9 #[true, true, true, true, true, true, true, true, true, true, false] hqp_ rfl (by kernel_rfl) (yv_pure tab_ok c_gok rfl rfl c_allT) c_cl rfl rfl ?_
  refine gp_last0 10 #[true, true, true, true, true, true, true, true, true, true, true] rfl (by kernel_rfl) (by simp) rfl (ev_store tab_ok rfl rfl rfl rfl rfl rfl c_one rfl c_ku ?_)
  refine gp_done (by kernel_rfl) ?_; clear hqp_
  rotate_left 1
  intro g_ hg_; refine ⟨c_cl, ?_⟩
  refine gp_rs [0, 7] (by kernel_rfl) rfl (gr_ev 0 #[true, true, true, true, true, true, true, false, false, false, false] rfl rfl rfl rfl rfl (ev_yv (l := []) rfl (yv_pure tab_ok (gok_none rfl) rfl rfl (fun _ => allT_of rfl)) ⟨c_cl, ?_⟩) (gr_last 7 #[false, true, true, true, true, true, true, true, false, false, false] rfl rfl (by simp) rfl rfl (ev_append tab_ok rfl rfl rfl rfl rfl rfl rfl rfl c_oa ho c_src c_lim c_lim ?_) gr_nil))
  (refine gp_last 7 #[true, true, true, true, true, true, true, true, false, false, false] rfl (by kernel_rfl) (by simp) rfl rfl (ev_append tab_ok rfl rfl rfl rfl rfl rfl rfl rfl c_oa ho c_src c_lim c_lim ?_); intro p_ c_ sp_ hw_)
  refine gp_take 8 #[true, true, true, true, true, true, true, true, true, false, false] hqp_ rfl (by kernel_rfl) (yv_pure tab_ok c_gok rfl rfl c_allT) c_cl rfl rfl ?_
  refine gp_take 9 #[true, true, true, true, true, true, true, true, true, true, false] hqp_ rfl (by kernel_rfl) (yv_pure tab_ok c_gok rfl rfl c_allT) c_cl rfl rfl ?_
  refine gp_last0 10 #[true, true, true, true, true, true, true, true, true, true, true] rfl (by kernel_rfl) (by simp) rfl (ev_store tab_ok rfl rfl rfl rfl rfl rfl c_one rfl c_ku ?_)
  refine gp_done (by kernel_rfl) ?_; clear hqp_
  rotate_left 1
  intro p_ c_ sp_ hw_
  refine gp_take 0 #[true, true, true, true, true, true, true, true, false, false, false] hqp_ rfl (by kernel_rfl) (yv_pure tab_ok c_gok rfl rfl c_allT) c_cl rfl rfl ?_
  refine gp_take 8 #[true, true, true, true, true, true, true, true, true, false, false] hqp_ rfl (by kernel_rfl) (yv_pure tab_ok c_gok rfl rfl c_allT) c_cl rfl rfl ?_
  refine gp_take 9 #[true, true, true, true, true, true, true, true, true, true, false] hqp_ rfl (by kernel_rfl) (yv_pure tab_ok c_gok rfl rfl c_allT) c_cl rfl rfl ?_
  refine gp_last0 10 #[true, true, true, true, true, true, true, true, true, true, true] rfl (by kernel_rfl) (by simp) rfl (ev_store tab_ok rfl rfl rfl rfl rfl rfl c_one rfl c_ku ?_)
  refine gp_done (by kernel_rfl) ?_; clear hqp_
  all_goals
    repeat' first
      | (refine ge_gate ?_; first
        | ((with_reducible refine ge_gK ?_); first | with_reducible refine ge_block ?_ | refine ge_block_exit ?_ | refine ge_block_pass rfl ?_ | with_reducible refine ge_block_ret ?_)
        | ((with_reducible refine ge_gB ?_); first | refine ge_ret1 tab_ok rfl c_rvt ?_ | refine ge_end1 tab_ok rfl c_rvt ?_ | refine ge_ret2 tab_ok rfl c_rvt c_rvt ?_ | refine ge_ret_none rfl ?_ | refine ge_end_none rfl ?_))
  all_goals
    intro W hW
    have e : cat RP.l (s.l ++ [⟨⟨xk, xv, xe, xl⟩, p2_.map ad, c2_⟩]) = cat RP.l s.l ++ [.int .i64 xk, .int .i64 xv, .int .i64 xe, .slice (p2_.map ad) xl.length c2_] := cat_snoc _ _
    refine ⟨⟨{ s with l := s.l ++ [⟨⟨xk, xv, xe, xl⟩, p2_.map ad, c2_⟩] }, p_, c_, sp_, p2_, c2_, sp2_⟩, rfl, ⟨rfl, ?_, hw2_, hn2_⟩, ?_⟩
    · show Ow p_ (s.l ++ [_]).length c_ 4 (cat RP.l (s.l ++ [_])) sp_
      rw [e, List.length_append]
      exact hw_
    · dsimp only
      rw [e, List.length_append]
      exact Sel.st c_sel hW
theorem ct_TellP (s : SX) (g c : Nat) (q : Option Nat) (sp : List Value) (x : RP) (w : World) (h : SLi true s g q c sp w) (hx : Im w (blks g q) x.p x.rep.cells) (hl : s.l.length ≤ 8) :
    Calls Try.prog 58 #[.pointer (some ⟨g, 0, none⟩), .agg x.l.toArray] w (RetM w (blks g q) (fun _ : YT => .tuple #[])
      (fun y => y.s.K true g y.q y.c y.sp (ow y.p2 true (cat Shown.l x.rep.cells ++ y.sp2) 120 ++ []))
      (fun y => y.s = s.tl ⟨x.rep, y.p2.map ad, y.c2⟩ ∧ Ow y.q y.s.l.length y.c 4 (cat RP.l y.s.l) y.sp ∧ (s.l.length < 8 → Ow y.p2 x.rep.cells.length y.c2 6 (cat Shown.l x.rep.cells) y.sp2) ∧ Nw w y.p2)) := by
  rcases Nat.lt_or_ge s.l.length 8 with h8 | h8
  · refine (ct_TellP1 s g c q sp x w h hx h8).mono fun e w' ⟨y, h1, ⟨h2, h3, h4, h5⟩, h6⟩ => ?_
    exact ⟨y, h1, ⟨by rw [h2, SX.tl, if_pos h8], h3, fun _ => h4, h5⟩, h6⟩
  · have ho := h.ow
    obtain ⟨⟨xk, xv, xe, xl⟩, xp, xc⟩ := x
    simp only at hx ⊢
    rw [show RP.l ⟨⟨xk, xv, xe, xl⟩, xp, xc⟩ = [.int .i64 xk, .int .i64 xv, .int .i64 xe, .slice xp xl.length xc] from rfl]
    refine enter (args := [_, _]) (M := []) (K := []) Try.func58 rfl Try.ntmps58 rfl (St.refl _ _) ?_
    refine gc_own (s.K true g q c sp []) h.kn h.ap ?_
    rw [SX.K_map]
    unfold SX.K SX.cs SX.cP
    simp only [cond_true]
    repeat' first
      | (refine gl_gate ?_; first
        | refine gl_nil ?_
        | (refine gl_load0 ?_; refine gl_yv (yv_load tab_ok (gok_none rfl) rfl rfl (fun _ => rfl) c_mem (fun _ => c_lds)) rfl rfl ?_)
        | (refine gl_box0 ?_; first | (refine gl_box_agg rfl rfl rfl rfl rfl ?_; intro g_ hg_) | (refine gl_box_one rfl rfl rfl rfl rfl rfl ?_; intro g_ hg_) | (refine gl_box rfl rfl rfl rfl rfl ?_; intro g_ hg_))
        | (refine gl_sto0 ?_; refine gl_store tab_ok rfl rfl rfl rfl rfl rfl rfl c_one rfl c_ku ?_)
        | (refine gl_any0 ?_; refine gl_pure tab_ok rfl rfl rfl rfl rfl rfl ?_))
      | (refine gc_gate ?_; first
        | refine gc_seq ?_
        | refine gc_region ?_
        | refine gc_false rfl ?_
        | (refine gc_cond rfl ?_ ?_ <;> intro h_ <;> have hd_ := h_ <;> (try simp only [bytes_beq, cell_beq, val_beq, stamp_beq, decide_eq_true_eq, decide_eq_false_iff_not, Bool.and_eq_true, Bool.or_eq_true, Bool.or_eq_false_iff, Bool.not_eq_true', Bool.not_eq_false', Bool.not_true, Bool.not_false, Bool.false_or, Bool.true_and, Bool.and_true, Bool.or_false, beq_iff_eq, bne_iff_ne, beq_eq_false_iff_ne, bne_eq_false_iff_eq, ne_eq, Bool.false_eq_true, reduceCtorEq] at hd_) <;> (try (exfalso; omega)))
        | refine gc_block ?_)
      | (refine ge_gate ?_; first
        | ((with_reducible refine ge_gT ?_); first | with_reducible refine ge_then ?_ | with_reducible refine ge_then_exit ?_ | with_reducible refine ge_then_ret ?_)
        | ((with_reducible refine ge_gK ?_); first | with_reducible refine ge_block ?_ | refine ge_block_exit ?_ | refine ge_block_pass rfl ?_ | with_reducible refine ge_block_ret ?_)
        | ((with_reducible refine ge_gB ?_); first | refine ge_ret1 tab_ok rfl c_rvt ?_ | refine ge_end1 tab_ok rfl c_rvt ?_ | refine ge_ret2 tab_ok rfl c_rvt c_rvt ?_ | refine ge_ret_none rfl ?_ | refine ge_end_none rfl ?_))
    intro W hW
    refine ⟨⟨{ s with bh := true }, q, c, sp, none, 0, []⟩, rfl, ⟨by rw [SX.tl, if_neg (by omega)], ho, fun h => by omega, Nw.none⟩, ?_⟩
    exact Sel.st c_sel hW
end Go.Proofs.Ytkgjfcjciigcgaa
