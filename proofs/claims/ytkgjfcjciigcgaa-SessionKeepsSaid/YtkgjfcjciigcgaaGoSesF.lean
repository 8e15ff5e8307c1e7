/-
  The reference's session: Take. Replies compared.
-/
import Derived.Test.YtkgjfcjciigcgaaGoSesE
namespace Go.Proofs.Ytkgjfcjciigcgaa
open Go.Proofs.Ytkgjfcjciigcgaa.Sl Go.RowKit
set_option linter.unusedVariables false
set_option linter.unusedSimpArgs false
set_option linter.unusedSectionVars false
set_option maxRecDepth 100000

theorem ct_TakeR (s : SX) (g c : Nat) (q : Option Nat) (sp : List Value) (X : List Nat) (v : Int) (cs : List Shown) (p : Option Addr) (cap : Nat) (w : World) (h : Ses false s g q c sp X w) (hcs : Im w X p cs) :
    Calls Try.prog 127 #[.pointer (some ⟨g, 0, none⟩), .int .i64 v, .slice p cs.length cap] w (RetX false w g q X (TkV (s.sg.takeR v cs)) (s.sg.takeS v cs)) := by
  have ho := h.li.ow
  have hle := h.le
  have hcl := hcs.le
  have hsl := seeL_len s.a s.b cs
  obtain ⟨wt, bh, a, b, saw, l⟩ := s
  dsimp only at ho hle hsl
  rcases l with _ | ⟨x, r⟩
  · cases hb : (bh && wt) with
    | false =>
      have e1 : SG.takeR (SX.sg ⟨wt, bh, a, b, saw, []⟩) v cs = none := by simp [SG.takeR, SX.sg, hb]
      have e2 : SG.takeS (SX.sg ⟨wt, bh, a, b, saw, []⟩) v cs = SX.sg ⟨wt, bh, a, b, saw, []⟩ := by simp [SG.takeS, SX.sg, hb]
      rw [e1, e2]
      refine enter (args := [_, _, _]) (M := []) (K := []) Try.func127 rfl Try.ntmps127 rfl (St.refl _ _) ?_
      refine gc_own (SX.K ⟨wt, bh, a, b, saw, []⟩ false g q c sp []) h.li.kn h.li.ap ?_
      rw [SX.K_map]
      unfold SX.K SX.cs SX.cR
      simp only [cond_false, List.length_nil]
      repeat' first
        | (refine gl_gate ?_; first
          | refine gl_nil ?_
          | (refine gl_load0 ?_; refine gl_yv (yv_load tab_ok (gok_none rfl) rfl rfl (fun _ => rfl) c_mem (fun _ => c_lds)) rfl rfl ?_)
          | (refine gl_pick0 ?_; first | refine gl_yv (yv_and (gok_none rfl) rfl rfl rfl (fun _ => rfl) c_imp2) rfl rfl ?_ | refine gl_yv (yv_or (gok_none rfl) rfl rfl rfl (fun _ => rfl) c_imp2) rfl rfl ?_)
          | (refine gl_loadG ?_; refine gl_yv (yv_load tab_ok c_gok rfl rfl c_imp c_mem (fun _ => c_lds)) rfl rfl ?_)
          | (refine gl_alc0 ?_; (refine gl_alloc tab_ok rfl rfl rfl rfl rfl ?_; intro g_ hg_))
          | (refine gl_sto0 ?_; refine gl_store tab_ok rfl rfl rfl rfl rfl rfl rfl c_one rfl c_ku ?_)
          | (refine gl_any0 ?_; refine gl_pure tab_ok rfl rfl rfl rfl rfl rfl ?_)
          | (refine gl_anyG ?_; first | refine gl_yv (yv_pure tab_ok c_gok rfl rfl c_allT) rfl rfl ?_ | refine gl_yv (yv_indexS tab_ok c_gok rfl rfl rfl rfl c_imp c_imp (by intro hq_; (try simp only [Bool.and_eq_true, Bool.not_eq_true', Bool.not_eq_false', Bool.or_eq_false_iff, Bool.or_eq_true, decide_eq_true_eq, decide_eq_false_iff_not, Bool.true_and, Bool.and_true] at hq_); omega)) rfl rfl ?_ | refine gl_yv (yv_indexS (i := 0) tab_ok c_gok rfl rfl rfl rfl c_imp c_imp (by intro hq_; (try simp only [Bool.and_eq_true, Bool.not_eq_true', Bool.not_eq_false', Bool.or_eq_false_iff, Bool.or_eq_true, decide_eq_true_eq, decide_eq_false_iff_not, Bool.true_and, Bool.and_true] at hq_); omega)) rfl rfl ?_))
        | (refine gc_gate ?_; first
          | refine gc_seq ?_
          | refine gc_region ?_
          | refine gc_false rfl ?_
          | (refine gc_cond rfl ?_ ?_ <;> intro h_ <;> have hd_ := h_ <;> (try simp only [bytes_beq, cell_beq, val_beq, stamp_beq, decide_eq_true_eq, decide_eq_false_iff_not, Bool.and_eq_true, Bool.or_eq_true, Bool.or_eq_false_iff, Bool.not_eq_true', Bool.not_eq_false', Bool.not_true, Bool.not_false, Bool.false_or, Bool.true_and, Bool.and_true, Bool.or_false, beq_iff_eq, bne_iff_ne, beq_eq_false_iff_ne, bne_eq_false_iff_eq, ne_eq, Bool.false_eq_true, reduceCtorEq] at hd_) <;> (try (exfalso; omega)))
          | refine gc_ret ?_
          | refine gc_skip ?_)
        | (refine ge_gate ?_; first
          | ((with_reducible refine ge_gT ?_); first | with_reducible refine ge_then ?_ | with_reducible refine ge_then_exit ?_ | with_reducible refine ge_then_ret ?_)
          | ((with_reducible refine ge_gB ?_); first | refine ge_ret1 tab_ok rfl c_rvt ?_ | refine ge_end1 tab_ok rfl c_rvt ?_ | refine ge_ret2 tab_ok rfl c_rvt c_rvt ?_ | refine ge_ret_none rfl ?_ | refine ge_end_none rfl ?_))
      all_goals
        first | (exfalso; simp_all; done) | skip
      intro W hW
      exact RetX.of ⟨wt, bh, a, b, saw, []⟩ q c sp hW c_sel ho rfl h.le h.mX h.lX (fun hX => h.saw.keep hW h.mX hX) (fun hX r hr => (h.im r hr).keep hW h.mX hX) (fun _ => rfl)
    | true =>
      have h1 : bh = true := by simp at hb; exact hb.1
      have h2 : wt = true := by simp at hb; exact hb.2
      subst h1 h2
      have e1 : SG.takeR (SX.sg ⟨true, true, a, b, saw, []⟩) v cs = some ⟨2, v, 0, seeL a b cs⟩ := rfl
      have e2 : SG.takeS (SX.sg ⟨true, true, a, b, saw, []⟩) v cs = ⟨true, false, a, b, seeL a b cs, []⟩ := rfl
      rw [e1, e2]
      refine enter (args := [_, _, _]) (M := []) (K := []) Try.func127 rfl Try.ntmps127 rfl (St.refl _ _) ?_
      refine gc_own (SX.K ⟨true, true, a, b, saw, []⟩ false g q c sp []) h.li.kn h.li.ap ?_
      rw [SX.K_map]
      unfold SX.K SX.cs SX.cR
      simp only [cond_false, List.length_nil]
      repeat' first
        | (refine gl_gate ?_; first
          | refine gl_nil ?_
          | (refine gl_load0 ?_; refine gl_yv (yv_load tab_ok (gok_none rfl) rfl rfl (fun _ => rfl) c_mem (fun _ => c_lds)) rfl rfl ?_)
          | (refine gl_any0 ?_; (refine gl_ev (ev_snapR (s := ⟨true, false, a, b, saw, []⟩) (g := g) (q := q) (c := c) (sp := sp) (v := v) (cs := cs) (p := p) (cap := cap) rfl rfl rfl rfl rfl c_sa ho (fun W hW => hcs.keep hW h.mX (fun b hb => Or.inl (h.mX b hb))) ?_) rfl rfl; intro p1_ c1_ sp1_ hw1_ hn1_))
          | (refine gl_pick0 ?_; first | refine gl_yv (yv_and (gok_none rfl) rfl rfl rfl (fun _ => rfl) c_imp2) rfl rfl ?_ | refine gl_yv (yv_or (gok_none rfl) rfl rfl rfl (fun _ => rfl) c_imp2) rfl rfl ?_)
          | (refine gl_loadG ?_; refine gl_yv (yv_load tab_ok c_gok rfl rfl c_imp c_mem (fun _ => c_lds)) rfl rfl ?_)
          | (refine gl_alc0 ?_; (refine gl_alloc tab_ok rfl rfl rfl rfl rfl ?_; intro g_ hg_))
          | (refine gl_sto0 ?_; refine gl_store tab_ok rfl rfl rfl rfl rfl rfl rfl c_one rfl c_ku ?_)
          | (refine gl_any0 ?_; refine gl_pure tab_ok rfl rfl rfl rfl rfl rfl ?_)
          | (refine gl_anyG ?_; first | refine gl_yv (yv_pure tab_ok c_gok rfl rfl c_allT) rfl rfl ?_ | refine gl_yv (yv_indexS tab_ok c_gok rfl rfl rfl rfl c_imp c_imp (by intro hq_; (try simp only [Bool.and_eq_true, Bool.not_eq_true', Bool.not_eq_false', Bool.or_eq_false_iff, Bool.or_eq_true, decide_eq_true_eq, decide_eq_false_iff_not, Bool.true_and, Bool.and_true] at hq_); omega)) rfl rfl ?_ | refine gl_yv (yv_indexS (i := 0) tab_ok c_gok rfl rfl rfl rfl c_imp c_imp (by intro hq_; (try simp only [Bool.and_eq_true, Bool.not_eq_true', Bool.not_eq_false', Bool.or_eq_false_iff, Bool.or_eq_true, decide_eq_true_eq, decide_eq_false_iff_not, Bool.true_and, Bool.and_true] at hq_); omega)) rfl rfl ?_))
        | (refine gc_gate ?_; first
          | refine gc_seq ?_
          | refine gc_region ?_
          | refine gc_true rfl ?_
          | refine gc_false rfl ?_
          | refine gc_ret ?_
          | refine gc_skip ?_)
        | (refine ge_gate ?_; first
          | ((with_reducible refine ge_gT ?_); first | with_reducible refine ge_then ?_ | with_reducible refine ge_then_exit ?_ | with_reducible refine ge_then_ret ?_)
          | ((with_reducible refine ge_gB ?_); first | refine ge_ret1 tab_ok rfl c_rvt ?_ | refine ge_end1 tab_ok rfl c_rvt ?_ | refine ge_ret2 tab_ok rfl c_rvt c_rvt ?_ | refine ge_ret_none rfl ?_ | refine ge_end_none rfl ?_))
      intro W hW
      have hnew : Im W (q.toList ++ X) (p1_.map ad) (seeL a b cs) := Im.new (l := seeL a b cs) (q := q) (X := X) hW c_sel hw1_ hn1_ h.lX (by omega)
      exact RetX.of ⟨true, false, a, b, ⟨p1_.map ad, c1_, seeL a b cs⟩, []⟩ q c sp hW c_sel ho rfl h.le h.mX h.lX (fun hX => hnew) (fun hX r hr => absurd hr List.not_mem_nil) (fun hX => ⟨p1_.map ad, c1_, rfl, hnew⟩)
  · have e1 : SG.takeR (SX.sg ⟨wt, bh, a, b, saw, x :: r⟩) v cs = some x.rep := rfl
    have e2 : SG.takeS (SX.sg ⟨wt, bh, a, b, saw, x :: r⟩) v cs = SX.sg ⟨wt, bh, a, b, saw, r⟩ := rfl
    rw [e1, e2]
    rcases q with _ | g2
    · have := ho.nil rfl
      have := ho.le
      simp at this
      omega
    simp only [List.length_cons] at hle
    have hole := ho.le
    simp only [List.length_cons] at hole
    have hsrc : ∀ (M : List Nat) (K : Kl), (g2, true, Obj.cells (cat RP.l (x :: r) ++ sp).toArray 65 (0, 0)) ∈ K → SrcK Try.prog 4 57 w M K (.slice (if c = 1 then some (ad g2) else (some (ad g2)).map (·.add (1 * 4))) r.length (c - 1)) r.length (cat RP.l r) := fun M K hm => by
      have hl : (cat RP.l r).length = r.length * 4 := rp_len r
      have h1 : ∀ u ∈ cat RP.l r, u.oneCell' = true := cat_ones (fun x => ones_of rfl) r
      have hadd : (ad g2).add (1 * 4) = ⟨g2, 4, none⟩ := by simp [Addr.add]
      split
      · have : r = [] := List.eq_nil_of_length_eq_zero (by omega)
        subst this
        exact src_blk tab_ok rfl hm hl (fun j hj => by simp [cat] at hj) h1
      · simp only [Option.map_some, hadd]
        refine src_blk tab_ok rfl hm hl (fun j hj => ?_) h1
        have e : cat RP.l (x :: r) = RP.l x ++ cat RP.l r := by simp [cat]
        rw [e, List.append_assoc, List.getElem?_append_right (by simp [len_rp]), List.getElem?_append_left (by simpa [len_rp] using hj)]
        simp [len_rp]
    refine enter (args := [_, _, _]) (M := []) (K := []) Try.func127 rfl Try.ntmps127 rfl (St.refl _ _) ?_
    refine gc_own (SX.K ⟨wt, bh, a, b, saw, x :: r⟩ false g (some g2) c sp []) h.li.kn h.li.ap ?_
    rw [SX.K_map]
    unfold SX.K SX.cs SX.cR
    simp only [cond_false, Option.map_some, List.length_cons]
    simp only [List.length_cons] at ho
    repeat' first
      | refine gl_yv (yv_sliceL (lo := 1) tab_ok (gok_none rfl) rfl rfl rfl rfl rfl (fun _ => rfl) (fun _ => rfl) (fun _ => by omega)) rfl rfl ?_
      | (refine gl_gate ?_; first
        | refine gl_nil ?_
        | (refine gl_load0 ?_; refine gl_yv (yv_load tab_ok (gok_none rfl) rfl rfl (fun _ => rfl) c_mem (fun _ => c_lds)) rfl rfl ?_)
        | (refine gl_any0 ?_; (refine gl_ev (ev_append (p := none) (xs := []) (sp := []) (n := 0) (c := 0) (news := cat RP.l r) (m := r.length) tab_ok rfl rfl rfl rfl rfl rfl rfl rfl Oa.nil Ow.none0 (hsrc _ _ (by simp [ow])) c_lim c_lim ?_) rfl rfl; intro p_ c_ sp_ hw_))
        | (refine gl_idx0 ?_; refine gl_yv (yv_indexAddr tab_ok (gok_none rfl) rfl rfl rfl rfl rfl (fun _ => rfl) (fun _ => rfl) (by intro _; omega)) rfl rfl ?_)
        | (refine gl_alc0 ?_; (refine gl_alloc tab_ok rfl rfl rfl rfl rfl ?_; intro g_ hg_))
        | (refine gl_sto0 ?_; refine gl_store tab_ok rfl rfl rfl rfl rfl rfl rfl c_one rfl c_ku ?_)
        | (refine gl_any0 ?_; refine gl_pure tab_ok rfl rfl rfl rfl rfl rfl ?_))
      | (refine gc_gate ?_; first
        | refine gc_seq ?_
        | refine gc_region ?_
        | (refine gc_cond rfl ?_ ?_ <;> intro h_ <;> have hd_ := h_ <;> (try simp only [bytes_beq, cell_beq, val_beq, stamp_beq, decide_eq_true_eq, decide_eq_false_iff_not, Bool.and_eq_true, Bool.or_eq_true, Bool.or_eq_false_iff, Bool.not_eq_true', Bool.not_eq_false', Bool.not_true, Bool.not_false, Bool.false_or, Bool.true_and, Bool.and_true, Bool.or_false, beq_iff_eq, bne_iff_ne, beq_eq_false_iff_ne, bne_eq_false_iff_eq, ne_eq, Bool.false_eq_true, reduceCtorEq] at hd_) <;> (try (exfalso; omega)))
        | refine gc_ret ?_)
      | (refine ge_gate ?_; first
        | ((with_reducible refine ge_gT ?_); first | with_reducible refine ge_then ?_ | with_reducible refine ge_then_exit ?_ | with_reducible refine ge_then_ret ?_)
        | ((with_reducible refine ge_gB ?_); first | refine ge_ret1 tab_ok rfl c_rvt ?_ | refine ge_end1 tab_ok rfl c_rvt ?_ | refine ge_ret2 tab_ok rfl c_rvt c_rvt ?_ | refine ge_ret_none rfl ?_ | refine ge_end_none rfl ?_))
    intro W hW
    rw [Nat.zero_add, List.nil_append] at hw_
    rw [List.nil_append] at hW
    exact RetX.of ⟨wt, bh, a, b, saw, r⟩ p_ c_ sp_ (by simpa using hW) c_sel hw_ rfl (by show r.length ≤ 8; omega) h.mX h.lX (fun hX => h.saw.keep hW h.mX hX) (fun hX y hy => (h.im y (List.mem_cons_of_mem _ hy)).keep hW h.mX hX) (fun hX => ⟨x.p, x.c, rfl, (h.im x (List.mem_cons_self ..)).keep hW h.mX hX⟩)
end Go.Proofs.Ytkgjfcjciigcgaa
