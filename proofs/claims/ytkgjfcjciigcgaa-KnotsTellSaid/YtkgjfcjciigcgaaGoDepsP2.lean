/-
  deps.New walked.
-/
import Derived.Test.YtkgjfcjciigcgaaGoDepsP1
namespace Go.Proofs.Ytkgjfcjciigcgaa
open Go.Proofs.Ytkgjfcjciigcgaa.Sl Go.RowKit
set_option linter.unusedVariables false
set_option linter.unusedSimpArgs false
set_option linter.unusedSectionVars false
set_option maxRecDepth 100000

def NwR := { x : Nat × Kl // ∀ e ∈ x.2, e.2.1 = true }
theorem ct_New {S : Nat → Prop} (l : List En) (p : Option Addr) (n cap : Nat) (w : World) (hn : n = l.length) (hs : SlA w 20 p n (fun i => (l.getD i default).l)) (hR : ∀ e ∈ l, NodeR S w e.node e.p) (hc : ∀ e ∈ l, e.node.count ≤ 400) (hl : n ≤ 1000) : Calls Try.prog 109 #[.slice p n cap] w
    (RetM w [] (fun x : NwR => .pointer (some (ad x.1.1))) (fun x => x.1.2) (fun x => Fz x.1.2 fun W => DpP W l x.1.1)) := by
  have hdl := dC_len l
  refine enter (args := [_]) (M := []) (K := []) Try.func109 rfl Try.ntmps109 rfl (St.refl _ _) ?_
  repeat' first
    | (refine gl_gate ?_; first
      | refine gl_nil ?_
      | (refine gl_any0 ?_; (refine gl_ev (ev_callM (M' := []) (K2 := []) rfl rfl ent178 rfl rfl rfl (fun W hW => ct_LastP l p n cap W hn (hs.st hW) (by omega)) (by simp) (fun x e he => by simp at he; subst he; rfl) (List.Sublist.refl _) (by simp) ?_) rfl rfl; rintro ⟨gm, m, em, km⟩ ⟨hmm, hlk, hml⟩))
      | (refine gl_any0 ?_; refine gl_pure tab_ok rfl rfl rfl rfl rfl rfl ?_))
    | (refine gc_gate ?_; first
      | refine gc_seq ?_
      | refine gc_region ?_)
    | (refine ge_gate ?_; first
      | ((with_reducible refine ge_gT ?_); first | with_reducible refine ge_then ?_ | with_reducible refine ge_then_exit ?_ | with_reducible refine ge_then_ret ?_))
  dsimp only at hmm hlk hml ⊢
  have hkd : sortC (m.map (·.1)) = dC l := keys_dC hmm.keys hlk
  have hmlen : m.length = (dC l).length := by rw [← hkd, sortC_length, List.length_map]
  repeat' first
    | (refine gl_gate ?_; first
      | (refine gl_any0 ?_; (refine gl_ev (ev_callOw rfl rfl ent179 rfl rfl rfl (fun W hW => by have := ct_SortedE (hW.kn (wr := true) c_mem) hmm (by omega); rw [hkd, hmlen] at this; exact this) ?_) rfl rfl; intro pd cd spd hwd)))
  refine gl_ev (ev_makeMap rfl rfl ?_) rfl rfl
  intro gR hgR
  refine gl_ev (ev_makeMap rfl rfl ?_) rfl rfl
  intro gF hgF
  repeat' first
    | (refine gl_gate ?_; first
      | refine gl_nil ?_
      | (refine gl_load0 ?_; refine gl_yv (yv_load tab_ok (gok_none rfl) rfl rfl (fun _ => rfl) c_mem (fun _ => c_lds)) rfl rfl ?_)
      | (refine gl_box0 ?_; first | (refine gl_box_agg rfl rfl rfl rfl rfl ?_; intro g_ hg_) | (refine gl_box_one rfl rfl rfl rfl rfl rfl ?_; intro g_ hg_) | (refine gl_box rfl rfl rfl rfl rfl ?_; intro g_ hg_))
      | (refine gl_any0 ?_; refine gl_pure tab_ok rfl rfl rfl rfl rfl rfl ?_))
    | (refine gc_gate ?_; first
      | refine gc_seq ?_
      | refine gc_region ?_
      | refine gc_block ?_)
    | (refine ge_gate ?_; first
      | ((with_reducible refine ge_gT ?_); first | with_reducible refine ge_then ?_ | with_reducible refine ge_then_exit ?_ | with_reducible refine ge_then_ret ?_))
  refine gc_perm (K' := (gm, true, .map em km) :: (g_, true, .cells [.slice (pd.map ad) (dC l).length cd, .map (some gR), .map (some gF)].toArray 207 (0, 0)) :: (gF, true, .map #[] 0) :: (gR, true, .map #[] 0) :: (ow pd true (cat Cell.l (dC l) ++ spd) 25 ++ (rowsC nwS0.R (dC l) ++ rowsC nwS0.F (dC l)))) ?_ ?_
  · unfold nwS0
    dsimp only
    rw [show rowsC (fun _ => Rw.none) (dC l) = [] from rowsK_none, List.append_nil, List.append_nil, List.append_nil]
    exact (List.perm_append_singleton ((gm, true, Obj.map em km) : Nat × Bool × Obj) (_ :: _ :: _ :: _))
  refine gc_loop (α := Nat × NwS) (fun x => [(3, true, .map (some gm)), (4, true, .pointer (some ⟨g_, 0, none⟩)), (22, true, .slice (pd.map ad) (dC l).length cd), (23, true, .int .i64 (dC l).length), (24, true, .int .i64 (x.1 : Int))])
    (fun x => (gm, true, .map em km) :: (g_, true, .cells [.slice (pd.map ad) (dC l).length cd, .map (some gR), .map (some gF)].toArray 207 (0, 0)) :: (gF, true, .map x.2.ef x.2.kf) :: (gR, true, .map x.2.er x.2.kr) :: (ow pd true (cat Cell.l (dC l) ++ spd) 25 ++ (rowsC x.2.R (dC l) ++ rowsC x.2.F (dC l)))) (fun x => x.1 ≤ (dC l).length ∧ NwOk l x.1 0 x.2) (fun x => (dC l).length - x.1) (0, nwS0) c_frs (List.Sublist.refl _) ⟨Nat.zero_le _, NwOk.start l⟩ ?_
  rintro ⟨i, s⟩ ⟨hi, hok⟩
  dsimp only at hi hok ⊢
  revert g_
  intro gd hgd
  repeat' first
    | (refine gl_gate ?_; first
      | refine gl_nil ?_
      | (refine gl_any0 ?_; refine gl_pure tab_ok rfl rfl rfl rfl rfl rfl ?_))
    | (refine gc_gate ?_; first
      | refine gc_seq ?_
      | refine gc_region ?_)
    | (refine ge_gate ?_; first
      | ((with_reducible refine ge_gT ?_); first | with_reducible refine ge_then ?_ | with_reducible refine ge_then_exit ?_ | with_reducible refine ge_then_ret ?_))
  (refine gc_cond rfl ?_ ?_ <;> intro h_ <;> have hd_ := h_ <;> (try simp only [bytes_beq, cell_beq, val_beq, stamp_beq, decide_eq_true_eq, decide_eq_false_iff_not, Bool.and_eq_true, Bool.or_eq_true, Bool.or_eq_false_iff, Bool.not_eq_true', Bool.not_eq_false', Bool.not_true, Bool.not_false, Bool.false_or, Bool.true_and, Bool.and_true, Bool.or_false, beq_iff_eq, bne_iff_ne, beq_eq_false_iff_ne, bne_eq_false_iff_eq, ne_eq, Bool.false_eq_true, reduceCtorEq] at hd_) <;> (try (exfalso; omega)))
  · have hiN : i < (dC l).length := by omega
    have hci := getD_mem (dC l) i hiN
    obtain ⟨e, he⟩ : ∃ e, lkE (lastR l) ((dC l).getD i default) = some e := by
      cases h : lkE (lastR l) ((dC l).getD i default) with
      | none => exact absurd hci (lkE_none.1 h)
      | some e => exact ⟨e, rfl⟩
    have hme : mgetD m ((dC l).getD i default) default = e := by rw [mgetD_lk, hlk, he]; rfl
    have hel : e ∈ l := lastR_mem l e (lkE_mem he).1
    have hcc : cR l ((dC l).getD i default) = if e.fm then cellsT e.node else [] := by unfold cR; rw [he]
    repeat' first
      | (refine gl_idx0 ?_; refine gl_yv (yv_idxO tab_ok hwd (gok_none rfl) rfl rfl rfl rfl rfl rfl (fun _ => rfl) (fun _ => rfl) c_bnd) rfl rfl ?_)
      | (refine gl_load0 ?_; refine gl_yv (yv_ldO tab_ok c_oa hwd (gok_none rfl) rfl rfl (fun _ => rfl) (fun _ => lds_cat len_cell (by omega) rfl rfl rfl) c_bnd) rfl rfl ?_)
      | (refine gl_any0 ?_; refine gl_yv ((yv_lookup (c := false) (k := (dC l).getD i default) (z0 := default) key_cell tab_ok zero_en (gok_none rfl) rfl rfl rfl rfl (fun _ => rfl) (fun _ => rfl) hmm c_mem).cast (v' := vE e) (by rw [← hme]; rfl)) rfl rfl ?_)
      | (refine gl_gate ?_; first
        | refine gl_nil ?_
        | (refine gl_load0 ?_; refine gl_yv (yv_load tab_ok (gok_none rfl) rfl rfl (fun _ => rfl) c_mem (fun _ => c_lds)) rfl rfl ?_)
        | (refine gl_alc0 ?_; (refine gl_alloc tab_ok rfl rfl rfl rfl rfl ?_; intro g_ hg_))
        | (refine gl_sto0 ?_; refine gl_store tab_ok rfl rfl rfl rfl rfl rfl rfl c_one rfl c_ku ?_)
        | (refine gl_any0 ?_; refine gl_pure tab_ok rfl rfl rfl rfl rfl rfl ?_))
      | (refine gc_gate ?_; first
        | refine gc_seq ?_
        | refine gc_region ?_
        | refine gc_block ?_
        | refine gc_skip ?_)
      | (refine ge_gate ?_; first
        | ((with_reducible refine ge_gT ?_); first | with_reducible refine ge_then ?_ | with_reducible refine ge_then_exit ?_ | with_reducible refine ge_then_ret ?_))
    (refine gc_cond rfl ?_ ?_ <;> intro h_ <;> have hd_ := h_ <;> (try simp only [bytes_beq, cell_beq, val_beq, stamp_beq, decide_eq_true_eq, decide_eq_false_iff_not, Bool.and_eq_true, Bool.or_eq_true, Bool.or_eq_false_iff, Bool.not_eq_true', Bool.not_eq_false', Bool.not_true, Bool.not_false, Bool.false_or, Bool.true_and, Bool.and_true, Bool.or_false, beq_iff_eq, bne_iff_ne, beq_eq_false_iff_ne, bne_eq_false_iff_eq, ne_eq, Bool.false_eq_true, reduceCtorEq] at hd_) <;> (try (exfalso; omega)))
    · repeat' first
        | (refine gl_gate ?_; first
          | refine gl_nil ?_
          | (refine gl_add0 ?_; refine gl_yv (yv_add tab_ok (gok_none rfl) rfl rfl rfl rfl (fun _ => allT_of rfl) (by intro _; omega)) rfl rfl ?_)
          | (refine gl_any0 ?_; refine gl_pure tab_ok rfl rfl rfl rfl rfl rfl ?_))
        | (refine gc_gate ?_; first
          | refine gc_region ?_
          | refine gc_exit ?_)
        | (refine ge_gate ?_; first
          | ((with_reducible refine ge_gT ?_); first | with_reducible refine ge_then ?_ | with_reducible refine ge_then_exit ?_ | with_reducible refine ge_then_ret ?_)
          | ((with_reducible refine ge_gK ?_); first | with_reducible refine ge_block ?_ | refine ge_block_exit ?_ | refine ge_block_pass rfl ?_ | with_reducible refine ge_block_ret ?_))
      have hfm : e.fm = false := by simpa using hd_
      refine ge_round (i + 1, s) ⟨by omega, NwOk.next (by rw [hcc, hfm]; exact hok) hiN⟩ (by show (dC l).length - (i + 1) < (dC l).length - i; omega) c_frs (List.Sublist.cons _ (List.Sublist.refl _))
    have hfm : e.fm = true := by simpa using hd_
    rw [hfm, if_pos rfl] at hcc
    have hnd := cellsT_len e.node
    have hcn := hc e hel
    repeat' first
      | (refine gl_any0 ?_; refine gl_yv ((yv_lookup (c := false) (k := (dC l).getD i default) (z0 := default) key_cell tab_ok zero_en (gok_none rfl) rfl rfl rfl rfl (fun _ => rfl) (fun _ => rfl) hmm c_mem).cast (v' := vE e) (by rw [← hme]; rfl)) rfl rfl ?_)
      | (refine gl_gate ?_; first
        | refine gl_nil ?_
        | (refine gl_load0 ?_; refine gl_yv (yv_load tab_ok (gok_none rfl) rfl rfl (fun _ => rfl) c_mem (fun _ => c_lds)) rfl rfl ?_)
        | (refine gl_any0 ?_; (refine gl_ev (ev_callOw rfl rfl ent90 rfl rfl rfl (fun W hW => ct_Cells e.node e.p e.c W ((hR e hel).st hW) (by omega)) ?_) rfl rfl; intro pc cc spc hwc))
        | (refine gl_any0 ?_; refine gl_pure tab_ok rfl rfl rfl rfl rfl rfl ?_))
      | (refine gc_gate ?_; first
        | refine gc_seq ?_
        | refine gc_region ?_
        | refine gc_block ?_
        | refine gc_skip ?_)
      | (refine ge_gate ?_; first
        | ((with_reducible refine ge_gT ?_); first | with_reducible refine ge_then ?_ | with_reducible refine ge_then_exit ?_ | with_reducible refine ge_then_ret ?_))
    revert g_
    intro g6 hg6
    refine gc_perm (List.perm_append_comm_assoc (ow pc true (cat Cell.l (cellsT e.node) ++ spc) 25) (_ :: _ :: _ :: _ :: _ :: ow pd true (cat Cell.l (dC l) ++ spd) 25) (rowsC s.R (dC l) ++ rowsC s.F (dC l))) ?_
    refine gc_loop (α := Nat × NwS) (fun x => [(3, true, .map (some gm)), (4, true, .pointer (some ⟨gd, 0, none⟩)), (22, true, .slice (pd.map ad) (dC l).length cd), (23, true, .int .i64 (dC l).length), (24, true, .int .i64 (i : Int)), (6, true, .pointer (some ⟨g6, 0, none⟩)), (37, true, .slice (pc.map ad) (cellsT e.node).length cc), (38, true, .int .i64 (cellsT e.node).length), (39, true, .int .i64 (x.1 : Int))])
      (fun x => (g6, true, .cells ((dC l).getD i default).l.toArray 25 (0, 0)) :: (gm, true, .map em km) :: (gd, true, .cells [.slice (pd.map ad) (dC l).length cd, .map (some gR), .map (some gF)].toArray 207 (0, 0)) :: (gF, true, .map x.2.ef x.2.kf) :: (gR, true, .map x.2.er x.2.kr) :: (ow pd true (cat Cell.l (dC l) ++ spd) 25 ++ (ow pc true (cat Cell.l (cellsT e.node) ++ spc) 25 ++ (rowsC x.2.R (dC l) ++ rowsC x.2.F (dC l))))) (fun x => x.1 ≤ (cellsT e.node).length ∧ NwOk l i x.1 x.2) (fun x => (cellsT e.node).length - x.1) (0, s) c_frs (List.Sublist.refl _) ⟨Nat.zero_le _, hok⟩ ?_
    rintro ⟨j, s⟩ ⟨hj, hok⟩
    dsimp only at hj hok ⊢
    repeat' first
      | (refine gl_gate ?_; first
        | refine gl_nil ?_
        | (refine gl_any0 ?_; refine gl_pure tab_ok rfl rfl rfl rfl rfl rfl ?_))
      | (refine gc_gate ?_; first
        | refine gc_seq ?_
        | refine gc_region ?_)
      | (refine ge_gate ?_; first
        | ((with_reducible refine ge_gT ?_); first | with_reducible refine ge_then ?_ | with_reducible refine ge_then_exit ?_ | with_reducible refine ge_then_ret ?_))
    (refine gc_cond rfl ?_ ?_ <;> intro h_ <;> have hd_ := h_ <;> (try simp only [bytes_beq, cell_beq, val_beq, stamp_beq, decide_eq_true_eq, decide_eq_false_iff_not, Bool.and_eq_true, Bool.or_eq_true, Bool.or_eq_false_iff, Bool.not_eq_true', Bool.not_eq_false', Bool.not_true, Bool.not_false, Bool.false_or, Bool.true_and, Bool.and_true, Bool.or_false, beq_iff_eq, bne_iff_ne, beq_eq_false_iff_ne, bne_eq_false_iff_eq, ne_eq, Bool.false_eq_true, reduceCtorEq] at hd_) <;> (try (exfalso; omega)))
    · have hjN : j < (cellsT e.node).length := by omega
      have hjN' : j < (cR l ((dC l).getD i default)).length := by rw [hcc]; exact hjN
      have hsome : (fnd ((cellsT e.node).getD j default) m 0).isSome = decide ((cellsT e.node).getD j default ∈ dC l) := by
        rw [fnd_isSome_lk, hlk, Bool.eq_iff_iff, decide_eq_true_eq]
        have := @lkE_none (lastR l) ((cellsT e.node).getD j default)
        cases h : lkE (lastR l) ((cellsT e.node).getD j default) with
        | none => rw [h] at this; simpa [dC] using this
        | some x => rw [h] at this; simpa [dC] using this
      repeat' first
        | (refine gl_idx0 ?_; refine gl_yv (yv_idxO tab_ok hwc (gok_none rfl) rfl rfl rfl rfl rfl rfl (fun _ => rfl) (fun _ => rfl) c_bnd) rfl rfl ?_)
        | (refine gl_load0 ?_; refine gl_yv (yv_ldO tab_ok c_oa hwc (gok_none rfl) rfl rfl (fun _ => rfl) (fun _ => lds_cat len_cell (by omega) rfl rfl rfl) c_bnd) rfl rfl ?_)
        | (refine gl_any0 ?_; refine gl_yv ((yv_lookup (c := true) (k := (cellsT e.node).getD j default) (z0 := default) key_cell tab_ok zero_en (gok_none rfl) rfl rfl rfl rfl (fun _ => rfl) (fun _ => rfl) hmm c_mem).cast (v' := .tuple #[vE (mgetD m ((cellsT e.node).getD j default) default), .bool (decide ((cellsT e.node).getD j default ∈ dC l))]) (by rw [← hsome]; rfl)) rfl rfl ?_)
        | (refine gl_gate ?_; first
          | refine gl_nil ?_
          | (refine gl_load0 ?_; refine gl_yv (yv_load tab_ok (gok_none rfl) rfl rfl (fun _ => rfl) c_mem (fun _ => c_lds)) rfl rfl ?_)
          | (refine gl_alc0 ?_; (refine gl_alloc tab_ok rfl rfl rfl rfl rfl ?_; intro g_ hg_))
          | (refine gl_sto0 ?_; refine gl_store tab_ok rfl rfl rfl rfl rfl rfl rfl c_one rfl c_ku ?_)
          | (refine gl_any0 ?_; refine gl_pure tab_ok rfl rfl rfl rfl rfl rfl ?_))
        | (refine gc_gate ?_; first
          | refine gc_seq ?_
          | refine gc_region ?_
          | refine gc_block ?_
          | refine gc_skip ?_)
        | (refine ge_gate ?_; first
          | ((with_reducible refine ge_gT ?_); first | with_reducible refine ge_then ?_ | with_reducible refine ge_then_exit ?_ | with_reducible refine ge_then_ret ?_))
      (refine gc_cond rfl ?_ ?_ <;> intro h_ <;> have hd_ := h_ <;> (try simp only [bytes_beq, cell_beq, val_beq, stamp_beq, decide_eq_true_eq, decide_eq_false_iff_not, Bool.and_eq_true, Bool.or_eq_true, Bool.or_eq_false_iff, Bool.not_eq_true', Bool.not_eq_false', Bool.not_true, Bool.not_false, Bool.false_or, Bool.true_and, Bool.and_true, Bool.or_false, beq_iff_eq, bne_iff_ne, beq_eq_false_iff_ne, bne_eq_false_iff_eq, ne_eq, Bool.false_eq_true, reduceCtorEq] at hd_) <;> (try (exfalso; omega)))
      · rename_i g8 hg8
        refine gc_dropK (List.Sublist.cons _ (List.Sublist.refl _)) ?_
        have hyD : (cellsT e.node).getD j default ∈ dC l := hd_
        generalize hr : s.R ((dC l).getD i default) = r
        generalize hf : s.F ((cellsT e.node).getD j default) = f
        have hrx := congrArg (List.length ∘ Rw.xs) hr
        have hfx := congrArg (List.length ∘ Rw.xs) hf
        simp only [Function.comp_apply, hok.rx, hok.fx] at hrx hfx
        have hrl := RX_len l i j ((dC l).getD i default)
        have hfl := FX_len l i j ((cellsT e.node).getD j default)
        have hro := hok.ro ((dC l).getD i default)
        have hfo := hok.fo ((cellsT e.node).getD j default)
        have hvr := hok.gr ((dC l).getD i default)
        have hvf := hok.gf ((cellsT e.node).getD j default)
        have hpR := rowsK_pick (f := Cell.l) (t := 25) (R := s.R) hci
        have hpF := rowsK_pick (f := Cell.l) (t := 25) (R := s.F) hyD
        rw [hr] at hro hvr hpR
        rw [hf] at hfo hvf hpF
        have hrx2 := hok.rx ((dC l).getD i default)
        have hfx2 := hok.fx ((cellsT e.node).getD j default)
        obtain ⟨p1, c1, xs1, sp1⟩ := r
        obtain ⟨p2, c2, xs2, sp2⟩ := f
        unfold Rw.Ow at hro hfo
        dsimp only at hrx hfx hro hfo
        have h0 : (rowsC s.R (dC l) ++ rowsC s.F (dC l)).Perm (ow p1 true (cat Cell.l xs1 ++ sp1) 25 ++ (ow p2 true (cat Cell.l xs2 ++ sp2) 25 ++ (rowsC s.R ((dC l).erase ((dC l).getD i default)) ++ rowsC s.F ((dC l).erase ((cellsT e.node).getD j default))))) := (hpR.append hpF).trans (perm4 _ _ _ _).symm
        refine gc_perm ((((((((h0.append_left _).append_left _).cons _).cons _).cons _).cons _).cons _).cons _) ?_
        repeat' first
          | (refine gc_gate ?_; first
            | refine gc_seq ?_)
        refine gp_startC (St w [] [(g8, true, .cells ((cellsT e.node).getD j default).l.toArray 25 (0, 0)), (g6, true, .cells ((dC l).getD i default).l.toArray 25 (0, 0)), (gd, true, .cells [.slice (pd.map ad) (dC l).length cd, .map (some gR), .map (some gF)].toArray 207 (0, 0))]) (by intro W_ h_; exact h_.drop (by repeat first | exact List.nil_sublist _ | apply List.Sublist.cons_cons | apply List.Sublist.cons | apply List.sublist_append_of_sublist_right)) [11] #[false, false, false, false, false, false, false, false, false, false, false, false] mixed rfl rfl c_qp ?_; intro hqp_
        refine gp_take 0 #[true, false, false, false, false, false, false, false, false, false, false, false] hqp_ rfl (by kernel_rfl) (yv_pure tab_ok c_gok rfl rfl c_allT) (by intro W_ h_; exact h_.drop (by repeat first | exact List.nil_sublist _ | apply List.Sublist.cons_cons | apply List.Sublist.cons | apply List.sublist_append_of_sublist_right)) rfl rfl ?_
        refine gp_take 1 #[true, true, false, false, false, false, false, false, false, false, false, false] hqp_ rfl (by kernel_rfl) (yv_pure tab_ok c_gok rfl rfl c_allT) (by intro W_ h_; exact h_.drop (by repeat first | exact List.nil_sublist _ | apply List.Sublist.cons_cons | apply List.Sublist.cons | apply List.sublist_append_of_sublist_right)) rfl rfl ?_
        refine gp_take 2 #[true, true, true, false, false, false, false, false, false, false, false, false] hqp_ rfl (by kernel_rfl) (yv_pure tab_ok c_gok rfl rfl c_allT) (by intro W_ h_; exact h_.drop (by repeat first | exact List.nil_sublist _ | apply List.Sublist.cons_cons | apply List.Sublist.cons | apply List.sublist_append_of_sublist_right)) rfl rfl ?_
        refine gp_take 3 #[true, true, true, true, false, false, false, false, false, false, false, false] hqp_ rfl (by kernel_rfl) (yv_load tab_ok c_gok rfl rfl c_imp c_mem (fun _ => c_lds)) (by intro W_ h_; exact h_.drop (by repeat first | exact List.nil_sublist _ | apply List.Sublist.cons_cons | apply List.Sublist.cons | apply List.sublist_append_of_sublist_right)) rfl rfl ?_
        refine gp_take 4 #[true, true, true, true, true, false, false, false, false, false, false, false] hqp_ rfl (by kernel_rfl) (yv_load tab_ok c_gok rfl rfl c_imp c_mem (fun _ => c_lds)) (by intro W_ h_; exact h_.drop (by repeat first | exact List.nil_sublist _ | apply List.Sublist.cons_cons | apply List.Sublist.cons | apply List.sublist_append_of_sublist_right)) rfl rfl ?_
        refine gp_take 5 #[true, true, true, true, true, true, false, false, false, false, false, false] hqp_ rfl (by kernel_rfl) (yv_load tab_ok c_gok rfl rfl c_imp c_mem (fun _ => c_lds)) (by intro W_ h_; exact h_.drop (by repeat first | exact List.nil_sublist _ | apply List.Sublist.cons_cons | apply List.Sublist.cons | apply List.sublist_append_of_sublist_right)) rfl rfl ?_
        (refine gp_ev 6 #[true, true, true, true, true, true, true, false, false, false, false, false] rfl (by kernel_rfl) rfl rfl rfl (ev_buildSlice tab_ok rfl rfl rfl rfl rfl rfl rfl rfl rfl rfl ?_); intro g_ hg_; refine ⟨(by intro W_ h_; exact h_.drop (by repeat first | exact List.nil_sublist _ | apply List.Sublist.cons_cons | apply List.Sublist.cons | apply List.sublist_append_of_sublist_right)), ?_⟩)
        refine gp_ev 7 #[true, true, true, true, true, true, true, true, false, false, false, false] rfl (by kernel_rfl) rfl rfl rfl (ev_mapEntryV (k := (dC l).getD i default) (u0 := Value.slice (p1.map ad) xs1.length c1) hvr key_cell tab_ok zero_cells rfl rfl rfl rfl rfl hok.mr c_mem (fun es1 clock1 m1 j1 st1 u1 u2 u3 u4 => ⟨_, c_ku, ⟨(by intro W_ h_; exact h_.drop (by repeat first | exact List.nil_sublist _ | apply List.Sublist.cons_cons | apply List.Sublist.cons | apply List.sublist_append_of_sublist_right)), ?_⟩⟩))
        refine gp_take 8 #[true, true, true, true, true, true, true, true, true, false, false, false] hqp_ rfl (by kernel_rfl) (yv_pure tab_ok c_gok rfl rfl c_allT) (by intro W_ h_; exact h_.drop (by repeat first | exact List.nil_sublist _ | apply List.Sublist.cons_cons | apply List.Sublist.cons | apply List.sublist_append_of_sublist_right)) rfl rfl ?_
        refine gp_take 10 #[true, true, true, true, true, true, true, true, true, false, true, false] hqp_ rfl (by kernel_rfl) (yv_pure tab_ok c_gok rfl rfl c_allT) (by intro W_ h_; exact h_.drop (by repeat first | exact List.nil_sublist _ | apply List.Sublist.cons_cons | apply List.Sublist.cons | apply List.sublist_append_of_sublist_right)) rfl rfl ?_
        (refine gp_ev 9 #[true, true, true, true, true, true, true, true, true, true, true, false] rfl (by kernel_rfl) rfl rfl rfl (ev_append tab_ok rfl rfl rfl rfl rfl rfl rfl rfl c_oa hro c_src c_lim c_lim ?_); intro p3 c3 sp3 hw3; refine ⟨(by intro W_ h_; exact h_.drop (by repeat first | exact List.nil_sublist _ | apply List.Sublist.cons_cons | apply List.Sublist.cons | apply List.sublist_append_of_sublist_right)), ?_⟩)
        refine gp_last0 11 #[true, true, true, true, true, true, true, true, true, true, true, true] rfl (by kernel_rfl) (by simp) rfl (ev_entryStore (vf := idV) (u := Value.slice (p3.map ad) (xs1.length + 1) c3) rfl rfl rfl rfl rfl u1 u2 u4 c_mem (fun es2 u5 => ⟨_, c_ku, ?_⟩))
        refine gp_done (by kernel_rfl) ?_; clear hqp_
        repeat' first
          | (refine ge_gate ?_; first
            | ((with_reducible refine ge_gT ?_); first | with_reducible refine ge_then ?_ | with_reducible refine ge_then_exit ?_ | with_reducible refine ge_then_ret ?_))
        refine gp_startC (St w [] [(g8, true, .cells ((cellsT e.node).getD j default).l.toArray 25 (0, 0)), (g6, true, .cells ((dC l).getD i default).l.toArray 25 (0, 0)), (gd, true, .cells [.slice (pd.map ad) (dC l).length cd, .map (some gR), .map (some gF)].toArray 207 (0, 0))]) (by intro W_ h_; exact h_.drop (by repeat first | exact List.nil_sublist _ | apply List.Sublist.cons_cons | apply List.Sublist.cons | apply List.sublist_append_of_sublist_right)) [11] #[false, false, false, false, false, false, false, false, false, false, false, false] mixed rfl rfl c_qp ?_; intro hqp_
        refine gp_take 0 #[true, false, false, false, false, false, false, false, false, false, false, false] hqp_ rfl (by kernel_rfl) (yv_pure tab_ok c_gok rfl rfl c_allT) (by intro W_ h_; exact h_.drop (by repeat first | exact List.nil_sublist _ | apply List.Sublist.cons_cons | apply List.Sublist.cons | apply List.sublist_append_of_sublist_right)) rfl rfl ?_
        refine gp_take 1 #[true, true, false, false, false, false, false, false, false, false, false, false] hqp_ rfl (by kernel_rfl) (yv_pure tab_ok c_gok rfl rfl c_allT) (by intro W_ h_; exact h_.drop (by repeat first | exact List.nil_sublist _ | apply List.Sublist.cons_cons | apply List.Sublist.cons | apply List.sublist_append_of_sublist_right)) rfl rfl ?_
        refine gp_take 2 #[true, true, true, false, false, false, false, false, false, false, false, false] hqp_ rfl (by kernel_rfl) (yv_pure tab_ok c_gok rfl rfl c_allT) (by intro W_ h_; exact h_.drop (by repeat first | exact List.nil_sublist _ | apply List.Sublist.cons_cons | apply List.Sublist.cons | apply List.sublist_append_of_sublist_right)) rfl rfl ?_
        refine gp_take 3 #[true, true, true, true, false, false, false, false, false, false, false, false] hqp_ rfl (by kernel_rfl) (yv_load tab_ok c_gok rfl rfl c_imp c_mem (fun _ => c_lds)) (by intro W_ h_; exact h_.drop (by repeat first | exact List.nil_sublist _ | apply List.Sublist.cons_cons | apply List.Sublist.cons | apply List.sublist_append_of_sublist_right)) rfl rfl ?_
        refine gp_take 4 #[true, true, true, true, true, false, false, false, false, false, false, false] hqp_ rfl (by kernel_rfl) (yv_load tab_ok c_gok rfl rfl c_imp c_mem (fun _ => c_lds)) (by intro W_ h_; exact h_.drop (by repeat first | exact List.nil_sublist _ | apply List.Sublist.cons_cons | apply List.Sublist.cons | apply List.sublist_append_of_sublist_right)) rfl rfl ?_
        refine gp_take 5 #[true, true, true, true, true, true, false, false, false, false, false, false] hqp_ rfl (by kernel_rfl) (yv_load tab_ok c_gok rfl rfl c_imp c_mem (fun _ => c_lds)) (by intro W_ h_; exact h_.drop (by repeat first | exact List.nil_sublist _ | apply List.Sublist.cons_cons | apply List.Sublist.cons | apply List.sublist_append_of_sublist_right)) rfl rfl ?_
        (refine gp_ev 6 #[true, true, true, true, true, true, true, false, false, false, false, false] rfl (by kernel_rfl) rfl rfl rfl (ev_buildSlice tab_ok rfl rfl rfl rfl rfl rfl rfl rfl rfl rfl ?_); intro g_ hg_; refine ⟨(by intro W_ h_; exact h_.drop (by repeat first | exact List.nil_sublist _ | apply List.Sublist.cons_cons | apply List.Sublist.cons | apply List.sublist_append_of_sublist_right)), ?_⟩)
        refine gp_ev 7 #[true, true, true, true, true, true, true, true, false, false, false, false] rfl (by kernel_rfl) rfl rfl rfl (ev_mapEntryV (k := (cellsT e.node).getD j default) (u0 := Value.slice (p2.map ad) xs2.length c2) hvf key_cell tab_ok zero_cells rfl rfl rfl rfl rfl hok.mf c_mem (fun es3 clock3 m3 j3 st3 v1 v2 v3 v4 => ⟨_, c_ku, ⟨(by intro W_ h_; exact h_.drop (by repeat first | exact List.nil_sublist _ | apply List.Sublist.cons_cons | apply List.Sublist.cons | apply List.sublist_append_of_sublist_right)), ?_⟩⟩))
        refine gp_take 8 #[true, true, true, true, true, true, true, true, true, false, false, false] hqp_ rfl (by kernel_rfl) (yv_pure tab_ok c_gok rfl rfl c_allT) (by intro W_ h_; exact h_.drop (by repeat first | exact List.nil_sublist _ | apply List.Sublist.cons_cons | apply List.Sublist.cons | apply List.sublist_append_of_sublist_right)) rfl rfl ?_
        refine gp_take 10 #[true, true, true, true, true, true, true, true, true, false, true, false] hqp_ rfl (by kernel_rfl) (yv_pure tab_ok c_gok rfl rfl c_allT) (by intro W_ h_; exact h_.drop (by repeat first | exact List.nil_sublist _ | apply List.Sublist.cons_cons | apply List.Sublist.cons | apply List.sublist_append_of_sublist_right)) rfl rfl ?_
        (refine gp_ev 9 #[true, true, true, true, true, true, true, true, true, true, true, false] rfl (by kernel_rfl) rfl rfl rfl (ev_append tab_ok rfl rfl rfl rfl rfl rfl rfl rfl c_oa hfo c_src c_lim c_lim ?_); intro p4 c4 sp4 hw4; refine ⟨(by intro W_ h_; exact h_.drop (by repeat first | exact List.nil_sublist _ | apply List.Sublist.cons_cons | apply List.Sublist.cons | apply List.sublist_append_of_sublist_right)), ?_⟩)
        refine gp_last0 11 #[true, true, true, true, true, true, true, true, true, true, true, true] rfl (by kernel_rfl) (by simp) rfl (ev_entryStore (vf := idV) (u := Value.slice (p4.map ad) (xs2.length + 1) c4) rfl rfl rfl rfl rfl v1 v2 v4 c_mem (fun es4 v5 => ⟨_, c_ku, ?_⟩))
        refine gp_done (by kernel_rfl) ?_; clear hqp_
        have hnc := cLt_nodup (dC_lt l)
        have hP1 := rowsK_upd (f := Cell.l) (t := 25) (R := s.R) (x := ⟨p3, c3, xs1 ++ [(cellsT e.node).getD j default], sp3⟩) hnc hci
        have hP2 := rowsK_upd (f := Cell.l) (t := 25) (R := s.F) (x := ⟨p4, c4, xs2 ++ [(dC l).getD i default], sp4⟩) hnc hyD
        rw [Rw.K, cat_snoc] at hP1 hP2
        refine ge_rows (Z1 := _ :: _ :: _ :: _ :: _ :: ow pd true (cat Cell.l (dC l) ++ spd) 25) (Z2 := ow pc true (cat Cell.l (cellsT e.node) ++ spc) 25) hP1 hP2 ?_
        repeat' first
          | (refine gl_gate ?_; first
            | refine gl_nil ?_
            | (refine gl_add0 ?_; refine gl_yv (yv_add tab_ok (gok_none rfl) rfl rfl rfl rfl (fun _ => allT_of rfl) (by intro _; omega)) rfl rfl ?_)
            | (refine gl_any0 ?_; refine gl_pure tab_ok rfl rfl rfl rfl rfl rfl ?_))
          | (refine gc_gate ?_; first
            | refine gc_region ?_)
          | (refine ge_gate ?_; first
            | ((with_reducible refine ge_gT ?_); first | with_reducible refine ge_then ?_ | with_reducible refine ge_then_exit ?_ | with_reducible refine ge_then_ret ?_)
            | ((with_reducible refine ge_gK ?_); first | with_reducible refine ge_block ?_ | refine ge_block_exit ?_ | refine ge_block_pass rfl ?_ | with_reducible refine ge_block_ret ?_))
        rw [u3] at u5
        rw [v3] at v5
        have hnew := NwOk.step (er := es2) (kr := clock1) (ef := es4) (kf := clock3) (r := ⟨p3, c3, xs1 ++ [(cellsT e.node).getD j default], sp3⟩) (f := ⟨p4, c4, xs2 ++ [(dC l).getD i default], sp4⟩) hok hiN hjN' (by rw [hcc]; exact hyD)
          (by unfold Rw.Ow; rw [cat_snoc, List.length_append]; exact hw3) (by unfold Rw.Ow; rw [cat_snoc, List.length_append]; exact hw4) (by rw [hr, hcc]) (by rw [hcc, hf]) (by rw [Rw.v, List.length_append]; exact u5) (by rw [hcc, Rw.v, List.length_append]; exact v5)
        rw [hcc] at hnew
        exact ge_round (j + 1, _) ⟨by omega, hnew⟩ (by show (cellsT e.node).length - (j + 1) < (cellsT e.node).length - j; omega) c_frs (List.Sublist.refl _)
      · repeat' first
          | (refine gl_gate ?_; first
            | refine gl_nil ?_
            | (refine gl_add0 ?_; refine gl_yv (yv_add tab_ok (gok_none rfl) rfl rfl rfl rfl (fun _ => allT_of rfl) (by intro _; omega)) rfl rfl ?_)
            | (refine gl_any0 ?_; refine gl_pure tab_ok rfl rfl rfl rfl rfl rfl ?_))
          | (refine gc_gate ?_; first
            | refine gc_region ?_
            | refine gc_skip ?_)
          | (refine ge_gate ?_; first
            | ((with_reducible refine ge_gT ?_); first | with_reducible refine ge_then ?_ | with_reducible refine ge_then_exit ?_ | with_reducible refine ge_then_ret ?_)
            | ((with_reducible refine ge_gK ?_); first | with_reducible refine ge_block ?_ | refine ge_block_exit ?_ | refine ge_block_pass rfl ?_ | with_reducible refine ge_block_ret ?_))
        refine ge_round (j + 1, s) ⟨by omega, hok.no hjN' (by rw [hcc]; exact hd_)⟩ (by show (cellsT e.node).length - (j + 1) < (cellsT e.node).length - j; omega) c_frs (List.Sublist.cons _ (List.Sublist.cons _ (List.Sublist.refl _)))
    · repeat' first
        | (refine gl_gate ?_; first
          | refine gl_nil ?_
          | (refine gl_add0 ?_; refine gl_yv (yv_add tab_ok (gok_none rfl) rfl rfl rfl rfl (fun _ => allT_of rfl) (by intro _; omega)) rfl rfl ?_)
          | (refine gl_any0 ?_; refine gl_pure tab_ok rfl rfl rfl rfl rfl rfl ?_))
        | (refine gc_gate ?_; first
          | refine gc_region ?_
          | refine gc_exit ?_)
        | (refine ge_gate ?_; first
          | ((with_reducible refine ge_gT ?_); first | with_reducible refine ge_then ?_ | with_reducible refine ge_then_exit ?_ | with_reducible refine ge_then_ret ?_)
          | ((with_reducible refine ge_gK ?_); first | with_reducible refine ge_block ?_ | refine ge_block_exit ?_ | refine ge_block_pass rfl ?_ | with_reducible refine ge_block_ret ?_))
      have hjN : j = (cR l ((dC l).getD i default)).length := by rw [hcc]; omega
      refine ge_round (i + 1, s) ⟨by omega, NwOk.next (hjN ▸ hok) hiN⟩ (by show (dC l).length - (i + 1) < (dC l).length - i; omega) c_frs (List.Sublist.cons _ (List.Sublist.cons_cons _ (List.Sublist.cons_cons _ (List.Sublist.cons_cons _ (List.Sublist.cons_cons _ (List.Sublist.append (List.Sublist.refl _) (List.sublist_append_right _ _)))))))
  · repeat' first
      | (refine gl_gate ?_; first
        | refine gl_nil ?_
        | (refine gl_any0 ?_; refine gl_pure tab_ok rfl rfl rfl rfl rfl rfl ?_))
      | (refine gc_gate ?_; first
        | refine gc_seq ?_
        | refine gc_region ?_
        | refine gc_exit ?_
        | refine gc_ret ?_)
      | (refine ge_gate ?_; first
        | ((with_reducible refine ge_gT ?_); first | with_reducible refine ge_then ?_ | with_reducible refine ge_then_exit ?_ | with_reducible refine ge_then_ret ?_)
        | ((with_reducible refine ge_gK ?_); first | with_reducible refine ge_block ?_ | refine ge_block_exit ?_ | refine ge_block_pass rfl ?_ | with_reducible refine ge_block_ret ?_)
        | ((with_reducible refine ge_gB ?_); first | refine ge_ret1 tab_ok rfl c_rvt ?_ | refine ge_end1 tab_ok rfl c_rvt ?_ | refine ge_ret2 tab_ok rfl c_rvt c_rvt ?_ | refine ge_ret_none rfl ?_ | refine ge_end_none rfl ?_))
    intro W hW
    have hin : i = (dC l).length := by omega
    subst hin
    exact ⟨⟨(gd, nwK l s gd gR gF pd cd spd), nwK_wr⟩, rfl, nwK_fz hok hwd, hW.drop (List.Sublist.cons _ (List.Sublist.refl _))⟩
end Go.Proofs.Ytkgjfcjciigcgaa
