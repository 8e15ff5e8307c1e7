/-
  The methods of deps.Deps: its cells, what each reads, what reads it.
-/
import Derived.Test.YtkgjfcjciigcgaaGoDepsP1
namespace Go.Proofs.Ytkgjfcjciigcgaa
open Go.Proofs.Ytkgjfcjciigcgaa.Sl Go.RowKit
set_option linter.unusedVariables false
set_option linter.unusedSimpArgs false
set_option linter.unusedSectionVars false
set_option maxRecDepth 100000

theorem elemsAllC {α : Type} [Inhabited α] {f : α → List Value} {l : List α} : (elems l.length (fun j => f (l.getD j default))).flatten = cat f l := by
  unfold elems cat
  rw [List.flatMap_def]
  congr 1
  apply List.ext_getElem?
  intro j
  by_cases hj : j < l.length
  · simp [hj, List.getD]
  · simp [hj]
/-- slices.Clone of cells. -/
theorem ct_CloneC (l : List Cell) (p : Option Addr) (n cap : Nat) (w : World) (hn : n = l.length) (hs : SlA w 3 p n (fun i => (l.getD i default).l)) (hl : n ≤ 1000000) : Calls Try.prog 181 #[.slice p n cap] w (RetOw w n 3 (cat Cell.l l) 25) := by
  rcases p with _ | a
  · have h0 : n = 0 := by
      rcases Nat.eq_zero_or_pos n with h | h
      · exact h
      · have := hs.ptr h; cases this
    subst h0
    have : l = [] := List.eq_nil_of_length_eq_zero hn.symm
    subst this
    refine enter (args := [_]) (M := []) (K := []) Try.func181 rfl Try.ntmps181 rfl (St.refl _ _) ?_
    repeat' first
      | (refine gl_gate ?_; first
        | refine gl_nil ?_
        | (refine gl_any0 ?_; refine gl_pure tab_ok rfl rfl rfl rfl rfl rfl ?_))
      | (refine gc_gate ?_; first
        | refine gc_seq ?_
        | refine gc_region ?_
        | refine gc_true rfl ?_
        | refine gc_ret ?_)
      | (refine ge_gate ?_; first
        | ((with_reducible refine ge_gT ?_); first | with_reducible refine ge_then ?_ | with_reducible refine ge_then_exit ?_ | with_reducible refine ge_then_ret ?_)
        | ((with_reducible refine ge_gB ?_); first | refine ge_ret1 tab_ok rfl c_rvt ?_ | refine ge_end1 tab_ok rfl c_rvt ?_ | refine ge_ret2 tab_ok rfl c_rvt c_rvt ?_ | refine ge_ret_none rfl ?_ | refine ge_end_none rfl ?_))
    intro W hW
    exact ⟨none, 0, [], rfl, Ow.none0, hW⟩
  · have hel : (elems n (fun i => (l.getD i default).l)).flatten = cat Cell.l l := by
      rw [hn]
      exact elemsAllC
    refine enter (args := [_]) (M := []) (K := []) Try.func181 rfl Try.ntmps181 rfl (St.refl _ _) ?_
    repeat' first
      | (refine gl_gate ?_; first
        | refine gl_nil ?_
        | (refine gl_any0 ?_; (refine gl_ev (ev_buildSlice0 tab_ok rfl rfl rfl rfl ?_) rfl rfl; intro g_ hg_))
        | (refine gl_app0 ?_; (refine gl_ev (ev_append tab_ok rfl rfl rfl rfl rfl rfl rfl rfl c_oa ((Ow.some0 (g := g_) (k := 3))) (src_slA tab_ok rfl hs (fun _ => List.not_mem_nil) (fun i _ => ones_of rfl)) c_lim c_lim ?_) rfl rfl; intro p_ c_ sp_ hw_))
        | (refine gl_any0 ?_; refine gl_pure tab_ok rfl rfl rfl rfl rfl rfl ?_))
      | (refine gc_gate ?_; first
        | refine gc_seq ?_
        | refine gc_region ?_
        | refine gc_false rfl ?_
        | refine gc_ret ?_
        | refine gc_skip ?_)
      | (refine ge_gate ?_; first
        | ((with_reducible refine ge_gT ?_); first | with_reducible refine ge_then ?_ | with_reducible refine ge_then_exit ?_ | with_reducible refine ge_then_ret ?_)
        | ((with_reducible refine ge_gB ?_); first | refine ge_ret1 tab_ok rfl c_rvt ?_ | refine ge_end1 tab_ok rfl c_rvt ?_ | refine ge_ret2 tab_ok rfl c_rvt c_rvt ?_ | refine ge_ret_none rfl ?_ | refine ge_end_none rfl ?_))
    intro W hW
    rw [Nat.zero_add] at hw_
    rw [hel] at hw_ hW
    exact ⟨p_, c_, sp_, by simp, by simpa using hw_, by simpa using hW.drop (List.sublist_append_left _ _)⟩
theorem heap_st {w W : World} {K : Kl} {g : Nat} {ob : Obj} (h : w.heap[g]? = some ob) (hW : St w [] K W) : W.heap[g]? = some ob := by
  rw [hW.frame g (Array.getElem?_eq_some_iff.1 h).1 (by simp)]
  exact h
theorem RowV.st {w W : World} {K : Kl} {v : Value} {xs : List Cell} (h : RowV w v xs) (hW : St w [] K W) : RowV W v xs := by
  obtain ⟨p, c, h1, h2⟩ := h
  exact ⟨p, c, h1, h2.st hW⟩
theorem DpP.st {w W : World} {K : Kl} {l : List En} {g : Nat} (h : DpP w l g) (hW : St w [] K W) : DpP W l g := by
  obtain ⟨⟨p, c, gr, gf, mr, mf, er, ef, kr, kf, hg, hsc, ⟨hgr, hmr, hrr⟩, ⟨hgf, hmf, hrf⟩⟩⟩ := h
  exact ⟨⟨p, c, gr, gf, mr, mf, er, ef, kr, kf, heap_st hg hW, hsc.st hW, ⟨heap_st hgr hW, hmr, fun x => (hrr x).st hW⟩, ⟨heap_st hgf hW, hmf, fun x => (hrf x).st hW⟩⟩⟩
theorem ct_CellsP (l : List En) (g : Nat) (w : World) (h : DpP w l g) (hl : l.length ≤ 1000) : Calls Try.prog 111 #[.pointer (some (ad g))] w (RetOw w (dC l).length 3 (cat Cell.l (dC l)) 25) := by
  obtain ⟨⟨p, c, gr, gf, mr, mf, er, ef, kr, kf, hg, hsc, ⟨hgr, hmr, hrr⟩, ⟨hgf, hmf, hrf⟩⟩⟩ := h
  have hdl := dC_len l
  refine enter (args := [_]) (M := []) (K := []) Try.func111 rfl Try.ntmps111 rfl (St.refl _ _) ?_
  refine gc_old hg (by simp) (by simp) ?_
  repeat' first
    | (refine gl_gate ?_; first
      | refine gl_nil ?_
      | (refine gl_load0 ?_; refine gl_yv (yv_load tab_ok (gok_none rfl) rfl rfl (fun _ => rfl) c_mem (fun _ => c_lds)) rfl rfl ?_)
      | (refine gl_any0 ?_; (refine gl_ev (ev_callOw rfl rfl ent181 rfl rfl rfl (fun W hW => ct_CloneC (dC l) p _ c W rfl (hsc.st hW) (by omega)) ?_) rfl rfl; intro p_ c_ sp_ hw_))
      | (refine gl_any0 ?_; refine gl_pure tab_ok rfl rfl rfl rfl rfl rfl ?_))
    | (refine gc_gate ?_; first
      | refine gc_seq ?_
      | refine gc_region ?_
      | refine gc_false rfl ?_
      | refine gc_ret ?_
      | refine gc_skip ?_)
    | (refine ge_gate ?_; first
      | ((with_reducible refine ge_gT ?_); first | with_reducible refine ge_then ?_ | with_reducible refine ge_then_exit ?_ | with_reducible refine ge_then_ret ?_)
      | ((with_reducible refine ge_gB ?_); first | refine ge_ret1 tab_ok rfl c_rvt ?_ | refine ge_end1 tab_ok rfl c_rvt ?_ | refine ge_ret2 tab_ok rfl c_rvt c_rvt ?_ | refine ge_ret_none rfl ?_ | refine ge_end_none rfl ?_))
  intro W hW
  exact ⟨p_, c_, sp_, rfl, hw_, hW.drop (List.sublist_append_left _ _)⟩
theorem ct_ReadsP (l : List En) (g : Nat) (x : Cell) (w : World) (h : DpP w l g) (hl : l.length ≤ 1000) : Calls Try.prog 113 #[.pointer (some (ad g)), .agg x.l.toArray] w (RetOw w (rdD l x).length 3 (cat Cell.l (rdD l x)) 25) := by
  obtain ⟨⟨p, c, gr, gf, mr, mf, er, ef, kr, kf, hg, hsc, ⟨hgr, hmr, hrr⟩, ⟨hgf, hmf, hrf⟩⟩⟩ := h
  have hdl := rdD_len l x
  obtain ⟨q, d, hv, hsr⟩ := hrr x
  have hne : gr ≠ g := fun e => by rw [e, hg] at hgr; cases hgr
  refine enter (args := [_, _]) (M := []) (K := []) Try.func113 rfl Try.ntmps113 rfl (St.refl _ _) ?_
  refine gc_old hg (by simp) (by simp) ?_
  refine gc_old hgr (by simp) (by simp [hne]) ?_
  repeat' first
    | (refine gl_gate ?_; first
      | refine gl_nil ?_
      | (refine gl_box0 ?_; first | (refine gl_box_agg rfl rfl rfl rfl rfl ?_; intro g_ hg_) | (refine gl_box_one rfl rfl rfl rfl rfl rfl ?_; intro g_ hg_) | (refine gl_box rfl rfl rfl rfl rfl ?_; intro g_ hg_))
      | (refine gl_any0 ?_; refine gl_pure tab_ok rfl rfl rfl rfl rfl rfl ?_))
    | (refine gc_gate ?_; first
      | refine gc_seq ?_
      | refine gc_region ?_
      | refine gc_false rfl ?_
      | refine gc_skip ?_)
    | (refine ge_gate ?_; first
      | ((with_reducible refine ge_gT ?_); first | with_reducible refine ge_then ?_ | with_reducible refine ge_then_exit ?_ | with_reducible refine ge_then_ret ?_))
  refine gp_start [] #[false, false, false, false, false, false, false, false] mixed rfl rfl c_qp ?_; intro hqp_
  refine gp_take 0 #[true, false, false, false, false, false, false, false] hqp_ rfl (by kernel_rfl) (yv_pure tab_ok c_gok rfl rfl c_allT) c_cl rfl rfl ?_
  refine gp_take 1 #[true, true, false, false, false, false, false, false] hqp_ rfl (by kernel_rfl) (yv_pure tab_ok c_gok rfl rfl c_allT) c_cl rfl rfl ?_
  refine gp_take 2 #[true, true, true, false, false, false, false, false] hqp_ rfl (by kernel_rfl) (yv_pure tab_ok c_gok rfl rfl c_allT) c_cl rfl rfl ?_
  refine gp_take 3 #[true, true, true, true, false, false, false, false] hqp_ rfl (by kernel_rfl) (yv_load tab_ok c_gok rfl rfl c_imp c_mem (fun _ => c_lds)) c_cl rfl rfl ?_
  refine gp_take 4 #[true, true, true, true, true, false, false, false] hqp_ rfl (by kernel_rfl) (yv_load tab_ok c_gok rfl rfl c_imp c_mem (fun _ => c_lds)) c_cl rfl rfl ?_
  refine gp_take 5 #[true, true, true, true, true, true, false, false] hqp_ rfl (by kernel_rfl) (((yv_lookup (c := false) (k := x) (z0 := nilS) key_cell tab_ok zero_cells c_gok rfl rfl rfl rfl c_imp c_imp hmr c_mem).cast (v' := .slice q (rdD l x).length d) (by rw [← hv]; rfl))) c_cl rfl rfl ?_
  (refine gp_ev 6 #[true, true, true, true, true, true, true, false] rfl (by kernel_rfl) rfl rfl rfl (ev_callOw rfl rfl ent181 rfl rfl rfl (fun W hW => ct_CloneC (rdD l x) q _ d W rfl (hsr.st hW) (by omega)) ?_); intro p_ c_ sp_ hw_; refine ⟨c_cl, ?_⟩)
  refine gp_take 7 #[true, true, true, true, true, true, true, true] hqp_ rfl (by kernel_rfl) (yv_pure tab_ok c_gok rfl rfl c_allT) c_cl rfl rfl ?_
  refine gp_done (by kernel_rfl) ?_; clear hqp_
  repeat' first
    | (refine gc_gate ?_; first
      | refine gc_ret ?_)
    | (refine ge_gate ?_; first
      | ((with_reducible refine ge_gT ?_); first | with_reducible refine ge_then ?_ | with_reducible refine ge_then_exit ?_ | with_reducible refine ge_then_ret ?_)
      | ((with_reducible refine ge_gB ?_); first | refine ge_ret1 tab_ok rfl c_rvt ?_ | refine ge_end1 tab_ok rfl c_rvt ?_ | refine ge_ret2 tab_ok rfl c_rvt c_rvt ?_ | refine ge_ret_none rfl ?_ | refine ge_end_none rfl ?_))
  intro W hW
  exact ⟨p_, c_, sp_, rfl, hw_, hW.drop (List.sublist_append_left _ _)⟩
theorem ct_ReadersP (l : List En) (g : Nat) (x : Cell) (w : World) (h : DpP w l g) (hl : l.length ≤ 1000) : Calls Try.prog 115 #[.pointer (some (ad g)), .agg x.l.toArray] w (RetOw w (rrD l x).length 3 (cat Cell.l (rrD l x)) 25) := by
  obtain ⟨⟨p, c, gr, gf, mr, mf, er, ef, kr, kf, hg, hsc, ⟨hgr, hmr, hrr⟩, ⟨hgf, hmf, hrf⟩⟩⟩ := h
  have hdl := rrD_len l x
  obtain ⟨q, d, hv, hsr⟩ := hrf x
  have hne : gf ≠ g := fun e => by rw [e, hg] at hgf; cases hgf
  refine enter (args := [_, _]) (M := []) (K := []) Try.func115 rfl Try.ntmps115 rfl (St.refl _ _) ?_
  refine gc_old hg (by simp) (by simp) ?_
  refine gc_old hgf (by simp) (by simp [hne]) ?_
  repeat' first
    | (refine gl_gate ?_; first
      | refine gl_nil ?_
      | (refine gl_box0 ?_; first | (refine gl_box_agg rfl rfl rfl rfl rfl ?_; intro g_ hg_) | (refine gl_box_one rfl rfl rfl rfl rfl rfl ?_; intro g_ hg_) | (refine gl_box rfl rfl rfl rfl rfl ?_; intro g_ hg_))
      | (refine gl_any0 ?_; refine gl_pure tab_ok rfl rfl rfl rfl rfl rfl ?_))
    | (refine gc_gate ?_; first
      | refine gc_seq ?_
      | refine gc_region ?_
      | refine gc_false rfl ?_
      | refine gc_skip ?_)
    | (refine ge_gate ?_; first
      | ((with_reducible refine ge_gT ?_); first | with_reducible refine ge_then ?_ | with_reducible refine ge_then_exit ?_ | with_reducible refine ge_then_ret ?_))
  refine gp_start [] #[false, false, false, false, false, false, false, false] mixed rfl rfl c_qp ?_; intro hqp_
  refine gp_take 0 #[true, false, false, false, false, false, false, false] hqp_ rfl (by kernel_rfl) (yv_pure tab_ok c_gok rfl rfl c_allT) c_cl rfl rfl ?_
  refine gp_take 1 #[true, true, false, false, false, false, false, false] hqp_ rfl (by kernel_rfl) (yv_pure tab_ok c_gok rfl rfl c_allT) c_cl rfl rfl ?_
  refine gp_take 2 #[true, true, true, false, false, false, false, false] hqp_ rfl (by kernel_rfl) (yv_pure tab_ok c_gok rfl rfl c_allT) c_cl rfl rfl ?_
  refine gp_take 3 #[true, true, true, true, false, false, false, false] hqp_ rfl (by kernel_rfl) (yv_load tab_ok c_gok rfl rfl c_imp c_mem (fun _ => c_lds)) c_cl rfl rfl ?_
  refine gp_take 4 #[true, true, true, true, true, false, false, false] hqp_ rfl (by kernel_rfl) (yv_load tab_ok c_gok rfl rfl c_imp c_mem (fun _ => c_lds)) c_cl rfl rfl ?_
  refine gp_take 5 #[true, true, true, true, true, true, false, false] hqp_ rfl (by kernel_rfl) (((yv_lookup (c := false) (k := x) (z0 := nilS) key_cell tab_ok zero_cells c_gok rfl rfl rfl rfl c_imp c_imp hmf c_mem).cast (v' := .slice q (rrD l x).length d) (by rw [← hv]; rfl))) c_cl rfl rfl ?_
  (refine gp_ev 6 #[true, true, true, true, true, true, true, false] rfl (by kernel_rfl) rfl rfl rfl (ev_callOw rfl rfl ent181 rfl rfl rfl (fun W hW => ct_CloneC (rrD l x) q _ d W rfl (hsr.st hW) (by omega)) ?_); intro p_ c_ sp_ hw_; refine ⟨c_cl, ?_⟩)
  refine gp_take 7 #[true, true, true, true, true, true, true, true] hqp_ rfl (by kernel_rfl) (yv_pure tab_ok c_gok rfl rfl c_allT) c_cl rfl rfl ?_
  refine gp_done (by kernel_rfl) ?_; clear hqp_
  repeat' first
    | (refine gc_gate ?_; first
      | refine gc_ret ?_)
    | (refine ge_gate ?_; first
      | ((with_reducible refine ge_gT ?_); first | with_reducible refine ge_then ?_ | with_reducible refine ge_then_exit ?_ | with_reducible refine ge_then_ret ?_)
      | ((with_reducible refine ge_gB ?_); first | refine ge_ret1 tab_ok rfl c_rvt ?_ | refine ge_end1 tab_ok rfl c_rvt ?_ | refine ge_ret2 tab_ok rfl c_rvt c_rvt ?_ | refine ge_ret_none rfl ?_ | refine ge_end_none rfl ?_))
  intro W hW
  exact ⟨p_, c_, sp_, rfl, hw_, hW.drop (List.sublist_append_left _ _)⟩
end Go.Proofs.Ytkgjfcjciigcgaa
