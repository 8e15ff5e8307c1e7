/-
  The program's session: Watch, Publish, Away, Len.
-/
import Derived.Test.YtkgjfcjciigcgaaGoSesB
namespace Go.Proofs.Ytkgjfcjciigcgaa
open Go.Proofs.Ytkgjfcjciigcgaa.Sl Go.RowKit
set_option linter.unusedVariables false
set_option linter.unusedSimpArgs false
set_option linter.unusedSectionVars false
set_option maxRecDepth 100000

/-- A session in w; X: all that may be written. -/
structure Ses (k : Bool) (s : SX) (g : Nat) (q : Option Nat) (c : Nat) (sp : List Value) (X : List Nat) (w : World) : Prop where
  li : SLi k s g q c sp w
  mX : ∀ b ∈ blks g q, b ∈ X
  lX : ∀ b ∈ X, b < w.heap.size
  saw : Im w X s.saw.p s.saw.xs
  im : ∀ r ∈ s.l, Im w X r.p r.rep.cells
  le : s.l.length ≤ 8
/-- It answers what V says, and the session is t then. -/
def RetX (k : Bool) (w : World) (g : Nat) (q : Option Nat) (X : List Nat) (V : Value → World → List Nat → Prop) (t : SG) : Ending → World → Prop := fun e w' => ∃ (v : Value) (s' : SX) (q' : Option Nat) (c' : Nat) (sp' : List Value), e = .returned v ∧ V v w' (q'.toList ++ X) ∧ s'.sg = t ∧ St w (blks g q) (s'.K k g q' c' sp' []) w' ∧ Ses k s' g q' c' sp' (q'.toList ++ X) w'
theorem SX.q_mem {s : SX} {k : Bool} {g : Nat} {q : Option Nat} {c : Nat} {sp : List Value} {b : Nat} (h : b ∈ q.toList) : (b, true, Obj.cells (cat RP.l s.l ++ sp).toArray 65 (0, 0)) ∈ s.K k g q c sp [] := by
  cases q with
  | none => cases h
  | some g' =>
    simp at h
    subst h
    simp [SX.K, ow]
theorem qX {k : Bool} {w W : World} {K : Kl} {s' : SX} {g : Nat} {q q' : Option Nat} {c' : Nat} {sp' : List Value} {X : List Nat} (hW : St w (blks g q) K W) (hs : Sel (s'.K k g q' c' sp' []) K) (hm : ∀ b ∈ blks g q, b ∈ X) : ∀ b ∈ q'.toList ++ X, b ∈ X ∨ w.heap.size ≤ b := fun b hb => by
  rcases List.mem_append.1 hb with hb | hb
  · rcases (hs.st hW).wr _ (SX.q_mem hb) rfl with h | h
    · exact Or.inr h
    · exact Or.inl (hm _ h)
  · exact Or.inl hb
theorem RetX.of {k : Bool} {w W : World} {K : Kl} {g : Nat} {q : Option Nat} {X : List Nat} {V : Value → World → List Nat → Prop} {t : SG} {v : Value} (s' : SX) (q' : Option Nat) (c' : Nat) (sp' : List Value) (hW : St w (blks g q) K W) (hs : Sel (s'.K k g q' c' sp' []) K) (ho : Ow q' s'.l.length c' 4 (cat RP.l s'.l) sp') (hsg : s'.sg = t) (hle : s'.l.length ≤ 8) (hm : ∀ b ∈ blks g q, b ∈ X) (hX : ∀ b ∈ X, b < w.heap.size)
    (hsaw : (∀ b ∈ q'.toList ++ X, b ∈ X ∨ w.heap.size ≤ b) → Im W (q'.toList ++ X) s'.saw.p s'.saw.xs) (him : (∀ b ∈ q'.toList ++ X, b ∈ X ∨ w.heap.size ≤ b) → ∀ r ∈ s'.l, Im W (q'.toList ++ X) r.p r.rep.cells) (hV : (∀ b ∈ q'.toList ++ X, b ∈ X ∨ w.heap.size ≤ b) → V v W (q'.toList ++ X)) : RetX k w g q X V t (.returned v) W := by
  have hq := qX hW hs hm
  have h := hs.st hW
  refine ⟨v, s', q', c', sp', rfl, hV hq, hsg, h, ⟨fun e he => h.known e he, h.apart, ho⟩, fun b hb => ?_, fun b hb => ?_, hsaw hq, him hq, hle⟩
  · unfold blks at hb
    rcases List.mem_cons.1 hb with rfl | hb
    · exact List.mem_append_right _ (hm _ (List.mem_cons_self ..))
    · exact List.mem_append_left _ hb
  · rcases List.mem_append.1 hb with hb | hb
    · exact h.lt (SX.q_mem hb)
    · exact Nat.lt_of_lt_of_le (hX _ hb) h.size
theorem kw_nil : ∀ e ∈ ([] : Kl), e.2.1 = true := fun e he => by cases he
theorem kw_app {A B : Kl} (h1 : ∀ e ∈ A, e.2.1 = true) (h2 : ∀ e ∈ B, e.2.1 = true) : ∀ e ∈ A ++ B, e.2.1 = true := fun e he => (List.mem_append.1 he).elim (h1 e) (h2 e)
theorem SX.K_wr2 {s : SX} {k : Bool} {g : Nat} {q : Option Nat} {c : Nat} {sp : List Value} {K2 : Kl} (h : ∀ e ∈ K2, e.2.1 = true) : ∀ e ∈ s.K k g q c sp K2, e.2.1 = true := by
  rw [← SX.K_app]
  exact kw_app (SX.K_wr s k g q c sp) h
theorem SX.K_app2 {s : SX} {k : Bool} {g : Nat} {q : Option Nat} {c : Nat} {sp : List Value} {K2 Kx : Kl} : s.K k g q c sp K2 ++ Kx = s.K k g q c sp (K2 ++ Kx) := by
  rw [← SX.K_app s k g q c sp K2, List.append_assoc, SX.K_app]
section
variable {N : Nat} {w0 W : World} {M : List Nat} {F : Fl} {K Kx : Kl} {o : Oper}
theorem ev_snapP {R : Value → Kl → Prop} {args : Array Operand} {ts : Array TypeId} {ps : List Bool} {s : SX} {g : Nat} {q : Option Nat} {c : Nat} {sp : List Value} {v : Int} {cs : List Shown} {p : Option Addr} {cap : Nat} (hg : o.guard = none) (ho : o.op = .call ⟨.value (.func 146), args, ts⟩) (hv : vals F args.toList = some [.pointer (some ⟨g, 0, none⟩), .int .i64 v, .slice p cs.length cap]) (hc : cdl F args.toList = some ps) (hp : ps.all id = true)
    (hk : Sa true s g q c sp K Kx) (hw : Ow q s.l.length c 4 (cat RP.l s.l) sp) (him : ∀ W, St w0 M K W → Im W (blks g q) p cs)
    (hR : ∀ p1 c1 sp1 p2 c2 sp2, Ow p1 (seeL s.a s.b cs).length c1 6 (cat Shown.l (seeL s.a s.b cs)) sp1 → Nw w0 p1 → Ow p2 (seeL s.a s.b cs).length c2 6 (cat Shown.l (seeL s.a s.b cs)) sp2 → Nw w0 p2 → R (.agg #[.int .i64 2, .int .i64 v, .int .i64 0, .slice (Option.map ad p2) (seeL s.a s.b cs).length c2]) (({ s with saw := ⟨p1.map ad, c1, seeL s.a s.b cs⟩ } : SX).K true g q c sp (ow p1 true (cat Shown.l (seeL s.a s.b cs) ++ sp1) 120 ++ (ow p2 true (cat Shown.l (seeL s.a s.b cs) ++ sp2) 120 ++ Kx)))) : Ev Try.prog o N w0 M F K R :=
  ev_ses hg ho ent146 hv hc hp hk hw (fun W hW hi => ct_snapP s g c q sp v cs p cap W hi (him W hW)) (fun y => SX.K_wr2 (kw_app ow_wr (kw_app ow_wr kw_nil))) fun W y hW hy => by
    have := hR y.p1 y.c1 y.sp1 y.p2 y.c2 y.sp2 hy.1.1 (hy.1.2.of hW) hy.2.1 (hy.2.2.of hW)
    rw [SX.K_app2, List.append_assoc, List.append_assoc, List.nil_append]
    exact this
theorem ev_tellP {R : Value → Kl → Prop} {args : Array Operand} {ts : Array TypeId} {ps : List Bool} {s : SX} {g : Nat} {q : Option Nat} {c : Nat} {sp : List Value} {x : RP} (hg : o.guard = none) (ho : o.op = .call ⟨.value (.func 58), args, ts⟩) (hv : vals F args.toList = some [.pointer (some ⟨g, 0, none⟩), .agg x.l.toArray]) (hc : cdl F args.toList = some ps) (hp : ps.all id = true)
    (hk : Sa true s g q c sp K Kx) (hw : Ow q s.l.length c 4 (cat RP.l s.l) sp) (hl : s.l.length ≤ 8) (him : ∀ W, St w0 M K W → Im W (blks g q) x.p x.rep.cells)
    (hR : ∀ (s' : SX) q' c' sp' p2 c2 sp2, s' = s.tl ⟨x.rep, p2.map ad, c2⟩ → Ow q' s'.l.length c' 4 (cat RP.l s'.l) sp' → (s.l.length < 8 → Ow p2 x.rep.cells.length c2 6 (cat Shown.l x.rep.cells) sp2) → Nw w0 p2 → R (.tuple #[]) (s'.K true g q' c' sp' (ow p2 true (cat Shown.l x.rep.cells ++ sp2) 120 ++ Kx))) : Ev Try.prog o N w0 M F K R :=
  ev_ses hg ho ent58 hv hc hp hk hw (fun W hW hi => ct_TellP s g c q sp x W hi (him W hW) hl) (fun y => SX.K_wr2 (kw_app ow_wr kw_nil)) fun W y hW hy => by
    have := hR y.s y.q y.c y.sp y.p2 y.c2 y.sp2 hy.1 hy.2.1 hy.2.2.1 (hy.2.2.2.of hW)
    rw [SX.K_app2, List.append_assoc, List.nil_append]
    exact this
end
theorem ct_LenP (s : SX) (g c : Nat) (q : Option Nat) (sp : List Value) (w : World) (h : SLi true s g q c sp w) : Calls Try.prog 59 #[.pointer (some ⟨g, 0, none⟩)] w fun e w' => e = .returned (.int .i64 s.l.length) ∧ Bl w w' := by
  refine enter (args := [_]) (M := []) (K := []) Try.func59 rfl Try.ntmps59 rfl (St.refl _ _) ?_
  refine gc_old (h.kn (g, true, Obj.cells (s.cP q c).toArray 59 (0, 0)) (by simp [SX.K, SX.cs])) (by simp) (by simp) ?_
  unfold SX.cP
  repeat' first
    | (refine gl_gate ?_; first
      | refine gl_nil ?_
      | (refine gl_load0 ?_; refine gl_yv (yv_load tab_ok (gok_none rfl) rfl rfl (fun _ => rfl) c_mem (fun _ => c_lds)) rfl rfl ?_)
      | (refine gl_any0 ?_; refine gl_pure tab_ok rfl rfl rfl rfl rfl rfl ?_))
    | (refine gc_gate ?_; first
      | refine gc_seq ?_
      | refine gc_region ?_
      | refine gc_false rfl ?_
      | refine gc_ret ?_
      | refine gc_skip ?_)
    | (refine ge_gate ?_; first
      | ((with_reducible refine ge_gT ?_); first | with_reducible refine ge_then ?_ | with_reducible refine ge_then_exit ?_ | with_reducible refine ge_then_ret ?_)
      | ((with_reducible refine ge_gB ?_); first | refine ge_ret1 tab_ok rfl c_rvt ?_ | refine ge_end1 tab_ok rfl c_rvt ?_ | refine ge_ret2 tab_ok rfl c_rvt c_rvt ?_ | refine ge_ret_none rfl ?_ | refine ge_end_none rfl ?_))
  intro W hW
  exact ⟨rfl, hW.below0⟩
theorem ct_AwayP (s : SX) (g c : Nat) (q : Option Nat) (sp : List Value) (X : List Nat) (w : World) (h : Ses true s g q c sp X w) : Calls Try.prog 123 #[.pointer (some ⟨g, 0, none⟩)] w (RetX true w g q X (fun v _ _ => v = .tuple #[]) { s.sg with wt := false }) := by
  have ho := h.li.ow
  refine enter (args := [_]) (M := []) (K := []) Try.func123 rfl Try.ntmps123 rfl (St.refl _ _) ?_
  refine gc_own (s.K true g q c sp []) h.li.kn h.li.ap ?_
  rw [SX.K_map]
  unfold SX.K SX.cs SX.cP
  simp only [cond_true]
  repeat' first
    | (refine gl_gate ?_; first
      | refine gl_nil ?_
      | (refine gl_sto0 ?_; refine gl_store tab_ok rfl rfl rfl rfl rfl rfl rfl c_one rfl c_ku ?_)
      | (refine gl_any0 ?_; refine gl_pure tab_ok rfl rfl rfl rfl rfl rfl ?_))
    | (refine gc_gate ?_; first
      | refine gc_seq ?_
      | refine gc_region ?_
      | refine gc_true rfl ?_)
    | (refine ge_gate ?_; first
      | ((with_reducible refine ge_gT ?_); first | with_reducible refine ge_then ?_ | with_reducible refine ge_then_exit ?_ | with_reducible refine ge_then_ret ?_)
      | ((with_reducible refine ge_gB ?_); first | refine ge_ret1 tab_ok rfl c_rvt ?_ | refine ge_end1 tab_ok rfl c_rvt ?_ | refine ge_ret2 tab_ok rfl c_rvt c_rvt ?_ | refine ge_ret_none rfl ?_ | refine ge_end_none rfl ?_))
  intro W hW
  exact RetX.of { s with wt := false } q c sp hW c_sel ho rfl h.le h.mX h.lX (fun hX => h.saw.keep hW h.mX hX) (fun hX r hr => (h.im r hr).keep hW h.mX hX) (fun _ => rfl)
theorem ct_WatchP (s : SX) (g c : Nat) (q : Option Nat) (sp : List Value) (X : List Nat) (a b : Cell) (v : Int) (cs : List Shown) (p : Option Addr) (cap : Nat) (w : World) (h : Ses true s g q c sp X w) (hcs : Im w X p cs) :
    Calls Try.prog 57 #[.pointer (some ⟨g, 0, none⟩), .agg (a.l ++ b.l).toArray, .int .i64 v, .slice p cs.length cap] w (RetX true w g q X (fun x _ _ => x = .int .i64 (if small400 a b then 0 else 1)) (if small400 a b then s.sg.watch a b v cs else s.sg)) := by
  have ho := h.li.ow
  have hle := h.le
  have hcl := hcs.le
  have hsl := seeL_len a b cs
  have hsm := fun W => ct_addrSmall a b W
  cases hs : small400 a b with
  | false =>
    rw [hs] at hsm
    simp only [Bool.false_eq_true, if_false]
    refine enter (args := [_, _, _, _]) (M := []) (K := []) Try.func57 rfl Try.ntmps57 rfl (St.refl _ _) ?_
    refine gc_own (s.K true g q c sp []) h.li.kn h.li.ap ?_
    rw [SX.K_map]
    unfold SX.K SX.cs SX.cP
    simp only [cond_true]
    repeat' first
      | (refine gl_gate ?_; first
        | refine gl_nil ?_
        | (refine gl_calvG ?_; first | refine gl_yd (yd_call c_gok rfl ent145 rfl rfl c_allT (fun _ W hW => hsm W)) rfl rfl ?_)
        | (refine gl_pick0 ?_; first | refine gl_yv (yv_and (gok_none rfl) rfl rfl rfl (fun _ => rfl) c_imp2) rfl rfl ?_ | refine gl_yv (yv_or (gok_none rfl) rfl rfl rfl (fun _ => rfl) c_imp2) rfl rfl ?_)
        | (refine gl_loadG ?_; refine gl_yv (yv_load tab_ok c_gok rfl rfl c_imp c_mem (fun _ => c_lds)) rfl rfl ?_)
        | (refine gl_box0 ?_; first | (refine gl_box_agg rfl rfl rfl rfl rfl ?_; intro g_ hg_) | (refine gl_box_one rfl rfl rfl rfl rfl rfl ?_; intro g_ hg_) | (refine gl_box rfl rfl rfl rfl rfl ?_; intro g_ hg_))
        | (refine gl_any0 ?_; refine gl_pure tab_ok rfl rfl rfl rfl rfl rfl ?_)
        | (refine gl_anyG ?_; first | refine gl_yv (yv_pure tab_ok c_gok rfl rfl c_allT) rfl rfl ?_ | refine gl_yv (yv_indexS tab_ok c_gok rfl rfl rfl rfl c_imp c_imp (by intro hq_; (try simp only [Bool.and_eq_true, Bool.not_eq_true', Bool.not_eq_false', Bool.or_eq_false_iff, Bool.or_eq_true, decide_eq_true_eq, decide_eq_false_iff_not, Bool.true_and, Bool.and_true] at hq_); omega)) rfl rfl ?_ | refine gl_yv (yv_indexS (i := 0) tab_ok c_gok rfl rfl rfl rfl c_imp c_imp (by intro hq_; (try simp only [Bool.and_eq_true, Bool.not_eq_true', Bool.not_eq_false', Bool.or_eq_false_iff, Bool.or_eq_true, decide_eq_true_eq, decide_eq_false_iff_not, Bool.true_and, Bool.and_true] at hq_); omega)) rfl rfl ?_))
      | (refine gc_gate ?_; first
        | refine gc_seq ?_
        | refine gc_region ?_
        | refine gc_true rfl ?_
        | refine gc_ret ?_)
      | (refine ge_gate ?_; first
        | ((with_reducible refine ge_gT ?_); first | with_reducible refine ge_then ?_ | with_reducible refine ge_then_exit ?_ | with_reducible refine ge_then_ret ?_)
        | ((with_reducible refine ge_gB ?_); first | refine ge_ret1 tab_ok rfl c_rvt ?_ | refine ge_end1 tab_ok rfl c_rvt ?_ | refine ge_ret2 tab_ok rfl c_rvt c_rvt ?_ | refine ge_ret_none rfl ?_ | refine ge_end_none rfl ?_))
    intro W hW
    exact RetX.of s q c sp hW c_sel ho rfl h.le h.mX h.lX (fun hX => h.saw.keep hW h.mX hX) (fun hX r hr => (h.im r hr).keep hW h.mX hX) (fun _ => rfl)
  | true =>
    rw [hs] at hsm
    simp only [if_true]
    refine enter (args := [_, _, _, _]) (M := []) (K := []) Try.func57 rfl Try.ntmps57 rfl (St.refl _ _) ?_
    refine gc_own (s.K true g q c sp []) h.li.kn h.li.ap ?_
    rw [SX.K_map]
    unfold SX.K SX.cs SX.cP
    simp only [cond_true]
    repeat' first
      | (refine gl_gate ?_; first
        | refine gl_nil ?_
        | (refine gl_calvG ?_; first | refine gl_yd (yd_call c_gok rfl ent145 rfl rfl c_allT (fun _ W hW => hsm W)) rfl rfl ?_)
        | (refine gl_pick0 ?_; first | refine gl_yv (yv_and (gok_none rfl) rfl rfl rfl (fun _ => rfl) c_imp2) rfl rfl ?_ | refine gl_yv (yv_or (gok_none rfl) rfl rfl rfl (fun _ => rfl) c_imp2) rfl rfl ?_)
        | (refine gl_loadG ?_; refine gl_yv (yv_load tab_ok c_gok rfl rfl c_imp c_mem (fun _ => c_lds)) rfl rfl ?_)
        | (refine gl_box0 ?_; first | (refine gl_box_agg rfl rfl rfl rfl rfl ?_; intro g_ hg_) | (refine gl_box_one rfl rfl rfl rfl rfl rfl ?_; intro g_ hg_) | (refine gl_box rfl rfl rfl rfl rfl ?_; intro g_ hg_))
        | (refine gl_any0 ?_; refine gl_pure tab_ok rfl rfl rfl rfl rfl rfl ?_)
        | (refine gl_anyG ?_; first | refine gl_yv (yv_pure tab_ok c_gok rfl rfl c_allT) rfl rfl ?_ | refine gl_yv (yv_indexS tab_ok c_gok rfl rfl rfl rfl c_imp c_imp (by intro hq_; (try simp only [Bool.and_eq_true, Bool.not_eq_true', Bool.not_eq_false', Bool.or_eq_false_iff, Bool.or_eq_true, decide_eq_true_eq, decide_eq_false_iff_not, Bool.true_and, Bool.and_true] at hq_); omega)) rfl rfl ?_ | refine gl_yv (yv_indexS (i := 0) tab_ok c_gok rfl rfl rfl rfl c_imp c_imp (by intro hq_; (try simp only [Bool.and_eq_true, Bool.not_eq_true', Bool.not_eq_false', Bool.or_eq_false_iff, Bool.or_eq_true, decide_eq_true_eq, decide_eq_false_iff_not, Bool.true_and, Bool.and_true] at hq_); omega)) rfl rfl ?_))
      | (refine gc_gate ?_; first
        | refine gc_seq ?_
        | refine gc_region ?_
        | refine gc_false rfl ?_
        | refine gc_skip ?_)
      | (refine ge_gate ?_; first
        | ((with_reducible refine ge_gT ?_); first | with_reducible refine ge_then ?_ | with_reducible refine ge_then_exit ?_ | with_reducible refine ge_then_ret ?_))
    refine gp_startC (St w (blks g q) [(g_, true, .cells (a.l ++ b.l).toArray 55 (0, 0))]) c_cl [8] #[false, false, false, false, false, false, false, false, false] mixed rfl rfl c_qp ?_; intro hqp_
    refine gp_take 0 #[true, false, false, false, false, false, false, false, false] hqp_ rfl (by kernel_rfl) (yv_pure tab_ok c_gok rfl rfl c_allT) c_cl rfl rfl ?_
    refine gp_take 1 #[true, true, false, false, false, false, false, false, false] hqp_ rfl (by kernel_rfl) (yv_pure tab_ok c_gok rfl rfl c_allT) c_cl rfl rfl ?_
    refine gp_take 2 #[true, true, true, false, false, false, false, false, false] hqp_ rfl (by kernel_rfl) (yv_load tab_ok c_gok rfl rfl c_imp c_mem (fun _ => c_lds)) c_cl rfl rfl ?_
    refine gp_take 3 #[true, true, true, true, false, false, false, false, false] hqp_ rfl (by kernel_rfl) (yv_pure tab_ok c_gok rfl rfl c_allT) c_cl rfl rfl ?_
    refine gp_take 4 #[true, true, true, true, true, false, false, false, false] hqp_ rfl (by kernel_rfl) (yv_pure tab_ok c_gok rfl rfl c_allT) c_cl rfl rfl ?_
    refine gp_ev0 5 #[true, true, true, true, true, true, false, false, false] rfl (by kernel_rfl) rfl rfl (ev_store tab_ok rfl rfl rfl rfl rfl rfl c_one rfl c_ku ⟨c_cl, ?_⟩)
    refine gp_take 6 #[true, true, true, true, true, true, true, false, false] hqp_ rfl (by kernel_rfl) (yv_pure tab_ok c_gok rfl rfl c_allT) c_cl rfl rfl ?_
    refine gp_take 7 #[true, true, true, true, true, true, true, true, false] hqp_ rfl (by kernel_rfl) (yv_pure tab_ok c_gok rfl rfl c_allT) c_cl rfl rfl ?_
    refine gp_last0 8 #[true, true, true, true, true, true, true, true, true] rfl (by kernel_rfl) (by simp) rfl (ev_store tab_ok rfl rfl rfl rfl rfl rfl c_one rfl c_ku ?_)
    refine gp_done (by kernel_rfl) ?_; clear hqp_
    repeat' first
      | (refine gl_gate ?_; first
        | refine gl_nil ?_
        | (refine gl_any0 ?_; (refine gl_ev (ev_snapP (s := { s with wt := true, a := a, b := b }) (g := g) (q := q) (c := c) (sp := sp) (v := v) (cs := cs) (p := p) (cap := cap) rfl rfl rfl rfl rfl c_sa ho (fun W hW => hcs.keep hW h.mX (fun b hb => Or.inl (h.mX b hb))) ?_) rfl rfl; intro p1_ c1_ sp1_ p2_ c2_ sp2_ hw1_ hn1_ hw2_ hn2_))
        | (refine gl_any0 ?_; (refine gl_ev (ev_tellP (s := { s with wt := true, a := a, b := b, saw := ⟨p1_.map ad, c1_, seeL a b cs⟩ }) (g := g) (q := q) (c := c) (sp := sp) (x := ⟨⟨2, v, 0, seeL a b cs⟩, p2_.map ad, c2_⟩) rfl rfl rfl rfl rfl c_sa ho hle (fun W hW => Im.own hW c_sel hw2_ (by dsimp only; omega)) ?_) rfl rfl; intro s3_ q3_ c3_ sp3_ p3_ c4_ sp4_ hs3_ ho3_ hw3_ hn3_))
        | (refine gl_any0 ?_; refine gl_pure tab_ok rfl rfl rfl rfl rfl rfl ?_))
      | (refine gc_gate ?_; first
        | refine gc_seq ?_
        | refine gc_region ?_
        | refine gc_ret ?_)
      | (refine ge_gate ?_; first
        | ((with_reducible refine ge_gT ?_); first | with_reducible refine ge_then ?_ | with_reducible refine ge_then_exit ?_ | with_reducible refine ge_then_ret ?_)
        | ((with_reducible refine ge_gB ?_); first | refine ge_ret1 tab_ok rfl c_rvt ?_ | refine ge_end1 tab_ok rfl c_rvt ?_ | refine ge_ret2 tab_ok rfl c_rvt c_rvt ?_ | refine ge_ret_none rfl ?_ | refine ge_end_none rfl ?_))
    intro W hW
    subst hs3_
    dsimp only at hw3_ ho3_
    refine RetX.of _ q3_ c3_ sp3_ hW c_sel ho3_ (SX.tl_sg _ _) (SX.tl_le _ _ hle) h.mX h.lX (fun hX => ?_) (fun hX r hr => ?_) (fun _ => rfl)
    · rw [SX.tl_saw]
      exact Im.new (l := seeL a b cs) (q := q3_) (X := X) hW c_sel hw1_ hn1_ h.lX (by omega)
    · rcases SX.tl_mem hr with hr | ⟨rfl, h8⟩
      · exact (h.im r hr).keep hW h.mX hX
      · exact Im.new (l := seeL a b cs) (q := q3_) (X := X) hW c_sel (hw3_ h8) hn3_ h.lX (by omega)
end Go.Proofs.Ytkgjfcjciigcgaa
