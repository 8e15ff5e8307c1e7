/-
  The program's Front, whatever it holds; the law's first look.
-/
import Derived.Test.YtkgjfcjciigcgaaGoLeast
namespace Go.Proofs.Ytkgjfcjciigcgaa
open Go.Proofs.Ytkgjfcjciigcgaa.Sl Go.RowKit
set_option linter.unusedVariables false
set_option linter.unusedSimpArgs false
set_option linter.unusedSectionVars false
set_option maxRecDepth 100000

def FOk (mo : Option Nat) (m : FM) (es : Array MapEntry) (clock : Nat) : Prop := match mo with
  | none => m = []
  | some _ => Mp kStamp vI m es clock
theorem ObIn.bl {Ko : Kl} {w w' : World} (h : ObIn Ko w) (hb : Bl w w') : ObIn Ko w' :=
  ⟨fun e he => by
    have h1 := h.k e he
    rw [hb.block _ (by
      rcases Nat.lt_or_ge e.1 w.heap.size with h2 | h2
      · exact h2
      · rw [Array.getElem?_eq_none h2] at h1; cases h1)]
    exact h1, h.p⟩
theorem ObIn.st {Ko : Kl} {w : World} (h : ObIn Ko w) : St w (Ko.map (·.1)) Ko w :=
  ⟨rfl, rfl, rfl, Nat.le_refl _, fun _ _ _ => rfl, h.k, fun e he _ => .inr (List.mem_map.2 ⟨e, he, rfl⟩), h.p, Nat.le_refl _⟩
theorem ObIn.of {w0 W : World} {M : List Nat} {K Ko : Kl} (hW : St w0 M K W) (hs : Ko.Sublist K) : ObIn Ko W :=
  ⟨fun e he => hW.known e (hs.subset he), (hW.drop hs).apart⟩
theorem ct_AddF {w : World} {g : Nat} {mo : Option Nat} {m : FM} {es : Array MapEntry} {clock : Nat} (s : Stamp) (n : Int) (hI : ObIn (FrPK g mo es clock) w) (hf : FOk mo m es clock) (hn : In64 (mgetD m s 0 + n)) :
    Calls Try.prog 77 #[.pointer (some ⟨g, 0, none⟩), .agg s.l.toArray, .int .i64 n] w (RetFP w g mo es clock (fadd m s n)) := by
  have hg := hI.k (g, true, .cells [.map mo].toArray 91 (0, 0)) (List.mem_cons_self ..)
  rcases mo with _ | gm
  · have : m = [] := hf
    subst this
    exact ct_AddP0 s n es clock hg (by simpa [mgetD, fnd] using hn)
  · exact ct_AddP s n hg (hI.k (gm, true, .map es clock) (List.mem_cons_of_mem _ (List.mem_cons_self ..))) hf hn
theorem above_nil : aboveM [] = [] := by simp [aboveM, sortT]
theorem ct_aboveF {w : World} {g : Nat} {mo : Option Nat} {m : FM} {es : Array MapEntry} {clock : Nat} (hI : ObIn (FrPK g mo es clock) w) (hf : FOk mo m es clock) (hl : m.length ≤ 100000000) :
    Calls Try.prog 160 #[.pointer (some ⟨g, 0, none⟩)] w (RetOw w (aboveM m).length 3 (cat Stamp.l (aboveM m)) 38) := by
  have hg := hI.k (g, true, .cells [.map mo].toArray 91 (0, 0)) (List.mem_cons_self ..)
  rcases mo with _ | gm
  · have : m = [] := hf
    subst this
    rw [above_nil]
    exact ct_above0 hg
  · exact ct_above hg (hI.k (gm, true, .map es clock) (List.mem_cons_of_mem _ (List.mem_cons_self ..))) hf hl
theorem aboveM_len (m : FM) : (aboveM m).length ≤ m.length := by
  unfold aboveM
  rw [sortT_length, List.length_map]
  exact List.length_filter_le ..
theorem leastM_eq (m : FM) : leastL (aboveM m) = leastM m := rfl
theorem ct_LeastF {w : World} {g : Nat} {mo : Option Nat} {m : FM} {es : Array MapEntry} {clock : Nat} (hI : ObIn (FrPK g mo es clock) w) (hf : FOk mo m es clock) (hl : m.length ≤ 100000000) :
    Calls Try.prog 80 #[.pointer (some ⟨g, 0, none⟩)] w (RetOw w (leastM m).length 3 (cat Stamp.l (leastM m)) 38) :=
  ct_LeastP (A := aboveM m) (Nat.le_trans (aboveM_len m) hl) fun W hB => ct_aboveF (hI.bl hB) hf hl
theorem ct_PassedF {w : World} {g : Nat} {mo : Option Nat} {m : FM} {es : Array MapEntry} {clock : Nat} (s : Stamp) (hI : ObIn (FrPK g mo es clock) w) (hf : FOk mo m es clock) (hl : m.length ≤ 100000000) :
    Calls Try.prog 82 #[.pointer (some ⟨g, 0, none⟩), .agg s.l.toArray] w fun e w' => e = .returned (.bool (passedM m s)) ∧ Bl w w' :=
  ct_PassedP (A := aboveM m) s (Nat.le_trans (aboveM_len m) hl) fun W hB => ct_aboveF (hI.bl hB) hf hl
theorem ct_CountF {w : World} {g : Nat} {mo : Option Nat} {m : FM} {es : Array MapEntry} {clock : Nat} (s : Stamp) (hI : ObIn (FrPK g mo es clock) w) (hf : FOk mo m es clock) :
    Calls Try.prog 84 #[.pointer (some ⟨g, 0, none⟩), .agg s.l.toArray] w fun e w' => e = .returned (.int .i64 (mgetD m s 0)) ∧ Bl w w' := by
  have hg := hI.k (g, true, .cells [.map mo].toArray 91 (0, 0)) (List.mem_cons_self ..)
  rcases mo with _ | gm
  · have : m = [] := hf
    subst this
    exact ct_CountP0 s hg
  · exact ct_CountP s hg (hI.k (gm, true, .map es clock) (List.mem_cons_of_mem _ (List.mem_cons_self ..))) hf
theorem ct_WithinR (a b : Stamp) (w : World) : Calls Try.prog 87 #[.agg a.l.toArray, .agg b.l.toArray] w fun e w' => e = .returned (.bool (wi a b)) ∧ Bl w w' := by
  refine enter (args := [_, _]) (M := []) (K := []) Try.func87 rfl Try.ntmps87 rfl (St.refl _ _) ?_
  repeat' first
    | (refine gl_gate ?_; first
      | refine gl_nil ?_
      | (refine gl_load0 ?_; refine gl_yv (yv_load tab_ok (gok_none rfl) rfl rfl (fun _ => rfl) c_mem (fun _ => c_lds)) rfl rfl ?_)
      | (refine gl_pick0 ?_; first | refine gl_yv (yv_and (gok_none rfl) rfl rfl rfl (fun _ => rfl) c_imp2) rfl rfl ?_ | refine gl_yv (yv_or (gok_none rfl) rfl rfl rfl (fun _ => rfl) c_imp2) rfl rfl ?_)
      | (refine gl_loadG ?_; refine gl_yv (yv_load tab_ok c_gok rfl rfl c_imp c_mem (fun _ => c_lds)) rfl rfl ?_)
      | (refine gl_box0 ?_; first | (refine gl_box_agg rfl rfl rfl rfl rfl ?_; intro g_ hg_) | (refine gl_box_one rfl rfl rfl rfl rfl rfl ?_; intro g_ hg_) | (refine gl_box rfl rfl rfl rfl rfl ?_; intro g_ hg_))
      | (refine gl_any0 ?_; refine gl_pure tab_ok rfl rfl rfl rfl rfl rfl ?_)
      | (refine gl_anyG ?_; first | refine gl_yv (yv_pure tab_ok c_gok rfl rfl c_allT) rfl rfl ?_ | refine gl_yv (yv_indexS tab_ok c_gok rfl rfl rfl rfl c_imp c_imp (by intro hq_; (try simp only [Bool.and_eq_true, Bool.not_eq_true', Bool.not_eq_false', Bool.or_eq_false_iff, Bool.or_eq_true, decide_eq_true_eq, decide_eq_false_iff_not, Bool.true_and, Bool.and_true] at hq_); omega)) rfl rfl ?_ | refine gl_yv (yv_indexS (i := 0) tab_ok c_gok rfl rfl rfl rfl c_imp c_imp (by intro hq_; (try simp only [Bool.and_eq_true, Bool.not_eq_true', Bool.not_eq_false', Bool.or_eq_false_iff, Bool.or_eq_true, decide_eq_true_eq, decide_eq_false_iff_not, Bool.true_and, Bool.and_true] at hq_); omega)) rfl rfl ?_))
    | (refine gc_gate ?_; first
      | refine gc_seq ?_
      | refine gc_region ?_
      | refine gc_ret ?_)
    | (refine ge_gate ?_; first
      | ((with_reducible refine ge_gT ?_); first | with_reducible refine ge_then ?_ | with_reducible refine ge_then_exit ?_ | with_reducible refine ge_then_ret ?_)
      | ((with_reducible refine ge_gB ?_); first | refine ge_ret1 tab_ok rfl c_rvt ?_ | refine ge_end1 tab_ok rfl c_rvt ?_ | refine ge_ret2 tab_ok rfl c_rvt c_rvt ?_ | refine ge_ret_none rfl ?_ | refine ge_end_none rfl ?_))
  intro W hW
  exact ⟨rfl, hW.below0⟩
def st2 : Stamp := ⟨2, 0, 0⟩
def st3 : Stamp := ⟨3, 0, 0⟩
theorem above_one (s : Stamp) : aboveM [(s, 1)] = [s] := by simp [aboveM, sortT, posM]
theorem least_one (s : Stamp) : leastM [(s, 1)] = [s] := by
  unfold leastM
  rw [above_one]
  simp
theorem least_nil : leastM [] = [] := by
  unfold leastM
  rw [above_nil]
  rfl
theorem passed_23 : passedM [(st2, 1)] st3 = false := by
  unfold passedM
  rw [above_one]
  decide
section
variable {N : Nat} {w0 : World} {M : List Nat} {F : Fl} {K Kx : Kl} {o : Oper}
/-- Add, as one operation. -/
theorem ev_addF {R : Value → Kl → Prop} {args : Array Operand} {ts : Array TypeId} {ps : List Bool} {g : Nat} {mo : Option Nat} {m : FM} {es : Array MapEntry} {clock : Nat} {s : Stamp} {n : Int} (hg : o.guard = none) (ho : o.op = .call ⟨.value (.func 77), args, ts⟩) (hv : vals F args.toList = some [.pointer (some ⟨g, 0, none⟩), .agg s.l.toArray, .int .i64 n]) (hc : cdl F args.toList = some ps) (hp : ps.all id = true)
    (hk : K.Perm (FrPK g mo es clock ++ Kx)) (hf : FOk mo m es clock) (hn : In64 (mgetD m s 0 + n)) (hR : ∀ gm es' clock', Mp kStamp vI (fadd m s n) es' clock' → R (.tuple #[]) (FrPK g (some gm) es' clock' ++ Kx)) : Ev Try.prog o N w0 M F K R :=
  ev_obj (Ko := FrPK g mo es clock) (val := fun _ : FPS => .tuple #[]) (Kn := fun y => FrPK g (some y.1) y.2.1 y.2.2) (φ := fun y => Mp kStamp vI (fadd m s n) y.2.1 y.2.2) hg ho ent77 hv hc hp hk
    (fun e he => by
      rcases List.mem_cons.1 he with rfl | he
      · rfl
      · cases mo with
        | none => cases he
        | some gm => simp [kmapT] at he; subst he; rfl)
    (fun x e he => by
      rcases List.mem_cons.1 he with rfl | he
      · rfl
      · simp [kmapT] at he; subst he; rfl)
    (fun W _ hI => ct_AddF s n hI hf hn) (fun x hx => hR _ _ _ hx)
end
theorem ct_aliveF (w : World) : Calls Try.prog 76 #[] w fun e w' => e = .returned (.bool true) ∧ Bl w w' := by
  refine enter (args := []) (M := []) (K := []) Try.func76 rfl Try.ntmps76 rfl (St.refl _ _) ?_
  repeat' first
    | (refine gl_gate ?_; first
      | refine gl_nil ?_
      | (refine gl_any0 ?_; (refine gl_ev (ev_callOw rfl rfl ent80 rfl rfl rfl (fun W hW => ct_LeastF (g := g_) (mo := none) (m := []) (es := #[]) (clock := 0) (ObIn.of hW (List.Sublist.refl _)) rfl (by decide)) ?_) rfl rfl; intro q_ c_ sp_ hw_))
      | (refine gl_box0 ?_; first | (refine gl_box_agg rfl rfl rfl rfl rfl ?_; intro g_ hg_) | (refine gl_box_one rfl rfl rfl rfl rfl rfl ?_; intro g_ hg_) | (refine gl_box rfl rfl rfl rfl rfl ?_; intro g_ hg_))
      | (refine gl_any0 ?_; refine gl_pure tab_ok rfl rfl rfl rfl rfl rfl ?_))
    | (refine gc_gate ?_; first
      | refine gc_seq ?_
      | refine gc_region ?_)
    | (refine ge_gate ?_; first
      | ((with_reducible refine ge_gT ?_); first | with_reducible refine ge_then ?_ | with_reducible refine ge_then_exit ?_ | with_reducible refine ge_then_ret ?_))
  rw [least_nil]
  refine gl_ev (ev_addF (g := g_) (mo := none) (m := []) (es := #[]) (clock := 0) (s := st2) (n := 1) rfl rfl rfl rfl rfl List.perm_append_comm rfl (by unfold In64; decide) (fun gm es' clock' hm => ?_)) rfl rfl
  have e1 : fadd [] st2 1 = [(st2, 1)] := rfl
  rw [e1] at hm
  have hlen : ([(st2, 1)] : FM).length ≤ 100000000 := by decide
  unfold FrPK kmapT
  clear hw_
  have key : ∀ W, ObIn (FrPK g_ (some gm) es' clock') W → Calls Try.prog 80 #[.pointer (some ⟨g_, 0, none⟩)] W (RetOw W [st2].length 3 (cat Stamp.l [st2]) 38) := fun W h => by
    have := ct_LeastF (m := [(st2, 1)]) h hm hlen
    rwa [least_one] at this
  have kp : ∀ W, ObIn (FrPK g_ (some gm) es' clock') W → Calls Try.prog 82 #[.pointer (some ⟨g_, 0, none⟩), .agg st3.l.toArray] W fun e w' => e = .returned (.bool false) ∧ Bl W w' := fun W h => by
    have := ct_PassedF (m := [(st2, 1)]) st3 h hm hlen
    rwa [passed_23] at this
  repeat' first
    | (refine gl_idxG ?_; refine gl_yv (yv_idxO (i := 0) tab_ok hw_ c_gok rfl rfl rfl rfl rfl rfl c_imp c_imp (fun _ => by decide)) rfl rfl ?_)
    | (refine gl_loadG ?_; refine gl_yv (yv_ldO tab_ok c_oa hw_ c_gok rfl rfl c_imp (fun _ => lds_one rfl rfl rfl rfl) (fun _ => by decide)) rfl rfl ?_)
    | (refine gl_gate ?_; first
      | refine gl_nil ?_
      | (refine gl_any0 ?_; (refine gl_ev (ev_callOw rfl rfl ent80 rfl rfl rfl (fun W hW => key W (ObIn.of hW (List.sublist_append_left _ _))) ?_) rfl rfl; intro p_ c_ sp_ hw_))
      | (refine gl_calvG ?_; first | refine gl_yd (yd_call c_gok rfl ent84 rfl rfl c_allT (fun _ W hW => ct_CountF (m := [(st2, 1)]) st2 (ObIn.of (Ko := FrPK g_ (some gm) es' clock') hW (sub_app (List.sublist_append_left _ _))) hm)) rfl rfl ?_ | refine gl_yd (yd_call c_gok rfl ent82 rfl rfl c_allT (fun _ W hW => kp W (ObIn.of (Ko := FrPK g_ (some gm) es' clock') hW (sub_app (List.sublist_append_left _ _))))) rfl rfl ?_)
      | (refine gl_pick0 ?_; first | refine gl_yv (yv_and (gok_none rfl) rfl rfl rfl (fun _ => rfl) c_imp2) rfl rfl ?_ | refine gl_yv (yv_or (gok_none rfl) rfl rfl rfl (fun _ => rfl) c_imp2) rfl rfl ?_)
      | (refine gl_any0 ?_; refine gl_pure tab_ok rfl rfl rfl rfl rfl rfl ?_)
      | (refine gl_anyG ?_; first | refine gl_yv (yv_pure tab_ok c_gok rfl rfl c_allT) rfl rfl ?_ | refine gl_yv (yv_indexS tab_ok c_gok rfl rfl rfl rfl c_imp c_imp (by intro hq_; (try simp only [Bool.and_eq_true, Bool.not_eq_true', Bool.not_eq_false', Bool.or_eq_false_iff, Bool.or_eq_true, decide_eq_true_eq, decide_eq_false_iff_not, Bool.true_and, Bool.and_true] at hq_); omega)) rfl rfl ?_ | refine gl_yv (yv_indexS (i := 0) tab_ok c_gok rfl rfl rfl rfl c_imp c_imp (by intro hq_; (try simp only [Bool.and_eq_true, Bool.not_eq_true', Bool.not_eq_false', Bool.or_eq_false_iff, Bool.or_eq_true, decide_eq_true_eq, decide_eq_false_iff_not, Bool.true_and, Bool.and_true] at hq_); omega)) rfl rfl ?_))
    | (refine gc_gate ?_; first
      | refine gc_seq ?_
      | refine gc_region ?_
      | refine gc_ret ?_)
    | (refine ge_gate ?_; first
      | ((with_reducible refine ge_gT ?_); first | with_reducible refine ge_then ?_ | with_reducible refine ge_then_exit ?_ | with_reducible refine ge_then_ret ?_)
      | ((with_reducible refine ge_gB ?_); first | refine ge_ret1 tab_ok rfl c_rvt ?_ | refine ge_end1 tab_ok rfl c_rvt ?_ | refine ge_ret2 tab_ok rfl c_rvt c_rvt ?_ | refine ge_ret_none rfl ?_ | refine ge_end_none rfl ?_))
  intro W hW
  refine ⟨?_, hW.below0⟩
  rfl
end Go.Proofs.Ytkgjfcjciigcgaa
