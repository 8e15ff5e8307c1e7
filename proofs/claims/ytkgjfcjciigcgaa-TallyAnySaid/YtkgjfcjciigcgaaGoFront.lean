/-
  The program's Front: Add, above, Count; slices of stamps: sorted, searched.
-/
import Derived.Test.YtkgjfcjciigcgaaGoFrontM
namespace Go.Proofs.Ytkgjfcjciigcgaa
open Go.Proofs.Ytkgjfcjciigcgaa.Sl Go.RowKit
set_option linter.unusedVariables false
set_option linter.unusedSimpArgs false
set_option linter.unusedSectionVars false
set_option maxRecDepth 100000

def vI (n : Int) : Value := .int .i64 n
theorem zero_int (w : World) : (zeroValue 3).run Try.prog w = .ok (vI 0) w := Try.zeroValue3 w
theorem len_stamp (x : Stamp) : x.l.length = 3 := rfl
theorem ones_stamp (x : Stamp) : ∀ u ∈ x.l, u.oneCell' = true := by
  intro u hu
  simp [Stamp.l] at hu
  rcases hu with rfl | rfl | rfl <;> rfl
theorem repT (l : List Stamp) : (cat Stamp.l l).length = l.length * 3 := cat_length len_stamp l
theorem ct_sortStamps {g c : Nat} {xs : List Stamp} {sp : List Value} {w : World} (hb : w.heap[g]? = some (.cells (cat Stamp.l xs ++ sp).toArray 38 (0, 0))) (hsz : xs.length < 4611686018427387904) :
    Calls Try.prog 204 #[.slice (some (ad g)) xs.length c, .func (.func 142) #[] #[]] w (RetG w g (fun _ : Unit => .tuple #[]) (fun _ => .cells (cat Stamp.l (sortT xs) ++ sp).toArray 38 (0, 0)) (fun _ => True)) :=
  sort_own (ρ := sortS_ren) (k := 3) sortS_lay (fun w => (tab_ok 38 _ rfl).isAgg w) (fun w => (tab_ok 38 _ rfl).sizeOf w) len_stamp ones_stamp cSt swoS 142 #[] ent142 (fun x y W => ct_CompareS _ _ _ _ _ _ W) totS hb hsz
theorem ct_sortNoneT (c : Nat) (p : Option Addr) (fv : Value) (w : World) : Calls Try.prog 204 #[.slice p 0 c, fv] w fun e w' => e = .returned (.tuple #[]) ∧ Bl w w' :=
  (Go.Proofs.AnyF.slices_SortFunc_none (P := Try.prog) (ρ := sortS_ren) sortS_lay p c fv w).mono fun e w' ⟨h1, h2⟩ => ⟨h1, by rw [h2]; exact ⟨rfl, rfl, rfl, Nat.le_refl _, fun _ _ => rfl, Nat.le_refl _⟩⟩
section
variable {P : Program} {T : Tab} {κ ν : Type} [DecidableEq κ] {kf : κ → Value} {vf : ν → Value} {kt et mt : TypeId} {N : Nat} {F : Fl} {l : List Oper} {o : Oper} {q : Bool} {C : World → Prop} {s bs : Nat} {z : List Value} {pm pk : Bool}
/-- A look into a map that may have got that key meanwhile. -/
theorem yv_lookupC {x y : Operand} {g : Nat} {k : κ} {z0 u : ν} (kl : KeyLaw P kt kf) (hT : TabOk P T) (hz : ∀ w, (zeroValue et).run P w = .ok (vf z0) w) (hg : Gok l F o q) (ho : o.op = .lookup mt x y false) (ht : ty T mt = some ⟨.map kt et, s, bs, z⟩)
    (hx : Fo F x = some (pm, .map (some g))) (hy : Fo F y = some (pk, kf k)) (hp : q = true → pm = true) (hp' : q = true → pk = true) (h : ∀ W, C W → ∃ m es clock, W.heap[g]? = some (.map es clock) ∧ Mp kf vf m es clock ∧ mgetD m k z0 = u) : Yv P C l N F o q (vf u) :=
  yv_value hg fun a hF hq w hw => by
    have e0 := hF.eval hx (hp hq)
    have e1 := hF.eval hy (hp' hq)
    obtain ⟨m, es, clock, h2, h3, h4⟩ := h w hw
    have h1 := run_lookup (P := P) false kl (hT mt _ ht).kind (hz w) h2 h3 k
    rw [h4] at h1
    obtain ⟨dst, op, tp, pos, after, guard⟩ := o
    subst ho
    simp [execOp, e0, e1, h1]
end
theorem Yv.imp {P : Program} {C C' : World → Prop} {l : List Oper} {N : Nat} {F : Fl} {o : Oper} {q : Bool} {v : Value} (hC : ∀ W, C W → C' W) (h : Yv P C' l N F o q v) : Yv P C l N F o q v := ⟨h.1, fun a hF hq w hw => h.2 a hF hq w (hC w hw)⟩
def kmapT (mo : Option Nat) (es : Array MapEntry) (clock : Nat) : Kl := match mo with
  | none => []
  | some g => [(g, true, .map es clock)]
def FrPK (g : Nat) (mo : Option Nat) (es : Array MapEntry) (clock : Nat) : Kl := (g, true, .cells [.map mo].toArray 91 (0, 0)) :: kmapT mo es clock
abbrev FPS := Nat × Array MapEntry × Nat
def RetFP (w : World) (g : Nat) (mo : Option Nat) (es : Array MapEntry) (clock : Nat) (m' : FM) : Ending → World → Prop :=
  RetM w ((FrPK g mo es clock).map (·.1)) (fun _ : FPS => .tuple #[]) (fun y => FrPK g (some y.1) y.2.1 y.2.2) (fun y => Mp kStamp vI m' y.2.1 y.2.2)
theorem mgetD_self {m m' : FM} {s : Stamp} {j : Nat} (h1 : m'[j]? = some (s, mgetD m s 0)) (hn : (m'.map (·.1)).Nodup) : mgetD m' s 0 = mgetD m s 0 := by
  rw [mgetD_mkO m' s 0, mkO_of_mem hn (List.mem_of_getElem? h1)]
  rfl
/-- What is there, or nothing of none. -/
def MoOk (w : World) (mo : Option Nat) (m : FM) (es : Array MapEntry) (clock : Nat) : Prop := match mo with
  | none => m = []
  | some g => w.heap[g]? = some (.map es clock) ∧ Mp kStamp vI m es clock
theorem ct_AddP {w : World} {g gm : Nat} {m : FM} {es : Array MapEntry} {clock : Nat} (s : Stamp) (n : Int) (hg : w.heap[g]? = some (.cells [.map (some gm)].toArray 91 (0, 0))) (hgm : w.heap[gm]? = some (.map es clock)) (hm : Mp kStamp vI m es clock) (hn : In64 (mgetD m s 0 + n)) :
    Calls Try.prog 77 #[.pointer (some ⟨g, 0, none⟩), .agg s.l.toArray, .int .i64 n] w (RetFP w g (some gm) es clock (fadd m s n)) := by
  have hne : g ≠ gm := fun e => by rw [e, hgm] at hg; cases hg
  unfold In64 at hn
  refine enter (args := [_, _, _]) (M := []) (K := []) Try.func77 rfl Try.ntmps77 rfl (St.refl _ _) ?_
  refine gc_own (FrPK g (some gm) es clock) ?_ ?_ ?_
  · intro e he
    simp [FrPK, kmapT] at he
    rcases he with rfl | rfl
    · exact hg
    · exact hgm
  · simpa [FrPK, kmapT] using hne
  unfold RetFP
  generalize hM : (FrPK g (some gm) es clock).map (·.1) = M
  unfold FrPK kmapT
  repeat' first
    | (refine gl_gate ?_; first
      | refine gl_nil ?_
      | (refine gl_load0 ?_; refine gl_yv (yv_load tab_ok (gok_none rfl) rfl rfl (fun _ => rfl) c_mem (fun _ => c_lds)) rfl rfl ?_)
      | (refine gl_box0 ?_; first | (refine gl_box_agg rfl rfl rfl rfl rfl ?_; intro g_ hg_) | (refine gl_box_one rfl rfl rfl rfl rfl rfl ?_; intro g_ hg_) | (refine gl_box rfl rfl rfl rfl rfl ?_; intro g_ hg_))
      | (refine gl_any0 ?_; refine gl_pure tab_ok rfl rfl rfl rfl rfl rfl ?_))
    | (refine gc_gate ?_; first
      | refine gc_seq ?_
      | refine gc_region ?_
      | refine gc_false rfl ?_
      | refine gc_skip ?_)
    | (refine ge_gate ?_; first
      | ((with_reducible refine ge_gT ?_); first | with_reducible refine ge_then ?_ | with_reducible refine ge_then_exit ?_ | with_reducible refine ge_then_ret ?_))
  have hmem : mgetD m s 0 = mgetD m s 0 := rfl
  refine gp_startC (fun W => St w M [(g_, true, .cells s.l.toArray 38 (0, 0)), (g, true, .cells [.map (some gm)].toArray 91 (0, 0))] W ∧ ∃ m' es' clock', W.heap[gm]? = some (.map es' clock') ∧ Mp kStamp vI m' es' clock' ∧ mgetD m' s 0 = mgetD m s 0) (by intro W_ h_; exact ⟨h_.drop (List.Sublist.cons_cons _ (List.Sublist.cons_cons _ (List.nil_sublist _))), _, _, _, h_.kn c_mem, by assumption, by first | exact hmem | exact mgetD_self u2 u1.keys⟩) [10] #[false, false, false, false, false, false, false, false, false, false, false] mixed rfl rfl c_qp ?_; intro hqp_
  refine gp_take 0 #[true, false, false, false, false, false, false, false, false, false, false] hqp_ rfl (by kernel_rfl) (yv_pure tab_ok c_gok rfl rfl c_allT) (by intro W_ h_; exact ⟨h_.drop (List.Sublist.cons_cons _ (List.Sublist.cons_cons _ (List.nil_sublist _))), _, _, _, h_.kn c_mem, by assumption, by first | exact hmem | exact mgetD_self u2 u1.keys⟩) rfl rfl ?_
  refine gp_take 1 #[true, true, false, false, false, false, false, false, false, false, false] hqp_ rfl (by kernel_rfl) (yv_pure tab_ok c_gok rfl rfl c_allT) (by intro W_ h_; exact ⟨h_.drop (List.Sublist.cons_cons _ (List.Sublist.cons_cons _ (List.nil_sublist _))), _, _, _, h_.kn c_mem, by assumption, by first | exact hmem | exact mgetD_self u2 u1.keys⟩) rfl rfl ?_
  refine gp_take 2 #[true, true, true, false, false, false, false, false, false, false, false] hqp_ rfl (by kernel_rfl) (yv_pure tab_ok c_gok rfl rfl c_allT) (by intro W_ h_; exact ⟨h_.drop (List.Sublist.cons_cons _ (List.Sublist.cons_cons _ (List.nil_sublist _))), _, _, _, h_.kn c_mem, by assumption, by first | exact hmem | exact mgetD_self u2 u1.keys⟩) rfl rfl ?_
  refine gp_take 3 #[true, true, true, true, false, false, false, false, false, false, false] hqp_ rfl (by kernel_rfl) ((Yv.imp (fun _ h => h.1) (yv_load tab_ok c_gok rfl rfl c_imp c_mem (fun _ => c_lds)))) (by intro W_ h_; exact ⟨h_.drop (List.Sublist.cons_cons _ (List.Sublist.cons_cons _ (List.nil_sublist _))), _, _, _, h_.kn c_mem, by assumption, by first | exact hmem | exact mgetD_self u2 u1.keys⟩) rfl rfl ?_
  refine gp_take 4 #[true, true, true, true, true, false, false, false, false, false, false] hqp_ rfl (by kernel_rfl) ((Yv.imp (fun _ h => h.1) (yv_load tab_ok c_gok rfl rfl c_imp c_mem (fun _ => c_lds)))) (by intro W_ h_; exact ⟨h_.drop (List.Sublist.cons_cons _ (List.Sublist.cons_cons _ (List.nil_sublist _))), _, _, _, h_.kn c_mem, by assumption, by first | exact hmem | exact mgetD_self u2 u1.keys⟩) rfl rfl ?_
  refine gp_take 5 #[true, true, true, true, true, true, false, false, false, false, false] hqp_ rfl (by kernel_rfl) ((yv_lookupC (k := s) (u := mgetD m s 0) key_stamp tab_ok zero_int c_gok rfl rfl rfl rfl c_imp c_imp (fun _ h => h.2))) (by intro W_ h_; exact ⟨h_.drop (List.Sublist.cons_cons _ (List.Sublist.cons_cons _ (List.nil_sublist _))), _, _, _, h_.kn c_mem, by assumption, by first | exact hmem | exact mgetD_self u2 u1.keys⟩) rfl rfl ?_
  refine gp_take 6 #[true, true, true, true, true, true, true, false, false, false, false] hqp_ rfl (by kernel_rfl) (yv_pure tab_ok c_gok rfl rfl c_allT) (by intro W_ h_; exact ⟨h_.drop (List.Sublist.cons_cons _ (List.Sublist.cons_cons _ (List.nil_sublist _))), _, _, _, h_.kn c_mem, by assumption, by first | exact hmem | exact mgetD_self u2 u1.keys⟩) rfl rfl ?_
  refine gp_take 7 #[true, true, true, true, true, true, true, true, false, false, false] hqp_ rfl (by kernel_rfl) (yv_add tab_ok c_gok rfl rfl rfl rfl c_allT c_bnd) (by intro W_ h_; exact ⟨h_.drop (List.Sublist.cons_cons _ (List.Sublist.cons_cons _ (List.nil_sublist _))), _, _, _, h_.kn c_mem, by assumption, by first | exact hmem | exact mgetD_self u2 u1.keys⟩) rfl rfl ?_
  refine gp_ev 8 #[true, true, true, true, true, true, true, true, true, false, false] rfl (by kernel_rfl) rfl rfl rfl (ev_mapEntry (k := s) key_stamp tab_ok zero_int rfl rfl rfl rfl rfl hm c_mem (fun es1 clock1 m1 j1 st1 u1 u2 u3 u4 => ⟨_, c_ku, ⟨(by intro W_ h_; exact ⟨h_.drop (List.Sublist.cons_cons _ (List.Sublist.cons_cons _ (List.nil_sublist _))), _, _, _, h_.kn c_mem, by assumption, by first | exact hmem | exact mgetD_self u2 u1.keys⟩), ?_⟩⟩))
  refine gp_take 9 #[true, true, true, true, true, true, true, true, true, true, false] hqp_ rfl (by kernel_rfl) (yv_pure tab_ok c_gok rfl rfl c_allT) (by intro W_ h_; exact ⟨h_.drop (List.Sublist.cons_cons _ (List.Sublist.cons_cons _ (List.nil_sublist _))), _, _, _, h_.kn c_mem, by assumption, by first | exact hmem | exact mgetD_self u2 u1.keys⟩) rfl rfl ?_
  refine gp_last0 10 #[true, true, true, true, true, true, true, true, true, true, true] rfl (by kernel_rfl) (by simp) rfl (ev_entryStore (u := mgetD m s 0 + n) rfl rfl rfl rfl rfl u1 u2 u4 c_mem (fun es2 u5 => ⟨_, c_ku, ?_⟩))
  refine gp_done (by kernel_rfl) ?_; clear hqp_
  repeat' first
    | (refine ge_gate ?_; first
      | ((with_reducible refine ge_gB ?_); first | refine ge_ret1 tab_ok rfl c_rvt ?_ | refine ge_end1 tab_ok rfl c_rvt ?_ | refine ge_ret2 tab_ok rfl c_rvt c_rvt ?_ | refine ge_ret_none rfl ?_ | refine ge_end_none rfl ?_))
  intro W hW
  have e : fadd m s n = m1.set j1 (s, mgetD m s 0 + n) := (u3 _).symm
  rw [e]
  exact ⟨(gm, es2, clock1), rfl, u5, hW.drop (List.Sublist.cons _ (List.Sublist.refl _))⟩
theorem ct_AddP0 {w : World} {g : Nat} (s : Stamp) (n : Int) (es : Array MapEntry) (clock : Nat) (hg : w.heap[g]? = some (.cells [.map none].toArray 91 (0, 0))) (hn : In64 n) :
    Calls Try.prog 77 #[.pointer (some ⟨g, 0, none⟩), .agg s.l.toArray, .int .i64 n] w (RetFP w g none es clock (fadd [] s n)) := by
  unfold In64 at hn
  refine enter (args := [_, _, _]) (M := []) (K := []) Try.func77 rfl Try.ntmps77 rfl (St.refl _ _) ?_
  refine gc_own (FrPK g none es clock) ?_ ?_ ?_
  · intro e he
    simp [FrPK, kmapT] at he
    rcases he with rfl
    exact hg
  · simp [FrPK, kmapT]
  unfold RetFP
  generalize hM : (FrPK g none es clock).map (·.1) = M
  unfold FrPK kmapT
  repeat' first
    | refine gl_ev (ev_makeMap rfl rfl ?_) rfl rfl; intro gm hgm_
    | (refine gl_gate ?_; first
      | refine gl_nil ?_
      | (refine gl_load0 ?_; refine gl_yv (yv_load tab_ok (gok_none rfl) rfl rfl (fun _ => rfl) c_mem (fun _ => c_lds)) rfl rfl ?_)
      | (refine gl_box0 ?_; first | (refine gl_box_agg rfl rfl rfl rfl rfl ?_; intro g_ hg_) | (refine gl_box_one rfl rfl rfl rfl rfl rfl ?_; intro g_ hg_) | (refine gl_box rfl rfl rfl rfl rfl ?_; intro g_ hg_))
      | (refine gl_sto0 ?_; refine gl_store tab_ok rfl rfl rfl rfl rfl rfl rfl c_one rfl c_ku ?_)
      | (refine gl_any0 ?_; refine gl_pure tab_ok rfl rfl rfl rfl rfl rfl ?_))
    | (refine gc_gate ?_; first
      | refine gc_seq ?_
      | refine gc_region ?_
      | refine gc_true rfl ?_
      | refine gc_false rfl ?_
      | refine gc_skip ?_)
    | (refine ge_gate ?_; first
      | ((with_reducible refine ge_gT ?_); first | with_reducible refine ge_then ?_ | with_reducible refine ge_then_exit ?_ | with_reducible refine ge_then_ret ?_))
  have hm : Mp kStamp vI [] #[] 0 := Mp.nil
  have hmem : mgetD ([] : FM) s 0 = mgetD ([] : FM) s 0 := rfl
  have hn2 : -9223372036854775808 ≤ mgetD ([] : FM) s 0 + n ∧ mgetD ([] : FM) s 0 + n ≤ 9223372036854775807 := by
    rw [show mgetD ([] : FM) s 0 = 0 from rfl]
    omega
  generalize hm0 : ([] : FM) = m at *
  refine gp_startC (fun W => St w M [(g_, true, .cells s.l.toArray 38 (0, 0)), (g, true, .cells [.map (some gm)].toArray 91 (0, 0))] W ∧ ∃ m' es' clock', W.heap[gm]? = some (.map es' clock') ∧ Mp kStamp vI m' es' clock' ∧ mgetD m' s 0 = mgetD m s 0) (by intro W_ h_; exact ⟨h_.drop (List.Sublist.cons _ (List.Sublist.cons_cons _ (List.Sublist.cons_cons _ (List.nil_sublist _)))), _, _, _, h_.kn c_mem, by assumption, by first | exact hmem | exact mgetD_self u2 u1.keys⟩) [10] #[false, false, false, false, false, false, false, false, false, false, false] mixed rfl rfl c_qp ?_; intro hqp_
  refine gp_take 0 #[true, false, false, false, false, false, false, false, false, false, false] hqp_ rfl (by kernel_rfl) (yv_pure tab_ok c_gok rfl rfl c_allT) (by intro W_ h_; exact ⟨h_.drop (List.Sublist.cons _ (List.Sublist.cons_cons _ (List.Sublist.cons_cons _ (List.nil_sublist _)))), _, _, _, h_.kn c_mem, by assumption, by first | exact hmem | exact mgetD_self u2 u1.keys⟩) rfl rfl ?_
  refine gp_take 1 #[true, true, false, false, false, false, false, false, false, false, false] hqp_ rfl (by kernel_rfl) (yv_pure tab_ok c_gok rfl rfl c_allT) (by intro W_ h_; exact ⟨h_.drop (List.Sublist.cons _ (List.Sublist.cons_cons _ (List.Sublist.cons_cons _ (List.nil_sublist _)))), _, _, _, h_.kn c_mem, by assumption, by first | exact hmem | exact mgetD_self u2 u1.keys⟩) rfl rfl ?_
  refine gp_take 2 #[true, true, true, false, false, false, false, false, false, false, false] hqp_ rfl (by kernel_rfl) (yv_pure tab_ok c_gok rfl rfl c_allT) (by intro W_ h_; exact ⟨h_.drop (List.Sublist.cons _ (List.Sublist.cons_cons _ (List.Sublist.cons_cons _ (List.nil_sublist _)))), _, _, _, h_.kn c_mem, by assumption, by first | exact hmem | exact mgetD_self u2 u1.keys⟩) rfl rfl ?_
  refine gp_take 3 #[true, true, true, true, false, false, false, false, false, false, false] hqp_ rfl (by kernel_rfl) ((Yv.imp (fun _ h => h.1) (yv_load tab_ok c_gok rfl rfl c_imp c_mem (fun _ => c_lds)))) (by intro W_ h_; exact ⟨h_.drop (List.Sublist.cons _ (List.Sublist.cons_cons _ (List.Sublist.cons_cons _ (List.nil_sublist _)))), _, _, _, h_.kn c_mem, by assumption, by first | exact hmem | exact mgetD_self u2 u1.keys⟩) rfl rfl ?_
  refine gp_take 4 #[true, true, true, true, true, false, false, false, false, false, false] hqp_ rfl (by kernel_rfl) ((Yv.imp (fun _ h => h.1) (yv_load tab_ok c_gok rfl rfl c_imp c_mem (fun _ => c_lds)))) (by intro W_ h_; exact ⟨h_.drop (List.Sublist.cons _ (List.Sublist.cons_cons _ (List.Sublist.cons_cons _ (List.nil_sublist _)))), _, _, _, h_.kn c_mem, by assumption, by first | exact hmem | exact mgetD_self u2 u1.keys⟩) rfl rfl ?_
  refine gp_take 5 #[true, true, true, true, true, true, false, false, false, false, false] hqp_ rfl (by kernel_rfl) ((yv_lookupC (k := s) (u := mgetD m s 0) key_stamp tab_ok zero_int c_gok rfl rfl rfl rfl c_imp c_imp (fun _ h => h.2))) (by intro W_ h_; exact ⟨h_.drop (List.Sublist.cons _ (List.Sublist.cons_cons _ (List.Sublist.cons_cons _ (List.nil_sublist _)))), _, _, _, h_.kn c_mem, by assumption, by first | exact hmem | exact mgetD_self u2 u1.keys⟩) rfl rfl ?_
  refine gp_take 6 #[true, true, true, true, true, true, true, false, false, false, false] hqp_ rfl (by kernel_rfl) (yv_pure tab_ok c_gok rfl rfl c_allT) (by intro W_ h_; exact ⟨h_.drop (List.Sublist.cons _ (List.Sublist.cons_cons _ (List.Sublist.cons_cons _ (List.nil_sublist _)))), _, _, _, h_.kn c_mem, by assumption, by first | exact hmem | exact mgetD_self u2 u1.keys⟩) rfl rfl ?_
  refine gp_take 7 #[true, true, true, true, true, true, true, true, false, false, false] hqp_ rfl (by kernel_rfl) (yv_add tab_ok c_gok rfl rfl rfl rfl c_allT c_bnd) (by intro W_ h_; exact ⟨h_.drop (List.Sublist.cons _ (List.Sublist.cons_cons _ (List.Sublist.cons_cons _ (List.nil_sublist _)))), _, _, _, h_.kn c_mem, by assumption, by first | exact hmem | exact mgetD_self u2 u1.keys⟩) rfl rfl ?_
  refine gp_ev 8 #[true, true, true, true, true, true, true, true, true, false, false] rfl (by kernel_rfl) rfl rfl rfl (ev_mapEntry (k := s) key_stamp tab_ok zero_int rfl rfl rfl rfl rfl hm c_mem (fun es1 clock1 m1 j1 st1 u1 u2 u3 u4 => ⟨_, c_ku, ⟨(by intro W_ h_; exact ⟨h_.drop (List.Sublist.cons _ (List.Sublist.cons_cons _ (List.Sublist.cons_cons _ (List.nil_sublist _)))), _, _, _, h_.kn c_mem, by assumption, by first | exact hmem | exact mgetD_self u2 u1.keys⟩), ?_⟩⟩))
  refine gp_take 9 #[true, true, true, true, true, true, true, true, true, true, false] hqp_ rfl (by kernel_rfl) (yv_pure tab_ok c_gok rfl rfl c_allT) (by intro W_ h_; exact ⟨h_.drop (List.Sublist.cons _ (List.Sublist.cons_cons _ (List.Sublist.cons_cons _ (List.nil_sublist _)))), _, _, _, h_.kn c_mem, by assumption, by first | exact hmem | exact mgetD_self u2 u1.keys⟩) rfl rfl ?_
  refine gp_last0 10 #[true, true, true, true, true, true, true, true, true, true, true] rfl (by kernel_rfl) (by simp) rfl (ev_entryStore (u := mgetD m s 0 + n) rfl rfl rfl rfl rfl u1 u2 u4 c_mem (fun es2 u5 => ⟨_, c_ku, ?_⟩))
  refine gp_done (by kernel_rfl) ?_; clear hqp_
  repeat' first
    | (refine ge_gate ?_; first
      | ((with_reducible refine ge_gB ?_); first | refine ge_ret1 tab_ok rfl c_rvt ?_ | refine ge_end1 tab_ok rfl c_rvt ?_ | refine ge_ret2 tab_ok rfl c_rvt c_rvt ?_ | refine ge_ret_none rfl ?_ | refine ge_end_none rfl ?_))
  intro W hW
  have e : fadd m s n = m1.set j1 (s, mgetD m s 0 + n) := (u3 _).symm
  rw [e]
  refine ⟨(gm, es2, clock1), rfl, u5, (hW.drop (K' := [(gm, true, .map es2 clock1), (g, true, .cells [.map (some gm)].toArray 91 (0, 0))]) ?_).perm (List.Perm.swap ..)⟩
  exact List.Sublist.cons_cons _ (List.Sublist.cons _ (List.Sublist.cons_cons _ (List.nil_sublist _)))
theorem ct_CountP {w : World} {g gm : Nat} {m : FM} {es : Array MapEntry} {clock : Nat} (s : Stamp) (hg : w.heap[g]? = some (.cells [.map (some gm)].toArray 91 (0, 0))) (hgm : w.heap[gm]? = some (.map es clock)) (hm : Mp kStamp vI m es clock) :
    Calls Try.prog 84 #[.pointer (some ⟨g, 0, none⟩), .agg s.l.toArray] w fun e w' => e = .returned (.int .i64 (mgetD m s 0)) ∧ Bl w w' := by
  have hne : g ≠ gm := fun e => by rw [e, hgm] at hg; cases hg
  refine enter (args := [_, _]) (M := []) (K := []) Try.func84 rfl Try.ntmps84 rfl (St.refl _ _) ?_
  refine gc_old hgm (by simp) (by simp) ?_
  refine gc_old hg (by simp) (by simpa using hne) ?_
  repeat' first
    | (refine gq_any0 ?_; refine gq_yv ((yv_lookup (c := false) (k := s) (z0 := (0 : Int)) key_stamp tab_ok zero_int (gok_none rfl) rfl rfl rfl rfl (fun _ => rfl) (fun _ => rfl) hm c_mem).cast (v' := .int .i64 (mgetD m s 0)) rfl) rfl rfl ?_)
    | (refine gl_gate ?_; first
      | refine gl_nil ?_
      | (refine gl_box0 ?_; first | (refine gl_box_agg rfl rfl rfl rfl rfl ?_; intro g_ hg_) | (refine gl_box_one rfl rfl rfl rfl rfl rfl ?_; intro g_ hg_) | (refine gl_box rfl rfl rfl rfl rfl ?_; intro g_ hg_))
      | (refine gl_any0 ?_; refine gl_pure tab_ok rfl rfl rfl rfl rfl rfl ?_))
    | (refine gc_gate ?_; first
      | refine gc_seq ?_
      | refine gc_region ?_
      | refine gc_quietRo rfl mixed (by decide +kernel) ?_
      | refine gc_false rfl ?_
      | refine gc_ret ?_
      | refine gc_skip ?_)
    | (refine ge_gate ?_; first
      | ((with_reducible refine ge_gT ?_); first | with_reducible refine ge_then ?_ | with_reducible refine ge_then_exit ?_ | with_reducible refine ge_then_ret ?_)
      | ((with_reducible refine ge_gB ?_); first | refine ge_ret1 tab_ok rfl c_rvt ?_ | refine ge_end1 tab_ok rfl c_rvt ?_ | refine ge_ret2 tab_ok rfl c_rvt c_rvt ?_ | refine ge_ret_none rfl ?_ | refine ge_end_none rfl ?_))
    | (refine gq_gate ?_; first
      | refine gq_nil ?_
      | (refine gq_load0 ?_; refine gq_yv (yv_load tab_ok (gok_none rfl) rfl rfl (fun _ => rfl) c_mem (fun _ => c_lds)) rfl rfl ?_)
      | (refine gq_any0 ?_; refine gq_pure tab_ok rfl rfl rfl rfl rfl rfl ?_))
  intro W hW
  exact ⟨rfl, hW.below0⟩
theorem ct_CountP0 {w : World} {g : Nat} (s : Stamp) (hg : w.heap[g]? = some (.cells [.map none].toArray 91 (0, 0))) :
    Calls Try.prog 84 #[.pointer (some ⟨g, 0, none⟩), .agg s.l.toArray] w fun e w' => e = .returned (.int .i64 0) ∧ Bl w w' := by
  refine enter (args := [_, _]) (M := []) (K := []) Try.func84 rfl Try.ntmps84 rfl (St.refl _ _) ?_
  refine gc_old hg (by simp) (by simp) ?_
  repeat' first
    | (refine gq_any0 ?_; refine gq_yv ((yv_lookupNil (c := false) (k := s) key_stamp tab_ok zero_int (gok_none rfl) rfl rfl rfl rfl (fun _ => rfl) (fun _ => rfl)).cast (v' := .int .i64 0) rfl) rfl rfl ?_)
    | (refine gl_gate ?_; first
      | refine gl_nil ?_
      | (refine gl_box0 ?_; first | (refine gl_box_agg rfl rfl rfl rfl rfl ?_; intro g_ hg_) | (refine gl_box_one rfl rfl rfl rfl rfl rfl ?_; intro g_ hg_) | (refine gl_box rfl rfl rfl rfl rfl ?_; intro g_ hg_))
      | (refine gl_any0 ?_; refine gl_pure tab_ok rfl rfl rfl rfl rfl rfl ?_))
    | (refine gc_gate ?_; first
      | refine gc_seq ?_
      | refine gc_region ?_
      | refine gc_quietRo rfl mixed (by decide +kernel) ?_
      | refine gc_false rfl ?_
      | refine gc_ret ?_
      | refine gc_skip ?_)
    | (refine ge_gate ?_; first
      | ((with_reducible refine ge_gT ?_); first | with_reducible refine ge_then ?_ | with_reducible refine ge_then_exit ?_ | with_reducible refine ge_then_ret ?_)
      | ((with_reducible refine ge_gB ?_); first | refine ge_ret1 tab_ok rfl c_rvt ?_ | refine ge_end1 tab_ok rfl c_rvt ?_ | refine ge_ret2 tab_ok rfl c_rvt c_rvt ?_ | refine ge_ret_none rfl ?_ | refine ge_end_none rfl ?_))
    | (refine gq_gate ?_; first
      | refine gq_nil ?_
      | (refine gq_load0 ?_; refine gq_yv (yv_load tab_ok (gok_none rfl) rfl rfl (fun _ => rfl) c_mem (fun _ => c_lds)) rfl rfl ?_)
      | (refine gq_any0 ?_; refine gq_pure tab_ok rfl rfl rfl rfl rfl rfl ?_))
  intro W hW
  exact ⟨rfl, hW.below0⟩
section
variable {P : Program} {N : Nat} {F : Fl} {l rest : List Oper} {Q : Exit → Act → World → Prop} {w0 : World} {M : List Nat} {K : Kl} {ds : Option Tmp} {tp t : TypeId} {ps : String} {af : Array Edge} {x y v : Operand} {b : Bool}
theorem gl_nxt0 (h : GL P l Q (⟨ds, .next x b, tp, ps, af, none⟩ :: rest) N w0 M F K) : GL P l Q (⟨ds, .next x b, tp, ps, af, none⟩ :: rest) N w0 M F K := h
theorem gl_ent0 (h : GL P l Q (⟨ds, .entry x, tp, ps, af, none⟩ :: rest) N w0 M F K) : GL P l Q (⟨ds, .entry x, tp, ps, af, none⟩ :: rest) N w0 M F K := h
theorem gl_rng0 (h : GL P l Q (⟨ds, .range t x, tp, ps, af, none⟩ :: rest) N w0 M F K) : GL P l Q (⟨ds, .range t x, tp, ps, af, none⟩ :: rest) N w0 M F K := h
end
theorem Rng.keysN {κ ν : Type} [DecidableEq κ] {kf : κ → Value} {vf : ν → Value} {m : List (κ × ν)} {es : Array MapEntry} {clock : Nat} {seen : Array Nat} {out : List (κ × ν)} (h : Mp kf vf m es clock) (hs : Rng m es seen out) : (out.map (·.1)).Nodup := by
  obtain ⟨ix, i1, i2, i3, i4⟩ := hs
  have h1 : (ix.map (fun i => m[i]?)).Pairwise (fun a b => a.map (·.1) ≠ b.map (·.1)) := by
    rw [List.pairwise_map]
    refine List.Pairwise.imp_of_mem (fun {i j} hi hj hne => ?_) i1
    have hi' := i2 i hi
    have hj' := i2 j hj
    rw [List.getElem?_eq_getElem hi', List.getElem?_eq_getElem hj']
    simp only [Option.map_some, ne_eq, Option.some.injEq]
    have hk := List.pairwise_iff_getElem.1 h.keys
    rcases Nat.lt_trichotomy i j with h' | h' | h'
    · have := hk i j (by simpa using hi') (by simpa using hj') h'
      simpa using this
    · exact absurd h' hne
    · have := hk j i (by simpa using hj') (by simpa using hi') h'
      simp only [List.getElem_map] at this
      exact fun e => this e.symm
  rw [← i4, List.pairwise_map] at h1
  rw [List.Nodup, List.pairwise_map]
  exact h1.imp fun h e => h (by simp [e])
def posK (out : FM) : List Stamp := (out.filter posM).map (·.1)
theorem posK_snoc (out : FM) (y : Stamp × Int) : posK (out ++ [y]) = if posM y then posK out ++ [y.1] else posK out := by
  unfold posK
  rw [List.filter_append]
  cases h : posM y <;> simp [h]
theorem posK_len (out : FM) : (posK out).length ≤ out.length := by
  unfold posK
  rw [List.length_map]
  exact List.length_filter_le ..
theorem ct_above {w : World} {g gm : Nat} {m : FM} {es : Array MapEntry} {clock : Nat} (hg : w.heap[g]? = some (.cells [.map (some gm)].toArray 91 (0, 0))) (hgm : w.heap[gm]? = some (.map es clock)) (hm : Mp kStamp vI m es clock) (hlen : m.length ≤ 100000000) :
    Calls Try.prog 160 #[.pointer (some ⟨g, 0, none⟩)] w (RetOw w (aboveM m).length 3 (cat Stamp.l (aboveM m)) 38) := by
  have hne : g ≠ gm := fun e => by rw [e, hgm] at hg; cases hg
  refine enter (args := [_]) (M := []) (K := []) Try.func160 rfl Try.ntmps160 rfl (St.refl _ _) ?_
  refine gc_old hgm (by simp) (by simp) ?_
  refine gc_old hg (by simp) (by simpa using hne) ?_
  repeat' first
    | refine gl_rng0 ?_; refine gl_ev (ev_range tab_ok rfl rfl rfl rfl c_mem ?_) rfl rfl; intro r_ hr_
    | (refine gl_gate ?_; first
      | refine gl_nil ?_
      | (refine gl_load0 ?_; refine gl_yv (yv_load tab_ok (gok_none rfl) rfl rfl (fun _ => rfl) c_mem (fun _ => c_lds)) rfl rfl ?_)
      | (refine gl_any0 ?_; refine gl_pure tab_ok rfl rfl rfl rfl rfl rfl ?_))
    | (refine gc_gate ?_; first
      | refine gc_seq ?_
      | refine gc_region ?_
      | refine gc_false rfl ?_
      | refine gc_block ?_
      | refine gc_skip ?_)
    | (refine ge_gate ?_; first
      | ((with_reducible refine ge_gT ?_); first | with_reducible refine ge_then ?_ | with_reducible refine ge_then_exit ?_ | with_reducible refine ge_then_ret ?_))
  refine gc_loop (α := FM × Array Nat × Option Nat × Nat × List Value) (fun x => [(3, true, .slice (x.2.2.1.map ad) (posK x.1).length x.2.2.2.1), (12, true, .pointer (some ⟨r_, 0, none⟩))])
    (fun x => ow x.2.2.1 true (cat Stamp.l (posK x.1) ++ x.2.2.2.2) 38 ++ [(r_, true, .mapIter (some gm) clock x.2.1 clock), (g, false, .cells [.map (some gm)].toArray 91 (0, 0)), (gm, false, .map es clock)]) (fun x => Rng m es x.2.1 x.1 ∧ Ow x.2.2.1 (posK x.1).length x.2.2.2.1 3 (cat Stamp.l (posK x.1)) x.2.2.2.2 ∧ x.1.length ≤ m.length) (fun x => m.length - x.1.length) ([], #[], none, 0, []) c_frs (List.Sublist.refl _) ⟨Rng.start, Ow.none0, Nat.zero_le _⟩ ?_
  rintro ⟨out, seen, q, c, sp⟩ ⟨hs, ho, hl⟩
  dsimp only at hs ho hl ⊢
  have hpl := posK_len out
  repeat' first
    | refine gl_nxt0 ?_; refine gl_ev (ev_next rfl rfl rfl c_mem c_mem hm hs (fun hp_ => ?_) (fun y_ seen_ y1_ y2_ y3_ y4_ => ⟨_, c_ku, ?_⟩)) rfl rfl
    | refine gl_ent0 ?_; refine gl_yv (yv_entry (gok_none rfl) rfl rfl (fun _ => rfl) c_mem c_mem hm y4_) rfl rfl ?_
    | (refine gl_gate ?_; first
      | refine gl_nil ?_
      | (refine gl_load0 ?_; refine gl_yv (yv_load tab_ok (gok_none rfl) rfl rfl (fun _ => rfl) c_mem (fun _ => c_lds)) rfl rfl ?_)
      | (refine gl_app0 ?_; (refine gl_ev (ev_append tab_ok rfl rfl rfl rfl rfl rfl rfl rfl c_oa (ho) (c_src) c_lim c_lim ?_) rfl rfl; intro p_ c_ sp_ hw_))
      | (refine gl_bld0 ?_; (refine gl_ev (ev_buildSlice tab_ok rfl rfl rfl rfl rfl rfl rfl rfl rfl rfl ?_) rfl rfl; intro g_ hg_))
      | (refine gl_alc0 ?_; (refine gl_alloc tab_ok rfl rfl rfl rfl rfl ?_; intro g_ hg_))
      | (refine gl_sto0 ?_; refine gl_store tab_ok rfl rfl rfl rfl rfl rfl rfl c_one rfl c_ku ?_)
      | (refine gl_any0 ?_; refine gl_pure tab_ok rfl rfl rfl rfl rfl rfl ?_))
    | (refine gc_gate ?_; first
      | refine gc_seq ?_
      | refine gc_region ?_
      | refine gc_true rfl ?_
      | refine gc_false rfl ?_
      | (refine gc_cond rfl ?_ ?_ <;> intro h_ <;> have hd_ := h_ <;> (try simp only [bytes_beq, cell_beq, val_beq, stamp_beq, decide_eq_true_eq, decide_eq_false_iff_not, Bool.and_eq_true, Bool.or_eq_true, Bool.or_eq_false_iff, Bool.not_eq_true', Bool.not_eq_false', Bool.not_true, Bool.not_false, Bool.false_or, Bool.true_and, Bool.and_true, Bool.or_false, beq_iff_eq, bne_iff_ne, beq_eq_false_iff_ne, bne_eq_false_iff_eq, ne_eq, Bool.false_eq_true, reduceCtorEq] at hd_) <;> (try (exfalso; omega)))
      | refine gc_block ?_
      | refine gc_exit ?_
      | refine gc_skip ?_)
    | (refine ge_gate ?_; first
      | ((with_reducible refine ge_gT ?_); first | with_reducible refine ge_then ?_ | with_reducible refine ge_then_exit ?_ | with_reducible refine ge_then_ret ?_)
      | ((with_reducible refine ge_gK ?_); first | with_reducible refine ge_block ?_ | refine ge_block_exit ?_ | refine ge_block_pass rfl ?_ | with_reducible refine ge_block_ret ?_))
  · have hkeys : (posK out).Nodup := ((hp_.map (·.1)).nodup_iff.2 hm.keys).sublist ((List.filter_sublist ..).map _)
    have hsort : sortT (posK out) = aboveM m := sortT_of_perm hkeys ((hp_.filter _).map _)
    have hlen2 : (aboveM m).length = (posK out).length := by rw [← hsort, sortT_length]
    rw [← hsort]
    rw [hsort, hlen2]
    rcases q with _ | g2
    · have h1 := ho.nil rfl
      have h2 := ho.le
      have h3 : posK out = [] := List.eq_nil_of_length_eq_zero (by omega)
      rw [← hsort]
      generalize posK out = X at *
      subst h3
      repeat' first
        | (refine gl_gate ?_; first
          | refine gl_nil ?_
          | (refine gl_calv0 ?_; first | refine gl_yd (yd_call (gok_none rfl) rfl ent204 rfl rfl (fun _ => allT_of rfl) (fun _ W hW => ct_sortNoneT c none _ W)) rfl rfl ?_)
          | (refine gl_any0 ?_; refine gl_pure tab_ok rfl rfl rfl rfl rfl rfl ?_))
        | (refine gc_gate ?_; first
          | refine gc_seq ?_
          | refine gc_region ?_
          | refine gc_ret ?_)
        | (refine ge_gate ?_; first
          | ((with_reducible refine ge_gT ?_); first | with_reducible refine ge_then ?_ | with_reducible refine ge_then_exit ?_ | with_reducible refine ge_then_ret ?_)
          | ((with_reducible refine ge_gB ?_); first | refine ge_ret1 tab_ok rfl c_rvt ?_ | refine ge_end1 tab_ok rfl c_rvt ?_ | refine ge_ret2 tab_ok rfl c_rvt c_rvt ?_ | refine ge_ret_none rfl ?_ | refine ge_end_none rfl ?_))
      intro W hW
      subst h1
      have h5 : sp = [] := List.eq_nil_of_length_eq_zero (by have := ho.room; simpa using this)
      subst h5
      exact ⟨none, 0, [], rfl, ⟨by simp [sortT, cat], rfl, Nat.le_refl _, fun _ => rfl⟩, hW.drop (List.nil_sublist _)⟩
    · refine gl_ev (ev_callG (val := fun _ : Unit => .tuple #[]) (ob := fun _ => .cells (cat Stamp.l (sortT (posK out)) ++ sp).toArray 38 (0, 0)) (φ := fun _ => True) (g := g2) (o1 := .cells (cat Stamp.l (posK out) ++ sp).toArray 38 (0, 0)) rfl rfl ent204 rfl rfl rfl (fun W hW => ct_sortStamps (g := g2) (c := c) (xs := posK out) (sp := sp) (w := W) (hW.kn (wr := true) c_mem) (by omega)) (fun x hx => ⟨_, c_ku, ?_⟩)) rfl rfl
      repeat' first
        | (refine gl_gate ?_; first
          | refine gl_nil ?_
          | (refine gl_any0 ?_; refine gl_pure tab_ok rfl rfl rfl rfl rfl rfl ?_))
        | (refine gc_gate ?_; first
          | refine gc_seq ?_
          | refine gc_region ?_
          | refine gc_ret ?_)
        | (refine ge_gate ?_; first
          | ((with_reducible refine ge_gT ?_); first | with_reducible refine ge_then ?_ | with_reducible refine ge_then_exit ?_ | with_reducible refine ge_then_ret ?_)
          | ((with_reducible refine ge_gB ?_); first | refine ge_ret1 tab_ok rfl c_rvt ?_ | refine ge_end1 tab_ok rfl c_rvt ?_ | refine ge_ret2 tab_ok rfl c_rvt c_rvt ?_ | refine ge_ret_none rfl ?_ | refine ge_end_none rfl ?_))
      intro W hW
      rw [← hsort]
      exact ⟨some g2, c, sp, rfl, ⟨by rw [repT, sortT_length], ho.room, ho.le, ho.nil⟩, hW.drop (List.Sublist.cons_cons _ (List.nil_sublist _))⟩
  · have e : posK (out ++ [y_]) = posK out ++ [y_.1] := by rw [posK_snoc, if_pos (show posM y_ = true from h_)]
    refine ge_round (out ++ [y_], seen_, p_, c_, sp_) ⟨y4_, ?_, by rw [List.length_append]; exact y3_⟩ (by show m.length - (out ++ [y_]).length < m.length - out.length; rw [List.length_append]; simp; omega) ?_ ?_
    · dsimp only
      rw [e, List.length_append, cat_snoc]
      exact hw_
    · dsimp only
      rw [e, List.length_append]
      exact c_frs
    · dsimp only
      rw [e, cat_snoc]
      exact List.Sublist.append (List.Sublist.refl _) (List.Sublist.cons _ (List.Sublist.cons _ (List.Sublist.refl _)))
  · have e : posK (out ++ [y_]) = posK out := by rw [posK_snoc, if_neg (show ¬ posM y_ = true by rw [show posM y_ = false from h_]; simp)]
    refine ge_round (out ++ [y_], seen_, q, c, sp) ⟨y4_, ?_, by rw [List.length_append]; exact y3_⟩ (by show m.length - (out ++ [y_]).length < m.length - out.length; rw [List.length_append]; simp; omega) ?_ ?_
    all_goals
      dsimp only
      rw [e]
    · exact ho
    · exact c_frs
    · exact List.Sublist.cons _ (List.Sublist.refl _)
theorem ct_above0 {w : World} {g : Nat} (hg : w.heap[g]? = some (.cells [.map none].toArray 91 (0, 0))) :
    Calls Try.prog 160 #[.pointer (some ⟨g, 0, none⟩)] w (RetOw w 0 3 [] 38) := by
  refine enter (args := [_]) (M := []) (K := []) Try.func160 rfl Try.ntmps160 rfl (St.refl _ _) ?_
  refine gc_old hg (by simp) (by simp) ?_
  repeat' first
    | (refine gl_rng0 ?_; refine gl_ev (ev_rangeNil tab_ok rfl rfl rfl rfl ?_) rfl rfl; intro r_ hr_)
    | (refine gl_gate ?_; first
      | refine gl_nil ?_
      | (refine gl_load0 ?_; refine gl_yv (yv_load tab_ok (gok_none rfl) rfl rfl (fun _ => rfl) c_mem (fun _ => c_lds)) rfl rfl ?_)
      | (refine gl_any0 ?_; refine gl_pure tab_ok rfl rfl rfl rfl rfl rfl ?_))
    | (refine gc_gate ?_; first
      | refine gc_seq ?_
      | refine gc_region ?_
      | refine gc_false rfl ?_
      | refine gc_block ?_
      | refine gc_skip ?_)
    | (refine ge_gate ?_; first
      | ((with_reducible refine ge_gT ?_); first | with_reducible refine ge_then ?_ | with_reducible refine ge_then_exit ?_ | with_reducible refine ge_then_ret ?_))
  refine gc_rounds 0 ?_
  repeat' first
    | (refine gl_nxt0 ?_; refine gl_ev (ev_nextNil rfl rfl rfl c_mem ?_) rfl rfl)
    | (refine gl_gate ?_; first
      | refine gl_nil ?_
      | (refine gl_calv0 ?_; first | refine gl_yd (yd_call (gok_none rfl) rfl ent204 rfl rfl (fun _ => allT_of rfl) (fun _ W hW => ct_sortNoneT 0 none _ W)) rfl rfl ?_)
      | (refine gl_any0 ?_; refine gl_pure tab_ok rfl rfl rfl rfl rfl rfl ?_))
    | (refine gc_gate ?_; first
      | refine gc_seq ?_
      | refine gc_region ?_
      | refine gc_false rfl ?_
      | refine gc_exit ?_
      | refine gc_ret ?_)
    | (refine ge_gate ?_; first
      | ((with_reducible refine ge_gT ?_); first | with_reducible refine ge_then ?_ | with_reducible refine ge_then_exit ?_ | with_reducible refine ge_then_ret ?_)
      | ((with_reducible refine ge_gK ?_); first | with_reducible refine ge_block ?_ | refine ge_block_exit ?_ | refine ge_block_pass rfl ?_ | with_reducible refine ge_block_ret ?_)
      | ((with_reducible refine ge_gB ?_); first | refine ge_ret1 tab_ok rfl c_rvt ?_ | refine ge_end1 tab_ok rfl c_rvt ?_ | refine ge_ret2 tab_ok rfl c_rvt c_rvt ?_ | refine ge_ret_none rfl ?_ | refine ge_end_none rfl ?_))
  intro W hW
  exact ⟨none, 0, [], rfl, Ow.none0, hW.drop (List.nil_sublist _)⟩
end Go.Proofs.Ytkgjfcjciigcgaa
