/-
  The program's Front: Least, Passed; slices of stamps searched, thinned out.
-/
import Derived.Test.YtkgjfcjciigcgaaGoFront
namespace Go.Proofs.Ytkgjfcjciigcgaa
open Go.Proofs.Ytkgjfcjciigcgaa.Sl Go.RowKit
set_option linter.unusedVariables false
set_option linter.unusedSimpArgs false
set_option linter.unusedSectionVars false
set_option maxRecDepth 100000

def idxS (pr : Stamp → Bool) : List Stamp → Nat → Int
  | [], _ => -1
  | x :: r, i => if pr x then (i : Int) else idxS pr r (i + 1)
theorem idxS_ge (pr : Stamp → Bool) : ∀ (l : List Stamp) (i : Nat), decide (idxS pr l i ≥ 0) = l.any pr
  | [], i => by simp [idxS]
  | x :: r, i => by
    unfold idxS
    cases h : pr x with
    | true => simp [h]
    | false => simp [h, idxS_ge pr r (i + 1)]
theorem idxS_spec (pr : Stamp → Bool) : ∀ (l : List Stamp) (o : Nat), (idxS pr l o = -1 ∧ ∀ x ∈ l, pr x = false) ∨ ∃ i, i < l.length ∧ idxS pr l o = ((o + i : Nat) : Int) ∧ (∀ x ∈ l.take i, pr x = false) ∧ pr (l.getD i default) = true
  | [], o => .inl ⟨rfl, fun x hx => by cases hx⟩
  | x :: r, o => by
    unfold idxS
    cases h : pr x with
    | true => exact .inr ⟨0, by simp, by simp, by simp, by simpa using h⟩
    | false =>
      rcases idxS_spec pr r (o + 1) with ⟨h1, h2⟩ | ⟨i, h1, h2, h3, h4⟩
      · refine .inl ⟨by simpa using h1, fun y hy => ?_⟩
        rcases List.mem_cons.1 hy with rfl | hy
        · exact h
        · exact h2 y hy
      · refine .inr ⟨i + 1, by simpa using h1, ?_, fun y hy => ?_, by simpa using h4⟩
        · simp only [Bool.false_eq_true, if_false]
          rw [h2]
          congr 1
          omega
        · rw [List.take_succ_cons] at hy
          rcases List.mem_cons.1 hy with rfl | hy
          · exact h
          · exact h3 y hy
theorem ct_IndexS {w : World} {f : FuncId} {cap : Array Value} {pr : Stamp → Bool} (hf : Ent Try.prog f) {l : List Stamp} {p : Option Addr} {n c : Nat} (hn : n = l.length) (hs : SlA w 3 p n (fun i => (l.getD i default).l)) (hl : n ≤ 4611686018427387904)
    (hc : ∀ x W, St w [] [] W → Calls Try.prog f (.agg x.l.toArray :: cap.toList).toArray W fun e W' => e = .returned (.bool (pr x)) ∧ Bl W W') : Calls Try.prog 205 #[.slice p n c, .func (.func f) #[] cap] w fun e w' => e = .returned (.int .i64 (idxS pr l 0)) ∧ Bl w w' := by
  refine enter (args := [_, _]) (M := []) (K := []) Try.func205 rfl Try.ntmps205 rfl (St.refl _ _) ?_
  repeat' first
    | (refine gl_gate ?_; first
      | refine gl_nil ?_
      | (refine gl_any0 ?_; refine gl_pure tab_ok rfl rfl rfl rfl rfl rfl ?_))
    | (refine gc_gate ?_; first
      | refine gc_seq ?_
      | refine gc_region ?_
      | refine gc_block ?_)
    | (refine ge_gate ?_; first
      | ((with_reducible refine ge_gT ?_); first | with_reducible refine ge_then ?_ | with_reducible refine ge_then_exit ?_ | with_reducible refine ge_then_ret ?_))
  refine gc_loop (α := Nat) (fun i => [(0, true, .slice p n c), (1, true, .func (.func f) #[] cap), (7, true, .int .i64 n), (8, true, .int .i64 (i : Int))]) (fun _ => []) (fun i => i ≤ n ∧ idxS pr (l.drop i) i = idxS pr l 0) (fun i => n - i) 0 c_frs c_sub ⟨Nat.zero_le _, by simp⟩ ?_
  rintro i ⟨hi, he⟩
  repeat' first
    | (refine gl_any0 ?_; refine gl_yd (yd_callV (av := .agg (l.getD i default).l.toArray :: cap.toList) (gok_none rfl) rfl rfl (fun _ => rfl) hf rfl rfl (fun _ => allT_of rfl) rfl (fun _ W hW => hc _ W hW)) rfl rfl ?_)
    | (refine gl_gate ?_; first
      | refine gl_nil ?_
      | (refine gl_add0 ?_; refine gl_yv (yv_add tab_ok (gok_none rfl) rfl rfl rfl rfl (fun _ => allT_of rfl) (by intro _; omega)) rfl rfl ?_)
      | (refine gl_idx0 ?_; refine gl_yv (yv_idxA tab_ok hs (gok_none rfl) rfl rfl rfl rfl rfl rfl (fun _ => rfl) (fun _ => rfl) c_bnd) rfl rfl ?_)
      | (refine gl_load0 ?_; refine gl_yv (yv_ldA0 tab_ok hs c_nm (gok_none rfl) rfl rfl (fun _ => rfl) c_bnd (fun _ => c_lds)) rfl rfl ?_)
      | (refine gl_any0 ?_; refine gl_pure tab_ok rfl rfl rfl rfl rfl rfl ?_))
    | (refine gc_gate ?_; first
      | refine gc_seq ?_
      | refine gc_region ?_
      | (refine gc_cond rfl ?_ ?_ <;> intro h_ <;> have hd_ := h_ <;> (try simp only [bytes_beq, cell_beq, val_beq, stamp_beq, decide_eq_true_eq, decide_eq_false_iff_not, Bool.and_eq_true, Bool.or_eq_true, Bool.or_eq_false_iff, Bool.not_eq_true', Bool.not_eq_false', Bool.not_true, Bool.not_false, Bool.false_or, Bool.true_and, Bool.and_true, Bool.or_false, beq_iff_eq, bne_iff_ne, beq_eq_false_iff_ne, bne_eq_false_iff_eq, ne_eq, Bool.false_eq_true, reduceCtorEq] at hd_) <;> (try (exfalso; omega)))
      | refine gc_block ?_
      | refine gc_exit ?_
      | refine gc_ret ?_
      | refine gc_skip ?_)
    | (refine ge_gate ?_; first
      | ((with_reducible refine ge_gT ?_); first | with_reducible refine ge_then ?_ | with_reducible refine ge_then_exit ?_ | with_reducible refine ge_then_ret ?_)
      | ((with_reducible refine ge_gK ?_); first | with_reducible refine ge_block ?_ | refine ge_block_exit ?_ | refine ge_block_pass rfl ?_ | with_reducible refine ge_block_ret ?_)
      | ((with_reducible refine ge_gB ?_); first | refine ge_ret1 tab_ok rfl c_rvt ?_ | refine ge_end1 tab_ok rfl c_rvt ?_ | refine ge_ret2 tab_ok rfl c_rvt c_rvt ?_ | refine ge_ret_none rfl ?_ | refine ge_end_none rfl ?_))
  · intro W hW
    refine ⟨?_, hW.below0⟩
    rw [← he, drop_consD l i (by omega), idxS, hd_]
    rfl
  · refine ge_round (i + 1) ⟨by omega, ?_⟩ (by omega) c_frs c_sub
    rw [← he, drop_consD l i (by omega), idxS, hd_]
    rfl
  · intro W hW
    refine ⟨?_, hW.below0⟩
    rw [← he, List.drop_of_length_le (by omega), idxS]
theorem ct_ContainsS {w : World} {f : FuncId} {cap : Array Value} {pr : Stamp → Bool} (hf : Ent Try.prog f) {l : List Stamp} {p : Option Addr} {n c : Nat} (hn : n = l.length) (hs : SlA w 3 p n (fun i => (l.getD i default).l)) (hl : n ≤ 4611686018427387904)
    (hc : ∀ x W, St w [] [] W → Calls Try.prog f (.agg x.l.toArray :: cap.toList).toArray W fun e W' => e = .returned (.bool (pr x)) ∧ Bl W W') : Calls Try.prog 164 #[.slice p n c, .func (.func f) #[] cap] w fun e w' => e = .returned (.bool (l.any pr)) ∧ Bl w w' := by
  refine enter (args := [_, _]) (M := []) (K := []) Try.func164 rfl Try.ntmps164 rfl (St.refl _ _) ?_
  repeat' first
    | (refine gl_gate ?_; first
      | refine gl_nil ?_
      | (refine gl_calv0 ?_; first | refine gl_yd (yd_call (gok_none rfl) rfl ent205 rfl rfl (fun _ => allT_of rfl) (fun _ W hW => ct_IndexS hf hn (hs.st hW) hl (fun x W' h' => hc x W' (hW.trans0 h')))) rfl rfl ?_)
      | (refine gl_any0 ?_; refine gl_pure tab_ok rfl rfl rfl rfl rfl rfl ?_))
    | (refine gc_gate ?_; first
      | refine gc_seq ?_
      | refine gc_region ?_
      | refine gc_ret ?_)
    | (refine ge_gate ?_; first
      | ((with_reducible refine ge_gT ?_); first | with_reducible refine ge_then ?_ | with_reducible refine ge_then_exit ?_ | with_reducible refine ge_then_ret ?_)
      | ((with_reducible refine ge_gB ?_); first | refine ge_ret1 tab_ok rfl c_rvt ?_ | refine ge_end1 tab_ok rfl c_rvt ?_ | refine ge_ret2 tab_ok rfl c_rvt c_rvt ?_ | refine ge_ret_none rfl ?_ | refine ge_end_none rfl ?_))
  intro W hW
  refine ⟨?_, hW.below0⟩
  rw [idxS_ge]
theorem within_wi (a b : Stamp) : within a.epoch a.rank a.round b.epoch b.rank b.round = wi a b := rfl
theorem ct_Least11 (x s : Stamp) (g : Nat) (w : World) (hg : w.heap[g]? = some (.cells s.l.toArray 38 (0, 0))) : Calls Try.prog 165 #[.agg x.l.toArray, .pointer (some ⟨g, 0, none⟩)] w fun e w' => e = .returned (.bool (!decide (x = s) && wi x s)) ∧ Bl w w' := by
  refine enter (args := [_, _]) (M := []) (K := []) Try.func165 rfl Try.ntmps165 rfl (St.refl _ _) ?_
  refine gc_old hg (by simp) (by simp) ?_
  repeat' first
    | (refine gl_gate ?_; first
      | refine gl_nil ?_
      | (refine gl_load0 ?_; refine gl_yv (yv_load tab_ok (gok_none rfl) rfl rfl (fun _ => rfl) c_mem (fun _ => c_lds)) rfl rfl ?_)
      | (refine gl_calvG ?_; first | refine gl_yd (yd_call c_gok rfl ent44 rfl rfl c_allT (fun _ W hW => ct_Within _ _ _ _ _ _ W)) rfl rfl ?_)
      | (refine gl_pick0 ?_; first | refine gl_yv (yv_and (gok_none rfl) rfl rfl rfl (fun _ => rfl) c_imp2) rfl rfl ?_ | refine gl_yv (yv_or (gok_none rfl) rfl rfl rfl (fun _ => rfl) c_imp2) rfl rfl ?_)
      | (refine gl_loadG ?_; refine gl_yv (yv_load tab_ok c_gok rfl rfl c_imp c_mem (fun _ => c_lds)) rfl rfl ?_)
      | (refine gl_box0 ?_; first | (refine gl_box_agg rfl rfl rfl rfl rfl ?_; intro g_ hg_) | (refine gl_box_one rfl rfl rfl rfl rfl rfl ?_; intro g_ hg_) | (refine gl_box rfl rfl rfl rfl rfl ?_; intro g_ hg_))
      | (refine gl_any0 ?_; refine gl_pure tab_ok rfl rfl rfl rfl rfl rfl ?_)
      | (refine gl_neS ?_; first | refine gl_yv (yv_neS tab_ok eqs_ok c_gok rfl rfl rfl rfl c_allT rfl rfl rfl) rfl rfl ?_))
    | (refine gc_gate ?_; first
      | refine gc_seq ?_
      | refine gc_region ?_
      | refine gc_ret ?_)
    | (refine ge_gate ?_; first
      | ((with_reducible refine ge_gT ?_); first | with_reducible refine ge_then ?_ | with_reducible refine ge_then_exit ?_ | with_reducible refine ge_then_ret ?_)
      | ((with_reducible refine ge_gB ?_); first | refine ge_ret1 tab_ok rfl c_rvt ?_ | refine ge_end1 tab_ok rfl c_rvt ?_ | refine ge_ret2 tab_ok rfl c_rvt c_rvt ?_ | refine ge_ret_none rfl ?_ | refine ge_end_none rfl ?_))
  intro W hW
  refine ⟨?_, hW.below0⟩
  rw [within_wi, stamp_beq]
theorem ct_Passed1 (x s : Stamp) (g : Nat) (w : World) (hg : w.heap[g]? = some (.cells s.l.toArray 38 (0, 0))) : Calls Try.prog 166 #[.agg x.l.toArray, .pointer (some ⟨g, 0, none⟩)] w fun e w' => e = .returned (.bool (wi x s)) ∧ Bl w w' := by
  refine enter (args := [_, _]) (M := []) (K := []) Try.func166 rfl Try.ntmps166 rfl (St.refl _ _) ?_
  refine gc_old hg (by simp) (by simp) ?_
  repeat' first
    | (refine gl_gate ?_; first
      | refine gl_nil ?_
      | (refine gl_load0 ?_; refine gl_yv (yv_load tab_ok (gok_none rfl) rfl rfl (fun _ => rfl) c_mem (fun _ => c_lds)) rfl rfl ?_)
      | (refine gl_calv0 ?_; first | refine gl_yd (yd_call (gok_none rfl) rfl ent44 rfl rfl (fun _ => allT_of rfl) (fun _ W hW => ct_Within _ _ _ _ _ _ W)) rfl rfl ?_)
      | (refine gl_box0 ?_; first | (refine gl_box_agg rfl rfl rfl rfl rfl ?_; intro g_ hg_) | (refine gl_box_one rfl rfl rfl rfl rfl rfl ?_; intro g_ hg_) | (refine gl_box rfl rfl rfl rfl rfl ?_; intro g_ hg_))
      | (refine gl_any0 ?_; refine gl_pure tab_ok rfl rfl rfl rfl rfl rfl ?_))
    | (refine gc_gate ?_; first
      | refine gc_seq ?_
      | refine gc_region ?_
      | refine gc_ret ?_)
    | (refine ge_gate ?_; first
      | ((with_reducible refine ge_gT ?_); first | with_reducible refine ge_then ?_ | with_reducible refine ge_then_exit ?_ | with_reducible refine ge_then_ret ?_)
      | ((with_reducible refine ge_gB ?_); first | refine ge_ret1 tab_ok rfl c_rvt ?_ | refine ge_end1 tab_ok rfl c_rvt ?_ | refine ge_ret2 tab_ok rfl c_rvt c_rvt ?_ | refine ge_ret_none rfl ?_ | refine ge_end_none rfl ?_))
  intro W hW
  exact ⟨rfl, hW.below0⟩
def within1 (l : List Stamp) (s : Stamp) : Bool := l.any fun x => !decide (x = s) && wi x s
theorem ct_Least1 (s : Stamp) (g : Nat) (l : List Stamp) (p : Option Addr) (n c : Nat) (w : World) (hg : w.heap[g]? = some (.cells [.slice p n c].toArray 98 (0, 0))) (hn : n = l.length) (hs : SlA w 3 p n (fun i => (l.getD i default).l)) (hl : n ≤ 4611686018427387904) : Calls Try.prog 163 #[.agg s.l.toArray, .pointer (some ⟨g, 0, none⟩)] w fun e w' => e = .returned (.bool (within1 l s)) ∧ Bl w w' := by
  refine enter (args := [_, _]) (M := []) (K := []) Try.func163 rfl Try.ntmps163 rfl (St.refl _ _) ?_
  refine gc_old hg (by simp) (by simp) ?_
  repeat' first
    | (refine gl_gate ?_; first
      | refine gl_nil ?_
      | (refine gl_load0 ?_; refine gl_yv (yv_load tab_ok (gok_none rfl) rfl rfl (fun _ => rfl) c_mem (fun _ => c_lds)) rfl rfl ?_)
      | (refine gl_calv0 ?_; first | refine gl_yd (yd_call (gok_none rfl) rfl ent164 rfl rfl (fun _ => allT_of rfl) (fun _ W hW => ct_ContainsS (pr := fun x => !decide (x = s) && wi x s) ent165 hn (hs.st hW) hl (fun x W' h' => ct_Least11 x s _ W' (by rw [h'.frame _ (hW.lt (e := (_, true, Obj.cells s.l.toArray 38 (0, 0))) c_mem) (by simp)]; exact hW.kn (wr := true) c_mem)))) rfl rfl ?_)
      | (refine gl_box0 ?_; first | (refine gl_box_agg rfl rfl rfl rfl rfl ?_; intro g_ hg_) | (refine gl_box_one rfl rfl rfl rfl rfl rfl ?_; intro g_ hg_) | (refine gl_box rfl rfl rfl rfl rfl ?_; intro g_ hg_))
      | (refine gl_any0 ?_; refine gl_pure tab_ok rfl rfl rfl rfl rfl rfl ?_))
    | (refine gc_gate ?_; first
      | refine gc_seq ?_
      | refine gc_region ?_
      | refine gc_ret ?_)
    | (refine ge_gate ?_; first
      | ((with_reducible refine ge_gT ?_); first | with_reducible refine ge_then ?_ | with_reducible refine ge_then_exit ?_ | with_reducible refine ge_then_ret ?_)
      | ((with_reducible refine ge_gB ?_); first | refine ge_ret1 tab_ok rfl c_rvt ?_ | refine ge_end1 tab_ok rfl c_rvt ?_ | refine ge_ret2 tab_ok rfl c_rvt c_rvt ?_ | refine ge_ret_none rfl ?_ | refine ge_end_none rfl ?_))
  intro W hW
  exact ⟨rfl, hW.below0⟩
theorem elemsAll {α : Type} [Inhabited α] {f : α → List Value} {l : List α} : (elems l.length (fun j => f (l.getD j default))).flatten = cat f l := by
  have := elemsTake (f := f) (Nat.le_refl l.length)
  rwa [List.take_length] at this
theorem ct_CloneS (w : World) (l : List Stamp) (pa : Option Addr) (n cap : Nat) (hn : n = l.length) (hs : SlA w 3 pa n (fun i => (l.getD i default).l)) (hl : n ≤ 1000000000) : Calls Try.prog 162 #[.slice pa n cap] w (RetOw w n 3 (cat Stamp.l l) 38) := by
  rcases pa with _ | a
  · have h0 : n = 0 := by
      rcases Nat.eq_zero_or_pos n with h | h
      · exact h
      · have := hs.ptr h; cases this
    subst h0
    have h1 : l = [] := List.eq_nil_of_length_eq_zero hn.symm
    subst h1
    refine enter (args := [_]) (M := []) (K := []) Try.func162 rfl Try.ntmps162 rfl (St.refl _ _) ?_
    repeat' first
      | (refine gl_gate ?_; first
        | refine gl_nil ?_
        | (refine gl_any0 ?_; refine gl_pure tab_ok rfl rfl rfl rfl rfl rfl ?_))
      | (refine gc_gate ?_; first
        | refine gc_seq ?_
        | refine gc_region ?_
        | refine gc_true rfl ?_
        | refine gc_ret ?_)
      | (refine ge_gate ?_; first
        | ((with_reducible refine ge_gT ?_); first | with_reducible refine ge_then ?_ | with_reducible refine ge_then_exit ?_ | with_reducible refine ge_then_ret ?_)
        | ((with_reducible refine ge_gB ?_); first | refine ge_ret1 tab_ok rfl c_rvt ?_ | refine ge_end1 tab_ok rfl c_rvt ?_ | refine ge_ret2 tab_ok rfl c_rvt c_rvt ?_ | refine ge_ret_none rfl ?_ | refine ge_end_none rfl ?_))
    intro W hW
    exact ⟨none, 0, [], rfl, Ow.none0, hW⟩
  · refine enter (args := [_]) (M := []) (K := []) Try.func162 rfl Try.ntmps162 rfl (St.refl _ _) ?_
    repeat' first
      | (refine gl_gate ?_; first
        | refine gl_nil ?_
        | (refine gl_any0 ?_; (refine gl_ev (ev_buildSlice0 tab_ok rfl rfl rfl rfl ?_) rfl rfl; intro g_ hg_))
        | (refine gl_app0 ?_; (refine gl_ev (ev_append tab_ok rfl rfl rfl rfl rfl rfl rfl rfl c_oa ((Ow.some0 (g := g_) (k := 3))) (src_slA tab_ok rfl hs (fun _ => List.not_mem_nil) (fun j hj u hu => ones_stamp _ u hu)) c_lim c_lim ?_) rfl rfl; intro p_ c_ sp_ hw_))
        | (refine gl_any0 ?_; refine gl_pure tab_ok rfl rfl rfl rfl rfl rfl ?_))
      | (refine gc_gate ?_; first
        | refine gc_seq ?_
        | refine gc_region ?_
        | refine gc_false rfl ?_
        | refine gc_ret ?_
        | refine gc_skip ?_)
      | (refine ge_gate ?_; first
        | ((with_reducible refine ge_gT ?_); first | with_reducible refine ge_then ?_ | with_reducible refine ge_then_exit ?_ | with_reducible refine ge_then_ret ?_)
        | ((with_reducible refine ge_gB ?_); first | refine ge_ret1 tab_ok rfl c_rvt ?_ | refine ge_end1 tab_ok rfl c_rvt ?_ | refine ge_ret2 tab_ok rfl c_rvt c_rvt ?_ | refine ge_ret_none rfl ?_ | refine ge_end_none rfl ?_))
    intro W hW
    subst hn
    rw [Nat.zero_add, elemsAll] at hw_
    rw [elemsAll] at hW
    exact ⟨p_, c_, sp_, by simp, hw_, hW.drop (List.sublist_append_left _ _)⟩
theorem putT (v : Stamp) (sp : List Value) : ∀ (l : List Stamp) (i : Nat), i < l.length → putL (i * 3) v.l (cat Stamp.l l ++ sp) = some (cat Stamp.l (l.set i v) ++ sp)
  | x :: r, 0, _ => by
    have e2 : cat Stamp.l (x :: r) ++ sp = .int .i64 x.epoch :: .int .i64 x.rank :: .int .i64 x.round :: (cat Stamp.l r ++ sp) := by simp [cat, Stamp.l]
    rw [e2]
    simp [putL, cat, Stamp.l]
  | x :: r, i + 1, h => by
    have ih := putT v sp r i (by simpa using h)
    have e1 : (i + 1) * 3 = (i * 3) + 3 := by omega
    have e2 : cat Stamp.l (x :: r) ++ sp = .int .i64 x.epoch :: .int .i64 x.rank :: .int .i64 x.round :: (cat Stamp.l r ++ sp) := by simp [cat, Stamp.l]
    rw [e1, e2]
    have e3 : ∀ (o : Nat) (c : List Value) (a b d : Value) (t r' : List Value), putL o c t = some r' → putL (o + 3) c (a :: b :: d :: t) = some (a :: b :: d :: r') := by
      intro o c a b d t r' hr
      simp [putL, hr]
    rw [e3 _ _ _ _ _ _ _ ih]
    simp [cat, Stamp.l]
def z38 : List Value := [.int .i64 0, .int .i64 0, .int .i64 0]
theorem ct_DeleteS {w : World} {f : FuncId} {cap : Array Value} {pr : Stamp → Bool} (hf : Ent Try.prog f) {g c : Nat} {l : List Stamp} {sp : List Value} (hb : w.heap[g]? = some (.cells (cat Stamp.l l ++ sp).toArray 38 (0, 0))) (hle : l.length ≤ c) (hroom : sp.length = (c - l.length) * 3) (hsz : l.length ≤ 1000000000)
    (hc : ∀ x W, St w [g] [] W → Calls Try.prog f (.agg x.l.toArray :: cap.toList).toArray W fun e W' => e = .returned (.bool (pr x)) ∧ Bl W W') :
    Calls Try.prog 161 #[.slice (some (ad g)) l.length c, .func (.func f) #[] cap] w (RetG w g (fun _ : List Value => .slice (some (ad g)) (l.filter fun x => !pr x).length c) (fun s => .cells (cat Stamp.l (l.filter fun x => !pr x) ++ s).toArray 38 (0, 0)) (fun s => s.length = (c - (l.filter fun x => !pr x).length) * 3)) := by
  have hadd : ∀ m, (ad g).add m = ⟨g, m, none⟩ := fun m => by
    have := addA g 0 m
    rw [Nat.zero_add] at this
    exact this
  have ho : Ow (some g) l.length c 3 (cat Stamp.l l) sp := ⟨repT l, hroom, hle, fun h => by cases h⟩
  refine enter (args := [_, _]) (M := []) (K := []) Try.func161 rfl Try.ntmps161 rfl (St.refl _ _) ?_
  refine gc_own [(g, true, .cells (cat Stamp.l l ++ sp).toArray 38 (0, 0))] (by simpa using hb) (by simp) ?_
  unfold RetG
  generalize hM : ([(g, true, Obj.cells (cat Stamp.l l ++ sp).toArray 38 (0, 0))] : Kl).map (·.1) = M
  rw [show [g] = M from hM]
  have hMg : M = [g] := hM.symm
  repeat' first
    | (refine gl_gate ?_; first
      | refine gl_nil ?_
      | (refine gl_calv0 ?_; first | refine gl_yd (yd_call (gok_none rfl) rfl ent205 rfl rfl (fun _ => allT_of rfl) (fun _ W hW => ct_IndexS (pr := pr) (p := some (ad g)) hf rfl (slA_cat (p := some g) len_stamp rfl hW c_oa ho) (by omega) (fun x W' h' => hc x W' (by have := (hW.drop (List.nil_sublist _)).trans0 (K' := []) h'; rwa [hMg] at this)))) rfl rfl ?_)
      | (refine gl_any0 ?_; refine gl_pure tab_ok rfl rfl rfl rfl rfl rfl ?_))
    | (refine gc_gate ?_; first
      | refine gc_seq ?_
      | refine gc_region ?_)
    | (refine ge_gate ?_; first
      | ((with_reducible refine ge_gT ?_); first | with_reducible refine ge_then ?_ | with_reducible refine ge_then_exit ?_ | with_reducible refine ge_then_ret ?_))
  rcases idxS_spec pr l 0 with ⟨h1, h2⟩ | ⟨i0, h1, h2, h3, h4⟩
  · rw [h1]
    repeat' first
      | (refine gl_gate ?_; first
        | refine gl_nil ?_
        | (refine gl_any0 ?_; refine gl_pure tab_ok rfl rfl rfl rfl rfl rfl ?_))
      | (refine gc_gate ?_; first
        | refine gc_seq ?_
        | refine gc_region ?_
        | refine gc_true rfl ?_
        | refine gc_ret ?_)
      | (refine ge_gate ?_; first
        | ((with_reducible refine ge_gT ?_); first | with_reducible refine ge_then ?_ | with_reducible refine ge_then_exit ?_ | with_reducible refine ge_then_ret ?_)
        | ((with_reducible refine ge_gB ?_); first | refine ge_ret1 tab_ok rfl c_rvt ?_ | refine ge_end1 tab_ok rfl c_rvt ?_ | refine ge_ret2 tab_ok rfl c_rvt c_rvt ?_ | refine ge_ret_none rfl ?_ | refine ge_end_none rfl ?_))
    intro W hW
    have e : l.filter (fun x => !pr x) = l := List.filter_eq_self.2 fun x hx => by rw [h2 x hx]; rfl
    rw [e]
    exact ⟨sp, rfl, hroom, hW⟩
  rw [h2, Nat.zero_add]
  have htk : (l.take (i0 + 1)).filter (fun x => !pr x) = l.take i0 := by
    rw [take_succD _ _ h1, List.filter_append, List.filter_eq_self.2 fun x hx => by rw [h3 x hx]; rfl, List.filter_cons_of_neg (by rw [h4]; decide), List.filter_nil, List.append_nil]
  repeat' first
    | (refine gl_gate ?_; first
      | refine gl_nil ?_
      | (refine gl_add0 ?_; refine gl_yv (yv_add tab_ok (gok_none rfl) rfl rfl rfl rfl (fun _ => allT_of rfl) (by intro _; omega)) rfl rfl ?_)
      | (refine gl_any0 ?_; refine gl_pure tab_ok rfl rfl rfl rfl rfl rfl ?_))
    | (refine gc_gate ?_; first
      | refine gc_seq ?_
      | refine gc_region ?_
      | refine gc_false rfl ?_
      | refine gc_block ?_
      | refine gc_skip ?_)
    | (refine ge_gate ?_; first
      | ((with_reducible refine ge_gT ?_); first | with_reducible refine ge_then ?_ | with_reducible refine ge_then_exit ?_ | with_reducible refine ge_then_ret ?_))
  refine gc_loop (α := Nat × Nat × List Stamp) (fun x => [(0, true, .slice (some (ad g)) l.length c), (1, true, .func (.func f) #[] cap), (5, true, .int .i64 (x.2.1 : Int)), (6, true, .int .i64 (x.1 : Int))]) (fun x => [(g, true, .cells (cat Stamp.l x.2.2 ++ sp).toArray 38 (0, 0))])
    (fun x => x.1 ≤ l.length ∧ x.2.1 < x.1 ∧ x.2.2.length = l.length ∧ x.2.2.take x.2.1 = (l.take x.1).filter (fun x => !pr x) ∧ ∀ j, x.1 ≤ j → x.2.2.getD j default = l.getD j default) (fun x => l.length - x.1) (i0 + 1, i0, l) c_frs (List.Sublist.refl _) ⟨h1, Nat.lt_succ_self _, rfl, htk.symm, fun j _ => rfl⟩ ?_
  rintro ⟨j, k, xs⟩ ⟨j1, j2, j3, j4, j5⟩
  dsimp only at j1 j2 j3 j4 j5 ⊢
  have hox : Ow (some g) l.length c 3 (cat Stamp.l xs) sp := ⟨by rw [repT, j3], hroom, hle, fun h => by cases h⟩
  repeat' first
    | (refine gl_gate ?_; first
      | refine gl_nil ?_
      | (refine gl_any0 ?_; refine gl_pure tab_ok rfl rfl rfl rfl rfl rfl ?_))
    | (refine gc_gate ?_; first
      | refine gc_seq ?_
      | refine gc_region ?_)
    | (refine ge_gate ?_; first
      | ((with_reducible refine ge_gT ?_); first | with_reducible refine ge_then ?_ | with_reducible refine ge_then_exit ?_ | with_reducible refine ge_then_ret ?_))
  (refine gc_cond rfl ?_ ?_ <;> intro h_ <;> have hd_ := h_ <;> (try simp only [bytes_beq, cell_beq, val_beq, stamp_beq, decide_eq_true_eq, decide_eq_false_iff_not, Bool.and_eq_true, Bool.or_eq_true, Bool.or_eq_false_iff, Bool.not_eq_true', Bool.not_eq_false', Bool.not_true, Bool.not_false, Bool.false_or, Bool.true_and, Bool.and_true, Bool.or_false, beq_iff_eq, bne_iff_ne, beq_eq_false_iff_ne, bne_eq_false_iff_eq, ne_eq, Bool.false_eq_true, reduceCtorEq] at hd_) <;> (try (exfalso; omega)))
  · have hj := j5 j (Nat.le_refl _)
    have hjl : j < l.length := by omega
    have hnext : (l.take (j + 1)).filter (fun x => !pr x) = if pr (l.getD j default) then xs.take k else xs.take k ++ [l.getD j default] := by
      rw [take_succD _ _ hjl, List.filter_append, ← j4]
      generalize l.getD j default = y
      cases h : pr y <;> simp [h]
    repeat' first
      | (refine gl_idx0 ?_; refine gl_yv (yv_idxO tab_ok hox (gok_none rfl) rfl rfl rfl rfl rfl rfl (fun _ => rfl) (fun _ => rfl) c_bnd) rfl rfl ?_)
      | (refine gl_load0 ?_; refine gl_yv (yv_ldO (p := some g) tab_ok c_oa hox (gok_none rfl) rfl rfl (fun _ => rfl) (fun _ => lds_cat len_stamp (by omega) rfl rfl rfl) c_bnd) rfl rfl ?_)
      | (refine gl_any0 ?_; refine gl_yd (yd_callV (av := .agg (xs.getD j default).l.toArray :: cap.toList) (gok_none rfl) rfl rfl (fun _ => rfl) hf rfl rfl (fun _ => allT_of rfl) rfl (fun _ W hW => hc _ W (by have := hW.drop (List.nil_sublist _); rwa [hMg] at this))) rfl rfl ?_)
      | (refine gl_gate ?_; first
        | refine gl_nil ?_
        | (refine gl_load0 ?_; refine gl_yv (yv_load tab_ok (gok_none rfl) rfl rfl (fun _ => rfl) c_mem (fun _ => c_lds)) rfl rfl ?_)
        | (refine gl_alc0 ?_; (refine gl_alloc tab_ok rfl rfl rfl rfl rfl ?_; intro g_ hg_))
        | (refine gl_sto0 ?_; refine gl_store tab_ok rfl rfl rfl rfl rfl rfl rfl c_one rfl c_ku ?_)
        | (refine gl_any0 ?_; refine gl_pure tab_ok rfl rfl rfl rfl rfl rfl ?_))
      | (refine gc_gate ?_; first
        | refine gc_seq ?_
        | refine gc_region ?_
        | refine gc_block ?_
        | refine gc_skip ?_)
      | (refine ge_gate ?_; first
        | ((with_reducible refine ge_gT ?_); first | with_reducible refine ge_then ?_ | with_reducible refine ge_then_exit ?_ | with_reducible refine ge_then_ret ?_))
    rw [hj]
    (refine gc_cond rfl ?_ ?_ <;> intro h_ <;> have hd_ := h_ <;> (try simp only [bytes_beq, cell_beq, val_beq, stamp_beq, decide_eq_true_eq, decide_eq_false_iff_not, Bool.and_eq_true, Bool.or_eq_true, Bool.or_eq_false_iff, Bool.not_eq_true', Bool.not_eq_false', Bool.not_true, Bool.not_false, Bool.false_or, Bool.true_and, Bool.and_true, Bool.or_false, beq_iff_eq, bne_iff_ne, beq_eq_false_iff_ne, bne_eq_false_iff_eq, ne_eq, Bool.false_eq_true, reduceCtorEq] at hd_) <;> (try (exfalso; omega)))
    · have hpr : pr (l.getD j default) = false := by
        cases h : pr (l.getD j default) with
        | false => rfl
        | true => rw [h] at h_; cases h_
      rw [if_neg (by rw [hpr]; decide)] at hnext
      repeat' first
        | (refine gl_idx0 ?_; refine gl_yv (yv_idxO tab_ok hox (gok_none rfl) rfl rfl rfl rfl rfl rfl (fun _ => rfl) (fun _ => rfl) (fun _ => by omega)) rfl rfl ?_)
        | (refine gl_ev0 (ev_store (g := g) (off := k * 3) (e := 38) (cs := cat Stamp.l xs ++ sp) tab_ok rfl rfl rfl rfl rfl rfl c_one (putT (l.getD j default) sp xs k (by omega)) c_ku ?_) rfl)
        | (refine gl_gate ?_; first
          | refine gl_nil ?_
          | (refine gl_load0 ?_; refine gl_yv (yv_load tab_ok (gok_none rfl) rfl rfl (fun _ => rfl) c_mem (fun _ => c_lds)) rfl rfl ?_)
          | (refine gl_add0 ?_; refine gl_yv (yv_add tab_ok (gok_none rfl) rfl rfl rfl rfl (fun _ => allT_of rfl) (by intro _; omega)) rfl rfl ?_)
          | (refine gl_any0 ?_; refine gl_pure tab_ok rfl rfl rfl rfl rfl rfl ?_))
        | (refine gc_gate ?_; first
          | refine gc_seq ?_
          | refine gc_region ?_)
        | (refine ge_gate ?_; first
          | ((with_reducible refine ge_gT ?_); first | with_reducible refine ge_then ?_ | with_reducible refine ge_then_exit ?_ | with_reducible refine ge_then_ret ?_)
          | ((with_reducible refine ge_gK ?_); first | with_reducible refine ge_block ?_ | refine ge_block_exit ?_ | refine ge_block_pass rfl ?_ | with_reducible refine ge_block_ret ?_))
      refine ge_round (j + 1, k + 1, xs.set k (l.getD j default)) ⟨by omega, by show k + 1 < j + 1; omega, by simpa using j3, ?_, ?_⟩ (by show l.length - (j + 1) < l.length - j; omega) c_frs (List.Sublist.cons _ (List.Sublist.refl _))
      · show (xs.set k _).take (k + 1) = _
        rw [hnext, take_succD _ _ (by simp; omega)]
        simp [List.getD, show k < xs.length by omega, List.take_set_of_le]
      · intro i hi
        show (xs.set k _).getD i default = _
        rw [← j5 i (by omega)]
        simp [List.getD, List.getElem?_set, show ¬ k = i by omega]
    · have hpr : pr (l.getD j default) = true := by
        cases h : pr (l.getD j default) with
        | true => rfl
        | false => rw [h] at h_; cases h_
      rw [if_pos hpr] at hnext
      repeat' first
        | (refine gl_gate ?_; first
          | refine gl_nil ?_
          | (refine gl_add0 ?_; refine gl_yv (yv_add tab_ok (gok_none rfl) rfl rfl rfl rfl (fun _ => allT_of rfl) (by intro _; omega)) rfl rfl ?_)
          | (refine gl_any0 ?_; refine gl_pure tab_ok rfl rfl rfl rfl rfl rfl ?_))
        | (refine gc_gate ?_; first
          | refine gc_region ?_
          | refine gc_skip ?_)
        | (refine ge_gate ?_; first
          | ((with_reducible refine ge_gT ?_); first | with_reducible refine ge_then ?_ | with_reducible refine ge_then_exit ?_ | with_reducible refine ge_then_ret ?_)
          | ((with_reducible refine ge_gK ?_); first | with_reducible refine ge_block ?_ | refine ge_block_exit ?_ | refine ge_block_pass rfl ?_ | with_reducible refine ge_block_ret ?_))
      exact ge_round (j + 1, k, xs) ⟨by omega, by show k < j + 1; omega, j3, hnext.symm, fun i hi => j5 i (by omega)⟩ (by show l.length - (j + 1) < l.length - j; omega) c_frs (List.Sublist.cons _ (List.Sublist.refl _))
  · have hj : j = l.length := by omega
    rw [hj, List.take_length] at j4
    have hkn : k < l.length := by omega
    have hlen : (l.filter fun x => !pr x).length = k := by rw [← j4, List.length_take]; omega
    repeat' first
      | (refine gl_any0 ?_; refine gl_yv ((yv_sliceL (lo := k) tab_ok (gok_none rfl) rfl rfl rfl rfl rfl (fun _ => rfl) (fun _ => rfl) (fun _ => by omega)).cast (v' := .slice (some ⟨g, k * 3, none⟩) (l.length - k) (c - k)) (by rw [if_neg (by omega)]; simp [hadd])) rfl rfl ?_)
      | (refine gl_any0 ?_; refine gl_ev0 (ev_clear tab_ok rfl rfl rfl rfl rfl (ones_of rfl) ?_ Ku.head ?_) rfl)
      | (refine gl_gate ?_; first
        | refine gl_nil ?_
        | (refine gl_any0 ?_; refine gl_pure tab_ok rfl rfl rfl rfl rfl rfl ?_)
        | (refine gl_any0 ?_; first | refine gl_yv (yv_shr tab_ok (gok_none rfl) rfl rfl rfl (fun _ => rfl) (fun _ => rfl) c_bnd) rfl rfl ?_ | refine gl_yv (yv_rem tab_ok (gok_none rfl) rfl rfl rfl (fun _ => rfl) (fun _ => rfl) c_bnd) rfl rfl ?_ | refine gl_yv (yv_indexS tab_ok (gok_none rfl) rfl rfl rfl rfl (fun _ => rfl) (fun _ => rfl) c_bnd) rfl rfl ?_ | refine gl_yv (yv_sliceH tab_ok (gok_none rfl) rfl rfl rfl rfl rfl (fun _ => rfl) (fun _ => rfl) c_bnd) rfl rfl ?_))
      | (refine gc_gate ?_; first
        | refine gc_seq ?_
        | refine gc_region ?_
        | refine gc_exit ?_
        | refine gc_ret ?_)
      | (refine ge_gate ?_; first
        | ((with_reducible refine ge_gT ?_); first | with_reducible refine ge_then ?_ | with_reducible refine ge_then_exit ?_ | with_reducible refine ge_then_ret ?_)
        | ((with_reducible refine ge_gK ?_); first | with_reducible refine ge_block ?_ | refine ge_block_exit ?_ | refine ge_block_pass rfl ?_ | with_reducible refine ge_block_ret ?_)
        | ((with_reducible refine ge_gB ?_); first | refine ge_ret1 tab_ok rfl c_rvt ?_ | refine ge_end1 tab_ok rfl c_rvt ?_ | refine ge_ret2 tab_ok rfl c_rvt c_rvt ?_ | refine ge_ret_none rfl ?_ | refine ge_end_none rfl ?_))
    · show k * 3 + (l.length - k) * 3 ≤ _
      rw [List.length_append, repT, j3]
      omega
    · intro W hW
      rw [hlen]
      have e : ((cat Stamp.l xs ++ sp).take (k * 3) ++ repZ (l.length - k) z38) ++ (cat Stamp.l xs ++ sp).drop (k * 3 + (l.length - k) * 3) = cat Stamp.l (l.filter fun x => !pr x) ++ (repZ (l.length - k) z38 ++ sp) := by
        have hcl : (cat Stamp.l xs).length = l.length * 3 := by rw [repT, j3]
        have hsplit : cat Stamp.l xs = cat Stamp.l (xs.take k) ++ cat Stamp.l (xs.drop k) := by rw [← cat_append, List.take_append_drop]
        have hck : (cat Stamp.l (xs.take k)).length = k * 3 := by rw [repT, List.length_take]; congr 1; omega
        rw [show k * 3 + (l.length - k) * 3 = (cat Stamp.l xs).length by rw [hcl]; omega, List.drop_left, ← j4, hsplit, List.append_assoc, List.append_assoc, List.take_left' hck]
      refine ⟨repZ (l.length - k) z38 ++ sp, rfl, ?_, ?_⟩
      · dsimp only
        rw [List.length_append, repZ_length, hroom]
        show (l.length - k) * 3 + _ = _
        omega
      · dsimp only
        rw [← e]
        exact hW
theorem ct_DeleteS0 {w : World} {f : FuncId} {cap : Array Value} {pr : Stamp → Bool} (hf : Ent Try.prog f) (hc : ∀ x W, St w [] [] W → Calls Try.prog f (.agg x.l.toArray :: cap.toList).toArray W fun e W' => e = .returned (.bool (pr x)) ∧ Bl W W') : Calls Try.prog 161 #[.slice none 0 0, .func (.func f) #[] cap] w fun e w' => e = .returned (.slice none 0 0) ∧ Bl w w' := by
  refine enter (args := [_, _]) (M := []) (K := []) Try.func161 rfl Try.ntmps161 rfl (St.refl _ _) ?_
  repeat' first
    | (refine gl_gate ?_; first
      | refine gl_nil ?_
      | (refine gl_calv0 ?_; first | refine gl_yd (yd_call (gok_none rfl) rfl ent205 rfl rfl (fun _ => allT_of rfl) (fun _ W hW => ct_IndexS (pr := pr) (l := []) hf rfl SlA.nil (by decide) (fun x W' h' => hc x W' (hW.trans0 h')))) rfl rfl ?_)
      | (refine gl_any0 ?_; refine gl_pure tab_ok rfl rfl rfl rfl rfl rfl ?_))
    | (refine gc_gate ?_; first
      | refine gc_seq ?_
      | refine gc_region ?_
      | refine gc_true rfl ?_
      | refine gc_ret ?_)
    | (refine ge_gate ?_; first
      | ((with_reducible refine ge_gT ?_); first | with_reducible refine ge_then ?_ | with_reducible refine ge_then_exit ?_ | with_reducible refine ge_then_ret ?_)
      | ((with_reducible refine ge_gB ?_); first | refine ge_ret1 tab_ok rfl c_rvt ?_ | refine ge_end1 tab_ok rfl c_rvt ?_ | refine ge_ret2 tab_ok rfl c_rvt c_rvt ?_ | refine ge_ret_none rfl ?_ | refine ge_end_none rfl ?_))
  intro W hW
  exact ⟨rfl, hW.below0⟩
theorem stm' {w0 W : World} {M : List Nat} {K : Kl} {k n : Nat} {p : Option Addr} {e : Nat → List Value} (h : SlA w0 k p n e) (hM : 0 < n → pb p ∉ M) (hW : St w0 M K W) : SlA W k p n e :=
  ⟨h.ptr, h.len, fun h0 => by
    obtain ⟨l, t, fr, h1, h2⟩ := h.mem h0
    exact ⟨l, t, fr, by rw [hW.frame _ (h.lt h0) (hM h0)]; exact h1, h2⟩⟩
def leastL (A : List Stamp) : List Stamp := A.filter fun s => !within1 A s
theorem ct_LeastP {w : World} {g : Nat} {A : List Stamp} (hA : A.length ≤ 100000000) (hab : ∀ W, Bl w W → Calls Try.prog 160 #[.pointer (some ⟨g, 0, none⟩)] W (RetOw W A.length 3 (cat Stamp.l A) 38)) : Calls Try.prog 80 #[.pointer (some ⟨g, 0, none⟩)] w (RetOw w (leastL A).length 3 (cat Stamp.l (leastL A)) 38) := by
  refine enter (args := [_]) (M := []) (K := []) Try.func80 rfl Try.ntmps80 rfl (St.refl _ _) ?_
  repeat' first
    | (refine gl_gate ?_; first
      | refine gl_nil ?_
      | (refine gl_load0 ?_; refine gl_yv (yv_load tab_ok (gok_none rfl) rfl rfl (fun _ => rfl) c_mem (fun _ => c_lds)) rfl rfl ?_)
      | (refine gl_any0 ?_; (refine gl_ev (ev_callOw rfl rfl ent160 rfl rfl rfl (fun W hW => hab W hW.below0) ?_) rfl rfl; intro pA cA spA hA1))
      | (refine gl_any0 ?_; (refine gl_ev (ev_callOw rfl rfl ent162 rfl rfl rfl (fun W hW => ct_CloneS W A _ _ _ rfl (slA_cat len_stamp rfl hW c_oa hA1) (by omega)) ?_) rfl rfl; intro pC cC spC hC1))
      | (refine gl_alc0 ?_; (refine gl_alloc tab_ok rfl rfl rfl rfl rfl ?_; intro g_ hg_))
      | (refine gl_sto0 ?_; refine gl_store tab_ok rfl rfl rfl rfl rfl rfl rfl c_one rfl c_ku ?_)
      | (refine gl_any0 ?_; refine gl_pure tab_ok rfl rfl rfl rfl rfl rfl ?_))
    | (refine gc_gate ?_; first
      | refine gc_seq ?_
      | refine gc_region ?_)
    | (refine ge_gate ?_; first
      | ((with_reducible refine ge_gT ?_); first | with_reducible refine ge_then ?_ | with_reducible refine ge_then_exit ?_ | with_reducible refine ge_then_ret ?_))
  rcases pC with _ | g2
  · have h1 := hC1.nil rfl
    have h2 := hC1.le
    have h3 : A = [] := List.eq_nil_of_length_eq_zero (by omega)
    subst h3 h1
    repeat' first
      | (refine gl_gate ?_; first
        | refine gl_nil ?_
        | (refine gl_calv0 ?_; first | refine gl_yd (yd_call (gok_none rfl) rfl ent161 rfl rfl (fun _ => allT_of rfl) (fun _ W hW => ct_DeleteS0 (pr := within1 []) ent163 (fun x W' h' => ct_Least1 x g_ [] (pA.map ad) 0 cA W' (by rw [h'.frame _ (hW.lt (e := (g_, true, Obj.cells [.slice (pA.map ad) 0 cA].toArray 98 (0, 0))) c_mem) (by simp)]; exact hW.kn (wr := true) c_mem) rfl SlA.nil (by decide)))) rfl rfl ?_)
        | (refine gl_any0 ?_; refine gl_pure tab_ok rfl rfl rfl rfl rfl rfl ?_))
      | (refine gc_gate ?_; first
        | refine gc_ret ?_)
      | (refine ge_gate ?_; first
        | ((with_reducible refine ge_gT ?_); first | with_reducible refine ge_then ?_ | with_reducible refine ge_then_exit ?_ | with_reducible refine ge_then_ret ?_)
        | ((with_reducible refine ge_gB ?_); first | refine ge_ret1 tab_ok rfl c_rvt ?_ | refine ge_end1 tab_ok rfl c_rvt ?_ | refine ge_ret2 tab_ok rfl c_rvt c_rvt ?_ | refine ge_ret_none rfl ?_ | refine ge_end_none rfl ?_))
    intro W hW
    exact ⟨none, 0, [], rfl, Ow.none0, hW.drop (List.nil_sublist _)⟩
  · refine gl_ev (ev_callG (val := fun _ : List Value => .slice (some (ad g2)) (A.filter fun x => !within1 A x).length cC) (ob := fun s => .cells (cat Stamp.l (A.filter fun x => !within1 A x) ++ s).toArray 38 (0, 0)) (φ := fun s => s.length = (cC - (A.filter fun x => !within1 A x).length) * 3) (g := g2) (o1 := .cells (cat Stamp.l A ++ spC).toArray 38 (0, 0)) rfl rfl ent161 rfl rfl rfl (fun W hW => ?_) (fun x hx => ⟨_, c_ku, ?_⟩)) rfl rfl
    · refine ct_DeleteS (pr := within1 A) ent163 (hW.kn (wr := true) c_mem) hC1.le hC1.room (by omega) fun x W' h' => ?_
      have hg : g_ ≠ g2 := fun e => by
        have h1 := hW.kn (g := g_) (wr := true) (ob := .cells [.slice (pA.map ad) A.length cA].toArray 98 (0, 0)) c_mem
        have h2 := (List.pairwise_append.1 hW.apart).2.2 (g2, true, _) (List.mem_singleton.2 rfl) (g_, true, .cells [.slice (pA.map ad) A.length cA].toArray 98 (0, 0)) (List.mem_cons_self ..)
        exact h2 e.symm
      refine ct_Least1 x g_ A (pA.map ad) A.length cA W' ?_ rfl (stm' (slA_cat len_stamp rfl hW c_oa hA1) (fun hn => ?_) h') (by omega)
      · rw [h'.frame _ (hW.lt (e := (g_, true, Obj.cells [.slice (pA.map ad) A.length cA].toArray 98 (0, 0))) c_mem) (by simpa using hg)]
        exact hW.kn (wr := true) c_mem
      · exact own_nm (K1 := [(g2, true, Obj.cells (cat Stamp.l A ++ spC).toArray 38 (0, 0))]) (t := 38) (X := cat Stamp.l A ++ spA) hW (by
          refine List.Sublist.cons_cons _ (List.Sublist.cons _ ?_)
          rw [List.append_nil]
          exact List.Sublist.refl _) (ow_pos hA1 hn)
    repeat' first
      | (refine gl_gate ?_; first
        | refine gl_nil ?_
        | (refine gl_any0 ?_; refine gl_pure tab_ok rfl rfl rfl rfl rfl rfl ?_))
      | (refine gc_gate ?_; first
        | refine gc_ret ?_)
      | (refine ge_gate ?_; first
        | ((with_reducible refine ge_gT ?_); first | with_reducible refine ge_then ?_ | with_reducible refine ge_then_exit ?_ | with_reducible refine ge_then_ret ?_)
        | ((with_reducible refine ge_gB ?_); first | refine ge_ret1 tab_ok rfl c_rvt ?_ | refine ge_end1 tab_ok rfl c_rvt ?_ | refine ge_ret2 tab_ok rfl c_rvt c_rvt ?_ | refine ge_ret_none rfl ?_ | refine ge_end_none rfl ?_))
    intro W hW
    have hfl : (A.filter fun x => !within1 A x).length ≤ A.length := List.length_filter_le ..
    exact ⟨some g2, cC, x, rfl, ⟨repT _, hx, by have := hC1.le; unfold leastL; omega, fun h => by cases h⟩, hW.drop (List.Sublist.cons_cons _ (List.nil_sublist _))⟩
theorem ct_PassedP {w : World} {g : Nat} {A : List Stamp} (s : Stamp) (hA : A.length ≤ 100000000) (hab : ∀ W, Bl w W → Calls Try.prog 160 #[.pointer (some ⟨g, 0, none⟩)] W (RetOw W A.length 3 (cat Stamp.l A) 38)) : Calls Try.prog 82 #[.pointer (some ⟨g, 0, none⟩), .agg s.l.toArray] w fun e w' => e = .returned (.bool (!A.any fun x => wi x s)) ∧ Bl w w' := by
  refine enter (args := [_, _]) (M := []) (K := []) Try.func82 rfl Try.ntmps82 rfl (St.refl _ _) ?_
  repeat' first
    | (refine gl_gate ?_; first
      | refine gl_nil ?_
      | (refine gl_any0 ?_; (refine gl_ev (ev_callOw rfl rfl ent160 rfl rfl rfl (fun W hW => hab W hW.below0) ?_) rfl rfl; intro pA cA spA hA1))
      | (refine gl_calv0 ?_; first | refine gl_yd (yd_call (gok_none rfl) rfl ent164 rfl rfl (fun _ => allT_of rfl) (fun _ W hW => ct_ContainsS (pr := fun x => wi x s) ent166 rfl (slA_cat len_stamp rfl hW c_oa hA1) (by omega) (fun x W' h' => ct_Passed1 x s g_ W' (by rw [h'.frame _ (hW.lt (e := (g_, true, Obj.cells s.l.toArray 38 (0, 0))) c_mem) (by simp)]; exact hW.kn (wr := true) c_mem)))) rfl rfl ?_)
      | (refine gl_box0 ?_; first | (refine gl_box_agg rfl rfl rfl rfl rfl ?_; intro g_ hg_) | (refine gl_box_one rfl rfl rfl rfl rfl rfl ?_; intro g_ hg_) | (refine gl_box rfl rfl rfl rfl rfl ?_; intro g_ hg_))
      | (refine gl_any0 ?_; refine gl_pure tab_ok rfl rfl rfl rfl rfl rfl ?_))
    | (refine gc_gate ?_; first
      | refine gc_seq ?_
      | refine gc_region ?_
      | refine gc_ret ?_)
    | (refine ge_gate ?_; first
      | ((with_reducible refine ge_gT ?_); first | with_reducible refine ge_then ?_ | with_reducible refine ge_then_exit ?_ | with_reducible refine ge_then_ret ?_)
      | ((with_reducible refine ge_gB ?_); first | refine ge_ret1 tab_ok rfl c_rvt ?_ | refine ge_end1 tab_ok rfl c_rvt ?_ | refine ge_ret2 tab_ok rfl c_rvt c_rvt ?_ | refine ge_ret_none rfl ?_ | refine ge_end_none rfl ?_))
  intro W hW
  exact ⟨rfl, hW.below0⟩
end Go.Proofs.Ytkgjfcjciigcgaa
