/-
  WindowWrong: what turned ahead of all there is, or of a version that is not above the one ahead, is played by nobody.
-/
import Derived.Test.YtkgjfcjciigcgaaGoPlay
namespace Go.Proofs.Ytkgjfcjciigcgaa
open Go.Proofs.Ytkgjfcjciigcgaa.Sl Go.RowKit
set_option linter.unusedVariables false
set_option linter.unusedSimpArgs false
set_option maxRecDepth 100000

section
variable {N : Nat} {w0 : World} {M : List Nat} {F : Fl} {K : Kl} {o : Oper}
theorem ev_callPl {R : Value → Kl → Prop} {args : Array Operand} {ts : Array TypeId} {vs : List Value} {ps : List Bool} {x : List Shown × Bool} (hg : o.guard = none) (ho : o.op = .call ⟨.value (.func 75), args, ts⟩) (hv : vals F args.toList = some vs) (hc : cdl F args.toList = some ps) (hp : ps.all id = true)
    (h : ∀ W, St w0 M K W → Calls Try.prog 75 vs.toArray W (RetPl W x)) (hR : ∀ q c sp, Ow q x.1.length c 6 (cat Shown.l x.1) sp → R (.tuple #[.slice (Option.map ad q) x.1.length c, .bool x.2]) (ow q true (cat Shown.l x.1 ++ sp) 120 ++ K)) : Ev Try.prog o N w0 M F K R :=
  ev_call hg ho ent75 hv hc hp fun W hW => (h W hW).mono fun e W' ⟨q, c, sp, h1, h2, h3⟩ => ⟨_, _, h1, hW.grow h3 (fun e he => (h3.wr e he (ow_wr e he)).resolve_right (by simp)), hR q c sp h2⟩
end
theorem shown_eq {a b : Shown} (h1 : a.cell = b.cell) (h2 : a.val = b.val) : a = b := by cases a; cases b; simp_all
theorem ct_SameShown (w : World) (l m : List Shown) (p q : Option Addr) (n k cap cap' : Nat) (hn : n = l.length) (hk : k = m.length) (hs : SlA w 6 p n (fun i => (l.getD i default).l)) (hs' : SlA w 6 q k (fun i => (m.getD i default).l)) (hl : n ≤ 4611686018427387904) (hl' : k ≤ 4611686018427387904) : Calls Try.prog 97 #[.slice p n cap, .slice q k cap'] w fun e w' => e = .returned (.bool (decide (l = m))) ∧ Bl w w' := by
  refine enter (args := [_, _]) (M := []) (K := []) Try.func97 rfl Try.ntmps97 rfl (St.refl _ _) ?_
  repeat' first
    | (refine gl_gate ?_; first
      | refine gl_nil ?_
      | (refine gl_any0 ?_; refine gl_pure tab_ok rfl rfl rfl rfl rfl rfl ?_))
    | (refine gc_gate ?_; first
      | refine gc_seq ?_
      | refine gc_region ?_
      | (refine gc_cond rfl ?_ ?_ <;> intro h_ <;> have hd_ := h_ <;> (try simp only [bytes_beq, cell_beq, val_beq, stamp_beq, decide_eq_true_eq, decide_eq_false_iff_not, Bool.and_eq_true, Bool.or_eq_true, Bool.or_eq_false_iff, Bool.not_eq_true', Bool.not_eq_false', Bool.not_true, Bool.not_false, Bool.false_or, Bool.true_and, Bool.and_true, Bool.or_false, beq_iff_eq, bne_iff_ne, beq_eq_false_iff_ne, bne_eq_false_iff_eq, ne_eq, Bool.false_eq_true, reduceCtorEq] at hd_) <;> (try (exfalso; omega)))
      | refine gc_block ?_
      | refine gc_ret ?_
      | refine gc_skip ?_)
    | (refine ge_gate ?_; first
      | ((with_reducible refine ge_gT ?_); first | with_reducible refine ge_then ?_ | with_reducible refine ge_then_exit ?_ | with_reducible refine ge_then_ret ?_)
      | ((with_reducible refine ge_gB ?_); first | refine ge_ret1 tab_ok rfl c_rvt ?_ | refine ge_end1 tab_ok rfl c_rvt ?_ | refine ge_ret2 tab_ok rfl c_rvt c_rvt ?_ | refine ge_ret_none rfl ?_ | refine ge_end_none rfl ?_))
  · intro W hW
    refine ⟨?_, hW.below0⟩
    have : l ≠ m := fun e => by subst e; omega
    simp [this]
  refine gc_loop (α := Nat) (fun i => [(0, true, .slice p n cap), (1, true, .slice q k cap'), (5, true, .int .i64 (i : Int))]) (fun _ => []) (fun i => i ≤ n ∧ l.take i = m.take i) (fun i => n - i) 0 c_frs c_sub ⟨Nat.zero_le _, by simp⟩ ?_
  rintro i ⟨hi, he⟩
  repeat' first
    | (refine gl_gate ?_; first
      | refine gl_nil ?_
      | (refine gl_add0 ?_; refine gl_yv (yv_add tab_ok (gok_none rfl) rfl rfl rfl rfl (fun _ => allT_of rfl) (by intro _; omega)) rfl rfl ?_)
      | (refine gl_any0 ?_; refine gl_pure tab_ok rfl rfl rfl rfl rfl rfl ?_))
    | (refine gc_gate ?_; first
      | refine gc_seq ?_
      | refine gc_region ?_
      | refine gc_quietRo rfl mixed (by decide +kernel) ?_
      | (refine gc_cond rfl ?_ ?_ <;> intro h_ <;> have hd_ := h_ <;> (try simp only [bytes_beq, cell_beq, val_beq, stamp_beq, decide_eq_true_eq, decide_eq_false_iff_not, Bool.and_eq_true, Bool.or_eq_true, Bool.or_eq_false_iff, Bool.not_eq_true', Bool.not_eq_false', Bool.not_true, Bool.not_false, Bool.false_or, Bool.true_and, Bool.and_true, Bool.or_false, beq_iff_eq, bne_iff_ne, beq_eq_false_iff_ne, bne_eq_false_iff_eq, ne_eq, Bool.false_eq_true, reduceCtorEq] at hd_) <;> (try (exfalso; omega)))
      | refine gc_block ?_
      | refine gc_exit ?_
      | refine gc_ret ?_
      | refine gc_skip ?_)
    | (refine ge_gate ?_; first
      | ((with_reducible refine ge_gT ?_); first | with_reducible refine ge_then ?_ | with_reducible refine ge_then_exit ?_ | with_reducible refine ge_then_ret ?_)
      | ((with_reducible refine ge_gK ?_); first | with_reducible refine ge_block ?_ | refine ge_block_exit ?_ | refine ge_block_pass rfl ?_ | with_reducible refine ge_block_ret ?_)
      | ((with_reducible refine ge_gB ?_); first | refine ge_ret1 tab_ok rfl c_rvt ?_ | refine ge_end1 tab_ok rfl c_rvt ?_ | refine ge_ret2 tab_ok rfl c_rvt c_rvt ?_ | refine ge_ret_none rfl ?_ | refine ge_end_none rfl ?_))
    | (refine gq_gate ?_; first
      | refine gq_nil ?_
      | (refine gq_idx0 ?_; refine gq_yv (yv_idxA tab_ok hs (gok_none rfl) rfl rfl rfl rfl rfl rfl (fun _ => rfl) (fun _ => rfl) c_bnd) rfl rfl ?_)
      | (refine gq_load0 ?_; refine gq_yv (yv_ldA0 tab_ok hs c_nm (gok_none rfl) rfl rfl (fun _ => rfl) c_bnd (fun _ => c_lds)) rfl rfl ?_)
      | (refine gq_idx0 ?_; refine gq_yv (yv_idxA tab_ok hs' (gok_none rfl) rfl rfl rfl rfl rfl rfl (fun _ => rfl) (fun _ => rfl) c_bnd) rfl rfl ?_)
      | (refine gq_load0 ?_; refine gq_yv (yv_ldA0 tab_ok hs' c_nm (gok_none rfl) rfl rfl (fun _ => rfl) c_bnd (fun _ => c_lds)) rfl rfl ?_)
      | (refine gq_any0 ?_; refine gq_pure tab_ok rfl rfl rfl rfl rfl rfl ?_)
      | (refine gq_neS ?_; first | refine gq_yv (yv_neS tab_ok eqs_ok c_gok rfl rfl rfl rfl c_allT rfl rfl rfl) rfl rfl ?_))
  · intro W hW
    refine ⟨?_, hW.below0⟩
    have : l ≠ m := fun e => by subst e; simp at hd_
    simp [this]
  · exact ge_round (i + 1) ⟨by omega, take_same (by omega) (by omega) he (shown_eq hd_.1 hd_.2)⟩ (by omega) c_frs c_sub
  · intro W hW
    refine ⟨?_, hW.below0⟩
    have h1 : i = l.length := by omega
    have h2 : i = m.length := by omega
    have : l = m := by
      have h3 := he
      rw [h1, List.take_length] at h3
      rw [h3, ← h1, h2, List.take_length]
    simp [this]
theorem slA_one {W : World} {g k : Nat} {cs : List Value} {t : TypeId} {fr : Nat × Nat} {e : Nat → List Value} (hm : W.heap[g]? = some (.cells cs.toArray t fr)) (hl : cs.length = k) (he : e 0 = cs) : SlA W k (some ⟨g, 0, none⟩) 1 e :=
  ⟨fun _ => by simp [pb, po], fun i hi => by obtain rfl : i = 0 := by omega
                                             rw [he]; exact hl, fun _ => ⟨cs, t, fr, by simpa [pb] using hm, fun i hi j hj => by
    obtain rfl : i = 0 := by omega
    rw [he]
    simp [po]⟩⟩
def shS : Shown := ⟨⟨⟨#[115]⟩, 1, 1⟩, ⟨1, 4, .empty⟩⟩
def rpS : Rep := ⟨2, 0, 0, [shS]⟩
theorem play_nil : playR [] = ([], true) := rfl
theorem play_one : playR [rpS] = ([shS], true) := by
  have h1 : playAll [rpS] (none, 0) = some (some [(shS.cell, shS.val)], 0) := by
    simp [playAll, playStep, rpS, may, showAll, show1, shS, mset, fnd]
  have h2 : sortC [shS.cell] = [shS.cell] := by simp [sortC]
  have h3 : listM [(shS.cell, shS.val)] = [shS] := by
    unfold listM
    show (sortC [shS.cell]).map _ = _
    rw [h2]
    simp [mgetD, fnd, shS]
  unfold playR
  rw [h1]
  show (listM _, true) = _
  rw [h3]
theorem ct_aliveW (w : World) : Calls Try.prog 74 #[] w fun e w' => e = .returned (.bool true) ∧ Bl w w' := by
  refine enter (args := []) (M := []) (K := []) Try.func74 rfl Try.ntmps74 rfl (St.refl _ _) ?_
  repeat' first
    | (refine gl_gate ?_; first
      | refine gl_nil ?_
      | (refine gl_bld0 ?_; (refine gl_ev (ev_buildSlice tab_ok rfl rfl rfl rfl rfl rfl rfl rfl rfl rfl ?_) rfl rfl; intro g_ hg_))
      | (refine gl_any0 ?_; refine gl_pure tab_ok rfl rfl rfl rfl rfl rfl ?_))
    | (refine gc_gate ?_; first
      | refine gc_seq ?_
      | refine gc_region ?_)
    | (refine ge_gate ?_; first
      | ((with_reducible refine ge_gT ?_); first | with_reducible refine ge_then ?_ | with_reducible refine ge_then_exit ?_ | with_reducible refine ge_then_ret ?_))
  refine gl_ev (ev_callPl (x := ([], true)) rfl rfl rfl rfl rfl (fun W hW => ?_) (fun q_ c_ sp_ hw_ => ?_)) rfl rfl
  · have := ct_Play (w := W) (p := none) (l := []) ⟨fun _ => none, fun _ => 0, SlA.nil, fun i hi => absurd hi (by simp)⟩ (by simp) (by simp) 0
    rw [play_nil] at this
    exact this
  dsimp only at hw_ ⊢
  generalize g_ = gc at *
  repeat' first
    | (refine gl_gate ?_; first
      | refine gl_nil ?_
      | (refine gl_bld0 ?_; (refine gl_ev (ev_buildSlice tab_ok rfl rfl rfl rfl rfl rfl rfl rfl rfl rfl ?_) rfl rfl; intro g_ hg_))
      | (refine gl_any0 ?_; refine gl_pure tab_ok rfl rfl rfl rfl rfl rfl ?_))
    | (refine gc_gate ?_; first
      | refine gc_seq ?_
      | refine gc_region ?_)
    | (refine ge_gate ?_; first
      | ((with_reducible refine ge_gT ?_); first | with_reducible refine ge_then ?_ | with_reducible refine ge_then_exit ?_ | with_reducible refine ge_then_ret ?_))
  refine gl_ev (ev_callPl (x := ([shS], true)) rfl rfl rfl rfl rfl (fun W hW => ?_) (fun q2_ c2_ sp2_ hw2_ => ?_)) rfl rfl
  · have := ct_Play (w := W) (p := some ⟨g_, 0, none⟩) (l := [rpS]) ⟨fun _ => some ⟨gc, 0, none⟩, fun _ => 1, slA_one (hW.kn (wr := true) (ob := .cells (rpS.rl (some ⟨gc, 0, none⟩) 1).toArray 65 (0, 0)) c_mem) rfl rfl, fun i hi => by
      obtain rfl : i = 0 := by simpa using hi
      exact slA_one (hW.kn (wr := true) (ob := .cells shS.l.toArray 120 (0, 0)) c_mem) rfl rfl⟩ (by simp) (by simp [rpS]) 1
    rw [play_one] at this
    exact this
  dsimp only at hw2_ ⊢
  repeat' first
    | (refine gl_gate ?_; first
      | refine gl_nil ?_
      | (refine gl_calvG ?_; first | refine gl_yd (yd_call c_gok rfl ent97 rfl rfl c_allT (fun _ W hW => ct_SameShown W [shS] [shS] _ _ _ _ _ _ rfl rfl (slA_cat len_shown rfl hW c_oa hw2_) (slA_one (hW.kn (wr := true) (ob := .cells shS.l.toArray 120 (0, 0)) c_mem) rfl rfl) (by simp) (by simp))) rfl rfl ?_)
      | (refine gl_pick0 ?_; first | refine gl_yv (yv_and (gok_none rfl) rfl rfl rfl (fun _ => rfl) c_imp2) rfl rfl ?_ | refine gl_yv (yv_or (gok_none rfl) rfl rfl rfl (fun _ => rfl) c_imp2) rfl rfl ?_)
      | (refine gl_any0 ?_; refine gl_pure tab_ok rfl rfl rfl rfl rfl rfl ?_)
      | (refine gl_anyG ?_; first | refine gl_yv (yv_pure tab_ok c_gok rfl rfl c_allT) rfl rfl ?_ | refine gl_yv (yv_indexS tab_ok c_gok rfl rfl rfl rfl c_imp c_imp (by intro hq_; (try simp only [Bool.and_eq_true, Bool.not_eq_true', Bool.not_eq_false', Bool.or_eq_false_iff, Bool.or_eq_true, decide_eq_true_eq, decide_eq_false_iff_not, Bool.true_and, Bool.and_true] at hq_); omega)) rfl rfl ?_ | refine gl_yv (yv_indexS (i := 0) tab_ok c_gok rfl rfl rfl rfl c_imp c_imp (by intro hq_; (try simp only [Bool.and_eq_true, Bool.not_eq_true', Bool.not_eq_false', Bool.or_eq_false_iff, Bool.or_eq_true, decide_eq_true_eq, decide_eq_false_iff_not, Bool.true_and, Bool.and_true] at hq_); omega)) rfl rfl ?_))
    | (refine gc_gate ?_; first
      | refine gc_seq ?_
      | refine gc_region ?_
      | refine gc_ret ?_)
    | (refine ge_gate ?_; first
      | ((with_reducible refine ge_gT ?_); first | with_reducible refine ge_then ?_ | with_reducible refine ge_then_exit ?_ | with_reducible refine ge_then_ret ?_)
      | ((with_reducible refine ge_gB ?_); first | refine ge_ret1 tab_ok rfl c_rvt ?_ | refine ge_end1 tab_ok rfl c_rvt ?_ | refine ge_ret2 tab_ok rfl c_rvt c_rvt ?_ | refine ge_ret_none rfl ?_ | refine ge_end_none rfl ?_))
  intro W hW
  exact ⟨by simp, hW.below0⟩
/-- 'x & 15'. -/
def v15 (x : Int) : Int := IntKind.i64.wrap ((BitVec.ofInt IntKind.i64.bits x &&& BitVec.ofInt IntKind.i64.bits 15).toNat : Int)
def rpw (xs : List Int) (ss : List Bool) (i : Nat) : Rep := ⟨if ss.getD i default then 2 else 3, v15 (xs.getD i default), 0, []⟩
def rps (xs : List Int) (ss : List Bool) (i : Nat) : List Rep := (List.range i).map (rpw xs ss)
def lastf (xs : List Int) : Nat → Int
  | 0 => 0
  | i + 1 => v15 (xs.getD i default)
def okf (xs : List Int) (ss : List Bool) : Nat → Bool
  | 0 => true
  | i + 1 => if i = 0 then (okf xs ss i && ss.getD 0 default) else if ss.getD i default then (okf xs ss i && decide (v15 (xs.getD i default) ≥ lastf xs i)) else (okf xs ss i && decide (v15 (xs.getD i default) > lastf xs i))
theorem rps_succ (xs : List Int) (ss : List Bool) (i : Nat) : rps xs ss (i + 1) = rps xs ss i ++ [rpw xs ss i] := by
  unfold rps
  rw [List.range_succ, List.map_append]
  rfl
theorem rps_length (xs : List Int) (ss : List Bool) (i : Nat) : (rps xs ss i).length = i := by simp [rps]
theorem play_rps (xs : List Int) (ss : List Bool) : ∀ i, playAll (rps xs ss i) (none, 0) = if okf xs ss i then some (if i = 0 then none else some [], lastf xs i) else none
  | 0 => rfl
  | i + 1 => by
    rw [rps_succ, playAll_append, play_rps xs ss i]
    cases ho : okf xs ss i with
    | false =>
      have : okf xs ss (i + 1) = false := by unfold okf; rw [ho]; simp
      rw [this]
      rfl
    | true =>
      rw [if_pos rfl]
      show (playStep _ (rpw xs ss i)).bind (playAll []) = _
      have hk : (rpw xs ss i).kind = 2 ∨ (rpw xs ss i).kind = 3 := by unfold rpw; cases ss.getD i default <;> simp
      rw [playStep, if_pos hk]
      have hm : may (if i = 0 then none else some ([] : List (Cell × Val))).isSome (lastf xs i) (rpw xs ss i).kind (rpw xs ss i).version = okf xs ss (i + 1) := by
        unfold okf
        rw [ho]
        by_cases h0 : i = 0
        · subst h0
          simp only [may, rpw, if_true, Option.isSome_none, Bool.false_eq_true, if_false, Bool.true_and]
          rcases Bool.eq_false_or_eq_true (ss.getD 0 default) with h | h <;> simp only [h] <;> simp
        · simp only [may, rpw, if_neg h0, Option.isSome_some, if_true, Bool.true_and]
          rcases Bool.eq_false_or_eq_true (ss.getD i default) with h | h <;> simp only [h] <;> simp
      show (if may (if i = 0 then none else some ([] : List (Cell × Val))).isSome (lastf xs i) (rpw xs ss i).kind (rpw xs ss i).version then _ else _ : Option _).bind _ = _
      rw [hm]
      cases okf xs ss (i + 1) with
      | false => rfl
      | true =>
        rw [if_pos rfl, if_pos rfl, if_neg (Nat.succ_ne_zero i)]
        show some (some (showAll [] _), _) = _
        simp only [showAll, List.foldl_nil]
        by_cases h0 : i = 0
        · simp [h0, rpw, lastf]
        · simp [h0, rpw, lastf]
theorem play_res (xs : List Int) (ss : List Bool) (i : Nat) : playR (rps xs ss i) = ([], okf xs ss i) := by
  unfold playR
  rw [play_rps]
  cases okf xs ss i with
  | false => rfl
  | true =>
    rw [if_pos rfl]
    by_cases h0 : i = 0
    · rw [if_pos h0]
    · rw [if_neg h0]
      simp [listM, sortC]
set_option maxHeartbeats 2000000 in
theorem walk_WindowWrong (xs : List Int) (ss : List Bool) (p r : Option Addr) (n k cap cap' : Nat) (hn : n = xs.length) (hk : k = ss.length) (hn9 : n ≤ 9223372036854775807) (hk9 : k ≤ 9223372036854775807) (w : World) (hs : SlA w 1 p n (fun i => [.int .i64 (xs.getD i default)])) (hs' : SlA w 1 r k (fun i => [.bool (ss.getD i default)])) : Calls Try.prog 15 #[.slice p n cap, .slice r k cap'] w fun e w' => e = .returned (.bool true) ∧ Bl w w' := by
  refine enter (args := [_, _]) (M := []) (K := []) Try.func15 rfl Try.ntmps15 rfl (St.refl _ _) ?_
  repeat' first
    | (refine gl_gate ?_; first
      | refine gl_nil ?_
      | (refine gl_calv0 ?_; first | refine gl_yd (yd_call (gok_none rfl) rfl ent74 rfl rfl (fun _ => allT_of rfl) (fun _ W hW => ct_aliveW W)) rfl rfl ?_)
      | (refine gl_pick0 ?_; first | refine gl_yv (yv_and (gok_none rfl) rfl rfl rfl (fun _ => rfl) c_imp2) rfl rfl ?_ | refine gl_yv (yv_or (gok_none rfl) rfl rfl rfl (fun _ => rfl) c_imp2) rfl rfl ?_)
      | (refine gl_any0 ?_; refine gl_pure tab_ok rfl rfl rfl rfl rfl rfl ?_)
      | (refine gl_anyG ?_; first | refine gl_yv (yv_pure tab_ok c_gok rfl rfl c_allT) rfl rfl ?_ | refine gl_yv (yv_indexS tab_ok c_gok rfl rfl rfl rfl c_imp c_imp (by intro hq_; (try simp only [Bool.and_eq_true, Bool.not_eq_true', Bool.not_eq_false', Bool.or_eq_false_iff, Bool.or_eq_true, decide_eq_true_eq, decide_eq_false_iff_not, Bool.true_and, Bool.and_true] at hq_); omega)) rfl rfl ?_ | refine gl_yv (yv_indexS (i := 0) tab_ok c_gok rfl rfl rfl rfl c_imp c_imp (by intro hq_; (try simp only [Bool.and_eq_true, Bool.not_eq_true', Bool.not_eq_false', Bool.or_eq_false_iff, Bool.or_eq_true, decide_eq_true_eq, decide_eq_false_iff_not, Bool.true_and, Bool.and_true] at hq_); omega)) rfl rfl ?_))
    | (refine gc_gate ?_; first
      | refine gc_seq ?_
      | refine gc_region ?_)
    | (refine ge_gate ?_; first
      | ((with_reducible refine ge_gT ?_); first | with_reducible refine ge_then ?_ | with_reducible refine ge_then_exit ?_ | with_reducible refine ge_then_ret ?_))
  refine gc_cond rfl ?_ ?_ <;> intro h_
  · repeat' first
      | (refine gl_gate ?_; first
        | refine gl_nil ?_
        | (refine gl_any0 ?_; refine gl_pure tab_ok rfl rfl rfl rfl rfl rfl ?_))
      | (refine gc_gate ?_; first
        | refine gc_seq ?_
        | refine gc_region ?_
        | refine gc_ret ?_)
      | (refine ge_gate ?_; first
        | ((with_reducible refine ge_gT ?_); first | with_reducible refine ge_then ?_ | with_reducible refine ge_then_exit ?_ | with_reducible refine ge_then_ret ?_)
        | ((with_reducible refine ge_gB ?_); first | refine ge_ret1 tab_ok rfl c_rvt ?_ | refine ge_end1 tab_ok rfl c_rvt ?_ | refine ge_ret2 tab_ok rfl c_rvt c_rvt ?_ | refine ge_ret_none rfl ?_ | refine ge_end_none rfl ?_))
    intro W hW
    exact ⟨rfl, hW.below0⟩
  repeat' first
    | (refine gl_gate ?_; first
      | refine gl_nil ?_
      | (refine gl_any0 ?_; refine gl_pure tab_ok rfl rfl rfl rfl rfl rfl ?_))
    | (refine gc_gate ?_; first
      | refine gc_seq ?_
      | refine gc_region ?_
      | refine gc_block ?_
      | refine gc_skip ?_)
    | (refine ge_gate ?_; first
      | ((with_reducible refine ge_gT ?_); first | with_reducible refine ge_then ?_ | with_reducible refine ge_then_exit ?_ | with_reducible refine ge_then_ret ?_))
  have hn20 : n ≤ 20 := by simp at h_; omega
  have hkn : n ≤ k := by simp at h_; omega
  clear h_
  refine gc_loop (α := Nat × Option Nat × Nat × List Value) (fun x => [(0, true, .slice p n cap), (1, true, .slice r k cap'), (6, true, .slice (x.2.1.map ad) x.1 x.2.2.1), (7, true, .bool (okf xs ss x.1)), (8, true, .int .i64 (lastf xs x.1)), (9, true, .int .i64 (x.1 : Int))])
    (fun x => ow x.2.1 true (cat (fun r : Rep => r.rl none 0) (rps xs ss x.1) ++ x.2.2.2) 65) (fun x => x.1 ≤ n ∧ Ow x.2.1 x.1 x.2.2.1 4 (cat (fun r : Rep => r.rl none 0) (rps xs ss x.1)) x.2.2.2) (fun x => n - x.1) (0, none, 0, []) c_frs (List.Sublist.refl _) ⟨Nat.zero_le _, Ow.none0⟩ ?_
  rintro ⟨i, q, c, sp⟩ ⟨hi, ho⟩
  dsimp only at hi ho ⊢
  repeat' first
    | refine gl_yv (yv_idxA (i := 0) tab_ok hs' c_gok rfl rfl rfl rfl rfl rfl c_imp c_imp c_bnd) rfl rfl ?_
    | refine gl_yv (yv_ldA0 (i := 0) tab_ok hs' c_nm c_gok rfl rfl c_imp c_bnd (fun _ => c_lds)) rfl rfl ?_
    | (refine gl_gate ?_; first
      | refine gl_nil ?_
      | (refine gl_add0 ?_; refine gl_yv (yv_add tab_ok (gok_none rfl) rfl rfl rfl rfl (fun _ => allT_of rfl) (by intro _; omega)) rfl rfl ?_)
      | (refine gl_idx0 ?_; refine gl_yv (yv_idxA tab_ok hs (gok_none rfl) rfl rfl rfl rfl rfl rfl (fun _ => rfl) (fun _ => rfl) c_bnd) rfl rfl ?_)
      | (refine gl_load0 ?_; refine gl_yv (yv_ldA0 tab_ok hs c_nm (gok_none rfl) rfl rfl (fun _ => rfl) c_bnd (fun _ => c_lds)) rfl rfl ?_)
      | (refine gl_idx0 ?_; refine gl_yv (yv_idxA tab_ok hs' (gok_none rfl) rfl rfl rfl rfl rfl rfl (fun _ => rfl) (fun _ => rfl) c_bnd) rfl rfl ?_)
      | (refine gl_load0 ?_; refine gl_yv (yv_ldA0 tab_ok hs' c_nm (gok_none rfl) rfl rfl (fun _ => rfl) c_bnd (fun _ => c_lds)) rfl rfl ?_)
      | (refine gl_app0 ?_; (refine gl_ev (ev_append tab_ok rfl rfl rfl rfl rfl rfl rfl rfl c_oa (ho) (c_src) c_lim c_lim ?_) rfl rfl; intro p_ c_ sp_ hw_))
      | (refine gl_bld0 ?_; (refine gl_ev (ev_buildSlice tab_ok rfl rfl rfl rfl rfl rfl rfl rfl rfl rfl ?_) rfl rfl; intro g_ hg_))
      | (refine gl_pick0 ?_; first | refine gl_yv (yv_and (gok_none rfl) rfl rfl rfl (fun _ => rfl) c_imp2) rfl rfl ?_ | refine gl_yv (yv_or (gok_none rfl) rfl rfl rfl (fun _ => rfl) c_imp2) rfl rfl ?_)
      | (refine gl_any0 ?_; refine gl_pure tab_ok rfl rfl rfl rfl rfl rfl ?_)
      | (refine gl_anyG ?_; first | refine gl_yv (yv_pure tab_ok c_gok rfl rfl c_allT) rfl rfl ?_ | refine gl_yv (yv_indexS tab_ok c_gok rfl rfl rfl rfl c_imp c_imp (by intro hq_; (try simp only [Bool.and_eq_true, Bool.not_eq_true', Bool.not_eq_false', Bool.or_eq_false_iff, Bool.or_eq_true, decide_eq_true_eq, decide_eq_false_iff_not, Bool.true_and, Bool.and_true] at hq_); omega)) rfl rfl ?_ | refine gl_yv (yv_indexS (i := 0) tab_ok c_gok rfl rfl rfl rfl c_imp c_imp (by intro hq_; (try simp only [Bool.and_eq_true, Bool.not_eq_true', Bool.not_eq_false', Bool.or_eq_false_iff, Bool.or_eq_true, decide_eq_true_eq, decide_eq_false_iff_not, Bool.true_and, Bool.and_true] at hq_); omega)) rfl rfl ?_))
    | (refine gc_gate ?_; first
      | refine gc_seq ?_
      | refine gc_region ?_
      | (refine gc_cond rfl ?_ ?_ <;> intro h_ <;> have hd_ := h_ <;> (try simp only [bytes_beq, cell_beq, val_beq, stamp_beq, decide_eq_true_eq, decide_eq_false_iff_not, Bool.and_eq_true, Bool.or_eq_true, Bool.or_eq_false_iff, Bool.not_eq_true', Bool.not_eq_false', Bool.not_true, Bool.not_false, Bool.false_or, Bool.true_and, Bool.and_true, Bool.or_false, beq_iff_eq, bne_iff_ne, beq_eq_false_iff_ne, bne_eq_false_iff_eq, ne_eq, Bool.false_eq_true, reduceCtorEq] at hd_) <;> (try (exfalso; omega)))
      | refine gc_block ?_
      | refine gc_exit ?_
      | refine gc_skip ?_)
    | (refine ge_gate ?_; first
      | ((with_reducible refine ge_gT ?_); first | with_reducible refine ge_then ?_ | with_reducible refine ge_then_exit ?_ | with_reducible refine ge_then_ret ?_)
      | ((with_reducible refine ge_gK ?_); first | with_reducible refine ge_block ?_ | refine ge_block_exit ?_ | refine ge_block_pass rfl ?_ | with_reducible refine ge_block_ret ?_))
  · have hsi : ss.getD i default = true := by assumption
    have e2 : rpw xs ss i = ⟨2, v15 (xs.getD i default), 0, []⟩ := by unfold rpw; rw [hsi]; rfl
    have e3 : cat (fun r : Rep => r.rl none 0) (rps xs ss (i + 1)) = cat (fun r : Rep => r.rl none 0) (rps xs ss i) ++ (⟨2, v15 (xs.getD i default), 0, []⟩ : Rep).rl none 0 := by rw [rps_succ, cat_snoc, e2]
    refine ge_round (i + 1, p_, c_, sp_) ⟨by omega, ?_⟩ (by show n - (i + 1) < n - i; omega) ?_ ?_
    · show Ow p_ (i + 1) c_ 4 (cat (fun r : Rep => r.rl none 0) (rps xs ss (i + 1))) sp_
      rw [e3]
      exact hw_
    · dsimp only
      rw [show okf xs ss (i + 1) = (okf xs ss i && ss.getD 0 default) from by rw [okf, if_pos (by omega)]]
      exact c_frs
    · dsimp only
      rw [e3]
      exact List.sublist_append_left _ _
  · have hsi : ss.getD i default = true := by assumption
    have e2 : rpw xs ss i = ⟨2, v15 (xs.getD i default), 0, []⟩ := by unfold rpw; rw [hsi]; rfl
    have e3 : cat (fun r : Rep => r.rl none 0) (rps xs ss (i + 1)) = cat (fun r : Rep => r.rl none 0) (rps xs ss i) ++ (⟨2, v15 (xs.getD i default), 0, []⟩ : Rep).rl none 0 := by rw [rps_succ, cat_snoc, e2]
    refine ge_round (i + 1, p_, c_, sp_) ⟨by omega, ?_⟩ (by show n - (i + 1) < n - i; omega) ?_ ?_
    · show Ow p_ (i + 1) c_ 4 (cat (fun r : Rep => r.rl none 0) (rps xs ss (i + 1))) sp_
      rw [e3]
      exact hw_
    · dsimp only
      rw [show okf xs ss (i + 1) = (okf xs ss i && decide (v15 (xs.getD i default) ≥ lastf xs i)) from by rw [okf, if_neg (by omega), if_pos hsi]]
      exact c_frs
    · dsimp only
      rw [e3]
      exact List.sublist_append_left _ _
  · exfalso
    have h1 : ss.getD i default = true := by assumption
    have h2 : ss.getD i default = false := by assumption
    rw [h1] at h2
    cases h2
  · have hsi : ss.getD i default = false := by assumption
    have e2 : rpw xs ss i = ⟨3, v15 (xs.getD i default), 0, []⟩ := by unfold rpw; rw [hsi]; rfl
    have e3 : cat (fun r : Rep => r.rl none 0) (rps xs ss (i + 1)) = cat (fun r : Rep => r.rl none 0) (rps xs ss i) ++ (⟨3, v15 (xs.getD i default), 0, []⟩ : Rep).rl none 0 := by rw [rps_succ, cat_snoc, e2]
    refine ge_round (i + 1, p_, c_, sp_) ⟨by omega, ?_⟩ (by show n - (i + 1) < n - i; omega) ?_ ?_
    · show Ow p_ (i + 1) c_ 4 (cat (fun r : Rep => r.rl none 0) (rps xs ss (i + 1))) sp_
      rw [e3]
      exact hw_
    · dsimp only
      rw [show okf xs ss (i + 1) = (okf xs ss i && ss.getD 0 default) from by rw [okf, if_pos (by omega)]]
      exact c_frs
    · dsimp only
      rw [e3]
      exact List.sublist_append_left _ _
  · exfalso
    have h1 : ss.getD i default = true := by assumption
    have h2 : ss.getD i default = false := by assumption
    rw [h1] at h2
    cases h2
  · have hsi : ss.getD i default = false := by assumption
    have e2 : rpw xs ss i = ⟨3, v15 (xs.getD i default), 0, []⟩ := by unfold rpw; rw [hsi]; rfl
    have e3 : cat (fun r : Rep => r.rl none 0) (rps xs ss (i + 1)) = cat (fun r : Rep => r.rl none 0) (rps xs ss i) ++ (⟨3, v15 (xs.getD i default), 0, []⟩ : Rep).rl none 0 := by rw [rps_succ, cat_snoc, e2]
    refine ge_round (i + 1, p_, c_, sp_) ⟨by omega, ?_⟩ (by show n - (i + 1) < n - i; omega) ?_ ?_
    · show Ow p_ (i + 1) c_ 4 (cat (fun r : Rep => r.rl none 0) (rps xs ss (i + 1))) sp_
      rw [e3]
      exact hw_
    · dsimp only
      rw [show okf xs ss (i + 1) = (okf xs ss i && decide (v15 (xs.getD i default) > lastf xs i)) from by rw [okf, if_neg (by omega), if_neg (by rw [hsi]; simp)]]
      exact c_frs
    · dsimp only
      rw [e3]
      exact List.sublist_append_left _ _
  obtain rfl : i = n := by omega
  have hpr := play_res xs ss i
  refine gl_ev (ev_callPl (x := ([], okf xs ss i)) rfl rfl rfl rfl rfl (fun W hW => ?_) (fun q2_ c2_ sp2_ hw2_ => ?_)) rfl rfl
  · have h1 := ct_Play (w := W) (p := q.map ad) (l := rps xs ss i) ⟨fun _ => none, fun _ => 0, slA_cat (f := fun r : Rep => r.rl none 0) (fun _ => rfl) rfl hW Oa.self (by rw [rps_length]; exact ho), fun j hj => by
      have e : ((rps xs ss i).getD j default).cells = [] := by
        have := getD_mem (rps xs ss i) j hj
        unfold rps at this
        obtain ⟨z, _, hz⟩ := List.mem_map.1 this
        unfold rps
        rw [← hz]
        rfl
      rw [e]
      exact SlA.nil⟩ (by rw [rps_length]; omega) (fun x hx => by
      unfold rps at hx
      obtain ⟨z, _, rfl⟩ := List.mem_map.1 hx
      simp [rpw]) c
    rw [hpr, rps_length] at h1
    exact h1
  dsimp only at hw2_ ⊢
  repeat' first
    | (refine gl_gate ?_; first
      | refine gl_nil ?_
      | (refine gl_pick0 ?_; first | refine gl_yv (yv_and (gok_none rfl) rfl rfl rfl (fun _ => rfl) c_imp2) rfl rfl ?_ | refine gl_yv (yv_or (gok_none rfl) rfl rfl rfl (fun _ => rfl) c_imp2) rfl rfl ?_)
      | (refine gl_any0 ?_; refine gl_pure tab_ok rfl rfl rfl rfl rfl rfl ?_)
      | (refine gl_anyG ?_; first | refine gl_yv (yv_pure tab_ok c_gok rfl rfl c_allT) rfl rfl ?_ | refine gl_yv (yv_indexS tab_ok c_gok rfl rfl rfl rfl c_imp c_imp (by intro hq_; (try simp only [Bool.and_eq_true, Bool.not_eq_true', Bool.not_eq_false', Bool.or_eq_false_iff, Bool.or_eq_true, decide_eq_true_eq, decide_eq_false_iff_not, Bool.true_and, Bool.and_true] at hq_); omega)) rfl rfl ?_ | refine gl_yv (yv_indexS (i := 0) tab_ok c_gok rfl rfl rfl rfl c_imp c_imp (by intro hq_; (try simp only [Bool.and_eq_true, Bool.not_eq_true', Bool.not_eq_false', Bool.or_eq_false_iff, Bool.or_eq_true, decide_eq_true_eq, decide_eq_false_iff_not, Bool.true_and, Bool.and_true] at hq_); omega)) rfl rfl ?_))
    | (refine gc_gate ?_; first
      | refine gc_seq ?_
      | refine gc_region ?_
      | refine gc_ret ?_)
    | (refine ge_gate ?_; first
      | ((with_reducible refine ge_gT ?_); first | with_reducible refine ge_then ?_ | with_reducible refine ge_then_exit ?_ | with_reducible refine ge_then_ret ?_)
      | ((with_reducible refine ge_gB ?_); first | refine ge_ret1 tab_ok rfl c_rvt ?_ | refine ge_end1 tab_ok rfl c_rvt ?_ | refine ge_ret2 tab_ok rfl c_rvt c_rvt ?_ | refine ge_ret_none rfl ?_ | refine ge_end_none rfl ?_))
  intro W hW
  exact ⟨by simp, hW.below0⟩
theorem law_WindowWrong (W : World) {b0 b1 : Nat} {v0 v1 : Value} (o0 : Value.okWide Try.prog W .any b0 83 v0) (o1 : Value.okWide Try.prog W .any b1 41 v1)
    (r0 : ∃ m, Rd tab W m 83 v0.cells.toList) (r1 : ∃ m, Rd tab W m 41 v1.cells.toList) : Calls Try.prog 15 #[v0, v1] W fun e w' => e = .returned (.bool true) ∧ Bl W w' := by
  rw [arg_one tab_ok (t := 83) rfl rfl o0] at r0
  rw [arg_one tab_ok (t := 41) rfl rfl o1] at r1
  obtain ⟨m0, r0⟩ := r0
  obtain ⟨m1, r1⟩ := r1
  obtain ⟨p, n, cap, xs, h0, hn, hle, hcap, hs, _⟩ := rdFlat (f := fun x : Int => [.int .i64 x]) (R := fun _ => True) r0 rfl rfl (by decide) fun m cs h => by
    obtain ⟨x, hx, _⟩ := rd_i64 h rfl
    exact ⟨x, hx, trivial⟩
  obtain ⟨r, k, cap', ss, h1, hle', hcap', hk, hs'⟩ := rdBools r1
  cases h0
  cases h1
  exact walk_WindowWrong xs ss p r n k cap cap' hn hk.symm (by omega) (by omega) W hs hs'
end Go.Proofs.Ytkgjfcjciigcgaa
