import Derived.Test.YtkgjfcjciigcgaaGoKnB
import Derived.Test.YtkgjfcjciigcgaaGoDepsQB
/-
  Knots in the order of what they read: abacistlaw13.
-/
namespace Go.Proofs.Ytkgjfcjciigcgaa
open Go.Proofs.Ytkgjfcjciigcgaa.Sl Go.RowKit
set_option linter.unusedVariables false
set_option linter.unusedSimpArgs false
set_option linter.unusedSectionVars false
set_option maxRecDepth 100000

theorem gok_t0J {l : List Oper} {F : Fl} {o : Oper} {j t : Nat} (h : o.guard = some (j, true)) (hj : (match nth l j with | some oj => oj.dst | none => none) = some t) (hc : Fg F t = some (true, .bool true)) : Gok l F o true := by
  have := gok_t h hj hc
  simpa using this
theorem c_gokJ {P : Prop} (h : P := by first | exact gok_none rfl | exact gok_t0J rfl rfl rfl | exact gok_f0D rfl rfl rfl | exact gok_t rfl rfl rfl | exact gok_f rfl rfl rfl | exact gok_tn rfl rfl rfl | exact gok_fn rfl rfl rfl) : P := h
theorem Sl.src_fz {P : Program} {T : Tab} {w0 : World} {M : List Nat} {K A : Kl} {t' : TypeId} {s bs k n : Nat} {z : List Value} {tx : TypeId} {f : Nat → List Value} {p : Option Addr} {cap : Nat} (hT : TabOk P T) (ht : ty T tx = some ⟨.slice t', s, bs, z⟩) (h : Fz A fun W => SlA W k p n f) (hk : Kin A K) (h1 : ∀ i, i < n → ∀ u ∈ f i, u.oneCell' = true) : SrcK P k tx w0 M K (.slice p n cap) n (elems n f).flatten :=
  fun W hW => (src_any (M := []) (K := []) hT ht (h.at' hW hk) (fun _ => List.not_mem_nil) h1) W (St.refl W [])
theorem ordD_next {l : List En} {i : Nat} (hi : i < (orD l).length) : ordD l (i + 1) = ordD l i ++ [(orD l).getD i default] := by
  obtain ⟨k, h1, h2⟩ := nxtD_ex (l := l) (n := i) (by rw [← orD_len]; exact hi)
  rw [orD_at hi] at h1
  rw [h2, Option.some.inj h1]
theorem tld_next {l : List En} {i : Nat} (hi : i < (orD l).length) : tldD (ordD l (i + 1)) = tldD (ordD l i) ++ ((orD l).getD i default).cells := by
  rw [ordD_next hi]
  unfold tldD
  rw [List.flatMap_append]
  simp
theorem kp_at {ks : List KP} {L : List Kn} (h : ks.map KP.kn = L) {i : Nat} (hi : i < ks.length) : ∃ p k c, ks.getD i default = ⟨p, k, c⟩ ∧ L.getD i default = k ∧ k ∈ L := by
  subst h
  refine ⟨(ks.getD i default).p, (ks.getD i default).kn, (ks.getD i default).c, rfl, by simp [List.getD, hi], ?_⟩
  rw [List.mem_map]
  exact ⟨_, getD_mem _ _ hi, rfl⟩
theorem kn_len {l : List En} {k : Kn} (hk : k ∈ orD l) : k.cells.length ≤ l.length := by
  obtain ⟨f, _, _, rfl⟩ := allD_mem.1 (orD_mem.1 hk)
  exact Nat.le_trans (List.length_filter_le ..) (dC_len l)
set_option maxHeartbeats 8000000 in
theorem walk_KnotsOrder (l : List En) (p : Option Addr) (n cap : Nat) (hn : n = l.length) (hn9 : n ≤ 9223372036854775807) (w : World) (hs : SlA w 20 p n (fun i => (l.getD i default).l)) (hR : ∀ e ∈ l, NodeR All w e.node e.p) : Calls Try.prog 29 #[.slice p n cap] w fun e w' => e = .returned (.bool true) ∧ Bl w w' := by
  subst hn
  refine enter (args := [_]) (M := []) (K := []) Try.func29 rfl Try.ntmps29 rfl (St.refl _ _) ?_
  repeat' first
    | (refine gl_gate ?_; first
      | refine gl_nil ?_
      | (refine gl_calv0 ?_; first | refine gl_yd (yd_call (gok_none rfl) rfl ent129 rfl rfl (fun _ => allT_of rfl) (fun _ W hW => ct_aliveK W)) rfl rfl ?_ | refine gl_yd (yd_call (gok_none rfl) rfl ent108 rfl rfl (fun _ => allT_of rfl) (fun _ W hW => ct_Few12 l p _ cap W rfl (hs.st hW) (fun e he => (hR e he).st hW) (by omega))) rfl rfl ?_)
      | (refine gl_calvG ?_; first | refine gl_yd (yd_call c_gok rfl ent129 rfl rfl c_allT (fun _ W hW => ct_aliveK W)) rfl rfl ?_ | refine gl_yd (yd_call c_gok rfl ent108 rfl rfl c_allT (fun _ W hW => ct_Few12 l p _ cap W rfl (hs.st hW) (fun e he => (hR e he).st hW) (by omega))) rfl rfl ?_)
      | (refine gl_pick0 ?_; first | refine gl_yv (yv_and (gok_none rfl) rfl rfl rfl (fun _ => rfl) c_imp2) rfl rfl ?_ | refine gl_yv (yv_or (gok_none rfl) rfl rfl rfl (fun _ => rfl) c_imp2) rfl rfl ?_)
      | (refine gl_any0 ?_; refine gl_pure tab_ok rfl rfl rfl rfl rfl rfl ?_)
      | (refine gl_anyG ?_; first | refine gl_yv (yv_pure tab_ok c_gok rfl rfl c_allT) rfl rfl ?_ | refine gl_yv (yv_indexS tab_ok c_gok rfl rfl rfl rfl c_imp c_imp (by intro hq_; (try simp only [Bool.and_eq_true, Bool.not_eq_true', Bool.not_eq_false', Bool.or_eq_false_iff, Bool.or_eq_true, decide_eq_true_eq, decide_eq_false_iff_not, Bool.true_and, Bool.and_true] at hq_); omega)) rfl rfl ?_ | refine gl_yv (yv_indexS (i := 0) tab_ok c_gok rfl rfl rfl rfl c_imp c_imp (by intro hq_; (try simp only [Bool.and_eq_true, Bool.not_eq_true', Bool.not_eq_false', Bool.or_eq_false_iff, Bool.or_eq_true, decide_eq_true_eq, decide_eq_false_iff_not, Bool.true_and, Bool.and_true] at hq_); omega)) rfl rfl ?_))
    | (refine gc_gate ?_; first
      | refine gc_seq ?_
      | refine gc_region ?_)
    | (refine ge_gate ?_; first
      | ((with_reducible refine ge_gT ?_); first | with_reducible refine ge_then ?_ | with_reducible refine ge_then_exit ?_ | with_reducible refine ge_then_ret ?_))
  (refine gc_cond rfl ?_ ?_ <;> intro h_ <;> have hd_ := h_ <;> (try simp only [bytes_beq, cell_beq, val_beq, stamp_beq, decide_eq_true_eq, decide_eq_false_iff_not, Bool.and_eq_true, Bool.or_eq_true, Bool.or_eq_false_iff, Bool.not_eq_true', Bool.not_eq_false', Bool.not_true, Bool.not_false, Bool.false_or, Bool.true_and, Bool.and_true, Bool.or_false, beq_iff_eq, bne_iff_ne, beq_eq_false_iff_ne, bne_eq_false_iff_eq, ne_eq, Bool.false_eq_true, reduceCtorEq] at hd_) <;> (try (exfalso; omega)))
  · repeat' first
      | (refine gl_gate ?_; first
        | refine gl_nil ?_
        | (refine gl_any0 ?_; refine gl_pure tab_ok rfl rfl rfl rfl rfl rfl ?_))
      | (refine gc_gate ?_; first
        | refine gc_seq ?_
        | refine gc_region ?_
        | refine gc_ret ?_)
      | (refine ge_gate ?_; first
        | ((with_reducible refine ge_gT ?_); first | with_reducible refine ge_then ?_ | with_reducible refine ge_then_exit ?_ | with_reducible refine ge_then_ret ?_)
        | ((with_reducible refine ge_gB ?_); first | refine ge_ret1 tab_ok rfl c_rvt ?_ | refine ge_end1 tab_ok rfl c_rvt ?_ | refine ge_ret2 tab_ok rfl c_rvt c_rvt ?_ | refine ge_ret_none rfl ?_ | refine ge_end_none rfl ?_))
    intro W hW
    exact ⟨rfl, hW.below0⟩
  have hfew : few12 l = true := by simpa using hd_
  have hlen := few12_len hfew
  have hcn := fun e he => few12_node hfew (e := e) he
  clear h_ hd_
  repeat' first
    | (refine gl_gate ?_; first
      | (refine gl_any0 ?_; refine gl_pure tab_ok rfl rfl rfl rfl rfl rfl ?_))
    | (refine gc_gate ?_; first
      | refine gc_seq ?_
      | refine gc_region ?_
      | refine gc_skip ?_)
    | (refine ge_gate ?_; first
      | ((with_reducible refine ge_gT ?_); first | with_reducible refine ge_then ?_ | with_reducible refine ge_then_exit ?_ | with_reducible refine ge_then_ret ?_))
  refine gl_ev (ev_callM (M' := []) (K2 := _) rfl rfl ent110 rfl rfl rfl (fun W hW => ct_NewDeps (S := All) l _ _ _ W rfl (hs.st hW) (fun e he => (hR e he).st hW) hcn (by omega)) (by simp) (fun x => x.2) (List.Sublist.refl _) (by simp) ?_) rfl rfl
  rintro ⟨⟨gr, K2⟩, hK2⟩ ⟨D, hfD⟩
  dsimp only at hfD ⊢
  repeat' first
    | (refine gl_gate ?_; first
      | refine gl_nil ?_
      | (refine gl_any0 ?_; refine gl_pure tab_ok rfl rfl rfl rfl rfl rfl ?_))
    | (refine gc_gate ?_; first
      | refine gc_seq ?_
      | refine gc_region ?_)
    | (refine ge_gate ?_; first
      | ((with_reducible refine ge_gT ?_); first | with_reducible refine ge_then ?_ | with_reducible refine ge_then_exit ?_ | with_reducible refine ge_then_ret ?_))
  refine gl_ev (ev_callM (M' := []) (K2 := _) rfl rfl ent130 rfl rfl rfl (fun W hW => ct_Order (S := All) l _ _ _ W rfl (hs.st hW) (fun e he => (hR e he).st hW) hcn (by omega)) (by simp) orX_wr (List.Sublist.refl _) (by simp) ?_) rfl rfl
  rintro ⟨⟨q1, c1, ks, sp1, K1⟩, hK1⟩ ⟨hk1, hw1, hz1⟩
  dsimp only at hk1 hw1 hz1 ⊢
  have hkl : ks.length = (orD l).length := by have := congrArg List.length hk1; rw [List.length_map] at this; exact this
  have hkb : ks.length ≤ l.length := by rw [hkl, orD_len]; exact allD_len l
  rw [List.append_assoc (ow q1 true _ 151)]
  repeat' first
    | (refine gl_gate ?_; first
      | refine gl_nil ?_
      | (refine gl_any0 ?_; refine gl_pure tab_ok rfl rfl rfl rfl rfl rfl ?_))
    | (refine gc_gate ?_; first
      | refine gc_seq ?_
      | refine gc_region ?_
      | refine gc_block ?_)
    | (refine ge_gate ?_; first
      | ((with_reducible refine ge_gT ?_); first | with_reducible refine ge_then ?_ | with_reducible refine ge_then_exit ?_ | with_reducible refine ge_then_ret ?_))
  refine gc_sq (ow q1 true (cat KP.l ks ++ sp1) 151 ++ (K1 ++ K2)) c_sq ?_
  refine gc_loop (α := Nat × Option Nat × Nat × List Value) (fun x => [(4, true, .pointer (some (ad gr))), (5, true, .slice (q1.map ad) ks.length c1), (6, true, .slice (x.2.1.map ad) (tldD (ordD l x.1)).length x.2.2.1), (7, true, .int .i64 (x.1 : Int))])
    (fun x => ow x.2.1 true (cat Cell.l (tldD (ordD l x.1)) ++ x.2.2.2) 25 ++ (ow q1 true (cat KP.l ks ++ sp1) 151 ++ (K1 ++ K2))) (fun x => x.1 ≤ ks.length ∧ Ow x.2.1 (tldD (ordD l x.1)).length x.2.2.1 3 (cat Cell.l (tldD (ordD l x.1))) x.2.2.2) (fun x => ks.length - x.1) (0, none, 0, []) c_frs (List.Sublist.refl _) ⟨Nat.zero_le _, Ow.none0⟩ ?_
  rintro ⟨i, q3, c3, sp3⟩ ⟨hi, hw3⟩
  dsimp only at hi hw3 ⊢
  have htl := tldD_le (l := l) (n := i) (by omega)
  repeat' first
    | (refine gl_gate ?_; first
      | refine gl_nil ?_
      | (refine gl_any0 ?_; refine gl_pure tab_ok rfl rfl rfl rfl rfl rfl ?_))
    | (refine gc_gate ?_; first
      | refine gc_seq ?_
      | refine gc_region ?_)
    | (refine ge_gate ?_; first
      | ((with_reducible refine ge_gT ?_); first | with_reducible refine ge_then ?_ | with_reducible refine ge_then_exit ?_ | with_reducible refine ge_then_ret ?_))
  (refine gc_cond rfl ?_ ?_ <;> intro h_ <;> have hd_ := h_ <;> (try simp only [bytes_beq, cell_beq, val_beq, stamp_beq, decide_eq_true_eq, decide_eq_false_iff_not, Bool.and_eq_true, Bool.or_eq_true, Bool.or_eq_false_iff, Bool.not_eq_true', Bool.not_eq_false', Bool.not_true, Bool.not_false, Bool.false_or, Bool.true_and, Bool.and_true, Bool.or_false, beq_iff_eq, bne_iff_ne, beq_eq_false_iff_ne, bne_eq_false_iff_eq, ne_eq, Bool.false_eq_true, reduceCtorEq] at hd_) <;> (try (exfalso; omega)))
  · have hik : i < ks.length := by omega
    obtain ⟨pk, k, ck, hkk, hk3, hkm⟩ := kp_at hk1 hik
    have hkn := kn_len hkm
    obtain ⟨hk0, hkc⟩ := orD_ok (l := l) (i := i) (by omega)
    have htn := tld_next (l := l) (i := i) (by omega)
    rw [hk3] at hk0 hkc htn
    have hz := hz1 i hik
    rw [hkk] at hz
    dsimp only at hz
    generalize htt : tldD (ordD l i) = tl at *
    have hk0' : k.cells.length ≠ 0 := fun h => hk0 (List.length_eq_zero_iff.1 h)
    repeat' first
      | (refine gl_idx0 ?_; refine gl_yv (yv_idxO tab_ok hw1 (gok_none rfl) rfl rfl rfl rfl rfl rfl (fun _ => rfl) (fun _ => rfl) c_bnd) rfl rfl ?_)
      | (refine gl_load0 ?_; refine gl_yv (yv_ldO (v := .slice pk k.cells.length ck) tab_ok c_oa hw1 (gok_none rfl) rfl rfl (fun _ => rfl) (fun _ => lds_partD (o := 0) len_kp (by omega) rfl (by decide) (lds_one rfl rfl rfl (by rw [hkk]; rfl))) c_bnd) rfl rfl ?_)
      | (refine gl_gate ?_; first
        | refine gl_nil ?_
        | (refine gl_any0 ?_; refine gl_pure tab_ok rfl rfl rfl rfl rfl rfl ?_))
      | (refine gc_gate ?_; first
        | refine gc_seq ?_
        | refine gc_region ?_
        | refine gc_block ?_
        | refine gc_skip ?_)
      | (refine ge_gate ?_; first
        | ((with_reducible refine ge_gT ?_); first | with_reducible refine ge_then ?_ | with_reducible refine ge_then_exit ?_ | with_reducible refine ge_then_ret ?_))
    (refine gc_cond rfl ?_ ?_ <;> intro h_ <;> have hd_ := h_ <;> (try simp only [bytes_beq, cell_beq, val_beq, stamp_beq, decide_eq_true_eq, decide_eq_false_iff_not, Bool.and_eq_true, Bool.or_eq_true, Bool.or_eq_false_iff, Bool.not_eq_true', Bool.not_eq_false', Bool.not_true, Bool.not_false, Bool.false_or, Bool.true_and, Bool.and_true, Bool.or_false, beq_iff_eq, bne_iff_ne, beq_eq_false_iff_ne, bne_eq_false_iff_eq, ne_eq, Bool.false_eq_true, reduceCtorEq] at hd_) <;> (try (exfalso; omega)))
    repeat' first
      | (refine gl_gate ?_; first
        | refine gl_nil ?_
        | (refine gl_any0 ?_; refine gl_pure tab_ok rfl rfl rfl rfl rfl rfl ?_))
      | (refine gc_gate ?_; first
        | refine gc_seq ?_
        | refine gc_region ?_
        | refine gc_block ?_
        | refine gc_skip ?_)
      | (refine ge_gate ?_; first
        | ((with_reducible refine ge_gT ?_); first | with_reducible refine ge_then ?_ | with_reducible refine ge_then_exit ?_ | with_reducible refine ge_then_ret ?_))
    refine gc_sq (ow q3 true (cat Cell.l tl ++ sp3) 25 ++ (ow q1 true (cat KP.l ks ++ sp1) 151 ++ (K1 ++ K2))) c_sq ?_
    refine gc_loop (α := Nat) (fun j => [(4, true, .pointer (some (ad gr))), (5, true, .slice (q1.map ad) ks.length c1), (6, true, .slice (q3.map ad) tl.length c3), (7, true, .int .i64 (i : Int)), (8, true, .int .i64 (j : Int))]) (fun _ => (ow q3 true (cat Cell.l tl ++ sp3) 25 ++ (ow q1 true (cat KP.l ks ++ sp1) 151 ++ (K1 ++ K2)))) (fun j => j ≤ k.cells.length) (fun j => k.cells.length - j) 0 c_frs (List.Sublist.refl _) (Nat.zero_le _) ?_
    rintro j hj
    repeat' first
      | (refine gl_idx0 ?_; refine gl_yv (yv_idxO tab_ok hw1 (gok_none rfl) rfl rfl rfl rfl rfl rfl (fun _ => rfl) (fun _ => rfl) c_bnd) rfl rfl ?_)
      | (refine gl_load0 ?_; refine gl_yv (yv_ldO (v := .slice pk k.cells.length ck) tab_ok c_oa hw1 (gok_none rfl) rfl rfl (fun _ => rfl) (fun _ => lds_partD (o := 0) len_kp (by omega) rfl (by decide) (lds_one rfl rfl rfl (by rw [hkk]; rfl))) c_bnd) rfl rfl ?_)
      | (refine gl_gate ?_; first
        | refine gl_nil ?_
        | (refine gl_any0 ?_; refine gl_pure tab_ok rfl rfl rfl rfl rfl rfl ?_))
      | (refine gc_gate ?_; first
        | refine gc_seq ?_
        | refine gc_region ?_)
      | (refine ge_gate ?_; first
        | ((with_reducible refine ge_gT ?_); first | with_reducible refine ge_then ?_ | with_reducible refine ge_then_exit ?_ | with_reducible refine ge_then_ret ?_))
    (refine gc_cond rfl ?_ ?_ <;> intro h_ <;> have hd_ := h_ <;> (try simp only [bytes_beq, cell_beq, val_beq, stamp_beq, decide_eq_true_eq, decide_eq_false_iff_not, Bool.and_eq_true, Bool.or_eq_true, Bool.or_eq_false_iff, Bool.not_eq_true', Bool.not_eq_false', Bool.not_true, Bool.not_false, Bool.false_or, Bool.true_and, Bool.and_true, Bool.or_false, beq_iff_eq, bne_iff_ne, beq_eq_false_iff_ne, bne_eq_false_iff_eq, ne_eq, Bool.false_eq_true, reduceCtorEq] at hd_) <;> (try (exfalso; omega)))
    · have hjk : j < k.cells.length := by omega
      generalize hxx : k.cells.getD j default = x
      have hxm : x ∈ k.cells := hxx ▸ getD_mem _ _ hjk
      obtain ⟨hx1, hx2, hx3, hx4⟩ := hkc x hxm
      have hrl := rdD_len l x
      have hal := aft_len l x
      repeat' first
        | (refine gl_idx0 ?_; refine gl_yv (yv_idxO tab_ok hw1 (gok_none rfl) rfl rfl rfl rfl rfl rfl (fun _ => rfl) (fun _ => rfl) c_bnd) rfl rfl ?_)
        | (refine gl_load0 ?_; refine gl_yv (yv_ldO (v := .slice pk k.cells.length ck) tab_ok c_oa hw1 (gok_none rfl) rfl rfl (fun _ => rfl) (fun _ => lds_partD (o := 0) len_kp (by omega) rfl (by decide) (lds_one rfl rfl rfl (by rw [hkk]; rfl))) c_bnd) rfl rfl ?_)
        | (refine gl_idx0 ?_; refine gl_yv (yv_idxF (i := j) tab_ok hz c_kin (gok_none rfl) rfl rfl rfl rfl rfl rfl (fun _ => rfl) (fun _ => rfl) (fun _ => hjk)) rfl rfl ?_)
        | (refine gl_load0 ?_; refine gl_yv (yv_ldF (v := .agg x.l.toArray) (i := j) tab_ok hz c_kin (gok_none rfl) rfl rfl (fun _ => rfl) (fun _ => hjk) (fun _ => by rw [hxx]; exact lds_agg rfl rfl rfl)) rfl rfl ?_)
        | (refine gl_gate ?_; first
          | refine gl_nil ?_
          | (refine gl_load0 ?_; refine gl_yv (yv_load tab_ok (gok_none rfl) rfl rfl (fun _ => rfl) c_mem (fun _ => c_lds)) rfl rfl ?_)
          | (refine gl_alc0 ?_; (refine gl_alloc tab_ok rfl rfl rfl rfl rfl ?_; intro g_ hg_))
          | (refine gl_sto0 ?_; refine gl_store tab_ok rfl rfl rfl rfl rfl rfl rfl c_one rfl c_ku ?_)
          | (refine gl_any0 ?_; refine gl_pure tab_ok rfl rfl rfl rfl rfl rfl ?_))
        | (refine gc_gate ?_; first
          | refine gc_seq ?_
          | refine gc_region ?_
          | refine gc_block ?_
          | refine gc_skip ?_)
        | (refine ge_gate ?_; first
          | ((with_reducible refine ge_gT ?_); first | with_reducible refine ge_then ?_ | with_reducible refine ge_then_exit ?_ | with_reducible refine ge_then_ret ?_))
      obtain ⟨qr, d, hv⟩ := rvD_shape D l x
      have hrz : Fz K2 fun W => SlA W 3 qr (rdD l x).length (fun i => ((rdD l x).getD i default).l) := fun W h => rvD_sl (hfD W h) hv
      repeat' first
        | (refine gl_gate ?_; first
          | refine gl_nil ?_
          | (refine gl_any0 ?_; (refine gl_ev (ev_callq rfl rfl ent114 rfl rfl rfl (fun W hW => ct_ReadsD2 W hv (hfD.at' hW c_kin) (by omega)) ?_) rfl rfl))
          | (refine gl_any0 ?_; refine gl_pure tab_ok rfl rfl rfl rfl rfl rfl ?_))
        | (refine gc_gate ?_; first
          | refine gc_seq ?_
          | refine gc_region ?_
          | refine gc_block ?_)
        | (refine ge_gate ?_; first
          | ((with_reducible refine ge_gT ?_); first | with_reducible refine ge_then ?_ | with_reducible refine ge_then_exit ?_ | with_reducible refine ge_then_ret ?_))
      refine gc_sq ((g_, true, .cells x.l.toArray 25 (0, 0)) :: (ow q3 true (cat Cell.l tl ++ sp3) 25 ++ (ow q1 true (cat KP.l ks ++ sp1) 151 ++ (K1 ++ K2)))) c_sq ?_
      refine gc_loop (α := Nat) (fun m => [(4, true, .pointer (some (ad gr))), (5, true, .slice (q1.map ad) ks.length c1), (6, true, .slice (q3.map ad) tl.length c3), (7, true, .int .i64 (i : Int)), (8, true, .int .i64 (j : Int)), (9, true, .pointer (some (ad g_))), (10, true, .slice qr (rdD l x).length d), (11, true, .int .i64 (m : Int))]) (fun _ => ((g_, true, .cells x.l.toArray 25 (0, 0)) :: (ow q3 true (cat Cell.l tl ++ sp3) 25 ++ (ow q1 true (cat KP.l ks ++ sp1) 151 ++ (K1 ++ K2))))) (fun m => m ≤ (rdD l x).length) (fun m => (rdD l x).length - m) 0 c_frs (List.Sublist.refl _) (Nat.zero_le _) ?_
      rintro m hm
      repeat' first
        | (refine gl_gate ?_; first
          | refine gl_nil ?_
          | (refine gl_any0 ?_; refine gl_pure tab_ok rfl rfl rfl rfl rfl rfl ?_))
        | (refine gc_gate ?_; first
          | refine gc_seq ?_
          | refine gc_region ?_)
        | (refine ge_gate ?_; first
          | ((with_reducible refine ge_gT ?_); first | with_reducible refine ge_then ?_ | with_reducible refine ge_then_exit ?_ | with_reducible refine ge_then_ret ?_))
      (refine gc_cond rfl ?_ ?_ <;> intro h_ <;> have hd_ := h_ <;> (try simp only [bytes_beq, cell_beq, val_beq, stamp_beq, decide_eq_true_eq, decide_eq_false_iff_not, Bool.and_eq_true, Bool.or_eq_true, Bool.or_eq_false_iff, Bool.not_eq_true', Bool.not_eq_false', Bool.not_true, Bool.not_false, Bool.false_or, Bool.true_and, Bool.and_true, Bool.or_false, beq_iff_eq, bne_iff_ne, beq_eq_false_iff_ne, bne_eq_false_iff_eq, ne_eq, Bool.false_eq_true, reduceCtorEq] at hd_) <;> (try (exfalso; omega)))
      · have hmr : m < (rdD l x).length := by omega
        generalize hrr : (rdD l x).getD m default = r
        have hrm : r ∈ rdD l x := hrr ▸ getD_mem _ _ hmr
        repeat' first
          | (refine gc_gate ?_; first
            | refine gc_seq ?_
            | refine gc_block ?_
            | refine gc_skip ?_)
          | (refine ge_gate ?_; first
            | ((with_reducible refine ge_gT ?_); first | with_reducible refine ge_then ?_ | with_reducible refine ge_then_exit ?_ | with_reducible refine ge_then_ret ?_))
        by_cases hb : r ∈ tl
        · refine gp_start [] #[false, false, false, false, false, false, false, false, false, false, false, false, false, false, false, false, false, false, false, false] mixed rfl rfl c_qp ?_; intro hqp_
          refine gp_take 0 #[true, false, false, false, false, false, false, false, false, false, false, false, false, false, false, false, false, false, false, false] hqp_ rfl (by kernel_rfl) (yv_pure tab_ok c_gokJ rfl rfl c_allT) c_cl rfl rfl ?_
          refine gp_take 1 #[true, true, false, false, false, false, false, false, false, false, false, false, false, false, false, false, false, false, false, false] hqp_ rfl (by kernel_rfl) (yv_pure tab_ok c_gokJ rfl rfl c_allT) c_cl rfl rfl ?_
          refine gp_take 2 #[true, true, true, false, false, false, false, false, false, false, false, false, false, false, false, false, false, false, false, false] hqp_ rfl (by kernel_rfl) (yv_pure tab_ok c_gokJ rfl rfl c_allT) c_cl rfl rfl ?_
          refine gp_take 3 #[true, true, true, true, false, false, false, false, false, false, false, false, false, false, false, false, false, false, false, false] hqp_ rfl (by kernel_rfl) ((yv_idxF (i := m) tab_ok hrz c_kin c_gokJ rfl rfl rfl rfl rfl rfl c_imp c_imp (fun _ => hmr))) c_cl rfl rfl ?_
          refine gp_take 4 #[true, true, true, true, true, false, false, false, false, false, false, false, false, false, false, false, false, false, false, false] hqp_ rfl (by kernel_rfl) (((yv_ldF (v := .agg r.l.toArray) (i := m) tab_ok hrz c_kin c_gokJ rfl rfl c_imp (fun _ => hmr) (fun _ => by rw [hrr]; exact lds_agg rfl rfl rfl)))) c_cl rfl rfl ?_
          refine gp_ev 5 #[true, true, true, true, true, true, false, false, false, false, false, false, false, false, false, false, false, false, false, false] rfl (by kernel_rfl) rfl rfl rfl (ev_callq rfl rfl ent54 rfl rfl rfl (fun W hW => ct_HasT hb W _ _ _ rfl (slA_cat len_cell rfl hW c_oa hw3) (by omega)) ⟨c_cl, ?_⟩)
          refine gp_take 6 #[true, true, true, true, true, true, true, false, false, false, false, false, false, false, false, false, false, false, false, false] hqp_ rfl (by kernel_rfl) (yv_pure tab_ok c_gokJ rfl rfl c_allT) c_cl rfl rfl ?_
          refine gp_take 7 #[true, true, true, true, true, true, true, true, false, false, false, false, false, false, false, false, false, false, false, false] hqp_ rfl (by kernel_rfl) (((yv_pure tab_ok c_gokJ rfl rfl c_allT).cast (v' := .bool false) rfl)) c_cl rfl rfl ?_
          refine gp_take 8 #[true, true, true, true, true, true, true, true, true, false, false, false, false, false, false, false, false, false, false, false] hqp_ rfl (by kernel_rfl) (yv_pure tab_ok c_gokJ rfl rfl c_allT) c_cl rfl rfl ?_
          refine gp_take 9 #[true, true, true, true, true, true, true, true, true, true, false, false, false, false, false, false, false, false, false, false] hqp_ rfl (by kernel_rfl) (yv_pure tab_ok c_gokJ rfl rfl c_allT) c_cl rfl rfl ?_
          refine gp_take 10 #[true, true, true, true, true, true, true, true, true, true, true, false, false, false, false, false, false, false, false, false] hqp_ rfl (by kernel_rfl) ((yv_idxO tab_ok hw1 c_gokJ rfl rfl rfl rfl rfl rfl c_imp c_imp c_bnd)) c_cl rfl rfl ?_
          refine gp_take 11 #[true, true, true, true, true, true, true, true, true, true, true, true, false, false, false, false, false, false, false, false] hqp_ rfl (by kernel_rfl) (yv_pure tab_ok c_gokJ rfl rfl c_allT) c_cl rfl rfl ?_
          refine gp_take 12 #[true, true, true, true, true, true, true, true, true, true, true, true, true, false, false, false, false, false, false, false] hqp_ rfl (by kernel_rfl) (((yv_ldO (v := .slice pk k.cells.length ck) tab_ok c_oa hw1 c_gokJ rfl rfl c_imp (fun _ => lds_partD (o := 0) len_kp (by omega) rfl (by decide) (lds_one rfl rfl rfl (by rw [hkk]; rfl))) c_bnd))) c_cl rfl rfl ?_
          refine gp_take 13 #[true, true, true, true, true, true, true, true, true, true, true, true, true, true, false, false, false, false, false, false] hqp_ rfl (by kernel_rfl) (yv_pure tab_ok c_gokJ rfl rfl c_allT) c_cl rfl rfl ?_
          refine gp_take 14 #[true, true, true, true, true, true, true, true, true, true, true, true, true, true, true, false, false, false, false, false] hqp_ rfl (by kernel_rfl) (yv_pure tab_ok c_gokJ rfl rfl c_allT) c_cl rfl rfl ?_
          refine gp_take 15 #[true, true, true, true, true, true, true, true, true, true, true, true, true, true, true, true, false, false, false, false] hqp_ rfl (by kernel_rfl) ((yv_idxF (i := m) tab_ok hrz c_kin c_gokJ rfl rfl rfl rfl rfl rfl c_imp c_imp (fun _ => hmr))) c_cl rfl rfl ?_
          refine gp_take 16 #[true, true, true, true, true, true, true, true, true, true, true, true, true, true, true, true, true, false, false, false] hqp_ rfl (by kernel_rfl) (((yv_ldF (v := .agg r.l.toArray) (i := m) tab_ok hrz c_kin c_gokJ rfl rfl c_imp (fun _ => hmr) (fun _ => by rw [hrr]; exact lds_agg rfl rfl rfl)))) c_cl rfl rfl ?_
          refine gp_skipG 17 #[true, true, true, true, true, true, true, true, true, true, true, true, true, true, true, true, true, true, false, false] (Value.bool false) rfl (by kernel_rfl) rfl rfl rfl c_gokJ c_cl ?_
          refine gp_take 18 #[true, true, true, true, true, true, true, true, true, true, true, true, true, true, true, true, true, true, true, false] hqp_ rfl (by kernel_rfl) (yv_pure tab_ok c_gokJ rfl rfl c_allT) c_cl rfl rfl ?_
          refine gp_take 19 #[true, true, true, true, true, true, true, true, true, true, true, true, true, true, true, true, true, true, true, true] hqp_ rfl (by kernel_rfl) (yv_and c_gokJ rfl rfl rfl c_imp c_imp2) c_cl rfl rfl ?_
          refine gp_done (by kernel_rfl) ?_; clear hqp_
          repeat' first
            | (refine gl_gate ?_; first
              | refine gl_nil ?_
              | (refine gl_add0 ?_; refine gl_yv (yv_add tab_ok (gok_none rfl) rfl rfl rfl rfl (fun _ => allT_of rfl) (by intro _; omega)) rfl rfl ?_)
              | (refine gl_any0 ?_; refine gl_pure tab_ok rfl rfl rfl rfl rfl rfl ?_))
            | (refine gc_gate ?_; first
              | refine gc_region ?_
              | refine gc_false rfl ?_
              | refine gc_skip ?_)
            | (refine ge_gate ?_; first
              | ((with_reducible refine ge_gT ?_); first | with_reducible refine ge_then ?_ | with_reducible refine ge_then_exit ?_ | with_reducible refine ge_then_ret ?_)
              | ((with_reducible refine ge_gK ?_); first | with_reducible refine ge_block ?_ | refine ge_block_exit ?_ | refine ge_block_pass rfl ?_ | with_reducible refine ge_block_ret ?_))
          exact ge_round (m + 1) (by omega) (by omega) c_frs (List.Sublist.refl _)
        · have hb2 : r ∈ k.cells := (hx3 r hrm).resolve_left hb
          refine gp_start [] #[false, false, false, false, false, false, false, false, false, false, false, false, false, false, false, false, false, false, false, false] mixed rfl rfl c_qp ?_; intro hqp_
          refine gp_take 0 #[true, false, false, false, false, false, false, false, false, false, false, false, false, false, false, false, false, false, false, false] hqp_ rfl (by kernel_rfl) (yv_pure tab_ok c_gokJ rfl rfl c_allT) c_cl rfl rfl ?_
          refine gp_take 1 #[true, true, false, false, false, false, false, false, false, false, false, false, false, false, false, false, false, false, false, false] hqp_ rfl (by kernel_rfl) (yv_pure tab_ok c_gokJ rfl rfl c_allT) c_cl rfl rfl ?_
          refine gp_take 2 #[true, true, true, false, false, false, false, false, false, false, false, false, false, false, false, false, false, false, false, false] hqp_ rfl (by kernel_rfl) (yv_pure tab_ok c_gokJ rfl rfl c_allT) c_cl rfl rfl ?_
          refine gp_take 3 #[true, true, true, true, false, false, false, false, false, false, false, false, false, false, false, false, false, false, false, false] hqp_ rfl (by kernel_rfl) ((yv_idxF (i := m) tab_ok hrz c_kin c_gokJ rfl rfl rfl rfl rfl rfl c_imp c_imp (fun _ => hmr))) c_cl rfl rfl ?_
          refine gp_take 4 #[true, true, true, true, true, false, false, false, false, false, false, false, false, false, false, false, false, false, false, false] hqp_ rfl (by kernel_rfl) (((yv_ldF (v := .agg r.l.toArray) (i := m) tab_ok hrz c_kin c_gokJ rfl rfl c_imp (fun _ => hmr) (fun _ => by rw [hrr]; exact lds_agg rfl rfl rfl)))) c_cl rfl rfl ?_
          refine gp_ev 5 #[true, true, true, true, true, true, false, false, false, false, false, false, false, false, false, false, false, false, false, false] rfl (by kernel_rfl) rfl rfl rfl (ev_callq rfl rfl ent54 rfl rfl rfl (fun W hW => ct_HasF hb W _ _ _ rfl (slA_cat len_cell rfl hW c_oa hw3) (by omega)) ⟨c_cl, ?_⟩)
          refine gp_take 6 #[true, true, true, true, true, true, true, false, false, false, false, false, false, false, false, false, false, false, false, false] hqp_ rfl (by kernel_rfl) (yv_pure tab_ok c_gokJ rfl rfl c_allT) c_cl rfl rfl ?_
          refine gp_take 7 #[true, true, true, true, true, true, true, true, false, false, false, false, false, false, false, false, false, false, false, false] hqp_ rfl (by kernel_rfl) (((yv_pure tab_ok c_gokJ rfl rfl c_allT).cast (v' := .bool true) rfl)) c_cl rfl rfl ?_
          refine gp_take 8 #[true, true, true, true, true, true, true, true, true, false, false, false, false, false, false, false, false, false, false, false] hqp_ rfl (by kernel_rfl) (yv_pure tab_ok c_gokJ rfl rfl c_allT) c_cl rfl rfl ?_
          refine gp_take 9 #[true, true, true, true, true, true, true, true, true, true, false, false, false, false, false, false, false, false, false, false] hqp_ rfl (by kernel_rfl) (yv_pure tab_ok c_gokJ rfl rfl c_allT) c_cl rfl rfl ?_
          refine gp_take 10 #[true, true, true, true, true, true, true, true, true, true, true, false, false, false, false, false, false, false, false, false] hqp_ rfl (by kernel_rfl) ((yv_idxO tab_ok hw1 c_gokJ rfl rfl rfl rfl rfl rfl c_imp c_imp c_bnd)) c_cl rfl rfl ?_
          refine gp_take 11 #[true, true, true, true, true, true, true, true, true, true, true, true, false, false, false, false, false, false, false, false] hqp_ rfl (by kernel_rfl) (yv_pure tab_ok c_gokJ rfl rfl c_allT) c_cl rfl rfl ?_
          refine gp_take 12 #[true, true, true, true, true, true, true, true, true, true, true, true, true, false, false, false, false, false, false, false] hqp_ rfl (by kernel_rfl) (((yv_ldO (v := .slice pk k.cells.length ck) tab_ok c_oa hw1 c_gokJ rfl rfl c_imp (fun _ => lds_partD (o := 0) len_kp (by omega) rfl (by decide) (lds_one rfl rfl rfl (by rw [hkk]; rfl))) c_bnd))) c_cl rfl rfl ?_
          refine gp_take 13 #[true, true, true, true, true, true, true, true, true, true, true, true, true, true, false, false, false, false, false, false] hqp_ rfl (by kernel_rfl) (yv_pure tab_ok c_gokJ rfl rfl c_allT) c_cl rfl rfl ?_
          refine gp_take 14 #[true, true, true, true, true, true, true, true, true, true, true, true, true, true, true, false, false, false, false, false] hqp_ rfl (by kernel_rfl) (yv_pure tab_ok c_gokJ rfl rfl c_allT) c_cl rfl rfl ?_
          refine gp_take 15 #[true, true, true, true, true, true, true, true, true, true, true, true, true, true, true, true, false, false, false, false] hqp_ rfl (by kernel_rfl) ((yv_idxF (i := m) tab_ok hrz c_kin c_gokJ rfl rfl rfl rfl rfl rfl c_imp c_imp (fun _ => hmr))) c_cl rfl rfl ?_
          refine gp_take 16 #[true, true, true, true, true, true, true, true, true, true, true, true, true, true, true, true, true, false, false, false] hqp_ rfl (by kernel_rfl) (((yv_ldF (v := .agg r.l.toArray) (i := m) tab_ok hrz c_kin c_gokJ rfl rfl c_imp (fun _ => hmr) (fun _ => by rw [hrr]; exact lds_agg rfl rfl rfl)))) c_cl rfl rfl ?_
          refine gp_evG 17 #[true, true, true, true, true, true, true, true, true, true, true, true, true, true, true, true, true, true, false, false] rfl (by kernel_rfl) rfl rfl rfl c_gokJ (ev_callq rfl rfl ent54 rfl rfl rfl (fun W hW => ct_HasT hb2 W _ _ _ rfl (hz.at' hW c_kin) (by omega)) ⟨c_cl, ?_⟩)
          refine gp_take 18 #[true, true, true, true, true, true, true, true, true, true, true, true, true, true, true, true, true, true, true, false] hqp_ rfl (by kernel_rfl) (yv_pure tab_ok c_gokJ rfl rfl c_allT) c_cl rfl rfl ?_
          refine gp_take 19 #[true, true, true, true, true, true, true, true, true, true, true, true, true, true, true, true, true, true, true, true] hqp_ rfl (by kernel_rfl) (yv_and c_gokJ rfl rfl rfl c_imp c_imp2) c_cl rfl rfl ?_
          refine gp_done (by kernel_rfl) ?_; clear hqp_
          repeat' first
            | (refine gl_gate ?_; first
              | refine gl_nil ?_
              | (refine gl_add0 ?_; refine gl_yv (yv_add tab_ok (gok_none rfl) rfl rfl rfl rfl (fun _ => allT_of rfl) (by intro _; omega)) rfl rfl ?_)
              | (refine gl_any0 ?_; refine gl_pure tab_ok rfl rfl rfl rfl rfl rfl ?_))
            | (refine gc_gate ?_; first
              | refine gc_region ?_
              | refine gc_false rfl ?_
              | refine gc_skip ?_)
            | (refine ge_gate ?_; first
              | ((with_reducible refine ge_gT ?_); first | with_reducible refine ge_then ?_ | with_reducible refine ge_then_exit ?_ | with_reducible refine ge_then_ret ?_)
              | ((with_reducible refine ge_gK ?_); first | with_reducible refine ge_block ?_ | refine ge_block_exit ?_ | refine ge_block_pass rfl ?_ | with_reducible refine ge_block_ret ?_))
          exact ge_round (m + 1) (by omega) (by omega) c_frs (List.Sublist.refl _)
      repeat' first
        | (refine gc_gate ?_; first
          | refine gc_seq ?_
          | refine gc_exit ?_)
        | (refine ge_gate ?_; first
          | ((with_reducible refine ge_gT ?_); first | with_reducible refine ge_then ?_ | with_reducible refine ge_then_exit ?_ | with_reducible refine ge_then_ret ?_)
          | ((with_reducible refine ge_gK ?_); first | with_reducible refine ge_block ?_ | refine ge_block_exit ?_ | refine ge_block_pass rfl ?_ | with_reducible refine ge_block_ret ?_))
      refine gp_start [] #[false, false, false, false, false, false, false, false, false, false, false, false, false, false, false, false] mixed rfl rfl c_qp ?_; intro hqp_
      refine gp_take 0 #[true, false, false, false, false, false, false, false, false, false, false, false, false, false, false, false] hqp_ rfl (by kernel_rfl) (yv_pure tab_ok c_gokJ rfl rfl c_allT) c_cl rfl rfl ?_
      refine gp_take 1 #[true, true, false, false, false, false, false, false, false, false, false, false, false, false, false, false] hqp_ rfl (by kernel_rfl) (yv_load tab_ok c_gokJ rfl rfl c_imp c_mem (fun _ => c_lds)) c_cl rfl rfl ?_
      refine gp_ev 2 #[true, true, true, false, false, false, false, false, false, false, false, false, false, false, false, false] rfl (by kernel_rfl) rfl rfl rfl (ev_callq rfl rfl ent54 rfl rfl rfl (fun W hW => ct_HasF hx2 W _ _ _ rfl (slA_cat len_cell rfl hW c_oa hw3) (by omega)) ⟨c_cl, ?_⟩)
      refine gp_take 3 #[true, true, true, true, false, false, false, false, false, false, false, false, false, false, false, false] hqp_ rfl (by kernel_rfl) (((yv_pure tab_ok c_gokJ rfl rfl c_allT).cast (v' := .bool false) rfl)) c_cl rfl rfl ?_
      refine gp_take 4 #[true, true, true, true, true, false, false, false, false, false, false, false, false, false, false, false] hqp_ rfl (by kernel_rfl) (yv_pure tab_ok c_gokJ rfl rfl c_allT) c_cl rfl rfl ?_
      refine gp_take 5 #[true, true, true, true, true, true, false, false, false, false, false, false, false, false, false, false] hqp_ rfl (by kernel_rfl) (yv_pure tab_ok c_gokJ rfl rfl c_allT) c_cl rfl rfl ?_
      refine gp_take 6 #[true, true, true, true, true, true, true, false, false, false, false, false, false, false, false, false] hqp_ rfl (by kernel_rfl) ((yv_idxO tab_ok hw1 c_gokJ rfl rfl rfl rfl rfl rfl c_imp c_imp c_bnd)) c_cl rfl rfl ?_
      refine gp_take 7 #[true, true, true, true, true, true, true, true, false, false, false, false, false, false, false, false] hqp_ rfl (by kernel_rfl) (yv_pure tab_ok c_gokJ rfl rfl c_allT) c_cl rfl rfl ?_
      refine gp_take 8 #[true, true, true, true, true, true, true, true, true, false, false, false, false, false, false, false] hqp_ rfl (by kernel_rfl) (((yv_ldO (v := .bool k.rnd) tab_ok c_oa hw1 c_gokJ rfl rfl c_imp (fun _ => lds_partD (o := 1) len_kp (by omega) rfl (by decide) (lds_one rfl rfl rfl (by rw [hkk]; rfl))) c_bnd))) c_cl rfl rfl ?_
      refine gp_take 9 #[true, true, true, true, true, true, true, true, true, true, false, false, false, false, false, false] hqp_ rfl (by kernel_rfl) (yv_pure tab_ok c_gokJ rfl rfl c_allT) c_cl rfl rfl ?_
      refine gp_take 10 #[true, true, true, true, true, true, true, true, true, true, true, false, false, false, false, false] hqp_ rfl (by kernel_rfl) (yv_load tab_ok c_gokJ rfl rfl c_imp c_mem (fun _ => c_lds)) c_cl rfl rfl ?_
      refine gp_take 12 #[true, true, true, true, true, true, true, true, true, true, true, false, true, false, false, false] hqp_ rfl (by kernel_rfl) (yv_load tab_ok c_gokJ rfl rfl c_imp c_mem (fun _ => c_lds)) c_cl rfl rfl ?_
      (refine gp_evG 11 #[true, true, true, true, true, true, true, true, true, true, true, true, true, false, false, false] rfl (by kernel_rfl) rfl rfl rfl c_gokJ (ev_callOw rfl rfl ent118 rfl rfl rfl (fun W hW => ct_AfterD l gr D x W (hfD.at' hW c_kin) (by omega)) ?_); intro pf cf spf hwf; refine ⟨c_cl, ?_⟩)
      refine gp_evG 13 #[true, true, true, true, true, true, true, true, true, true, true, true, true, true, false, false] rfl (by kernel_rfl) rfl rfl rfl c_gokJ (ev_callq rfl rfl ent54 rfl rfl rfl (fun W hW => ct_Has W (aft l x) x _ _ _ rfl (slA_cat len_cell rfl hW c_oa hwf) (by omega)) ⟨c_cl, ?_⟩)
      refine gp_take 14 #[true, true, true, true, true, true, true, true, true, true, true, true, true, true, true, false] hqp_ rfl (by kernel_rfl) (((yv_pure tab_ok c_gokJ rfl rfl c_allT).cast (v' := .bool false) (by rw [hx4]; simp))) c_cl rfl rfl ?_
      refine gp_take 15 #[true, true, true, true, true, true, true, true, true, true, true, true, true, true, true, true] hqp_ rfl (by kernel_rfl) (yv_or c_gokJ rfl rfl rfl c_imp c_imp2) c_cl rfl rfl ?_
      refine gp_done (by kernel_rfl) ?_; clear hqp_
      repeat' first
        | (refine gl_gate ?_; first
          | refine gl_nil ?_
          | (refine gl_add0 ?_; refine gl_yv (yv_add tab_ok (gok_none rfl) rfl rfl rfl rfl (fun _ => allT_of rfl) (by intro _; omega)) rfl rfl ?_)
          | (refine gl_any0 ?_; refine gl_pure tab_ok rfl rfl rfl rfl rfl rfl ?_))
        | (refine gc_gate ?_; first
          | refine gc_region ?_
          | refine gc_false rfl ?_
          | refine gc_skip ?_)
        | (refine ge_gate ?_; first
          | ((with_reducible refine ge_gT ?_); first | with_reducible refine ge_then ?_ | with_reducible refine ge_then_exit ?_ | with_reducible refine ge_then_ret ?_)
          | ((with_reducible refine ge_gK ?_); first | with_reducible refine ge_block ?_ | refine ge_block_exit ?_ | refine ge_block_pass rfl ?_ | with_reducible refine ge_block_ret ?_))
      refine ge_sq (ow q3 true (cat Cell.l tl ++ sp3) 25 ++ (ow q1 true (cat KP.l ks ++ sp1) 151 ++ (K1 ++ K2))) c_sq ?_
      exact ge_round (j + 1) (by omega) (by omega) c_frs (List.Sublist.refl _)
    have hjn : j = k.cells.length := by omega
    repeat' first
      | (refine gl_idx0 ?_; refine gl_yv (yv_idxO tab_ok hw1 (gok_none rfl) rfl rfl rfl rfl rfl rfl (fun _ => rfl) (fun _ => rfl) c_bnd) rfl rfl ?_)
      | (refine gl_load0 ?_; refine gl_yv (yv_ldO (v := .slice pk k.cells.length ck) tab_ok c_oa hw1 (gok_none rfl) rfl rfl (fun _ => rfl) (fun _ => lds_partD (o := 0) len_kp (by omega) rfl (by decide) (lds_one rfl rfl rfl (by rw [hkk]; rfl))) c_bnd) rfl rfl ?_)
      | (refine gl_gate ?_; first
        | refine gl_nil ?_
        | (refine gl_add0 ?_; refine gl_yv (yv_add tab_ok (gok_none rfl) rfl rfl rfl rfl (fun _ => allT_of rfl) (by intro _; omega)) rfl rfl ?_)
        | (refine gl_app0 ?_; (refine gl_ev (ev_append tab_ok rfl rfl rfl rfl rfl rfl rfl rfl c_oa (hw3) (Sl.src_fz tab_ok rfl hz c_kin (fun i _ => ones_of rfl)) c_lim c_lim ?_) rfl rfl; intro p_ c_ sp_ hw_))
        | (refine gl_any0 ?_; refine gl_pure tab_ok rfl rfl rfl rfl rfl rfl ?_))
      | (refine gc_gate ?_; first
        | refine gc_region ?_
        | refine gc_exit ?_)
      | (refine ge_gate ?_; first
        | ((with_reducible refine ge_gT ?_); first | with_reducible refine ge_then ?_ | with_reducible refine ge_then_exit ?_ | with_reducible refine ge_then_ret ?_)
        | ((with_reducible refine ge_gK ?_); first | with_reducible refine ge_block ?_ | refine ge_block_exit ?_ | refine ge_block_pass rfl ?_ | with_reducible refine ge_block_ret ?_))
    have e0 : (elems k.cells.length fun i => (k.cells.getD i default).l).flatten = cat Cell.l k.cells := elemsAllC ..
    rw [e0] at hw_ ⊢
    exact ge_round (i + 1, p_, c_, sp_) ⟨by dsimp only; omega, by dsimp only; rw [htn, List.length_append, cat_append]; exact hw_⟩ (by show ks.length - (i + 1) < ks.length - i; omega) (by dsimp only; rw [htn, List.length_append]; exact c_frs) (by dsimp only; rw [htn, cat_append]; exact List.Sublist.refl _)
  have hin : i = ks.length := by omega
  have htd : (tldD (ordD l i)).length = (dC l).length := by
    rw [hin, hkl, orD_len]
    exact tldD_len l
  have hdl := dC_len l
  repeat' first
    | (refine gl_gate ?_; first
      | refine gl_nil ?_
      | (refine gl_any0 ?_; (refine gl_ev (ev_callOw rfl rfl ent112 rfl rfl rfl (fun W hW => ct_CellsD l gr D W (hfD.at' hW c_kin) (by omega)) ?_) rfl rfl; intro p7 c7 sp7 hw7))
      | (refine gl_any0 ?_; refine gl_pure tab_ok rfl rfl rfl rfl rfl rfl ?_))
    | (refine gc_gate ?_; first
      | refine gc_seq ?_
      | refine gc_region ?_
      | refine gc_exit ?_
      | refine gc_ret ?_)
    | (refine ge_gate ?_; first
      | ((with_reducible refine ge_gT ?_); first | with_reducible refine ge_then ?_ | with_reducible refine ge_then_exit ?_ | with_reducible refine ge_then_ret ?_)
      | ((with_reducible refine ge_gK ?_); first | with_reducible refine ge_block ?_ | refine ge_block_exit ?_ | refine ge_block_pass rfl ?_ | with_reducible refine ge_block_ret ?_)
      | ((with_reducible refine ge_gB ?_); first | refine ge_ret1 tab_ok rfl c_rvt ?_ | refine ge_end1 tab_ok rfl c_rvt ?_ | refine ge_ret2 tab_ok rfl c_rvt c_rvt ?_ | refine ge_ret_none rfl ?_ | refine ge_end_none rfl ?_))
  intro W hW
  refine ⟨?_, hW.below0⟩
  rw [htd]
  simp
theorem law_KnotsOrder (W : World) {b0 : Nat} {v0 : Value} (o0 : Value.okWide Try.prog W .any b0 124 v0)
    (r0 : ∃ m, Rd tab W m 124 v0.cells.toList) : Calls Try.prog 29 #[v0] W fun e w' => e = .returned (.bool true) ∧ Bl W w' := by
  rw [arg_one tab_ok (t := 124) rfl rfl o0] at r0
  obtain ⟨m0, r0⟩ := r0
  obtain ⟨p, n, cap, l, h0, hn, hle, hcap, hs, hR⟩ := rdEns r0
  cases h0
  exact walk_KnotsOrder l p n cap hn (by omega) W hs hR
end Go.Proofs.Ytkgjfcjciigcgaa
