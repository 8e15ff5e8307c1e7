import Derived.Test.YtkgjfcjciigcgaaGoKnB
/-
  Cells that read one another round are one knot; with one cut there is none.
-/
namespace Go.Proofs.Ytkgjfcjciigcgaa
open Go.Proofs.Ytkgjfcjciigcgaa.Sl Go.RowKit
set_option linter.unusedVariables false
set_option linter.unusedSimpArgs false
set_option linter.unusedSectionVars false
set_option maxRecDepth 100000

section
variable {P : Program} {T : Tab} {N : Nat} {F : Fl} {l : List Oper} {o : Oper} {q : Bool} {w0 : World} {M : List Nat} {K A : Kl} {v : Value}
theorem Sl.yv_ldFo {k : Nat} {p : Option Addr} {n : Nat} {e : Nat → List Value} (hT : TabOk P T) (hz : Fz A fun W => SlA W k p n e) (hk : Kin A K) {t : TypeId} {x : Operand} {px : Bool} {i off : Nat} (hg : Gok l F o q) (ho : o.op = .load t x)
    (hx : Fo F x = some (px, .pointer (some ⟨pb p, po p + i * k + off, none⟩))) (hp : q = true → px = true) (hi : q = true → i < n) (hl : q = true → Lds T t (e i) off v) : Yv P (St w0 M K) l N F o q v :=
  ⟨hg, fun a hF hq W hW => (yv_ldA (w0 := W) (M := []) (K := []) hT (hz.at' hW hk) (fun _ => List.not_mem_nil) hg ho hx hp hi hl).2 a hF hq W (St.refl W [])⟩
end
theorem rem_nx {n i : Nat} (hi : i < n) : ((i : Int) + 1).tmod (n : Int) = ((nxR n i : Nat) : Int) := by
  rw [nxR_eq hi, show ((i : Int) + 1) = ((i + 1 : Nat) : Int) by simp, ← Int.ofNat_tmod]
theorem rem_ds {n cut i : Nat} (hi : i < n) (hc : cut < n) : ((cut : Int) - (i : Int) + (n : Int)).tmod (n : Int) = ((dsR n cut i : Nat) : Int) := by
  rw [show ((cut : Int) - (i : Int) + (n : Int)) = ((cut + n - i : Nat) : Int) by omega, ← Int.ofNat_tmod]
  congr 1
  unfold dsR
  split
  · rw [show cut + n - i = (cut - i) + n by omega, Nat.add_mod_right, Nat.mod_eq_of_lt (by omega)]
  · rw [Nat.mod_eq_of_lt (by omega)]
theorem ringL_snoc (n cut : Nat) (op : Bool) (i : Nat) : (List.range (i + 1)).map (ringE n cut op) = (List.range i).map (ringE n cut op) ++ [ringE n cut op i] := by
  rw [List.range_succ, List.map_append]
  rfl
theorem nCell_count (c : Cell) : (nCell c).count ≤ 400 := by rw [Node.count_eq]; simp [nCell, Node.kids, Node.countL]
set_option maxHeartbeats 4000000 in
theorem walk_KnotsRing (a b : Int) (op : Bool) (ha : In64 a) (hb : In64 b) (w : World) : Calls Try.prog 30 #[.int .i64 a, .int .i64 b, .bool op] w fun e w' => e = .returned (.bool true) ∧ Bl w w' := by
  refine enter (args := [_, _, _]) (M := []) (K := []) Try.func30 rfl Try.ntmps30 rfl (St.refl _ _) ?_
  repeat' first
    | (refine gl_gate ?_; first
      | refine gl_nil ?_
      | (refine gl_calv0 ?_; first | refine gl_yd (yd_call (gok_none rfl) rfl ent129 rfl rfl (fun _ => allT_of rfl) (fun _ W hW => ct_aliveK W)) rfl rfl ?_)
      | (refine gl_pick0 ?_; first | refine gl_yv (yv_and (gok_none rfl) rfl rfl rfl (fun _ => rfl) c_imp2) rfl rfl ?_ | refine gl_yv (yv_or (gok_none rfl) rfl rfl rfl (fun _ => rfl) c_imp2) rfl rfl ?_)
      | (refine gl_any0 ?_; refine gl_pure tab_ok rfl rfl rfl rfl rfl rfl ?_)
      | (refine gl_anyG ?_; first | refine gl_yv (yv_pure tab_ok c_gok rfl rfl c_allT) rfl rfl ?_ | refine gl_yv (yv_indexS tab_ok c_gok rfl rfl rfl rfl c_imp c_imp (by intro hq_; (try simp only [Bool.and_eq_true, Bool.not_eq_true', Bool.not_eq_false', Bool.or_eq_false_iff, Bool.or_eq_true, decide_eq_true_eq, decide_eq_false_iff_not, Bool.true_and, Bool.and_true] at hq_); omega)) rfl rfl ?_ | refine gl_yv (yv_indexS (i := 0) tab_ok c_gok rfl rfl rfl rfl c_imp c_imp (by intro hq_; (try simp only [Bool.and_eq_true, Bool.not_eq_true', Bool.not_eq_false', Bool.or_eq_false_iff, Bool.or_eq_true, decide_eq_true_eq, decide_eq_false_iff_not, Bool.true_and, Bool.and_true] at hq_); omega)) rfl rfl ?_))
    | (refine gc_gate ?_; first
      | refine gc_seq ?_
      | refine gc_region ?_)
    | (refine ge_gate ?_; first
      | ((with_reducible refine ge_gT ?_); first | with_reducible refine ge_then ?_ | with_reducible refine ge_then_exit ?_ | with_reducible refine ge_then_ret ?_))
  (refine gc_cond rfl ?_ ?_ <;> intro h_ <;> have hd_ := h_ <;> (try simp only [bytes_beq, cell_beq, val_beq, stamp_beq, decide_eq_true_eq, decide_eq_false_iff_not, Bool.and_eq_true, Bool.or_eq_true, Bool.or_eq_false_iff, Bool.not_eq_true', Bool.not_eq_false', Bool.not_true, Bool.not_false, Bool.false_or, Bool.true_and, Bool.and_true, Bool.or_false, beq_iff_eq, bne_iff_ne, beq_eq_false_iff_ne, bne_eq_false_iff_eq, ne_eq, Bool.false_eq_true, reduceCtorEq] at hd_) <;> (try (exfalso; omega)))
  · repeat' first
      | (refine gl_gate ?_; first
        | refine gl_nil ?_
        | (refine gl_any0 ?_; refine gl_pure tab_ok rfl rfl rfl rfl rfl rfl ?_))
      | (refine gc_gate ?_; first
        | refine gc_seq ?_
        | refine gc_region ?_
        | refine gc_ret ?_)
      | (refine ge_gate ?_; first
        | ((with_reducible refine ge_gT ?_); first | with_reducible refine ge_then ?_ | with_reducible refine ge_then_exit ?_ | with_reducible refine ge_then_ret ?_)
        | ((with_reducible refine ge_gB ?_); first | refine ge_ret1 tab_ok rfl c_rvt ?_ | refine ge_end1 tab_ok rfl c_rvt ?_ | refine ge_ret2 tab_ok rfl c_rvt c_rvt ?_ | refine ge_ret_none rfl ?_ | refine ge_end_none rfl ?_))
    intro W hW
    exact ⟨rfl, hW.below0⟩
  obtain ⟨n, hna⟩ : ∃ n : Nat, a = n := ⟨a.toNat, by simp at hd_; omega⟩
  obtain ⟨cut, hnb⟩ : ∃ n : Nat, b = n := ⟨b.toNat, by simp at hd_; omega⟩
  subst hna hnb
  have hn1 : 1 ≤ n := by simp at hd_; omega
  have hn20 : n ≤ 20 := by simp at hd_; omega
  have hcut : cut < n := by simp at hd_; omega
  clear h_ hd_
  repeat' first
    | (refine gl_gate ?_; first
      | refine gl_nil ?_
      | (refine gl_any0 ?_; refine gl_pure tab_ok rfl rfl rfl rfl rfl rfl ?_))
    | (refine gc_gate ?_; first
      | refine gc_seq ?_
      | refine gc_region ?_
      | refine gc_block ?_
      | refine gc_skip ?_)
    | (refine ge_gate ?_; first
      | ((with_reducible refine ge_gT ?_); first | with_reducible refine ge_then ?_ | with_reducible refine ge_then_exit ?_ | with_reducible refine ge_then_ret ?_))
  refine gc_loop (α := Nat × Option Nat × Nat × List Value) (fun x => [(0, true, .int .i64 (n : Int)), (1, true, .int .i64 (cut : Int)), (2, true, .bool op), (8, true, .slice (x.2.1.map ad) x.1 x.2.2.1), (9, true, .int .i64 (x.1 : Int))]) (fun x => ow x.2.1 true (cat En.l ((List.range x.1).map (ringE n cut op)) ++ x.2.2.2) 154) (fun x => x.1 ≤ n ∧ Ow x.2.1 x.1 x.2.2.1 20 (cat En.l ((List.range x.1).map (ringE n cut op))) x.2.2.2) (fun x => n - x.1) (0, none, 0, []) c_frs (List.Sublist.refl _) ⟨Nat.zero_le _, Ow.none0⟩ ?_
  rintro ⟨i, q, c, sp⟩ ⟨hi, ho⟩
  dsimp only at hi ho ⊢
  repeat' first
    | (refine gl_gate ?_; first
      | refine gl_nil ?_
      | (refine gl_any0 ?_; refine gl_pure tab_ok rfl rfl rfl rfl rfl rfl ?_))
    | (refine gc_gate ?_; first
      | refine gc_seq ?_
      | refine gc_region ?_)
    | (refine ge_gate ?_; first
      | ((with_reducible refine ge_gT ?_); first | with_reducible refine ge_then ?_ | with_reducible refine ge_then_exit ?_ | with_reducible refine ge_then_ret ?_))
  (refine gc_cond rfl ?_ ?_ <;> intro h_ <;> have hd_ := h_ <;> (try simp only [bytes_beq, cell_beq, val_beq, stamp_beq, decide_eq_true_eq, decide_eq_false_iff_not, Bool.and_eq_true, Bool.or_eq_true, Bool.or_eq_false_iff, Bool.not_eq_true', Bool.not_eq_false', Bool.not_true, Bool.not_false, Bool.false_or, Bool.true_and, Bool.and_true, Bool.or_false, beq_iff_eq, bne_iff_ne, beq_eq_false_iff_ne, bne_eq_false_iff_eq, ne_eq, Bool.false_eq_true, reduceCtorEq] at hd_) <;> (try (exfalso; omega)))
  · have hin : i < n := by omega
    have e4 : cat En.l ((List.range (i + 1)).map (ringE n cut op)) = cat En.l ((List.range i).map (ringE n cut op)) ++ (ringE n cut op i).l := by rw [ringL_snoc, cat_snoc]
    have hrm := rem_nx hin
    have hnx : nxR n i < n := by unfold nxR; split <;> omega
    repeat' first
      | (refine gl_gate ?_; first
        | refine gl_nil ?_
        | (refine gl_add0 ?_; refine gl_yv (yv_add tab_ok (gok_none rfl) rfl rfl rfl rfl (fun _ => allT_of rfl) (by intro _; omega)) rfl rfl ?_)
        | (refine gl_pick0 ?_; first | refine gl_yv (yv_and (gok_none rfl) rfl rfl rfl (fun _ => rfl) c_imp2) rfl rfl ?_ | refine gl_yv (yv_or (gok_none rfl) rfl rfl rfl (fun _ => rfl) c_imp2) rfl rfl ?_)
        | (refine gl_alc0 ?_; (refine gl_alloc tab_ok rfl rfl rfl rfl rfl ?_; intro g_ hg_))
        | (refine gl_sto0 ?_; refine gl_store tab_ok rfl rfl rfl rfl rfl rfl rfl c_one rfl c_ku ?_)
        | (refine gl_any0 ?_; refine gl_pure tab_ok rfl rfl rfl rfl rfl rfl ?_)
        | (refine gl_any0 ?_; first | refine gl_yv (yv_shr tab_ok (gok_none rfl) rfl rfl rfl (fun _ => rfl) (fun _ => rfl) c_bnd) rfl rfl ?_ | refine gl_yv (yv_rem tab_ok (gok_none rfl) rfl rfl rfl (fun _ => rfl) (fun _ => rfl) c_bnd) rfl rfl ?_ | refine gl_yv (yv_indexS tab_ok (gok_none rfl) rfl rfl rfl rfl (fun _ => rfl) (fun _ => rfl) c_bnd) rfl rfl ?_ | refine gl_yv (yv_sliceH tab_ok (gok_none rfl) rfl rfl rfl rfl rfl (fun _ => rfl) (fun _ => rfl) c_bnd) rfl rfl ?_)
        | (refine gl_anyG ?_; first | refine gl_yv (yv_pure tab_ok c_gok rfl rfl c_allT) rfl rfl ?_ | refine gl_yv (yv_indexS tab_ok c_gok rfl rfl rfl rfl c_imp c_imp (by intro hq_; (try simp only [Bool.and_eq_true, Bool.not_eq_true', Bool.not_eq_false', Bool.or_eq_false_iff, Bool.or_eq_true, decide_eq_true_eq, decide_eq_false_iff_not, Bool.true_and, Bool.and_true] at hq_); omega)) rfl rfl ?_ | refine gl_yv (yv_indexS (i := 0) tab_ok c_gok rfl rfl rfl rfl c_imp c_imp (by intro hq_; (try simp only [Bool.and_eq_true, Bool.not_eq_true', Bool.not_eq_false', Bool.or_eq_false_iff, Bool.or_eq_true, decide_eq_true_eq, decide_eq_false_iff_not, Bool.true_and, Bool.and_true] at hq_); omega)) rfl rfl ?_))
      | (refine gc_gate ?_; first
        | refine gc_seq ?_
        | refine gc_region ?_
        | refine gc_block ?_
        | refine gc_skip ?_)
      | (refine ge_gate ?_; first
        | ((with_reducible refine ge_gT ?_); first | with_reducible refine ge_then ?_ | with_reducible refine ge_then_exit ?_ | with_reducible refine ge_then_ret ?_))
    cases op
    · repeat' first
        | (refine gl_gate ?_; first
          | refine gl_nil ?_
          | (refine gl_load0 ?_; refine gl_yv (yv_load tab_ok (gok_none rfl) rfl rfl (fun _ => rfl) c_mem (fun _ => c_lds)) rfl rfl ?_)
          | (refine gl_add0 ?_; refine gl_yv (yv_add tab_ok (gok_none rfl) rfl rfl rfl rfl (fun _ => allT_of rfl) (by intro _; omega)) rfl rfl ?_)
          | (refine gl_app0 ?_; (refine gl_ev (ev_append tab_ok rfl rfl rfl rfl rfl rfl rfl rfl c_oa (ho) (c_src) c_lim c_lim ?_) rfl rfl; intro p_ c_ sp_ hw_))
          | (refine gl_bld0 ?_; (refine gl_ev (ev_buildSlice tab_ok rfl rfl rfl rfl rfl rfl rfl rfl rfl rfl ?_) rfl rfl; intro g_ hg_))
          | (refine gl_any0 ?_; refine gl_pure tab_ok rfl rfl rfl rfl rfl rfl ?_))
        | (refine gc_gate ?_; first
          | refine gc_region ?_
          | refine gc_false rfl ?_
          | refine gc_skip ?_)
        | (refine ge_gate ?_; first
          | ((with_reducible refine ge_gT ?_); first | with_reducible refine ge_then ?_ | with_reducible refine ge_then_exit ?_ | with_reducible refine ge_then_ret ?_)
          | ((with_reducible refine ge_gK ?_); first | with_reducible refine ge_block ?_ | refine ge_block_exit ?_ | refine ge_block_pass rfl ?_ | with_reducible refine ge_block_ret ?_))
      have e5 : (ringE n cut false i).l = (⟨cRg sS i, true, nCell (cRg sS (nxR n i)), none, 0, ⟨0, 0, .empty⟩⟩ : En).l := rfl
      exact ge_round (i + 1, p_, c_, sp_) ⟨by dsimp only; omega, by dsimp only; rw [hrm] at hw_; rw [e4, e5]; exact hw_⟩ (by show n - (i + 1) < n - i; omega) c_frs (by dsimp only; rw [hrm]; rw [e4, e5]; exact List.sublist_append_left _ _)
    · skip
      (refine gc_cond rfl ?_ ?_ <;> intro h_ <;> have hd_ := h_ <;> (try simp only [bytes_beq, cell_beq, val_beq, stamp_beq, decide_eq_true_eq, decide_eq_false_iff_not, Bool.and_eq_true, Bool.or_eq_true, Bool.or_eq_false_iff, Bool.not_eq_true', Bool.not_eq_false', Bool.not_true, Bool.not_false, Bool.false_or, Bool.true_and, Bool.and_true, Bool.or_false, beq_iff_eq, bne_iff_ne, beq_eq_false_iff_ne, bne_eq_false_iff_eq, ne_eq, Bool.false_eq_true, reduceCtorEq] at hd_) <;> (try (exfalso; omega)))
      · have e5 : (ringE n cut true i).l = (⟨cRg sS i, false, nCell (cRg sS (nxR n i)), none, 0, ⟨0, 0, .empty⟩⟩ : En).l := by
          unfold ringE
          rw [show decide (i = cut) = true from decide_eq_true (by omega)]
          rfl
        repeat' first
          | (refine gl_gate ?_; first
            | refine gl_nil ?_
            | (refine gl_load0 ?_; refine gl_yv (yv_load tab_ok (gok_none rfl) rfl rfl (fun _ => rfl) c_mem (fun _ => c_lds)) rfl rfl ?_)
            | (refine gl_add0 ?_; refine gl_yv (yv_add tab_ok (gok_none rfl) rfl rfl rfl rfl (fun _ => allT_of rfl) (by intro _; omega)) rfl rfl ?_)
            | (refine gl_app0 ?_; (refine gl_ev (ev_append tab_ok rfl rfl rfl rfl rfl rfl rfl rfl c_oa (ho) (c_src) c_lim c_lim ?_) rfl rfl; intro p_ c_ sp_ hw_))
            | (refine gl_bld0 ?_; (refine gl_ev (ev_buildSlice tab_ok rfl rfl rfl rfl rfl rfl rfl rfl rfl rfl ?_) rfl rfl; intro g_ hg_))
            | (refine gl_sto0 ?_; refine gl_store tab_ok rfl rfl rfl rfl rfl rfl rfl c_one rfl c_ku ?_)
            | (refine gl_any0 ?_; refine gl_pure tab_ok rfl rfl rfl rfl rfl rfl ?_))
          | (refine gc_gate ?_; first
            | refine gc_region ?_)
          | (refine ge_gate ?_; first
            | ((with_reducible refine ge_gT ?_); first | with_reducible refine ge_then ?_ | with_reducible refine ge_then_exit ?_ | with_reducible refine ge_then_ret ?_)
            | ((with_reducible refine ge_gK ?_); first | with_reducible refine ge_block ?_ | refine ge_block_exit ?_ | refine ge_block_pass rfl ?_ | with_reducible refine ge_block_ret ?_))
        exact ge_round (i + 1, p_, c_, sp_) ⟨by dsimp only; omega, by dsimp only; rw [hrm] at hw_; rw [e4, e5]; exact hw_⟩ (by show n - (i + 1) < n - i; omega) c_frs (by dsimp only; rw [hrm]; rw [e4, e5]; exact List.sublist_append_left _ _)
      · have e5 : (ringE n cut true i).l = (⟨cRg sS i, true, nCell (cRg sS (nxR n i)), none, 0, ⟨0, 0, .empty⟩⟩ : En).l := by
          unfold ringE
          rw [show decide (i = cut) = false from decide_eq_false (by omega)]
          rfl
        repeat' first
          | (refine gl_gate ?_; first
            | refine gl_nil ?_
            | (refine gl_load0 ?_; refine gl_yv (yv_load tab_ok (gok_none rfl) rfl rfl (fun _ => rfl) c_mem (fun _ => c_lds)) rfl rfl ?_)
            | (refine gl_add0 ?_; refine gl_yv (yv_add tab_ok (gok_none rfl) rfl rfl rfl rfl (fun _ => allT_of rfl) (by intro _; omega)) rfl rfl ?_)
            | (refine gl_app0 ?_; (refine gl_ev (ev_append tab_ok rfl rfl rfl rfl rfl rfl rfl rfl c_oa (ho) (c_src) c_lim c_lim ?_) rfl rfl; intro p_ c_ sp_ hw_))
            | (refine gl_bld0 ?_; (refine gl_ev (ev_buildSlice tab_ok rfl rfl rfl rfl rfl rfl rfl rfl rfl rfl ?_) rfl rfl; intro g_ hg_))
            | (refine gl_any0 ?_; refine gl_pure tab_ok rfl rfl rfl rfl rfl rfl ?_))
          | (refine gc_gate ?_; first
            | refine gc_region ?_
            | refine gc_skip ?_)
          | (refine ge_gate ?_; first
            | ((with_reducible refine ge_gT ?_); first | with_reducible refine ge_then ?_ | with_reducible refine ge_then_exit ?_ | with_reducible refine ge_then_ret ?_)
            | ((with_reducible refine ge_gK ?_); first | with_reducible refine ge_block ?_ | refine ge_block_exit ?_ | refine ge_block_pass rfl ?_ | with_reducible refine ge_block_ret ?_))
        exact ge_round (i + 1, p_, c_, sp_) ⟨by dsimp only; omega, by dsimp only; rw [hrm] at hw_; rw [e4, e5]; exact hw_⟩ (by show n - (i + 1) < n - i; omega) c_frs (by dsimp only; rw [hrm]; rw [e4, e5]; exact List.sublist_append_left _ _)
  have hin : i = n := by omega
  subst hin
  have hrg := ring_Rg op hn20 hcut
  have hll : i = (ringL i cut op).length := by unfold ringL; rw [List.length_map, List.length_range]
  have hcn : ∀ e ∈ ringL i cut op, e.node.count ≤ 400 := fun e he => by obtain ⟨x, _, rfl⟩ := List.mem_map.1 he; exact nCell_count _
  have hnr : ∀ (W : World), ∀ e ∈ ringL i cut op, NodeR All W e.node e.p := fun W e he => by obtain ⟨x, _, rfl⟩ := List.mem_map.1 he; exact NodeR.leaf rfl
  have hdl : (dC (ringL i cut op)).length = i := by rw [dC_id (ring_srt _ _ _), List.length_map]; exact hll.symm
  rw [show (List.range i).map (ringE i cut op) = ringL i cut op from rfl] at ho ⊢
  repeat' first
    | (refine gl_gate ?_; first
      | (refine gl_any0 ?_; refine gl_pure tab_ok rfl rfl rfl rfl rfl rfl ?_))
    | (refine gc_gate ?_; first
      | refine gc_seq ?_
      | refine gc_region ?_
      | refine gc_exit ?_)
    | (refine ge_gate ?_; first
      | ((with_reducible refine ge_gT ?_); first | with_reducible refine ge_then ?_ | with_reducible refine ge_then_exit ?_ | with_reducible refine ge_then_ret ?_)
      | ((with_reducible refine ge_gK ?_); first | with_reducible refine ge_block ?_ | refine ge_block_exit ?_ | refine ge_block_pass rfl ?_ | with_reducible refine ge_block_ret ?_))
  refine gl_ev (ev_callM (M' := []) (K2 := _) rfl rfl ent130 rfl rfl rfl (fun W hW => ct_Order (S := All) (ringL i cut op) _ _ _ W hll (slA_cat len_en hll hW Oa.self ho) (hnr W) hcn (by omega)) (by simp) orX_wr (List.Sublist.refl _) (by simp) ?_) rfl rfl
  rintro ⟨⟨q1, c1, ks, sp1, K1⟩, hK1⟩ ⟨hk1, hw1, hz1⟩
  dsimp only at hk1 hw1 hz1 ⊢
  rw [List.append_assoc (ow q1 true _ 151)]
  cases op
  · rw [hrg.closed] at hk1
    obtain ⟨p0, c0, rfl⟩ := ks_one hk1
    repeat' first
      | (refine gl_idxG ?_; refine gl_yv (yv_idxO (i := 0) tab_ok hw1 c_gok rfl rfl rfl rfl rfl rfl c_imp c_imp (fun _ => by simp)) rfl rfl ?_)
      | (refine gl_loadG ?_; refine gl_yv (yv_ldO tab_ok c_oa hw1 c_gok rfl rfl c_imp (fun _ => lds_partD (i := 0) len_kp (by simp) rfl (by decide) (lds_one rfl rfl rfl rfl)) (fun _ => by simp)) rfl rfl ?_)
      | (refine gl_gate ?_; first
        | refine gl_nil ?_
        | (refine gl_pick0 ?_; first | refine gl_yv (yv_and (gok_none rfl) rfl rfl rfl (fun _ => rfl) c_imp2) rfl rfl ?_ | refine gl_yv (yv_or (gok_none rfl) rfl rfl rfl (fun _ => rfl) c_imp2) rfl rfl ?_)
        | (refine gl_any0 ?_; refine gl_pure tab_ok rfl rfl rfl rfl rfl rfl ?_)
        | (refine gl_anyG ?_; first | refine gl_yv (yv_pure tab_ok c_gok rfl rfl c_allT) rfl rfl ?_ | refine gl_yv (yv_indexS tab_ok c_gok rfl rfl rfl rfl c_imp c_imp (by intro hq_; (try simp only [Bool.and_eq_true, Bool.not_eq_true', Bool.not_eq_false', Bool.or_eq_false_iff, Bool.or_eq_true, decide_eq_true_eq, decide_eq_false_iff_not, Bool.true_and, Bool.and_true] at hq_); omega)) rfl rfl ?_ | refine gl_yv (yv_indexS (i := 0) tab_ok c_gok rfl rfl rfl rfl c_imp c_imp (by intro hq_; (try simp only [Bool.and_eq_true, Bool.not_eq_true', Bool.not_eq_false', Bool.or_eq_false_iff, Bool.or_eq_true, decide_eq_true_eq, decide_eq_false_iff_not, Bool.true_and, Bool.and_true] at hq_); omega)) rfl rfl ?_))
      | (refine gc_gate ?_; first
        | refine gc_seq ?_
        | refine gc_region ?_
        | refine gc_true rfl ?_
        | refine gc_ret ?_)
      | (refine ge_gate ?_; first
        | ((with_reducible refine ge_gT ?_); first | with_reducible refine ge_then ?_ | with_reducible refine ge_then_exit ?_ | with_reducible refine ge_then_ret ?_)
        | ((with_reducible refine ge_gB ?_); first | refine ge_ret1 tab_ok rfl c_rvt ?_ | refine ge_end1 tab_ok rfl c_rvt ?_ | refine ge_ret2 tab_ok rfl c_rvt c_rvt ?_ | refine ge_ret_none rfl ?_ | refine ge_end_none rfl ?_))
    intro W hW
    refine ⟨?_, hW.below0⟩
    simp [hdl]
  rw [hrg.open] at hk1
  have hkl : ks.length = i := by have := congrArg List.length hk1; rw [List.length_map, List.length_map, List.length_range] at this; exact this
  repeat' first
    | (refine gl_gate ?_; first
      | refine gl_nil ?_
      | (refine gl_any0 ?_; refine gl_pure tab_ok rfl rfl rfl rfl rfl rfl ?_))
    | (refine gc_gate ?_; first
      | refine gc_seq ?_
      | refine gc_region ?_
      | refine gc_false rfl ?_
      | refine gc_skip ?_)
    | (refine ge_gate ?_; first
      | ((with_reducible refine ge_gT ?_); first | with_reducible refine ge_then ?_ | with_reducible refine ge_then_exit ?_ | with_reducible refine ge_then_ret ?_))
  (refine gc_cond rfl ?_ ?_ <;> intro h_ <;> have hd_ := h_ <;> (try simp only [bytes_beq, cell_beq, val_beq, stamp_beq, decide_eq_true_eq, decide_eq_false_iff_not, Bool.and_eq_true, Bool.or_eq_true, Bool.or_eq_false_iff, Bool.not_eq_true', Bool.not_eq_false', Bool.not_true, Bool.not_false, Bool.false_or, Bool.true_and, Bool.and_true, Bool.or_false, beq_iff_eq, bne_iff_ne, beq_eq_false_iff_ne, bne_eq_false_iff_eq, ne_eq, Bool.false_eq_true, reduceCtorEq] at hd_) <;> (try (exfalso; omega)))
  repeat' first
    | (refine gl_gate ?_; first
      | refine gl_nil ?_
      | (refine gl_any0 ?_; refine gl_pure tab_ok rfl rfl rfl rfl rfl rfl ?_))
    | (refine gc_gate ?_; first
      | refine gc_seq ?_
      | refine gc_region ?_
      | refine gc_block ?_
      | refine gc_skip ?_)
    | (refine ge_gate ?_; first
      | ((with_reducible refine ge_gT ?_); first | with_reducible refine ge_then ?_ | with_reducible refine ge_then_exit ?_ | with_reducible refine ge_then_ret ?_))
  refine gc_sq (ow q1 true (cat KP.l ks ++ sp1) 151 ++ K1) c_sq ?_
  refine gc_loop (α := Nat) (fun k => [(0, true, .int .i64 (i : Int)), (1, true, .int .i64 (cut : Int)), (11, true, .slice (q1.map ad) ks.length c1), (12, true, .int .i64 (k : Int))]) (fun _ => ow q1 true (cat KP.l ks ++ sp1) 151 ++ K1) (fun k => k ≤ ks.length) (fun k => ks.length - k) 0 c_frs (List.Sublist.refl _) (Nat.zero_le _) ?_
  rintro k hk
  repeat' first
    | (refine gl_gate ?_; first
      | refine gl_nil ?_
      | (refine gl_any0 ?_; refine gl_pure tab_ok rfl rfl rfl rfl rfl rfl ?_))
    | (refine gc_gate ?_; first
      | refine gc_seq ?_
      | refine gc_region ?_)
    | (refine ge_gate ?_; first
      | ((with_reducible refine ge_gT ?_); first | with_reducible refine ge_then ?_ | with_reducible refine ge_then_exit ?_ | with_reducible refine ge_then_ret ?_))
  (refine gc_cond rfl ?_ ?_ <;> intro h_ <;> have hd_ := h_ <;> (try simp only [bytes_beq, cell_beq, val_beq, stamp_beq, decide_eq_true_eq, decide_eq_false_iff_not, Bool.and_eq_true, Bool.or_eq_true, Bool.or_eq_false_iff, Bool.not_eq_true', Bool.not_eq_false', Bool.not_true, Bool.not_false, Bool.false_or, Bool.true_and, Bool.and_true, Bool.or_false, beq_iff_eq, bne_iff_ne, beq_eq_false_iff_ne, bne_eq_false_iff_eq, ne_eq, Bool.false_eq_true, reduceCtorEq] at hd_) <;> (try (exfalso; omega)))
  · have hik : k < ks.length := by omega
    have hki : k < i := by omega
    obtain ⟨pi, ci, hkk⟩ : ∃ pi ci, ks.getD k default = ⟨pi, ⟨[cRg sS (dsR i cut k)], false⟩, ci⟩ := by
      have h1 : (ks.map KP.kn).getD k default = ⟨[cRg sS (dsR i cut k)], false⟩ := by
        rw [hk1]
        simp [List.getD, hki]
      have h2 : (ks.getD k default).kn = ⟨[cRg sS (dsR i cut k)], false⟩ := by
        rw [← h1]
        simp [List.getD, hik]
      exact ⟨(ks.getD k default).p, (ks.getD k default).c, by rw [← h2]⟩
    have hz := hz1 k hik
    rw [hkk] at hz
    dsimp only at hz
    repeat' first
      | (refine gc_gate ?_; first
        | refine gc_seq ?_
        | refine gc_block ?_
        | refine gc_skip ?_)
      | (refine ge_gate ?_; first
        | ((with_reducible refine ge_gT ?_); first | with_reducible refine ge_then ?_ | with_reducible refine ge_then_exit ?_ | with_reducible refine ge_then_ret ?_))
    refine gp_start [] #[false, false, false, false, false, false, false, false, false, false, false, false, false, false, false, false, false, false, false, false, false, false, false, false, false, false, false, false, false, false, false, false, false] mixed rfl rfl c_qp ?_; intro hqp_
    refine gp_take 0 #[true, false, false, false, false, false, false, false, false, false, false, false, false, false, false, false, false, false, false, false, false, false, false, false, false, false, false, false, false, false, false, false, false] hqp_ rfl (by kernel_rfl) (yv_pure tab_ok c_gok rfl rfl c_allT) c_cl rfl rfl ?_
    refine gp_take 1 #[true, true, false, false, false, false, false, false, false, false, false, false, false, false, false, false, false, false, false, false, false, false, false, false, false, false, false, false, false, false, false, false, false] hqp_ rfl (by kernel_rfl) (yv_pure tab_ok c_gok rfl rfl c_allT) c_cl rfl rfl ?_
    refine gp_take 2 #[true, true, true, false, false, false, false, false, false, false, false, false, false, false, false, false, false, false, false, false, false, false, false, false, false, false, false, false, false, false, false, false, false] hqp_ rfl (by kernel_rfl) ((yv_idxO tab_ok hw1 c_gok rfl rfl rfl rfl rfl rfl c_imp c_imp c_bnd)) c_cl rfl rfl ?_
    refine gp_take 3 #[true, true, true, true, false, false, false, false, false, false, false, false, false, false, false, false, false, false, false, false, false, false, false, false, false, false, false, false, false, false, false, false, false] hqp_ rfl (by kernel_rfl) (yv_pure tab_ok c_gok rfl rfl c_allT) c_cl rfl rfl ?_
    refine gp_take 4 #[true, true, true, true, true, false, false, false, false, false, false, false, false, false, false, false, false, false, false, false, false, false, false, false, false, false, false, false, false, false, false, false, false] hqp_ rfl (by kernel_rfl) (((yv_ldO (v := .bool false) tab_ok c_oa hw1 c_gok rfl rfl c_imp (fun _ => lds_partD (o := 1) len_kp (by omega) rfl (by decide) (lds_one rfl rfl rfl (by rw [hkk]; rfl))) c_bnd))) c_cl rfl rfl ?_
    refine gp_take 5 #[true, true, true, true, true, true, false, false, false, false, false, false, false, false, false, false, false, false, false, false, false, false, false, false, false, false, false, false, false, false, false, false, false] hqp_ rfl (by kernel_rfl) (yv_pure tab_ok c_gok rfl rfl c_allT) c_cl rfl rfl ?_
    refine gp_take 6 #[true, true, true, true, true, true, true, false, false, false, false, false, false, false, false, false, false, false, false, false, false, false, false, false, false, false, false, false, false, false, false, false, false] hqp_ rfl (by kernel_rfl) (yv_pure tab_ok c_gok rfl rfl c_allT) c_cl rfl rfl ?_
    refine gp_take 7 #[true, true, true, true, true, true, true, true, false, false, false, false, false, false, false, false, false, false, false, false, false, false, false, false, false, false, false, false, false, false, false, false, false] hqp_ rfl (by kernel_rfl) (yv_pure tab_ok c_gok rfl rfl c_allT) c_cl rfl rfl ?_
    refine gp_take 8 #[true, true, true, true, true, true, true, true, true, false, false, false, false, false, false, false, false, false, false, false, false, false, false, false, false, false, false, false, false, false, false, false, false] hqp_ rfl (by kernel_rfl) ((yv_idxO tab_ok hw1 c_gok rfl rfl rfl rfl rfl rfl c_imp c_imp c_bnd)) c_cl rfl rfl ?_
    refine gp_take 9 #[true, true, true, true, true, true, true, true, true, true, false, false, false, false, false, false, false, false, false, false, false, false, false, false, false, false, false, false, false, false, false, false, false] hqp_ rfl (by kernel_rfl) (yv_pure tab_ok c_gok rfl rfl c_allT) c_cl rfl rfl ?_
    refine gp_take 10 #[true, true, true, true, true, true, true, true, true, true, true, false, false, false, false, false, false, false, false, false, false, false, false, false, false, false, false, false, false, false, false, false, false] hqp_ rfl (by kernel_rfl) (((yv_ldO (v := .slice pi 1 ci) tab_ok c_oa hw1 c_gok rfl rfl c_imp (fun _ => lds_partD (o := 0) len_kp (by omega) rfl (by decide) (lds_one rfl rfl rfl (by rw [hkk]; rfl))) c_bnd))) c_cl rfl rfl ?_
    refine gp_take 11 #[true, true, true, true, true, true, true, true, true, true, true, true, false, false, false, false, false, false, false, false, false, false, false, false, false, false, false, false, false, false, false, false, false] hqp_ rfl (by kernel_rfl) (yv_pure tab_ok c_gok rfl rfl c_allT) c_cl rfl rfl ?_
    refine gp_take 12 #[true, true, true, true, true, true, true, true, true, true, true, true, true, false, false, false, false, false, false, false, false, false, false, false, false, false, false, false, false, false, false, false, false] hqp_ rfl (by kernel_rfl) (yv_pure tab_ok c_gok rfl rfl c_allT) c_cl rfl rfl ?_
    refine gp_take 13 #[true, true, true, true, true, true, true, true, true, true, true, true, true, true, false, false, false, false, false, false, false, false, false, false, false, false, false, false, false, false, false, false, false] hqp_ rfl (by kernel_rfl) (yv_or c_gok rfl rfl rfl c_imp c_imp2) c_cl rfl rfl ?_
    refine gp_take 14 #[true, true, true, true, true, true, true, true, true, true, true, true, true, true, true, false, false, false, false, false, false, false, false, false, false, false, false, false, false, false, false, false, false] hqp_ rfl (by kernel_rfl) (((yv_pure tab_ok c_gok rfl rfl c_allT).cast (v' := .bool false) rfl)) c_cl rfl rfl ?_
    refine gp_take 15 #[true, true, true, true, true, true, true, true, true, true, true, true, true, true, true, true, false, false, false, false, false, false, false, false, false, false, false, false, false, false, false, false, false] hqp_ rfl (by kernel_rfl) (yv_pure tab_ok c_gok rfl rfl c_allT) c_cl rfl rfl ?_
    refine gp_take 16 #[true, true, true, true, true, true, true, true, true, true, true, true, true, true, true, true, true, false, false, false, false, false, false, false, false, false, false, false, false, false, false, false, false] hqp_ rfl (by kernel_rfl) (yv_pure tab_ok c_gok rfl rfl c_allT) c_cl rfl rfl ?_
    refine gp_take 17 #[true, true, true, true, true, true, true, true, true, true, true, true, true, true, true, true, true, true, false, false, false, false, false, false, false, false, false, false, false, false, false, false, false] hqp_ rfl (by kernel_rfl) ((yv_idxO tab_ok hw1 c_gok rfl rfl rfl rfl rfl rfl c_imp c_imp c_bnd)) c_cl rfl rfl ?_
    refine gp_take 18 #[true, true, true, true, true, true, true, true, true, true, true, true, true, true, true, true, true, true, true, false, false, false, false, false, false, false, false, false, false, false, false, false, false] hqp_ rfl (by kernel_rfl) (yv_pure tab_ok c_gok rfl rfl c_allT) c_cl rfl rfl ?_
    refine gp_take 19 #[true, true, true, true, true, true, true, true, true, true, true, true, true, true, true, true, true, true, true, true, false, false, false, false, false, false, false, false, false, false, false, false, false] hqp_ rfl (by kernel_rfl) (((yv_ldO (v := .slice pi 1 ci) tab_ok c_oa hw1 c_gok rfl rfl c_imp (fun _ => lds_partD (o := 0) len_kp (by omega) rfl (by decide) (lds_one rfl rfl rfl (by rw [hkk]; rfl))) c_bnd))) c_cl rfl rfl ?_
    refine gp_take 20 #[true, true, true, true, true, true, true, true, true, true, true, true, true, true, true, true, true, true, true, true, true, false, false, false, false, false, false, false, false, false, false, false, false] hqp_ rfl (by kernel_rfl) ((yv_idxF (i := 0) tab_ok hz c_kin c_gok rfl rfl rfl rfl rfl rfl c_imp c_imp (fun _ => Nat.zero_lt_one))) c_cl rfl rfl ?_
    refine gp_take 21 #[true, true, true, true, true, true, true, true, true, true, true, true, true, true, true, true, true, true, true, true, true, true, false, false, false, false, false, false, false, false, false, false, false] hqp_ rfl (by kernel_rfl) (yv_pure tab_ok c_gok rfl rfl c_allT) c_cl rfl rfl ?_
    refine gp_take 22 #[true, true, true, true, true, true, true, true, true, true, true, true, true, true, true, true, true, true, true, true, true, true, true, false, false, false, false, false, false, false, false, false, false] hqp_ rfl (by kernel_rfl) (((yv_ldFo (v := .int .i64 (1 + ((dsR i cut k : Nat) : Int))) (i := 0) (off := 1) tab_ok hz c_kin c_gok rfl rfl c_imp (fun _ => Nat.zero_lt_one) (fun _ => lds_one rfl rfl rfl rfl)))) c_cl rfl rfl ?_
    refine gp_take 23 #[true, true, true, true, true, true, true, true, true, true, true, true, true, true, true, true, true, true, true, true, true, true, true, true, false, false, false, false, false, false, false, false, false] hqp_ rfl (by kernel_rfl) (yv_pure tab_ok c_gok rfl rfl c_allT) c_cl rfl rfl ?_
    refine gp_take 24 #[true, true, true, true, true, true, true, true, true, true, true, true, true, true, true, true, true, true, true, true, true, true, true, true, true, false, false, false, false, false, false, false, false] hqp_ rfl (by kernel_rfl) (yv_pure tab_ok c_gok rfl rfl c_allT) c_cl rfl rfl ?_
    refine gp_take 25 #[true, true, true, true, true, true, true, true, true, true, true, true, true, true, true, true, true, true, true, true, true, true, true, true, true, true, false, false, false, false, false, false, false] hqp_ rfl (by kernel_rfl) (yv_sub tab_ok c_gok rfl rfl rfl rfl c_allT c_bnd) c_cl rfl rfl ?_
    refine gp_take 26 #[true, true, true, true, true, true, true, true, true, true, true, true, true, true, true, true, true, true, true, true, true, true, true, true, true, true, true, false, false, false, false, false, false] hqp_ rfl (by kernel_rfl) (yv_pure tab_ok c_gok rfl rfl c_allT) c_cl rfl rfl ?_
    refine gp_take 27 #[true, true, true, true, true, true, true, true, true, true, true, true, true, true, true, true, true, true, true, true, true, true, true, true, true, true, true, true, false, false, false, false, false] hqp_ rfl (by kernel_rfl) (yv_add tab_ok c_gok rfl rfl rfl rfl c_allT c_bnd) c_cl rfl rfl ?_
    refine gp_take 28 #[true, true, true, true, true, true, true, true, true, true, true, true, true, true, true, true, true, true, true, true, true, true, true, true, true, true, true, true, true, false, false, false, false] hqp_ rfl (by kernel_rfl) (yv_pure tab_ok c_gok rfl rfl c_allT) c_cl rfl rfl ?_
    refine gp_take 29 #[true, true, true, true, true, true, true, true, true, true, true, true, true, true, true, true, true, true, true, true, true, true, true, true, true, true, true, true, true, true, false, false, false] hqp_ rfl (by kernel_rfl) ((yv_rem tab_ok c_gok rfl rfl rfl c_imp c_imp (fun _ => by simp; omega))) c_cl rfl rfl ?_
    refine gp_take 30 #[true, true, true, true, true, true, true, true, true, true, true, true, true, true, true, true, true, true, true, true, true, true, true, true, true, true, true, true, true, true, true, false, false] hqp_ rfl (by kernel_rfl) (yv_pure tab_ok c_gok rfl rfl c_allT) c_cl rfl rfl ?_
    refine gp_take 31 #[true, true, true, true, true, true, true, true, true, true, true, true, true, true, true, true, true, true, true, true, true, true, true, true, true, true, true, true, true, true, true, true, false] hqp_ rfl (by kernel_rfl) (((yv_pure tab_ok c_gok rfl rfl c_allT).cast (v' := .bool false) (by have hds := dsR_lt hki hcut; rw [rem_ds hki hcut]; simp only [wrap64 (n := 1 + ((dsR i cut k : Nat) : Int)) (by omega) (by omega)]; simp))) c_cl rfl rfl ?_
    refine gp_take 32 #[true, true, true, true, true, true, true, true, true, true, true, true, true, true, true, true, true, true, true, true, true, true, true, true, true, true, true, true, true, true, true, true, true] hqp_ rfl (by kernel_rfl) (yv_or c_gok rfl rfl rfl c_imp c_imp2) c_cl rfl rfl ?_
    refine gp_done (by kernel_rfl) ?_; clear hqp_
    repeat' first
      | (refine gl_gate ?_; first
        | refine gl_nil ?_
        | (refine gl_add0 ?_; refine gl_yv (yv_add tab_ok (gok_none rfl) rfl rfl rfl rfl (fun _ => allT_of rfl) (by intro _; omega)) rfl rfl ?_)
        | (refine gl_any0 ?_; refine gl_pure tab_ok rfl rfl rfl rfl rfl rfl ?_))
      | (refine gc_gate ?_; first
        | refine gc_region ?_
        | refine gc_false rfl ?_
        | refine gc_skip ?_)
      | (refine ge_gate ?_; first
        | ((with_reducible refine ge_gT ?_); first | with_reducible refine ge_then ?_ | with_reducible refine ge_then_exit ?_ | with_reducible refine ge_then_ret ?_)
        | ((with_reducible refine ge_gK ?_); first | with_reducible refine ge_block ?_ | refine ge_block_exit ?_ | refine ge_block_pass rfl ?_ | with_reducible refine ge_block_ret ?_))
    exact ge_round (k + 1) (by omega) (by omega) c_frs (List.Sublist.refl _)
  · repeat' first
      | (refine gl_gate ?_; first
        | refine gl_nil ?_
        | (refine gl_any0 ?_; refine gl_pure tab_ok rfl rfl rfl rfl rfl rfl ?_))
      | (refine gc_gate ?_; first
        | refine gc_seq ?_
        | refine gc_region ?_
        | refine gc_exit ?_
        | refine gc_ret ?_)
      | (refine ge_gate ?_; first
        | ((with_reducible refine ge_gT ?_); first | with_reducible refine ge_then ?_ | with_reducible refine ge_then_exit ?_ | with_reducible refine ge_then_ret ?_)
        | ((with_reducible refine ge_gK ?_); first | with_reducible refine ge_block ?_ | refine ge_block_exit ?_ | refine ge_block_pass rfl ?_ | with_reducible refine ge_block_ret ?_)
        | ((with_reducible refine ge_gB ?_); first | refine ge_ret1 tab_ok rfl c_rvt ?_ | refine ge_end1 tab_ok rfl c_rvt ?_ | refine ge_ret2 tab_ok rfl c_rvt c_rvt ?_ | refine ge_ret_none rfl ?_ | refine ge_end_none rfl ?_))
    intro W hW
    exact ⟨rfl, hW.below0⟩
theorem law_KnotsRing (W : World) {b0 : Nat} {b1 : Nat} {b2 : Nat} {v0 v1 v2 : Value} (o0 : Value.okWide Try.prog W .any b0 3 v0) (o1 : Value.okWide Try.prog W .any b1 3 v1) (o2 : Value.okWide Try.prog W .any b2 4 v2)
    (r0 : ∃ m, Rd tab W m 3 v0.cells.toList) (r1 : ∃ m, Rd tab W m 3 v1.cells.toList) (r2 : ∃ m, Rd tab W m 4 v2.cells.toList) : Calls Try.prog 30 #[v0, v1, v2] W fun e w' => e = .returned (.bool true) ∧ Bl W w' := by
  rw [arg_one tab_ok (t := 3) rfl rfl o0] at r0
  rw [arg_one tab_ok (t := 3) rfl rfl o1] at r1
  rw [arg_one tab_ok (t := 4) rfl rfl o2] at r2
  obtain ⟨m0, r0⟩ := r0
  obtain ⟨m1, r1⟩ := r1
  obtain ⟨m2, r2⟩ := r2
  obtain ⟨x0, h0, hx0⟩ := rd_i64 r0 rfl
  obtain ⟨x1, h1, hx1⟩ := rd_i64 r1 rfl
  obtain ⟨x2, h2⟩ := rd_b r2 rfl
  cases h0
  cases h1
  cases h2
  exact walk_KnotsRing _ _ _ hx0 hx1 W
end Go.Proofs.Ytkgjfcjciigcgaa
