/-
  Entries in memory: reading them, few of them, of several of one cell the last, a map's cells in order.
-/
import Derived.Test.YtkgjfcjciigcgaaGoDepsN
import Derived.Test.YtkgjfcjciigcgaaGoSorted
import Derived.Test.YtkgjfcjciigcgaaSlRows
namespace Go.Proofs.Ytkgjfcjciigcgaa
open Go.Proofs.Ytkgjfcjciigcgaa.Sl Go.RowKit
set_option linter.unusedVariables false
set_option linter.unusedSimpArgs false
set_option maxRecDepth 100000

theorem len_en (e : En) : e.l.length = 20 := rfl
theorem rdEn {W : World} {n : Nat} {cs : List Value} (h : Rd tab W n 154 cs) : ∃ e : En, cs = e.l ∧ NodeR All W e.node e.p := by
  obtain ⟨m, rfl, hl, hf⟩ := rd_st (fs := [(25, 0), (4, 3), (28, 4), (23, 17)]) h rfl
  obtain ⟨a0, a1, a2, a3, a4, a5, a6, a7, a8, a9, a10, a11, a12, a13, a14, a15, a16, a17, a18, a19, rfl⟩ : ∃ a0 a1 a2 a3 a4 a5 a6 a7 a8 a9 a10 a11 a12 a13 a14 a15 a16 a17 a18 a19, cs = [a0, a1, a2, a3, a4, a5, a6, a7, a8, a9, a10, a11, a12, a13, a14, a15, a16, a17, a18, a19] := by
    match cs, hl with
    | [a0, a1, a2, a3, a4, a5, a6, a7, a8, a9, a10, a11, a12, a13, a14, a15, a16, a17, a18, a19], _ => exact ⟨a0, a1, a2, a3, a4, a5, a6, a7, a8, a9, a10, a11, a12, a13, a14, a15, a16, a17, a18, a19, rfl⟩
  obtain ⟨c, h0, _⟩ := rdCell (hf (25, 0) (by simp) rfl)
  obtain ⟨x, h1⟩ := rd_b (hf (4, 3) (by simp) rfl) rfl
  obtain ⟨t, p, k, h2, hR⟩ := rdNode _ _ (hf (28, 4) (by simp) rfl)
  obtain ⟨v, h3, _⟩ := rdVal (hf (23, 17) (by simp) rfl)
  have h0' : [a0, a1, a2] = c.l := h0
  have h1' : [a3] = [.bool x] := h1
  have h2' : [a4, a5, a6, a7, a8, a9, a10, a11, a12, a13, a14, a15, a16] = t.l p k := h2
  have h3' : [a17, a18, a19] = v.l := h3
  refine ⟨⟨c, x, t, p, k, v⟩, ?_, hR⟩
  show [a0, a1, a2] ++ ([a3] ++ ([a4, a5, a6, a7, a8, a9, a10, a11, a12, a13, a14, a15, a16] ++ [a17, a18, a19])) = _
  rw [h0', h1', h2', h3']
  rfl
theorem rdEns {W : World} {n : Nat} {cs : List Value} (h : Rd tab W n 124 cs) : ∃ (p : Option Addr) (len cap : Nat) (l : List En), cs = [.slice p len cap] ∧ len = l.length ∧ len ≤ cap ∧ cap ≤ 9223372036854775807 ∧ SlA W 20 p len (fun i => (l.getD i default).l) ∧ ∀ e ∈ l, NodeR All W e.node e.p :=
  rdFlat (d := ⟨.struct [(25, 0), (4, 3), (28, 4), (23, 17)], 20, 232, [.string ByteArray.empty, .int .i64 0, .int .i64 0, .bool false, .int .i64 0, .string ByteArray.empty, .string ByteArray.empty, .int .i64 0, .int .i64 0, .string ByteArray.empty, .string ByteArray.empty, .int .i64 0, .int .i64 0, .string ByteArray.empty, .int .i64 0, .int .i64 0, .slice none 0 0, .int .i64 0, .int .i64 0, .string ByteArray.empty]⟩) (f := En.l) (R := fun e => NodeR All W e.node e.p) h rfl rfl (by decide) fun _ _ h => rdEn h
section
variable {P : Program} {T : Tab} {N : Nat} {F : Fl} {a : Act} {l : List Oper} {o : Oper} {q : Bool} {w0 : World} {M : List Nat} {K : Kl} {v : Value}
theorem Sl.yv_ldA2 {k : Nat} {p : Option Addr} {n : Nat} {e : Nat → List Value} {i off off' : Nat} (hT : TabOk P T) (hs : SlA w0 k p n e) (hM : 0 < n → pb p ∉ M) {t : TypeId} {x : Operand} {px : Bool} (hg : Gok l F o q) (ho : o.op = .load t x)
    (hx : Fo F x = some (px, .pointer (some ⟨pb p, off', none⟩))) (he : off' = po p + i * k + off) (hp : q = true → px = true) (hi : q = true → i < n) (hl : q = true → Lds T t (e i) off v) : Yv P (St w0 M K) l N F o q v := by
  subst he
  exact yv_ldA hT hs hM hg ho hx hp hi hl
end
/-- abacistlaw12.Few. -/
def fewE (e : En) : Bool := e.node.few && (decide (e.val.s.size ≤ 400) && decide (e.cell.sheet.size ≤ 50))
def few12 (l : List En) : Bool := l.all fewE && decide ((l.length : Int) ≤ 24)
theorem few12_len {l : List En} (h : few12 l = true) : l.length ≤ 24 := by
  unfold few12 at h
  rw [Bool.and_eq_true, decide_eq_true_eq] at h
  omega
theorem few12_node {l : List En} (h : few12 l = true) {e : En} (he : e ∈ l) : e.node.count ≤ 400 := by
  unfold few12 at h
  rw [Bool.and_eq_true, List.all_eq_true] at h
  have := h.1 e he
  unfold fewE at this
  rw [Bool.and_eq_true] at this
  exact Node.few_count this.1
theorem ct_Few12 {S : Nat → Prop} (l : List En) (p : Option Addr) (n cap : Nat) (w : World) (hn : n = l.length) (hs : SlA w 20 p n (fun i => (l.getD i default).l)) (hR : ∀ e ∈ l, NodeR S w e.node e.p) (hl : n ≤ 9223372036854775807) : Calls Try.prog 108 #[.slice p n cap] w fun e w' => e = .returned (.bool (few12 l)) ∧ Bl w w' := by
  refine enter (args := [_]) (M := []) (K := []) Try.func108 rfl Try.ntmps108 rfl (St.refl _ _) ?_
  repeat' first
    | (refine gl_gate ?_; first
      | refine gl_nil ?_
      | (refine gl_any0 ?_; refine gl_pure tab_ok rfl rfl rfl rfl rfl rfl ?_))
    | (refine gc_gate ?_; first
      | refine gc_seq ?_
      | refine gc_region ?_
      | refine gc_block ?_)
    | (refine ge_gate ?_; first
      | ((with_reducible refine ge_gT ?_); first | with_reducible refine ge_then ?_ | with_reducible refine ge_then_exit ?_ | with_reducible refine ge_then_ret ?_))
  refine gc_loop (α := Nat) (fun i => [(0, true, .slice p n cap), (3, true, .int .i64 (i : Int))]) (fun _ => []) (fun i => i ≤ n ∧ ∀ e ∈ l.take i, fewE e = true) (fun i => n - i) 0 c_frs c_sub ⟨Nat.zero_le _, fun e he => by simp at he⟩ ?_
  rintro i ⟨hi, he⟩
  repeat' first
    | (refine gl_gate ?_; first
      | refine gl_nil ?_
      | (refine gl_any0 ?_; refine gl_pure tab_ok rfl rfl rfl rfl rfl rfl ?_))
    | (refine gc_gate ?_; first
      | refine gc_seq ?_
      | refine gc_region ?_)
    | (refine ge_gate ?_; first
      | ((with_reducible refine ge_gT ?_); first | with_reducible refine ge_then ?_ | with_reducible refine ge_then_exit ?_ | with_reducible refine ge_then_ret ?_))
  (refine gc_cond rfl ?_ ?_ <;> intro h_ <;> have hd_ := h_ <;> (try simp only [bytes_beq, cell_beq, val_beq, stamp_beq, decide_eq_true_eq, decide_eq_false_iff_not, Bool.and_eq_true, Bool.or_eq_true, Bool.or_eq_false_iff, Bool.not_eq_true', Bool.not_eq_false', Bool.not_true, Bool.not_false, Bool.false_or, Bool.true_and, Bool.and_true, Bool.or_false, beq_iff_eq, bne_iff_ne, beq_eq_false_iff_ne, bne_eq_false_iff_eq, ne_eq, Bool.false_eq_true, reduceCtorEq] at hd_) <;> (try (exfalso; omega)))
  · have hR' := hR (l.getD i default) (getD_mem l i (by omega))
    repeat' first
      | (refine gl_loadG ?_; refine gl_yv (yv_ldA2 (i := i) (off := 19) tab_ok hs c_nm c_gok rfl rfl (by omega) c_imp c_bnd (fun _ => c_lds)) rfl rfl ?_)
      | (refine gl_gate ?_; first
        | refine gl_nil ?_
        | (refine gl_idx0 ?_; refine gl_yv (yv_idxA tab_ok hs (gok_none rfl) rfl rfl rfl rfl rfl rfl (fun _ => rfl) (fun _ => rfl) c_bnd) rfl rfl ?_)
        | (refine gl_idxG ?_; refine gl_yv (yv_idxA tab_ok hs c_gok rfl rfl rfl rfl rfl rfl c_imp c_imp c_bnd) rfl rfl ?_)
        | (refine gl_load0 ?_; refine gl_yv (yv_ldA tab_ok hs c_nm (gok_none rfl) rfl rfl (fun _ => rfl) c_bnd (fun _ => c_lds)) rfl rfl ?_)
        | (refine gl_loadG ?_; refine gl_yv (yv_ldA tab_ok hs c_nm c_gok rfl rfl c_imp c_bnd (fun _ => c_lds)) rfl rfl ?_)
        | (refine gl_calv0 ?_; first | refine gl_yd (yd_call (gok_none rfl) rfl ent33 rfl rfl (fun _ => allT_of rfl) (fun _ W hW => ct_Few (l.getD i default).node (l.getD i default).p (l.getD i default).c W (hR'.st hW))) rfl rfl ?_)
        | (refine gl_pick0 ?_; first | refine gl_yv (yv_and (gok_none rfl) rfl rfl rfl (fun _ => rfl) c_imp2) rfl rfl ?_ | refine gl_yv (yv_or (gok_none rfl) rfl rfl rfl (fun _ => rfl) c_imp2) rfl rfl ?_)
        | (refine gl_any0 ?_; refine gl_pure tab_ok rfl rfl rfl rfl rfl rfl ?_)
        | (refine gl_anyG ?_; first | refine gl_yv (yv_pure tab_ok c_gok rfl rfl c_allT) rfl rfl ?_ | refine gl_yv (yv_indexS tab_ok c_gok rfl rfl rfl rfl c_imp c_imp (by intro hq_; (try simp only [Bool.and_eq_true, Bool.not_eq_true', Bool.not_eq_false', Bool.or_eq_false_iff, Bool.or_eq_true, decide_eq_true_eq, decide_eq_false_iff_not, Bool.true_and, Bool.and_true] at hq_); omega)) rfl rfl ?_ | refine gl_yv (yv_indexS (i := 0) tab_ok c_gok rfl rfl rfl rfl c_imp c_imp (by intro hq_; (try simp only [Bool.and_eq_true, Bool.not_eq_true', Bool.not_eq_false', Bool.or_eq_false_iff, Bool.or_eq_true, decide_eq_true_eq, decide_eq_false_iff_not, Bool.true_and, Bool.and_true] at hq_); omega)) rfl rfl ?_))
      | (refine gc_gate ?_; first
        | refine gc_seq ?_
        | refine gc_region ?_
        | refine gc_block ?_
        | refine gc_skip ?_)
      | (refine ge_gate ?_; first
        | ((with_reducible refine ge_gT ?_); first | with_reducible refine ge_then ?_ | with_reducible refine ge_then_exit ?_ | with_reducible refine ge_then_ret ?_))
    (refine gc_cond rfl ?_ ?_ <;> intro h_ <;> have hd_ := h_ <;> (try simp only [bytes_beq, cell_beq, val_beq, stamp_beq, decide_eq_true_eq, decide_eq_false_iff_not, Bool.and_eq_true, Bool.or_eq_true, Bool.or_eq_false_iff, Bool.not_eq_true', Bool.not_eq_false', Bool.not_true, Bool.not_false, Bool.false_or, Bool.true_and, Bool.and_true, Bool.or_false, beq_iff_eq, bne_iff_ne, beq_eq_false_iff_ne, bne_eq_false_iff_eq, ne_eq, Bool.false_eq_true, reduceCtorEq] at hd_) <;> (try (exfalso; omega)))
    · repeat' first
        | (refine gl_gate ?_; first
          | refine gl_nil ?_
          | (refine gl_any0 ?_; refine gl_pure tab_ok rfl rfl rfl rfl rfl rfl ?_))
        | (refine gc_gate ?_; first
          | refine gc_seq ?_
          | refine gc_region ?_
          | refine gc_ret ?_)
        | (refine ge_gate ?_; first
          | ((with_reducible refine ge_gT ?_); first | with_reducible refine ge_then ?_ | with_reducible refine ge_then_exit ?_ | with_reducible refine ge_then_ret ?_)
          | ((with_reducible refine ge_gK ?_); first | with_reducible refine ge_block ?_ | refine ge_block_exit ?_ | refine ge_block_pass rfl ?_ | with_reducible refine ge_block_ret ?_)
          | ((with_reducible refine ge_gB ?_); first | refine ge_ret1 tab_ok rfl c_rvt ?_ | refine ge_end1 tab_ok rfl c_rvt ?_ | refine ge_ret2 tab_ok rfl c_rvt c_rvt ?_ | refine ge_ret_none rfl ?_ | refine ge_end_none rfl ?_))
      intro W hW
      refine ⟨?_, hW.below0⟩
      have : few12 l = false := by
        unfold few12
        rw [Bool.and_eq_false_iff]
        refine .inl ?_
        rw [List.all_eq_false]
        refine ⟨_, getD_mem l i (by omega), ?_⟩
        unfold fewE
        generalize l.getD i default = e at *
        rcases hd_ with (h | h) | h
        · simp [h]
        · have : ¬ e.val.s.size ≤ 400 := by omega
          simp [this]
        · have : ¬ e.cell.sheet.size ≤ 50 := by omega
          simp [this]
      rw [this]
    · repeat' first
        | (refine gl_gate ?_; first
          | refine gl_nil ?_
          | (refine gl_add0 ?_; refine gl_yv (yv_add tab_ok (gok_none rfl) rfl rfl rfl rfl (fun _ => allT_of rfl) (by intro _; omega)) rfl rfl ?_)
          | (refine gl_any0 ?_; refine gl_pure tab_ok rfl rfl rfl rfl rfl rfl ?_))
        | (refine gc_gate ?_; first
          | refine gc_region ?_
          | refine gc_skip ?_)
        | (refine ge_gate ?_; first
          | ((with_reducible refine ge_gT ?_); first | with_reducible refine ge_then ?_ | with_reducible refine ge_then_exit ?_ | with_reducible refine ge_then_ret ?_)
          | ((with_reducible refine ge_gK ?_); first | with_reducible refine ge_block ?_ | refine ge_block_exit ?_ | refine ge_block_pass rfl ?_ | with_reducible refine ge_block_ret ?_))
      refine ge_round (i + 1) ⟨by omega, ?_⟩ (by omega) c_frs c_sub
      intro e h
      rw [take_succD l i (by omega)] at h
      rcases List.mem_append.1 h with h | h
      · exact he e h
      · rw [List.mem_singleton.1 h]
        unfold fewE
        have h1 := hd_.1.1
        have h2 : (l.getD i default).val.s.size ≤ 400 := by have := hd_.1.2; omega
        have h3 : (l.getD i default).cell.sheet.size ≤ 50 := by have := hd_.2; omega
        rw [h1, decide_eq_true h2, decide_eq_true h3]
        rfl
  · repeat' first
      | (refine gl_gate ?_; first
        | refine gl_nil ?_
        | (refine gl_any0 ?_; refine gl_pure tab_ok rfl rfl rfl rfl rfl rfl ?_))
      | (refine gc_gate ?_; first
        | refine gc_seq ?_
        | refine gc_region ?_
        | refine gc_exit ?_
        | refine gc_ret ?_)
      | (refine ge_gate ?_; first
        | ((with_reducible refine ge_gT ?_); first | with_reducible refine ge_then ?_ | with_reducible refine ge_then_exit ?_ | with_reducible refine ge_then_ret ?_)
        | ((with_reducible refine ge_gK ?_); first | with_reducible refine ge_block ?_ | refine ge_block_exit ?_ | refine ge_block_pass rfl ?_ | with_reducible refine ge_block_ret ?_)
        | ((with_reducible refine ge_gB ?_); first | refine ge_ret1 tab_ok rfl c_rvt ?_ | refine ge_end1 tab_ok rfl c_rvt ?_ | refine ge_ret2 tab_ok rfl c_rvt c_rvt ?_ | refine ge_ret_none rfl ?_ | refine ge_end_none rfl ?_))
    intro W hW
    refine ⟨?_, hW.below0⟩
    have h1 : i = l.length := by omega
    rw [h1, List.take_length] at he
    have : few12 l = decide ((n : Int) ≤ 24) := by
      unfold few12
      rw [List.all_eq_true.2 he, Bool.true_and, hn]
    rw [this]
def vE (e : En) : Value := .agg e.l.toArray
theorem zero_en (w : World) : (zeroValue 154).run Try.prog w = .ok (vE default) w := Try.zeroValue154 w
theorem lkE_last (l : List En) (i : Nat) (hi : i < l.length) (c : Cell) : lkE (lastR (l.take (i + 1))) c = if (l.getD i default).cell = c then some (l.getD i default) else lkE (lastR (l.take i)) c := by
  rw [lastR_take l i hi, lkE_ins]
theorem ct_LastP (l : List En) (p : Option Addr) (n cap : Nat) (w : World) (hn : n = l.length) (hs : SlA w 20 p n (fun i => (l.getD i default).l)) (hl : n ≤ 1000000000) : Calls Try.prog 178 #[.slice p n cap] w
    (RetM w [] (fun x : Nat × List (Cell × En) × Array MapEntry × Nat => .map (some x.1)) (fun x => [(x.1, true, .map x.2.2.1 x.2.2.2)]) (fun x => Mp kCell vE x.2.1 x.2.2.1 x.2.2.2 ∧ (∀ c, lkM x.2.1 c = lkE (lastR l) c) ∧ x.2.1.length ≤ n)) := by
  refine enter (args := [_]) (M := []) (K := []) Try.func178 rfl Try.ntmps178 rfl (St.refl _ _) ?_
  repeat' first
    | refine gl_ev (ev_makeMap rfl rfl ?_) rfl rfl; intro g2_ hg2_
    | (refine gl_gate ?_; first
      | refine gl_nil ?_
      | (refine gl_any0 ?_; refine gl_pure tab_ok rfl rfl rfl rfl rfl rfl ?_))
    | (refine gc_gate ?_; first
      | refine gc_seq ?_
      | refine gc_region ?_
      | refine gc_block ?_)
    | (refine ge_gate ?_; first
      | ((with_reducible refine ge_gT ?_); first | with_reducible refine ge_then ?_ | with_reducible refine ge_then_exit ?_ | with_reducible refine ge_then_ret ?_))
  refine gc_loop (α := Nat × List (Cell × En) × Array MapEntry × Nat) (fun x => [(3, true, .map (some g2_)), (7, true, .slice p n cap), (8, true, .int .i64 n), (9, true, .int .i64 (x.1 : Int))])
    (fun x => [(g2_, true, .map x.2.2.1 x.2.2.2)]) (fun x => x.1 ≤ n ∧ Mp kCell vE x.2.1 x.2.2.1 x.2.2.2 ∧ (∀ c, lkM x.2.1 c = lkE (lastR (l.take x.1)) c) ∧ x.2.1.length ≤ x.1) (fun x => n - x.1) (0, [], #[], 0) c_frs (List.Sublist.refl _) ⟨Nat.zero_le _, Mp.nil, fun c => rfl, Nat.zero_le _⟩ ?_
  rintro ⟨i, m, es1, clock1⟩ ⟨hi, hm1, hlk, hml⟩
  dsimp only at hi hm1 hlk hml ⊢
  repeat' first
    | refine gl_ev0 (ev_mapUpdate (kf := kCell) (vf := vE) (k := (l.getD i default).cell) (u := (l.getD i default)) key_cell tab_ok rfl rfl rfl rfl rfl rfl hm1 c_mem (fun es2 clock2 hm2 => ⟨_, c_ku, ?_⟩)) rfl
    | (refine gl_gate ?_; first
      | refine gl_nil ?_
      | (refine gl_load0 ?_; refine gl_yv (yv_load tab_ok (gok_none rfl) rfl rfl (fun _ => rfl) c_mem (fun _ => c_lds)) rfl rfl ?_)
      | (refine gl_add0 ?_; refine gl_yv (yv_add tab_ok (gok_none rfl) rfl rfl rfl rfl (fun _ => allT_of rfl) (by intro _; omega)) rfl rfl ?_)
      | (refine gl_idx0 ?_; refine gl_yv (yv_idxA tab_ok hs (gok_none rfl) rfl rfl rfl rfl rfl rfl (fun _ => rfl) (fun _ => rfl) c_bnd) rfl rfl ?_)
      | (refine gl_load0 ?_; refine gl_yv (yv_ldA0 tab_ok hs c_nm (gok_none rfl) rfl rfl (fun _ => rfl) c_bnd (fun _ => c_lds)) rfl rfl ?_)
      | (refine gl_alc0 ?_; (refine gl_alloc tab_ok rfl rfl rfl rfl rfl ?_; intro g_ hg_))
      | (refine gl_sto0 ?_; refine gl_store tab_ok rfl rfl rfl rfl rfl rfl rfl c_one rfl c_ku ?_)
      | (refine gl_any0 ?_; refine gl_pure tab_ok rfl rfl rfl rfl rfl rfl ?_))
    | (refine gc_gate ?_; first
      | refine gc_seq ?_
      | refine gc_region ?_
      | (refine gc_cond rfl ?_ ?_ <;> intro h_ <;> have hd_ := h_ <;> (try simp only [bytes_beq, cell_beq, val_beq, stamp_beq, decide_eq_true_eq, decide_eq_false_iff_not, Bool.and_eq_true, Bool.or_eq_true, Bool.or_eq_false_iff, Bool.not_eq_true', Bool.not_eq_false', Bool.not_true, Bool.not_false, Bool.false_or, Bool.true_and, Bool.and_true, Bool.or_false, beq_iff_eq, bne_iff_ne, beq_eq_false_iff_ne, bne_eq_false_iff_eq, ne_eq, Bool.false_eq_true, reduceCtorEq] at hd_) <;> (try (exfalso; omega)))
      | refine gc_block ?_
      | refine gc_exit ?_
      | refine gc_ret ?_
      | refine gc_skip ?_)
    | (refine ge_gate ?_; first
      | ((with_reducible refine ge_gT ?_); first | with_reducible refine ge_then ?_ | with_reducible refine ge_then_exit ?_ | with_reducible refine ge_then_ret ?_)
      | ((with_reducible refine ge_gK ?_); first | with_reducible refine ge_block ?_ | refine ge_block_exit ?_ | refine ge_block_pass rfl ?_ | with_reducible refine ge_block_ret ?_)
      | ((with_reducible refine ge_gB ?_); first | refine ge_ret1 tab_ok rfl c_rvt ?_ | refine ge_end1 tab_ok rfl c_rvt ?_ | refine ge_ret2 tab_ok rfl c_rvt c_rvt ?_ | refine ge_ret_none rfl ?_ | refine ge_end_none rfl ?_))
  · refine ge_round (i + 1, mset m (l.getD i default).cell (l.getD i default), es2, clock2) ⟨by omega, hm2, fun c => ?_, ?_⟩ (by show n - (i + 1) < n - i; omega) c_frs (List.Sublist.cons _ (List.Sublist.refl _))
    · show lkM (mset m (l.getD i default).cell (l.getD i default)) c = lkE (lastR (l.take (i + 1))) c
      rw [lkM_mset, lkE_last l i (by omega), hlk]
    · have := mset_lenM m (l.getD i default).cell (l.getD i default)
      show (mset m (l.getD i default).cell (l.getD i default)).length ≤ i + 1
      omega
  · intro W hW
    have h1 : i = l.length := by omega
    rw [h1, List.take_length] at hlk
    exact ⟨(g2_, m, es1, clock1), rfl, ⟨hm1, hlk, by show m.length ≤ n; omega⟩, hW⟩
theorem ct_SortedE {m : List (Cell × En)} {g clock : Nat} {es : Array MapEntry} {w : World} (hb : w.heap[g]? = some (.map es clock)) (hm : Mp kCell vE m es clock) (hlen : m.length ≤ 1000000000) : Calls Try.prog 179 #[.map (some g)] w (RetOw w m.length 3 (cat Cell.l (sortC (m.map (·.1)))) 25) := by
  refine enter (args := [_]) (M := []) (K := []) Try.func179 rfl Try.ntmps179 rfl (St.refl _ _) ?_
  refine gc_old hb (by simp) (by simp) ?_
  repeat' first
    | (refine gl_gate ?_; first
      | refine gl_nil ?_
      | (refine gl_any0 ?_; (refine gl_ev (ev_range tab_ok rfl rfl rfl rfl c_mem ?_) rfl rfl; intro r_ hr_))
      | (refine gl_any0 ?_; refine gl_pure tab_ok rfl rfl rfl rfl rfl rfl ?_))
    | (refine gc_gate ?_; first
      | refine gc_seq ?_
      | refine gc_region ?_
      | refine gc_block ?_)
    | (refine ge_gate ?_; first
      | ((with_reducible refine ge_gT ?_); first | with_reducible refine ge_then ?_ | with_reducible refine ge_then_exit ?_ | with_reducible refine ge_then_ret ?_))
  refine gc_loop (α := List (Cell × En) × Array Nat × Option Nat × Nat × List Value) (fun x => [(2, true, .slice none 0 0), (3, true, .slice (x.2.2.1.map ad) x.1.length x.2.2.2.1), (6, true, .pointer (some ⟨r_, 0, none⟩))])
    (fun x => ow x.2.2.1 true (cat Cell.l (x.1.map (·.1)) ++ x.2.2.2.2) 25 ++ [(r_, true, .mapIter (some g) clock x.2.1 clock), (g, false, .map es clock)]) (fun x => Rng m es x.2.1 x.1 ∧ Ow x.2.2.1 x.1.length x.2.2.2.1 3 (cat Cell.l (x.1.map (·.1))) x.2.2.2.2 ∧ x.1.length ≤ m.length) (fun x => m.length - x.1.length) ([], #[], none, 0, []) c_frs (List.Sublist.refl _) ⟨Rng.start, Ow.none0, Nat.zero_le _⟩ ?_
  rintro ⟨out, seen, q, c, sp⟩ ⟨hs, ho, hl⟩
  dsimp only at hs ho hl ⊢
  repeat' first
    | refine gl_ev (ev_next rfl rfl rfl c_mem c_mem hm hs (fun hp_ => ?_) (fun y_ seen_ y1_ y2_ y3_ y4_ => ⟨_, c_ku, ?_⟩)) rfl rfl
    | refine gl_yv (yv_entry (gok_none rfl) rfl rfl (fun _ => rfl) c_mem c_mem hm y4_) rfl rfl ?_
    | (refine gl_gate ?_; first
      | refine gl_nil ?_
      | (refine gl_load0 ?_; refine gl_yv (yv_load tab_ok (gok_none rfl) rfl rfl (fun _ => rfl) c_mem (fun _ => c_lds)) rfl rfl ?_)
      | (refine gl_app0 ?_; (refine gl_ev (ev_append tab_ok rfl rfl rfl rfl rfl rfl rfl rfl c_oa (ho) (c_src) c_lim c_lim ?_) rfl rfl; intro p_ c_ sp_ hw_))
      | (refine gl_bld0 ?_; (refine gl_ev (ev_buildSlice tab_ok rfl rfl rfl rfl rfl rfl rfl rfl rfl rfl ?_) rfl rfl; intro g_ hg_))
      | (refine gl_alc0 ?_; (refine gl_alloc tab_ok rfl rfl rfl rfl rfl ?_; intro g_ hg_))
      | (refine gl_sto0 ?_; refine gl_store tab_ok rfl rfl rfl rfl rfl rfl rfl c_one rfl c_ku ?_)
      | (refine gl_any0 ?_; refine gl_pure tab_ok rfl rfl rfl rfl rfl rfl ?_))
    | (refine gc_gate ?_; first
      | refine gc_seq ?_
      | refine gc_region ?_
      | refine gc_true rfl ?_
      | refine gc_false rfl ?_
      | refine gc_block ?_
      | refine gc_exit ?_
      | refine gc_skip ?_)
    | (refine ge_gate ?_; first
      | ((with_reducible refine ge_gT ?_); first | with_reducible refine ge_then ?_ | with_reducible refine ge_then_exit ?_ | with_reducible refine ge_then_ret ?_)
      | ((with_reducible refine ge_gK ?_); first | with_reducible refine ge_block ?_ | refine ge_block_exit ?_ | refine ge_block_pass rfl ?_ | with_reducible refine ge_block_ret ?_))
  · have hkeys : (out.map (·.1)).Nodup := (hp_.map (·.1)).nodup_iff.2 hm.keys
    have hsort : sortC (out.map (·.1)) = sortC (m.map (·.1)) := sortC_of_perm hkeys (hp_.map (·.1))
    have hlen2 := hp_.length_eq
    rcases q with _ | g2
    · have h1 := ho.nil rfl
      have h2 := ho.le
      have h3 : out = [] := List.eq_nil_of_length_eq_zero (by omega)
      subst h3
      have h4 : m = [] := List.eq_nil_of_length_eq_zero (by simpa using hlen2.symm)
      subst h4
      repeat' first
        | (refine gl_gate ?_; first
          | refine gl_nil ?_
          | (refine gl_calv0 ?_; first | refine gl_yd (yd_call (gok_none rfl) rfl ent207 rfl rfl (fun _ => allT_of rfl) (fun _ W hW => ct_sortNone c none _ W)) rfl rfl ?_)
          | (refine gl_any0 ?_; refine gl_pure tab_ok rfl rfl rfl rfl rfl rfl ?_))
        | (refine gc_gate ?_; first
          | refine gc_seq ?_
          | refine gc_region ?_
          | refine gc_ret ?_)
        | (refine ge_gate ?_; first
          | ((with_reducible refine ge_gT ?_); first | with_reducible refine ge_then ?_ | with_reducible refine ge_then_exit ?_ | with_reducible refine ge_then_ret ?_)
          | ((with_reducible refine ge_gB ?_); first | refine ge_ret1 tab_ok rfl c_rvt ?_ | refine ge_end1 tab_ok rfl c_rvt ?_ | refine ge_ret2 tab_ok rfl c_rvt c_rvt ?_ | refine ge_ret_none rfl ?_ | refine ge_end_none rfl ?_))
      intro W hW
      subst h1
      have h5 : sp = [] := List.eq_nil_of_length_eq_zero (by have := ho.room; simpa using this)
      subst h5
      exact ⟨none, 0, [], rfl, ⟨by simp [sortC, cat], rfl, Nat.le_refl _, fun _ => rfl⟩, hW.drop (List.nil_sublist _)⟩
    · refine gl_ev (ev_callG (val := fun _ : Unit => .tuple #[]) (ob := fun _ => .cells (cat Cell.l (sortC (out.map (·.1))) ++ sp).toArray 25 (0, 0)) (φ := fun _ => True) (g := g2) (o1 := .cells (cat Cell.l (out.map (·.1)) ++ sp).toArray 25 (0, 0)) rfl rfl ent207 rfl rfl rfl (fun W hW => ?_) (fun x hx => ⟨_, c_ku, ?_⟩)) rfl rfl
      · have := ct_sortCells (g := g2) (c := c) (xs := out.map (·.1)) (sp := sp) (w := W) (hW.kn (wr := true) c_mem) (by rw [List.length_map]; omega)
        rw [List.length_map] at this
        exact this
      repeat' first
        | (refine gl_gate ?_; first
          | refine gl_nil ?_
          | (refine gl_any0 ?_; refine gl_pure tab_ok rfl rfl rfl rfl rfl rfl ?_))
        | (refine gc_gate ?_; first
          | refine gc_seq ?_
          | refine gc_region ?_
          | refine gc_ret ?_)
        | (refine ge_gate ?_; first
          | ((with_reducible refine ge_gT ?_); first | with_reducible refine ge_then ?_ | with_reducible refine ge_then_exit ?_ | with_reducible refine ge_then_ret ?_)
          | ((with_reducible refine ge_gB ?_); first | refine ge_ret1 tab_ok rfl c_rvt ?_ | refine ge_end1 tab_ok rfl c_rvt ?_ | refine ge_ret2 tab_ok rfl c_rvt c_rvt ?_ | refine ge_ret_none rfl ?_ | refine ge_end_none rfl ?_))
      intro W hW
      rw [← hlen2, ← hsort]
      refine ⟨some g2, c, sp, rfl, ⟨by rw [rep3, sortC_length, List.length_map], ho.room, ho.le, ho.nil⟩, hW.drop (List.Sublist.cons_cons _ (List.nil_sublist _))⟩
  · refine ge_round (out ++ [y_], seen_, p_, c_, sp_) ⟨y4_, ?_, by rw [List.length_append]; exact y3_⟩ (by show m.length - (out ++ [y_]).length < m.length - out.length; rw [List.length_append]; simp; omega) ?_ ?_
    · show Ow p_ (out ++ [y_]).length c_ 3 (cat Cell.l ((out ++ [y_]).map (·.1))) sp_
      rw [List.length_append, List.map_append, cat_append]
      exact hw_
    · dsimp only
      rw [List.length_append]
      exact c_frs
    · dsimp only
      rw [List.map_append, cat_append]
      exact List.Sublist.append (List.Sublist.refl _) (List.Sublist.cons _ (List.Sublist.cons _ (List.Sublist.refl _)))
/-- The map's cells, in order, are the entries'. -/
theorem keys_dC {l : List En} {m : List (Cell × En)} (hk : (m.map (·.1)).Nodup) (h : ∀ c, lkM m c = lkE (lastR l) c) : sortC (m.map (·.1)) = dC l :=
  cLt_unique (sortC_lt hk) (dC_lt l) fun c => by
    rw [sortC_mem]
    have h1 := h c
    have h2 := @lkM_none _ _ _ m c
    have h3 := @lkE_none (lastR l) c
    unfold dC
    rw [h1] at h2
    rw [h2] at h3
    exact ⟨fun h4 => Classical.byContradiction fun h5 => (h3.2 h5) h4, fun h4 => Classical.byContradiction fun h5 => (h3.1 h5) h4⟩
end Go.Proofs.Ytkgjfcjciigcgaa
