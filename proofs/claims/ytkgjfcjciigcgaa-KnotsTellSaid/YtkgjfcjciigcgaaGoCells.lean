/-
  refs.Cells and refs.Reads: the cells that a formula reads, in order.
-/
import Derived.Test.YtkgjfcjciigcgaaGoSorted
namespace Go.Proofs.Ytkgjfcjciigcgaa
open Go.Proofs.Ytkgjfcjciigcgaa.Sl Go.RowKit
set_option linter.unusedVariables false
set_option linter.unusedSimpArgs false
set_option maxRecDepth 100000

theorem mset_len {κ ν : Type} [DecidableEq κ] (m : List (κ × ν)) (k : κ) (v : ν) : (mset m k v).length ≤ m.length + 1 := by
  unfold mset
  split <;> simp
theorem addAll_len : ∀ (l : List Cell) (m : List (Cell × Bool)), (addAll l m).length ≤ m.length + l.length
  | [], m => by simp [addAll]
  | c :: r, m => by
    have h1 := addAll_len r (mset m c true)
    have h2 := mset_len m c true
    show (addAll r (mset m c true)).length ≤ _
    simp only [List.length_cons]
    omega
theorem readN_len (t : Node) : ∀ m, (readN t m).length ≤ m.length + 400 * t.count := by
  induction t using Node.ind with
  | h t ih =>
  intro m
  rw [readN_eq, Node.count_eq]
  have h1 := addAll_len (own t) m
  have h2 := own_small t
  have key : ∀ (l : List Node), (∀ x ∈ l, x ∈ t.kids) → ∀ m, (readL l m).length ≤ m.length + 400 * Node.countL l := by
    intro l
    induction l with
    | nil => intro _ m; simp [readL]
    | cons k ks ihl =>
      intro hk m
      rw [readL, Node.countL]
      have h3 := ih k (hk k (by simp)) m
      have h4 := ihl (fun x hx => hk x (by simp [hx])) (readN k m)
      omega
  have h5 := key t.kids (fun x hx => hx) (addAll (own t) m)
  omega
def cellsT (t : Node) : List Cell := sortC ((readN t []).map (·.1))
theorem cellsT_len (t : Node) : (cellsT t).length ≤ 400 * t.count := by
  unfold cellsT
  rw [sortC_length, List.length_map]
  simpa using readN_len t []
theorem ct_Cells {S : Nat → Prop} (t : Node) (p : Option Addr) (c : Nat) (w : World) (hR : NodeR S w t p) (hc : t.count ≤ 1000000) : Calls Try.prog 90 #[.agg (t.l p c).toArray] w (RetOw w (cellsT t).length 3 (cat Cell.l (cellsT t)) 25) := by
  have hlen := readN_len t []
  simp only [List.length_nil, Nat.zero_add] at hlen
  refine enter (args := [_]) (M := []) (K := []) Try.func90 rfl Try.ntmps90 rfl (St.refl _ _) ?_
  repeat' first
    | refine gl_ev (ev_makeMap rfl rfl ?_) rfl rfl; intro g1_ hg1_
    | (refine gl_gate ?_; first
      | refine gl_nil ?_
      | (refine gl_load0 ?_; refine gl_yv (yv_load tab_ok (gok_none rfl) rfl rfl (fun _ => rfl) c_mem (fun _ => c_lds)) rfl rfl ?_)
      | (refine gl_box0 ?_; first | (refine gl_box_agg rfl rfl rfl rfl rfl ?_; intro g_ hg_) | (refine gl_box_one rfl rfl rfl rfl rfl rfl ?_; intro g_ hg_) | (refine gl_box rfl rfl rfl rfl rfl ?_; intro g_ hg_))
      | (refine gl_any0 ?_; refine gl_pure tab_ok rfl rfl rfl rfl rfl rfl ?_))
    | (refine gc_gate ?_; first
      | refine gc_seq ?_
      | refine gc_region ?_)
    | (refine ge_gate ?_; first
      | ((with_reducible refine ge_gT ?_); first | with_reducible refine ge_then ?_ | with_reducible refine ge_then_exit ?_ | with_reducible refine ge_then_ret ?_))
  · refine gl_ev (ev_callG (val := fun _ : Array MapEntry × Nat => .tuple #[]) (ob := fun x => .map x.1 x.2) (φ := fun x => Mp kCell vB (readN t []) x.1 x.2) (g := g1_) (o1 := .map #[] 0) rfl rfl ent167 rfl rfl rfl (fun W hW => ct_read (S := fun b => b < w.heap.size) t p c g1_ [] #[] 0 W (hR.mono (fun b _ h => h) (fun b _ h => hW.frame b h (by simp))) hc (fun b hb => by omega) (hW.kn (wr := true) c_mem) Mp.nil) (fun x hx => ⟨_, c_ku, ?_⟩)) rfl rfl
    repeat' first
      | (refine gl_gate ?_; first
        | refine gl_nil ?_
        | (refine gl_any0 ?_; (refine gl_ev (ev_callOw rfl rfl ent168 rfl rfl rfl (fun W hW => ct_Sorted (hW.kn (wr := true) c_mem) hx (by omega)) ?_) rfl rfl; intro q_ c_ sp_ hw_))
        | (refine gl_any0 ?_; refine gl_pure tab_ok rfl rfl rfl rfl rfl rfl ?_))
      | (refine gc_gate ?_; first
        | refine gc_seq ?_
        | refine gc_region ?_
        | refine gc_ret ?_)
      | (refine ge_gate ?_; first
        | ((with_reducible refine ge_gT ?_); first | with_reducible refine ge_then ?_ | with_reducible refine ge_then_exit ?_ | with_reducible refine ge_then_ret ?_)
        | ((with_reducible refine ge_gB ?_); first | refine ge_ret1 tab_ok rfl c_rvt ?_ | refine ge_end1 tab_ok rfl c_rvt ?_ | refine ge_ret2 tab_ok rfl c_rvt c_rvt ?_ | refine ge_ret_none rfl ?_ | refine ge_end_none rfl ?_))
    intro W hW
    have e : (cellsT t).length = (readN t []).length := by unfold cellsT; rw [sortC_length, List.length_map]
    rw [e]
    exact ⟨q_, c_, sp_, rfl, hw_, hW.drop (List.sublist_append_left _ _)⟩
def idxN (c : Cell) : List Cell → Nat → Int
  | [], _ => -1
  | x :: r, i => if c = x then (i : Int) else idxN c r (i + 1)
theorem idxN_drop (c : Cell) (l : List Cell) : ∀ i, i ≤ l.length → c ∉ l.take i → idxN c l 0 = idxN c (l.drop i) i
  | 0, _, _ => by simp
  | i + 1, hi, h => by
    rw [take_succD l i (by omega)] at h
    simp only [List.mem_append, List.mem_singleton, not_or] at h
    rw [idxN_drop c l i (by omega) h.1, drop_consD l i (by omega), idxN, if_neg h.2]
theorem idxN_mem (c : Cell) : ∀ (l : List Cell) (i : Nat), 0 ≤ idxN c l i ↔ c ∈ l
  | [], i => by simp [idxN]
  | x :: r, i => by
    unfold idxN
    split
    · rename_i h; simp [h]
    · rename_i h; rw [idxN_mem c r]; simp [h]
theorem ct_IndexC (w : World) (l : List Cell) (c : Cell) (p : Option Addr) (n cap : Nat) (hn : n = l.length) (hs : SlA w 3 p n (fun i => (l.getD i default).l)) (hl : n ≤ 4611686018427387904) : Calls Try.prog 209 #[.slice p n cap, .agg c.l.toArray] w fun e w' => e = .returned (.int .i64 (idxN c l 0)) ∧ Bl w w' := by
  refine enter (args := [_, _]) (M := []) (K := []) Try.func209 rfl Try.ntmps209 rfl (St.refl _ _) ?_
  repeat' first
    | (refine gl_gate ?_; first
      | refine gl_nil ?_
      | (refine gl_box0 ?_; first | (refine gl_box_agg rfl rfl rfl rfl rfl ?_; intro g_ hg_) | (refine gl_box_one rfl rfl rfl rfl rfl rfl ?_; intro g_ hg_) | (refine gl_box rfl rfl rfl rfl rfl ?_; intro g_ hg_))
      | (refine gl_any0 ?_; refine gl_pure tab_ok rfl rfl rfl rfl rfl rfl ?_))
    | (refine gc_gate ?_; first
      | refine gc_seq ?_
      | refine gc_region ?_
      | refine gc_block ?_)
    | (refine ge_gate ?_; first
      | ((with_reducible refine ge_gT ?_); first | with_reducible refine ge_then ?_ | with_reducible refine ge_then_exit ?_ | with_reducible refine ge_then_ret ?_))
  refine gc_loop (α := Nat) (fun i => [(0, true, .slice p n cap), (3, true, .pointer (some ⟨g_, 0, none⟩)), (7, true, .int .i64 n), (8, true, .int .i64 (i : Int))]) (fun _ => [(g_, true, .cells c.l.toArray 25 (0, 0))]) (fun i => i ≤ n ∧ c ∉ l.take i) (fun i => n - i) 0 c_frs c_sub ⟨Nat.zero_le _, by simp⟩ ?_
  rintro i ⟨hi, he⟩
  repeat' first
    | (refine gl_gate ?_; first
      | refine gl_nil ?_
      | (refine gl_add0 ?_; refine gl_yv (yv_add tab_ok (gok_none rfl) rfl rfl rfl rfl (fun _ => allT_of rfl) (by intro _; omega)) rfl rfl ?_)
      | (refine gl_any0 ?_; refine gl_pure tab_ok rfl rfl rfl rfl rfl rfl ?_))
    | (refine gc_gate ?_; first
      | refine gc_seq ?_
      | refine gc_region ?_
      | refine gc_quietRo rfl mixed (by decide +kernel) ?_
      | (refine gc_cond rfl ?_ ?_ <;> intro h_ <;> have hd_ := h_ <;> (try simp only [bytes_beq, cell_beq, val_beq, stamp_beq, decide_eq_true_eq, decide_eq_false_iff_not, Bool.and_eq_true, Bool.or_eq_true, Bool.or_eq_false_iff, Bool.not_eq_true', Bool.not_eq_false', Bool.not_true, Bool.not_false, Bool.false_or, Bool.true_and, Bool.and_true, Bool.or_false, beq_iff_eq, bne_iff_ne, beq_eq_false_iff_ne, bne_eq_false_iff_eq, ne_eq, Bool.false_eq_true, reduceCtorEq] at hd_) <;> (try (exfalso; omega)))
      | refine gc_block ?_
      | refine gc_exit ?_
      | refine gc_ret ?_
      | refine gc_skip ?_)
    | (refine ge_gate ?_; first
      | ((with_reducible refine ge_gT ?_); first | with_reducible refine ge_then ?_ | with_reducible refine ge_then_exit ?_ | with_reducible refine ge_then_ret ?_)
      | ((with_reducible refine ge_gK ?_); first | with_reducible refine ge_block ?_ | refine ge_block_exit ?_ | refine ge_block_pass rfl ?_ | with_reducible refine ge_block_ret ?_)
      | ((with_reducible refine ge_gB ?_); first | refine ge_ret1 tab_ok rfl c_rvt ?_ | refine ge_end1 tab_ok rfl c_rvt ?_ | refine ge_ret2 tab_ok rfl c_rvt c_rvt ?_ | refine ge_ret_none rfl ?_ | refine ge_end_none rfl ?_))
    | (refine gq_gate ?_; first
      | refine gq_nil ?_
      | (refine gq_load0 ?_; refine gq_yv (yv_load tab_ok (gok_none rfl) rfl rfl (fun _ => rfl) c_mem (fun _ => c_lds)) rfl rfl ?_)
      | (refine gq_idx0 ?_; refine gq_yv (yv_idxA tab_ok hs (gok_none rfl) rfl rfl rfl rfl rfl rfl (fun _ => rfl) (fun _ => rfl) c_bnd) rfl rfl ?_)
      | (refine gq_load0 ?_; refine gq_yv (yv_ldA0 tab_ok hs c_nm (gok_none rfl) rfl rfl (fun _ => rfl) c_bnd (fun _ => c_lds)) rfl rfl ?_)
      | (refine gq_any0 ?_; refine gq_pure tab_ok rfl rfl rfl rfl rfl rfl ?_)
      | (refine gq_eqS ?_; first | refine gq_yv (yv_eqS tab_ok eqs_ok c_gok rfl rfl rfl rfl c_allT rfl rfl rfl) rfl rfl ?_))
  · intro W hW
    refine ⟨?_, hW.below0⟩
    rw [idxN_drop c l i (by omega) he, drop_consD l i (by omega), idxN, if_pos hd_]
  · refine ge_round (i + 1) ⟨by omega, ?_⟩ (by omega) c_frs c_sub
    rw [take_succD l i (by omega)]
    simp only [List.mem_append, List.mem_singleton, not_or]
    exact ⟨he, hd_⟩
  · intro W hW
    refine ⟨?_, hW.below0⟩
    have h1 : i = l.length := by omega
    rw [idxN_drop c l i (by omega) he, h1, List.drop_length, idxN]
theorem ct_ContainsC (w : World) (l : List Cell) (c : Cell) (p : Option Addr) (n cap : Nat) (hn : n = l.length) (hs : SlA w 3 p n (fun i => (l.getD i default).l)) (hl : n ≤ 4611686018427387904) : Calls Try.prog 169 #[.slice p n cap, .agg c.l.toArray] w fun e w' => e = .returned (.bool (decide (c ∈ l))) ∧ Bl w w' := by
  refine enter (args := [_, _]) (M := []) (K := []) Try.func169 rfl Try.ntmps169 rfl (St.refl _ _) ?_
  repeat' first
    | (refine gl_gate ?_; first
      | refine gl_nil ?_
      | (refine gl_load0 ?_; refine gl_yv (yv_load tab_ok (gok_none rfl) rfl rfl (fun _ => rfl) c_mem (fun _ => c_lds)) rfl rfl ?_)
      | (refine gl_calv0 ?_; first | refine gl_yd (yd_call (gok_none rfl) rfl ent209 rfl rfl (fun _ => allT_of rfl) (fun _ W hW => ct_IndexC W l c p n cap hn (hs.st hW) hl)) rfl rfl ?_)
      | (refine gl_box0 ?_; first | (refine gl_box_agg rfl rfl rfl rfl rfl ?_; intro g_ hg_) | (refine gl_box_one rfl rfl rfl rfl rfl rfl ?_; intro g_ hg_) | (refine gl_box rfl rfl rfl rfl rfl ?_; intro g_ hg_))
      | (refine gl_any0 ?_; refine gl_pure tab_ok rfl rfl rfl rfl rfl rfl ?_))
    | (refine gc_gate ?_; first
      | refine gc_seq ?_
      | refine gc_region ?_
      | refine gc_ret ?_)
    | (refine ge_gate ?_; first
      | ((with_reducible refine ge_gT ?_); first | with_reducible refine ge_then ?_ | with_reducible refine ge_then_exit ?_ | with_reducible refine ge_then_ret ?_)
      | ((with_reducible refine ge_gB ?_); first | refine ge_ret1 tab_ok rfl c_rvt ?_ | refine ge_end1 tab_ok rfl c_rvt ?_ | refine ge_ret2 tab_ok rfl c_rvt c_rvt ?_ | refine ge_ret_none rfl ?_ | refine ge_end_none rfl ?_))
  intro W hW
  refine ⟨?_, hW.below0⟩
  rw [show decide (idxN c l 0 ≥ 0) = decide (c ∈ l) by rw [decide_eq_decide]; exact idxN_mem c l 0]
theorem ct_Reads {S : Nat → Prop} (t : Node) (p : Option Addr) (c : Nat) (d : Cell) (w : World) (hR : NodeR S w t p) (hc : t.count ≤ 1000000) : Calls Try.prog 92 #[.agg (t.l p c).toArray, .agg d.l.toArray] w fun e w' => e = .returned (.bool (decide (d ∈ cellsT t))) ∧ Bl w w' := by
  have hlen := cellsT_len t
  refine enter (args := [_, _]) (M := []) (K := []) Try.func92 rfl Try.ntmps92 rfl (St.refl _ _) ?_
  repeat' first
    | (refine gl_gate ?_; first
      | refine gl_nil ?_
      | (refine gl_box0 ?_; first | (refine gl_box_agg rfl rfl rfl rfl rfl ?_; intro g_ hg_) | (refine gl_box_one rfl rfl rfl rfl rfl rfl ?_; intro g_ hg_) | (refine gl_box rfl rfl rfl rfl rfl ?_; intro g_ hg_))
      | (refine gl_any0 ?_; refine gl_pure tab_ok rfl rfl rfl rfl rfl rfl ?_))
    | (refine gc_gate ?_; first
      | refine gc_seq ?_
      | refine gc_region ?_)
    | (refine ge_gate ?_; first
      | ((with_reducible refine ge_gT ?_); first | with_reducible refine ge_then ?_ | with_reducible refine ge_then_exit ?_ | with_reducible refine ge_then_ret ?_))
  refine gp_start [] #[false, false, false, false, false] mixed rfl rfl c_qp ?_; intro hqp_
  refine gp_take 0 #[true, false, false, false, false] hqp_ rfl (by kernel_rfl) (yv_load tab_ok c_gok rfl rfl c_imp c_mem (fun _ => c_lds)) c_cl rfl rfl ?_
  refine gp_take 2 #[true, false, true, false, false] hqp_ rfl (by kernel_rfl) (yv_load tab_ok c_gok rfl rfl c_imp c_mem (fun _ => c_lds)) c_cl rfl rfl ?_
  (refine gp_ev 1 #[true, true, true, false, false] rfl (by kernel_rfl) rfl rfl rfl (ev_callOw rfl rfl ent90 rfl rfl rfl (fun W hW => ct_Cells t p c W (hR.st hW) hc) ?_); intro p_ c_ sp_ hw_; refine ⟨c_cl, ?_⟩)
  refine gp_ev 3 #[true, true, true, true, false] rfl (by kernel_rfl) rfl rfl rfl (ev_callq rfl rfl ent169 rfl rfl rfl (fun W hW => ct_ContainsC W (cellsT t) d _ _ _ rfl (slA_cat len_cell rfl hW c_oa (by assumption)) (by omega)) ⟨c_cl, ?_⟩)
  refine gp_take 4 #[true, true, true, true, true] hqp_ rfl (by kernel_rfl) (yv_pure tab_ok c_gok rfl rfl c_allT) c_cl rfl rfl ?_
  refine gp_done (by kernel_rfl) ?_; clear hqp_
  repeat' first
    | (refine gc_gate ?_; first
      | refine gc_ret ?_)
    | (refine ge_gate ?_; first
      | ((with_reducible refine ge_gT ?_); first | with_reducible refine ge_then ?_ | with_reducible refine ge_then_exit ?_ | with_reducible refine ge_then_ret ?_)
      | ((with_reducible refine ge_gB ?_); first | refine ge_ret1 tab_ok rfl c_rvt ?_ | refine ge_end1 tab_ok rfl c_rvt ?_ | refine ge_ret2 tab_ok rfl c_rvt c_rvt ?_ | refine ge_ret_none rfl ?_ | refine ge_end_none rfl ?_))
  intro W hW
  exact ⟨rfl, hW.below0⟩
end Go.Proofs.Ytkgjfcjciigcgaa
