/-
  abacistref1.Rename, abacistref1.Remove: what each answers.
-/
import Derived.Test.YtkgjfcjciigcgaaGoRewrite
namespace Go.Proofs.Ytkgjfcjciigcgaa
open Go.Proofs.Ytkgjfcjciigcgaa.Sl Go.RowKit
set_option linter.unusedVariables false
set_option linter.unusedSimpArgs false
set_option maxRecDepth 100000

theorem wrs_ow (q : Option Nat) (cs : List Value) (e : TypeId) (K : Kl) : wrs (ow q true cs e ++ K) = q.toList ++ wrs K := by cases q <;> rfl
theorem not_wrs_ow {q : Option Nat} {cs : List Value} {e : TypeId} {K : Kl} {b : Nat} (h1 : q ≠ some b) (h2 : b ∉ wrs K) : b ∉ wrs (ow q true cs e ++ K) := by
  rw [wrs_ow]
  cases q with
  | none => simpa using h2
  | some g =>
    simp only [Option.toList, List.singleton_append, List.mem_cons, not_or]
    exact ⟨fun h => h1 (by rw [h]), h2⟩
/-- What lies beside K's blocks, and is old, is not what K' holds as its own. -/
theorem own_ne {W W' : World} {M : List Nat} {K' : Kl} {q : Option Nat} {cs : List Value} {e : TypeId} {b : Nat} (hW : St W M (ow q true cs e ++ K') W') (h1 : b < W.heap.size) (h2 : b ∉ M) : q ≠ some b := by
  intro h
  subst h
  rcases hW.wr (b, true, .cells cs.toArray e (0, 0)) (by simp [ow]) rfl with h | h
  · simp at h; omega
  · exact h2 h
theorem ow_ge {w W : World} {q : Option Nat} {cs : List Value} {e : TypeId} {K : Kl} {g : Nat} (h : St w [] (ow q true cs e ++ K) W) (hq : q = some g) : w.heap.size ≤ g := by
  subst hq
  have := h.wr (g, true, .cells cs.toArray e (0, 0)) (by simp [ow]) rfl
  simpa using this
/-- It answers a slice of formulas, all in new blocks. -/
def RetNodes (w : World) (n : Nat) (nd : Nat → Node) (e : Ending) (w' : World) : Prop :=
  ∃ x : NRet, e = .returned (.slice (x.q.map ad) n x.c) ∧ (Ow x.q n x.c 13 (nodesL n nd x.kp x.kc).flatten x.sp ∧ ∀ i, i < n → NodeR (fun b => w.heap.size ≤ b ∧ x.q ≠ some b) w' (nd i) (x.kp i)) ∧ St w [] (ow x.q true ((nodesL n nd x.kp x.kc).flatten ++ x.sp) 28) w'
theorem nodesL_snoc {i : Nat} {nd : Nat → Node} {kp : Nat → Option Addr} {kc : Nat → Nat} {p : Option Addr} {c : Nat} : (nodesL (i + 1) nd (fun j => if j = i then p else kp j) (fun j => if j = i then c else kc j)).flatten = (nodesL i nd kp kc).flatten ++ (nd i).l p c := by
  unfold nodesL
  rw [elems_succ, flat_snoc]
  congr 1
  · congr 1
    exact elems_congr fun j hj => by simp [show ¬ j = i by omega]
  · simp

theorem ct_kidsF {S : Nat → Prop} (t : Node) (f u : ByteArray) (p : Option Addr) (c : Nat) (w : World) (hR : NodeR S w t p) (hc : t.count ≤ 1000000)
    (ih : ∀ x ∈ t.kids, ∀ (p : Option Addr) (c : Nat) (w : World) (S : Nat → Prop), NodeR S w x p → x.count ≤ 1000000 → Calls Try.prog 36 #[.agg (x.l p c).toArray, .string f, .string u] w (RetNodeR w (x.ren f u))) :
    Calls Try.prog 137 #[.agg (t.l p c).toArray, .bool false, .string f, .string u] w (RetNodes w t.kids.length (fun i => (t.kids.getD i default).ren f u)) := by
  cases hR with
  | @mk _ _ kp kc hs hS hk =>
  have hkl := t.kids_len
  refine enter (args := [_, _, _, _]) (M := []) (K := []) Try.func137 rfl Try.ntmps137 rfl (St.refl _ _) ?_
  repeat' first
    | (refine gl_gate ?_; first
      | refine gl_nil ?_
      | (refine gl_load0 ?_; refine gl_yv (yv_load tab_ok (gok_none rfl) rfl rfl (fun _ => rfl) c_mem (fun _ => c_lds)) rfl rfl ?_)
      | (refine gl_add0 ?_; refine gl_yv (yv_add tab_ok (gok_none rfl) rfl rfl rfl rfl (fun _ => allT_of rfl) (by intro _; omega)) rfl rfl ?_)
      | (refine gl_sub0 ?_; refine gl_yv (yv_sub tab_ok (gok_none rfl) rfl rfl rfl rfl (fun _ => allT_of rfl) (by intro _; omega)) rfl rfl ?_)
      | (refine gl_idx0 ?_; refine gl_yv (yv_idxC tab_ok (gok_none rfl) rfl rfl rfl rfl rfl (fun _ => rfl) (fun _ => rfl) c_bnd) rfl rfl ?_)
      | (refine gl_bld0 ?_; (refine gl_ev (ev_buildSlice tab_ok rfl rfl rfl rfl rfl rfl rfl rfl rfl rfl ?_) rfl rfl; intro g_ hg_))
      | (refine gl_mul0 ?_; refine gl_yv (yv_mul tab_ok (gok_none rfl) rfl rfl rfl rfl (fun _ => allT_of rfl) c_bnd) rfl rfl ?_)
      | (refine gl_pick0 ?_; first | refine gl_yv (yv_and (gok_none rfl) rfl rfl rfl (fun _ => rfl) c_imp2) rfl rfl ?_ | refine gl_yv (yv_or (gok_none rfl) rfl rfl rfl (fun _ => rfl) c_imp2) rfl rfl ?_)
      | (refine gl_idx0 ?_; refine gl_yv (yv_indexAddr tab_ok (gok_none rfl) rfl rfl rfl rfl rfl (fun _ => rfl) (fun _ => rfl) (by intro _; omega)) rfl rfl ?_)
      | (refine gl_addG ?_; refine gl_yv (yv_add tab_ok c_gok rfl rfl rfl rfl c_allT c_bnd) rfl rfl ?_)
      | (refine gl_subG ?_; refine gl_yv (yv_sub tab_ok c_gok rfl rfl rfl rfl c_allT c_bnd) rfl rfl ?_)
      | (refine gl_loadG ?_; refine gl_yv (yv_load tab_ok c_gok rfl rfl c_imp c_mem (fun _ => c_lds)) rfl rfl ?_)
      | (refine gl_pickG ?_; first | refine gl_yv (yv_and c_gok rfl rfl rfl c_imp c_imp2) rfl rfl ?_ | refine gl_yv (yv_or c_gok rfl rfl rfl c_imp c_imp2) rfl rfl ?_)
      | (refine gl_idxG ?_; refine gl_yv (yv_indexAddr tab_ok c_gok rfl rfl rfl rfl rfl c_imp c_imp c_bnd) rfl rfl ?_)
      | (refine gl_box0 ?_; first | (refine gl_box_agg rfl rfl rfl rfl rfl ?_; intro g_ hg_) | (refine gl_box_one rfl rfl rfl rfl rfl rfl ?_; intro g_ hg_) | (refine gl_box rfl rfl rfl rfl rfl ?_; intro g_ hg_))
      | (refine gl_alc0 ?_; (refine gl_alloc tab_ok rfl rfl rfl rfl rfl ?_; intro g_ hg_))
      | (refine gl_sto0 ?_; refine gl_store tab_ok rfl rfl rfl rfl rfl rfl rfl c_one rfl c_ku ?_)
      | (refine gl_any0 ?_; refine gl_pure tab_ok rfl rfl rfl rfl rfl rfl ?_)
      | (refine gl_any0 ?_; first | refine gl_yv (yv_shr tab_ok (gok_none rfl) rfl rfl rfl (fun _ => rfl) (fun _ => rfl) c_bnd) rfl rfl ?_ | refine gl_yv (yv_rem tab_ok (gok_none rfl) rfl rfl rfl (fun _ => rfl) (fun _ => rfl) c_bnd) rfl rfl ?_ | refine gl_yv (yv_indexS tab_ok (gok_none rfl) rfl rfl rfl rfl (fun _ => rfl) (fun _ => rfl) c_bnd) rfl rfl ?_ | refine gl_yv (yv_sliceH tab_ok (gok_none rfl) rfl rfl rfl rfl rfl (fun _ => rfl) (fun _ => rfl) c_bnd) rfl rfl ?_)
      | (refine gl_arr0 ?_; refine gl_yv (yv_buildA tab_ok (gok_none rfl) rfl rfl rfl rfl (fun _ => allT_of rfl) rfl) rfl rfl ?_)
      | (refine gl_eqS ?_; first | refine gl_yv (yv_eqS tab_ok eqs_ok c_gok rfl rfl rfl rfl c_allT rfl rfl rfl) rfl rfl ?_)
      | (refine gl_neS ?_; first | refine gl_yv (yv_neS tab_ok eqs_ok c_gok rfl rfl rfl rfl c_allT rfl rfl rfl) rfl rfl ?_)
      | (refine gl_anyG ?_; refine gl_yv (yv_pure tab_ok c_gok rfl rfl c_allT) rfl rfl ?_))
    | (refine gc_gate ?_; first
      | refine gc_seq ?_
      | refine gc_region ?_
      | refine gc_quietRo rfl mixed (by decide +kernel) ?_
      | refine gc_true rfl ?_
      | refine gc_false rfl ?_
      | (refine gc_cond rfl ?_ ?_ <;> intro h_ <;> have hd_ := h_ <;> (try simp only [bytes_beq, cell_beq, val_beq, stamp_beq, decide_eq_true_eq, decide_eq_false_iff_not, Bool.and_eq_true, Bool.or_eq_true, Bool.or_eq_false_iff, Bool.not_eq_true', Bool.not_eq_false', Bool.not_true, Bool.not_false, Bool.false_or, Bool.true_and, Bool.and_true, Bool.or_false, beq_iff_eq, bne_iff_ne, beq_eq_false_iff_ne, bne_eq_false_iff_eq, ne_eq, Bool.false_eq_true, reduceCtorEq] at hd_) <;> (try (exfalso; omega)))
      | refine gc_block ?_
      | refine gc_exit ?_
      | refine gc_ret ?_
      | refine gc_skip ?_
      | refine gc_label ?_)
    | (refine ge_gate ?_; first
      | ((with_reducible refine ge_gT ?_); first | with_reducible refine ge_then ?_ | with_reducible refine ge_then_exit ?_ | with_reducible refine ge_then_ret ?_)
      | ((with_reducible refine ge_gK ?_); first | with_reducible refine ge_block ?_ | refine ge_block_exit ?_ | refine ge_block_pass rfl ?_ | with_reducible refine ge_block_ret ?_)
      | ((with_reducible refine ge_gB ?_); first | refine ge_ret1 tab_ok rfl c_rvt ?_ | refine ge_end1 tab_ok rfl c_rvt ?_ | refine ge_ret2 tab_ok rfl c_rvt c_rvt ?_ | refine ge_ret_none rfl ?_ | refine ge_end_none rfl ?_))
    | (refine gq_gate ?_; first
      | refine gq_nil ?_
      | (refine gq_load0 ?_; refine gq_yv (yv_load tab_ok (gok_none rfl) rfl rfl (fun _ => rfl) c_mem (fun _ => c_lds)) rfl rfl ?_)
      | (refine gq_add0 ?_; refine gq_yv (yv_add tab_ok (gok_none rfl) rfl rfl rfl rfl (fun _ => allT_of rfl) (by intro _; omega)) rfl rfl ?_)
      | (refine gq_sub0 ?_; refine gq_yv (yv_sub tab_ok (gok_none rfl) rfl rfl rfl rfl (fun _ => allT_of rfl) (by intro _; omega)) rfl rfl ?_)
      | (refine gq_idx0 ?_; refine gq_yv (yv_idxC tab_ok (gok_none rfl) rfl rfl rfl rfl rfl (fun _ => rfl) (fun _ => rfl) c_bnd) rfl rfl ?_)
      | (refine gq_pick0 ?_; first | refine gq_yv (yv_and (gok_none rfl) rfl rfl rfl (fun _ => rfl) c_imp2) rfl rfl ?_ | refine gq_yv (yv_or (gok_none rfl) rfl rfl rfl (fun _ => rfl) c_imp2) rfl rfl ?_)
      | (refine gq_idx0 ?_; refine gq_yv (yv_indexAddr tab_ok (gok_none rfl) rfl rfl rfl rfl rfl (fun _ => rfl) (fun _ => rfl) (by intro _; omega)) rfl rfl ?_)
      | (refine gq_addG ?_; refine gq_yv (yv_add tab_ok c_gok rfl rfl rfl rfl c_allT c_bnd) rfl rfl ?_)
      | (refine gq_subG ?_; refine gq_yv (yv_sub tab_ok c_gok rfl rfl rfl rfl c_allT c_bnd) rfl rfl ?_)
      | (refine gq_loadG ?_; refine gq_yv (yv_load tab_ok c_gok rfl rfl c_imp c_mem (fun _ => c_lds)) rfl rfl ?_)
      | (refine gq_pickG ?_; first | refine gq_yv (yv_and c_gok rfl rfl rfl c_imp c_imp2) rfl rfl ?_ | refine gq_yv (yv_or c_gok rfl rfl rfl c_imp c_imp2) rfl rfl ?_)
      | (refine gq_idxG ?_; refine gq_yv (yv_indexAddr tab_ok c_gok rfl rfl rfl rfl rfl c_imp c_imp c_bnd) rfl rfl ?_)
      | (refine gq_any0 ?_; refine gq_pure tab_ok rfl rfl rfl rfl rfl rfl ?_)
      | (refine gq_any0 ?_; first | refine gq_yv (yv_shr tab_ok (gok_none rfl) rfl rfl rfl (fun _ => rfl) (fun _ => rfl) c_bnd) rfl rfl ?_ | refine gq_yv (yv_rem tab_ok (gok_none rfl) rfl rfl rfl (fun _ => rfl) (fun _ => rfl) c_bnd) rfl rfl ?_ | refine gq_yv (yv_indexS tab_ok (gok_none rfl) rfl rfl rfl rfl (fun _ => rfl) (fun _ => rfl) c_bnd) rfl rfl ?_ | refine gq_yv (yv_sliceH tab_ok (gok_none rfl) rfl rfl rfl rfl rfl (fun _ => rfl) (fun _ => rfl) c_bnd) rfl rfl ?_)
      | (refine gq_arr0 ?_; refine gq_yv (yv_buildA tab_ok (gok_none rfl) rfl rfl rfl rfl (fun _ => allT_of rfl) rfl) rfl rfl ?_)
      | (refine gq_eqS ?_; first | refine gq_yv (yv_eqS tab_ok eqs_ok c_gok rfl rfl rfl rfl c_allT rfl rfl rfl) rfl rfl ?_)
      | (refine gq_neS ?_; first | refine gq_yv (yv_neS tab_ok eqs_ok c_gok rfl rfl rfl rfl c_allT rfl rfl rfl) rfl rfl ?_)
      | (refine gq_anyG ?_; refine gq_yv (yv_pure tab_ok c_gok rfl rfl c_allT) rfl rfl ?_))
  obtain ⟨gb, hgb⟩ : ∃ x, x = g_ := ⟨_, rfl⟩
  subst hgb
  refine gc_loopW (α := Nat × NRet) (fun x => [(1, true, .bool false), (2, true, .string f), (3, true, .string u), (4, true, .pointer (some ⟨gb, 0, none⟩)), (9, true, .slice (x.2.q.map ad) x.1 x.2.c), (10, true, .int .i64 (x.1 : Int))])
    (fun x => ow x.2.q true ((nodesL x.1 (fun i => (t.kids.getD i default).ren f u) x.2.kp x.2.kc).flatten ++ x.2.sp) 28 ++ [(gb, true, .cells (t.l p c).toArray 28 (0, 0))])
    (fun x W => x.1 ≤ t.kids.length ∧ Ow x.2.q x.1 x.2.c 13 (nodesL x.1 (fun i => (t.kids.getD i default).ren f u) x.2.kp x.2.kc).flatten x.2.sp ∧ ∀ j, j < x.1 → NodeR (fun b => w.heap.size ≤ b ∧ b ≠ gb ∧ x.2.q ≠ some b) W ((t.kids.getD j default).ren f u) (x.2.kp j)) (fun x => t.kids.length - x.1) (0, ⟨none, 0, [], kp, kc⟩) c_frs c_sub (fun W _ => ⟨Nat.zero_le _, Ow.none0, fun j hj => by dsimp only at hj; omega⟩) ?_
  rintro ⟨i, ⟨q, cq, sp, kp', kc'⟩⟩ W1 h1 ⟨hi, hw, hN⟩
  dsimp only at hi hw hN h1 ⊢
  have hs1 := hs.st h1
  have hnm := fun h : 0 < t.kids.length => h1.old_nm (hs.lt h)
  repeat' first
    | (refine gl_evB (evb_call (val := fun x : Option Addr × Nat => .agg (((t.kids.getD i default).ren f u).l x.1 x.2).toArray) (φ := fun W W' x => NodeR (fun b => W.heap.size ≤ b) W' ((t.kids.getD i default).ren f u) x.1) rfl rfl ent36 rfl rfl rfl (fun W hW => ih _ (getD_mem t.kids i (by omega)) _ _ W S ((hk i (by omega)).st (h1.trans hW)) (by have := Node.kid_count (getD_mem t.kids i (by omega)); omega)) ?_) rfl rfl; intro W2 W3 x2 hB2 hB3 hb3 hN3)
    | (refine gl_gate ?_; first
      | refine gl_nil ?_
      | (refine gl_load0 ?_; refine gl_yv (yv_load tab_ok (gok_none rfl) rfl rfl (fun _ => rfl) c_mem (fun _ => c_lds)) rfl rfl ?_)
      | (refine gl_add0 ?_; refine gl_yv (yv_add tab_ok (gok_none rfl) rfl rfl rfl rfl (fun _ => allT_of rfl) (by intro _; omega)) rfl rfl ?_)
      | (refine gl_sub0 ?_; refine gl_yv (yv_sub tab_ok (gok_none rfl) rfl rfl rfl rfl (fun _ => allT_of rfl) (by intro _; omega)) rfl rfl ?_)
      | (refine gl_idx0 ?_; refine gl_yv (yv_idxA tab_ok hs1 (gok_none rfl) rfl rfl rfl rfl rfl rfl (fun _ => rfl) (fun _ => rfl) c_bnd) rfl rfl ?_)
      | (refine gl_idxG ?_; refine gl_yv (yv_idxA tab_ok hs1 c_gok rfl rfl rfl rfl rfl rfl c_imp c_imp c_bnd) rfl rfl ?_)
      | (refine gl_load0 ?_; refine gl_yv (yv_ldA tab_ok hs1 c_nm (gok_none rfl) rfl rfl (fun _ => rfl) c_bnd (fun _ => c_lds)) rfl rfl ?_)
      | (refine gl_loadG ?_; refine gl_yv (yv_ldA tab_ok hs1 c_nm c_gok rfl rfl c_imp c_bnd (fun _ => c_lds)) rfl rfl ?_)
      | (refine gl_load0 ?_; refine gl_yv (yv_ldA0 tab_ok hs1 c_nm (gok_none rfl) rfl rfl (fun _ => rfl) c_bnd (fun _ => c_lds)) rfl rfl ?_)
      | (refine gl_loadG ?_; refine gl_yv (yv_ldA0 tab_ok hs1 c_nm c_gok rfl rfl c_imp c_bnd (fun _ => c_lds)) rfl rfl ?_)
      | (refine gl_idx0 ?_; refine gl_yv (yv_idxC tab_ok (gok_none rfl) rfl rfl rfl rfl rfl (fun _ => rfl) (fun _ => rfl) c_bnd) rfl rfl ?_)
      | (refine gl_app0 ?_; (refine gl_ev (ev_append tab_ok rfl rfl rfl rfl rfl rfl rfl rfl c_oa (hw) (c_src) c_lim c_lim ?_) rfl rfl; intro p_ c_ sp_ hw_))
      | (refine gl_app0 ?_; (refine gl_ev (ev_append tab_ok rfl rfl rfl rfl rfl rfl rfl rfl c_oa (hw_) (c_src) c_lim c_lim ?_) rfl rfl; intro p_ c_ sp_ hw_))
      | (refine gl_bld0 ?_; (refine gl_ev (ev_buildSlice tab_ok rfl rfl rfl rfl rfl rfl rfl rfl rfl rfl ?_) rfl rfl; intro g_ hg_))
      | (refine gl_mul0 ?_; refine gl_yv (yv_mul tab_ok (gok_none rfl) rfl rfl rfl rfl (fun _ => allT_of rfl) c_bnd) rfl rfl ?_)
      | (refine gl_pick0 ?_; first | refine gl_yv (yv_and (gok_none rfl) rfl rfl rfl (fun _ => rfl) c_imp2) rfl rfl ?_ | refine gl_yv (yv_or (gok_none rfl) rfl rfl rfl (fun _ => rfl) c_imp2) rfl rfl ?_)
      | (refine gl_idx0 ?_; refine gl_yv (yv_indexAddr tab_ok (gok_none rfl) rfl rfl rfl rfl rfl (fun _ => rfl) (fun _ => rfl) (by intro _; omega)) rfl rfl ?_)
      | (refine gl_addG ?_; refine gl_yv (yv_add tab_ok c_gok rfl rfl rfl rfl c_allT c_bnd) rfl rfl ?_)
      | (refine gl_subG ?_; refine gl_yv (yv_sub tab_ok c_gok rfl rfl rfl rfl c_allT c_bnd) rfl rfl ?_)
      | (refine gl_loadG ?_; refine gl_yv (yv_load tab_ok c_gok rfl rfl c_imp c_mem (fun _ => c_lds)) rfl rfl ?_)
      | (refine gl_pickG ?_; first | refine gl_yv (yv_and c_gok rfl rfl rfl c_imp c_imp2) rfl rfl ?_ | refine gl_yv (yv_or c_gok rfl rfl rfl c_imp c_imp2) rfl rfl ?_)
      | (refine gl_idxG ?_; refine gl_yv (yv_indexAddr tab_ok c_gok rfl rfl rfl rfl rfl c_imp c_imp c_bnd) rfl rfl ?_)
      | (refine gl_box0 ?_; first | (refine gl_box_agg rfl rfl rfl rfl rfl ?_; intro g_ hg_) | (refine gl_box_one rfl rfl rfl rfl rfl rfl ?_; intro g_ hg_) | (refine gl_box rfl rfl rfl rfl rfl ?_; intro g_ hg_))
      | (refine gl_alc0 ?_; (refine gl_alloc tab_ok rfl rfl rfl rfl rfl ?_; intro g_ hg_))
      | (refine gl_sto0 ?_; refine gl_store tab_ok rfl rfl rfl rfl rfl rfl rfl c_one rfl c_ku ?_)
      | (refine gl_any0 ?_; refine gl_pure tab_ok rfl rfl rfl rfl rfl rfl ?_)
      | (refine gl_any0 ?_; first | refine gl_yv (yv_shr tab_ok (gok_none rfl) rfl rfl rfl (fun _ => rfl) (fun _ => rfl) c_bnd) rfl rfl ?_ | refine gl_yv (yv_rem tab_ok (gok_none rfl) rfl rfl rfl (fun _ => rfl) (fun _ => rfl) c_bnd) rfl rfl ?_ | refine gl_yv (yv_indexS tab_ok (gok_none rfl) rfl rfl rfl rfl (fun _ => rfl) (fun _ => rfl) c_bnd) rfl rfl ?_ | refine gl_yv (yv_sliceH tab_ok (gok_none rfl) rfl rfl rfl rfl rfl (fun _ => rfl) (fun _ => rfl) c_bnd) rfl rfl ?_)
      | (refine gl_arr0 ?_; refine gl_yv (yv_buildA tab_ok (gok_none rfl) rfl rfl rfl rfl (fun _ => allT_of rfl) rfl) rfl rfl ?_)
      | (refine gl_eqS ?_; first | refine gl_yv (yv_eqS tab_ok eqs_ok c_gok rfl rfl rfl rfl c_allT rfl rfl rfl) rfl rfl ?_)
      | (refine gl_neS ?_; first | refine gl_yv (yv_neS tab_ok eqs_ok c_gok rfl rfl rfl rfl c_allT rfl rfl rfl) rfl rfl ?_)
      | (refine gl_anyG ?_; refine gl_yv (yv_pure tab_ok c_gok rfl rfl c_allT) rfl rfl ?_))
    | (refine gc_gate ?_; first
      | refine gc_seq ?_
      | refine gc_region ?_
      | refine gc_quietRo rfl mixed (by decide +kernel) ?_
      | refine gc_true rfl ?_
      | refine gc_false rfl ?_
      | (refine gc_cond rfl ?_ ?_ <;> intro h_ <;> have hd_ := h_ <;> (try simp only [bytes_beq, cell_beq, val_beq, stamp_beq, decide_eq_true_eq, decide_eq_false_iff_not, Bool.and_eq_true, Bool.or_eq_true, Bool.or_eq_false_iff, Bool.not_eq_true', Bool.not_eq_false', Bool.not_true, Bool.not_false, Bool.false_or, Bool.true_and, Bool.and_true, Bool.or_false, beq_iff_eq, bne_iff_ne, beq_eq_false_iff_ne, bne_eq_false_iff_eq, ne_eq, Bool.false_eq_true, reduceCtorEq] at hd_) <;> (try (exfalso; omega)))
      | refine gc_block ?_
      | refine gc_exit ?_
      | refine gc_ret ?_
      | refine gc_skip ?_
      | refine gc_label ?_)
    | (refine ge_gate ?_; first
      | ((with_reducible refine ge_gT ?_); first | with_reducible refine ge_then ?_ | with_reducible refine ge_then_exit ?_ | with_reducible refine ge_then_ret ?_)
      | ((with_reducible refine ge_gK ?_); first | with_reducible refine ge_block ?_ | refine ge_block_exit ?_ | refine ge_block_pass rfl ?_ | with_reducible refine ge_block_ret ?_)
      | ((with_reducible refine ge_gB ?_); first | refine ge_ret1 tab_ok rfl c_rvt ?_ | refine ge_end1 tab_ok rfl c_rvt ?_ | refine ge_ret2 tab_ok rfl c_rvt c_rvt ?_ | refine ge_ret_none rfl ?_ | refine ge_end_none rfl ?_))
    | (refine gq_gate ?_; first
      | refine gq_nil ?_
      | (refine gq_load0 ?_; refine gq_yv (yv_load tab_ok (gok_none rfl) rfl rfl (fun _ => rfl) c_mem (fun _ => c_lds)) rfl rfl ?_)
      | (refine gq_add0 ?_; refine gq_yv (yv_add tab_ok (gok_none rfl) rfl rfl rfl rfl (fun _ => allT_of rfl) (by intro _; omega)) rfl rfl ?_)
      | (refine gq_sub0 ?_; refine gq_yv (yv_sub tab_ok (gok_none rfl) rfl rfl rfl rfl (fun _ => allT_of rfl) (by intro _; omega)) rfl rfl ?_)
      | (refine gq_idx0 ?_; refine gq_yv (yv_idxA tab_ok hs1 (gok_none rfl) rfl rfl rfl rfl rfl rfl (fun _ => rfl) (fun _ => rfl) c_bnd) rfl rfl ?_)
      | (refine gq_idxG ?_; refine gq_yv (yv_idxA tab_ok hs1 c_gok rfl rfl rfl rfl rfl rfl c_imp c_imp c_bnd) rfl rfl ?_)
      | (refine gq_load0 ?_; refine gq_yv (yv_ldA tab_ok hs1 c_nm (gok_none rfl) rfl rfl (fun _ => rfl) c_bnd (fun _ => c_lds)) rfl rfl ?_)
      | (refine gq_loadG ?_; refine gq_yv (yv_ldA tab_ok hs1 c_nm c_gok rfl rfl c_imp c_bnd (fun _ => c_lds)) rfl rfl ?_)
      | (refine gq_load0 ?_; refine gq_yv (yv_ldA0 tab_ok hs1 c_nm (gok_none rfl) rfl rfl (fun _ => rfl) c_bnd (fun _ => c_lds)) rfl rfl ?_)
      | (refine gq_loadG ?_; refine gq_yv (yv_ldA0 tab_ok hs1 c_nm c_gok rfl rfl c_imp c_bnd (fun _ => c_lds)) rfl rfl ?_)
      | (refine gq_idx0 ?_; refine gq_yv (yv_idxC tab_ok (gok_none rfl) rfl rfl rfl rfl rfl (fun _ => rfl) (fun _ => rfl) c_bnd) rfl rfl ?_)
      | (refine gq_pick0 ?_; first | refine gq_yv (yv_and (gok_none rfl) rfl rfl rfl (fun _ => rfl) c_imp2) rfl rfl ?_ | refine gq_yv (yv_or (gok_none rfl) rfl rfl rfl (fun _ => rfl) c_imp2) rfl rfl ?_)
      | (refine gq_idx0 ?_; refine gq_yv (yv_indexAddr tab_ok (gok_none rfl) rfl rfl rfl rfl rfl (fun _ => rfl) (fun _ => rfl) (by intro _; omega)) rfl rfl ?_)
      | (refine gq_addG ?_; refine gq_yv (yv_add tab_ok c_gok rfl rfl rfl rfl c_allT c_bnd) rfl rfl ?_)
      | (refine gq_subG ?_; refine gq_yv (yv_sub tab_ok c_gok rfl rfl rfl rfl c_allT c_bnd) rfl rfl ?_)
      | (refine gq_loadG ?_; refine gq_yv (yv_load tab_ok c_gok rfl rfl c_imp c_mem (fun _ => c_lds)) rfl rfl ?_)
      | (refine gq_pickG ?_; first | refine gq_yv (yv_and c_gok rfl rfl rfl c_imp c_imp2) rfl rfl ?_ | refine gq_yv (yv_or c_gok rfl rfl rfl c_imp c_imp2) rfl rfl ?_)
      | (refine gq_idxG ?_; refine gq_yv (yv_indexAddr tab_ok c_gok rfl rfl rfl rfl rfl c_imp c_imp c_bnd) rfl rfl ?_)
      | (refine gq_any0 ?_; refine gq_pure tab_ok rfl rfl rfl rfl rfl rfl ?_)
      | (refine gq_any0 ?_; first | refine gq_yv (yv_shr tab_ok (gok_none rfl) rfl rfl rfl (fun _ => rfl) (fun _ => rfl) c_bnd) rfl rfl ?_ | refine gq_yv (yv_rem tab_ok (gok_none rfl) rfl rfl rfl (fun _ => rfl) (fun _ => rfl) c_bnd) rfl rfl ?_ | refine gq_yv (yv_indexS tab_ok (gok_none rfl) rfl rfl rfl rfl (fun _ => rfl) (fun _ => rfl) c_bnd) rfl rfl ?_ | refine gq_yv (yv_sliceH tab_ok (gok_none rfl) rfl rfl rfl rfl rfl (fun _ => rfl) (fun _ => rfl) c_bnd) rfl rfl ?_)
      | (refine gq_arr0 ?_; refine gq_yv (yv_buildA tab_ok (gok_none rfl) rfl rfl rfl rfl (fun _ => allT_of rfl) rfl) rfl rfl ?_)
      | (refine gq_eqS ?_; first | refine gq_yv (yv_eqS tab_ok eqs_ok c_gok rfl rfl rfl rfl c_allT rfl rfl rfl) rfl rfl ?_)
      | (refine gq_neS ?_; first | refine gq_yv (yv_neS tab_ok eqs_ok c_gok rfl rfl rfl rfl c_allT rfl rfl rfl) rfl rfl ?_)
      | (refine gq_anyG ?_; refine gq_yv (yv_pure tab_ok c_gok rfl rfl c_allT) rfl rfl ?_))
  · refine ge_roundW (i + 1, ⟨p_, c_, sp_, (fun j => if j = i then x2.1 else kp' j), (fun j => if j = i then x2.2 else kc' j)⟩) (h1.trans hB3) ?_ ?_ ?_ ?_
    · dsimp only; omega
    · exact c_frs
    · dsimp only
      rw [nodesL_snoc]
      exact List.Sublist.append (List.Sublist.refl _) (List.Sublist.cons _ (List.Sublist.refl _))
    intro W hW
    refine ⟨by dsimp only; omega, ?_, fun j hj => ?_⟩
    · dsimp only; rw [nodesL_snoc]; exact hw_
    · dsimp only at hj ⊢
      by_cases hji : j = i
      · subst hji
        simp only [if_true]
        refine hN3.mono (fun b hb hlt => ⟨Nat.le_trans h1.size (Nat.le_trans hB2.size hb), ?_, own_ne hW hlt (hB2.fresh hb)⟩) (fun b hb hlt => hW.frame b hlt (hB2.fresh hb))
        have := hB2.fresh hb
        rw [wrs_ow] at this
        simp [wrs] at this
        exact this.2
      · simp only [hji, if_false]
        have hnw : ∀ b, (w.heap.size ≤ b ∧ b ≠ gb ∧ q ≠ some b) → b ∉ wrs (ow q true ((nodesL i (fun i => (t.kids.getD i default).ren f u) kp' kc').flatten ++ sp) 28 ++ [(gb, true, Obj.cells (t.l p c).toArray 28 (0, 0))]) := fun b hb => not_wrs_ow hb.2.2 (by simpa [wrs] using hb.2.1)
        exact (hN j (by omega)).mono (fun b hb hlt => ⟨hb.1, hb.2.1, own_ne (hB3.trans hW) hlt (hnw b hb)⟩) (fun b hb hlt => (hB3.trans hW).frame b hlt (hnw b hb))
  · intro W hW
    have hin : i = t.kids.length := by omega
    subst hin
    refine ⟨⟨q, cq, sp, kp', kc'⟩, rfl, ⟨hw, fun j hj => (hN j hj).mono (fun b hb _ => ⟨hb.1, hb.2.2⟩) (fun b hb hlt => hW.frame b hlt (not_wrs_ow hb.2.2 (by simpa [wrs] using hb.2.1)))⟩, (h1.trans hW).drop (List.sublist_append_left _ _)⟩
namespace Node
theorem ren_kids (f u : ByteArray) (n : Node) : (n.ren f u).kids = n.kids.map (ren f u) := by rw [ren_eq]; rfl
theorem ren_l (f u : ByteArray) (n : Node) (p : Option Addr) (c : Nat) : (n.ren f u).l p c = [.int .i64 n.kind, .string n.op, .string n.name, .int .i64 n.value.kind, .int .i64 n.value.n, .string n.value.s, .string (if n.isRef then named n.cell f u else n.cell).sheet, .int .i64 (if n.isRef then named n.cell f u else n.cell).col, .int .i64 (if n.isRef then named n.cell f u else n.cell).row, .string (if n.kind = 3 then named n.to f u else n.to).sheet, .int .i64 (if n.kind = 3 then named n.to f u else n.to).col, .int .i64 (if n.kind = 3 then named n.to f u else n.to).row, .slice p n.kids.length c] := by
  unfold Node.l
  rw [ren_kids, List.length_map, ren_eq]
  rfl
end Node
theorem ct_RenameR : ∀ (t : Node) (f u : ByteArray) (p : Option Addr) (c : Nat) (w : World) (S : Nat → Prop), NodeR S w t p → t.count ≤ 1000000 → Calls Try.prog 36 #[.agg (t.l p c).toArray, .string f, .string u] w (RetNodeR w (t.ren f u)) := by
  intro t
  induction t using Node.ind with
  | h t ih =>
  intro f u p c w S hR hc
  have hkl := t.kids_len
  refine enter (args := [_, _, _]) (M := []) (K := []) Try.func36 rfl Try.ntmps36 rfl (St.refl _ _) ?_
  repeat' first
    | (refine gl_evB (evb_callK (σ := NRet) (val := fun x => .slice (x.q.map ad) t.kids.length x.c) (Kn := fun x => ow x.q true ((nodesL t.kids.length (fun i => (t.kids.getD i default).ren f u) x.kp x.kc).flatten ++ x.sp) 28) (φ := fun W W' x => Ow x.q t.kids.length x.c 13 (nodesL t.kids.length (fun i => (t.kids.getD i default).ren f u) x.kp x.kc).flatten x.sp ∧ ∀ i, i < t.kids.length → NodeR (fun b => W.heap.size ≤ b ∧ x.q ≠ some b) W' ((t.kids.getD i default).ren f u) (x.kp i)) rfl rfl ent137 rfl rfl rfl (fun W hW => ct_kidsF t f u p c W (hR.st hW) hc (fun x hx => ih x hx f u)) (fun x e he => ow_wr e he) ?_) rfl rfl; intro W2 W3 x2 hB2 hB3 hB3' hN3; obtain ⟨q, c', sp, kp, kc⟩ := x2; dsimp only at hB3 hB3' hN3 ⊢)
    | (refine gl_gate ?_; first
      | refine gl_nil ?_
      | (refine gl_load0 ?_; refine gl_yv (yv_load tab_ok (gok_none rfl) rfl rfl (fun _ => rfl) c_mem (fun _ => c_lds)) rfl rfl ?_)
      | (refine gl_add0 ?_; refine gl_yv (yv_add tab_ok (gok_none rfl) rfl rfl rfl rfl (fun _ => allT_of rfl) (by intro _; omega)) rfl rfl ?_)
      | (refine gl_sub0 ?_; refine gl_yv (yv_sub tab_ok (gok_none rfl) rfl rfl rfl rfl (fun _ => allT_of rfl) (by intro _; omega)) rfl rfl ?_)
      | (refine gl_idx0 ?_; refine gl_yv (yv_idxC tab_ok (gok_none rfl) rfl rfl rfl rfl rfl (fun _ => rfl) (fun _ => rfl) c_bnd) rfl rfl ?_)
      | (refine gl_bld0 ?_; (refine gl_ev (ev_buildSlice tab_ok rfl rfl rfl rfl rfl rfl rfl rfl rfl rfl ?_) rfl rfl; intro g_ hg_))
      | (refine gl_mul0 ?_; refine gl_yv (yv_mul tab_ok (gok_none rfl) rfl rfl rfl rfl (fun _ => allT_of rfl) c_bnd) rfl rfl ?_)
      | (refine gl_pick0 ?_; first | refine gl_yv (yv_and (gok_none rfl) rfl rfl rfl (fun _ => rfl) c_imp2) rfl rfl ?_ | refine gl_yv (yv_or (gok_none rfl) rfl rfl rfl (fun _ => rfl) c_imp2) rfl rfl ?_)
      | (refine gl_idx0 ?_; refine gl_yv (yv_indexAddr tab_ok (gok_none rfl) rfl rfl rfl rfl rfl (fun _ => rfl) (fun _ => rfl) (by intro _; omega)) rfl rfl ?_)
      | (refine gl_addG ?_; refine gl_yv (yv_add tab_ok c_gok rfl rfl rfl rfl c_allT c_bnd) rfl rfl ?_)
      | (refine gl_subG ?_; refine gl_yv (yv_sub tab_ok c_gok rfl rfl rfl rfl c_allT c_bnd) rfl rfl ?_)
      | (refine gl_loadG ?_; refine gl_yv (yv_load tab_ok c_gok rfl rfl c_imp c_mem (fun _ => c_lds)) rfl rfl ?_)
      | (refine gl_pickG ?_; first | refine gl_yv (yv_and c_gok rfl rfl rfl c_imp c_imp2) rfl rfl ?_ | refine gl_yv (yv_or c_gok rfl rfl rfl c_imp c_imp2) rfl rfl ?_)
      | (refine gl_idxG ?_; refine gl_yv (yv_indexAddr tab_ok c_gok rfl rfl rfl rfl rfl c_imp c_imp c_bnd) rfl rfl ?_)
      | (refine gl_box0 ?_; first | (refine gl_box_agg rfl rfl rfl rfl rfl ?_; intro g_ hg_) | (refine gl_box_one rfl rfl rfl rfl rfl rfl ?_; intro g_ hg_) | (refine gl_box rfl rfl rfl rfl rfl ?_; intro g_ hg_))
      | (refine gl_alc0 ?_; (refine gl_alloc tab_ok rfl rfl rfl rfl rfl ?_; intro g_ hg_))
      | (refine gl_sto0 ?_; refine gl_store tab_ok rfl rfl rfl rfl rfl rfl rfl c_one rfl c_ku ?_)
      | (refine gl_any0 ?_; refine gl_pure tab_ok rfl rfl rfl rfl rfl rfl ?_)
      | (refine gl_any0 ?_; first | refine gl_yv (yv_shr tab_ok (gok_none rfl) rfl rfl rfl (fun _ => rfl) (fun _ => rfl) c_bnd) rfl rfl ?_ | refine gl_yv (yv_rem tab_ok (gok_none rfl) rfl rfl rfl (fun _ => rfl) (fun _ => rfl) c_bnd) rfl rfl ?_ | refine gl_yv (yv_indexS tab_ok (gok_none rfl) rfl rfl rfl rfl (fun _ => rfl) (fun _ => rfl) c_bnd) rfl rfl ?_ | refine gl_yv (yv_sliceH tab_ok (gok_none rfl) rfl rfl rfl rfl rfl (fun _ => rfl) (fun _ => rfl) c_bnd) rfl rfl ?_)
      | (refine gl_arr0 ?_; refine gl_yv (yv_buildA tab_ok (gok_none rfl) rfl rfl rfl rfl (fun _ => allT_of rfl) rfl) rfl rfl ?_)
      | (refine gl_eqS ?_; first | refine gl_yv (yv_eqS tab_ok eqs_ok c_gok rfl rfl rfl rfl c_allT rfl rfl rfl) rfl rfl ?_)
      | (refine gl_neS ?_; first | refine gl_yv (yv_neS tab_ok eqs_ok c_gok rfl rfl rfl rfl c_allT rfl rfl rfl) rfl rfl ?_)
      | (refine gl_anyG ?_; refine gl_yv (yv_pure tab_ok c_gok rfl rfl c_allT) rfl rfl ?_))
    | (refine gc_gate ?_; first
      | refine gc_seq ?_
      | refine gc_region ?_
      | refine gc_quietRo rfl mixed (by decide +kernel) ?_
      | refine gc_true rfl ?_
      | refine gc_false rfl ?_
      | (refine gc_cond rfl ?_ ?_ <;> intro h_ <;> have hd_ := h_ <;> (try simp only [bytes_beq, cell_beq, val_beq, stamp_beq, decide_eq_true_eq, decide_eq_false_iff_not, Bool.and_eq_true, Bool.or_eq_true, Bool.or_eq_false_iff, Bool.not_eq_true', Bool.not_eq_false', Bool.not_true, Bool.not_false, Bool.false_or, Bool.true_and, Bool.and_true, Bool.or_false, beq_iff_eq, bne_iff_ne, beq_eq_false_iff_ne, bne_eq_false_iff_eq, ne_eq, Bool.false_eq_true, reduceCtorEq] at hd_) <;> (try (exfalso; omega)))
      | refine gc_block ?_
      | refine gc_exit ?_
      | refine gc_ret ?_
      | refine gc_skip ?_
      | refine gc_label ?_)
    | (refine ge_gate ?_; first
      | ((with_reducible refine ge_gT ?_); first | with_reducible refine ge_then ?_ | with_reducible refine ge_then_exit ?_ | with_reducible refine ge_then_ret ?_)
      | ((with_reducible refine ge_gK ?_); first | with_reducible refine ge_block ?_ | refine ge_block_exit ?_ | refine ge_block_pass rfl ?_ | with_reducible refine ge_block_ret ?_)
      | ((with_reducible refine ge_gB ?_); first | refine ge_ret1 tab_ok rfl c_rvt ?_ | refine ge_end1 tab_ok rfl c_rvt ?_ | refine ge_ret2 tab_ok rfl c_rvt c_rvt ?_ | refine ge_ret_none rfl ?_ | refine ge_end_none rfl ?_))
    | (refine gq_gate ?_; first
      | refine gq_nil ?_
      | (refine gq_load0 ?_; refine gq_yv (yv_load tab_ok (gok_none rfl) rfl rfl (fun _ => rfl) c_mem (fun _ => c_lds)) rfl rfl ?_)
      | (refine gq_add0 ?_; refine gq_yv (yv_add tab_ok (gok_none rfl) rfl rfl rfl rfl (fun _ => allT_of rfl) (by intro _; omega)) rfl rfl ?_)
      | (refine gq_sub0 ?_; refine gq_yv (yv_sub tab_ok (gok_none rfl) rfl rfl rfl rfl (fun _ => allT_of rfl) (by intro _; omega)) rfl rfl ?_)
      | (refine gq_idx0 ?_; refine gq_yv (yv_idxC tab_ok (gok_none rfl) rfl rfl rfl rfl rfl (fun _ => rfl) (fun _ => rfl) c_bnd) rfl rfl ?_)
      | (refine gq_pick0 ?_; first | refine gq_yv (yv_and (gok_none rfl) rfl rfl rfl (fun _ => rfl) c_imp2) rfl rfl ?_ | refine gq_yv (yv_or (gok_none rfl) rfl rfl rfl (fun _ => rfl) c_imp2) rfl rfl ?_)
      | (refine gq_idx0 ?_; refine gq_yv (yv_indexAddr tab_ok (gok_none rfl) rfl rfl rfl rfl rfl (fun _ => rfl) (fun _ => rfl) (by intro _; omega)) rfl rfl ?_)
      | (refine gq_addG ?_; refine gq_yv (yv_add tab_ok c_gok rfl rfl rfl rfl c_allT c_bnd) rfl rfl ?_)
      | (refine gq_subG ?_; refine gq_yv (yv_sub tab_ok c_gok rfl rfl rfl rfl c_allT c_bnd) rfl rfl ?_)
      | (refine gq_loadG ?_; refine gq_yv (yv_load tab_ok c_gok rfl rfl c_imp c_mem (fun _ => c_lds)) rfl rfl ?_)
      | (refine gq_pickG ?_; first | refine gq_yv (yv_and c_gok rfl rfl rfl c_imp c_imp2) rfl rfl ?_ | refine gq_yv (yv_or c_gok rfl rfl rfl c_imp c_imp2) rfl rfl ?_)
      | (refine gq_idxG ?_; refine gq_yv (yv_indexAddr tab_ok c_gok rfl rfl rfl rfl rfl c_imp c_imp c_bnd) rfl rfl ?_)
      | (refine gq_any0 ?_; refine gq_pure tab_ok rfl rfl rfl rfl rfl rfl ?_)
      | (refine gq_any0 ?_; first | refine gq_yv (yv_shr tab_ok (gok_none rfl) rfl rfl rfl (fun _ => rfl) (fun _ => rfl) c_bnd) rfl rfl ?_ | refine gq_yv (yv_rem tab_ok (gok_none rfl) rfl rfl rfl (fun _ => rfl) (fun _ => rfl) c_bnd) rfl rfl ?_ | refine gq_yv (yv_indexS tab_ok (gok_none rfl) rfl rfl rfl rfl (fun _ => rfl) (fun _ => rfl) c_bnd) rfl rfl ?_ | refine gq_yv (yv_sliceH tab_ok (gok_none rfl) rfl rfl rfl rfl rfl (fun _ => rfl) (fun _ => rfl) c_bnd) rfl rfl ?_)
      | (refine gq_arr0 ?_; refine gq_yv (yv_buildA tab_ok (gok_none rfl) rfl rfl rfl rfl (fun _ => allT_of rfl) rfl) rfl rfl ?_)
      | (refine gq_eqS ?_; first | refine gq_yv (yv_eqS tab_ok eqs_ok c_gok rfl rfl rfl rfl c_allT rfl rfl rfl) rfl rfl ?_)
      | (refine gq_neS ?_; first | refine gq_yv (yv_neS tab_ok eqs_ok c_gok rfl rfl rfl rfl c_allT rfl rfl rfl) rfl rfl ?_)
      | (refine gq_anyG ?_; refine gq_yv (yv_pure tab_ok c_gok rfl rfl c_allT) rfl rfl ?_))
  all_goals intro W hW
  all_goals refine ⟨(q.map ad, c'), ?_, nodeR_nodes (n := t.kids.length) (nd := fun i => (t.kids.getD i default).ren f u) (kp := kp) (kc := kc) (by rw [Node.ren_kids, List.length_map]) (fun j hj => by rw [Node.ren_kids]; simp [List.getD, hj]) hW c_oa hN3.1 (fun g hg => ow_ge hB3 hg) (fun j hj => (hN3.2 j hj).mono (fun b hb _ => Nat.le_trans hB2.size hb.1) (fun b hb hlt => hW.frame b hlt (not_wrs_ow hb.2 (hB2.fresh hb.1)))), (hB3.trans hW).below0⟩
  all_goals (clear hW hB2 hB3 hB3' hN3 ih hR; rw [Node.ren_l]; unfold named Node.isRef)
  all_goals simp_all
theorem ct_kidsT {S : Nat → Prop} (t : Node) (s u : ByteArray) (p : Option Addr) (c : Nat) (w : World) (hR : NodeR S w t p) (hc : t.count ≤ 1000000)
    (ih : ∀ x ∈ t.kids, ∀ (p : Option Addr) (c : Nat) (w : World) (S : Nat → Prop), NodeR S w x p → x.count ≤ 1000000 → Calls Try.prog 38 #[.agg (x.l p c).toArray, .string s] w (RetNodeR w (x.rem s))) :
    Calls Try.prog 137 #[.agg (t.l p c).toArray, .bool true, .string s, .string u] w (RetNodes w t.kids.length (fun i => (t.kids.getD i default).rem s)) := by
  cases hR with
  | @mk _ _ kp kc hs hS hk =>
  have hkl := t.kids_len
  refine enter (args := [_, _, _, _]) (M := []) (K := []) Try.func137 rfl Try.ntmps137 rfl (St.refl _ _) ?_
  repeat' first
    | (refine gl_gate ?_; first
      | refine gl_nil ?_
      | (refine gl_load0 ?_; refine gl_yv (yv_load tab_ok (gok_none rfl) rfl rfl (fun _ => rfl) c_mem (fun _ => c_lds)) rfl rfl ?_)
      | (refine gl_add0 ?_; refine gl_yv (yv_add tab_ok (gok_none rfl) rfl rfl rfl rfl (fun _ => allT_of rfl) (by intro _; omega)) rfl rfl ?_)
      | (refine gl_sub0 ?_; refine gl_yv (yv_sub tab_ok (gok_none rfl) rfl rfl rfl rfl (fun _ => allT_of rfl) (by intro _; omega)) rfl rfl ?_)
      | (refine gl_idx0 ?_; refine gl_yv (yv_idxC tab_ok (gok_none rfl) rfl rfl rfl rfl rfl (fun _ => rfl) (fun _ => rfl) c_bnd) rfl rfl ?_)
      | (refine gl_bld0 ?_; (refine gl_ev (ev_buildSlice tab_ok rfl rfl rfl rfl rfl rfl rfl rfl rfl rfl ?_) rfl rfl; intro g_ hg_))
      | (refine gl_mul0 ?_; refine gl_yv (yv_mul tab_ok (gok_none rfl) rfl rfl rfl rfl (fun _ => allT_of rfl) c_bnd) rfl rfl ?_)
      | (refine gl_pick0 ?_; first | refine gl_yv (yv_and (gok_none rfl) rfl rfl rfl (fun _ => rfl) c_imp2) rfl rfl ?_ | refine gl_yv (yv_or (gok_none rfl) rfl rfl rfl (fun _ => rfl) c_imp2) rfl rfl ?_)
      | (refine gl_idx0 ?_; refine gl_yv (yv_indexAddr tab_ok (gok_none rfl) rfl rfl rfl rfl rfl (fun _ => rfl) (fun _ => rfl) (by intro _; omega)) rfl rfl ?_)
      | (refine gl_addG ?_; refine gl_yv (yv_add tab_ok c_gok rfl rfl rfl rfl c_allT c_bnd) rfl rfl ?_)
      | (refine gl_subG ?_; refine gl_yv (yv_sub tab_ok c_gok rfl rfl rfl rfl c_allT c_bnd) rfl rfl ?_)
      | (refine gl_loadG ?_; refine gl_yv (yv_load tab_ok c_gok rfl rfl c_imp c_mem (fun _ => c_lds)) rfl rfl ?_)
      | (refine gl_pickG ?_; first | refine gl_yv (yv_and c_gok rfl rfl rfl c_imp c_imp2) rfl rfl ?_ | refine gl_yv (yv_or c_gok rfl rfl rfl c_imp c_imp2) rfl rfl ?_)
      | (refine gl_idxG ?_; refine gl_yv (yv_indexAddr tab_ok c_gok rfl rfl rfl rfl rfl c_imp c_imp c_bnd) rfl rfl ?_)
      | (refine gl_box0 ?_; first | (refine gl_box_agg rfl rfl rfl rfl rfl ?_; intro g_ hg_) | (refine gl_box_one rfl rfl rfl rfl rfl rfl ?_; intro g_ hg_) | (refine gl_box rfl rfl rfl rfl rfl ?_; intro g_ hg_))
      | (refine gl_alc0 ?_; (refine gl_alloc tab_ok rfl rfl rfl rfl rfl ?_; intro g_ hg_))
      | (refine gl_sto0 ?_; refine gl_store tab_ok rfl rfl rfl rfl rfl rfl rfl c_one rfl c_ku ?_)
      | (refine gl_any0 ?_; refine gl_pure tab_ok rfl rfl rfl rfl rfl rfl ?_)
      | (refine gl_any0 ?_; first | refine gl_yv (yv_shr tab_ok (gok_none rfl) rfl rfl rfl (fun _ => rfl) (fun _ => rfl) c_bnd) rfl rfl ?_ | refine gl_yv (yv_rem tab_ok (gok_none rfl) rfl rfl rfl (fun _ => rfl) (fun _ => rfl) c_bnd) rfl rfl ?_ | refine gl_yv (yv_indexS tab_ok (gok_none rfl) rfl rfl rfl rfl (fun _ => rfl) (fun _ => rfl) c_bnd) rfl rfl ?_ | refine gl_yv (yv_sliceH tab_ok (gok_none rfl) rfl rfl rfl rfl rfl (fun _ => rfl) (fun _ => rfl) c_bnd) rfl rfl ?_)
      | (refine gl_arr0 ?_; refine gl_yv (yv_buildA tab_ok (gok_none rfl) rfl rfl rfl rfl (fun _ => allT_of rfl) rfl) rfl rfl ?_)
      | (refine gl_eqS ?_; first | refine gl_yv (yv_eqS tab_ok eqs_ok c_gok rfl rfl rfl rfl c_allT rfl rfl rfl) rfl rfl ?_)
      | (refine gl_neS ?_; first | refine gl_yv (yv_neS tab_ok eqs_ok c_gok rfl rfl rfl rfl c_allT rfl rfl rfl) rfl rfl ?_)
      | (refine gl_anyG ?_; refine gl_yv (yv_pure tab_ok c_gok rfl rfl c_allT) rfl rfl ?_))
    | (refine gc_gate ?_; first
      | refine gc_seq ?_
      | refine gc_region ?_
      | refine gc_quietRo rfl mixed (by decide +kernel) ?_
      | refine gc_true rfl ?_
      | refine gc_false rfl ?_
      | (refine gc_cond rfl ?_ ?_ <;> intro h_ <;> have hd_ := h_ <;> (try simp only [bytes_beq, cell_beq, val_beq, stamp_beq, decide_eq_true_eq, decide_eq_false_iff_not, Bool.and_eq_true, Bool.or_eq_true, Bool.or_eq_false_iff, Bool.not_eq_true', Bool.not_eq_false', Bool.not_true, Bool.not_false, Bool.false_or, Bool.true_and, Bool.and_true, Bool.or_false, beq_iff_eq, bne_iff_ne, beq_eq_false_iff_ne, bne_eq_false_iff_eq, ne_eq, Bool.false_eq_true, reduceCtorEq] at hd_) <;> (try (exfalso; omega)))
      | refine gc_block ?_
      | refine gc_exit ?_
      | refine gc_ret ?_
      | refine gc_skip ?_
      | refine gc_label ?_)
    | (refine ge_gate ?_; first
      | ((with_reducible refine ge_gT ?_); first | with_reducible refine ge_then ?_ | with_reducible refine ge_then_exit ?_ | with_reducible refine ge_then_ret ?_)
      | ((with_reducible refine ge_gK ?_); first | with_reducible refine ge_block ?_ | refine ge_block_exit ?_ | refine ge_block_pass rfl ?_ | with_reducible refine ge_block_ret ?_)
      | ((with_reducible refine ge_gB ?_); first | refine ge_ret1 tab_ok rfl c_rvt ?_ | refine ge_end1 tab_ok rfl c_rvt ?_ | refine ge_ret2 tab_ok rfl c_rvt c_rvt ?_ | refine ge_ret_none rfl ?_ | refine ge_end_none rfl ?_))
    | (refine gq_gate ?_; first
      | refine gq_nil ?_
      | (refine gq_load0 ?_; refine gq_yv (yv_load tab_ok (gok_none rfl) rfl rfl (fun _ => rfl) c_mem (fun _ => c_lds)) rfl rfl ?_)
      | (refine gq_add0 ?_; refine gq_yv (yv_add tab_ok (gok_none rfl) rfl rfl rfl rfl (fun _ => allT_of rfl) (by intro _; omega)) rfl rfl ?_)
      | (refine gq_sub0 ?_; refine gq_yv (yv_sub tab_ok (gok_none rfl) rfl rfl rfl rfl (fun _ => allT_of rfl) (by intro _; omega)) rfl rfl ?_)
      | (refine gq_idx0 ?_; refine gq_yv (yv_idxC tab_ok (gok_none rfl) rfl rfl rfl rfl rfl (fun _ => rfl) (fun _ => rfl) c_bnd) rfl rfl ?_)
      | (refine gq_pick0 ?_; first | refine gq_yv (yv_and (gok_none rfl) rfl rfl rfl (fun _ => rfl) c_imp2) rfl rfl ?_ | refine gq_yv (yv_or (gok_none rfl) rfl rfl rfl (fun _ => rfl) c_imp2) rfl rfl ?_)
      | (refine gq_idx0 ?_; refine gq_yv (yv_indexAddr tab_ok (gok_none rfl) rfl rfl rfl rfl rfl (fun _ => rfl) (fun _ => rfl) (by intro _; omega)) rfl rfl ?_)
      | (refine gq_addG ?_; refine gq_yv (yv_add tab_ok c_gok rfl rfl rfl rfl c_allT c_bnd) rfl rfl ?_)
      | (refine gq_subG ?_; refine gq_yv (yv_sub tab_ok c_gok rfl rfl rfl rfl c_allT c_bnd) rfl rfl ?_)
      | (refine gq_loadG ?_; refine gq_yv (yv_load tab_ok c_gok rfl rfl c_imp c_mem (fun _ => c_lds)) rfl rfl ?_)
      | (refine gq_pickG ?_; first | refine gq_yv (yv_and c_gok rfl rfl rfl c_imp c_imp2) rfl rfl ?_ | refine gq_yv (yv_or c_gok rfl rfl rfl c_imp c_imp2) rfl rfl ?_)
      | (refine gq_idxG ?_; refine gq_yv (yv_indexAddr tab_ok c_gok rfl rfl rfl rfl rfl c_imp c_imp c_bnd) rfl rfl ?_)
      | (refine gq_any0 ?_; refine gq_pure tab_ok rfl rfl rfl rfl rfl rfl ?_)
      | (refine gq_any0 ?_; first | refine gq_yv (yv_shr tab_ok (gok_none rfl) rfl rfl rfl (fun _ => rfl) (fun _ => rfl) c_bnd) rfl rfl ?_ | refine gq_yv (yv_rem tab_ok (gok_none rfl) rfl rfl rfl (fun _ => rfl) (fun _ => rfl) c_bnd) rfl rfl ?_ | refine gq_yv (yv_indexS tab_ok (gok_none rfl) rfl rfl rfl rfl (fun _ => rfl) (fun _ => rfl) c_bnd) rfl rfl ?_ | refine gq_yv (yv_sliceH tab_ok (gok_none rfl) rfl rfl rfl rfl rfl (fun _ => rfl) (fun _ => rfl) c_bnd) rfl rfl ?_)
      | (refine gq_arr0 ?_; refine gq_yv (yv_buildA tab_ok (gok_none rfl) rfl rfl rfl rfl (fun _ => allT_of rfl) rfl) rfl rfl ?_)
      | (refine gq_eqS ?_; first | refine gq_yv (yv_eqS tab_ok eqs_ok c_gok rfl rfl rfl rfl c_allT rfl rfl rfl) rfl rfl ?_)
      | (refine gq_neS ?_; first | refine gq_yv (yv_neS tab_ok eqs_ok c_gok rfl rfl rfl rfl c_allT rfl rfl rfl) rfl rfl ?_)
      | (refine gq_anyG ?_; refine gq_yv (yv_pure tab_ok c_gok rfl rfl c_allT) rfl rfl ?_))
  obtain ⟨gb, hgb⟩ : ∃ x, x = g_ := ⟨_, rfl⟩
  subst hgb
  refine gc_loopW (α := Nat × NRet) (fun x => [(1, true, .bool true), (2, true, .string s), (3, true, .string u), (4, true, .pointer (some ⟨gb, 0, none⟩)), (9, true, .slice (x.2.q.map ad) x.1 x.2.c), (10, true, .int .i64 (x.1 : Int))])
    (fun x => ow x.2.q true ((nodesL x.1 (fun i => (t.kids.getD i default).rem s) x.2.kp x.2.kc).flatten ++ x.2.sp) 28 ++ [(gb, true, .cells (t.l p c).toArray 28 (0, 0))])
    (fun x W => x.1 ≤ t.kids.length ∧ Ow x.2.q x.1 x.2.c 13 (nodesL x.1 (fun i => (t.kids.getD i default).rem s) x.2.kp x.2.kc).flatten x.2.sp ∧ ∀ j, j < x.1 → NodeR (fun b => w.heap.size ≤ b ∧ b ≠ gb ∧ x.2.q ≠ some b) W ((t.kids.getD j default).rem s) (x.2.kp j)) (fun x => t.kids.length - x.1) (0, ⟨none, 0, [], kp, kc⟩) c_frs c_sub (fun W _ => ⟨Nat.zero_le _, Ow.none0, fun j hj => by dsimp only at hj; omega⟩) ?_
  rintro ⟨i, ⟨q, cq, sp, kp', kc'⟩⟩ W1 h1 ⟨hi, hw, hN⟩
  dsimp only at hi hw hN h1 ⊢
  have hs1 := hs.st h1
  have hnm := fun h : 0 < t.kids.length => h1.old_nm (hs.lt h)
  repeat' first
    | (refine gl_evB (evb_call (val := fun x : Option Addr × Nat => .agg (((t.kids.getD i default).rem s).l x.1 x.2).toArray) (φ := fun W W' x => NodeR (fun b => W.heap.size ≤ b) W' ((t.kids.getD i default).rem s) x.1) rfl rfl ent38 rfl rfl rfl (fun W hW => ih _ (getD_mem t.kids i (by omega)) _ _ W S ((hk i (by omega)).st (h1.trans hW)) (by have := Node.kid_count (getD_mem t.kids i (by omega)); omega)) ?_) rfl rfl; intro W2 W3 x2 hB2 hB3 hb3 hN3)
    | (refine gl_gate ?_; first
      | refine gl_nil ?_
      | (refine gl_load0 ?_; refine gl_yv (yv_load tab_ok (gok_none rfl) rfl rfl (fun _ => rfl) c_mem (fun _ => c_lds)) rfl rfl ?_)
      | (refine gl_add0 ?_; refine gl_yv (yv_add tab_ok (gok_none rfl) rfl rfl rfl rfl (fun _ => allT_of rfl) (by intro _; omega)) rfl rfl ?_)
      | (refine gl_sub0 ?_; refine gl_yv (yv_sub tab_ok (gok_none rfl) rfl rfl rfl rfl (fun _ => allT_of rfl) (by intro _; omega)) rfl rfl ?_)
      | (refine gl_idx0 ?_; refine gl_yv (yv_idxA tab_ok hs1 (gok_none rfl) rfl rfl rfl rfl rfl rfl (fun _ => rfl) (fun _ => rfl) c_bnd) rfl rfl ?_)
      | (refine gl_idxG ?_; refine gl_yv (yv_idxA tab_ok hs1 c_gok rfl rfl rfl rfl rfl rfl c_imp c_imp c_bnd) rfl rfl ?_)
      | (refine gl_load0 ?_; refine gl_yv (yv_ldA tab_ok hs1 c_nm (gok_none rfl) rfl rfl (fun _ => rfl) c_bnd (fun _ => c_lds)) rfl rfl ?_)
      | (refine gl_loadG ?_; refine gl_yv (yv_ldA tab_ok hs1 c_nm c_gok rfl rfl c_imp c_bnd (fun _ => c_lds)) rfl rfl ?_)
      | (refine gl_load0 ?_; refine gl_yv (yv_ldA0 tab_ok hs1 c_nm (gok_none rfl) rfl rfl (fun _ => rfl) c_bnd (fun _ => c_lds)) rfl rfl ?_)
      | (refine gl_loadG ?_; refine gl_yv (yv_ldA0 tab_ok hs1 c_nm c_gok rfl rfl c_imp c_bnd (fun _ => c_lds)) rfl rfl ?_)
      | (refine gl_idx0 ?_; refine gl_yv (yv_idxC tab_ok (gok_none rfl) rfl rfl rfl rfl rfl (fun _ => rfl) (fun _ => rfl) c_bnd) rfl rfl ?_)
      | (refine gl_app0 ?_; (refine gl_ev (ev_append tab_ok rfl rfl rfl rfl rfl rfl rfl rfl c_oa (hw) (c_src) c_lim c_lim ?_) rfl rfl; intro p_ c_ sp_ hw_))
      | (refine gl_app0 ?_; (refine gl_ev (ev_append tab_ok rfl rfl rfl rfl rfl rfl rfl rfl c_oa (hw_) (c_src) c_lim c_lim ?_) rfl rfl; intro p_ c_ sp_ hw_))
      | (refine gl_bld0 ?_; (refine gl_ev (ev_buildSlice tab_ok rfl rfl rfl rfl rfl rfl rfl rfl rfl rfl ?_) rfl rfl; intro g_ hg_))
      | (refine gl_mul0 ?_; refine gl_yv (yv_mul tab_ok (gok_none rfl) rfl rfl rfl rfl (fun _ => allT_of rfl) c_bnd) rfl rfl ?_)
      | (refine gl_pick0 ?_; first | refine gl_yv (yv_and (gok_none rfl) rfl rfl rfl (fun _ => rfl) c_imp2) rfl rfl ?_ | refine gl_yv (yv_or (gok_none rfl) rfl rfl rfl (fun _ => rfl) c_imp2) rfl rfl ?_)
      | (refine gl_idx0 ?_; refine gl_yv (yv_indexAddr tab_ok (gok_none rfl) rfl rfl rfl rfl rfl (fun _ => rfl) (fun _ => rfl) (by intro _; omega)) rfl rfl ?_)
      | (refine gl_addG ?_; refine gl_yv (yv_add tab_ok c_gok rfl rfl rfl rfl c_allT c_bnd) rfl rfl ?_)
      | (refine gl_subG ?_; refine gl_yv (yv_sub tab_ok c_gok rfl rfl rfl rfl c_allT c_bnd) rfl rfl ?_)
      | (refine gl_loadG ?_; refine gl_yv (yv_load tab_ok c_gok rfl rfl c_imp c_mem (fun _ => c_lds)) rfl rfl ?_)
      | (refine gl_pickG ?_; first | refine gl_yv (yv_and c_gok rfl rfl rfl c_imp c_imp2) rfl rfl ?_ | refine gl_yv (yv_or c_gok rfl rfl rfl c_imp c_imp2) rfl rfl ?_)
      | (refine gl_idxG ?_; refine gl_yv (yv_indexAddr tab_ok c_gok rfl rfl rfl rfl rfl c_imp c_imp c_bnd) rfl rfl ?_)
      | (refine gl_box0 ?_; first | (refine gl_box_agg rfl rfl rfl rfl rfl ?_; intro g_ hg_) | (refine gl_box_one rfl rfl rfl rfl rfl rfl ?_; intro g_ hg_) | (refine gl_box rfl rfl rfl rfl rfl ?_; intro g_ hg_))
      | (refine gl_alc0 ?_; (refine gl_alloc tab_ok rfl rfl rfl rfl rfl ?_; intro g_ hg_))
      | (refine gl_sto0 ?_; refine gl_store tab_ok rfl rfl rfl rfl rfl rfl rfl c_one rfl c_ku ?_)
      | (refine gl_any0 ?_; refine gl_pure tab_ok rfl rfl rfl rfl rfl rfl ?_)
      | (refine gl_any0 ?_; first | refine gl_yv (yv_shr tab_ok (gok_none rfl) rfl rfl rfl (fun _ => rfl) (fun _ => rfl) c_bnd) rfl rfl ?_ | refine gl_yv (yv_rem tab_ok (gok_none rfl) rfl rfl rfl (fun _ => rfl) (fun _ => rfl) c_bnd) rfl rfl ?_ | refine gl_yv (yv_indexS tab_ok (gok_none rfl) rfl rfl rfl rfl (fun _ => rfl) (fun _ => rfl) c_bnd) rfl rfl ?_ | refine gl_yv (yv_sliceH tab_ok (gok_none rfl) rfl rfl rfl rfl rfl (fun _ => rfl) (fun _ => rfl) c_bnd) rfl rfl ?_)
      | (refine gl_arr0 ?_; refine gl_yv (yv_buildA tab_ok (gok_none rfl) rfl rfl rfl rfl (fun _ => allT_of rfl) rfl) rfl rfl ?_)
      | (refine gl_eqS ?_; first | refine gl_yv (yv_eqS tab_ok eqs_ok c_gok rfl rfl rfl rfl c_allT rfl rfl rfl) rfl rfl ?_)
      | (refine gl_neS ?_; first | refine gl_yv (yv_neS tab_ok eqs_ok c_gok rfl rfl rfl rfl c_allT rfl rfl rfl) rfl rfl ?_)
      | (refine gl_anyG ?_; refine gl_yv (yv_pure tab_ok c_gok rfl rfl c_allT) rfl rfl ?_))
    | (refine gc_gate ?_; first
      | refine gc_seq ?_
      | refine gc_region ?_
      | refine gc_quietRo rfl mixed (by decide +kernel) ?_
      | refine gc_true rfl ?_
      | refine gc_false rfl ?_
      | (refine gc_cond rfl ?_ ?_ <;> intro h_ <;> have hd_ := h_ <;> (try simp only [bytes_beq, cell_beq, val_beq, stamp_beq, decide_eq_true_eq, decide_eq_false_iff_not, Bool.and_eq_true, Bool.or_eq_true, Bool.or_eq_false_iff, Bool.not_eq_true', Bool.not_eq_false', Bool.not_true, Bool.not_false, Bool.false_or, Bool.true_and, Bool.and_true, Bool.or_false, beq_iff_eq, bne_iff_ne, beq_eq_false_iff_ne, bne_eq_false_iff_eq, ne_eq, Bool.false_eq_true, reduceCtorEq] at hd_) <;> (try (exfalso; omega)))
      | refine gc_block ?_
      | refine gc_exit ?_
      | refine gc_ret ?_
      | refine gc_skip ?_
      | refine gc_label ?_)
    | (refine ge_gate ?_; first
      | ((with_reducible refine ge_gT ?_); first | with_reducible refine ge_then ?_ | with_reducible refine ge_then_exit ?_ | with_reducible refine ge_then_ret ?_)
      | ((with_reducible refine ge_gK ?_); first | with_reducible refine ge_block ?_ | refine ge_block_exit ?_ | refine ge_block_pass rfl ?_ | with_reducible refine ge_block_ret ?_)
      | ((with_reducible refine ge_gB ?_); first | refine ge_ret1 tab_ok rfl c_rvt ?_ | refine ge_end1 tab_ok rfl c_rvt ?_ | refine ge_ret2 tab_ok rfl c_rvt c_rvt ?_ | refine ge_ret_none rfl ?_ | refine ge_end_none rfl ?_))
    | (refine gq_gate ?_; first
      | refine gq_nil ?_
      | (refine gq_load0 ?_; refine gq_yv (yv_load tab_ok (gok_none rfl) rfl rfl (fun _ => rfl) c_mem (fun _ => c_lds)) rfl rfl ?_)
      | (refine gq_add0 ?_; refine gq_yv (yv_add tab_ok (gok_none rfl) rfl rfl rfl rfl (fun _ => allT_of rfl) (by intro _; omega)) rfl rfl ?_)
      | (refine gq_sub0 ?_; refine gq_yv (yv_sub tab_ok (gok_none rfl) rfl rfl rfl rfl (fun _ => allT_of rfl) (by intro _; omega)) rfl rfl ?_)
      | (refine gq_idx0 ?_; refine gq_yv (yv_idxA tab_ok hs1 (gok_none rfl) rfl rfl rfl rfl rfl rfl (fun _ => rfl) (fun _ => rfl) c_bnd) rfl rfl ?_)
      | (refine gq_idxG ?_; refine gq_yv (yv_idxA tab_ok hs1 c_gok rfl rfl rfl rfl rfl rfl c_imp c_imp c_bnd) rfl rfl ?_)
      | (refine gq_load0 ?_; refine gq_yv (yv_ldA tab_ok hs1 c_nm (gok_none rfl) rfl rfl (fun _ => rfl) c_bnd (fun _ => c_lds)) rfl rfl ?_)
      | (refine gq_loadG ?_; refine gq_yv (yv_ldA tab_ok hs1 c_nm c_gok rfl rfl c_imp c_bnd (fun _ => c_lds)) rfl rfl ?_)
      | (refine gq_load0 ?_; refine gq_yv (yv_ldA0 tab_ok hs1 c_nm (gok_none rfl) rfl rfl (fun _ => rfl) c_bnd (fun _ => c_lds)) rfl rfl ?_)
      | (refine gq_loadG ?_; refine gq_yv (yv_ldA0 tab_ok hs1 c_nm c_gok rfl rfl c_imp c_bnd (fun _ => c_lds)) rfl rfl ?_)
      | (refine gq_idx0 ?_; refine gq_yv (yv_idxC tab_ok (gok_none rfl) rfl rfl rfl rfl rfl (fun _ => rfl) (fun _ => rfl) c_bnd) rfl rfl ?_)
      | (refine gq_pick0 ?_; first | refine gq_yv (yv_and (gok_none rfl) rfl rfl rfl (fun _ => rfl) c_imp2) rfl rfl ?_ | refine gq_yv (yv_or (gok_none rfl) rfl rfl rfl (fun _ => rfl) c_imp2) rfl rfl ?_)
      | (refine gq_idx0 ?_; refine gq_yv (yv_indexAddr tab_ok (gok_none rfl) rfl rfl rfl rfl rfl (fun _ => rfl) (fun _ => rfl) (by intro _; omega)) rfl rfl ?_)
      | (refine gq_addG ?_; refine gq_yv (yv_add tab_ok c_gok rfl rfl rfl rfl c_allT c_bnd) rfl rfl ?_)
      | (refine gq_subG ?_; refine gq_yv (yv_sub tab_ok c_gok rfl rfl rfl rfl c_allT c_bnd) rfl rfl ?_)
      | (refine gq_loadG ?_; refine gq_yv (yv_load tab_ok c_gok rfl rfl c_imp c_mem (fun _ => c_lds)) rfl rfl ?_)
      | (refine gq_pickG ?_; first | refine gq_yv (yv_and c_gok rfl rfl rfl c_imp c_imp2) rfl rfl ?_ | refine gq_yv (yv_or c_gok rfl rfl rfl c_imp c_imp2) rfl rfl ?_)
      | (refine gq_idxG ?_; refine gq_yv (yv_indexAddr tab_ok c_gok rfl rfl rfl rfl rfl c_imp c_imp c_bnd) rfl rfl ?_)
      | (refine gq_any0 ?_; refine gq_pure tab_ok rfl rfl rfl rfl rfl rfl ?_)
      | (refine gq_any0 ?_; first | refine gq_yv (yv_shr tab_ok (gok_none rfl) rfl rfl rfl (fun _ => rfl) (fun _ => rfl) c_bnd) rfl rfl ?_ | refine gq_yv (yv_rem tab_ok (gok_none rfl) rfl rfl rfl (fun _ => rfl) (fun _ => rfl) c_bnd) rfl rfl ?_ | refine gq_yv (yv_indexS tab_ok (gok_none rfl) rfl rfl rfl rfl (fun _ => rfl) (fun _ => rfl) c_bnd) rfl rfl ?_ | refine gq_yv (yv_sliceH tab_ok (gok_none rfl) rfl rfl rfl rfl rfl (fun _ => rfl) (fun _ => rfl) c_bnd) rfl rfl ?_)
      | (refine gq_arr0 ?_; refine gq_yv (yv_buildA tab_ok (gok_none rfl) rfl rfl rfl rfl (fun _ => allT_of rfl) rfl) rfl rfl ?_)
      | (refine gq_eqS ?_; first | refine gq_yv (yv_eqS tab_ok eqs_ok c_gok rfl rfl rfl rfl c_allT rfl rfl rfl) rfl rfl ?_)
      | (refine gq_neS ?_; first | refine gq_yv (yv_neS tab_ok eqs_ok c_gok rfl rfl rfl rfl c_allT rfl rfl rfl) rfl rfl ?_)
      | (refine gq_anyG ?_; refine gq_yv (yv_pure tab_ok c_gok rfl rfl c_allT) rfl rfl ?_))
  · refine ge_roundW (i + 1, ⟨p_, c_, sp_, (fun j => if j = i then x2.1 else kp' j), (fun j => if j = i then x2.2 else kc' j)⟩) (h1.trans hB3) ?_ ?_ ?_ ?_
    · dsimp only; omega
    · exact c_frs
    · dsimp only
      rw [nodesL_snoc]
      exact List.Sublist.append (List.Sublist.refl _) (List.Sublist.cons _ (List.Sublist.refl _))
    intro W hW
    refine ⟨by dsimp only; omega, ?_, fun j hj => ?_⟩
    · dsimp only; rw [nodesL_snoc]; exact hw_
    · dsimp only at hj ⊢
      by_cases hji : j = i
      · subst hji
        simp only [if_true]
        refine hN3.mono (fun b hb hlt => ⟨Nat.le_trans h1.size (Nat.le_trans hB2.size hb), ?_, own_ne hW hlt (hB2.fresh hb)⟩) (fun b hb hlt => hW.frame b hlt (hB2.fresh hb))
        have := hB2.fresh hb
        rw [wrs_ow] at this
        simp [wrs] at this
        exact this.2
      · simp only [hji, if_false]
        have hnw : ∀ b, (w.heap.size ≤ b ∧ b ≠ gb ∧ q ≠ some b) → b ∉ wrs (ow q true ((nodesL i (fun i => (t.kids.getD i default).rem s) kp' kc').flatten ++ sp) 28 ++ [(gb, true, Obj.cells (t.l p c).toArray 28 (0, 0))]) := fun b hb => not_wrs_ow hb.2.2 (by simpa [wrs] using hb.2.1)
        exact (hN j (by omega)).mono (fun b hb hlt => ⟨hb.1, hb.2.1, own_ne (hB3.trans hW) hlt (hnw b hb)⟩) (fun b hb hlt => (hB3.trans hW).frame b hlt (hnw b hb))
  · intro W hW
    have hin : i = t.kids.length := by omega
    subst hin
    refine ⟨⟨q, cq, sp, kp', kc'⟩, rfl, ⟨hw, fun j hj => (hN j hj).mono (fun b hb _ => ⟨hb.1, hb.2.2⟩) (fun b hb hlt => hW.frame b hlt (not_wrs_ow hb.2.2 (by simpa [wrs] using hb.2.1)))⟩, (h1.trans hW).drop (List.sublist_append_left _ _)⟩
theorem Node.rem_kids (s : ByteArray) (n : Node) (h : n.gone s = false) : (n.rem s).kids = n.kids.map (Node.rem s) := by rw [Node.rem_eq', h]; rfl
theorem Node.rem_l (s : ByteArray) (n : Node) (h : n.gone s = false) (p : Option Addr) (c : Nat) : (n.rem s).l p c = n.l p c := by
  unfold Node.l
  rw [Node.rem_kids s n h, List.length_map, Node.rem_eq', h]
  rfl
theorem ct_RemoveR : ∀ (t : Node) (s : ByteArray) (p : Option Addr) (c : Nat) (w : World) (S : Nat → Prop), NodeR S w t p → t.count ≤ 1000000 → Calls Try.prog 38 #[.agg (t.l p c).toArray, .string s] w (RetNodeR w (t.rem s)) := by
  intro t
  induction t using Node.ind with
  | h t ih =>
  intro s p c w S hR hc
  have hkl := t.kids_len
  refine enter (args := [_, _]) (M := []) (K := []) Try.func38 rfl Try.ntmps38 rfl (St.refl _ _) ?_
  repeat' first
    | (refine gl_evB (evb_callK (σ := NRet) (val := fun x => .slice (x.q.map ad) t.kids.length x.c) (Kn := fun x => ow x.q true ((nodesL t.kids.length (fun i => (t.kids.getD i default).rem s) x.kp x.kc).flatten ++ x.sp) 28) (φ := fun W W' x => Ow x.q t.kids.length x.c 13 (nodesL t.kids.length (fun i => (t.kids.getD i default).rem s) x.kp x.kc).flatten x.sp ∧ ∀ i, i < t.kids.length → NodeR (fun b => W.heap.size ≤ b ∧ x.q ≠ some b) W' ((t.kids.getD i default).rem s) (x.kp i)) rfl rfl ent137 rfl rfl rfl (fun W hW => ct_kidsT t s ⟨#[]⟩ p c W (hR.st hW) hc (fun x hx p c w S => ih x hx s p c w S)) (fun x e he => ow_wr e he) ?_) rfl rfl; intro W2 W3 x2 hB2 hB3 hB3' hN3; obtain ⟨q, c', sp, kp, kc⟩ := x2; dsimp only at hB3 hB3' hN3 ⊢)
    | (refine gl_gate ?_; first
      | refine gl_nil ?_
      | (refine gl_load0 ?_; refine gl_yv (yv_load tab_ok (gok_none rfl) rfl rfl (fun _ => rfl) c_mem (fun _ => c_lds)) rfl rfl ?_)
      | (refine gl_add0 ?_; refine gl_yv (yv_add tab_ok (gok_none rfl) rfl rfl rfl rfl (fun _ => allT_of rfl) (by intro _; omega)) rfl rfl ?_)
      | (refine gl_sub0 ?_; refine gl_yv (yv_sub tab_ok (gok_none rfl) rfl rfl rfl rfl (fun _ => allT_of rfl) (by intro _; omega)) rfl rfl ?_)
      | (refine gl_idx0 ?_; refine gl_yv (yv_idxC tab_ok (gok_none rfl) rfl rfl rfl rfl rfl (fun _ => rfl) (fun _ => rfl) c_bnd) rfl rfl ?_)
      | (refine gl_bld0 ?_; (refine gl_ev (ev_buildSlice tab_ok rfl rfl rfl rfl rfl rfl rfl rfl rfl rfl ?_) rfl rfl; intro g_ hg_))
      | (refine gl_mul0 ?_; refine gl_yv (yv_mul tab_ok (gok_none rfl) rfl rfl rfl rfl (fun _ => allT_of rfl) c_bnd) rfl rfl ?_)
      | (refine gl_pick0 ?_; first | refine gl_yv (yv_and (gok_none rfl) rfl rfl rfl (fun _ => rfl) c_imp2) rfl rfl ?_ | refine gl_yv (yv_or (gok_none rfl) rfl rfl rfl (fun _ => rfl) c_imp2) rfl rfl ?_)
      | (refine gl_idx0 ?_; refine gl_yv (yv_indexAddr tab_ok (gok_none rfl) rfl rfl rfl rfl rfl (fun _ => rfl) (fun _ => rfl) (by intro _; omega)) rfl rfl ?_)
      | (refine gl_addG ?_; refine gl_yv (yv_add tab_ok c_gok rfl rfl rfl rfl c_allT c_bnd) rfl rfl ?_)
      | (refine gl_subG ?_; refine gl_yv (yv_sub tab_ok c_gok rfl rfl rfl rfl c_allT c_bnd) rfl rfl ?_)
      | (refine gl_loadG ?_; refine gl_yv (yv_load tab_ok c_gok rfl rfl c_imp c_mem (fun _ => c_lds)) rfl rfl ?_)
      | (refine gl_pickG ?_; first | refine gl_yv (yv_and c_gok rfl rfl rfl c_imp c_imp2) rfl rfl ?_ | refine gl_yv (yv_or c_gok rfl rfl rfl c_imp c_imp2) rfl rfl ?_)
      | (refine gl_idxG ?_; refine gl_yv (yv_indexAddr tab_ok c_gok rfl rfl rfl rfl rfl c_imp c_imp c_bnd) rfl rfl ?_)
      | (refine gl_box0 ?_; first | (refine gl_box_agg rfl rfl rfl rfl rfl ?_; intro g_ hg_) | (refine gl_box_one rfl rfl rfl rfl rfl rfl ?_; intro g_ hg_) | (refine gl_box rfl rfl rfl rfl rfl ?_; intro g_ hg_))
      | (refine gl_alc0 ?_; (refine gl_alloc tab_ok rfl rfl rfl rfl rfl ?_; intro g_ hg_))
      | (refine gl_sto0 ?_; refine gl_store tab_ok rfl rfl rfl rfl rfl rfl rfl c_one rfl c_ku ?_)
      | (refine gl_any0 ?_; refine gl_pure tab_ok rfl rfl rfl rfl rfl rfl ?_)
      | (refine gl_any0 ?_; first | refine gl_yv (yv_shr tab_ok (gok_none rfl) rfl rfl rfl (fun _ => rfl) (fun _ => rfl) c_bnd) rfl rfl ?_ | refine gl_yv (yv_rem tab_ok (gok_none rfl) rfl rfl rfl (fun _ => rfl) (fun _ => rfl) c_bnd) rfl rfl ?_ | refine gl_yv (yv_indexS tab_ok (gok_none rfl) rfl rfl rfl rfl (fun _ => rfl) (fun _ => rfl) c_bnd) rfl rfl ?_ | refine gl_yv (yv_sliceH tab_ok (gok_none rfl) rfl rfl rfl rfl rfl (fun _ => rfl) (fun _ => rfl) c_bnd) rfl rfl ?_)
      | (refine gl_arr0 ?_; refine gl_yv (yv_buildA tab_ok (gok_none rfl) rfl rfl rfl rfl (fun _ => allT_of rfl) rfl) rfl rfl ?_)
      | (refine gl_eqS ?_; first | refine gl_yv (yv_eqS tab_ok eqs_ok c_gok rfl rfl rfl rfl c_allT rfl rfl rfl) rfl rfl ?_)
      | (refine gl_neS ?_; first | refine gl_yv (yv_neS tab_ok eqs_ok c_gok rfl rfl rfl rfl c_allT rfl rfl rfl) rfl rfl ?_)
      | (refine gl_anyG ?_; refine gl_yv (yv_pure tab_ok c_gok rfl rfl c_allT) rfl rfl ?_))
    | (refine gc_gate ?_; first
      | refine gc_seq ?_
      | refine gc_region ?_
      | refine gc_quietRo rfl mixed (by decide +kernel) ?_
      | refine gc_true rfl ?_
      | refine gc_false rfl ?_
      | (refine gc_cond rfl ?_ ?_ <;> intro h_ <;> have hd_ := h_ <;> (try simp only [bytes_beq, cell_beq, val_beq, stamp_beq, decide_eq_true_eq, decide_eq_false_iff_not, Bool.and_eq_true, Bool.or_eq_true, Bool.or_eq_false_iff, Bool.not_eq_true', Bool.not_eq_false', Bool.not_true, Bool.not_false, Bool.false_or, Bool.true_and, Bool.and_true, Bool.or_false, beq_iff_eq, bne_iff_ne, beq_eq_false_iff_ne, bne_eq_false_iff_eq, ne_eq, Bool.false_eq_true, reduceCtorEq] at hd_) <;> (try (exfalso; omega)))
      | refine gc_block ?_
      | refine gc_exit ?_
      | refine gc_ret ?_
      | refine gc_skip ?_
      | refine gc_label ?_)
    | (refine ge_gate ?_; first
      | ((with_reducible refine ge_gT ?_); first | with_reducible refine ge_then ?_ | with_reducible refine ge_then_exit ?_ | with_reducible refine ge_then_ret ?_)
      | ((with_reducible refine ge_gK ?_); first | with_reducible refine ge_block ?_ | refine ge_block_exit ?_ | refine ge_block_pass rfl ?_ | with_reducible refine ge_block_ret ?_)
      | ((with_reducible refine ge_gB ?_); first | refine ge_ret1 tab_ok rfl c_rvt ?_ | refine ge_end1 tab_ok rfl c_rvt ?_ | refine ge_ret2 tab_ok rfl c_rvt c_rvt ?_ | refine ge_ret_none rfl ?_ | refine ge_end_none rfl ?_))
    | (refine gq_gate ?_; first
      | refine gq_nil ?_
      | (refine gq_load0 ?_; refine gq_yv (yv_load tab_ok (gok_none rfl) rfl rfl (fun _ => rfl) c_mem (fun _ => c_lds)) rfl rfl ?_)
      | (refine gq_add0 ?_; refine gq_yv (yv_add tab_ok (gok_none rfl) rfl rfl rfl rfl (fun _ => allT_of rfl) (by intro _; omega)) rfl rfl ?_)
      | (refine gq_sub0 ?_; refine gq_yv (yv_sub tab_ok (gok_none rfl) rfl rfl rfl rfl (fun _ => allT_of rfl) (by intro _; omega)) rfl rfl ?_)
      | (refine gq_idx0 ?_; refine gq_yv (yv_idxC tab_ok (gok_none rfl) rfl rfl rfl rfl rfl (fun _ => rfl) (fun _ => rfl) c_bnd) rfl rfl ?_)
      | (refine gq_pick0 ?_; first | refine gq_yv (yv_and (gok_none rfl) rfl rfl rfl (fun _ => rfl) c_imp2) rfl rfl ?_ | refine gq_yv (yv_or (gok_none rfl) rfl rfl rfl (fun _ => rfl) c_imp2) rfl rfl ?_)
      | (refine gq_idx0 ?_; refine gq_yv (yv_indexAddr tab_ok (gok_none rfl) rfl rfl rfl rfl rfl (fun _ => rfl) (fun _ => rfl) (by intro _; omega)) rfl rfl ?_)
      | (refine gq_addG ?_; refine gq_yv (yv_add tab_ok c_gok rfl rfl rfl rfl c_allT c_bnd) rfl rfl ?_)
      | (refine gq_subG ?_; refine gq_yv (yv_sub tab_ok c_gok rfl rfl rfl rfl c_allT c_bnd) rfl rfl ?_)
      | (refine gq_loadG ?_; refine gq_yv (yv_load tab_ok c_gok rfl rfl c_imp c_mem (fun _ => c_lds)) rfl rfl ?_)
      | (refine gq_pickG ?_; first | refine gq_yv (yv_and c_gok rfl rfl rfl c_imp c_imp2) rfl rfl ?_ | refine gq_yv (yv_or c_gok rfl rfl rfl c_imp c_imp2) rfl rfl ?_)
      | (refine gq_idxG ?_; refine gq_yv (yv_indexAddr tab_ok c_gok rfl rfl rfl rfl rfl c_imp c_imp c_bnd) rfl rfl ?_)
      | (refine gq_any0 ?_; refine gq_pure tab_ok rfl rfl rfl rfl rfl rfl ?_)
      | (refine gq_any0 ?_; first | refine gq_yv (yv_shr tab_ok (gok_none rfl) rfl rfl rfl (fun _ => rfl) (fun _ => rfl) c_bnd) rfl rfl ?_ | refine gq_yv (yv_rem tab_ok (gok_none rfl) rfl rfl rfl (fun _ => rfl) (fun _ => rfl) c_bnd) rfl rfl ?_ | refine gq_yv (yv_indexS tab_ok (gok_none rfl) rfl rfl rfl rfl (fun _ => rfl) (fun _ => rfl) c_bnd) rfl rfl ?_ | refine gq_yv (yv_sliceH tab_ok (gok_none rfl) rfl rfl rfl rfl rfl (fun _ => rfl) (fun _ => rfl) c_bnd) rfl rfl ?_)
      | (refine gq_arr0 ?_; refine gq_yv (yv_buildA tab_ok (gok_none rfl) rfl rfl rfl rfl (fun _ => allT_of rfl) rfl) rfl rfl ?_)
      | (refine gq_eqS ?_; first | refine gq_yv (yv_eqS tab_ok eqs_ok c_gok rfl rfl rfl rfl c_allT rfl rfl rfl) rfl rfl ?_)
      | (refine gq_neS ?_; first | refine gq_yv (yv_neS tab_ok eqs_ok c_gok rfl rfl rfl rfl c_allT rfl rfl rfl) rfl rfl ?_)
      | (refine gq_anyG ?_; refine gq_yv (yv_pure tab_ok c_gok rfl rfl c_allT) rfl rfl ?_))
  · intro W hW
    have hg : t.gone s = true := by unfold Node.gone Node.isRef; clear hW; simp_all
    have hrm : t.rem s = Node.bad := by rw [Node.rem_eq', hg]; rfl
    rw [hrm]
    exact ⟨(none, 0), rfl, .mk (kp := fun _ => none) (kc := fun _ => 0) SlA.nil (fun h => by cases h) (fun i hi => by cases hi), hW.below0⟩
  · intro W hW
    have hg : t.gone s = false := by
      unfold Node.gone Node.isRef
      clear hW hB2 hB3 hB3' hN3 ih hR
      rw [← h_, bytes_beq]
      congr 1
    refine ⟨(q.map ad, c'), by rw [Node.rem_l s t hg]; rfl, nodeR_nodes (n := t.kids.length) (nd := fun i => (t.kids.getD i default).rem s) (kp := kp) (kc := kc) (by rw [Node.rem_kids s t hg, List.length_map]) (fun j hj => by rw [Node.rem_kids s t hg]; simp [List.getD, hj]) hW c_oa hN3.1 (fun g hg => ow_ge hB3 hg) (fun j hj => (hN3.2 j hj).mono (fun b hb _ => Nat.le_trans hB2.size hb.1) (fun b hb hlt => hW.frame b hlt (not_wrs_ow hb.2 (hB2.fresh hb.1)))), (hB3.trans hW).below0⟩
end Go.Proofs.Ytkgjfcjciigcgaa
