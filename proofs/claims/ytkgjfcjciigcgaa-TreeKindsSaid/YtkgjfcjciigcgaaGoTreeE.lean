/-
  tree.Right says what the reference says; the law TreeTells.
-/
import Derived.Test.YtkgjfcjciigcgaaGoTreeD
namespace Go.Proofs.Ytkgjfcjciigcgaa
open Go.Proofs.Ytkgjfcjciigcgaa.Sl Go.RowKit
set_option linter.unusedVariables false
set_option linter.unusedSimpArgs false
set_option maxRecDepth 100000
namespace Node
theorem hs_mk (n : Node) (k o nm v c t ks) : n.headSame (.mk k o nm v c t ks) = (decide (n.kind = k) && decide (n.op = o) && decide (n.name = nm) && decide (n.value = v) && decide (n.cell = c) && decide (n.to = t)) := rfl
theorem kids_mk (k o nm v c t ks) : (Node.mk k o nm v c t ks).kids = ks := rfl
theorem fo_eq (n : Node) : (n.fieldsOk && n.ownOk) = (n.bare && n.tailOk) := by
  by_cases h1 : n.kind = 1
  · have ho : n.onlyN = .mk n.kind .empty .empty n.value c0 c0 [] := by unfold onlyN; simp only [h1, if_true, if_false, Int.reduceEq, or_self, or_true, true_or]
    unfold ownOk fieldsOk bare tailOk small400 constOk
    rw [ho, hs_mk, kids_mk]
    simp only [h1, if_true, if_false, Int.reduceEq, or_self, or_true, true_or, decide_true, decide_false, Bool.true_and, Bool.and_true, List.length_nil, emp]
    rw [Bool.eq_iff_iff]
    simp only [Bool.and_eq_true, Bool.or_eq_true, decide_eq_true_eq]
    constructor
    · intro h; simp_all
    · intro h; simp_all
  by_cases h2 : n.kind = 2
  · have ho : n.onlyN = .mk n.kind .empty .empty v0 n.cell c0 [] := by unfold onlyN; simp only [h2, if_true, if_false, Int.reduceEq, or_self, or_true, true_or]
    unfold ownOk fieldsOk bare tailOk small400 constOk
    rw [ho, hs_mk, kids_mk]
    simp only [h2, if_true, if_false, Int.reduceEq, or_self, or_true, true_or, decide_true, decide_false, Bool.true_and, Bool.and_true, List.length_nil, emp]
    rw [Bool.eq_iff_iff]
    simp only [Bool.and_eq_true, Bool.or_eq_true, decide_eq_true_eq]
    constructor
    · intro h; simp_all
    · intro h; simp_all
  by_cases h3 : n.kind = 3
  · have ho : n.onlyN = .mk n.kind .empty .empty v0 n.cell n.to [] := by unfold onlyN; simp only [h3, if_true, if_false, Int.reduceEq, or_self, or_true, true_or]
    unfold ownOk fieldsOk bare tailOk small400 constOk
    rw [ho, hs_mk, kids_mk]
    simp only [h3, if_true, if_false, Int.reduceEq, or_self, or_true, true_or, decide_true, decide_false, Bool.true_and, Bool.and_true, List.length_nil, emp]
    rw [Bool.eq_iff_iff]
    simp only [Bool.and_eq_true, Bool.or_eq_true, decide_eq_true_eq]
    constructor
    · intro h; simp_all
    · intro h; simp_all
  by_cases h4 : n.kind = 4
  · have ho : n.onlyN = .mk n.kind n.op .empty v0 c0 c0 n.kids := by unfold onlyN; simp only [h4, if_true, if_false, Int.reduceEq, or_self, or_true, true_or]
    unfold ownOk fieldsOk bare tailOk small400 constOk
    rw [ho, hs_mk, kids_mk]
    simp only [h4, if_true, if_false, Int.reduceEq, or_self, or_true, true_or, decide_true, decide_false, Bool.true_and, Bool.and_true, List.length_nil, emp]
    rw [Bool.eq_iff_iff]
    simp only [Bool.and_eq_true, Bool.or_eq_true, decide_eq_true_eq]
    constructor
    · intro h; simp_all
    · intro h; simp_all
  by_cases h5 : n.kind = 5
  · have ho : n.onlyN = .mk n.kind n.op .empty v0 c0 c0 n.kids := by unfold onlyN; simp only [h5, if_true, if_false, Int.reduceEq, or_self, or_true, true_or]
    unfold ownOk fieldsOk bare tailOk small400 constOk
    rw [ho, hs_mk, kids_mk]
    simp only [h5, if_true, if_false, Int.reduceEq, or_self, or_true, true_or, decide_true, decide_false, Bool.true_and, Bool.and_true, List.length_nil, emp]
    rw [Bool.eq_iff_iff]
    simp only [Bool.and_eq_true, Bool.or_eq_true, decide_eq_true_eq]
    constructor
    · intro h; simp_all
    · intro h; simp_all
  by_cases h6 : n.kind = 6
  · have ho : n.onlyN = .mk n.kind .empty n.name v0 c0 c0 n.kids := by unfold onlyN; simp only [h6, if_true, if_false, Int.reduceEq, or_self, or_true, true_or]
    unfold ownOk fieldsOk bare tailOk small400 constOk
    rw [ho, hs_mk, kids_mk]
    simp only [h6, if_true, if_false, Int.reduceEq, or_self, or_true, true_or, decide_true, decide_false, Bool.true_and, Bool.and_true, List.length_nil, emp]
    rw [Bool.eq_iff_iff]
    simp only [Bool.and_eq_true, Bool.or_eq_true, decide_eq_true_eq]
    constructor
    · intro h; simp_all
    · intro h; simp_all
  by_cases h7 : n.kind = 7
  · have ho : n.onlyN = .mk n.kind .empty .empty v0 c0 c0 [] := by unfold onlyN; simp only [h7, if_true, if_false, Int.reduceEq, or_self, or_true, true_or]
    unfold ownOk fieldsOk bare tailOk small400 constOk
    rw [ho, hs_mk, kids_mk]
    simp only [h7, if_true, if_false, Int.reduceEq, or_self, or_true, true_or, decide_true, decide_false, Bool.true_and, Bool.and_true, List.length_nil, emp]
  unfold fieldsOk bare
  simp only [h1, h2, h3, h4, h5, h6, h7, if_false, or_self, decide_false, Bool.false_and]
theorem dl_iff : ∀ (l : List Node) (m b : Int), depthL l m ≤ b ↔ m ≤ b ∧ ∀ x ∈ l, x.depth ≤ b
  | [], m, b => by simp [depthL]
  | k :: ks, m, b => by
    rw [depthL, dl_iff ks]
    simp only [List.mem_cons, forall_eq_or_imp]
    constructor
    · rintro ⟨h, h2⟩; exact ⟨by omega, by omega, h2⟩
    · rintro ⟨h, h2, h3⟩; exact ⟨by omega, h3⟩
theorem rdl : ∀ (l : List Node) (d : Int), (∀ x ∈ l, x.rightD d = (decide (x.depth ≤ d) && x.right)) → (rightDL l d = true ↔ (∀ x ∈ l, x.depth ≤ d) ∧ rightL l = true)
  | [], d, _ => by simp [rightDL, rightL]
  | k :: ks, d, ih => by
    rw [rightDL, rightL, ih k (by simp)]
    simp only [List.mem_cons, forall_eq_or_imp, Bool.and_eq_true, decide_eq_true_eq, rdl ks d fun x hx => ih x (by simp [hx])]
    constructor
    · rintro ⟨⟨h, h2⟩, h3, h4⟩; exact ⟨⟨h, h3⟩, h2, h4⟩
    · rintro ⟨⟨h, h3⟩, h2, h4⟩; exact ⟨⟨h, h2⟩, h3, h4⟩
theorem rightD_depth (n : Node) : ∀ d : Int, n.rightD d = (decide (n.depth ≤ d) && n.right) := by
  induction n using Node.ind with
  | h n ih =>
  intro d
  have hf := fo_eq n
  rw [rightD_eq, right_eq, depth_eq, Bool.and_assoc (decide (1 ≤ d)), hf, Bool.eq_iff_iff]
  simp only [Bool.and_eq_true, decide_eq_true_eq, rdl n.kids (d - 1) fun x hx => ih x hx (d - 1)]
  have hd := dl_iff n.kids 0 (d - 1)
  constructor
  · rintro ⟨⟨h1, h2, h3⟩, h4, h5⟩
    have := hd.2 ⟨by omega, h4⟩
    exact ⟨by omega, ⟨h2, h5⟩, h3⟩
  · rintro ⟨h1, ⟨h2, h5⟩, h3⟩
    have := hd.1 (by omega)
    exact ⟨⟨by omega, h2, h3⟩, this.2, h5⟩
theorem rightD20 (n : Node) : n.rightD 20 = n.rightNode := n.rightD_depth 20
theorem r0 {S : Nat → Prop} {w : World} {t : Node} (h : t.kids.length = 0) : NodeR S w t none :=
  .mk (kp := fun _ => none) (kc := fun _ => 0) (by rw [h]; exact SlA.nil) (fun h0 => absurd h (by omega)) (fun i hi => absurd hi (by omega))
end Node
theorem few_lt {t : Node} (h : t.few = true) : t.count ≤ 1000000 := by have := Node.few_count h; omega
theorem ct_rightT {t : Node} {b : Bool} (h : t.rightD 20 = b) (p : Option Addr) (c : Nat) {S : Nat → Prop} (w : World) (hR : NodeR S w t p) (hc : t.count ≤ 1000000) : Calls Try.prog 66 #[.agg (t.l p c).toArray] w fun e w' => e = .returned (.bool b) ∧ Below w.heap.size w w' := h ▸ ct_treeRight t p c w S hR hc
theorem ct_alive5 (w : World) : Calls Try.prog 64 #[] w fun e w' => e = .returned (.bool true) ∧ Below w.heap.size w w' := by
  refine enter (args := []) (M := []) (K := []) Try.func64 rfl Try.ntmps64 rfl (St.refl _ _) ?_
  repeat' first
    | (refine gl_gate ?_; first
      | refine gl_nil ?_
      | (refine gl_load0 ?_; refine gl_yv (yv_load tab_ok (gok_none rfl) rfl rfl (fun _ => rfl) c_mem (fun _ => c_lds)) rfl rfl ?_)
      | (refine gl_add0 ?_; refine gl_yv (yv_add tab_ok (gok_none rfl) rfl rfl rfl rfl (fun _ => allT_of rfl) (by intro _; omega)) rfl rfl ?_)
      | (refine gl_sub0 ?_; refine gl_yv (yv_sub tab_ok (gok_none rfl) rfl rfl rfl rfl (fun _ => allT_of rfl) (by intro _; omega)) rfl rfl ?_)
      | (refine gl_idx0 ?_; refine gl_yv (yv_idxC tab_ok (gok_none rfl) rfl rfl rfl rfl rfl (fun _ => rfl) (fun _ => rfl) c_bnd) rfl rfl ?_)
      | (refine gl_bld0 ?_; (refine gl_ev (ev_buildSlice tab_ok rfl rfl rfl rfl rfl rfl rfl rfl rfl rfl ?_) rfl rfl; intro g_ hg_))
      | (refine gl_mul0 ?_; refine gl_yv (yv_mul tab_ok (gok_none rfl) rfl rfl rfl rfl (fun _ => allT_of rfl) c_bnd) rfl rfl ?_)
      | (refine gl_calv0 ?_; first | refine gl_yd (yd_call (gok_none rfl) rfl ent65 rfl rfl (fun _ => allT_of rfl) (fun _ W hW => ct_Depth (S := All) (.mk 1 .empty .empty Node.v0 Node.c0 Node.c0 []) none 0 W (Node.r0 rfl) (by simp [Node.count, Node.countL]))) rfl rfl ?_)
      | (refine gl_calvG ?_; first | refine gl_yd (yd_call c_gok rfl ent65 rfl rfl c_allT (fun _ W hW => ct_Depth (S := All) (.mk 1 .empty .empty Node.v0 Node.c0 Node.c0 []) none 0 W (Node.r0 rfl) (by simp [Node.count, Node.countL]))) rfl rfl ?_)
      | (refine gl_pick0 ?_; first | refine gl_yv (yv_and (gok_none rfl) rfl rfl rfl (fun _ => rfl) c_imp2) rfl rfl ?_ | refine gl_yv (yv_or (gok_none rfl) rfl rfl rfl (fun _ => rfl) c_imp2) rfl rfl ?_)
      | (refine gl_idx0 ?_; refine gl_yv (yv_indexAddr tab_ok (gok_none rfl) rfl rfl rfl rfl rfl (fun _ => rfl) (fun _ => rfl) (by intro _; omega)) rfl rfl ?_)
      | (refine gl_addG ?_; refine gl_yv (yv_add tab_ok c_gok rfl rfl rfl rfl c_allT c_bnd) rfl rfl ?_)
      | (refine gl_subG ?_; refine gl_yv (yv_sub tab_ok c_gok rfl rfl rfl rfl c_allT c_bnd) rfl rfl ?_)
      | (refine gl_loadG ?_; refine gl_yv (yv_load tab_ok c_gok rfl rfl c_imp c_mem (fun _ => c_lds)) rfl rfl ?_)
      | (refine gl_pickG ?_; first | refine gl_yv (yv_and c_gok rfl rfl rfl c_imp c_imp2) rfl rfl ?_ | refine gl_yv (yv_or c_gok rfl rfl rfl c_imp c_imp2) rfl rfl ?_)
      | (refine gl_idxG ?_; refine gl_yv (yv_indexAddr tab_ok c_gok rfl rfl rfl rfl rfl c_imp c_imp c_bnd) rfl rfl ?_)
      | (refine gl_box0 ?_; first | (refine gl_box_agg rfl rfl rfl rfl rfl ?_; intro g_ hg_) | (refine gl_box_one rfl rfl rfl rfl rfl rfl ?_; intro g_ hg_) | (refine gl_box rfl rfl rfl rfl rfl ?_; intro g_ hg_))
      | (refine gl_alc0 ?_; (refine gl_alloc tab_ok rfl rfl rfl rfl rfl ?_; intro g_ hg_))
      | (refine gl_sto0 ?_; refine gl_store tab_ok rfl rfl rfl rfl rfl rfl rfl c_one rfl c_ku ?_)
      | (refine gl_any0 ?_; refine gl_pure tab_ok rfl rfl rfl rfl rfl rfl ?_)
      | (refine gl_any0 ?_; first | refine gl_yv (yv_shr tab_ok (gok_none rfl) rfl rfl rfl (fun _ => rfl) (fun _ => rfl) c_bnd) rfl rfl ?_ | refine gl_yv (yv_rem tab_ok (gok_none rfl) rfl rfl rfl (fun _ => rfl) (fun _ => rfl) c_bnd) rfl rfl ?_ | refine gl_yv (yv_indexS tab_ok (gok_none rfl) rfl rfl rfl rfl (fun _ => rfl) (fun _ => rfl) c_bnd) rfl rfl ?_ | refine gl_yv (yv_sliceH tab_ok (gok_none rfl) rfl rfl rfl rfl rfl (fun _ => rfl) (fun _ => rfl) c_bnd) rfl rfl ?_)
      | (refine gl_arr0 ?_; refine gl_yv (yv_buildA tab_ok (gok_none rfl) rfl rfl rfl rfl (fun _ => allT_of rfl) rfl) rfl rfl ?_)
      | (refine gl_eqS ?_; first | refine gl_yv (yv_eqS tab_ok eqs_ok c_gok rfl rfl rfl rfl c_allT rfl rfl rfl) rfl rfl ?_)
      | (refine gl_neS ?_; first | refine gl_yv (yv_neS tab_ok eqs_ok c_gok rfl rfl rfl rfl c_allT rfl rfl rfl) rfl rfl ?_)
      | (refine gl_anyG ?_; first | refine gl_yv (yv_pure tab_ok c_gok rfl rfl c_allT) rfl rfl ?_ | refine gl_yv (yv_indexS tab_ok c_gok rfl rfl rfl rfl c_imp c_imp (by intro hq_; (try simp only [Bool.and_eq_true, Bool.not_eq_true', Bool.not_eq_false', Bool.or_eq_false_iff, Bool.or_eq_true, decide_eq_true_eq, decide_eq_false_iff_not, Bool.true_and, Bool.and_true] at hq_); omega)) rfl rfl ?_ | refine gl_yv (yv_indexS (i := 0) tab_ok c_gok rfl rfl rfl rfl c_imp c_imp (by intro hq_; (try simp only [Bool.and_eq_true, Bool.not_eq_true', Bool.not_eq_false', Bool.or_eq_false_iff, Bool.or_eq_true, decide_eq_true_eq, decide_eq_false_iff_not, Bool.true_and, Bool.and_true] at hq_); omega)) rfl rfl ?_))
    | (refine gc_gate ?_; first
      | refine gc_seq ?_
      | refine gc_region ?_
      | refine gc_quietRo rfl mixed (by decide +kernel) ?_
      | refine gc_true rfl ?_
      | refine gc_false rfl ?_
      | (refine gc_cond rfl ?_ ?_ <;> intro h_ <;> have hd_ := h_ <;> (try simp only [bytes_beq, cell_beq, val_beq, stamp_beq, decide_eq_true_eq, decide_eq_false_iff_not, Bool.and_eq_true, Bool.or_eq_true, Bool.or_eq_false_iff, Bool.not_eq_true', Bool.not_eq_false', Bool.not_true, Bool.not_false, Bool.false_or, Bool.true_and, Bool.and_true, Bool.or_false, beq_iff_eq, bne_iff_ne, beq_eq_false_iff_ne, bne_eq_false_iff_eq, ne_eq, Bool.false_eq_true, reduceCtorEq] at hd_) <;> (try (exfalso; omega)))
      | refine gc_block ?_
      | refine gc_exit ?_
      | refine gc_ret ?_
      | refine gc_skip ?_
      | refine gc_label ?_)
    | (refine ge_gate ?_; first
      | ((with_reducible refine ge_gT ?_); first | with_reducible refine ge_then ?_ | with_reducible refine ge_then_exit ?_ | with_reducible refine ge_then_ret ?_)
      | ((with_reducible refine ge_gK ?_); first | with_reducible refine ge_block ?_ | refine ge_block_exit ?_ | refine ge_block_pass rfl ?_ | with_reducible refine ge_block_ret ?_)
      | ((with_reducible refine ge_gB ?_); first | refine ge_ret1 tab_ok rfl c_rvt ?_ | refine ge_end1 tab_ok rfl c_rvt ?_ | refine ge_ret2 tab_ok rfl c_rvt c_rvt ?_ | refine ge_ret_none rfl ?_ | refine ge_end_none rfl ?_))
    | (refine gq_gate ?_; first
      | refine gq_nil ?_
      | (refine gq_load0 ?_; refine gq_yv (yv_load tab_ok (gok_none rfl) rfl rfl (fun _ => rfl) c_mem (fun _ => c_lds)) rfl rfl ?_)
      | (refine gq_add0 ?_; refine gq_yv (yv_add tab_ok (gok_none rfl) rfl rfl rfl rfl (fun _ => allT_of rfl) (by intro _; omega)) rfl rfl ?_)
      | (refine gq_sub0 ?_; refine gq_yv (yv_sub tab_ok (gok_none rfl) rfl rfl rfl rfl (fun _ => allT_of rfl) (by intro _; omega)) rfl rfl ?_)
      | (refine gq_idx0 ?_; refine gq_yv (yv_idxC tab_ok (gok_none rfl) rfl rfl rfl rfl rfl (fun _ => rfl) (fun _ => rfl) c_bnd) rfl rfl ?_)
      | (refine gq_calv0 ?_; first | refine gq_yd (yd_call (gok_none rfl) rfl ent65 rfl rfl (fun _ => allT_of rfl) (fun _ W hW => ct_Depth (S := All) (.mk 1 .empty .empty Node.v0 Node.c0 Node.c0 []) none 0 W (Node.r0 rfl) (by simp [Node.count, Node.countL]))) rfl rfl ?_)
      | (refine gq_calvG ?_; first | refine gq_yd (yd_call c_gok rfl ent65 rfl rfl c_allT (fun _ W hW => ct_Depth (S := All) (.mk 1 .empty .empty Node.v0 Node.c0 Node.c0 []) none 0 W (Node.r0 rfl) (by simp [Node.count, Node.countL]))) rfl rfl ?_)
      | (refine gq_pick0 ?_; first | refine gq_yv (yv_and (gok_none rfl) rfl rfl rfl (fun _ => rfl) c_imp2) rfl rfl ?_ | refine gq_yv (yv_or (gok_none rfl) rfl rfl rfl (fun _ => rfl) c_imp2) rfl rfl ?_)
      | (refine gq_idx0 ?_; refine gq_yv (yv_indexAddr tab_ok (gok_none rfl) rfl rfl rfl rfl rfl (fun _ => rfl) (fun _ => rfl) (by intro _; omega)) rfl rfl ?_)
      | (refine gq_addG ?_; refine gq_yv (yv_add tab_ok c_gok rfl rfl rfl rfl c_allT c_bnd) rfl rfl ?_)
      | (refine gq_subG ?_; refine gq_yv (yv_sub tab_ok c_gok rfl rfl rfl rfl c_allT c_bnd) rfl rfl ?_)
      | (refine gq_loadG ?_; refine gq_yv (yv_load tab_ok c_gok rfl rfl c_imp c_mem (fun _ => c_lds)) rfl rfl ?_)
      | (refine gq_pickG ?_; first | refine gq_yv (yv_and c_gok rfl rfl rfl c_imp c_imp2) rfl rfl ?_ | refine gq_yv (yv_or c_gok rfl rfl rfl c_imp c_imp2) rfl rfl ?_)
      | (refine gq_idxG ?_; refine gq_yv (yv_indexAddr tab_ok c_gok rfl rfl rfl rfl rfl c_imp c_imp c_bnd) rfl rfl ?_)
      | (refine gq_any0 ?_; refine gq_pure tab_ok rfl rfl rfl rfl rfl rfl ?_)
      | (refine gq_any0 ?_; first | refine gq_yv (yv_shr tab_ok (gok_none rfl) rfl rfl rfl (fun _ => rfl) (fun _ => rfl) c_bnd) rfl rfl ?_ | refine gq_yv (yv_rem tab_ok (gok_none rfl) rfl rfl rfl (fun _ => rfl) (fun _ => rfl) c_bnd) rfl rfl ?_ | refine gq_yv (yv_indexS tab_ok (gok_none rfl) rfl rfl rfl rfl (fun _ => rfl) (fun _ => rfl) c_bnd) rfl rfl ?_ | refine gq_yv (yv_sliceH tab_ok (gok_none rfl) rfl rfl rfl rfl rfl (fun _ => rfl) (fun _ => rfl) c_bnd) rfl rfl ?_)
      | (refine gq_arr0 ?_; refine gq_yv (yv_buildA tab_ok (gok_none rfl) rfl rfl rfl rfl (fun _ => allT_of rfl) rfl) rfl rfl ?_)
      | (refine gq_eqS ?_; first | refine gq_yv (yv_eqS tab_ok eqs_ok c_gok rfl rfl rfl rfl c_allT rfl rfl rfl) rfl rfl ?_)
      | (refine gq_neS ?_; first | refine gq_yv (yv_neS tab_ok eqs_ok c_gok rfl rfl rfl rfl c_allT rfl rfl rfl) rfl rfl ?_)
      | (refine gq_anyG ?_; first | refine gq_yv (yv_pure tab_ok c_gok rfl rfl c_allT) rfl rfl ?_ | refine gq_yv (yv_indexS tab_ok c_gok rfl rfl rfl rfl c_imp c_imp (by intro hq_; (try simp only [Bool.and_eq_true, Bool.not_eq_true', Bool.not_eq_false', Bool.or_eq_false_iff, Bool.or_eq_true, decide_eq_true_eq, decide_eq_false_iff_not, Bool.true_and, Bool.and_true] at hq_); omega)) rfl rfl ?_ | refine gq_yv (yv_indexS (i := 0) tab_ok c_gok rfl rfl rfl rfl c_imp c_imp (by intro hq_; (try simp only [Bool.and_eq_true, Bool.not_eq_true', Bool.not_eq_false', Bool.or_eq_false_iff, Bool.or_eq_true, decide_eq_true_eq, decide_eq_false_iff_not, Bool.true_and, Bool.and_true] at hq_); omega)) rfl rfl ?_))
  refine gl_yd (yd_call c_gok rfl ent66 rfl rfl c_allT (fun _ W hW => ct_rightT (t := .mk 7 .empty .empty Node.v0 Node.c0 Node.c0 []) (b := true) (by decide +kernel) none 0 (S := All) W (Node.r0 rfl) (by simp [Node.count, Node.countL]))) rfl rfl ?_
  repeat' first
    | (refine gl_gate ?_; first
      | refine gl_nil ?_
      | (refine gl_load0 ?_; refine gl_yv (yv_load tab_ok (gok_none rfl) rfl rfl (fun _ => rfl) c_mem (fun _ => c_lds)) rfl rfl ?_)
      | (refine gl_add0 ?_; refine gl_yv (yv_add tab_ok (gok_none rfl) rfl rfl rfl rfl (fun _ => allT_of rfl) (by intro _; omega)) rfl rfl ?_)
      | (refine gl_sub0 ?_; refine gl_yv (yv_sub tab_ok (gok_none rfl) rfl rfl rfl rfl (fun _ => allT_of rfl) (by intro _; omega)) rfl rfl ?_)
      | (refine gl_idx0 ?_; refine gl_yv (yv_idxC tab_ok (gok_none rfl) rfl rfl rfl rfl rfl (fun _ => rfl) (fun _ => rfl) c_bnd) rfl rfl ?_)
      | (refine gl_bld0 ?_; (refine gl_ev (ev_buildSlice tab_ok rfl rfl rfl rfl rfl rfl rfl rfl rfl rfl ?_) rfl rfl; intro g_ hg_))
      | (refine gl_mul0 ?_; refine gl_yv (yv_mul tab_ok (gok_none rfl) rfl rfl rfl rfl (fun _ => allT_of rfl) c_bnd) rfl rfl ?_)
      | (refine gl_pick0 ?_; first | refine gl_yv (yv_and (gok_none rfl) rfl rfl rfl (fun _ => rfl) c_imp2) rfl rfl ?_ | refine gl_yv (yv_or (gok_none rfl) rfl rfl rfl (fun _ => rfl) c_imp2) rfl rfl ?_)
      | (refine gl_idx0 ?_; refine gl_yv (yv_indexAddr tab_ok (gok_none rfl) rfl rfl rfl rfl rfl (fun _ => rfl) (fun _ => rfl) (by intro _; omega)) rfl rfl ?_)
      | (refine gl_addG ?_; refine gl_yv (yv_add tab_ok c_gok rfl rfl rfl rfl c_allT c_bnd) rfl rfl ?_)
      | (refine gl_subG ?_; refine gl_yv (yv_sub tab_ok c_gok rfl rfl rfl rfl c_allT c_bnd) rfl rfl ?_)
      | (refine gl_loadG ?_; refine gl_yv (yv_load tab_ok c_gok rfl rfl c_imp c_mem (fun _ => c_lds)) rfl rfl ?_)
      | (refine gl_pickG ?_; first | refine gl_yv (yv_and c_gok rfl rfl rfl c_imp c_imp2) rfl rfl ?_ | refine gl_yv (yv_or c_gok rfl rfl rfl c_imp c_imp2) rfl rfl ?_)
      | (refine gl_idxG ?_; refine gl_yv (yv_indexAddr tab_ok c_gok rfl rfl rfl rfl rfl c_imp c_imp c_bnd) rfl rfl ?_)
      | (refine gl_box0 ?_; first | (refine gl_box_agg rfl rfl rfl rfl rfl ?_; intro g_ hg_) | (refine gl_box_one rfl rfl rfl rfl rfl rfl ?_; intro g_ hg_) | (refine gl_box rfl rfl rfl rfl rfl ?_; intro g_ hg_))
      | (refine gl_alc0 ?_; (refine gl_alloc tab_ok rfl rfl rfl rfl rfl ?_; intro g_ hg_))
      | (refine gl_sto0 ?_; refine gl_store tab_ok rfl rfl rfl rfl rfl rfl rfl c_one rfl c_ku ?_)
      | (refine gl_any0 ?_; refine gl_pure tab_ok rfl rfl rfl rfl rfl rfl ?_)
      | (refine gl_any0 ?_; first | refine gl_yv (yv_shr tab_ok (gok_none rfl) rfl rfl rfl (fun _ => rfl) (fun _ => rfl) c_bnd) rfl rfl ?_ | refine gl_yv (yv_rem tab_ok (gok_none rfl) rfl rfl rfl (fun _ => rfl) (fun _ => rfl) c_bnd) rfl rfl ?_ | refine gl_yv (yv_indexS tab_ok (gok_none rfl) rfl rfl rfl rfl (fun _ => rfl) (fun _ => rfl) c_bnd) rfl rfl ?_ | refine gl_yv (yv_sliceH tab_ok (gok_none rfl) rfl rfl rfl rfl rfl (fun _ => rfl) (fun _ => rfl) c_bnd) rfl rfl ?_)
      | (refine gl_arr0 ?_; refine gl_yv (yv_buildA tab_ok (gok_none rfl) rfl rfl rfl rfl (fun _ => allT_of rfl) rfl) rfl rfl ?_)
      | (refine gl_eqS ?_; first | refine gl_yv (yv_eqS tab_ok eqs_ok c_gok rfl rfl rfl rfl c_allT rfl rfl rfl) rfl rfl ?_)
      | (refine gl_neS ?_; first | refine gl_yv (yv_neS tab_ok eqs_ok c_gok rfl rfl rfl rfl c_allT rfl rfl rfl) rfl rfl ?_)
      | (refine gl_anyG ?_; first | refine gl_yv (yv_pure tab_ok c_gok rfl rfl c_allT) rfl rfl ?_ | refine gl_yv (yv_indexS tab_ok c_gok rfl rfl rfl rfl c_imp c_imp (by intro hq_; (try simp only [Bool.and_eq_true, Bool.not_eq_true', Bool.not_eq_false', Bool.or_eq_false_iff, Bool.or_eq_true, decide_eq_true_eq, decide_eq_false_iff_not, Bool.true_and, Bool.and_true] at hq_); omega)) rfl rfl ?_ | refine gl_yv (yv_indexS (i := 0) tab_ok c_gok rfl rfl rfl rfl c_imp c_imp (by intro hq_; (try simp only [Bool.and_eq_true, Bool.not_eq_true', Bool.not_eq_false', Bool.or_eq_false_iff, Bool.or_eq_true, decide_eq_true_eq, decide_eq_false_iff_not, Bool.true_and, Bool.and_true] at hq_); omega)) rfl rfl ?_))
    | (refine gc_gate ?_; first
      | refine gc_seq ?_
      | refine gc_region ?_
      | refine gc_quietRo rfl mixed (by decide +kernel) ?_
      | refine gc_true rfl ?_
      | refine gc_false rfl ?_
      | (refine gc_cond rfl ?_ ?_ <;> intro h_ <;> have hd_ := h_ <;> (try simp only [bytes_beq, cell_beq, val_beq, stamp_beq, decide_eq_true_eq, decide_eq_false_iff_not, Bool.and_eq_true, Bool.or_eq_true, Bool.or_eq_false_iff, Bool.not_eq_true', Bool.not_eq_false', Bool.not_true, Bool.not_false, Bool.false_or, Bool.true_and, Bool.and_true, Bool.or_false, beq_iff_eq, bne_iff_ne, beq_eq_false_iff_ne, bne_eq_false_iff_eq, ne_eq, Bool.false_eq_true, reduceCtorEq] at hd_) <;> (try (exfalso; omega)))
      | refine gc_block ?_
      | refine gc_exit ?_
      | refine gc_ret ?_
      | refine gc_skip ?_
      | refine gc_label ?_)
    | (refine ge_gate ?_; first
      | ((with_reducible refine ge_gT ?_); first | with_reducible refine ge_then ?_ | with_reducible refine ge_then_exit ?_ | with_reducible refine ge_then_ret ?_)
      | ((with_reducible refine ge_gK ?_); first | with_reducible refine ge_block ?_ | refine ge_block_exit ?_ | refine ge_block_pass rfl ?_ | with_reducible refine ge_block_ret ?_)
      | ((with_reducible refine ge_gB ?_); first | refine ge_ret1 tab_ok rfl c_rvt ?_ | refine ge_end1 tab_ok rfl c_rvt ?_ | refine ge_ret2 tab_ok rfl c_rvt c_rvt ?_ | refine ge_ret_none rfl ?_ | refine ge_end_none rfl ?_))
    | (refine gq_gate ?_; first
      | refine gq_nil ?_
      | (refine gq_load0 ?_; refine gq_yv (yv_load tab_ok (gok_none rfl) rfl rfl (fun _ => rfl) c_mem (fun _ => c_lds)) rfl rfl ?_)
      | (refine gq_add0 ?_; refine gq_yv (yv_add tab_ok (gok_none rfl) rfl rfl rfl rfl (fun _ => allT_of rfl) (by intro _; omega)) rfl rfl ?_)
      | (refine gq_sub0 ?_; refine gq_yv (yv_sub tab_ok (gok_none rfl) rfl rfl rfl rfl (fun _ => allT_of rfl) (by intro _; omega)) rfl rfl ?_)
      | (refine gq_idx0 ?_; refine gq_yv (yv_idxC tab_ok (gok_none rfl) rfl rfl rfl rfl rfl (fun _ => rfl) (fun _ => rfl) c_bnd) rfl rfl ?_)
      | (refine gq_pick0 ?_; first | refine gq_yv (yv_and (gok_none rfl) rfl rfl rfl (fun _ => rfl) c_imp2) rfl rfl ?_ | refine gq_yv (yv_or (gok_none rfl) rfl rfl rfl (fun _ => rfl) c_imp2) rfl rfl ?_)
      | (refine gq_idx0 ?_; refine gq_yv (yv_indexAddr tab_ok (gok_none rfl) rfl rfl rfl rfl rfl (fun _ => rfl) (fun _ => rfl) (by intro _; omega)) rfl rfl ?_)
      | (refine gq_addG ?_; refine gq_yv (yv_add tab_ok c_gok rfl rfl rfl rfl c_allT c_bnd) rfl rfl ?_)
      | (refine gq_subG ?_; refine gq_yv (yv_sub tab_ok c_gok rfl rfl rfl rfl c_allT c_bnd) rfl rfl ?_)
      | (refine gq_loadG ?_; refine gq_yv (yv_load tab_ok c_gok rfl rfl c_imp c_mem (fun _ => c_lds)) rfl rfl ?_)
      | (refine gq_pickG ?_; first | refine gq_yv (yv_and c_gok rfl rfl rfl c_imp c_imp2) rfl rfl ?_ | refine gq_yv (yv_or c_gok rfl rfl rfl c_imp c_imp2) rfl rfl ?_)
      | (refine gq_idxG ?_; refine gq_yv (yv_indexAddr tab_ok c_gok rfl rfl rfl rfl rfl c_imp c_imp c_bnd) rfl rfl ?_)
      | (refine gq_any0 ?_; refine gq_pure tab_ok rfl rfl rfl rfl rfl rfl ?_)
      | (refine gq_any0 ?_; first | refine gq_yv (yv_shr tab_ok (gok_none rfl) rfl rfl rfl (fun _ => rfl) (fun _ => rfl) c_bnd) rfl rfl ?_ | refine gq_yv (yv_rem tab_ok (gok_none rfl) rfl rfl rfl (fun _ => rfl) (fun _ => rfl) c_bnd) rfl rfl ?_ | refine gq_yv (yv_indexS tab_ok (gok_none rfl) rfl rfl rfl rfl (fun _ => rfl) (fun _ => rfl) c_bnd) rfl rfl ?_ | refine gq_yv (yv_sliceH tab_ok (gok_none rfl) rfl rfl rfl rfl rfl (fun _ => rfl) (fun _ => rfl) c_bnd) rfl rfl ?_)
      | (refine gq_arr0 ?_; refine gq_yv (yv_buildA tab_ok (gok_none rfl) rfl rfl rfl rfl (fun _ => allT_of rfl) rfl) rfl rfl ?_)
      | (refine gq_eqS ?_; first | refine gq_yv (yv_eqS tab_ok eqs_ok c_gok rfl rfl rfl rfl c_allT rfl rfl rfl) rfl rfl ?_)
      | (refine gq_neS ?_; first | refine gq_yv (yv_neS tab_ok eqs_ok c_gok rfl rfl rfl rfl c_allT rfl rfl rfl) rfl rfl ?_)
      | (refine gq_anyG ?_; first | refine gq_yv (yv_pure tab_ok c_gok rfl rfl c_allT) rfl rfl ?_ | refine gq_yv (yv_indexS tab_ok c_gok rfl rfl rfl rfl c_imp c_imp (by intro hq_; (try simp only [Bool.and_eq_true, Bool.not_eq_true', Bool.not_eq_false', Bool.or_eq_false_iff, Bool.or_eq_true, decide_eq_true_eq, decide_eq_false_iff_not, Bool.true_and, Bool.and_true] at hq_); omega)) rfl rfl ?_ | refine gq_yv (yv_indexS (i := 0) tab_ok c_gok rfl rfl rfl rfl c_imp c_imp (by intro hq_; (try simp only [Bool.and_eq_true, Bool.not_eq_true', Bool.not_eq_false', Bool.or_eq_false_iff, Bool.or_eq_true, decide_eq_true_eq, decide_eq_false_iff_not, Bool.true_and, Bool.and_true] at hq_); omega)) rfl rfl ?_))
  refine gl_yd (yd_call c_gok rfl ent66 rfl rfl c_allT (fun _ W hW => ct_rightT (t := .mk 0 .empty .empty Node.v0 Node.c0 Node.c0 []) (b := false) (by decide +kernel) none 0 (S := All) W (Node.r0 rfl) (by simp [Node.count, Node.countL]))) rfl rfl ?_
  repeat' first
    | (refine gl_gate ?_; first
      | refine gl_nil ?_
      | (refine gl_load0 ?_; refine gl_yv (yv_load tab_ok (gok_none rfl) rfl rfl (fun _ => rfl) c_mem (fun _ => c_lds)) rfl rfl ?_)
      | (refine gl_add0 ?_; refine gl_yv (yv_add tab_ok (gok_none rfl) rfl rfl rfl rfl (fun _ => allT_of rfl) (by intro _; omega)) rfl rfl ?_)
      | (refine gl_sub0 ?_; refine gl_yv (yv_sub tab_ok (gok_none rfl) rfl rfl rfl rfl (fun _ => allT_of rfl) (by intro _; omega)) rfl rfl ?_)
      | (refine gl_idx0 ?_; refine gl_yv (yv_idxC tab_ok (gok_none rfl) rfl rfl rfl rfl rfl (fun _ => rfl) (fun _ => rfl) c_bnd) rfl rfl ?_)
      | (refine gl_bld0 ?_; (refine gl_ev (ev_buildSlice tab_ok rfl rfl rfl rfl rfl rfl rfl rfl rfl rfl ?_) rfl rfl; intro g_ hg_))
      | (refine gl_mul0 ?_; refine gl_yv (yv_mul tab_ok (gok_none rfl) rfl rfl rfl rfl (fun _ => allT_of rfl) c_bnd) rfl rfl ?_)
      | (refine gl_pick0 ?_; first | refine gl_yv (yv_and (gok_none rfl) rfl rfl rfl (fun _ => rfl) c_imp2) rfl rfl ?_ | refine gl_yv (yv_or (gok_none rfl) rfl rfl rfl (fun _ => rfl) c_imp2) rfl rfl ?_)
      | (refine gl_idx0 ?_; refine gl_yv (yv_indexAddr tab_ok (gok_none rfl) rfl rfl rfl rfl rfl (fun _ => rfl) (fun _ => rfl) (by intro _; omega)) rfl rfl ?_)
      | (refine gl_addG ?_; refine gl_yv (yv_add tab_ok c_gok rfl rfl rfl rfl c_allT c_bnd) rfl rfl ?_)
      | (refine gl_subG ?_; refine gl_yv (yv_sub tab_ok c_gok rfl rfl rfl rfl c_allT c_bnd) rfl rfl ?_)
      | (refine gl_loadG ?_; refine gl_yv (yv_load tab_ok c_gok rfl rfl c_imp c_mem (fun _ => c_lds)) rfl rfl ?_)
      | (refine gl_pickG ?_; first | refine gl_yv (yv_and c_gok rfl rfl rfl c_imp c_imp2) rfl rfl ?_ | refine gl_yv (yv_or c_gok rfl rfl rfl c_imp c_imp2) rfl rfl ?_)
      | (refine gl_idxG ?_; refine gl_yv (yv_indexAddr tab_ok c_gok rfl rfl rfl rfl rfl c_imp c_imp c_bnd) rfl rfl ?_)
      | (refine gl_box0 ?_; first | (refine gl_box_agg rfl rfl rfl rfl rfl ?_; intro g_ hg_) | (refine gl_box_one rfl rfl rfl rfl rfl rfl ?_; intro g_ hg_) | (refine gl_box rfl rfl rfl rfl rfl ?_; intro g_ hg_))
      | (refine gl_alc0 ?_; (refine gl_alloc tab_ok rfl rfl rfl rfl rfl ?_; intro g_ hg_))
      | (refine gl_sto0 ?_; refine gl_store tab_ok rfl rfl rfl rfl rfl rfl rfl c_one rfl c_ku ?_)
      | (refine gl_any0 ?_; refine gl_pure tab_ok rfl rfl rfl rfl rfl rfl ?_)
      | (refine gl_any0 ?_; first | refine gl_yv (yv_shr tab_ok (gok_none rfl) rfl rfl rfl (fun _ => rfl) (fun _ => rfl) c_bnd) rfl rfl ?_ | refine gl_yv (yv_rem tab_ok (gok_none rfl) rfl rfl rfl (fun _ => rfl) (fun _ => rfl) c_bnd) rfl rfl ?_ | refine gl_yv (yv_indexS tab_ok (gok_none rfl) rfl rfl rfl rfl (fun _ => rfl) (fun _ => rfl) c_bnd) rfl rfl ?_ | refine gl_yv (yv_sliceH tab_ok (gok_none rfl) rfl rfl rfl rfl rfl (fun _ => rfl) (fun _ => rfl) c_bnd) rfl rfl ?_)
      | (refine gl_arr0 ?_; refine gl_yv (yv_buildA tab_ok (gok_none rfl) rfl rfl rfl rfl (fun _ => allT_of rfl) rfl) rfl rfl ?_)
      | (refine gl_eqS ?_; first | refine gl_yv (yv_eqS tab_ok eqs_ok c_gok rfl rfl rfl rfl c_allT rfl rfl rfl) rfl rfl ?_)
      | (refine gl_neS ?_; first | refine gl_yv (yv_neS tab_ok eqs_ok c_gok rfl rfl rfl rfl c_allT rfl rfl rfl) rfl rfl ?_)
      | (refine gl_anyG ?_; first | refine gl_yv (yv_pure tab_ok c_gok rfl rfl c_allT) rfl rfl ?_ | refine gl_yv (yv_indexS tab_ok c_gok rfl rfl rfl rfl c_imp c_imp (by intro hq_; (try simp only [Bool.and_eq_true, Bool.not_eq_true', Bool.not_eq_false', Bool.or_eq_false_iff, Bool.or_eq_true, decide_eq_true_eq, decide_eq_false_iff_not, Bool.true_and, Bool.and_true] at hq_); omega)) rfl rfl ?_ | refine gl_yv (yv_indexS (i := 0) tab_ok c_gok rfl rfl rfl rfl c_imp c_imp (by intro hq_; (try simp only [Bool.and_eq_true, Bool.not_eq_true', Bool.not_eq_false', Bool.or_eq_false_iff, Bool.or_eq_true, decide_eq_true_eq, decide_eq_false_iff_not, Bool.true_and, Bool.and_true] at hq_); omega)) rfl rfl ?_))
    | (refine gc_gate ?_; first
      | refine gc_seq ?_
      | refine gc_region ?_
      | refine gc_quietRo rfl mixed (by decide +kernel) ?_
      | refine gc_true rfl ?_
      | refine gc_false rfl ?_
      | (refine gc_cond rfl ?_ ?_ <;> intro h_ <;> have hd_ := h_ <;> (try simp only [bytes_beq, cell_beq, val_beq, stamp_beq, decide_eq_true_eq, decide_eq_false_iff_not, Bool.and_eq_true, Bool.or_eq_true, Bool.or_eq_false_iff, Bool.not_eq_true', Bool.not_eq_false', Bool.not_true, Bool.not_false, Bool.false_or, Bool.true_and, Bool.and_true, Bool.or_false, beq_iff_eq, bne_iff_ne, beq_eq_false_iff_ne, bne_eq_false_iff_eq, ne_eq, Bool.false_eq_true, reduceCtorEq] at hd_) <;> (try (exfalso; omega)))
      | refine gc_block ?_
      | refine gc_exit ?_
      | refine gc_ret ?_
      | refine gc_skip ?_
      | refine gc_label ?_)
    | (refine ge_gate ?_; first
      | ((with_reducible refine ge_gT ?_); first | with_reducible refine ge_then ?_ | with_reducible refine ge_then_exit ?_ | with_reducible refine ge_then_ret ?_)
      | ((with_reducible refine ge_gK ?_); first | with_reducible refine ge_block ?_ | refine ge_block_exit ?_ | refine ge_block_pass rfl ?_ | with_reducible refine ge_block_ret ?_)
      | ((with_reducible refine ge_gB ?_); first | refine ge_ret1 tab_ok rfl c_rvt ?_ | refine ge_end1 tab_ok rfl c_rvt ?_ | refine ge_ret2 tab_ok rfl c_rvt c_rvt ?_ | refine ge_ret_none rfl ?_ | refine ge_end_none rfl ?_))
    | (refine gq_gate ?_; first
      | refine gq_nil ?_
      | (refine gq_load0 ?_; refine gq_yv (yv_load tab_ok (gok_none rfl) rfl rfl (fun _ => rfl) c_mem (fun _ => c_lds)) rfl rfl ?_)
      | (refine gq_add0 ?_; refine gq_yv (yv_add tab_ok (gok_none rfl) rfl rfl rfl rfl (fun _ => allT_of rfl) (by intro _; omega)) rfl rfl ?_)
      | (refine gq_sub0 ?_; refine gq_yv (yv_sub tab_ok (gok_none rfl) rfl rfl rfl rfl (fun _ => allT_of rfl) (by intro _; omega)) rfl rfl ?_)
      | (refine gq_idx0 ?_; refine gq_yv (yv_idxC tab_ok (gok_none rfl) rfl rfl rfl rfl rfl (fun _ => rfl) (fun _ => rfl) c_bnd) rfl rfl ?_)
      | (refine gq_pick0 ?_; first | refine gq_yv (yv_and (gok_none rfl) rfl rfl rfl (fun _ => rfl) c_imp2) rfl rfl ?_ | refine gq_yv (yv_or (gok_none rfl) rfl rfl rfl (fun _ => rfl) c_imp2) rfl rfl ?_)
      | (refine gq_idx0 ?_; refine gq_yv (yv_indexAddr tab_ok (gok_none rfl) rfl rfl rfl rfl rfl (fun _ => rfl) (fun _ => rfl) (by intro _; omega)) rfl rfl ?_)
      | (refine gq_addG ?_; refine gq_yv (yv_add tab_ok c_gok rfl rfl rfl rfl c_allT c_bnd) rfl rfl ?_)
      | (refine gq_subG ?_; refine gq_yv (yv_sub tab_ok c_gok rfl rfl rfl rfl c_allT c_bnd) rfl rfl ?_)
      | (refine gq_loadG ?_; refine gq_yv (yv_load tab_ok c_gok rfl rfl c_imp c_mem (fun _ => c_lds)) rfl rfl ?_)
      | (refine gq_pickG ?_; first | refine gq_yv (yv_and c_gok rfl rfl rfl c_imp c_imp2) rfl rfl ?_ | refine gq_yv (yv_or c_gok rfl rfl rfl c_imp c_imp2) rfl rfl ?_)
      | (refine gq_idxG ?_; refine gq_yv (yv_indexAddr tab_ok c_gok rfl rfl rfl rfl rfl c_imp c_imp c_bnd) rfl rfl ?_)
      | (refine gq_any0 ?_; refine gq_pure tab_ok rfl rfl rfl rfl rfl rfl ?_)
      | (refine gq_any0 ?_; first | refine gq_yv (yv_shr tab_ok (gok_none rfl) rfl rfl rfl (fun _ => rfl) (fun _ => rfl) c_bnd) rfl rfl ?_ | refine gq_yv (yv_rem tab_ok (gok_none rfl) rfl rfl rfl (fun _ => rfl) (fun _ => rfl) c_bnd) rfl rfl ?_ | refine gq_yv (yv_indexS tab_ok (gok_none rfl) rfl rfl rfl rfl (fun _ => rfl) (fun _ => rfl) c_bnd) rfl rfl ?_ | refine gq_yv (yv_sliceH tab_ok (gok_none rfl) rfl rfl rfl rfl rfl (fun _ => rfl) (fun _ => rfl) c_bnd) rfl rfl ?_)
      | (refine gq_arr0 ?_; refine gq_yv (yv_buildA tab_ok (gok_none rfl) rfl rfl rfl rfl (fun _ => allT_of rfl) rfl) rfl rfl ?_)
      | (refine gq_eqS ?_; first | refine gq_yv (yv_eqS tab_ok eqs_ok c_gok rfl rfl rfl rfl c_allT rfl rfl rfl) rfl rfl ?_)
      | (refine gq_neS ?_; first | refine gq_yv (yv_neS tab_ok eqs_ok c_gok rfl rfl rfl rfl c_allT rfl rfl rfl) rfl rfl ?_)
      | (refine gq_anyG ?_; first | refine gq_yv (yv_pure tab_ok c_gok rfl rfl c_allT) rfl rfl ?_ | refine gq_yv (yv_indexS tab_ok c_gok rfl rfl rfl rfl c_imp c_imp (by intro hq_; (try simp only [Bool.and_eq_true, Bool.not_eq_true', Bool.not_eq_false', Bool.or_eq_false_iff, Bool.or_eq_true, decide_eq_true_eq, decide_eq_false_iff_not, Bool.true_and, Bool.and_true] at hq_); omega)) rfl rfl ?_ | refine gq_yv (yv_indexS (i := 0) tab_ok c_gok rfl rfl rfl rfl c_imp c_imp (by intro hq_; (try simp only [Bool.and_eq_true, Bool.not_eq_true', Bool.not_eq_false', Bool.or_eq_false_iff, Bool.or_eq_true, decide_eq_true_eq, decide_eq_false_iff_not, Bool.true_and, Bool.and_true] at hq_); omega)) rfl rfl ?_))
  intro W hW
  refine ⟨?_, hW.below0⟩
  rw [show (Node.mk 1 ByteArray.empty ByteArray.empty Node.v0 Node.c0 Node.c0 []).depth = 1 by decide +kernel]
  rfl
theorem ct_FewE {t : Node} {p : Option Addr} {c : Nat} {S : Nat → Prop} (w : World) (hR : NodeR S w t p) : Calls Try.prog 33 #[.agg (t.l p c).toArray] w fun e w' => e = .returned (.bool t.few) ∧ Below w.heap.size w w' := ct_Few t p c w hR
theorem walk_TreeTells (a b : Node) (p q : Option Addr) (c d : Nat) (w : World) (S S' : Nat → Prop) (hA : NodeR S w a p) (hB : NodeR S' w b q) : Calls Try.prog 13 #[.agg (a.l p c).toArray, .agg (b.l q d).toArray] w fun e w' => e = .returned (.bool true) ∧ Below w.heap.size w w' := by
  refine enter (args := [_, _]) (M := []) (K := []) Try.func13 rfl Try.ntmps13 rfl (St.refl _ _) ?_
  repeat' first
    | (refine gl_gate ?_; first
      | refine gl_nil ?_
      | (refine gl_load0 ?_; refine gl_yv (yv_load tab_ok (gok_none rfl) rfl rfl (fun _ => rfl) c_mem (fun _ => c_lds)) rfl rfl ?_)
      | (refine gl_add0 ?_; refine gl_yv (yv_add tab_ok (gok_none rfl) rfl rfl rfl rfl (fun _ => allT_of rfl) (by intro _; omega)) rfl rfl ?_)
      | (refine gl_sub0 ?_; refine gl_yv (yv_sub tab_ok (gok_none rfl) rfl rfl rfl rfl (fun _ => allT_of rfl) (by intro _; omega)) rfl rfl ?_)
      | (refine gl_idx0 ?_; refine gl_yv (yv_idxC tab_ok (gok_none rfl) rfl rfl rfl rfl rfl (fun _ => rfl) (fun _ => rfl) c_bnd) rfl rfl ?_)
      | (refine gl_bld0 ?_; (refine gl_ev (ev_buildSlice tab_ok rfl rfl rfl rfl rfl rfl rfl rfl rfl rfl ?_) rfl rfl; intro g_ hg_))
      | (refine gl_mul0 ?_; refine gl_yv (yv_mul tab_ok (gok_none rfl) rfl rfl rfl rfl (fun _ => allT_of rfl) c_bnd) rfl rfl ?_)
      | (refine gl_calv0 ?_; first | refine gl_yd (yd_call (gok_none rfl) rfl ent64 rfl rfl (fun _ => allT_of rfl) (fun _ W hW => ct_alive5 W)) rfl rfl ?_ | refine gl_yd (yd_call (gok_none rfl) rfl ent33 rfl rfl (fun _ => allT_of rfl) (fun _ W hW => ct_FewE W (by (try exact hA.st hW); (try exact hB.st hW)))) rfl rfl ?_)
      | (refine gl_calvG ?_; first | refine gl_yd (yd_call c_gok rfl ent64 rfl rfl c_allT (fun _ W hW => ct_alive5 W)) rfl rfl ?_ | refine gl_yd (yd_call c_gok rfl ent33 rfl rfl c_allT (fun _ W hW => ct_FewE W (by (try exact hA.st hW); (try exact hB.st hW)))) rfl rfl ?_)
      | (refine gl_pick0 ?_; first | refine gl_yv (yv_and (gok_none rfl) rfl rfl rfl (fun _ => rfl) c_imp2) rfl rfl ?_ | refine gl_yv (yv_or (gok_none rfl) rfl rfl rfl (fun _ => rfl) c_imp2) rfl rfl ?_)
      | (refine gl_idx0 ?_; refine gl_yv (yv_indexAddr tab_ok (gok_none rfl) rfl rfl rfl rfl rfl (fun _ => rfl) (fun _ => rfl) (by intro _; omega)) rfl rfl ?_)
      | (refine gl_addG ?_; refine gl_yv (yv_add tab_ok c_gok rfl rfl rfl rfl c_allT c_bnd) rfl rfl ?_)
      | (refine gl_subG ?_; refine gl_yv (yv_sub tab_ok c_gok rfl rfl rfl rfl c_allT c_bnd) rfl rfl ?_)
      | (refine gl_loadG ?_; refine gl_yv (yv_load tab_ok c_gok rfl rfl c_imp c_mem (fun _ => c_lds)) rfl rfl ?_)
      | (refine gl_pickG ?_; first | refine gl_yv (yv_and c_gok rfl rfl rfl c_imp c_imp2) rfl rfl ?_ | refine gl_yv (yv_or c_gok rfl rfl rfl c_imp c_imp2) rfl rfl ?_)
      | (refine gl_idxG ?_; refine gl_yv (yv_indexAddr tab_ok c_gok rfl rfl rfl rfl rfl c_imp c_imp c_bnd) rfl rfl ?_)
      | (refine gl_box0 ?_; first | (refine gl_box_agg rfl rfl rfl rfl rfl ?_; intro g_ hg_) | (refine gl_box_one rfl rfl rfl rfl rfl rfl ?_; intro g_ hg_) | (refine gl_box rfl rfl rfl rfl rfl ?_; intro g_ hg_))
      | (refine gl_alc0 ?_; (refine gl_alloc tab_ok rfl rfl rfl rfl rfl ?_; intro g_ hg_))
      | (refine gl_sto0 ?_; refine gl_store tab_ok rfl rfl rfl rfl rfl rfl rfl c_one rfl c_ku ?_)
      | (refine gl_any0 ?_; refine gl_pure tab_ok rfl rfl rfl rfl rfl rfl ?_)
      | (refine gl_any0 ?_; first | refine gl_yv (yv_shr tab_ok (gok_none rfl) rfl rfl rfl (fun _ => rfl) (fun _ => rfl) c_bnd) rfl rfl ?_ | refine gl_yv (yv_rem tab_ok (gok_none rfl) rfl rfl rfl (fun _ => rfl) (fun _ => rfl) c_bnd) rfl rfl ?_ | refine gl_yv (yv_indexS tab_ok (gok_none rfl) rfl rfl rfl rfl (fun _ => rfl) (fun _ => rfl) c_bnd) rfl rfl ?_ | refine gl_yv (yv_sliceH tab_ok (gok_none rfl) rfl rfl rfl rfl rfl (fun _ => rfl) (fun _ => rfl) c_bnd) rfl rfl ?_)
      | (refine gl_arr0 ?_; refine gl_yv (yv_buildA tab_ok (gok_none rfl) rfl rfl rfl rfl (fun _ => allT_of rfl) rfl) rfl rfl ?_)
      | (refine gl_eqS ?_; first | refine gl_yv (yv_eqS tab_ok eqs_ok c_gok rfl rfl rfl rfl c_allT rfl rfl rfl) rfl rfl ?_)
      | (refine gl_neS ?_; first | refine gl_yv (yv_neS tab_ok eqs_ok c_gok rfl rfl rfl rfl c_allT rfl rfl rfl) rfl rfl ?_)
      | (refine gl_anyG ?_; first | refine gl_yv (yv_pure tab_ok c_gok rfl rfl c_allT) rfl rfl ?_ | refine gl_yv (yv_indexS tab_ok c_gok rfl rfl rfl rfl c_imp c_imp (by intro hq_; (try simp only [Bool.and_eq_true, Bool.not_eq_true', Bool.not_eq_false', Bool.or_eq_false_iff, Bool.or_eq_true, decide_eq_true_eq, decide_eq_false_iff_not, Bool.true_and, Bool.and_true] at hq_); omega)) rfl rfl ?_ | refine gl_yv (yv_indexS (i := 0) tab_ok c_gok rfl rfl rfl rfl c_imp c_imp (by intro hq_; (try simp only [Bool.and_eq_true, Bool.not_eq_true', Bool.not_eq_false', Bool.or_eq_false_iff, Bool.or_eq_true, decide_eq_true_eq, decide_eq_false_iff_not, Bool.true_and, Bool.and_true] at hq_); omega)) rfl rfl ?_))
    | (refine gc_gate ?_; first
      | refine gc_seq ?_
      | refine gc_region ?_
      | refine gc_quietRo rfl mixed (by decide +kernel) ?_
      | refine gc_true rfl ?_
      | refine gc_false rfl ?_
      | (refine gc_cond rfl ?_ ?_ <;> intro h_ <;> have hd_ := h_ <;> (try simp only [bytes_beq, cell_beq, val_beq, stamp_beq, decide_eq_true_eq, decide_eq_false_iff_not, Bool.and_eq_true, Bool.or_eq_true, Bool.or_eq_false_iff, Bool.not_eq_true', Bool.not_eq_false', Bool.not_true, Bool.not_false, Bool.false_or, Bool.true_and, Bool.and_true, Bool.or_false, beq_iff_eq, bne_iff_ne, beq_eq_false_iff_ne, bne_eq_false_iff_eq, ne_eq, Bool.false_eq_true, reduceCtorEq] at hd_) <;> (try (exfalso; omega)))
      | refine gc_block ?_
      | refine gc_exit ?_
      | refine gc_ret ?_
      | refine gc_skip ?_
      | refine gc_label ?_)
    | (refine ge_gate ?_; first
      | ((with_reducible refine ge_gT ?_); first | with_reducible refine ge_then ?_ | with_reducible refine ge_then_exit ?_ | with_reducible refine ge_then_ret ?_)
      | ((with_reducible refine ge_gK ?_); first | with_reducible refine ge_block ?_ | refine ge_block_exit ?_ | refine ge_block_pass rfl ?_ | with_reducible refine ge_block_ret ?_)
      | ((with_reducible refine ge_gB ?_); first | refine ge_ret1 tab_ok rfl c_rvt ?_ | refine ge_end1 tab_ok rfl c_rvt ?_ | refine ge_ret2 tab_ok rfl c_rvt c_rvt ?_ | refine ge_ret_none rfl ?_ | refine ge_end_none rfl ?_))
    | (refine gq_gate ?_; first
      | refine gq_nil ?_
      | (refine gq_load0 ?_; refine gq_yv (yv_load tab_ok (gok_none rfl) rfl rfl (fun _ => rfl) c_mem (fun _ => c_lds)) rfl rfl ?_)
      | (refine gq_add0 ?_; refine gq_yv (yv_add tab_ok (gok_none rfl) rfl rfl rfl rfl (fun _ => allT_of rfl) (by intro _; omega)) rfl rfl ?_)
      | (refine gq_sub0 ?_; refine gq_yv (yv_sub tab_ok (gok_none rfl) rfl rfl rfl rfl (fun _ => allT_of rfl) (by intro _; omega)) rfl rfl ?_)
      | (refine gq_idx0 ?_; refine gq_yv (yv_idxC tab_ok (gok_none rfl) rfl rfl rfl rfl rfl (fun _ => rfl) (fun _ => rfl) c_bnd) rfl rfl ?_)
      | (refine gq_calv0 ?_; first | refine gq_yd (yd_call (gok_none rfl) rfl ent64 rfl rfl (fun _ => allT_of rfl) (fun _ W hW => ct_alive5 W)) rfl rfl ?_ | refine gq_yd (yd_call (gok_none rfl) rfl ent33 rfl rfl (fun _ => allT_of rfl) (fun _ W hW => ct_FewE W (by (try exact hA.st hW); (try exact hB.st hW)))) rfl rfl ?_)
      | (refine gq_calvG ?_; first | refine gq_yd (yd_call c_gok rfl ent64 rfl rfl c_allT (fun _ W hW => ct_alive5 W)) rfl rfl ?_ | refine gq_yd (yd_call c_gok rfl ent33 rfl rfl c_allT (fun _ W hW => ct_FewE W (by (try exact hA.st hW); (try exact hB.st hW)))) rfl rfl ?_)
      | (refine gq_pick0 ?_; first | refine gq_yv (yv_and (gok_none rfl) rfl rfl rfl (fun _ => rfl) c_imp2) rfl rfl ?_ | refine gq_yv (yv_or (gok_none rfl) rfl rfl rfl (fun _ => rfl) c_imp2) rfl rfl ?_)
      | (refine gq_idx0 ?_; refine gq_yv (yv_indexAddr tab_ok (gok_none rfl) rfl rfl rfl rfl rfl (fun _ => rfl) (fun _ => rfl) (by intro _; omega)) rfl rfl ?_)
      | (refine gq_addG ?_; refine gq_yv (yv_add tab_ok c_gok rfl rfl rfl rfl c_allT c_bnd) rfl rfl ?_)
      | (refine gq_subG ?_; refine gq_yv (yv_sub tab_ok c_gok rfl rfl rfl rfl c_allT c_bnd) rfl rfl ?_)
      | (refine gq_loadG ?_; refine gq_yv (yv_load tab_ok c_gok rfl rfl c_imp c_mem (fun _ => c_lds)) rfl rfl ?_)
      | (refine gq_pickG ?_; first | refine gq_yv (yv_and c_gok rfl rfl rfl c_imp c_imp2) rfl rfl ?_ | refine gq_yv (yv_or c_gok rfl rfl rfl c_imp c_imp2) rfl rfl ?_)
      | (refine gq_idxG ?_; refine gq_yv (yv_indexAddr tab_ok c_gok rfl rfl rfl rfl rfl c_imp c_imp c_bnd) rfl rfl ?_)
      | (refine gq_any0 ?_; refine gq_pure tab_ok rfl rfl rfl rfl rfl rfl ?_)
      | (refine gq_any0 ?_; first | refine gq_yv (yv_shr tab_ok (gok_none rfl) rfl rfl rfl (fun _ => rfl) (fun _ => rfl) c_bnd) rfl rfl ?_ | refine gq_yv (yv_rem tab_ok (gok_none rfl) rfl rfl rfl (fun _ => rfl) (fun _ => rfl) c_bnd) rfl rfl ?_ | refine gq_yv (yv_indexS tab_ok (gok_none rfl) rfl rfl rfl rfl (fun _ => rfl) (fun _ => rfl) c_bnd) rfl rfl ?_ | refine gq_yv (yv_sliceH tab_ok (gok_none rfl) rfl rfl rfl rfl rfl (fun _ => rfl) (fun _ => rfl) c_bnd) rfl rfl ?_)
      | (refine gq_arr0 ?_; refine gq_yv (yv_buildA tab_ok (gok_none rfl) rfl rfl rfl rfl (fun _ => allT_of rfl) rfl) rfl rfl ?_)
      | (refine gq_eqS ?_; first | refine gq_yv (yv_eqS tab_ok eqs_ok c_gok rfl rfl rfl rfl c_allT rfl rfl rfl) rfl rfl ?_)
      | (refine gq_neS ?_; first | refine gq_yv (yv_neS tab_ok eqs_ok c_gok rfl rfl rfl rfl c_allT rfl rfl rfl) rfl rfl ?_)
      | (refine gq_anyG ?_; first | refine gq_yv (yv_pure tab_ok c_gok rfl rfl c_allT) rfl rfl ?_ | refine gq_yv (yv_indexS tab_ok c_gok rfl rfl rfl rfl c_imp c_imp (by intro hq_; (try simp only [Bool.and_eq_true, Bool.not_eq_true', Bool.not_eq_false', Bool.or_eq_false_iff, Bool.or_eq_true, decide_eq_true_eq, decide_eq_false_iff_not, Bool.true_and, Bool.and_true] at hq_); omega)) rfl rfl ?_ | refine gq_yv (yv_indexS (i := 0) tab_ok c_gok rfl rfl rfl rfl c_imp c_imp (by intro hq_; (try simp only [Bool.and_eq_true, Bool.not_eq_true', Bool.not_eq_false', Bool.or_eq_false_iff, Bool.or_eq_true, decide_eq_true_eq, decide_eq_false_iff_not, Bool.true_and, Bool.and_true] at hq_); omega)) rfl rfl ?_))
  · intro W hW
    exact ⟨rfl, hW.below0⟩
  have ca := few_lt hd_.1
  have cb := few_lt hd_.2
  have hT := a.rightD20
  have hs := sameN_pos (a := a) rfl
  clear h_
  repeat' first
    | (refine gl_gate ?_; first
      | refine gl_nil ?_
      | (refine gl_load0 ?_; refine gl_yv (yv_load tab_ok (gok_none rfl) rfl rfl (fun _ => rfl) c_mem (fun _ => c_lds)) rfl rfl ?_)
      | (refine gl_add0 ?_; refine gl_yv (yv_add tab_ok (gok_none rfl) rfl rfl rfl rfl (fun _ => allT_of rfl) (by intro _; omega)) rfl rfl ?_)
      | (refine gl_sub0 ?_; refine gl_yv (yv_sub tab_ok (gok_none rfl) rfl rfl rfl rfl (fun _ => allT_of rfl) (by intro _; omega)) rfl rfl ?_)
      | (refine gl_idx0 ?_; refine gl_yv (yv_idxC tab_ok (gok_none rfl) rfl rfl rfl rfl rfl (fun _ => rfl) (fun _ => rfl) c_bnd) rfl rfl ?_)
      | (refine gl_bld0 ?_; (refine gl_ev (ev_buildSlice tab_ok rfl rfl rfl rfl rfl rfl rfl rfl rfl rfl ?_) rfl rfl; intro g_ hg_))
      | (refine gl_mul0 ?_; refine gl_yv (yv_mul tab_ok (gok_none rfl) rfl rfl rfl rfl (fun _ => allT_of rfl) c_bnd) rfl rfl ?_)
      | (refine gl_pick0 ?_; first | refine gl_yv (yv_and (gok_none rfl) rfl rfl rfl (fun _ => rfl) c_imp2) rfl rfl ?_ | refine gl_yv (yv_or (gok_none rfl) rfl rfl rfl (fun _ => rfl) c_imp2) rfl rfl ?_)
      | (refine gl_idx0 ?_; refine gl_yv (yv_indexAddr tab_ok (gok_none rfl) rfl rfl rfl rfl rfl (fun _ => rfl) (fun _ => rfl) (by intro _; omega)) rfl rfl ?_)
      | (refine gl_addG ?_; refine gl_yv (yv_add tab_ok c_gok rfl rfl rfl rfl c_allT c_bnd) rfl rfl ?_)
      | (refine gl_subG ?_; refine gl_yv (yv_sub tab_ok c_gok rfl rfl rfl rfl c_allT c_bnd) rfl rfl ?_)
      | (refine gl_loadG ?_; refine gl_yv (yv_load tab_ok c_gok rfl rfl c_imp c_mem (fun _ => c_lds)) rfl rfl ?_)
      | (refine gl_pickG ?_; first | refine gl_yv (yv_and c_gok rfl rfl rfl c_imp c_imp2) rfl rfl ?_ | refine gl_yv (yv_or c_gok rfl rfl rfl c_imp c_imp2) rfl rfl ?_)
      | (refine gl_idxG ?_; refine gl_yv (yv_indexAddr tab_ok c_gok rfl rfl rfl rfl rfl c_imp c_imp c_bnd) rfl rfl ?_)
      | (refine gl_box0 ?_; first | (refine gl_box_agg rfl rfl rfl rfl rfl ?_; intro g_ hg_) | (refine gl_box_one rfl rfl rfl rfl rfl rfl ?_; intro g_ hg_) | (refine gl_box rfl rfl rfl rfl rfl ?_; intro g_ hg_))
      | (refine gl_alc0 ?_; (refine gl_alloc tab_ok rfl rfl rfl rfl rfl ?_; intro g_ hg_))
      | (refine gl_sto0 ?_; refine gl_store tab_ok rfl rfl rfl rfl rfl rfl rfl c_one rfl c_ku ?_)
      | (refine gl_any0 ?_; refine gl_pure tab_ok rfl rfl rfl rfl rfl rfl ?_)
      | (refine gl_any0 ?_; first | refine gl_yv (yv_shr tab_ok (gok_none rfl) rfl rfl rfl (fun _ => rfl) (fun _ => rfl) c_bnd) rfl rfl ?_ | refine gl_yv (yv_rem tab_ok (gok_none rfl) rfl rfl rfl (fun _ => rfl) (fun _ => rfl) c_bnd) rfl rfl ?_ | refine gl_yv (yv_indexS tab_ok (gok_none rfl) rfl rfl rfl rfl (fun _ => rfl) (fun _ => rfl) c_bnd) rfl rfl ?_ | refine gl_yv (yv_sliceH tab_ok (gok_none rfl) rfl rfl rfl rfl rfl (fun _ => rfl) (fun _ => rfl) c_bnd) rfl rfl ?_)
      | (refine gl_arr0 ?_; refine gl_yv (yv_buildA tab_ok (gok_none rfl) rfl rfl rfl rfl (fun _ => allT_of rfl) rfl) rfl rfl ?_)
      | (refine gl_eqS ?_; first | refine gl_yv (yv_eqS tab_ok eqs_ok c_gok rfl rfl rfl rfl c_allT rfl rfl rfl) rfl rfl ?_)
      | (refine gl_neS ?_; first | refine gl_yv (yv_neS tab_ok eqs_ok c_gok rfl rfl rfl rfl c_allT rfl rfl rfl) rfl rfl ?_)
      | (refine gl_anyG ?_; first | refine gl_yv (yv_pure tab_ok c_gok rfl rfl c_allT) rfl rfl ?_ | refine gl_yv (yv_indexS tab_ok c_gok rfl rfl rfl rfl c_imp c_imp (by intro hq_; (try simp only [Bool.and_eq_true, Bool.not_eq_true', Bool.not_eq_false', Bool.or_eq_false_iff, Bool.or_eq_true, decide_eq_true_eq, decide_eq_false_iff_not, Bool.true_and, Bool.and_true] at hq_); omega)) rfl rfl ?_ | refine gl_yv (yv_indexS (i := 0) tab_ok c_gok rfl rfl rfl rfl c_imp c_imp (by intro hq_; (try simp only [Bool.and_eq_true, Bool.not_eq_true', Bool.not_eq_false', Bool.or_eq_false_iff, Bool.or_eq_true, decide_eq_true_eq, decide_eq_false_iff_not, Bool.true_and, Bool.and_true] at hq_); omega)) rfl rfl ?_))
    | (refine gc_gate ?_; first
      | refine gc_seq ?_
      | refine gc_region ?_
      | refine gc_quietRo rfl mixed (by decide +kernel) ?_
      | refine gc_true rfl ?_
      | refine gc_false rfl ?_
      | (refine gc_cond rfl ?_ ?_ <;> intro h_ <;> have hd_ := h_ <;> (try simp only [bytes_beq, cell_beq, val_beq, stamp_beq, decide_eq_true_eq, decide_eq_false_iff_not, Bool.and_eq_true, Bool.or_eq_true, Bool.or_eq_false_iff, Bool.not_eq_true', Bool.not_eq_false', Bool.not_true, Bool.not_false, Bool.false_or, Bool.true_and, Bool.and_true, Bool.or_false, beq_iff_eq, bne_iff_ne, beq_eq_false_iff_ne, bne_eq_false_iff_eq, ne_eq, Bool.false_eq_true, reduceCtorEq] at hd_) <;> (try (exfalso; omega)))
      | refine gc_block ?_
      | refine gc_exit ?_
      | refine gc_ret ?_
      | refine gc_skip ?_
      | refine gc_label ?_)
    | (refine ge_gate ?_; first
      | ((with_reducible refine ge_gT ?_); first | with_reducible refine ge_then ?_ | with_reducible refine ge_then_exit ?_ | with_reducible refine ge_then_ret ?_)
      | ((with_reducible refine ge_gK ?_); first | with_reducible refine ge_block ?_ | refine ge_block_exit ?_ | refine ge_block_pass rfl ?_ | with_reducible refine ge_block_ret ?_)
      | ((with_reducible refine ge_gB ?_); first | refine ge_ret1 tab_ok rfl c_rvt ?_ | refine ge_end1 tab_ok rfl c_rvt ?_ | refine ge_ret2 tab_ok rfl c_rvt c_rvt ?_ | refine ge_ret_none rfl ?_ | refine ge_end_none rfl ?_))
    | (refine gq_gate ?_; first
      | refine gq_nil ?_
      | (refine gq_load0 ?_; refine gq_yv (yv_load tab_ok (gok_none rfl) rfl rfl (fun _ => rfl) c_mem (fun _ => c_lds)) rfl rfl ?_)
      | (refine gq_add0 ?_; refine gq_yv (yv_add tab_ok (gok_none rfl) rfl rfl rfl rfl (fun _ => allT_of rfl) (by intro _; omega)) rfl rfl ?_)
      | (refine gq_sub0 ?_; refine gq_yv (yv_sub tab_ok (gok_none rfl) rfl rfl rfl rfl (fun _ => allT_of rfl) (by intro _; omega)) rfl rfl ?_)
      | (refine gq_idx0 ?_; refine gq_yv (yv_idxC tab_ok (gok_none rfl) rfl rfl rfl rfl rfl (fun _ => rfl) (fun _ => rfl) c_bnd) rfl rfl ?_)
      | (refine gq_pick0 ?_; first | refine gq_yv (yv_and (gok_none rfl) rfl rfl rfl (fun _ => rfl) c_imp2) rfl rfl ?_ | refine gq_yv (yv_or (gok_none rfl) rfl rfl rfl (fun _ => rfl) c_imp2) rfl rfl ?_)
      | (refine gq_idx0 ?_; refine gq_yv (yv_indexAddr tab_ok (gok_none rfl) rfl rfl rfl rfl rfl (fun _ => rfl) (fun _ => rfl) (by intro _; omega)) rfl rfl ?_)
      | (refine gq_addG ?_; refine gq_yv (yv_add tab_ok c_gok rfl rfl rfl rfl c_allT c_bnd) rfl rfl ?_)
      | (refine gq_subG ?_; refine gq_yv (yv_sub tab_ok c_gok rfl rfl rfl rfl c_allT c_bnd) rfl rfl ?_)
      | (refine gq_loadG ?_; refine gq_yv (yv_load tab_ok c_gok rfl rfl c_imp c_mem (fun _ => c_lds)) rfl rfl ?_)
      | (refine gq_pickG ?_; first | refine gq_yv (yv_and c_gok rfl rfl rfl c_imp c_imp2) rfl rfl ?_ | refine gq_yv (yv_or c_gok rfl rfl rfl c_imp c_imp2) rfl rfl ?_)
      | (refine gq_idxG ?_; refine gq_yv (yv_indexAddr tab_ok c_gok rfl rfl rfl rfl rfl c_imp c_imp c_bnd) rfl rfl ?_)
      | (refine gq_any0 ?_; refine gq_pure tab_ok rfl rfl rfl rfl rfl rfl ?_)
      | (refine gq_any0 ?_; first | refine gq_yv (yv_shr tab_ok (gok_none rfl) rfl rfl rfl (fun _ => rfl) (fun _ => rfl) c_bnd) rfl rfl ?_ | refine gq_yv (yv_rem tab_ok (gok_none rfl) rfl rfl rfl (fun _ => rfl) (fun _ => rfl) c_bnd) rfl rfl ?_ | refine gq_yv (yv_indexS tab_ok (gok_none rfl) rfl rfl rfl rfl (fun _ => rfl) (fun _ => rfl) c_bnd) rfl rfl ?_ | refine gq_yv (yv_sliceH tab_ok (gok_none rfl) rfl rfl rfl rfl rfl (fun _ => rfl) (fun _ => rfl) c_bnd) rfl rfl ?_)
      | (refine gq_arr0 ?_; refine gq_yv (yv_buildA tab_ok (gok_none rfl) rfl rfl rfl rfl (fun _ => allT_of rfl) rfl) rfl rfl ?_)
      | (refine gq_eqS ?_; first | refine gq_yv (yv_eqS tab_ok eqs_ok c_gok rfl rfl rfl rfl c_allT rfl rfl rfl) rfl rfl ?_)
      | (refine gq_neS ?_; first | refine gq_yv (yv_neS tab_ok eqs_ok c_gok rfl rfl rfl rfl c_allT rfl rfl rfl) rfl rfl ?_)
      | (refine gq_anyG ?_; first | refine gq_yv (yv_pure tab_ok c_gok rfl rfl c_allT) rfl rfl ?_ | refine gq_yv (yv_indexS tab_ok c_gok rfl rfl rfl rfl c_imp c_imp (by intro hq_; (try simp only [Bool.and_eq_true, Bool.not_eq_true', Bool.not_eq_false', Bool.or_eq_false_iff, Bool.or_eq_true, decide_eq_true_eq, decide_eq_false_iff_not, Bool.true_and, Bool.and_true] at hq_); omega)) rfl rfl ?_ | refine gq_yv (yv_indexS (i := 0) tab_ok c_gok rfl rfl rfl rfl c_imp c_imp (by intro hq_; (try simp only [Bool.and_eq_true, Bool.not_eq_true', Bool.not_eq_false', Bool.or_eq_false_iff, Bool.or_eq_true, decide_eq_true_eq, decide_eq_false_iff_not, Bool.true_and, Bool.and_true] at hq_); omega)) rfl rfl ?_))
  refine gq_yd (yd_call c_gok rfl ent66 rfl rfl c_allT (fun _ W hW => ct_rightT hT p c W (hA.st hW) ca)) rfl rfl ?_
  repeat' first
    | (refine gl_gate ?_; first
      | refine gl_nil ?_
      | (refine gl_load0 ?_; refine gl_yv (yv_load tab_ok (gok_none rfl) rfl rfl (fun _ => rfl) c_mem (fun _ => c_lds)) rfl rfl ?_)
      | (refine gl_add0 ?_; refine gl_yv (yv_add tab_ok (gok_none rfl) rfl rfl rfl rfl (fun _ => allT_of rfl) (by intro _; omega)) rfl rfl ?_)
      | (refine gl_sub0 ?_; refine gl_yv (yv_sub tab_ok (gok_none rfl) rfl rfl rfl rfl (fun _ => allT_of rfl) (by intro _; omega)) rfl rfl ?_)
      | (refine gl_idx0 ?_; refine gl_yv (yv_idxC tab_ok (gok_none rfl) rfl rfl rfl rfl rfl (fun _ => rfl) (fun _ => rfl) c_bnd) rfl rfl ?_)
      | (refine gl_bld0 ?_; (refine gl_ev (ev_buildSlice tab_ok rfl rfl rfl rfl rfl rfl rfl rfl rfl rfl ?_) rfl rfl; intro g_ hg_))
      | (refine gl_mul0 ?_; refine gl_yv (yv_mul tab_ok (gok_none rfl) rfl rfl rfl rfl (fun _ => allT_of rfl) c_bnd) rfl rfl ?_)
      | (refine gl_pick0 ?_; first | refine gl_yv (yv_and (gok_none rfl) rfl rfl rfl (fun _ => rfl) c_imp2) rfl rfl ?_ | refine gl_yv (yv_or (gok_none rfl) rfl rfl rfl (fun _ => rfl) c_imp2) rfl rfl ?_)
      | (refine gl_idx0 ?_; refine gl_yv (yv_indexAddr tab_ok (gok_none rfl) rfl rfl rfl rfl rfl (fun _ => rfl) (fun _ => rfl) (by intro _; omega)) rfl rfl ?_)
      | (refine gl_addG ?_; refine gl_yv (yv_add tab_ok c_gok rfl rfl rfl rfl c_allT c_bnd) rfl rfl ?_)
      | (refine gl_subG ?_; refine gl_yv (yv_sub tab_ok c_gok rfl rfl rfl rfl c_allT c_bnd) rfl rfl ?_)
      | (refine gl_loadG ?_; refine gl_yv (yv_load tab_ok c_gok rfl rfl c_imp c_mem (fun _ => c_lds)) rfl rfl ?_)
      | (refine gl_pickG ?_; first | refine gl_yv (yv_and c_gok rfl rfl rfl c_imp c_imp2) rfl rfl ?_ | refine gl_yv (yv_or c_gok rfl rfl rfl c_imp c_imp2) rfl rfl ?_)
      | (refine gl_idxG ?_; refine gl_yv (yv_indexAddr tab_ok c_gok rfl rfl rfl rfl rfl c_imp c_imp c_bnd) rfl rfl ?_)
      | (refine gl_box0 ?_; first | (refine gl_box_agg rfl rfl rfl rfl rfl ?_; intro g_ hg_) | (refine gl_box_one rfl rfl rfl rfl rfl rfl ?_; intro g_ hg_) | (refine gl_box rfl rfl rfl rfl rfl ?_; intro g_ hg_))
      | (refine gl_alc0 ?_; (refine gl_alloc tab_ok rfl rfl rfl rfl rfl ?_; intro g_ hg_))
      | (refine gl_sto0 ?_; refine gl_store tab_ok rfl rfl rfl rfl rfl rfl rfl c_one rfl c_ku ?_)
      | (refine gl_any0 ?_; refine gl_pure tab_ok rfl rfl rfl rfl rfl rfl ?_)
      | (refine gl_any0 ?_; first | refine gl_yv (yv_shr tab_ok (gok_none rfl) rfl rfl rfl (fun _ => rfl) (fun _ => rfl) c_bnd) rfl rfl ?_ | refine gl_yv (yv_rem tab_ok (gok_none rfl) rfl rfl rfl (fun _ => rfl) (fun _ => rfl) c_bnd) rfl rfl ?_ | refine gl_yv (yv_indexS tab_ok (gok_none rfl) rfl rfl rfl rfl (fun _ => rfl) (fun _ => rfl) c_bnd) rfl rfl ?_ | refine gl_yv (yv_sliceH tab_ok (gok_none rfl) rfl rfl rfl rfl rfl (fun _ => rfl) (fun _ => rfl) c_bnd) rfl rfl ?_)
      | (refine gl_arr0 ?_; refine gl_yv (yv_buildA tab_ok (gok_none rfl) rfl rfl rfl rfl (fun _ => allT_of rfl) rfl) rfl rfl ?_)
      | (refine gl_eqS ?_; first | refine gl_yv (yv_eqS tab_ok eqs_ok c_gok rfl rfl rfl rfl c_allT rfl rfl rfl) rfl rfl ?_)
      | (refine gl_neS ?_; first | refine gl_yv (yv_neS tab_ok eqs_ok c_gok rfl rfl rfl rfl c_allT rfl rfl rfl) rfl rfl ?_)
      | (refine gl_anyG ?_; first | refine gl_yv (yv_pure tab_ok c_gok rfl rfl c_allT) rfl rfl ?_ | refine gl_yv (yv_indexS tab_ok c_gok rfl rfl rfl rfl c_imp c_imp (by intro hq_; (try simp only [Bool.and_eq_true, Bool.not_eq_true', Bool.not_eq_false', Bool.or_eq_false_iff, Bool.or_eq_true, decide_eq_true_eq, decide_eq_false_iff_not, Bool.true_and, Bool.and_true] at hq_); omega)) rfl rfl ?_ | refine gl_yv (yv_indexS (i := 0) tab_ok c_gok rfl rfl rfl rfl c_imp c_imp (by intro hq_; (try simp only [Bool.and_eq_true, Bool.not_eq_true', Bool.not_eq_false', Bool.or_eq_false_iff, Bool.or_eq_true, decide_eq_true_eq, decide_eq_false_iff_not, Bool.true_and, Bool.and_true] at hq_); omega)) rfl rfl ?_))
    | (refine gc_gate ?_; first
      | refine gc_seq ?_
      | refine gc_region ?_
      | refine gc_quietRo rfl mixed (by decide +kernel) ?_
      | refine gc_true rfl ?_
      | refine gc_false rfl ?_
      | (refine gc_cond rfl ?_ ?_ <;> intro h_ <;> have hd_ := h_ <;> (try simp only [bytes_beq, cell_beq, val_beq, stamp_beq, decide_eq_true_eq, decide_eq_false_iff_not, Bool.and_eq_true, Bool.or_eq_true, Bool.or_eq_false_iff, Bool.not_eq_true', Bool.not_eq_false', Bool.not_true, Bool.not_false, Bool.false_or, Bool.true_and, Bool.and_true, Bool.or_false, beq_iff_eq, bne_iff_ne, beq_eq_false_iff_ne, bne_eq_false_iff_eq, ne_eq, Bool.false_eq_true, reduceCtorEq] at hd_) <;> (try (exfalso; omega)))
      | refine gc_block ?_
      | refine gc_exit ?_
      | refine gc_ret ?_
      | refine gc_skip ?_
      | refine gc_label ?_)
    | (refine ge_gate ?_; first
      | ((with_reducible refine ge_gT ?_); first | with_reducible refine ge_then ?_ | with_reducible refine ge_then_exit ?_ | with_reducible refine ge_then_ret ?_)
      | ((with_reducible refine ge_gK ?_); first | with_reducible refine ge_block ?_ | refine ge_block_exit ?_ | refine ge_block_pass rfl ?_ | with_reducible refine ge_block_ret ?_)
      | ((with_reducible refine ge_gB ?_); first | refine ge_ret1 tab_ok rfl c_rvt ?_ | refine ge_end1 tab_ok rfl c_rvt ?_ | refine ge_ret2 tab_ok rfl c_rvt c_rvt ?_ | refine ge_ret_none rfl ?_ | refine ge_end_none rfl ?_))
    | (refine gq_gate ?_; first
      | refine gq_nil ?_
      | (refine gq_load0 ?_; refine gq_yv (yv_load tab_ok (gok_none rfl) rfl rfl (fun _ => rfl) c_mem (fun _ => c_lds)) rfl rfl ?_)
      | (refine gq_add0 ?_; refine gq_yv (yv_add tab_ok (gok_none rfl) rfl rfl rfl rfl (fun _ => allT_of rfl) (by intro _; omega)) rfl rfl ?_)
      | (refine gq_sub0 ?_; refine gq_yv (yv_sub tab_ok (gok_none rfl) rfl rfl rfl rfl (fun _ => allT_of rfl) (by intro _; omega)) rfl rfl ?_)
      | (refine gq_idx0 ?_; refine gq_yv (yv_idxC tab_ok (gok_none rfl) rfl rfl rfl rfl rfl (fun _ => rfl) (fun _ => rfl) c_bnd) rfl rfl ?_)
      | (refine gq_pick0 ?_; first | refine gq_yv (yv_and (gok_none rfl) rfl rfl rfl (fun _ => rfl) c_imp2) rfl rfl ?_ | refine gq_yv (yv_or (gok_none rfl) rfl rfl rfl (fun _ => rfl) c_imp2) rfl rfl ?_)
      | (refine gq_idx0 ?_; refine gq_yv (yv_indexAddr tab_ok (gok_none rfl) rfl rfl rfl rfl rfl (fun _ => rfl) (fun _ => rfl) (by intro _; omega)) rfl rfl ?_)
      | (refine gq_addG ?_; refine gq_yv (yv_add tab_ok c_gok rfl rfl rfl rfl c_allT c_bnd) rfl rfl ?_)
      | (refine gq_subG ?_; refine gq_yv (yv_sub tab_ok c_gok rfl rfl rfl rfl c_allT c_bnd) rfl rfl ?_)
      | (refine gq_loadG ?_; refine gq_yv (yv_load tab_ok c_gok rfl rfl c_imp c_mem (fun _ => c_lds)) rfl rfl ?_)
      | (refine gq_pickG ?_; first | refine gq_yv (yv_and c_gok rfl rfl rfl c_imp c_imp2) rfl rfl ?_ | refine gq_yv (yv_or c_gok rfl rfl rfl c_imp c_imp2) rfl rfl ?_)
      | (refine gq_idxG ?_; refine gq_yv (yv_indexAddr tab_ok c_gok rfl rfl rfl rfl rfl c_imp c_imp c_bnd) rfl rfl ?_)
      | (refine gq_any0 ?_; refine gq_pure tab_ok rfl rfl rfl rfl rfl rfl ?_)
      | (refine gq_any0 ?_; first | refine gq_yv (yv_shr tab_ok (gok_none rfl) rfl rfl rfl (fun _ => rfl) (fun _ => rfl) c_bnd) rfl rfl ?_ | refine gq_yv (yv_rem tab_ok (gok_none rfl) rfl rfl rfl (fun _ => rfl) (fun _ => rfl) c_bnd) rfl rfl ?_ | refine gq_yv (yv_indexS tab_ok (gok_none rfl) rfl rfl rfl rfl (fun _ => rfl) (fun _ => rfl) c_bnd) rfl rfl ?_ | refine gq_yv (yv_sliceH tab_ok (gok_none rfl) rfl rfl rfl rfl rfl (fun _ => rfl) (fun _ => rfl) c_bnd) rfl rfl ?_)
      | (refine gq_arr0 ?_; refine gq_yv (yv_buildA tab_ok (gok_none rfl) rfl rfl rfl rfl (fun _ => allT_of rfl) rfl) rfl rfl ?_)
      | (refine gq_eqS ?_; first | refine gq_yv (yv_eqS tab_ok eqs_ok c_gok rfl rfl rfl rfl c_allT rfl rfl rfl) rfl rfl ?_)
      | (refine gq_neS ?_; first | refine gq_yv (yv_neS tab_ok eqs_ok c_gok rfl rfl rfl rfl c_allT rfl rfl rfl) rfl rfl ?_)
      | (refine gq_anyG ?_; first | refine gq_yv (yv_pure tab_ok c_gok rfl rfl c_allT) rfl rfl ?_ | refine gq_yv (yv_indexS tab_ok c_gok rfl rfl rfl rfl c_imp c_imp (by intro hq_; (try simp only [Bool.and_eq_true, Bool.not_eq_true', Bool.not_eq_false', Bool.or_eq_false_iff, Bool.or_eq_true, decide_eq_true_eq, decide_eq_false_iff_not, Bool.true_and, Bool.and_true] at hq_); omega)) rfl rfl ?_ | refine gq_yv (yv_indexS (i := 0) tab_ok c_gok rfl rfl rfl rfl c_imp c_imp (by intro hq_; (try simp only [Bool.and_eq_true, Bool.not_eq_true', Bool.not_eq_false', Bool.or_eq_false_iff, Bool.or_eq_true, decide_eq_true_eq, decide_eq_false_iff_not, Bool.true_and, Bool.and_true] at hq_); omega)) rfl rfl ?_))
  refine gq_yd (yd_call c_gok rfl ent39 rfl rfl c_allT (fun _ W hW => ct_RightNode a p c W (hA.st hW) ca)) rfl rfl ?_
  repeat' first
    | (refine gl_gate ?_; first
      | refine gl_nil ?_
      | (refine gl_load0 ?_; refine gl_yv (yv_load tab_ok (gok_none rfl) rfl rfl (fun _ => rfl) c_mem (fun _ => c_lds)) rfl rfl ?_)
      | (refine gl_add0 ?_; refine gl_yv (yv_add tab_ok (gok_none rfl) rfl rfl rfl rfl (fun _ => allT_of rfl) (by intro _; omega)) rfl rfl ?_)
      | (refine gl_sub0 ?_; refine gl_yv (yv_sub tab_ok (gok_none rfl) rfl rfl rfl rfl (fun _ => allT_of rfl) (by intro _; omega)) rfl rfl ?_)
      | (refine gl_idx0 ?_; refine gl_yv (yv_idxC tab_ok (gok_none rfl) rfl rfl rfl rfl rfl (fun _ => rfl) (fun _ => rfl) c_bnd) rfl rfl ?_)
      | (refine gl_bld0 ?_; (refine gl_ev (ev_buildSlice tab_ok rfl rfl rfl rfl rfl rfl rfl rfl rfl rfl ?_) rfl rfl; intro g_ hg_))
      | (refine gl_mul0 ?_; refine gl_yv (yv_mul tab_ok (gok_none rfl) rfl rfl rfl rfl (fun _ => allT_of rfl) c_bnd) rfl rfl ?_)
      | (refine gl_pick0 ?_; first | refine gl_yv (yv_and (gok_none rfl) rfl rfl rfl (fun _ => rfl) c_imp2) rfl rfl ?_ | refine gl_yv (yv_or (gok_none rfl) rfl rfl rfl (fun _ => rfl) c_imp2) rfl rfl ?_)
      | (refine gl_idx0 ?_; refine gl_yv (yv_indexAddr tab_ok (gok_none rfl) rfl rfl rfl rfl rfl (fun _ => rfl) (fun _ => rfl) (by intro _; omega)) rfl rfl ?_)
      | (refine gl_addG ?_; refine gl_yv (yv_add tab_ok c_gok rfl rfl rfl rfl c_allT c_bnd) rfl rfl ?_)
      | (refine gl_subG ?_; refine gl_yv (yv_sub tab_ok c_gok rfl rfl rfl rfl c_allT c_bnd) rfl rfl ?_)
      | (refine gl_loadG ?_; refine gl_yv (yv_load tab_ok c_gok rfl rfl c_imp c_mem (fun _ => c_lds)) rfl rfl ?_)
      | (refine gl_pickG ?_; first | refine gl_yv (yv_and c_gok rfl rfl rfl c_imp c_imp2) rfl rfl ?_ | refine gl_yv (yv_or c_gok rfl rfl rfl c_imp c_imp2) rfl rfl ?_)
      | (refine gl_idxG ?_; refine gl_yv (yv_indexAddr tab_ok c_gok rfl rfl rfl rfl rfl c_imp c_imp c_bnd) rfl rfl ?_)
      | (refine gl_box0 ?_; first | (refine gl_box_agg rfl rfl rfl rfl rfl ?_; intro g_ hg_) | (refine gl_box_one rfl rfl rfl rfl rfl rfl ?_; intro g_ hg_) | (refine gl_box rfl rfl rfl rfl rfl ?_; intro g_ hg_))
      | (refine gl_alc0 ?_; (refine gl_alloc tab_ok rfl rfl rfl rfl rfl ?_; intro g_ hg_))
      | (refine gl_sto0 ?_; refine gl_store tab_ok rfl rfl rfl rfl rfl rfl rfl c_one rfl c_ku ?_)
      | (refine gl_any0 ?_; refine gl_pure tab_ok rfl rfl rfl rfl rfl rfl ?_)
      | (refine gl_any0 ?_; first | refine gl_yv (yv_shr tab_ok (gok_none rfl) rfl rfl rfl (fun _ => rfl) (fun _ => rfl) c_bnd) rfl rfl ?_ | refine gl_yv (yv_rem tab_ok (gok_none rfl) rfl rfl rfl (fun _ => rfl) (fun _ => rfl) c_bnd) rfl rfl ?_ | refine gl_yv (yv_indexS tab_ok (gok_none rfl) rfl rfl rfl rfl (fun _ => rfl) (fun _ => rfl) c_bnd) rfl rfl ?_ | refine gl_yv (yv_sliceH tab_ok (gok_none rfl) rfl rfl rfl rfl rfl (fun _ => rfl) (fun _ => rfl) c_bnd) rfl rfl ?_)
      | (refine gl_arr0 ?_; refine gl_yv (yv_buildA tab_ok (gok_none rfl) rfl rfl rfl rfl (fun _ => allT_of rfl) rfl) rfl rfl ?_)
      | (refine gl_eqS ?_; first | refine gl_yv (yv_eqS tab_ok eqs_ok c_gok rfl rfl rfl rfl c_allT rfl rfl rfl) rfl rfl ?_)
      | (refine gl_neS ?_; first | refine gl_yv (yv_neS tab_ok eqs_ok c_gok rfl rfl rfl rfl c_allT rfl rfl rfl) rfl rfl ?_)
      | (refine gl_anyG ?_; first | refine gl_yv (yv_pure tab_ok c_gok rfl rfl c_allT) rfl rfl ?_ | refine gl_yv (yv_indexS tab_ok c_gok rfl rfl rfl rfl c_imp c_imp (by intro hq_; (try simp only [Bool.and_eq_true, Bool.not_eq_true', Bool.not_eq_false', Bool.or_eq_false_iff, Bool.or_eq_true, decide_eq_true_eq, decide_eq_false_iff_not, Bool.true_and, Bool.and_true] at hq_); omega)) rfl rfl ?_ | refine gl_yv (yv_indexS (i := 0) tab_ok c_gok rfl rfl rfl rfl c_imp c_imp (by intro hq_; (try simp only [Bool.and_eq_true, Bool.not_eq_true', Bool.not_eq_false', Bool.or_eq_false_iff, Bool.or_eq_true, decide_eq_true_eq, decide_eq_false_iff_not, Bool.true_and, Bool.and_true] at hq_); omega)) rfl rfl ?_))
    | (refine gc_gate ?_; first
      | refine gc_seq ?_
      | refine gc_region ?_
      | refine gc_quietRo rfl mixed (by decide +kernel) ?_
      | refine gc_true rfl ?_
      | refine gc_false rfl ?_
      | (refine gc_cond rfl ?_ ?_ <;> intro h_ <;> have hd_ := h_ <;> (try simp only [bytes_beq, cell_beq, val_beq, stamp_beq, decide_eq_true_eq, decide_eq_false_iff_not, Bool.and_eq_true, Bool.or_eq_true, Bool.or_eq_false_iff, Bool.not_eq_true', Bool.not_eq_false', Bool.not_true, Bool.not_false, Bool.false_or, Bool.true_and, Bool.and_true, Bool.or_false, beq_iff_eq, bne_iff_ne, beq_eq_false_iff_ne, bne_eq_false_iff_eq, ne_eq, Bool.false_eq_true, reduceCtorEq] at hd_) <;> (try (exfalso; omega)))
      | refine gc_block ?_
      | refine gc_exit ?_
      | refine gc_ret ?_
      | refine gc_skip ?_
      | refine gc_label ?_)
    | (refine ge_gate ?_; first
      | ((with_reducible refine ge_gT ?_); first | with_reducible refine ge_then ?_ | with_reducible refine ge_then_exit ?_ | with_reducible refine ge_then_ret ?_)
      | ((with_reducible refine ge_gK ?_); first | with_reducible refine ge_block ?_ | refine ge_block_exit ?_ | refine ge_block_pass rfl ?_ | with_reducible refine ge_block_ret ?_)
      | ((with_reducible refine ge_gB ?_); first | refine ge_ret1 tab_ok rfl c_rvt ?_ | refine ge_end1 tab_ok rfl c_rvt ?_ | refine ge_ret2 tab_ok rfl c_rvt c_rvt ?_ | refine ge_ret_none rfl ?_ | refine ge_end_none rfl ?_))
    | (refine gq_gate ?_; first
      | refine gq_nil ?_
      | (refine gq_load0 ?_; refine gq_yv (yv_load tab_ok (gok_none rfl) rfl rfl (fun _ => rfl) c_mem (fun _ => c_lds)) rfl rfl ?_)
      | (refine gq_add0 ?_; refine gq_yv (yv_add tab_ok (gok_none rfl) rfl rfl rfl rfl (fun _ => allT_of rfl) (by intro _; omega)) rfl rfl ?_)
      | (refine gq_sub0 ?_; refine gq_yv (yv_sub tab_ok (gok_none rfl) rfl rfl rfl rfl (fun _ => allT_of rfl) (by intro _; omega)) rfl rfl ?_)
      | (refine gq_idx0 ?_; refine gq_yv (yv_idxC tab_ok (gok_none rfl) rfl rfl rfl rfl rfl (fun _ => rfl) (fun _ => rfl) c_bnd) rfl rfl ?_)
      | (refine gq_pick0 ?_; first | refine gq_yv (yv_and (gok_none rfl) rfl rfl rfl (fun _ => rfl) c_imp2) rfl rfl ?_ | refine gq_yv (yv_or (gok_none rfl) rfl rfl rfl (fun _ => rfl) c_imp2) rfl rfl ?_)
      | (refine gq_idx0 ?_; refine gq_yv (yv_indexAddr tab_ok (gok_none rfl) rfl rfl rfl rfl rfl (fun _ => rfl) (fun _ => rfl) (by intro _; omega)) rfl rfl ?_)
      | (refine gq_addG ?_; refine gq_yv (yv_add tab_ok c_gok rfl rfl rfl rfl c_allT c_bnd) rfl rfl ?_)
      | (refine gq_subG ?_; refine gq_yv (yv_sub tab_ok c_gok rfl rfl rfl rfl c_allT c_bnd) rfl rfl ?_)
      | (refine gq_loadG ?_; refine gq_yv (yv_load tab_ok c_gok rfl rfl c_imp c_mem (fun _ => c_lds)) rfl rfl ?_)
      | (refine gq_pickG ?_; first | refine gq_yv (yv_and c_gok rfl rfl rfl c_imp c_imp2) rfl rfl ?_ | refine gq_yv (yv_or c_gok rfl rfl rfl c_imp c_imp2) rfl rfl ?_)
      | (refine gq_idxG ?_; refine gq_yv (yv_indexAddr tab_ok c_gok rfl rfl rfl rfl rfl c_imp c_imp c_bnd) rfl rfl ?_)
      | (refine gq_any0 ?_; refine gq_pure tab_ok rfl rfl rfl rfl rfl rfl ?_)
      | (refine gq_any0 ?_; first | refine gq_yv (yv_shr tab_ok (gok_none rfl) rfl rfl rfl (fun _ => rfl) (fun _ => rfl) c_bnd) rfl rfl ?_ | refine gq_yv (yv_rem tab_ok (gok_none rfl) rfl rfl rfl (fun _ => rfl) (fun _ => rfl) c_bnd) rfl rfl ?_ | refine gq_yv (yv_indexS tab_ok (gok_none rfl) rfl rfl rfl rfl (fun _ => rfl) (fun _ => rfl) c_bnd) rfl rfl ?_ | refine gq_yv (yv_sliceH tab_ok (gok_none rfl) rfl rfl rfl rfl rfl (fun _ => rfl) (fun _ => rfl) c_bnd) rfl rfl ?_)
      | (refine gq_arr0 ?_; refine gq_yv (yv_buildA tab_ok (gok_none rfl) rfl rfl rfl rfl (fun _ => allT_of rfl) rfl) rfl rfl ?_)
      | (refine gq_eqS ?_; first | refine gq_yv (yv_eqS tab_ok eqs_ok c_gok rfl rfl rfl rfl c_allT rfl rfl rfl) rfl rfl ?_)
      | (refine gq_neS ?_; first | refine gq_yv (yv_neS tab_ok eqs_ok c_gok rfl rfl rfl rfl c_allT rfl rfl rfl) rfl rfl ?_)
      | (refine gq_anyG ?_; first | refine gq_yv (yv_pure tab_ok c_gok rfl rfl c_allT) rfl rfl ?_ | refine gq_yv (yv_indexS tab_ok c_gok rfl rfl rfl rfl c_imp c_imp (by intro hq_; (try simp only [Bool.and_eq_true, Bool.not_eq_true', Bool.not_eq_false', Bool.or_eq_false_iff, Bool.or_eq_true, decide_eq_true_eq, decide_eq_false_iff_not, Bool.true_and, Bool.and_true] at hq_); omega)) rfl rfl ?_ | refine gq_yv (yv_indexS (i := 0) tab_ok c_gok rfl rfl rfl rfl c_imp c_imp (by intro hq_; (try simp only [Bool.and_eq_true, Bool.not_eq_true', Bool.not_eq_false', Bool.or_eq_false_iff, Bool.or_eq_true, decide_eq_true_eq, decide_eq_false_iff_not, Bool.true_and, Bool.and_true] at hq_); omega)) rfl rfl ?_))
  refine gq_yd (yd_call c_gok rfl ent65 rfl rfl c_allT (fun _ W hW => ct_Depth a p c W (hA.st hW) ca)) rfl rfl ?_
  repeat' first
    | (refine gl_gate ?_; first
      | refine gl_nil ?_
      | (refine gl_load0 ?_; refine gl_yv (yv_load tab_ok (gok_none rfl) rfl rfl (fun _ => rfl) c_mem (fun _ => c_lds)) rfl rfl ?_)
      | (refine gl_add0 ?_; refine gl_yv (yv_add tab_ok (gok_none rfl) rfl rfl rfl rfl (fun _ => allT_of rfl) (by intro _; omega)) rfl rfl ?_)
      | (refine gl_sub0 ?_; refine gl_yv (yv_sub tab_ok (gok_none rfl) rfl rfl rfl rfl (fun _ => allT_of rfl) (by intro _; omega)) rfl rfl ?_)
      | (refine gl_idx0 ?_; refine gl_yv (yv_idxC tab_ok (gok_none rfl) rfl rfl rfl rfl rfl (fun _ => rfl) (fun _ => rfl) c_bnd) rfl rfl ?_)
      | (refine gl_bld0 ?_; (refine gl_ev (ev_buildSlice tab_ok rfl rfl rfl rfl rfl rfl rfl rfl rfl rfl ?_) rfl rfl; intro g_ hg_))
      | (refine gl_mul0 ?_; refine gl_yv (yv_mul tab_ok (gok_none rfl) rfl rfl rfl rfl (fun _ => allT_of rfl) c_bnd) rfl rfl ?_)
      | (refine gl_pick0 ?_; first | refine gl_yv (yv_and (gok_none rfl) rfl rfl rfl (fun _ => rfl) c_imp2) rfl rfl ?_ | refine gl_yv (yv_or (gok_none rfl) rfl rfl rfl (fun _ => rfl) c_imp2) rfl rfl ?_)
      | (refine gl_idx0 ?_; refine gl_yv (yv_indexAddr tab_ok (gok_none rfl) rfl rfl rfl rfl rfl (fun _ => rfl) (fun _ => rfl) (by intro _; omega)) rfl rfl ?_)
      | (refine gl_addG ?_; refine gl_yv (yv_add tab_ok c_gok rfl rfl rfl rfl c_allT c_bnd) rfl rfl ?_)
      | (refine gl_subG ?_; refine gl_yv (yv_sub tab_ok c_gok rfl rfl rfl rfl c_allT c_bnd) rfl rfl ?_)
      | (refine gl_loadG ?_; refine gl_yv (yv_load tab_ok c_gok rfl rfl c_imp c_mem (fun _ => c_lds)) rfl rfl ?_)
      | (refine gl_pickG ?_; first | refine gl_yv (yv_and c_gok rfl rfl rfl c_imp c_imp2) rfl rfl ?_ | refine gl_yv (yv_or c_gok rfl rfl rfl c_imp c_imp2) rfl rfl ?_)
      | (refine gl_idxG ?_; refine gl_yv (yv_indexAddr tab_ok c_gok rfl rfl rfl rfl rfl c_imp c_imp c_bnd) rfl rfl ?_)
      | (refine gl_box0 ?_; first | (refine gl_box_agg rfl rfl rfl rfl rfl ?_; intro g_ hg_) | (refine gl_box_one rfl rfl rfl rfl rfl rfl ?_; intro g_ hg_) | (refine gl_box rfl rfl rfl rfl rfl ?_; intro g_ hg_))
      | (refine gl_alc0 ?_; (refine gl_alloc tab_ok rfl rfl rfl rfl rfl ?_; intro g_ hg_))
      | (refine gl_sto0 ?_; refine gl_store tab_ok rfl rfl rfl rfl rfl rfl rfl c_one rfl c_ku ?_)
      | (refine gl_any0 ?_; refine gl_pure tab_ok rfl rfl rfl rfl rfl rfl ?_)
      | (refine gl_any0 ?_; first | refine gl_yv (yv_shr tab_ok (gok_none rfl) rfl rfl rfl (fun _ => rfl) (fun _ => rfl) c_bnd) rfl rfl ?_ | refine gl_yv (yv_rem tab_ok (gok_none rfl) rfl rfl rfl (fun _ => rfl) (fun _ => rfl) c_bnd) rfl rfl ?_ | refine gl_yv (yv_indexS tab_ok (gok_none rfl) rfl rfl rfl rfl (fun _ => rfl) (fun _ => rfl) c_bnd) rfl rfl ?_ | refine gl_yv (yv_sliceH tab_ok (gok_none rfl) rfl rfl rfl rfl rfl (fun _ => rfl) (fun _ => rfl) c_bnd) rfl rfl ?_)
      | (refine gl_arr0 ?_; refine gl_yv (yv_buildA tab_ok (gok_none rfl) rfl rfl rfl rfl (fun _ => allT_of rfl) rfl) rfl rfl ?_)
      | (refine gl_eqS ?_; first | refine gl_yv (yv_eqS tab_ok eqs_ok c_gok rfl rfl rfl rfl c_allT rfl rfl rfl) rfl rfl ?_)
      | (refine gl_neS ?_; first | refine gl_yv (yv_neS tab_ok eqs_ok c_gok rfl rfl rfl rfl c_allT rfl rfl rfl) rfl rfl ?_)
      | (refine gl_anyG ?_; first | refine gl_yv (yv_pure tab_ok c_gok rfl rfl c_allT) rfl rfl ?_ | refine gl_yv (yv_indexS tab_ok c_gok rfl rfl rfl rfl c_imp c_imp (by intro hq_; (try simp only [Bool.and_eq_true, Bool.not_eq_true', Bool.not_eq_false', Bool.or_eq_false_iff, Bool.or_eq_true, decide_eq_true_eq, decide_eq_false_iff_not, Bool.true_and, Bool.and_true] at hq_); omega)) rfl rfl ?_ | refine gl_yv (yv_indexS (i := 0) tab_ok c_gok rfl rfl rfl rfl c_imp c_imp (by intro hq_; (try simp only [Bool.and_eq_true, Bool.not_eq_true', Bool.not_eq_false', Bool.or_eq_false_iff, Bool.or_eq_true, decide_eq_true_eq, decide_eq_false_iff_not, Bool.true_and, Bool.and_true] at hq_); omega)) rfl rfl ?_))
    | (refine gc_gate ?_; first
      | refine gc_seq ?_
      | refine gc_region ?_
      | refine gc_quietRo rfl mixed (by decide +kernel) ?_
      | refine gc_true rfl ?_
      | refine gc_false rfl ?_
      | (refine gc_cond rfl ?_ ?_ <;> intro h_ <;> have hd_ := h_ <;> (try simp only [bytes_beq, cell_beq, val_beq, stamp_beq, decide_eq_true_eq, decide_eq_false_iff_not, Bool.and_eq_true, Bool.or_eq_true, Bool.or_eq_false_iff, Bool.not_eq_true', Bool.not_eq_false', Bool.not_true, Bool.not_false, Bool.false_or, Bool.true_and, Bool.and_true, Bool.or_false, beq_iff_eq, bne_iff_ne, beq_eq_false_iff_ne, bne_eq_false_iff_eq, ne_eq, Bool.false_eq_true, reduceCtorEq] at hd_) <;> (try (exfalso; omega)))
      | refine gc_block ?_
      | refine gc_exit ?_
      | refine gc_ret ?_
      | refine gc_skip ?_
      | refine gc_label ?_)
    | (refine ge_gate ?_; first
      | ((with_reducible refine ge_gT ?_); first | with_reducible refine ge_then ?_ | with_reducible refine ge_then_exit ?_ | with_reducible refine ge_then_ret ?_)
      | ((with_reducible refine ge_gK ?_); first | with_reducible refine ge_block ?_ | refine ge_block_exit ?_ | refine ge_block_pass rfl ?_ | with_reducible refine ge_block_ret ?_)
      | ((with_reducible refine ge_gB ?_); first | refine ge_ret1 tab_ok rfl c_rvt ?_ | refine ge_end1 tab_ok rfl c_rvt ?_ | refine ge_ret2 tab_ok rfl c_rvt c_rvt ?_ | refine ge_ret_none rfl ?_ | refine ge_end_none rfl ?_))
    | (refine gq_gate ?_; first
      | refine gq_nil ?_
      | (refine gq_load0 ?_; refine gq_yv (yv_load tab_ok (gok_none rfl) rfl rfl (fun _ => rfl) c_mem (fun _ => c_lds)) rfl rfl ?_)
      | (refine gq_add0 ?_; refine gq_yv (yv_add tab_ok (gok_none rfl) rfl rfl rfl rfl (fun _ => allT_of rfl) (by intro _; omega)) rfl rfl ?_)
      | (refine gq_sub0 ?_; refine gq_yv (yv_sub tab_ok (gok_none rfl) rfl rfl rfl rfl (fun _ => allT_of rfl) (by intro _; omega)) rfl rfl ?_)
      | (refine gq_idx0 ?_; refine gq_yv (yv_idxC tab_ok (gok_none rfl) rfl rfl rfl rfl rfl (fun _ => rfl) (fun _ => rfl) c_bnd) rfl rfl ?_)
      | (refine gq_pick0 ?_; first | refine gq_yv (yv_and (gok_none rfl) rfl rfl rfl (fun _ => rfl) c_imp2) rfl rfl ?_ | refine gq_yv (yv_or (gok_none rfl) rfl rfl rfl (fun _ => rfl) c_imp2) rfl rfl ?_)
      | (refine gq_idx0 ?_; refine gq_yv (yv_indexAddr tab_ok (gok_none rfl) rfl rfl rfl rfl rfl (fun _ => rfl) (fun _ => rfl) (by intro _; omega)) rfl rfl ?_)
      | (refine gq_addG ?_; refine gq_yv (yv_add tab_ok c_gok rfl rfl rfl rfl c_allT c_bnd) rfl rfl ?_)
      | (refine gq_subG ?_; refine gq_yv (yv_sub tab_ok c_gok rfl rfl rfl rfl c_allT c_bnd) rfl rfl ?_)
      | (refine gq_loadG ?_; refine gq_yv (yv_load tab_ok c_gok rfl rfl c_imp c_mem (fun _ => c_lds)) rfl rfl ?_)
      | (refine gq_pickG ?_; first | refine gq_yv (yv_and c_gok rfl rfl rfl c_imp c_imp2) rfl rfl ?_ | refine gq_yv (yv_or c_gok rfl rfl rfl c_imp c_imp2) rfl rfl ?_)
      | (refine gq_idxG ?_; refine gq_yv (yv_indexAddr tab_ok c_gok rfl rfl rfl rfl rfl c_imp c_imp c_bnd) rfl rfl ?_)
      | (refine gq_any0 ?_; refine gq_pure tab_ok rfl rfl rfl rfl rfl rfl ?_)
      | (refine gq_any0 ?_; first | refine gq_yv (yv_shr tab_ok (gok_none rfl) rfl rfl rfl (fun _ => rfl) (fun _ => rfl) c_bnd) rfl rfl ?_ | refine gq_yv (yv_rem tab_ok (gok_none rfl) rfl rfl rfl (fun _ => rfl) (fun _ => rfl) c_bnd) rfl rfl ?_ | refine gq_yv (yv_indexS tab_ok (gok_none rfl) rfl rfl rfl rfl (fun _ => rfl) (fun _ => rfl) c_bnd) rfl rfl ?_ | refine gq_yv (yv_sliceH tab_ok (gok_none rfl) rfl rfl rfl rfl rfl (fun _ => rfl) (fun _ => rfl) c_bnd) rfl rfl ?_)
      | (refine gq_arr0 ?_; refine gq_yv (yv_buildA tab_ok (gok_none rfl) rfl rfl rfl rfl (fun _ => allT_of rfl) rfl) rfl rfl ?_)
      | (refine gq_eqS ?_; first | refine gq_yv (yv_eqS tab_ok eqs_ok c_gok rfl rfl rfl rfl c_allT rfl rfl rfl) rfl rfl ?_)
      | (refine gq_neS ?_; first | refine gq_yv (yv_neS tab_ok eqs_ok c_gok rfl rfl rfl rfl c_allT rfl rfl rfl) rfl rfl ?_)
      | (refine gq_anyG ?_; first | refine gq_yv (yv_pure tab_ok c_gok rfl rfl c_allT) rfl rfl ?_ | refine gq_yv (yv_indexS tab_ok c_gok rfl rfl rfl rfl c_imp c_imp (by intro hq_; (try simp only [Bool.and_eq_true, Bool.not_eq_true', Bool.not_eq_false', Bool.or_eq_false_iff, Bool.or_eq_true, decide_eq_true_eq, decide_eq_false_iff_not, Bool.true_and, Bool.and_true] at hq_); omega)) rfl rfl ?_ | refine gq_yv (yv_indexS (i := 0) tab_ok c_gok rfl rfl rfl rfl c_imp c_imp (by intro hq_; (try simp only [Bool.and_eq_true, Bool.not_eq_true', Bool.not_eq_false', Bool.or_eq_false_iff, Bool.or_eq_true, decide_eq_true_eq, decide_eq_false_iff_not, Bool.true_and, Bool.and_true] at hq_); omega)) rfl rfl ?_))
  refine gq_yd (yd_call c_gok rfl ent67 rfl rfl c_allT (fun _ W hW => ct_DepthR a p c W (hA.st hW) ca)) rfl rfl ?_
  repeat' first
    | (refine gl_gate ?_; first
      | refine gl_nil ?_
      | (refine gl_load0 ?_; refine gl_yv (yv_load tab_ok (gok_none rfl) rfl rfl (fun _ => rfl) c_mem (fun _ => c_lds)) rfl rfl ?_)
      | (refine gl_add0 ?_; refine gl_yv (yv_add tab_ok (gok_none rfl) rfl rfl rfl rfl (fun _ => allT_of rfl) (by intro _; omega)) rfl rfl ?_)
      | (refine gl_sub0 ?_; refine gl_yv (yv_sub tab_ok (gok_none rfl) rfl rfl rfl rfl (fun _ => allT_of rfl) (by intro _; omega)) rfl rfl ?_)
      | (refine gl_idx0 ?_; refine gl_yv (yv_idxC tab_ok (gok_none rfl) rfl rfl rfl rfl rfl (fun _ => rfl) (fun _ => rfl) c_bnd) rfl rfl ?_)
      | (refine gl_bld0 ?_; (refine gl_ev (ev_buildSlice tab_ok rfl rfl rfl rfl rfl rfl rfl rfl rfl rfl ?_) rfl rfl; intro g_ hg_))
      | (refine gl_mul0 ?_; refine gl_yv (yv_mul tab_ok (gok_none rfl) rfl rfl rfl rfl (fun _ => allT_of rfl) c_bnd) rfl rfl ?_)
      | (refine gl_pick0 ?_; first | refine gl_yv (yv_and (gok_none rfl) rfl rfl rfl (fun _ => rfl) c_imp2) rfl rfl ?_ | refine gl_yv (yv_or (gok_none rfl) rfl rfl rfl (fun _ => rfl) c_imp2) rfl rfl ?_)
      | (refine gl_idx0 ?_; refine gl_yv (yv_indexAddr tab_ok (gok_none rfl) rfl rfl rfl rfl rfl (fun _ => rfl) (fun _ => rfl) (by intro _; omega)) rfl rfl ?_)
      | (refine gl_addG ?_; refine gl_yv (yv_add tab_ok c_gok rfl rfl rfl rfl c_allT c_bnd) rfl rfl ?_)
      | (refine gl_subG ?_; refine gl_yv (yv_sub tab_ok c_gok rfl rfl rfl rfl c_allT c_bnd) rfl rfl ?_)
      | (refine gl_loadG ?_; refine gl_yv (yv_load tab_ok c_gok rfl rfl c_imp c_mem (fun _ => c_lds)) rfl rfl ?_)
      | (refine gl_pickG ?_; first | refine gl_yv (yv_and c_gok rfl rfl rfl c_imp c_imp2) rfl rfl ?_ | refine gl_yv (yv_or c_gok rfl rfl rfl c_imp c_imp2) rfl rfl ?_)
      | (refine gl_idxG ?_; refine gl_yv (yv_indexAddr tab_ok c_gok rfl rfl rfl rfl rfl c_imp c_imp c_bnd) rfl rfl ?_)
      | (refine gl_box0 ?_; first | (refine gl_box_agg rfl rfl rfl rfl rfl ?_; intro g_ hg_) | (refine gl_box_one rfl rfl rfl rfl rfl rfl ?_; intro g_ hg_) | (refine gl_box rfl rfl rfl rfl rfl ?_; intro g_ hg_))
      | (refine gl_alc0 ?_; (refine gl_alloc tab_ok rfl rfl rfl rfl rfl ?_; intro g_ hg_))
      | (refine gl_sto0 ?_; refine gl_store tab_ok rfl rfl rfl rfl rfl rfl rfl c_one rfl c_ku ?_)
      | (refine gl_any0 ?_; refine gl_pure tab_ok rfl rfl rfl rfl rfl rfl ?_)
      | (refine gl_any0 ?_; first | refine gl_yv (yv_shr tab_ok (gok_none rfl) rfl rfl rfl (fun _ => rfl) (fun _ => rfl) c_bnd) rfl rfl ?_ | refine gl_yv (yv_rem tab_ok (gok_none rfl) rfl rfl rfl (fun _ => rfl) (fun _ => rfl) c_bnd) rfl rfl ?_ | refine gl_yv (yv_indexS tab_ok (gok_none rfl) rfl rfl rfl rfl (fun _ => rfl) (fun _ => rfl) c_bnd) rfl rfl ?_ | refine gl_yv (yv_sliceH tab_ok (gok_none rfl) rfl rfl rfl rfl rfl (fun _ => rfl) (fun _ => rfl) c_bnd) rfl rfl ?_)
      | (refine gl_arr0 ?_; refine gl_yv (yv_buildA tab_ok (gok_none rfl) rfl rfl rfl rfl (fun _ => allT_of rfl) rfl) rfl rfl ?_)
      | (refine gl_eqS ?_; first | refine gl_yv (yv_eqS tab_ok eqs_ok c_gok rfl rfl rfl rfl c_allT rfl rfl rfl) rfl rfl ?_)
      | (refine gl_neS ?_; first | refine gl_yv (yv_neS tab_ok eqs_ok c_gok rfl rfl rfl rfl c_allT rfl rfl rfl) rfl rfl ?_)
      | (refine gl_anyG ?_; first | refine gl_yv (yv_pure tab_ok c_gok rfl rfl c_allT) rfl rfl ?_ | refine gl_yv (yv_indexS tab_ok c_gok rfl rfl rfl rfl c_imp c_imp (by intro hq_; (try simp only [Bool.and_eq_true, Bool.not_eq_true', Bool.not_eq_false', Bool.or_eq_false_iff, Bool.or_eq_true, decide_eq_true_eq, decide_eq_false_iff_not, Bool.true_and, Bool.and_true] at hq_); omega)) rfl rfl ?_ | refine gl_yv (yv_indexS (i := 0) tab_ok c_gok rfl rfl rfl rfl c_imp c_imp (by intro hq_; (try simp only [Bool.and_eq_true, Bool.not_eq_true', Bool.not_eq_false', Bool.or_eq_false_iff, Bool.or_eq_true, decide_eq_true_eq, decide_eq_false_iff_not, Bool.true_and, Bool.and_true] at hq_); omega)) rfl rfl ?_))
    | (refine gc_gate ?_; first
      | refine gc_seq ?_
      | refine gc_region ?_
      | refine gc_quietRo rfl mixed (by decide +kernel) ?_
      | refine gc_true rfl ?_
      | refine gc_false rfl ?_
      | (refine gc_cond rfl ?_ ?_ <;> intro h_ <;> have hd_ := h_ <;> (try simp only [bytes_beq, cell_beq, val_beq, stamp_beq, decide_eq_true_eq, decide_eq_false_iff_not, Bool.and_eq_true, Bool.or_eq_true, Bool.or_eq_false_iff, Bool.not_eq_true', Bool.not_eq_false', Bool.not_true, Bool.not_false, Bool.false_or, Bool.true_and, Bool.and_true, Bool.or_false, beq_iff_eq, bne_iff_ne, beq_eq_false_iff_ne, bne_eq_false_iff_eq, ne_eq, Bool.false_eq_true, reduceCtorEq] at hd_) <;> (try (exfalso; omega)))
      | refine gc_block ?_
      | refine gc_exit ?_
      | refine gc_ret ?_
      | refine gc_skip ?_
      | refine gc_label ?_)
    | (refine ge_gate ?_; first
      | ((with_reducible refine ge_gT ?_); first | with_reducible refine ge_then ?_ | with_reducible refine ge_then_exit ?_ | with_reducible refine ge_then_ret ?_)
      | ((with_reducible refine ge_gK ?_); first | with_reducible refine ge_block ?_ | refine ge_block_exit ?_ | refine ge_block_pass rfl ?_ | with_reducible refine ge_block_ret ?_)
      | ((with_reducible refine ge_gB ?_); first | refine ge_ret1 tab_ok rfl c_rvt ?_ | refine ge_end1 tab_ok rfl c_rvt ?_ | refine ge_ret2 tab_ok rfl c_rvt c_rvt ?_ | refine ge_ret_none rfl ?_ | refine ge_end_none rfl ?_))
    | (refine gq_gate ?_; first
      | refine gq_nil ?_
      | (refine gq_load0 ?_; refine gq_yv (yv_load tab_ok (gok_none rfl) rfl rfl (fun _ => rfl) c_mem (fun _ => c_lds)) rfl rfl ?_)
      | (refine gq_add0 ?_; refine gq_yv (yv_add tab_ok (gok_none rfl) rfl rfl rfl rfl (fun _ => allT_of rfl) (by intro _; omega)) rfl rfl ?_)
      | (refine gq_sub0 ?_; refine gq_yv (yv_sub tab_ok (gok_none rfl) rfl rfl rfl rfl (fun _ => allT_of rfl) (by intro _; omega)) rfl rfl ?_)
      | (refine gq_idx0 ?_; refine gq_yv (yv_idxC tab_ok (gok_none rfl) rfl rfl rfl rfl rfl (fun _ => rfl) (fun _ => rfl) c_bnd) rfl rfl ?_)
      | (refine gq_pick0 ?_; first | refine gq_yv (yv_and (gok_none rfl) rfl rfl rfl (fun _ => rfl) c_imp2) rfl rfl ?_ | refine gq_yv (yv_or (gok_none rfl) rfl rfl rfl (fun _ => rfl) c_imp2) rfl rfl ?_)
      | (refine gq_idx0 ?_; refine gq_yv (yv_indexAddr tab_ok (gok_none rfl) rfl rfl rfl rfl rfl (fun _ => rfl) (fun _ => rfl) (by intro _; omega)) rfl rfl ?_)
      | (refine gq_addG ?_; refine gq_yv (yv_add tab_ok c_gok rfl rfl rfl rfl c_allT c_bnd) rfl rfl ?_)
      | (refine gq_subG ?_; refine gq_yv (yv_sub tab_ok c_gok rfl rfl rfl rfl c_allT c_bnd) rfl rfl ?_)
      | (refine gq_loadG ?_; refine gq_yv (yv_load tab_ok c_gok rfl rfl c_imp c_mem (fun _ => c_lds)) rfl rfl ?_)
      | (refine gq_pickG ?_; first | refine gq_yv (yv_and c_gok rfl rfl rfl c_imp c_imp2) rfl rfl ?_ | refine gq_yv (yv_or c_gok rfl rfl rfl c_imp c_imp2) rfl rfl ?_)
      | (refine gq_idxG ?_; refine gq_yv (yv_indexAddr tab_ok c_gok rfl rfl rfl rfl rfl c_imp c_imp c_bnd) rfl rfl ?_)
      | (refine gq_any0 ?_; refine gq_pure tab_ok rfl rfl rfl rfl rfl rfl ?_)
      | (refine gq_any0 ?_; first | refine gq_yv (yv_shr tab_ok (gok_none rfl) rfl rfl rfl (fun _ => rfl) (fun _ => rfl) c_bnd) rfl rfl ?_ | refine gq_yv (yv_rem tab_ok (gok_none rfl) rfl rfl rfl (fun _ => rfl) (fun _ => rfl) c_bnd) rfl rfl ?_ | refine gq_yv (yv_indexS tab_ok (gok_none rfl) rfl rfl rfl rfl (fun _ => rfl) (fun _ => rfl) c_bnd) rfl rfl ?_ | refine gq_yv (yv_sliceH tab_ok (gok_none rfl) rfl rfl rfl rfl rfl (fun _ => rfl) (fun _ => rfl) c_bnd) rfl rfl ?_)
      | (refine gq_arr0 ?_; refine gq_yv (yv_buildA tab_ok (gok_none rfl) rfl rfl rfl rfl (fun _ => allT_of rfl) rfl) rfl rfl ?_)
      | (refine gq_eqS ?_; first | refine gq_yv (yv_eqS tab_ok eqs_ok c_gok rfl rfl rfl rfl c_allT rfl rfl rfl) rfl rfl ?_)
      | (refine gq_neS ?_; first | refine gq_yv (yv_neS tab_ok eqs_ok c_gok rfl rfl rfl rfl c_allT rfl rfl rfl) rfl rfl ?_)
      | (refine gq_anyG ?_; first | refine gq_yv (yv_pure tab_ok c_gok rfl rfl c_allT) rfl rfl ?_ | refine gq_yv (yv_indexS tab_ok c_gok rfl rfl rfl rfl c_imp c_imp (by intro hq_; (try simp only [Bool.and_eq_true, Bool.not_eq_true', Bool.not_eq_false', Bool.or_eq_false_iff, Bool.or_eq_true, decide_eq_true_eq, decide_eq_false_iff_not, Bool.true_and, Bool.and_true] at hq_); omega)) rfl rfl ?_ | refine gq_yv (yv_indexS (i := 0) tab_ok c_gok rfl rfl rfl rfl c_imp c_imp (by intro hq_; (try simp only [Bool.and_eq_true, Bool.not_eq_true', Bool.not_eq_false', Bool.or_eq_false_iff, Bool.or_eq_true, decide_eq_true_eq, decide_eq_false_iff_not, Bool.true_and, Bool.and_true] at hq_); omega)) rfl rfl ?_))
  refine gq_yd (yd_call c_gok rfl ent68 rfl rfl c_allT (fun _ W hW => ct_treeSame a b p q c d W (hA.st hW) (hB.st hW) ca cb)) rfl rfl ?_
  repeat' first
    | (refine gl_gate ?_; first
      | refine gl_nil ?_
      | (refine gl_load0 ?_; refine gl_yv (yv_load tab_ok (gok_none rfl) rfl rfl (fun _ => rfl) c_mem (fun _ => c_lds)) rfl rfl ?_)
      | (refine gl_add0 ?_; refine gl_yv (yv_add tab_ok (gok_none rfl) rfl rfl rfl rfl (fun _ => allT_of rfl) (by intro _; omega)) rfl rfl ?_)
      | (refine gl_sub0 ?_; refine gl_yv (yv_sub tab_ok (gok_none rfl) rfl rfl rfl rfl (fun _ => allT_of rfl) (by intro _; omega)) rfl rfl ?_)
      | (refine gl_idx0 ?_; refine gl_yv (yv_idxC tab_ok (gok_none rfl) rfl rfl rfl rfl rfl (fun _ => rfl) (fun _ => rfl) c_bnd) rfl rfl ?_)
      | (refine gl_bld0 ?_; (refine gl_ev (ev_buildSlice tab_ok rfl rfl rfl rfl rfl rfl rfl rfl rfl rfl ?_) rfl rfl; intro g_ hg_))
      | (refine gl_mul0 ?_; refine gl_yv (yv_mul tab_ok (gok_none rfl) rfl rfl rfl rfl (fun _ => allT_of rfl) c_bnd) rfl rfl ?_)
      | (refine gl_pick0 ?_; first | refine gl_yv (yv_and (gok_none rfl) rfl rfl rfl (fun _ => rfl) c_imp2) rfl rfl ?_ | refine gl_yv (yv_or (gok_none rfl) rfl rfl rfl (fun _ => rfl) c_imp2) rfl rfl ?_)
      | (refine gl_idx0 ?_; refine gl_yv (yv_indexAddr tab_ok (gok_none rfl) rfl rfl rfl rfl rfl (fun _ => rfl) (fun _ => rfl) (by intro _; omega)) rfl rfl ?_)
      | (refine gl_addG ?_; refine gl_yv (yv_add tab_ok c_gok rfl rfl rfl rfl c_allT c_bnd) rfl rfl ?_)
      | (refine gl_subG ?_; refine gl_yv (yv_sub tab_ok c_gok rfl rfl rfl rfl c_allT c_bnd) rfl rfl ?_)
      | (refine gl_loadG ?_; refine gl_yv (yv_load tab_ok c_gok rfl rfl c_imp c_mem (fun _ => c_lds)) rfl rfl ?_)
      | (refine gl_pickG ?_; first | refine gl_yv (yv_and c_gok rfl rfl rfl c_imp c_imp2) rfl rfl ?_ | refine gl_yv (yv_or c_gok rfl rfl rfl c_imp c_imp2) rfl rfl ?_)
      | (refine gl_idxG ?_; refine gl_yv (yv_indexAddr tab_ok c_gok rfl rfl rfl rfl rfl c_imp c_imp c_bnd) rfl rfl ?_)
      | (refine gl_box0 ?_; first | (refine gl_box_agg rfl rfl rfl rfl rfl ?_; intro g_ hg_) | (refine gl_box_one rfl rfl rfl rfl rfl rfl ?_; intro g_ hg_) | (refine gl_box rfl rfl rfl rfl rfl ?_; intro g_ hg_))
      | (refine gl_alc0 ?_; (refine gl_alloc tab_ok rfl rfl rfl rfl rfl ?_; intro g_ hg_))
      | (refine gl_sto0 ?_; refine gl_store tab_ok rfl rfl rfl rfl rfl rfl rfl c_one rfl c_ku ?_)
      | (refine gl_any0 ?_; refine gl_pure tab_ok rfl rfl rfl rfl rfl rfl ?_)
      | (refine gl_any0 ?_; first | refine gl_yv (yv_shr tab_ok (gok_none rfl) rfl rfl rfl (fun _ => rfl) (fun _ => rfl) c_bnd) rfl rfl ?_ | refine gl_yv (yv_rem tab_ok (gok_none rfl) rfl rfl rfl (fun _ => rfl) (fun _ => rfl) c_bnd) rfl rfl ?_ | refine gl_yv (yv_indexS tab_ok (gok_none rfl) rfl rfl rfl rfl (fun _ => rfl) (fun _ => rfl) c_bnd) rfl rfl ?_ | refine gl_yv (yv_sliceH tab_ok (gok_none rfl) rfl rfl rfl rfl rfl (fun _ => rfl) (fun _ => rfl) c_bnd) rfl rfl ?_)
      | (refine gl_arr0 ?_; refine gl_yv (yv_buildA tab_ok (gok_none rfl) rfl rfl rfl rfl (fun _ => allT_of rfl) rfl) rfl rfl ?_)
      | (refine gl_eqS ?_; first | refine gl_yv (yv_eqS tab_ok eqs_ok c_gok rfl rfl rfl rfl c_allT rfl rfl rfl) rfl rfl ?_)
      | (refine gl_neS ?_; first | refine gl_yv (yv_neS tab_ok eqs_ok c_gok rfl rfl rfl rfl c_allT rfl rfl rfl) rfl rfl ?_)
      | (refine gl_anyG ?_; first | refine gl_yv (yv_pure tab_ok c_gok rfl rfl c_allT) rfl rfl ?_ | refine gl_yv (yv_indexS tab_ok c_gok rfl rfl rfl rfl c_imp c_imp (by intro hq_; (try simp only [Bool.and_eq_true, Bool.not_eq_true', Bool.not_eq_false', Bool.or_eq_false_iff, Bool.or_eq_true, decide_eq_true_eq, decide_eq_false_iff_not, Bool.true_and, Bool.and_true] at hq_); omega)) rfl rfl ?_ | refine gl_yv (yv_indexS (i := 0) tab_ok c_gok rfl rfl rfl rfl c_imp c_imp (by intro hq_; (try simp only [Bool.and_eq_true, Bool.not_eq_true', Bool.not_eq_false', Bool.or_eq_false_iff, Bool.or_eq_true, decide_eq_true_eq, decide_eq_false_iff_not, Bool.true_and, Bool.and_true] at hq_); omega)) rfl rfl ?_))
    | (refine gc_gate ?_; first
      | refine gc_seq ?_
      | refine gc_region ?_
      | refine gc_quietRo rfl mixed (by decide +kernel) ?_
      | refine gc_true rfl ?_
      | refine gc_false rfl ?_
      | (refine gc_cond rfl ?_ ?_ <;> intro h_ <;> have hd_ := h_ <;> (try simp only [bytes_beq, cell_beq, val_beq, stamp_beq, decide_eq_true_eq, decide_eq_false_iff_not, Bool.and_eq_true, Bool.or_eq_true, Bool.or_eq_false_iff, Bool.not_eq_true', Bool.not_eq_false', Bool.not_true, Bool.not_false, Bool.false_or, Bool.true_and, Bool.and_true, Bool.or_false, beq_iff_eq, bne_iff_ne, beq_eq_false_iff_ne, bne_eq_false_iff_eq, ne_eq, Bool.false_eq_true, reduceCtorEq] at hd_) <;> (try (exfalso; omega)))
      | refine gc_block ?_
      | refine gc_exit ?_
      | refine gc_ret ?_
      | refine gc_skip ?_
      | refine gc_label ?_)
    | (refine ge_gate ?_; first
      | ((with_reducible refine ge_gT ?_); first | with_reducible refine ge_then ?_ | with_reducible refine ge_then_exit ?_ | with_reducible refine ge_then_ret ?_)
      | ((with_reducible refine ge_gK ?_); first | with_reducible refine ge_block ?_ | refine ge_block_exit ?_ | refine ge_block_pass rfl ?_ | with_reducible refine ge_block_ret ?_)
      | ((with_reducible refine ge_gB ?_); first | refine ge_ret1 tab_ok rfl c_rvt ?_ | refine ge_end1 tab_ok rfl c_rvt ?_ | refine ge_ret2 tab_ok rfl c_rvt c_rvt ?_ | refine ge_ret_none rfl ?_ | refine ge_end_none rfl ?_))
    | (refine gq_gate ?_; first
      | refine gq_nil ?_
      | (refine gq_load0 ?_; refine gq_yv (yv_load tab_ok (gok_none rfl) rfl rfl (fun _ => rfl) c_mem (fun _ => c_lds)) rfl rfl ?_)
      | (refine gq_add0 ?_; refine gq_yv (yv_add tab_ok (gok_none rfl) rfl rfl rfl rfl (fun _ => allT_of rfl) (by intro _; omega)) rfl rfl ?_)
      | (refine gq_sub0 ?_; refine gq_yv (yv_sub tab_ok (gok_none rfl) rfl rfl rfl rfl (fun _ => allT_of rfl) (by intro _; omega)) rfl rfl ?_)
      | (refine gq_idx0 ?_; refine gq_yv (yv_idxC tab_ok (gok_none rfl) rfl rfl rfl rfl rfl (fun _ => rfl) (fun _ => rfl) c_bnd) rfl rfl ?_)
      | (refine gq_pick0 ?_; first | refine gq_yv (yv_and (gok_none rfl) rfl rfl rfl (fun _ => rfl) c_imp2) rfl rfl ?_ | refine gq_yv (yv_or (gok_none rfl) rfl rfl rfl (fun _ => rfl) c_imp2) rfl rfl ?_)
      | (refine gq_idx0 ?_; refine gq_yv (yv_indexAddr tab_ok (gok_none rfl) rfl rfl rfl rfl rfl (fun _ => rfl) (fun _ => rfl) (by intro _; omega)) rfl rfl ?_)
      | (refine gq_addG ?_; refine gq_yv (yv_add tab_ok c_gok rfl rfl rfl rfl c_allT c_bnd) rfl rfl ?_)
      | (refine gq_subG ?_; refine gq_yv (yv_sub tab_ok c_gok rfl rfl rfl rfl c_allT c_bnd) rfl rfl ?_)
      | (refine gq_loadG ?_; refine gq_yv (yv_load tab_ok c_gok rfl rfl c_imp c_mem (fun _ => c_lds)) rfl rfl ?_)
      | (refine gq_pickG ?_; first | refine gq_yv (yv_and c_gok rfl rfl rfl c_imp c_imp2) rfl rfl ?_ | refine gq_yv (yv_or c_gok rfl rfl rfl c_imp c_imp2) rfl rfl ?_)
      | (refine gq_idxG ?_; refine gq_yv (yv_indexAddr tab_ok c_gok rfl rfl rfl rfl rfl c_imp c_imp c_bnd) rfl rfl ?_)
      | (refine gq_any0 ?_; refine gq_pure tab_ok rfl rfl rfl rfl rfl rfl ?_)
      | (refine gq_any0 ?_; first | refine gq_yv (yv_shr tab_ok (gok_none rfl) rfl rfl rfl (fun _ => rfl) (fun _ => rfl) c_bnd) rfl rfl ?_ | refine gq_yv (yv_rem tab_ok (gok_none rfl) rfl rfl rfl (fun _ => rfl) (fun _ => rfl) c_bnd) rfl rfl ?_ | refine gq_yv (yv_indexS tab_ok (gok_none rfl) rfl rfl rfl rfl (fun _ => rfl) (fun _ => rfl) c_bnd) rfl rfl ?_ | refine gq_yv (yv_sliceH tab_ok (gok_none rfl) rfl rfl rfl rfl rfl (fun _ => rfl) (fun _ => rfl) c_bnd) rfl rfl ?_)
      | (refine gq_arr0 ?_; refine gq_yv (yv_buildA tab_ok (gok_none rfl) rfl rfl rfl rfl (fun _ => allT_of rfl) rfl) rfl rfl ?_)
      | (refine gq_eqS ?_; first | refine gq_yv (yv_eqS tab_ok eqs_ok c_gok rfl rfl rfl rfl c_allT rfl rfl rfl) rfl rfl ?_)
      | (refine gq_neS ?_; first | refine gq_yv (yv_neS tab_ok eqs_ok c_gok rfl rfl rfl rfl c_allT rfl rfl rfl) rfl rfl ?_)
      | (refine gq_anyG ?_; first | refine gq_yv (yv_pure tab_ok c_gok rfl rfl c_allT) rfl rfl ?_ | refine gq_yv (yv_indexS tab_ok c_gok rfl rfl rfl rfl c_imp c_imp (by intro hq_; (try simp only [Bool.and_eq_true, Bool.not_eq_true', Bool.not_eq_false', Bool.or_eq_false_iff, Bool.or_eq_true, decide_eq_true_eq, decide_eq_false_iff_not, Bool.true_and, Bool.and_true] at hq_); omega)) rfl rfl ?_ | refine gq_yv (yv_indexS (i := 0) tab_ok c_gok rfl rfl rfl rfl c_imp c_imp (by intro hq_; (try simp only [Bool.and_eq_true, Bool.not_eq_true', Bool.not_eq_false', Bool.or_eq_false_iff, Bool.or_eq_true, decide_eq_true_eq, decide_eq_false_iff_not, Bool.true_and, Bool.and_true] at hq_); omega)) rfl rfl ?_))
  refine gq_yd (yd_call c_gok rfl ent34 rfl rfl c_allT (fun _ W hW => ct_SameNode a b p q c d W (hA.st hW) (hB.st hW) ca cb)) rfl rfl ?_
  repeat' first
    | (refine gl_gate ?_; first
      | refine gl_nil ?_
      | (refine gl_load0 ?_; refine gl_yv (yv_load tab_ok (gok_none rfl) rfl rfl (fun _ => rfl) c_mem (fun _ => c_lds)) rfl rfl ?_)
      | (refine gl_add0 ?_; refine gl_yv (yv_add tab_ok (gok_none rfl) rfl rfl rfl rfl (fun _ => allT_of rfl) (by intro _; omega)) rfl rfl ?_)
      | (refine gl_sub0 ?_; refine gl_yv (yv_sub tab_ok (gok_none rfl) rfl rfl rfl rfl (fun _ => allT_of rfl) (by intro _; omega)) rfl rfl ?_)
      | (refine gl_idx0 ?_; refine gl_yv (yv_idxC tab_ok (gok_none rfl) rfl rfl rfl rfl rfl (fun _ => rfl) (fun _ => rfl) c_bnd) rfl rfl ?_)
      | (refine gl_bld0 ?_; (refine gl_ev (ev_buildSlice tab_ok rfl rfl rfl rfl rfl rfl rfl rfl rfl rfl ?_) rfl rfl; intro g_ hg_))
      | (refine gl_mul0 ?_; refine gl_yv (yv_mul tab_ok (gok_none rfl) rfl rfl rfl rfl (fun _ => allT_of rfl) c_bnd) rfl rfl ?_)
      | (refine gl_pick0 ?_; first | refine gl_yv (yv_and (gok_none rfl) rfl rfl rfl (fun _ => rfl) c_imp2) rfl rfl ?_ | refine gl_yv (yv_or (gok_none rfl) rfl rfl rfl (fun _ => rfl) c_imp2) rfl rfl ?_)
      | (refine gl_idx0 ?_; refine gl_yv (yv_indexAddr tab_ok (gok_none rfl) rfl rfl rfl rfl rfl (fun _ => rfl) (fun _ => rfl) (by intro _; omega)) rfl rfl ?_)
      | (refine gl_addG ?_; refine gl_yv (yv_add tab_ok c_gok rfl rfl rfl rfl c_allT c_bnd) rfl rfl ?_)
      | (refine gl_subG ?_; refine gl_yv (yv_sub tab_ok c_gok rfl rfl rfl rfl c_allT c_bnd) rfl rfl ?_)
      | (refine gl_loadG ?_; refine gl_yv (yv_load tab_ok c_gok rfl rfl c_imp c_mem (fun _ => c_lds)) rfl rfl ?_)
      | (refine gl_pickG ?_; first | refine gl_yv (yv_and c_gok rfl rfl rfl c_imp c_imp2) rfl rfl ?_ | refine gl_yv (yv_or c_gok rfl rfl rfl c_imp c_imp2) rfl rfl ?_)
      | (refine gl_idxG ?_; refine gl_yv (yv_indexAddr tab_ok c_gok rfl rfl rfl rfl rfl c_imp c_imp c_bnd) rfl rfl ?_)
      | (refine gl_box0 ?_; first | (refine gl_box_agg rfl rfl rfl rfl rfl ?_; intro g_ hg_) | (refine gl_box_one rfl rfl rfl rfl rfl rfl ?_; intro g_ hg_) | (refine gl_box rfl rfl rfl rfl rfl ?_; intro g_ hg_))
      | (refine gl_alc0 ?_; (refine gl_alloc tab_ok rfl rfl rfl rfl rfl ?_; intro g_ hg_))
      | (refine gl_sto0 ?_; refine gl_store tab_ok rfl rfl rfl rfl rfl rfl rfl c_one rfl c_ku ?_)
      | (refine gl_any0 ?_; refine gl_pure tab_ok rfl rfl rfl rfl rfl rfl ?_)
      | (refine gl_any0 ?_; first | refine gl_yv (yv_shr tab_ok (gok_none rfl) rfl rfl rfl (fun _ => rfl) (fun _ => rfl) c_bnd) rfl rfl ?_ | refine gl_yv (yv_rem tab_ok (gok_none rfl) rfl rfl rfl (fun _ => rfl) (fun _ => rfl) c_bnd) rfl rfl ?_ | refine gl_yv (yv_indexS tab_ok (gok_none rfl) rfl rfl rfl rfl (fun _ => rfl) (fun _ => rfl) c_bnd) rfl rfl ?_ | refine gl_yv (yv_sliceH tab_ok (gok_none rfl) rfl rfl rfl rfl rfl (fun _ => rfl) (fun _ => rfl) c_bnd) rfl rfl ?_)
      | (refine gl_arr0 ?_; refine gl_yv (yv_buildA tab_ok (gok_none rfl) rfl rfl rfl rfl (fun _ => allT_of rfl) rfl) rfl rfl ?_)
      | (refine gl_eqS ?_; first | refine gl_yv (yv_eqS tab_ok eqs_ok c_gok rfl rfl rfl rfl c_allT rfl rfl rfl) rfl rfl ?_)
      | (refine gl_neS ?_; first | refine gl_yv (yv_neS tab_ok eqs_ok c_gok rfl rfl rfl rfl c_allT rfl rfl rfl) rfl rfl ?_)
      | (refine gl_anyG ?_; first | refine gl_yv (yv_pure tab_ok c_gok rfl rfl c_allT) rfl rfl ?_ | refine gl_yv (yv_indexS tab_ok c_gok rfl rfl rfl rfl c_imp c_imp (by intro hq_; (try simp only [Bool.and_eq_true, Bool.not_eq_true', Bool.not_eq_false', Bool.or_eq_false_iff, Bool.or_eq_true, decide_eq_true_eq, decide_eq_false_iff_not, Bool.true_and, Bool.and_true] at hq_); omega)) rfl rfl ?_ | refine gl_yv (yv_indexS (i := 0) tab_ok c_gok rfl rfl rfl rfl c_imp c_imp (by intro hq_; (try simp only [Bool.and_eq_true, Bool.not_eq_true', Bool.not_eq_false', Bool.or_eq_false_iff, Bool.or_eq_true, decide_eq_true_eq, decide_eq_false_iff_not, Bool.true_and, Bool.and_true] at hq_); omega)) rfl rfl ?_))
    | (refine gc_gate ?_; first
      | refine gc_seq ?_
      | refine gc_region ?_
      | refine gc_quietRo rfl mixed (by decide +kernel) ?_
      | refine gc_true rfl ?_
      | refine gc_false rfl ?_
      | (refine gc_cond rfl ?_ ?_ <;> intro h_ <;> have hd_ := h_ <;> (try simp only [bytes_beq, cell_beq, val_beq, stamp_beq, decide_eq_true_eq, decide_eq_false_iff_not, Bool.and_eq_true, Bool.or_eq_true, Bool.or_eq_false_iff, Bool.not_eq_true', Bool.not_eq_false', Bool.not_true, Bool.not_false, Bool.false_or, Bool.true_and, Bool.and_true, Bool.or_false, beq_iff_eq, bne_iff_ne, beq_eq_false_iff_ne, bne_eq_false_iff_eq, ne_eq, Bool.false_eq_true, reduceCtorEq] at hd_) <;> (try (exfalso; omega)))
      | refine gc_block ?_
      | refine gc_exit ?_
      | refine gc_ret ?_
      | refine gc_skip ?_
      | refine gc_label ?_)
    | (refine ge_gate ?_; first
      | ((with_reducible refine ge_gT ?_); first | with_reducible refine ge_then ?_ | with_reducible refine ge_then_exit ?_ | with_reducible refine ge_then_ret ?_)
      | ((with_reducible refine ge_gK ?_); first | with_reducible refine ge_block ?_ | refine ge_block_exit ?_ | refine ge_block_pass rfl ?_ | with_reducible refine ge_block_ret ?_)
      | ((with_reducible refine ge_gB ?_); first | refine ge_ret1 tab_ok rfl c_rvt ?_ | refine ge_end1 tab_ok rfl c_rvt ?_ | refine ge_ret2 tab_ok rfl c_rvt c_rvt ?_ | refine ge_ret_none rfl ?_ | refine ge_end_none rfl ?_))
    | (refine gq_gate ?_; first
      | refine gq_nil ?_
      | (refine gq_load0 ?_; refine gq_yv (yv_load tab_ok (gok_none rfl) rfl rfl (fun _ => rfl) c_mem (fun _ => c_lds)) rfl rfl ?_)
      | (refine gq_add0 ?_; refine gq_yv (yv_add tab_ok (gok_none rfl) rfl rfl rfl rfl (fun _ => allT_of rfl) (by intro _; omega)) rfl rfl ?_)
      | (refine gq_sub0 ?_; refine gq_yv (yv_sub tab_ok (gok_none rfl) rfl rfl rfl rfl (fun _ => allT_of rfl) (by intro _; omega)) rfl rfl ?_)
      | (refine gq_idx0 ?_; refine gq_yv (yv_idxC tab_ok (gok_none rfl) rfl rfl rfl rfl rfl (fun _ => rfl) (fun _ => rfl) c_bnd) rfl rfl ?_)
      | (refine gq_pick0 ?_; first | refine gq_yv (yv_and (gok_none rfl) rfl rfl rfl (fun _ => rfl) c_imp2) rfl rfl ?_ | refine gq_yv (yv_or (gok_none rfl) rfl rfl rfl (fun _ => rfl) c_imp2) rfl rfl ?_)
      | (refine gq_idx0 ?_; refine gq_yv (yv_indexAddr tab_ok (gok_none rfl) rfl rfl rfl rfl rfl (fun _ => rfl) (fun _ => rfl) (by intro _; omega)) rfl rfl ?_)
      | (refine gq_addG ?_; refine gq_yv (yv_add tab_ok c_gok rfl rfl rfl rfl c_allT c_bnd) rfl rfl ?_)
      | (refine gq_subG ?_; refine gq_yv (yv_sub tab_ok c_gok rfl rfl rfl rfl c_allT c_bnd) rfl rfl ?_)
      | (refine gq_loadG ?_; refine gq_yv (yv_load tab_ok c_gok rfl rfl c_imp c_mem (fun _ => c_lds)) rfl rfl ?_)
      | (refine gq_pickG ?_; first | refine gq_yv (yv_and c_gok rfl rfl rfl c_imp c_imp2) rfl rfl ?_ | refine gq_yv (yv_or c_gok rfl rfl rfl c_imp c_imp2) rfl rfl ?_)
      | (refine gq_idxG ?_; refine gq_yv (yv_indexAddr tab_ok c_gok rfl rfl rfl rfl rfl c_imp c_imp c_bnd) rfl rfl ?_)
      | (refine gq_any0 ?_; refine gq_pure tab_ok rfl rfl rfl rfl rfl rfl ?_)
      | (refine gq_any0 ?_; first | refine gq_yv (yv_shr tab_ok (gok_none rfl) rfl rfl rfl (fun _ => rfl) (fun _ => rfl) c_bnd) rfl rfl ?_ | refine gq_yv (yv_rem tab_ok (gok_none rfl) rfl rfl rfl (fun _ => rfl) (fun _ => rfl) c_bnd) rfl rfl ?_ | refine gq_yv (yv_indexS tab_ok (gok_none rfl) rfl rfl rfl rfl (fun _ => rfl) (fun _ => rfl) c_bnd) rfl rfl ?_ | refine gq_yv (yv_sliceH tab_ok (gok_none rfl) rfl rfl rfl rfl rfl (fun _ => rfl) (fun _ => rfl) c_bnd) rfl rfl ?_)
      | (refine gq_arr0 ?_; refine gq_yv (yv_buildA tab_ok (gok_none rfl) rfl rfl rfl rfl (fun _ => allT_of rfl) rfl) rfl rfl ?_)
      | (refine gq_eqS ?_; first | refine gq_yv (yv_eqS tab_ok eqs_ok c_gok rfl rfl rfl rfl c_allT rfl rfl rfl) rfl rfl ?_)
      | (refine gq_neS ?_; first | refine gq_yv (yv_neS tab_ok eqs_ok c_gok rfl rfl rfl rfl c_allT rfl rfl rfl) rfl rfl ?_)
      | (refine gq_anyG ?_; first | refine gq_yv (yv_pure tab_ok c_gok rfl rfl c_allT) rfl rfl ?_ | refine gq_yv (yv_indexS tab_ok c_gok rfl rfl rfl rfl c_imp c_imp (by intro hq_; (try simp only [Bool.and_eq_true, Bool.not_eq_true', Bool.not_eq_false', Bool.or_eq_false_iff, Bool.or_eq_true, decide_eq_true_eq, decide_eq_false_iff_not, Bool.true_and, Bool.and_true] at hq_); omega)) rfl rfl ?_ | refine gq_yv (yv_indexS (i := 0) tab_ok c_gok rfl rfl rfl rfl c_imp c_imp (by intro hq_; (try simp only [Bool.and_eq_true, Bool.not_eq_true', Bool.not_eq_false', Bool.or_eq_false_iff, Bool.or_eq_true, decide_eq_true_eq, decide_eq_false_iff_not, Bool.true_and, Bool.and_true] at hq_); omega)) rfl rfl ?_))
  refine gq_yd (yd_call c_gok rfl ent68 rfl rfl c_allT (fun _ W hW => ct_treeSame a a p p c c W (hA.st hW) (hA.st hW) ca ca)) rfl rfl ?_
  repeat' first
    | (refine gl_gate ?_; first
      | refine gl_nil ?_
      | (refine gl_load0 ?_; refine gl_yv (yv_load tab_ok (gok_none rfl) rfl rfl (fun _ => rfl) c_mem (fun _ => c_lds)) rfl rfl ?_)
      | (refine gl_add0 ?_; refine gl_yv (yv_add tab_ok (gok_none rfl) rfl rfl rfl rfl (fun _ => allT_of rfl) (by intro _; omega)) rfl rfl ?_)
      | (refine gl_sub0 ?_; refine gl_yv (yv_sub tab_ok (gok_none rfl) rfl rfl rfl rfl (fun _ => allT_of rfl) (by intro _; omega)) rfl rfl ?_)
      | (refine gl_idx0 ?_; refine gl_yv (yv_idxC tab_ok (gok_none rfl) rfl rfl rfl rfl rfl (fun _ => rfl) (fun _ => rfl) c_bnd) rfl rfl ?_)
      | (refine gl_bld0 ?_; (refine gl_ev (ev_buildSlice tab_ok rfl rfl rfl rfl rfl rfl rfl rfl rfl rfl ?_) rfl rfl; intro g_ hg_))
      | (refine gl_mul0 ?_; refine gl_yv (yv_mul tab_ok (gok_none rfl) rfl rfl rfl rfl (fun _ => allT_of rfl) c_bnd) rfl rfl ?_)
      | (refine gl_pick0 ?_; first | refine gl_yv (yv_and (gok_none rfl) rfl rfl rfl (fun _ => rfl) c_imp2) rfl rfl ?_ | refine gl_yv (yv_or (gok_none rfl) rfl rfl rfl (fun _ => rfl) c_imp2) rfl rfl ?_)
      | (refine gl_idx0 ?_; refine gl_yv (yv_indexAddr tab_ok (gok_none rfl) rfl rfl rfl rfl rfl (fun _ => rfl) (fun _ => rfl) (by intro _; omega)) rfl rfl ?_)
      | (refine gl_addG ?_; refine gl_yv (yv_add tab_ok c_gok rfl rfl rfl rfl c_allT c_bnd) rfl rfl ?_)
      | (refine gl_subG ?_; refine gl_yv (yv_sub tab_ok c_gok rfl rfl rfl rfl c_allT c_bnd) rfl rfl ?_)
      | (refine gl_loadG ?_; refine gl_yv (yv_load tab_ok c_gok rfl rfl c_imp c_mem (fun _ => c_lds)) rfl rfl ?_)
      | (refine gl_pickG ?_; first | refine gl_yv (yv_and c_gok rfl rfl rfl c_imp c_imp2) rfl rfl ?_ | refine gl_yv (yv_or c_gok rfl rfl rfl c_imp c_imp2) rfl rfl ?_)
      | (refine gl_idxG ?_; refine gl_yv (yv_indexAddr tab_ok c_gok rfl rfl rfl rfl rfl c_imp c_imp c_bnd) rfl rfl ?_)
      | (refine gl_box0 ?_; first | (refine gl_box_agg rfl rfl rfl rfl rfl ?_; intro g_ hg_) | (refine gl_box_one rfl rfl rfl rfl rfl rfl ?_; intro g_ hg_) | (refine gl_box rfl rfl rfl rfl rfl ?_; intro g_ hg_))
      | (refine gl_alc0 ?_; (refine gl_alloc tab_ok rfl rfl rfl rfl rfl ?_; intro g_ hg_))
      | (refine gl_sto0 ?_; refine gl_store tab_ok rfl rfl rfl rfl rfl rfl rfl c_one rfl c_ku ?_)
      | (refine gl_any0 ?_; refine gl_pure tab_ok rfl rfl rfl rfl rfl rfl ?_)
      | (refine gl_any0 ?_; first | refine gl_yv (yv_shr tab_ok (gok_none rfl) rfl rfl rfl (fun _ => rfl) (fun _ => rfl) c_bnd) rfl rfl ?_ | refine gl_yv (yv_rem tab_ok (gok_none rfl) rfl rfl rfl (fun _ => rfl) (fun _ => rfl) c_bnd) rfl rfl ?_ | refine gl_yv (yv_indexS tab_ok (gok_none rfl) rfl rfl rfl rfl (fun _ => rfl) (fun _ => rfl) c_bnd) rfl rfl ?_ | refine gl_yv (yv_sliceH tab_ok (gok_none rfl) rfl rfl rfl rfl rfl (fun _ => rfl) (fun _ => rfl) c_bnd) rfl rfl ?_)
      | (refine gl_arr0 ?_; refine gl_yv (yv_buildA tab_ok (gok_none rfl) rfl rfl rfl rfl (fun _ => allT_of rfl) rfl) rfl rfl ?_)
      | (refine gl_eqS ?_; first | refine gl_yv (yv_eqS tab_ok eqs_ok c_gok rfl rfl rfl rfl c_allT rfl rfl rfl) rfl rfl ?_)
      | (refine gl_neS ?_; first | refine gl_yv (yv_neS tab_ok eqs_ok c_gok rfl rfl rfl rfl c_allT rfl rfl rfl) rfl rfl ?_)
      | (refine gl_anyG ?_; first | refine gl_yv (yv_pure tab_ok c_gok rfl rfl c_allT) rfl rfl ?_ | refine gl_yv (yv_indexS tab_ok c_gok rfl rfl rfl rfl c_imp c_imp (by intro hq_; (try simp only [Bool.and_eq_true, Bool.not_eq_true', Bool.not_eq_false', Bool.or_eq_false_iff, Bool.or_eq_true, decide_eq_true_eq, decide_eq_false_iff_not, Bool.true_and, Bool.and_true] at hq_); omega)) rfl rfl ?_ | refine gl_yv (yv_indexS (i := 0) tab_ok c_gok rfl rfl rfl rfl c_imp c_imp (by intro hq_; (try simp only [Bool.and_eq_true, Bool.not_eq_true', Bool.not_eq_false', Bool.or_eq_false_iff, Bool.or_eq_true, decide_eq_true_eq, decide_eq_false_iff_not, Bool.true_and, Bool.and_true] at hq_); omega)) rfl rfl ?_))
    | (refine gc_gate ?_; first
      | refine gc_seq ?_
      | refine gc_region ?_
      | refine gc_quietRo rfl mixed (by decide +kernel) ?_
      | refine gc_true rfl ?_
      | refine gc_false rfl ?_
      | (refine gc_cond rfl ?_ ?_ <;> intro h_ <;> have hd_ := h_ <;> (try simp only [bytes_beq, cell_beq, val_beq, stamp_beq, decide_eq_true_eq, decide_eq_false_iff_not, Bool.and_eq_true, Bool.or_eq_true, Bool.or_eq_false_iff, Bool.not_eq_true', Bool.not_eq_false', Bool.not_true, Bool.not_false, Bool.false_or, Bool.true_and, Bool.and_true, Bool.or_false, beq_iff_eq, bne_iff_ne, beq_eq_false_iff_ne, bne_eq_false_iff_eq, ne_eq, Bool.false_eq_true, reduceCtorEq] at hd_) <;> (try (exfalso; omega)))
      | refine gc_block ?_
      | refine gc_exit ?_
      | refine gc_ret ?_
      | refine gc_skip ?_
      | refine gc_label ?_)
    | (refine ge_gate ?_; first
      | ((with_reducible refine ge_gT ?_); first | with_reducible refine ge_then ?_ | with_reducible refine ge_then_exit ?_ | with_reducible refine ge_then_ret ?_)
      | ((with_reducible refine ge_gK ?_); first | with_reducible refine ge_block ?_ | refine ge_block_exit ?_ | refine ge_block_pass rfl ?_ | with_reducible refine ge_block_ret ?_)
      | ((with_reducible refine ge_gB ?_); first | refine ge_ret1 tab_ok rfl c_rvt ?_ | refine ge_end1 tab_ok rfl c_rvt ?_ | refine ge_ret2 tab_ok rfl c_rvt c_rvt ?_ | refine ge_ret_none rfl ?_ | refine ge_end_none rfl ?_))
    | (refine gq_gate ?_; first
      | refine gq_nil ?_
      | (refine gq_load0 ?_; refine gq_yv (yv_load tab_ok (gok_none rfl) rfl rfl (fun _ => rfl) c_mem (fun _ => c_lds)) rfl rfl ?_)
      | (refine gq_add0 ?_; refine gq_yv (yv_add tab_ok (gok_none rfl) rfl rfl rfl rfl (fun _ => allT_of rfl) (by intro _; omega)) rfl rfl ?_)
      | (refine gq_sub0 ?_; refine gq_yv (yv_sub tab_ok (gok_none rfl) rfl rfl rfl rfl (fun _ => allT_of rfl) (by intro _; omega)) rfl rfl ?_)
      | (refine gq_idx0 ?_; refine gq_yv (yv_idxC tab_ok (gok_none rfl) rfl rfl rfl rfl rfl (fun _ => rfl) (fun _ => rfl) c_bnd) rfl rfl ?_)
      | (refine gq_pick0 ?_; first | refine gq_yv (yv_and (gok_none rfl) rfl rfl rfl (fun _ => rfl) c_imp2) rfl rfl ?_ | refine gq_yv (yv_or (gok_none rfl) rfl rfl rfl (fun _ => rfl) c_imp2) rfl rfl ?_)
      | (refine gq_idx0 ?_; refine gq_yv (yv_indexAddr tab_ok (gok_none rfl) rfl rfl rfl rfl rfl (fun _ => rfl) (fun _ => rfl) (by intro _; omega)) rfl rfl ?_)
      | (refine gq_addG ?_; refine gq_yv (yv_add tab_ok c_gok rfl rfl rfl rfl c_allT c_bnd) rfl rfl ?_)
      | (refine gq_subG ?_; refine gq_yv (yv_sub tab_ok c_gok rfl rfl rfl rfl c_allT c_bnd) rfl rfl ?_)
      | (refine gq_loadG ?_; refine gq_yv (yv_load tab_ok c_gok rfl rfl c_imp c_mem (fun _ => c_lds)) rfl rfl ?_)
      | (refine gq_pickG ?_; first | refine gq_yv (yv_and c_gok rfl rfl rfl c_imp c_imp2) rfl rfl ?_ | refine gq_yv (yv_or c_gok rfl rfl rfl c_imp c_imp2) rfl rfl ?_)
      | (refine gq_idxG ?_; refine gq_yv (yv_indexAddr tab_ok c_gok rfl rfl rfl rfl rfl c_imp c_imp c_bnd) rfl rfl ?_)
      | (refine gq_any0 ?_; refine gq_pure tab_ok rfl rfl rfl rfl rfl rfl ?_)
      | (refine gq_any0 ?_; first | refine gq_yv (yv_shr tab_ok (gok_none rfl) rfl rfl rfl (fun _ => rfl) (fun _ => rfl) c_bnd) rfl rfl ?_ | refine gq_yv (yv_rem tab_ok (gok_none rfl) rfl rfl rfl (fun _ => rfl) (fun _ => rfl) c_bnd) rfl rfl ?_ | refine gq_yv (yv_indexS tab_ok (gok_none rfl) rfl rfl rfl rfl (fun _ => rfl) (fun _ => rfl) c_bnd) rfl rfl ?_ | refine gq_yv (yv_sliceH tab_ok (gok_none rfl) rfl rfl rfl rfl rfl (fun _ => rfl) (fun _ => rfl) c_bnd) rfl rfl ?_)
      | (refine gq_arr0 ?_; refine gq_yv (yv_buildA tab_ok (gok_none rfl) rfl rfl rfl rfl (fun _ => allT_of rfl) rfl) rfl rfl ?_)
      | (refine gq_eqS ?_; first | refine gq_yv (yv_eqS tab_ok eqs_ok c_gok rfl rfl rfl rfl c_allT rfl rfl rfl) rfl rfl ?_)
      | (refine gq_neS ?_; first | refine gq_yv (yv_neS tab_ok eqs_ok c_gok rfl rfl rfl rfl c_allT rfl rfl rfl) rfl rfl ?_)
      | (refine gq_anyG ?_; first | refine gq_yv (yv_pure tab_ok c_gok rfl rfl c_allT) rfl rfl ?_ | refine gq_yv (yv_indexS tab_ok c_gok rfl rfl rfl rfl c_imp c_imp (by intro hq_; (try simp only [Bool.and_eq_true, Bool.not_eq_true', Bool.not_eq_false', Bool.or_eq_false_iff, Bool.or_eq_true, decide_eq_true_eq, decide_eq_false_iff_not, Bool.true_and, Bool.and_true] at hq_); omega)) rfl rfl ?_ | refine gq_yv (yv_indexS (i := 0) tab_ok c_gok rfl rfl rfl rfl c_imp c_imp (by intro hq_; (try simp only [Bool.and_eq_true, Bool.not_eq_true', Bool.not_eq_false', Bool.or_eq_false_iff, Bool.or_eq_true, decide_eq_true_eq, decide_eq_false_iff_not, Bool.true_and, Bool.and_true] at hq_); omega)) rfl rfl ?_))
  intro W hW
  refine ⟨?_, hW.below0⟩
  rw [hs]
  simp
theorem law_TreeTells (W : World) {b0 b1 : Nat} {v0 v1 : Value} (o0 : Value.okWide Try.prog W .any b0 28 v0) (o1 : Value.okWide Try.prog W .any b1 28 v1)
    (r0 : ∃ m, Rd tab W m 28 v0.cells.toList) (r1 : ∃ m, Rd tab W m 28 v1.cells.toList) : Calls Try.prog 13 #[v0, v1] W fun e w' => e = .returned (.bool true) ∧ Below W.heap.size W w' := by
  obtain ⟨cs, rfl⟩ := arg_struct tab_ok (t := 28) rfl o0
  obtain ⟨cs', rfl⟩ := arg_struct tab_ok (t := 28) rfl o1
  obtain ⟨m0, r0⟩ := r0
  obtain ⟨m1, r1⟩ := r1
  obtain ⟨t, p, c, h0, hR⟩ := rdNode m0 _ r0
  obtain ⟨u, q, d, h1, hR'⟩ := rdNode m1 _ r1
  have h0' : cs = t.l p c := by simpa [Value.cells] using h0
  have h1' : cs' = u.l q d := by simpa [Value.cells] using h1
  subst h0'
  subst h1'
  exact walk_TreeTells t u p q c d W All All hR hR'
end Go.Proofs.Ytkgjfcjciigcgaa
