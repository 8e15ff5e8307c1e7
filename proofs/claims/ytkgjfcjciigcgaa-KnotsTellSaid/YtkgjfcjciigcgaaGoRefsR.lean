/-
  What cells a formula reads, as a list in order; the reference's order and ranges; the law's first look.
-/
import Derived.Test.YtkgjfcjciigcgaaGoCells
import Derived.Test.YtkgjfcjciigcgaaGoOrd
namespace Go.Proofs.Ytkgjfcjciigcgaa
open Go.Proofs.Ytkgjfcjciigcgaa.Sl Go.RowKit
set_option linter.unusedVariables false
set_option linter.unusedSimpArgs false
set_option maxRecDepth 100000

theorem mset_mem {κ ν : Type} [DecidableEq κ] (m : List (κ × ν)) (k : κ) (v : ν) (d : κ) : d ∈ (mset m k v).map (·.1) ↔ d = k ∨ d ∈ m.map (·.1) := by
  unfold mset
  cases h : fnd k m 0 with
  | none => simp [or_comm]
  | some x =>
    obtain ⟨j, u⟩ := x
    have hk := (fnd_some h).2
    rw [Nat.sub_zero] at hk
    obtain ⟨hj, hk⟩ := List.getElem?_eq_some_iff.1 hk
    have e : (m.set j (k, v)).map (·.1) = m.map (·.1) := by
      apply List.ext_getElem?
      intro i
      simp only [List.getElem?_map, List.getElem?_set]
      by_cases hi : j = i
      · subst hi; simp [hj, hk]
      · simp [hi]
    rw [e]
    constructor
    · exact .inr
    · rintro (rfl | h')
      · exact List.mem_map.2 ⟨_, List.getElem_mem hj, by rw [hk]⟩
      · exact h'
theorem mset_nodup {κ ν : Type} [DecidableEq κ] {m : List (κ × ν)} (h : (m.map (·.1)).Nodup) (k : κ) (v : ν) : ((mset m k v).map (·.1)).Nodup := by
  unfold mset
  cases hf : fnd k m 0 with
  | none =>
    rw [List.map_append, List.nodup_append]
    refine ⟨h, by simp, fun a ha b hb => ?_⟩
    simp at hb
    subst hb
    obtain ⟨x, hx, rfl⟩ := List.mem_map.1 ha
    exact fnd_none.1 hf x hx
  | some x =>
    obtain ⟨j, u⟩ := x
    have hk := (fnd_some hf).2
    rw [Nat.sub_zero] at hk
    obtain ⟨hj, hk⟩ := List.getElem?_eq_some_iff.1 hk
    have e : (m.set j (k, v)).map (·.1) = m.map (·.1) := by
      apply List.ext_getElem?
      intro i
      simp only [List.getElem?_map, List.getElem?_set]
      by_cases hi : j = i
      · subst hi; simp [hj, hk]
      · simp [hi]
    show ((m.set j (k, v)).map (·.1)).Nodup
    rw [e]
    exact h
theorem addAll_mem : ∀ (l : List Cell) (m : List (Cell × Bool)) (d : Cell), d ∈ (addAll l m).map (·.1) ↔ d ∈ l ∨ d ∈ m.map (·.1)
  | [], m, d => by simp [addAll]
  | c :: r, m, d => by
    have h := addAll_mem r (mset m c true) d
    show d ∈ (addAll r (mset m c true)).map (·.1) ↔ _
    rw [h, mset_mem, List.mem_cons]
    constructor
    · rintro (h | h | h) <;> simp [h]
    · rintro ((h | h) | h) <;> simp [h]
theorem addAll_nodup : ∀ (l : List Cell) (m : List (Cell × Bool)), (m.map (·.1)).Nodup → ((addAll l m).map (·.1)).Nodup
  | [], m, h => h
  | c :: r, m, h => addAll_nodup r (mset m c true) (mset_nodup h c true)
mutual
def keysT : Node → List Cell
  | .mk k o nm v c t kids => own (.mk k o nm v c t kids) ++ keysL kids
def keysL : List Node → List Cell
  | [] => []
  | k :: ks => keysT k ++ keysL ks
end
theorem keysT_eq (t : Node) : keysT t = own t ++ keysL t.kids := by cases t; rfl
theorem readN_spec (t : Node) : ∀ m, (∀ d, d ∈ (readN t m).map (·.1) ↔ d ∈ keysT t ∨ d ∈ m.map (·.1)) ∧ ((m.map (·.1)).Nodup → ((readN t m).map (·.1)).Nodup) := by
  induction t using Node.ind with
  | h t ih =>
  intro m
  rw [readN_eq, keysT_eq]
  have key : ∀ (l : List Node), (∀ x ∈ l, x ∈ t.kids) → ∀ m, (∀ d, d ∈ (readL l m).map (·.1) ↔ d ∈ keysL l ∨ d ∈ m.map (·.1)) ∧ ((m.map (·.1)).Nodup → ((readL l m).map (·.1)).Nodup) := by
    intro l
    induction l with
    | nil => intro _ m; exact ⟨fun d => by simp [readL, keysL], fun h => h⟩
    | cons k ks ihl =>
      intro hk m
      obtain ⟨a1, a2⟩ := ih k (hk k (by simp)) m
      obtain ⟨b1, b2⟩ := ihl (fun x hx => hk x (by simp [hx])) (readN k m)
      rw [readL, keysL]
      refine ⟨fun d => ?_, fun h => b2 (a2 h)⟩
      rw [b1, a1, List.mem_append]
      constructor
      · rintro (h | h | h) <;> simp [h]
      · rintro ((h | h) | h) <;> simp [h]
  obtain ⟨k1, k2⟩ := key t.kids (fun x hx => hx) (addAll (own t) m)
  refine ⟨fun d => ?_, fun h => k2 (addAll_nodup _ _ h)⟩
  rw [k1, addAll_mem, List.mem_append]
  constructor
  · rintro (h | h | h) <;> simp [h]
  · rintro ((h | h) | h) <;> simp [h]
theorem cellsT_mem (t : Node) (d : Cell) : d ∈ cellsT t ↔ d ∈ keysT t := by
  unfold cellsT
  rw [sortC_mem, (readN_spec t []).1]
  simp
theorem cellsT_lt (t : Node) : (cellsT t).Pairwise cLt := sortC_lt ((readN_spec t []).2 List.nodup_nil)
/-- A list in order that has just those is the one. -/
theorem cellsT_unique {t : Node} {l : List Cell} (h : l.Pairwise cLt) (hm : ∀ c, c ∈ l ↔ c ∈ keysT t) : cellsT t = l :=
  cLt_unique (cellsT_lt t) h fun c => by rw [cellsT_mem, hm]

def cS : Cell := ⟨⟨#[115]⟩, 1, 1⟩
def nCell (c : Cell) : Node := .mk 2 .empty .empty ⟨0, 0, .empty⟩ c ⟨.empty, 0, 0⟩ []
def nVal : Node := .mk 1 .empty .empty ⟨0, 0, .empty⟩ ⟨.empty, 0, 0⟩ ⟨.empty, 0, 0⟩ []
theorem NodeR.leaf {S : Nat → Prop} {w : World} {t : Node} (h : t.kids = []) : NodeR S w t none :=
  NodeR.mk (kp := fun _ => none) (kc := fun _ => 0) (by rw [h]; exact SlA.nil) (fun h' => by rw [h] at h'; simp at h') (fun i hi => by rw [h] at hi; simp at hi)
theorem count_leaf {t : Node} (h : t.kids = []) : t.count ≤ 1000000 := by rw [Node.count_eq, h]; simp [Node.countL]
theorem own_cell {c : Cell} (h : rightCell c = true) : own (nCell c) = [c] := by
  unfold own
  rw [if_pos ⟨rfl, h⟩]
  rfl
theorem cells_cell {c : Cell} (h : rightCell c = true) : cellsT (nCell c) = [c] :=
  cellsT_unique (List.pairwise_singleton _ _) fun d => by rw [keysT_eq, own_cell h]; simp [nCell, Node.kids, keysL]
theorem cells_val : cellsT nVal = [] :=
  cellsT_unique List.Pairwise.nil fun d => by rw [keysT_eq]; simp [nVal, own, Node.kind, Node.kids, keysL]
theorem right_cS : rightCell cS = true := by decide +kernel
theorem ct_aliveR (w : World) : Calls Try.prog 88 #[] w fun e w' => e = .returned (.bool true) ∧ Bl w w' := by
  have h1 := cells_cell right_cS
  refine enter (args := []) (M := []) (K := []) Try.func88 rfl Try.ntmps88 rfl (St.refl _ _) ?_
  repeat' first
    | (refine gl_gate ?_; first
      | refine gl_nil ?_
      | (refine gl_load0 ?_; refine gl_yv (yv_load tab_ok (gok_none rfl) rfl rfl (fun _ => rfl) c_mem (fun _ => c_lds)) rfl rfl ?_)
      | (refine gl_any0 ?_; (refine gl_ev (ev_callOw rfl rfl ent90 rfl rfl rfl (fun W hW => ct_Cells (S := All) (nCell cS) none 0 W (NodeR.leaf rfl) (count_leaf rfl)) ?_) rfl rfl; intro q_ c_ sp_ hw_))
      | (refine gl_alc0 ?_; (refine gl_alloc tab_ok rfl rfl rfl rfl rfl ?_; intro g_ hg_))
      | (refine gl_sto0 ?_; refine gl_store tab_ok rfl rfl rfl rfl rfl rfl rfl c_one rfl c_ku ?_)
      | (refine gl_any0 ?_; refine gl_pure tab_ok rfl rfl rfl rfl rfl rfl ?_))
    | (refine gc_gate ?_; first
      | refine gc_seq ?_
      | refine gc_region ?_)
    | (refine ge_gate ?_; first
      | ((with_reducible refine ge_gT ?_); first | with_reducible refine ge_then ?_ | with_reducible refine ge_then_exit ?_ | with_reducible refine ge_then_ret ?_))
  rw [h1] at hw_ ⊢
  rcases q_ with _ | q
  · have := hw_.nil rfl
    have := hw_.le
    simp at this
    omega
  simp only [List.length_singleton, Option.map_some] at hw_ ⊢
  refine gp_start [] #[false, false, false, false, false, false, false, false, false, false, false, false, false, false, false, false, false, false, false, false, false, false, false] mixed rfl rfl c_qp ?_; intro hqp_
  refine gp_take 0 #[true, false, false, false, false, false, false, false, false, false, false, false, false, false, false, false, false, false, false, false, false, false, false] hqp_ rfl (by kernel_rfl) (yv_pure tab_ok c_gok rfl rfl c_allT) c_cl rfl rfl ?_
  (refine gp_ev 1 #[true, true, false, false, false, false, false, false, false, false, false, false, false, false, false, false, false, false, false, false, false, false, false] rfl (by kernel_rfl) rfl rfl rfl (ev_callOw rfl rfl ent90 rfl rfl rfl (fun W hW => ct_Cells (S := All) nVal none 0 W (NodeR.leaf rfl) (count_leaf rfl)) ?_); intro p_ c_ sp_ hw_; refine ⟨c_cl, ?_⟩)
  refine gp_take 2 #[true, true, true, false, false, false, false, false, false, false, false, false, false, false, false, false, false, false, false, false, false, false, false] hqp_ rfl (by kernel_rfl) (yv_pure tab_ok c_gok rfl rfl c_allT) c_cl rfl rfl ?_
  refine gp_take 3 #[true, true, true, true, false, false, false, false, false, false, false, false, false, false, false, false, false, false, false, false, false, false, false] hqp_ rfl (by kernel_rfl) (yv_pure tab_ok c_gok rfl rfl c_allT) c_cl rfl rfl ?_
  refine gp_take 4 #[true, true, true, true, true, false, false, false, false, false, false, false, false, false, false, false, false, false, false, false, false, false, false] hqp_ rfl (by kernel_rfl) (((yv_pure tab_ok c_gok rfl rfl c_allT).cast (v' := .bool true) (by rw [cells_val]; rfl))) c_cl rfl rfl ?_
  refine gp_take 5 #[true, true, true, true, true, true, false, false, false, false, false, false, false, false, false, false, false, false, false, false, false, false, false] hqp_ rfl (by kernel_rfl) (yv_pure tab_ok c_gok rfl rfl c_allT) c_cl rfl rfl ?_
  refine gp_take 6 #[true, true, true, true, true, true, true, false, false, false, false, false, false, false, false, false, false, false, false, false, false, false, false] hqp_ rfl (by kernel_rfl) (yv_pure tab_ok c_gok rfl rfl c_allT) c_cl rfl rfl ?_
  refine gp_take 7 #[true, true, true, true, true, true, true, true, false, false, false, false, false, false, false, false, false, false, false, false, false, false, false] hqp_ rfl (by kernel_rfl) (yv_pure tab_ok c_gok rfl rfl c_allT) c_cl rfl rfl ?_
  refine gp_take 8 #[true, true, true, true, true, true, true, true, true, false, false, false, false, false, false, false, false, false, false, false, false, false, false] hqp_ rfl (by kernel_rfl) (yv_and c_gok rfl rfl rfl c_imp c_imp2) c_cl rfl rfl ?_
  refine gp_take 9 #[true, true, true, true, true, true, true, true, true, true, false, false, false, false, false, false, false, false, false, false, false, false, false] hqp_ rfl (by kernel_rfl) (((yv_pure tab_ok c_gok rfl rfl c_allT).cast (v' := .bool true) rfl)) c_cl rfl rfl ?_
  refine gp_take 10 #[true, true, true, true, true, true, true, true, true, true, true, false, false, false, false, false, false, false, false, false, false, false, false] hqp_ rfl (by kernel_rfl) (yv_pure tab_ok c_gok rfl rfl c_allT) c_cl rfl rfl ?_
  refine gp_take 11 #[true, true, true, true, true, true, true, true, true, true, true, true, false, false, false, false, false, false, false, false, false, false, false] hqp_ rfl (by kernel_rfl) (yv_indexAddr tab_ok c_gok rfl rfl rfl rfl rfl c_imp c_imp c_bnd) c_cl rfl rfl ?_
  refine gp_take 12 #[true, true, true, true, true, true, true, true, true, true, true, true, true, false, false, false, false, false, false, false, false, false, false] hqp_ rfl (by kernel_rfl) (yv_load tab_ok c_gok rfl rfl c_imp c_mem (fun _ => c_lds)) c_cl rfl rfl ?_
  refine gp_take 13 #[true, true, true, true, true, true, true, true, true, true, true, true, true, true, false, false, false, false, false, false, false, false, false] hqp_ rfl (by kernel_rfl) (yv_load tab_ok c_gok rfl rfl c_imp c_mem (fun _ => c_lds)) c_cl rfl rfl ?_
  refine gp_take 14 #[true, true, true, true, true, true, true, true, true, true, true, true, true, true, true, false, false, false, false, false, false, false, false] hqp_ rfl (by kernel_rfl) (yv_eqS tab_ok eqs_ok c_gok rfl rfl rfl rfl c_allT rfl rfl rfl) c_cl rfl rfl ?_
  refine gp_take 15 #[true, true, true, true, true, true, true, true, true, true, true, true, true, true, true, true, false, false, false, false, false, false, false] hqp_ rfl (by kernel_rfl) (yv_and c_gok rfl rfl rfl c_imp c_imp2) c_cl rfl rfl ?_
  refine gp_take 16 #[true, true, true, true, true, true, true, true, true, true, true, true, true, true, true, true, true, false, false, false, false, false, false] hqp_ rfl (by kernel_rfl) (((yv_pure tab_ok c_gok rfl rfl c_allT).cast (v' := .bool true) (by simp [cS]))) c_cl rfl rfl ?_
  refine gp_take 17 #[true, true, true, true, true, true, true, true, true, true, true, true, true, true, true, true, true, true, false, false, false, false, false] hqp_ rfl (by kernel_rfl) (yv_load tab_ok c_gok rfl rfl c_imp c_mem (fun _ => c_lds)) c_cl rfl rfl ?_
  refine gp_take 18 #[true, true, true, true, true, true, true, true, true, true, true, true, true, true, true, true, true, true, true, false, false, false, false] hqp_ rfl (by kernel_rfl) (yv_pure tab_ok c_gok rfl rfl c_allT) c_cl rfl rfl ?_
  refine gp_take 19 #[true, true, true, true, true, true, true, true, true, true, true, true, true, true, true, true, true, true, true, true, false, false, false] hqp_ rfl (by kernel_rfl) (yv_load tab_ok c_gok rfl rfl c_imp c_mem (fun _ => c_lds)) c_cl rfl rfl ?_
  refine gp_evG 20 #[true, true, true, true, true, true, true, true, true, true, true, true, true, true, true, true, true, true, true, true, true, false, false] rfl (by kernel_rfl) rfl rfl rfl c_gok (ev_callq rfl rfl ent92 rfl rfl rfl (fun W hW => ct_Reads (S := All) (nCell cS) none 0 cS W (NodeR.leaf rfl) (count_leaf rfl)) ⟨c_cl, ?_⟩)
  refine gp_take 21 #[true, true, true, true, true, true, true, true, true, true, true, true, true, true, true, true, true, true, true, true, true, true, false] hqp_ rfl (by kernel_rfl) (yv_and c_gok rfl rfl rfl c_imp c_imp2) c_cl rfl rfl ?_
  refine gp_take 22 #[true, true, true, true, true, true, true, true, true, true, true, true, true, true, true, true, true, true, true, true, true, true, true] hqp_ rfl (by kernel_rfl) (yv_pure tab_ok c_gok rfl rfl c_allT) c_cl rfl rfl ?_
  refine gp_done (by kernel_rfl) ?_; clear hqp_
  repeat' first
    | (refine gc_gate ?_; first
      | refine gc_ret ?_)
    | (refine ge_gate ?_; first
      | ((with_reducible refine ge_gT ?_); first | with_reducible refine ge_then ?_ | with_reducible refine ge_then_exit ?_ | with_reducible refine ge_then_ret ?_)
      | ((with_reducible refine ge_gB ?_); first | refine ge_ret1 tab_ok rfl c_rvt ?_ | refine ge_end1 tab_ok rfl c_rvt ?_ | refine ge_ret2 tab_ok rfl c_rvt c_rvt ?_ | refine ge_ret_none rfl ?_ | refine ge_end_none rfl ?_))
  intro W hW
  refine ⟨?_, hW.below0⟩
  rw [h1]
  simp
end Go.Proofs.Ytkgjfcjciigcgaa
