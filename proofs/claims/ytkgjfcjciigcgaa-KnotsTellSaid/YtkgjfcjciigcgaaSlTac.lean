/-
  Small closing searches, kept as default proofs of hypotheses, so that the printed walks stay short.
-/
import Derived.Test.YtkgjfcjciigcgaaSlPlan
import Derived.Test.YtkgjfcjciigcgaaSlEq
namespace Go.Proofs.Ytkgjfcjciigcgaa.Sl

theorem c_mem {P : Prop} (h : P := by first | exact List.Mem.head _ | exact List.Mem.tail _ (List.Mem.head _) | exact List.Mem.tail _ (List.Mem.tail _ (List.Mem.head _)) | exact List.Mem.tail _ (List.Mem.tail _ (List.Mem.tail _ (List.Mem.head _))) | assumption | (repeat first | exact List.Mem.head _ | apply List.Mem.tail | apply List.mem_append_right)) : P := h
theorem Ku.app {K K' : Kl} {g : Nat} {o o' : Obj} (h : Ku K g o o' K') : ∀ L : Kl, Ku (L ++ K) g o o' (L ++ K')
  | [] => h
  | e :: L => Ku.tail (Ku.app h L)
theorem ku_app {L K K' : Kl} {g : Nat} {o o' : Obj} (h : Ku K g o o' K') : Ku (L ++ K) g o o' (L ++ K') := h.app L
theorem c_ku {P : Prop} (h : P := by first | exact Ku.head | exact Ku.tail Ku.head | exact Ku.tail (Ku.tail Ku.head) | (repeat first | exact Ku.head | apply Ku.tail | apply ku_app)) : P := h
theorem c_lds {P : Prop} (h : P := by first | exact lds_one rfl rfl rfl rfl | exact lds_whole rfl rfl rfl | exact lds_agg rfl rfl rfl) : P := h
theorem c_imp {P : Prop} (h : P := by intro hq_; first | rfl | exact hq_ | exact and_l hq_ | exact and_r hq_ | exact and_l (and_l hq_) | exact and_r (and_l hq_) | exact and_l (and_l (and_l hq_)) | exact and_r (and_l (and_l hq_)) | ((try simp only [Bool.and_eq_true, Bool.or_eq_false_iff, Bool.not_eq_true', Bool.not_eq_false', Bool.not_not, Bool.not_true, Bool.not_false, Bool.false_or, Bool.true_and, Bool.and_true, Bool.or_false, Bool.true_or, Bool.or_true] at hq_ ⊢); first | exact hq_ | (simp [hq_]; done) | (simp_all; done))) : P := h
theorem c_imp2 {P : Prop} (h : P := by intro hq_ hb_; first | rfl | exact hq_ | exact hb_ | (rw [hb_]; rfl) | (rw [hq_, hb_]; rfl) | (rw [and_l hq_, hb_]; rfl) | ((try simp only [Bool.and_eq_true, Bool.or_eq_false_iff, Bool.not_eq_true', Bool.not_eq_false', Bool.not_not, Bool.not_true, Bool.not_false, Bool.false_or, Bool.true_and, Bool.and_true, Bool.or_false, Bool.true_or, Bool.or_true] at hq_ hb_ ⊢); first | exact hq_ | exact hb_ | (simp [hq_, hb_]; done) | (simp_all; done))) : P := h
theorem c_allT {P : Prop} (h : P := by intro hq_; first | exact allT_of rfl | ((repeat refine allT_cons (by first | rfl | exact hq_ | exact and_l hq_ | exact and_r hq_ | exact and_l (and_l hq_) | exact and_r (and_l hq_) | exact and_l (and_l (and_l hq_)) | exact and_r (and_l (and_l hq_))) ?_); exact allT_nil) | ((try simp only [Bool.and_eq_true, Bool.or_eq_false_iff, Bool.not_eq_true', Bool.not_eq_false', Bool.not_not, Bool.not_true, Bool.not_false, Bool.false_or, Bool.true_and, Bool.and_true, Bool.or_false, Bool.true_or, Bool.or_true] at hq_); first | (simp [allT, hq_]; done) | (simp_all [allT]; done))) : P := h
theorem c_gok {P : Prop} (h : P := by first | exact gok_none rfl | exact gok_t rfl rfl rfl | exact gok_f rfl rfl rfl | exact gok_tn rfl rfl rfl | exact gok_fn rfl rfl rfl) : P := h
theorem c_bnd {P : Prop} (h : P := by first | (intro hq_; (try simp only [Bool.and_eq_true, Bool.not_eq_true', decide_eq_true_eq, decide_eq_false_iff_not, Bool.true_and] at hq_); omega) | (intro hq_; decide)) : P := h
theorem ones_of {cs : List Value} (h : cs.all (fun u => u.oneCell') = true) : ∀ u ∈ cs, u.oneCell' = true := by simpa using h
theorem c_one {P : Prop} (h : P := by first | exact ones_of rfl | simp [Value.oneCell', Value.cells]) : P := h
theorem sub_app {K A B : Kl} (h : K.Sublist B) : K.Sublist (A ++ B) := h.trans (List.sublist_append_right _ _)
theorem c_sub {P : Prop} (h : P := by repeat first | exact List.Sublist.refl _ | exact List.sublist_append_left _ _ | apply List.Sublist.cons | apply List.Sublist.cons_cons | apply sub_app | exact List.nil_sublist _) : P := h
theorem c_qp {P : Prop} (h : P := by repeat first | with_reducible exact qp_body | with_reducible exact qp_mid | with_reducible refine qp_then ?_ | with_reducible refine qp_block ?_) : P := h
theorem c_rvt {P : Prop} (h : P := by first | exact RV.tmp rfl | exact RV.cell rfl c_mem c_lds) : P := h
theorem c_nm {P : Prop} (h : P := by first | exact fun _ => List.not_mem_nil | assumption | exact List.not_mem_nil | simp) : P := h
theorem c_frs {P : Prop} (h : P := by repeat' first | exact trivial | refine ⟨rfl, ?_⟩) : P := h
theorem c_ones {P : Prop} (h : P := by first | exact ones_of rfl | assumption | (simp [Value.oneCell', Value.cells]; done) | (intro u hu; simp at hu; rcases hu with h | h <;> subst h <;> rfl)) : P := h
theorem c_lim {P : Prop} (h : P := by first | omega | (dsimp only; omega)) : P := h
end Go.Proofs.Ytkgjfcjciigcgaa.Sl
