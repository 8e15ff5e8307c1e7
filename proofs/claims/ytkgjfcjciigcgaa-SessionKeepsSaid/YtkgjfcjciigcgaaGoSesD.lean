/-
  The program's session: Publish, Take.
-/
import Derived.Test.YtkgjfcjciigcgaaGoSesC
namespace Go.Proofs.Ytkgjfcjciigcgaa
open Go.Proofs.Ytkgjfcjciigcgaa.Sl Go.RowKit
set_option linter.unusedVariables false
set_option linter.unusedSimpArgs false
set_option linter.unusedSectionVars false
set_option maxRecDepth 100000

theorem ct_PubP (s : SX) (g c : Nat) (q : Option Nat) (sp : List Value) (X : List Nat) (v : Int) (cs : List Shown) (p : Option Addr) (cap : Nat) (w : World) (h : Ses true s g q c sp X w) (hcs : Im w X p cs) (hd : (deltaL s.saw.xs (seeL s.a s.b cs)).length ≤ 1000) :
    Calls Try.prog 120 #[.pointer (some ⟨g, 0, none⟩), .int .i64 v, .slice p cs.length cap] w (RetX true w g q X (fun x _ _ => x = .tuple #[]) (s.sg.pub v cs)) := by
  have ho := h.li.ow
  have hle := h.le
  have hcl := hcs.le
  have hsl := seeL_len s.a s.b cs
  have hsw := h.saw.le
  cases hb : (s.wt && !s.bh) with
  | false =>
    have e : s.sg.pub v cs = s.sg := by
      unfold SG.pub
      rw [show (s.sg.wt && !s.sg.bh) = false from hb]
      rfl
    rw [e]
    refine enter (args := [_, _, _]) (M := []) (K := []) Try.func120 rfl Try.ntmps120 rfl (St.refl _ _) ?_
    refine gc_own (s.K true g q c sp []) h.li.kn h.li.ap ?_
    rw [SX.K_map]
    unfold SX.K SX.cs SX.cP
    simp only [cond_true]
    cases h1 : s.wt <;> cases h2 : s.bh <;> simp [h1, h2] at hb
    all_goals
      repeat' first
        | (refine gl_gate ?_; first
          | refine gl_nil ?_
          | (refine gl_pick0 ?_; first | refine gl_yv (yv_and (gok_none rfl) rfl rfl rfl (fun _ => rfl) c_imp2) rfl rfl ?_ | refine gl_yv (yv_or (gok_none rfl) rfl rfl rfl (fun _ => rfl) c_imp2) rfl rfl ?_)
          | (refine gl_loadG ?_; refine gl_yv (yv_load tab_ok c_gok rfl rfl c_imp c_mem (fun _ => c_lds)) rfl rfl ?_)
          | (refine gl_any0 ?_; refine gl_pure tab_ok rfl rfl rfl rfl rfl rfl ?_)
          | (refine gl_anyG ?_; first | refine gl_yv (yv_pure tab_ok c_gok rfl rfl c_allT) rfl rfl ?_ | refine gl_yv (yv_indexS tab_ok c_gok rfl rfl rfl rfl c_imp c_imp (by intro hq_; (try simp only [Bool.and_eq_true, Bool.not_eq_true', Bool.not_eq_false', Bool.or_eq_false_iff, Bool.or_eq_true, decide_eq_true_eq, decide_eq_false_iff_not, Bool.true_and, Bool.and_true] at hq_); omega)) rfl rfl ?_ | refine gl_yv (yv_indexS (i := 0) tab_ok c_gok rfl rfl rfl rfl c_imp c_imp (by intro hq_; (try simp only [Bool.and_eq_true, Bool.not_eq_true', Bool.not_eq_false', Bool.or_eq_false_iff, Bool.or_eq_true, decide_eq_true_eq, decide_eq_false_iff_not, Bool.true_and, Bool.and_true] at hq_); omega)) rfl rfl ?_))
        | (refine gc_gate ?_; first
          | refine gc_seq ?_
          | refine gc_region ?_
          | refine gc_true rfl ?_
          | refine gc_ret ?_)
        | (refine ge_gate ?_; first
          | ((with_reducible refine ge_gT ?_); first | with_reducible refine ge_then ?_ | with_reducible refine ge_then_exit ?_ | with_reducible refine ge_then_ret ?_)
          | ((with_reducible refine ge_gB ?_); first | refine ge_ret1 tab_ok rfl c_rvt ?_ | refine ge_end1 tab_ok rfl c_rvt ?_ | refine ge_ret2 tab_ok rfl c_rvt c_rvt ?_ | refine ge_ret_none rfl ?_ | refine ge_end_none rfl ?_))
    all_goals
      intro W hW
      refine RetX.of s q c sp hW ?_ ho rfl h.le h.mX h.lX (fun hX => h.saw.keep hW h.mX hX) (fun hX r hr => (h.im r hr).keep hW h.mX hX) (fun _ => rfl)
      unfold SX.K SX.cs SX.cP
      rw [h1, h2]
      exact c_sel
  | true =>
    have h1 : s.wt = true := by simp at hb; exact hb.1
    have h2 : s.bh = false := by simp at hb; exact hb.2
    have e : s.sg.pub v cs = (s.sg.tell ⟨3, v, 0, deltaL s.saw.xs (seeL s.a s.b cs)⟩).saws (seeL s.a s.b cs) := by
      unfold SG.pub
      rw [show (s.sg.wt && !s.sg.bh) = true from hb]
      rfl
    rw [e]
    obtain ⟨wt, bh, a, b, saw, l⟩ := s
    simp only at h1 h2
    subst h1 h2
    dsimp only at hd ho hle hsl hsw e
    refine enter (args := [_, _, _]) (M := []) (K := []) Try.func120 rfl Try.ntmps120 rfl (St.refl _ _) ?_
    refine gc_own (SX.K ⟨true, false, a, b, saw, l⟩ true g q c sp []) h.li.kn h.li.ap ?_
    rw [SX.K_map]
    unfold SX.K SX.cs SX.cP
    simp only [cond_true]
    repeat' first
      | (refine gl_gate ?_; first
        | refine gl_nil ?_
        | (refine gl_load0 ?_; refine gl_yv (yv_load tab_ok (gok_none rfl) rfl rfl (fun _ => rfl) c_mem (fun _ => c_lds)) rfl rfl ?_)
        | (refine gl_any0 ?_; (refine gl_ev (ev_callOwN rfl rfl ent103 rfl rfl rfl (fun W hW => ct_See a b cs p _ _ W rfl (hcs.st hW h.mX) (by omega)) ?_) rfl rfl; intro p1_ c1_ sp1_ hw1_ hn1_))
        | (refine gl_any0 ?_; (refine gl_ev (ev_callOwN rfl rfl ent96 rfl rfl rfl (fun W hW => ct_Delta saw.xs (seeL a b cs) _ _ _ _ _ _ W rfl rfl (h.saw.st hW h.mX) (slA_cat len_shown rfl hW c_oa hw1_) (by omega) (by omega)) ?_) rfl rfl; intro p2_ c2_ sp2_ hw2_ hn2_))
        | (refine gl_pick0 ?_; first | refine gl_yv (yv_and (gok_none rfl) rfl rfl rfl (fun _ => rfl) c_imp2) rfl rfl ?_ | refine gl_yv (yv_or (gok_none rfl) rfl rfl rfl (fun _ => rfl) c_imp2) rfl rfl ?_)
        | (refine gl_loadG ?_; refine gl_yv (yv_load tab_ok c_gok rfl rfl c_imp c_mem (fun _ => c_lds)) rfl rfl ?_)
        | (refine gl_any0 ?_; refine gl_pure tab_ok rfl rfl rfl rfl rfl rfl ?_)
        | (refine gl_anyG ?_; first | refine gl_yv (yv_pure tab_ok c_gok rfl rfl c_allT) rfl rfl ?_ | refine gl_yv (yv_indexS tab_ok c_gok rfl rfl rfl rfl c_imp c_imp (by intro hq_; (try simp only [Bool.and_eq_true, Bool.not_eq_true', Bool.not_eq_false', Bool.or_eq_false_iff, Bool.or_eq_true, decide_eq_true_eq, decide_eq_false_iff_not, Bool.true_and, Bool.and_true] at hq_); omega)) rfl rfl ?_ | refine gl_yv (yv_indexS (i := 0) tab_ok c_gok rfl rfl rfl rfl c_imp c_imp (by intro hq_; (try simp only [Bool.and_eq_true, Bool.not_eq_true', Bool.not_eq_false', Bool.or_eq_false_iff, Bool.or_eq_true, decide_eq_true_eq, decide_eq_false_iff_not, Bool.true_and, Bool.and_true] at hq_); omega)) rfl rfl ?_))
      | (refine gc_gate ?_; first
        | refine gc_seq ?_
        | refine gc_region ?_
        | refine gc_false rfl ?_
        | refine gc_skip ?_)
      | (refine ge_gate ?_; first
        | ((with_reducible refine ge_gT ?_); first | with_reducible refine ge_then ?_ | with_reducible refine ge_then_exit ?_ | with_reducible refine ge_then_ret ?_))
    refine gl_ev (ev_tellP (s := ⟨true, false, a, b, saw, l⟩) (g := g) (q := q) (c := c) (sp := sp) (x := ⟨⟨3, v, 0, deltaL saw.xs (seeL a b cs)⟩, p2_.map ad, c2_⟩) rfl rfl rfl rfl rfl c_sa ho hle (fun W hW => Im.own hW c_sel hw2_ hd) ?_) rfl rfl
    intro s3_ q3_ c3_ sp3_ p3_ c4_ sp4_ hs3_ ho3_ hw3_ hn3_
    unfold SX.K SX.cs SX.cP
    simp only [cond_true]
    repeat' first
      | (refine gl_gate ?_; first
        | refine gl_nil ?_
        | (refine gl_sto0 ?_; refine gl_store tab_ok rfl rfl rfl rfl rfl rfl rfl c_one rfl c_ku ?_)
        | (refine gl_any0 ?_; refine gl_pure tab_ok rfl rfl rfl rfl rfl rfl ?_))
      | (refine gc_gate ?_; first
        | refine gc_region ?_)
      | (refine ge_gate ?_; first
        | ((with_reducible refine ge_gT ?_); first | with_reducible refine ge_then ?_ | with_reducible refine ge_then_exit ?_ | with_reducible refine ge_then_ret ?_)
        | ((with_reducible refine ge_gB ?_); first | refine ge_ret1 tab_ok rfl c_rvt ?_ | refine ge_end1 tab_ok rfl c_rvt ?_ | refine ge_ret2 tab_ok rfl c_rvt c_rvt ?_ | refine ge_ret_none rfl ?_ | refine ge_end_none rfl ?_))
    intro W hW
    have hsg : ({ s3_ with saw := ⟨p1_.map ad, c1_, seeL a b cs⟩ } : SX).sg = (SG.tell (SX.sg ⟨true, false, a, b, saw, l⟩) ⟨3, v, 0, deltaL saw.xs (seeL a b cs)⟩).saws (seeL a b cs) := by
      rw [← SX.tl_sg _ (⟨⟨3, v, 0, deltaL saw.xs (seeL a b cs)⟩, p3_.map ad, c4_⟩ : RP), ← hs3_]
      rfl
    refine RetX.of { s3_ with saw := ⟨p1_.map ad, c1_, seeL a b cs⟩ } q3_ c3_ sp3_ hW c_sel ho3_ hsg (hs3_ ▸ SX.tl_le _ _ hle) h.mX h.lX (fun hX => ?_) (fun hX r hr => ?_) (fun _ => rfl)
    · exact Im.new (l := seeL a b cs) (q := q3_) (X := X) hW c_sel hw1_ hn1_ h.lX (by omega)
    · dsimp only at hr
      rw [hs3_] at hr
      rcases SX.tl_mem hr with hr | ⟨rfl, h8⟩
      · exact (h.im r hr).keep hW h.mX hX
      · exact Im.new (l := deltaL saw.xs (seeL a b cs)) (q := q3_) (X := X) hW c_sel (hw3_ h8) hn3_ h.lX hd
def z65 : List Value := [.int .i64 0, .int .i64 0, .int .i64 0, .slice none 0 0]
theorem rp_len (l : List RP) : (cat RP.l l).length = l.length * 4 := cat_length (f := RP.l) (k := 4) (fun _ => rfl) l
theorem ct_DeleteP (x : RP) (r : List RP) (g c : Nat) (sp : List Value) (w : World) (hb : w.heap[g]? = some (.cells (cat RP.l (x :: r) ++ sp).toArray 65 (0, 0))) (ho : Ow (some g) (r.length + 1) c 4 (cat RP.l (x :: r)) sp) :
    Calls Try.prog 148 #[.slice (some (ad g)) (r.length + 1 : Nat) c, .int .i64 0, .int .i64 1] w (RetM w [g] (fun _ : Unit => .slice (some (ad g)) r.length c) (fun _ => [(g, true, .cells (cat RP.l r ++ (z65 ++ sp)).toArray 65 (0, 0))]) (fun _ => True)) := by
  have hle := ho.le
  have ho0 : Ow (some g) 0 c 4 [] (cat RP.l (x :: r) ++ sp) := ⟨by simp, by rw [List.length_append, ho.len, ho.room, Nat.sub_zero, ← Nat.add_mul]; congr 1; omega, by omega, fun h => by cases h⟩
  refine enter (args := [_, _, _]) (M := []) (K := []) Try.func148 rfl Try.ntmps148 rfl (St.refl _ _) ?_
  refine gc_own [(g, true, .cells (cat RP.l (x :: r) ++ sp).toArray 65 (0, 0))] (by simpa using hb) (by simp) ?_
  generalize hM : ([(g, true, Obj.cells (cat RP.l (x :: r) ++ sp).toArray 65 (0, 0))] : Kl).map (·.1) = M
  repeat' first
    | refine gl_yv (yv_sliceLHM (lo := 0) (h := 1) (m := r.length + 1) tab_ok (gok_none rfl) rfl rfl rfl rfl rfl rfl rfl (fun _ => rfl) (fun _ => rfl) (fun _ => rfl) (fun _ => rfl) (fun _ => by omega) (fun _ => by omega) (fun _ => hle)) rfl rfl ?_
    | (refine gl_gate ?_; first
      | refine gl_nil ?_
      | (refine gl_any0 ?_; refine gl_pure tab_ok rfl rfl rfl rfl rfl rfl ?_))
    | (refine gc_gate ?_; first
      | refine gc_seq ?_
      | refine gc_region ?_
      | refine gc_false rfl ?_
      | refine gc_skip ?_)
    | (refine ge_gate ?_; first
      | ((with_reducible refine ge_gT ?_); first | with_reducible refine ge_then ?_ | with_reducible refine ge_then_exit ?_ | with_reducible refine ge_then_ret ?_))
  have hsrc : SrcK Try.prog 4 57 w M [(g, true, .cells (cat RP.l (x :: r) ++ sp).toArray 65 (0, 0))] (.slice (if c = 1 then some (ad g) else (some (ad g)).map (·.add (1 * 4))) r.length (c - 1)) r.length (cat RP.l r) := by
    have hl : (cat RP.l r).length = r.length * 4 := rp_len r
    have h1 : ∀ u ∈ cat RP.l r, u.oneCell' = true := cat_ones (fun x => ones_of rfl) r
    have hadd : (ad g).add (1 * 4) = ⟨g, 4, none⟩ := by simp [Addr.add]
    split
    · have : r = [] := List.eq_nil_of_length_eq_zero (by omega)
      subst this
      exact src_blk tab_ok rfl (List.Mem.head _) hl (fun j hj => by simp [cat] at hj) h1
    · simp only [Option.map_some, hadd]
      refine src_blk tab_ok rfl (List.Mem.head _) hl (fun j hj => ?_) h1
      have e : cat RP.l (x :: r) = RP.l x ++ cat RP.l r := by simp [cat]
      rw [e, List.append_assoc, List.getElem?_append_right (by simp [len_rp]), List.getElem?_append_left (by simpa [len_rp] using hj)]
      simp [len_rp]
  have hval : ∀ de : TyD, de.size = 4 → Value.slice (if c = r.length then some (ad g) else (some (ad g)).map (·.add (r.length * de.size))) (r.length + 1 - r.length) (c - r.length) = .slice (some ⟨g, r.length * 4, none⟩) 1 (c - r.length) := fun de h => by
    rw [if_neg (by omega), h]
    have : r.length + 1 - r.length = 1 := by omega
    rw [this]
    unfold Addr.add
    split <;> simp_all
  refine gp_startC (St w M []) c_cl [6] #[false, false, false, false, false, false, false, false] mixed rfl rfl c_qp ?_; intro hqp_
  refine gp_take 0 #[true, false, false, false, false, false, false, false] hqp_ rfl (by kernel_rfl) (yv_pure tab_ok c_gok rfl rfl c_allT) c_cl rfl rfl ?_
  refine gp_take 1 #[true, true, false, false, false, false, false, false] hqp_ rfl (by kernel_rfl) (yv_pure tab_ok c_gok rfl rfl c_allT) c_cl rfl rfl ?_
  refine gp_take 2 #[true, true, true, false, false, false, false, false] hqp_ rfl (by kernel_rfl) ((yv_sliceH (h := 0) tab_ok (gok_none rfl) rfl rfl rfl rfl rfl (fun _ => rfl) (fun _ => rfl) (fun _ => by omega))) c_cl rfl rfl ?_
  refine gp_take 3 #[true, true, true, true, false, false, false, false] hqp_ rfl (by kernel_rfl) (yv_pure tab_ok c_gok rfl rfl c_allT) c_cl rfl rfl ?_
  refine gp_take 4 #[true, true, true, true, true, false, false, false] hqp_ rfl (by kernel_rfl) (yv_pure tab_ok c_gok rfl rfl c_allT) c_cl rfl rfl ?_
  refine gp_take 5 #[true, true, true, true, true, true, false, false] hqp_ rfl (by kernel_rfl) ((yv_sliceL (lo := 1) tab_ok (gok_none rfl) rfl rfl rfl rfl rfl (fun _ => rfl) (fun _ => rfl) (fun _ => by omega))) c_cl rfl rfl ?_
  refine gp_last 6 #[true, true, true, true, true, true, true, false] rfl (by kernel_rfl) (by simp) rfl rfl (ev_appendIn (xs := []) (sp := cat RP.l (x :: r) ++ sp) tab_ok rfl rfl rfl rfl rfl rfl Oa.one ho0 hsrc (by omega) (Nat.zero_add _) ?_)
  refine gp_take 7 #[true, true, true, true, true, true, true, true] hqp_ rfl (by kernel_rfl) (yv_pure tab_ok c_gok rfl rfl c_allT) c_cl rfl rfl ?_
  refine gp_done (by kernel_rfl) ?_; clear hqp_
  repeat' first
    | refine gl_yv ((yv_sliceLH (lo := r.length) (h := r.length + 1) tab_ok (gok_none rfl) rfl rfl rfl rfl rfl rfl (fun _ => rfl) (fun _ => rfl) (fun _ => rfl) (fun _ => by omega) (fun _ => by omega)).cast (v' := .slice (some ⟨g, r.length * 4, none⟩) 1 (c - r.length)) (hval _ rfl)) rfl rfl ?_
    | (refine gl_gate ?_; first
      | (refine gl_any0 ?_; refine gl_pure tab_ok rfl rfl rfl rfl rfl rfl ?_))
    | (refine gc_gate ?_; first
      | refine gc_seq ?_
      | refine gc_region ?_)
    | (refine ge_gate ?_; first
      | ((with_reducible refine ge_gT ?_); first | with_reducible refine ge_then ?_ | with_reducible refine ge_then_exit ?_ | with_reducible refine ge_then_ret ?_))
  have hl1 := rp_len r
  have hl2 := rp_len (x :: r)
  refine gl_ev0 (ev_clear tab_ok rfl rfl rfl rfl rfl (ones_of rfl) ?_ Ku.head ?_) rfl
  · show r.length * 4 + 1 * 4 ≤ _
    rw [List.nil_append, List.length_append, List.length_drop, List.length_append, hl1, hl2, List.length_cons]
    show _ ≤ r.length * 4 + ((r.length + 1) * 4 + sp.length - r.length * 4)
    omega
  repeat' first
    | (refine gl_gate ?_; first
      | refine gl_nil ?_
      | (refine gl_any0 ?_; refine gl_pure tab_ok rfl rfl rfl rfl rfl rfl ?_))
    | (refine gc_gate ?_; first
      | refine gc_seq ?_
      | refine gc_region ?_
      | refine gc_ret ?_)
    | (refine ge_gate ?_; first
      | ((with_reducible refine ge_gT ?_); first | with_reducible refine ge_then ?_ | with_reducible refine ge_then_exit ?_ | with_reducible refine ge_then_ret ?_)
      | ((with_reducible refine ge_gB ?_); first | refine ge_ret1 tab_ok rfl c_rvt ?_ | refine ge_end1 tab_ok rfl c_rvt ?_ | refine ge_ret2 tab_ok rfl c_rvt c_rvt ?_ | refine ge_ret_none rfl ?_ | refine ge_end_none rfl ?_))
  intro W hW
  refine ⟨(), rfl, trivial, ?_⟩
  have e : (([] : List Value) ++ (cat RP.l r ++ (cat RP.l (x :: r) ++ sp).drop (r.length * 4))).take (r.length * 4) ++ repZ 1 z65 ++ (([] : List Value) ++ (cat RP.l r ++ (cat RP.l (x :: r) ++ sp).drop (r.length * 4))).drop (r.length * 4 + 1 * 4) = cat RP.l r ++ (z65 ++ sp) := by
    rw [List.nil_append, ← hl1, List.take_left' rfl, List.drop_append, List.drop_eq_nil_of_le (by omega), List.nil_append, List.drop_drop, List.drop_append, List.drop_eq_nil_of_le (by rw [hl2, hl1, List.length_cons]; omega), List.nil_append, hl1, hl2, List.length_cons]
    rw [show r.length * 4 + 1 * 4 - r.length * 4 = 4 by omega, show r.length * 4 + 4 - (r.length + 1) * 4 = 0 by omega]
    simp [repZ]
  rw [← e]
  subst hM
  exact hW
theorem ev_deleteP {N : Nat} {w0 : World} {M : List Nat} {F : Fl} {K Kx : Kl} {o : Oper} {R : Value → Kl → Prop} {args : Array Operand} {ts : Array TypeId} {ps : List Bool} {x : RP} {r : List RP} {g c : Nat} {sp : List Value} (hg : o.guard = none) (ho : o.op = .call ⟨.value (.func 148), args, ts⟩) (hv : vals F args.toList = some [.slice (some (ad g)) (r.length + 1 : Nat) c, .int .i64 0, .int .i64 1]) (hc : cdl F args.toList = some ps) (hp : ps.all id = true)
    (hk : Oa K (some g) (cat RP.l (x :: r) ++ sp) 65 Kx) (hw : Ow (some g) (r.length + 1) c 4 (cat RP.l (x :: r)) sp) (hR : R (.slice (some (ad g)) r.length c) ((g, true, .cells (cat RP.l r ++ (z65 ++ sp)).toArray 65 (0, 0)) :: Kx)) : Ev Try.prog o N w0 M F K R :=
  ev_call hg ho ent148 hv hc hp fun W hW0 => by
    have hW := hk.st hW0
    refine (ct_DeleteP x r g c sp W (hW.known (g, true, .cells (cat RP.l (x :: r) ++ sp).toArray 65 (0, 0)) (by simp [ow])) hw).mono fun e W' ⟨y, h1, h2, h3⟩ => ⟨_, _, h1, ?_, hR⟩
    have hap := hW.apart
    refine St.over (M' := [g]) (K2 := Kx) hW h3 (fun b hb => ?_) (fun e he => ?_) ?_ (fun e he hm => ?_)
    · simp at hb; subst hb; exact mem_wrs (by simp only [ow, List.cons_append]; exact List.Mem.head _)
    · simp at he; subst he; rfl
    · exact List.sublist_append_right _ _
    · simp at hm
      exact (List.pairwise_append.1 hap).2.2 (g, true, .cells (cat RP.l (x :: r) ++ sp).toArray 65 (0, 0)) (by simp [ow]) e he hm.symm
theorem Ow.tl4 {x : RP} {r : List RP} {g c : Nat} {sp : List Value} (hw : Ow (some g) (r.length + 1) c 4 (cat RP.l (x :: r)) sp) : Ow (some g) r.length c 4 (cat RP.l r) (z65 ++ sp) :=
  ⟨rp_len r, by have := hw.room; have := hw.le; rw [List.length_append, hw.room]; show 4 + _ = _; omega, by have := hw.le; omega, fun h => by cases h⟩
/-- What Take answers. -/
def TkV (t : Option Rep) (v : Value) (w : World) (X : List Nat) : Prop := match t with
  | none => v = .tuple #[.agg z65.toArray, .bool false]
  | some x => ∃ p c, v = .tuple #[.agg (RP.l ⟨x, p, c⟩).toArray, .bool true] ∧ Im w X p x.cells
theorem ct_TakeP (s : SX) (g c : Nat) (q : Option Nat) (sp : List Value) (X : List Nat) (v : Int) (cs : List Shown) (p : Option Addr) (cap : Nat) (w : World) (h : Ses true s g q c sp X w) (hcs : Im w X p cs) :
    Calls Try.prog 60 #[.pointer (some ⟨g, 0, none⟩), .int .i64 v, .slice p cs.length cap] w (RetX true w g q X (TkV (s.sg.takeR v cs)) (s.sg.takeS v cs)) := by
  have ho := h.li.ow
  have hle := h.le
  have hcl := hcs.le
  have hsl := seeL_len s.a s.b cs
  obtain ⟨wt, bh, a, b, saw, l⟩ := s
  dsimp only at ho hle hsl
  rcases l with _ | ⟨x, r⟩
  · cases hb : (bh && wt) with
    | false =>
      have e1 : SG.takeR (SX.sg ⟨wt, bh, a, b, saw, []⟩) v cs = none := by simp [SG.takeR, SX.sg, hb]
      have e2 : SG.takeS (SX.sg ⟨wt, bh, a, b, saw, []⟩) v cs = SX.sg ⟨wt, bh, a, b, saw, []⟩ := by simp [SG.takeS, SX.sg, hb]
      rw [e1, e2]
      refine enter (args := [_, _, _]) (M := []) (K := []) Try.func60 rfl Try.ntmps60 rfl (St.refl _ _) ?_
      refine gc_own (SX.K ⟨wt, bh, a, b, saw, []⟩ true g q c sp []) h.li.kn h.li.ap ?_
      rw [SX.K_map]
      unfold SX.K SX.cs SX.cP
      simp only [cond_true, List.length_nil]
      repeat' first
        | (refine gl_gate ?_; first
          | refine gl_nil ?_
          | (refine gl_load0 ?_; refine gl_yv (yv_load tab_ok (gok_none rfl) rfl rfl (fun _ => rfl) c_mem (fun _ => c_lds)) rfl rfl ?_)
          | (refine gl_pick0 ?_; first | refine gl_yv (yv_and (gok_none rfl) rfl rfl rfl (fun _ => rfl) c_imp2) rfl rfl ?_ | refine gl_yv (yv_or (gok_none rfl) rfl rfl rfl (fun _ => rfl) c_imp2) rfl rfl ?_)
          | (refine gl_loadG ?_; refine gl_yv (yv_load tab_ok c_gok rfl rfl c_imp c_mem (fun _ => c_lds)) rfl rfl ?_)
          | (refine gl_alc0 ?_; (refine gl_alloc tab_ok rfl rfl rfl rfl rfl ?_; intro g_ hg_))
          | (refine gl_sto0 ?_; refine gl_store tab_ok rfl rfl rfl rfl rfl rfl rfl c_one rfl c_ku ?_)
          | (refine gl_any0 ?_; refine gl_pure tab_ok rfl rfl rfl rfl rfl rfl ?_)
          | (refine gl_anyG ?_; first | refine gl_yv (yv_pure tab_ok c_gok rfl rfl c_allT) rfl rfl ?_ | refine gl_yv (yv_indexS tab_ok c_gok rfl rfl rfl rfl c_imp c_imp (by intro hq_; (try simp only [Bool.and_eq_true, Bool.not_eq_true', Bool.not_eq_false', Bool.or_eq_false_iff, Bool.or_eq_true, decide_eq_true_eq, decide_eq_false_iff_not, Bool.true_and, Bool.and_true] at hq_); omega)) rfl rfl ?_ | refine gl_yv (yv_indexS (i := 0) tab_ok c_gok rfl rfl rfl rfl c_imp c_imp (by intro hq_; (try simp only [Bool.and_eq_true, Bool.not_eq_true', Bool.not_eq_false', Bool.or_eq_false_iff, Bool.or_eq_true, decide_eq_true_eq, decide_eq_false_iff_not, Bool.true_and, Bool.and_true] at hq_); omega)) rfl rfl ?_))
        | (refine gc_gate ?_; first
          | refine gc_seq ?_
          | refine gc_region ?_
          | refine gc_false rfl ?_
          | (refine gc_cond rfl ?_ ?_ <;> intro h_ <;> have hd_ := h_ <;> (try simp only [bytes_beq, cell_beq, val_beq, stamp_beq, decide_eq_true_eq, decide_eq_false_iff_not, Bool.and_eq_true, Bool.or_eq_true, Bool.or_eq_false_iff, Bool.not_eq_true', Bool.not_eq_false', Bool.not_true, Bool.not_false, Bool.false_or, Bool.true_and, Bool.and_true, Bool.or_false, beq_iff_eq, bne_iff_ne, beq_eq_false_iff_ne, bne_eq_false_iff_eq, ne_eq, Bool.false_eq_true, reduceCtorEq] at hd_) <;> (try (exfalso; omega)))
          | refine gc_block ?_
          | refine gc_ret ?_
          | refine gc_skip ?_)
        | (refine ge_gate ?_; first
          | ((with_reducible refine ge_gT ?_); first | with_reducible refine ge_then ?_ | with_reducible refine ge_then_exit ?_ | with_reducible refine ge_then_ret ?_)
          | ((with_reducible refine ge_gK ?_); first | with_reducible refine ge_block ?_ | refine ge_block_exit ?_ | refine ge_block_pass rfl ?_ | with_reducible refine ge_block_ret ?_)
          | ((with_reducible refine ge_gB ?_); first | refine ge_ret1 tab_ok rfl c_rvt ?_ | refine ge_end1 tab_ok rfl c_rvt ?_ | refine ge_ret2 tab_ok rfl c_rvt c_rvt ?_ | refine ge_ret_none rfl ?_ | refine ge_end_none rfl ?_))
      all_goals
        first | (exfalso; simp_all; done) | skip
      intro W hW
      exact RetX.of ⟨wt, bh, a, b, saw, []⟩ q c sp hW c_sel ho rfl h.le h.mX h.lX (fun hX => h.saw.keep hW h.mX hX) (fun hX r hr => (h.im r hr).keep hW h.mX hX) (fun _ => rfl)
    | true =>
      have h1 : bh = true := by simp at hb; exact hb.1
      have h2 : wt = true := by simp at hb; exact hb.2
      subst h1 h2
      have e1 : SG.takeR (SX.sg ⟨true, true, a, b, saw, []⟩) v cs = some ⟨2, v, 0, seeL a b cs⟩ := rfl
      have e2 : SG.takeS (SX.sg ⟨true, true, a, b, saw, []⟩) v cs = ⟨true, false, a, b, seeL a b cs, []⟩ := rfl
      rw [e1, e2]
      refine enter (args := [_, _, _]) (M := []) (K := []) Try.func60 rfl Try.ntmps60 rfl (St.refl _ _) ?_
      refine gc_own (SX.K ⟨true, true, a, b, saw, []⟩ true g q c sp []) h.li.kn h.li.ap ?_
      rw [SX.K_map]
      unfold SX.K SX.cs SX.cP
      simp only [cond_true, List.length_nil]
      repeat' first
        | (refine gl_gate ?_; first
          | refine gl_nil ?_
          | (refine gl_load0 ?_; refine gl_yv (yv_load tab_ok (gok_none rfl) rfl rfl (fun _ => rfl) c_mem (fun _ => c_lds)) rfl rfl ?_)
          | (refine gl_any0 ?_; (refine gl_ev (ev_snapP (s := ⟨true, false, a, b, saw, []⟩) (g := g) (q := q) (c := c) (sp := sp) (v := v) (cs := cs) (p := p) (cap := cap) rfl rfl rfl rfl rfl c_sa ho (fun W hW => hcs.keep hW h.mX (fun b hb => Or.inl (h.mX b hb))) ?_) rfl rfl; intro p1_ c1_ sp1_ p2_ c2_ sp2_ hw1_ hn1_ hw2_ hn2_))
          | (refine gl_pick0 ?_; first | refine gl_yv (yv_and (gok_none rfl) rfl rfl rfl (fun _ => rfl) c_imp2) rfl rfl ?_ | refine gl_yv (yv_or (gok_none rfl) rfl rfl rfl (fun _ => rfl) c_imp2) rfl rfl ?_)
          | (refine gl_loadG ?_; refine gl_yv (yv_load tab_ok c_gok rfl rfl c_imp c_mem (fun _ => c_lds)) rfl rfl ?_)
          | (refine gl_alc0 ?_; (refine gl_alloc tab_ok rfl rfl rfl rfl rfl ?_; intro g_ hg_))
          | (refine gl_sto0 ?_; refine gl_store tab_ok rfl rfl rfl rfl rfl rfl rfl c_one rfl c_ku ?_)
          | (refine gl_any0 ?_; refine gl_pure tab_ok rfl rfl rfl rfl rfl rfl ?_)
          | (refine gl_anyG ?_; first | refine gl_yv (yv_pure tab_ok c_gok rfl rfl c_allT) rfl rfl ?_ | refine gl_yv (yv_indexS tab_ok c_gok rfl rfl rfl rfl c_imp c_imp (by intro hq_; (try simp only [Bool.and_eq_true, Bool.not_eq_true', Bool.not_eq_false', Bool.or_eq_false_iff, Bool.or_eq_true, decide_eq_true_eq, decide_eq_false_iff_not, Bool.true_and, Bool.and_true] at hq_); omega)) rfl rfl ?_ | refine gl_yv (yv_indexS (i := 0) tab_ok c_gok rfl rfl rfl rfl c_imp c_imp (by intro hq_; (try simp only [Bool.and_eq_true, Bool.not_eq_true', Bool.not_eq_false', Bool.or_eq_false_iff, Bool.or_eq_true, decide_eq_true_eq, decide_eq_false_iff_not, Bool.true_and, Bool.and_true] at hq_); omega)) rfl rfl ?_))
        | (refine gc_gate ?_; first
          | refine gc_seq ?_
          | refine gc_region ?_
          | refine gc_true rfl ?_
          | refine gc_false rfl ?_
          | refine gc_block ?_
          | refine gc_ret ?_)
        | (refine ge_gate ?_; first
          | ((with_reducible refine ge_gT ?_); first | with_reducible refine ge_then ?_ | with_reducible refine ge_then_exit ?_ | with_reducible refine ge_then_ret ?_)
          | ((with_reducible refine ge_gK ?_); first | with_reducible refine ge_block ?_ | refine ge_block_exit ?_ | refine ge_block_pass rfl ?_ | with_reducible refine ge_block_ret ?_)
          | ((with_reducible refine ge_gB ?_); first | refine ge_ret1 tab_ok rfl c_rvt ?_ | refine ge_end1 tab_ok rfl c_rvt ?_ | refine ge_ret2 tab_ok rfl c_rvt c_rvt ?_ | refine ge_ret_none rfl ?_ | refine ge_end_none rfl ?_))
      intro W hW
      exact RetX.of ⟨true, false, a, b, ⟨p1_.map ad, c1_, seeL a b cs⟩, []⟩ q c sp hW c_sel ho rfl h.le h.mX h.lX (fun hX => Im.new (l := seeL a b cs) (q := q) (X := X) hW c_sel hw1_ hn1_ h.lX (by omega)) (fun hX r hr => absurd hr List.not_mem_nil) (fun hX => ⟨p2_.map ad, c2_, rfl, Im.new (l := seeL a b cs) (q := q) (X := X) hW c_sel hw2_ hn2_ h.lX (by omega)⟩)
  · have e1 : SG.takeR (SX.sg ⟨wt, bh, a, b, saw, x :: r⟩) v cs = some x.rep := rfl
    have e2 : SG.takeS (SX.sg ⟨wt, bh, a, b, saw, x :: r⟩) v cs = SX.sg ⟨wt, bh, a, b, saw, r⟩ := rfl
    rw [e1, e2]
    rcases q with _ | g2
    · have := ho.nil rfl
      have := ho.le
      simp at this
      omega
    refine enter (args := [_, _, _]) (M := []) (K := []) Try.func60 rfl Try.ntmps60 rfl (St.refl _ _) ?_
    refine gc_own (SX.K ⟨wt, bh, a, b, saw, x :: r⟩ true g (some g2) c sp []) h.li.kn h.li.ap ?_
    rw [SX.K_map]
    unfold SX.K SX.cs SX.cP
    simp only [cond_true, Option.map_some, List.length_cons]
    simp only [List.length_cons] at ho
    repeat' first
      | (refine gl_gate ?_; first
        | refine gl_nil ?_
        | (refine gl_load0 ?_; refine gl_yv (yv_load tab_ok (gok_none rfl) rfl rfl (fun _ => rfl) c_mem (fun _ => c_lds)) rfl rfl ?_)
        | (refine gl_any0 ?_; (refine gl_ev (ev_deleteP (x := x) (r := r) (g := g2) (c := c) (sp := sp) rfl rfl rfl rfl rfl c_oa ho ?_) rfl rfl))
        | (refine gl_idx0 ?_; refine gl_yv (yv_indexAddr tab_ok (gok_none rfl) rfl rfl rfl rfl rfl (fun _ => rfl) (fun _ => rfl) (by intro _; omega)) rfl rfl ?_)
        | (refine gl_alc0 ?_; (refine gl_alloc tab_ok rfl rfl rfl rfl rfl ?_; intro g_ hg_))
        | (refine gl_sto0 ?_; refine gl_store tab_ok rfl rfl rfl rfl rfl rfl rfl c_one rfl c_ku ?_)
        | (refine gl_any0 ?_; refine gl_pure tab_ok rfl rfl rfl rfl rfl rfl ?_))
      | (refine gc_gate ?_; first
        | refine gc_seq ?_
        | refine gc_region ?_
        | refine gc_false rfl ?_
        | (refine gc_cond rfl ?_ ?_ <;> intro h_ <;> have hd_ := h_ <;> (try simp only [bytes_beq, cell_beq, val_beq, stamp_beq, decide_eq_true_eq, decide_eq_false_iff_not, Bool.and_eq_true, Bool.or_eq_true, Bool.or_eq_false_iff, Bool.not_eq_true', Bool.not_eq_false', Bool.not_true, Bool.not_false, Bool.false_or, Bool.true_and, Bool.and_true, Bool.or_false, beq_iff_eq, bne_iff_ne, beq_eq_false_iff_ne, bne_eq_false_iff_eq, ne_eq, Bool.false_eq_true, reduceCtorEq] at hd_) <;> (try (exfalso; omega)))
        | refine gc_block ?_
        | refine gc_ret ?_)
      | (refine ge_gate ?_; first
        | ((with_reducible refine ge_gT ?_); first | with_reducible refine ge_then ?_ | with_reducible refine ge_then_exit ?_ | with_reducible refine ge_then_ret ?_)
        | ((with_reducible refine ge_gK ?_); first | with_reducible refine ge_block ?_ | refine ge_block_exit ?_ | refine ge_block_pass rfl ?_ | with_reducible refine ge_block_ret ?_)
        | ((with_reducible refine ge_gB ?_); first | refine ge_ret1 tab_ok rfl c_rvt ?_ | refine ge_end1 tab_ok rfl c_rvt ?_ | refine ge_ret2 tab_ok rfl c_rvt c_rvt ?_ | refine ge_ret_none rfl ?_ | refine ge_end_none rfl ?_))
    intro W hW
    exact RetX.of ⟨wt, bh, a, b, saw, r⟩ (some g2) c (z65 ++ sp) hW c_sel (Ow.tl4 ho) rfl (by simp only [List.length_cons] at hle; show r.length ≤ 8; omega) h.mX h.lX (fun hX => h.saw.keep hW h.mX hX) (fun hX y hy => (h.im y (List.mem_cons_of_mem _ hy)).keep hW h.mX hX) (fun hX => ⟨x.p, x.c, rfl, (h.im x (List.mem_cons_self ..)).keep hW h.mX hX⟩)
end Go.Proofs.Ytkgjfcjciigcgaa
