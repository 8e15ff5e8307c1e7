/-
  Own slices that begin behind their block's beginning: what is cut off in front, and appended behind.
-/
import Derived.Test.YtkgjfcjciigcgaaSlMap
namespace Go.Proofs.Ytkgjfcjciigcgaa.Sl
open Go.RowKit
set_option linter.unusedVariables false
set_option linter.unusedSectionVars false
attribute [local semireducible] GC GE GL GQ

/-- n elements of k cells, room for c, behind 'pre' of the block p. -/
structure OwO (p : Option Nat) (pa : Option Addr) (n c k : Nat) (pre xs sp : List Value) : Prop where
  len : xs.length = n * k
  room : sp.length = (c - n) * k
  le : n ≤ c
  at' : c = 0 ∨ ∃ g, p = some g ∧ pa = some ⟨g, pre.length, none⟩
theorem OwO.of {p : Option Nat} {n c k : Nat} {xs sp : List Value} (h : Ow p n c k xs sp) : OwO p (p.map ad) n c k [] xs sp := ⟨h.len, h.room, h.le, by
  cases p with
  | none => exact .inl (h.nil rfl)
  | some g => exact .inr ⟨g, rfl, rfl⟩⟩
section
variable {P : Program} {T : Tab} {N : Nat} {F : Fl} {a : Act} {l : List Oper} {o : Oper} {q : Bool} {C : World → Prop} {Q : Exit → Act → World → Prop} {w0 W : World} {M : List Nat} {K K' Kx : Kl} {rest : List Oper} {d : Nat} {v : Value} {p : Option Nat} {cs : List Value} {e : TypeId}
theorem add_at (g j i : Nat) : (⟨g, j, none⟩ : Addr).add i = ⟨g, j + i, none⟩ := by unfold Addr.add; split <;> simp_all
theorem OwO.cut {pa : Option Addr} {n c k : Nat} {pre x xs sp : List Value} (h : OwO p pa (n + 1) c k pre (x ++ xs) sp) (hx : x.length = k) : OwO p (if c = 1 then pa else pa.map (·.add (1 * k))) n (c - 1) k (pre ++ x) xs sp := by
  have h1 := h.len
  have h2 := h.le
  rw [List.length_append, hx, Nat.add_mul, Nat.one_mul] at h1
  refine ⟨by omega, by rw [h.room]; congr 1; omega, by omega, ?_⟩
  rcases h.at' with h3 | ⟨g, h3, h4⟩
  · omega
  · by_cases hc : c = 1
    · left; omega
    · right
      refine ⟨g, h3, ?_⟩
      rw [if_neg hc, h4, Option.map_some, add_at, List.length_append, hx, Nat.one_mul]
theorem OwO.cutNil {pa : Option Addr} {n c k : Nat} {pre sp : List Value} (h : OwO p pa 0 c k pre [] sp) : True := trivial
theorem ev_appendO (hT : TabOk P T) {R : Value → Kl → Prop} {t tx : TypeId} {x y : Operand} {n c m s bs : Nat} {z : List Value} {de : TyD} {pre xs sp news : List Value} {pa : Option Addr} (hg : o.guard = none) (ho : o.op = .call ⟨.builtin .append, #[x, y], #[t, tx]⟩)
    (ht : ty T t = some ⟨.slice e, s, bs, z⟩) (he : ty T e = some de) (hz : de.zero.length = de.size) (hx : Fo F x = some (true, .slice pa n c)) (hy : Fo F y = some (true, v)) (hk : Oa K p (pre ++ (xs ++ sp)) e Kx) (hw : OwO p pa n c de.size pre xs sp)
    (hs : SrcK P de.size tx w0 M K v m news) (hlim : (n + m) * de.bytes ≤ 140737488355328) (h63 : n + m ≤ 9223372036854775807)
    (hR : ∀ p' pa' c' pre' sp', OwO p' pa' (n + m) c' de.size pre' (xs ++ news) sp' → R (.slice pa' (n + m) c') (ow p' true (pre' ++ ((xs ++ news) ++ sp')) e ++ Kx)) : Ev P o N w0 M F K R := by
  have hR' : ∀ p' pa' c' pre' sp', OwO p' pa' (n + m) c' de.size pre' (xs ++ news) sp' → R (.slice pa' (n + m) c') (ow p' true (pre' ++ (xs ++ (news ++ sp'))) e ++ Kx) := fun p' pa' c' pre' sp' h => by
    have := hR p' pa' c' pre' sp' h
    rwa [List.append_assoc xs] at this
  refine ev_run hg fun a W hF hW => ?_
  have e0 := hF.eval hx rfl
  have e1 := hF.eval hy rfl
  have hsrc := hs W hW
  have hW' := hk.st hW
  obtain ⟨inf, zz, i1, i2, i3, i4, i5⟩ := (hT e de he).info
  have hkind := (hT t _ ht).kind
  rw [← i2] at hsrc
  have hnl : news.length = m * de.size := by rw [hsrc.newsLen, i2]
  obtain ⟨dst, op, tp, pos, after, guard⟩ := o
  subst ho
  have hexec : ∀ u W', (Builtin.append_ #[t, tx] tp #[.slice pa n c, v]).run P W = .ok u W' → (execOp a.eval ⟨dst, .call ⟨.builtin .append, #[x, y], #[t, tx]⟩, tp, pos, after, guard⟩).run P W = .ok (.value u) W' := fun u W' h => by
    have hb : ∀ ats ty cs args, builtin .append ats ty cs args = (do pure (.value (← Builtin.append_ ats ty args))) := fun _ _ _ _ => rfl
    simp [execOp, resolve, invoke, e0, e1, hb, h]
  have hle := hw.le
  by_cases hroom : n + m ≤ c
  · by_cases hc0 : c = 0
    · subst hc0
      obtain rfl : n = 0 := by omega
      obtain rfl : m = 0 := by omega
      have hx0 : xs = [] := List.eq_nil_of_length_eq_zero (by rw [hw.len]; simp)
      have hn0 : news = [] := List.eq_nil_of_length_eq_zero (by rw [hnl]; simp)
      subst hx0 hn0
      refine ⟨_, _, _, hexec _ _ ?_, hW', by have := hR' p pa 0 pre sp (by simpa using hw); simpa using this⟩
      rcases hsrc.kind with ⟨e', hk'⟩ | hk' <;> cases pa <;> simp [Builtin.append_, run_underlying hkind, run_underlying hk', Go.sizeOf, typeInfo, i1, hsrc.len, hsrc.cells, storeCells]
    · obtain ⟨g, rfl, rfl⟩ := hw.at'.resolve_left hc0
      have hmem : (g, true, Obj.cells (pre ++ (xs ++ sp)).toArray e (0, 0)) ∈ ow (some g) true (pre ++ (xs ++ sp)) e ++ Kx := by simp [ow]
      have hb := hW'.known _ hmem
      simp only at hb
      have hcl := hsrc.cells
      rw [i2] at hcl
      have hmul : (n + m) * de.size ≤ c * de.size := Nat.mul_le_mul_right _ hroom
      rw [Nat.add_mul] at hmul
      have hcn : (c - n) * de.size = c * de.size - n * de.size := Nat.sub_mul _ _ _
      have hfit : (pre.length + n * de.size) + 0 + news.length ≤ (pre ++ (xs ++ sp)).length := by
        rw [List.length_append, List.length_append, hw.len, hw.room, hnl, hcn]
        omega
      obtain ⟨W', r1, r2, r3, r4, r5, r6, r7⟩ := run_storeCells (P := P) (off := pre.length + n * de.size) news 0 W (pre ++ (xs ++ sp)) hb hfit hsrc.one
      have hcont : (pre ++ (xs ++ sp)).take (pre.length + n * de.size + 0) ++ news ++ (pre ++ (xs ++ sp)).drop (pre.length + n * de.size + 0 + news.length) = pre ++ (xs ++ (news ++ sp.drop (m * de.size))) := by
        rw [← hw.len, hnl, Nat.add_zero, ← List.append_assoc pre xs sp, ← List.length_append]
        rw [← List.append_assoc pre xs, List.take_left, List.append_assoc (pre ++ xs) news, ← List.drop_drop, List.drop_left]
      rw [hcont] at r7
      refine ⟨W', .slice (some ⟨g, pre.length, none⟩) (n + m) c, ow (some g) true (pre ++ (xs ++ (news ++ sp.drop (m * de.size)))) e ++ Kx, hexec _ _ ?_, ?_, hR' (some g) _ c pre (sp.drop (m * de.size)) ⟨by rw [List.length_append, hw.len, hnl, Nat.add_mul], ?_, hroom, .inr ⟨g, rfl, rfl⟩⟩⟩
      · rcases hsrc.kind with ⟨e', hk'⟩ | hk' <;> simp [Builtin.append_, run_underlying hkind, run_underlying hk', Go.sizeOf, typeInfo, i1, hsrc.len, hcl, hroom, add_at, i2, r1]
      · exact hW'.set (K' := ow (some g) true (pre ++ (xs ++ (news ++ sp.drop (m * de.size)))) e ++ Kx) (by simp only [ow, List.cons_append, List.nil_append]; exact Ku.head) r2 r3 r4 r5 r7 r6
      · rw [List.length_drop, hw.room, ← Nat.sub_mul]
        congr 1
        omega
  · have hlt : c < n + m := by omega
    have hfit : Builtin.nextslicecap (n + m) c * inf.bytes ≤ 281474976710656 := growslice_fits hlt (by rw [i3]; exact hlim)
    have hold : (Builtin.firstCells inf.size n (.slice pa n c)).run P W.drew = .ok xs.toArray W.drew := by
      rcases hw.at' with hc0 | ⟨g, rfl, rfl⟩
      · subst hc0
        obtain rfl : n = 0 := by omega
        have hx0 : xs = [] := List.eq_nil_of_length_eq_zero (by rw [hw.len]; simp)
        subst hx0
        cases pa with
        | none => exact run_firstCells_none W.drew inf.size 0 0 0
        | some a0 => exact run_firstCells_some W.drew inf.size 0 a0 0 0 [] (by simp) fun j u hu => by simp at hu
      · have hmem : (g, true, Obj.cells (pre ++ (xs ++ sp)).toArray e (0, 0)) ∈ ow (some g) true (pre ++ (xs ++ sp)) e ++ Kx := by simp [ow]
        have hb := hW'.known _ hmem
        refine run_firstCells_some W.drew inf.size n _ n c xs (by rw [hw.len, i2]) fun j u hu => ?_
        have hj : j < xs.length := (List.getElem?_eq_some_iff.1 hu).1
        have hb' : W.drew.heap[g]? = some (Obj.cells (pre ++ (xs ++ sp)).toArray e (0, 0)) := hb
        rw [add_at]
        simp [World.cell?, hb', List.getElem?_append_right, List.getElem?_append_left hj, hu]
    have hrun := run_append_grow_src (P := P) W t tx tp e inf zz hkind i1 i4 pa n c xs hold v m news hsrc hlt (by omega) hfit
    rw [i5, zeroCells_eq] at hrun
    have hge := grownCap_ge W (n + m) c e
    generalize grownCap W (n + m) c e = c' at hrun hge
    refine ⟨_, _, (W.heap.size, true, .cells (xs ++ (news ++ repZ (c' - (n + m)) de.zero)).toArray e (0, 0)) :: Kx, hexec _ _ hrun, ?_, ?_⟩
    · have h1 := (hW'.drawn (W.drawn + 1)).alloc (.cells (xs ++ (news ++ repZ (c' - (n + m)) de.zero)).toArray e (0, 0))
      have h2 : St w0 M ((W.heap.size, true, .cells (xs ++ (news ++ repZ (c' - (n + m)) de.zero)).toArray e (0, 0)) :: Kx) (World.alloc { W with drawn := W.drawn + 1 } (.cells (xs ++ (news ++ repZ (c' - (n + m)) de.zero)).toArray e (0, 0))) := h1.drop (List.Sublist.cons_cons _ (List.sublist_append_right _ _))
      have e3 : ((xs ++ news).toArray ++ (repZ (c' - (n + m)) de.zero).toArray) = (xs ++ (news ++ repZ (c' - (n + m)) de.zero)).toArray := by simp
      rw [e3]
      exact h2
    · have := hR' (some W.heap.size) (some ⟨W.heap.size, 0, none⟩) c' [] (repZ (c' - (n + m)) de.zero) ⟨by rw [List.length_append, hw.len, hnl, Nat.add_mul], by rw [repZ_length, hz], hge, .inr ⟨_, rfl, rfl⟩⟩
      exact this
/-- Its first element's place. -/
theorem yv_idxO0 (hT : TabOk P T) {k n c : Nat} {pre xs sp : List Value} {pa : Option Addr} (hw : OwO p pa n c k pre xs sp) {t : TypeId} {x ix : Operand} {px pi : Bool} {kk : IntKind} {et : TypeId} {dd : TyD} {s bs : Nat} {z : List Value} (hg : Gok l F o q) (ho : o.op = .indexAddr t x ix)
    (hx : Fo F x = some (px, .slice pa n c)) (hi : Fo F ix = some (pi, .int kk 0)) (ht : ty T t = some ⟨.slice et, s, bs, z⟩) (he : ty T et = some dd) (hp : q = true → px = true) (hp' : q = true → pi = true) (hb : q = true → 0 < n) :
    Yv P C l N F o q (.pointer (some ⟨p.getD 0, pre.length, none⟩)) :=
  yv_value hg fun a hF hq w hW => by
    have e0 := hF.eval hx (hp hq)
    have e1 := hF.eval hi (hp' hq)
    obtain ⟨dst, op, tp, pos, after, guard⟩ := o
    subst ho
    have hb' := hb hq
    have hkk := (hT t _ ht).kind
    have hle := hw.le
    obtain ⟨g, rfl, rfl⟩ := hw.at'.resolve_left (by omega)
    have hadd : ∀ a : Addr, a.add 0 = a := fun a => by simp [Addr.add]
    simp [execOp, e0, e1, Instr.indexAt, asIntOf, run_underlying hkk, (hT et _ he).sizeOf, hadd]
    intro h; omega
theorem yv_ldO0 (hT : TabOk P T) {k n c : Nat} {pre xs sp : List Value} {pa : Option Addr} (hk : Oa K p (pre ++ (xs ++ sp)) e Kx) (hw : OwO p pa n c k pre xs sp) {t : TypeId} {x : Operand} {px : Bool} (hg : Gok l F o q) (ho : o.op = .load t x)
    (hx : Fo F x = some (px, .pointer (some ⟨p.getD 0, pre.length, none⟩))) (hp : q = true → px = true) (hl : q = true → Lds T t xs 0 v) (hn : q = true → 0 < n) : Yv P (St w0 M K) l N F o q v :=
  yv_value hg fun a hF hq W hW => by
    have e0 := hF.eval hx (hp hq)
    have hn' := hn hq
    obtain ⟨dst, op, tp, pos, after, guard⟩ := o
    subst ho
    have hW' := hk.st hW
    have hle := hw.le
    obtain ⟨g, rfl, rfl⟩ := hw.at'.resolve_left (by omega)
    have hb := hW'.known (g, true, Obj.cells (pre ++ (xs ++ sp)).toArray e (0, 0)) (by simp [ow])
    simp only at hb
    obtain ⟨dd, vs, hd, l1, l2, l3, l4⟩ := hl hq
    have hL : Lds T t (pre ++ (xs ++ sp)) pre.length v := ⟨dd, vs, hd, l1, fun j hj => by
      have := l2 j hj
      rw [Nat.zero_add] at this
      have hlt : j < xs.length := by
        rcases Nat.lt_or_ge j xs.length with h | h
        · exact h
        · rw [List.getElem?_eq_none h, List.getElem?_eq_getElem (by omega)] at this; cases this
      rw [List.getElem?_append_right (by omega), show pre.length + j - pre.length = j by omega, List.getElem?_append_left hlt]
      exact this, l3, l4⟩
    simp [execOp, e0, Instr.loadAt, Instr.sureAddr, run_loadVar hT hb hL]
end
end Go.Proofs.Ytkgjfcjciigcgaa.Sl
