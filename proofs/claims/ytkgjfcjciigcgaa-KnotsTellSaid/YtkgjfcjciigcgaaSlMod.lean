/-
  Calls that turn the caller's own blocks.
-/
import Derived.Test.YtkgjfcjciigcgaaSlEv0
namespace Go.Proofs.Ytkgjfcjciigcgaa.Sl
open Go.RowKit
set_option linter.unusedVariables false
variable {P : Program} {N : Nat} {w0 W W' : World} {M : List Nat} {F : Fl} {K : Kl} {Q : Exit → Act → World → Prop} {o : Oper}

theorem St.over {M' : List Nat} {K' K2 : Kl} (h1 : St w0 M K W) (h2 : St W M' K' W') (hM : ∀ b ∈ M', b ∈ wrs K) (hw : ∀ e ∈ K', e.2.1 = true) (hs : K2.Sublist K) (ha : ∀ e ∈ K2, e.1 ∉ M') : St w0 M (K' ++ K2) W' := by
  have hlt : ∀ e ∈ K, e.1 < W.heap.size := fun e he => h1.lt he
  refine ⟨h2.os.trans h1.os, h2.tape.trans h1.tape, h2.output.trans h1.output, Nat.le_trans h1.size h2.size, fun b hb hm => ?_, fun e he => ?_, fun e he hb => ?_, ?_, Nat.le_trans h1.dr h2.dr⟩
  · rw [h2.frame b (Nat.lt_of_lt_of_le hb h1.size) (fun hb' => ?_), h1.frame b hb hm]
    obtain ⟨ob, ho⟩ := wrs_mem (hM b hb')
    rcases h1.wr _ ho rfl with h | h
    · simp only at h; omega
    · exact hm h
  · rcases List.mem_append.1 he with h | h
    · exact h2.known e h
    · rw [h2.frame e.1 (hlt e (hs.subset h)) (ha e h)]; exact h1.known e (hs.subset h)
  · rcases List.mem_append.1 he with h | h
    · rcases h2.wr e h hb with h' | h'
      · exact .inl (Nat.le_trans h1.size h')
      · obtain ⟨ob, ho⟩ := wrs_mem (hM _ h')
        exact h1.wr (e.1, true, ob) ho rfl
    · exact h1.wr e (hs.subset h) hb
  · refine List.pairwise_append.2 ⟨h2.apart, h1.apart.sublist hs, fun a ha' b hb => ?_⟩
    rcases h2.wr a ha' (hw a ha') with h | h
    · have := hlt b (hs.subset hb); omega
    · exact fun he => ha b hb (he ▸ h)
section
attribute [local semireducible] GC
theorem gc_own {c : Code} (K : Kl) (hK : ∀ e ∈ K, w0.heap[e.1]? = some e.2.2) (hp : K.Pairwise (fun p q => p.1 ≠ q.1)) (h : GC P c Q N w0 (K.map (·.1)) F K) : GC P c Q N w0 [] F [] := fun a W hF hW =>
  h a W hF ⟨hW.os, hW.tape, hW.output, hW.size, fun b hb _ => hW.frame b hb (by simp), fun e he => by
    have h1 := hK e he
    rcases Nat.lt_or_ge e.1 w0.heap.size with h | h
    · rw [hW.frame e.1 h (by simp)]; exact h1
    · rw [Array.getElem?_eq_none h] at h1; exact absurd h1 (by simp), fun e he _ => .inr (List.mem_map.2 ⟨e, he, rfl⟩), hp, hW.dr⟩
end
/-- What a call leaves that turns blocks of its caller's. -/
def RetM {σ : Type} (w : World) (M : List Nat) (val : σ → Value) (Kn : σ → Kl) (φ : σ → Prop) : Ending → World → Prop := fun e w' => ∃ x, e = .returned (val x) ∧ φ x ∧ St w M (Kn x) w'
theorem ev_callM {σ : Type} {R : Value → Kl → Prop} {f : FuncId} {args : Array Operand} {ts : Array TypeId} {vs : List Value} {ps : List Bool} {M' : List Nat} {val : σ → Value} {Kn : σ → Kl} {φ : σ → Prop} {K2 : Kl} (hg : o.guard = none) (ho : o.op = .call ⟨.value (.func f), args, ts⟩) (hf : Ent P f) (hv : vals F args.toList = some vs) (hc : cdl F args.toList = some ps) (hp : ps.all id = true)
    (h : ∀ W, St w0 M K W → Calls P f vs.toArray W (RetM W M' val Kn φ)) (hM : ∀ b ∈ M', b ∈ wrs K) (hw : ∀ x, ∀ e ∈ Kn x, e.2.1 = true) (hs : K2.Sublist K) (ha : ∀ W, St w0 M K W → ∀ e ∈ K2, e.1 ∉ M') (hR : ∀ x, φ x → R (val x) (Kn x ++ K2)) : Ev P o N w0 M F K R :=
  ev_call hg ho hf hv hc hp fun W hW => (h W hW).mono fun e W' ⟨x, h1, h2, h3⟩ => ⟨_, _, h1, hW.over h3 hM (hw x) hs (ha W hW), hR x h2⟩

/-! ### In place -/
section
variable {T : Tab} {e : TypeId} {g : Nat} {Kx K' : Kl} {v : Value} {l : List Oper} {q : Bool} {C : World → Prop}
/-- 'append' where there is room: in place. -/
theorem ev_appendIn (hT : TabOk P T) {R : Value → Kl → Prop} {t tx : TypeId} {x y : Operand} {n c m s bs : Nat} {z : List Value} {de : TyD} {xs sp news : List Value} (hg : o.guard = none) (ho : o.op = .call ⟨.builtin .append, #[x, y], #[t, tx]⟩)
    (ht : ty T t = some ⟨.slice e, s, bs, z⟩) (he : ty T e = some de) (hx : Fo F x = some (true, .slice (some (ad g)) n c)) (hy : Fo F y = some (true, v)) (hk : Oa K (some g) (xs ++ sp) e Kx) (hw : Ow (some g) n c de.size xs sp)
    (hs : SrcK P de.size tx w0 M K v m news) (hroom : n + m ≤ c) {nm : Nat} (hnm : n + m = nm)
    (hR : R (.slice (some (ad g)) nm c) ((g, true, .cells (xs ++ (news ++ sp.drop (m * de.size))).toArray e (0, 0)) :: Kx)) : Ev P o N w0 M F K R := by
  subst hnm
  refine ev_run hg fun a W hF hW => ?_
  have e0 := hF.eval hx rfl
  have e1 := hF.eval hy rfl
  have hsrc := hs W hW
  have hW' := hk.st hW
  obtain ⟨inf, zz, i1, i2, i3, i4, i5⟩ := (hT e de he).info
  have hkind := (hT t _ ht).kind
  rw [← i2] at hsrc
  have hnl : news.length = m * de.size := by rw [hsrc.newsLen, i2]
  obtain ⟨dst, op, tp, pos, after, guard⟩ := o
  subst ho
  have hexec : ∀ u W', (Builtin.append_ #[t, tx] tp #[.slice (some (ad g)) n c, v]).run P W = .ok u W' → (execOp a.eval ⟨dst, .call ⟨.builtin .append, #[x, y], #[t, tx]⟩, tp, pos, after, guard⟩).run P W = .ok (.value u) W' := fun u W' h => by
    have hb : ∀ ats ty cs args, builtin .append ats ty cs args = (do pure (.value (← Builtin.append_ ats ty args))) := fun _ _ _ _ => rfl
    simp [execOp, resolve, invoke, e0, e1, hb, h]
  have hmem : (g, true, Obj.cells (xs ++ sp).toArray e (0, 0)) ∈ ow (some g) true (xs ++ sp) e ++ Kx := by simp [ow]
  have hb := hW'.known _ hmem
  simp only at hb
  have hcl := hsrc.cells
  rw [i2] at hcl
  have hmul : (n + m) * de.size ≤ c * de.size := Nat.mul_le_mul_right _ hroom
  rw [Nat.add_mul] at hmul
  have hcn : (c - n) * de.size = c * de.size - n * de.size := Nat.sub_mul _ _ _
  have hfit : n * de.size + 0 + news.length ≤ (xs ++ sp).length := by
    rw [List.length_append, hw.len, hw.room, hnl, hcn]
    omega
  obtain ⟨W', r1, r2, r3, r4, r5, r6, r7⟩ := run_storeCells (P := P) (off := n * de.size) news 0 W (xs ++ sp) hb hfit hsrc.one
  have hcont : (xs ++ sp).take (n * de.size + 0) ++ news ++ (xs ++ sp).drop (n * de.size + 0 + news.length) = xs ++ (news ++ sp.drop (m * de.size)) := by
    rw [← hw.len, hnl]
    simp [List.drop_append]
  rw [hcont] at r7
  refine ⟨W', .slice (some (ad g)) (n + m) c, _, hexec _ _ ?_, ?_, hR⟩
  · have hadd : ∀ j, (⟨g, 0, none⟩ : Addr).add j = ⟨g, j, none⟩ := fun j => by unfold Addr.add; split <;> simp_all
    rcases hsrc.kind with ⟨e', hk'⟩ | hk' <;> simp [Builtin.append_, run_underlying hkind, run_underlying hk', Go.sizeOf, typeInfo, i1, hsrc.len, hcl, hroom, hadd, ad, i2, r1]
  · exact hW'.set (K' := (g, true, .cells (xs ++ (news ++ sp.drop (m * de.size))).toArray e (0, 0)) :: Kx) (by simp only [ow, List.cons_append, List.nil_append]; exact Ku.head) r2 r3 r4 r5 r7 r6

/-- 'clear' of a slice. -/
theorem ev_clear (hT : TabOk P T) {R : Value → Kl → Prop} {t : TypeId} {x : Operand} {n c off s bs : Nat} {z cs : List Value} {de : TyD} (hg : o.guard = none) (ho : o.op = .call ⟨.builtin .clear, #[x], #[t]⟩)
    (ht : ty T t = some ⟨.slice e, s, bs, z⟩) (he : ty T e = some de) (hx : Fo F x = some (true, .slice (some ⟨g, off, none⟩) n c)) (h1 : ∀ u ∈ de.zero, u.oneCell' = true) (hl : off + n * de.zero.length ≤ cs.length)
    (hk : Ku K g (.cells cs.toArray e (0, 0)) (.cells (cs.take off ++ repZ n de.zero ++ cs.drop (off + n * de.zero.length)).toArray e (0, 0)) K') (hR : R (.tuple #[]) K') : Ev P o N w0 M F K R := by
  refine ev_run hg fun a W hF hW => ?_
  have e0 := hF.eval hx rfl
  have hkind := (hT t _ ht).kind
  obtain ⟨zv, hz, hzc⟩ := (hT e de he).zeroValue W (P := P)
  have hb := hW.known _ hk.mem
  simp only at hb
  obtain ⟨dst, op, tp, pos, after, guard⟩ := o
  subst ho
  have hexec : ∀ W', (Builtin.clear_ #[t] tp #[.slice (some ⟨g, off, none⟩) n c]).run P W = .ok (.tuple #[]) W' → (execOp a.eval ⟨dst, .call ⟨.builtin .clear, #[x], #[t]⟩, tp, pos, after, guard⟩).run P W = .ok (.value (.tuple #[])) W' := fun W' h => by
    have hb : ∀ ats ty cs args, builtin .clear ats ty cs args = (do pure (.value (← Builtin.clear_ ats ty args))) := fun _ _ _ _ => rfl
    simp [execOp, resolve, invoke, e0, hb, h]
  cases n with
  | zero =>
    refine ⟨W, .tuple #[], K', hexec _ ?_, hW.set hk rfl rfl ⟨rfl, rfl⟩ rfl ?_ (fun _ _ => rfl), hR⟩
    · simp [Builtin.clear_, run_underlying hkind]
    · rw [hb]; simp [repZ]
  | succ n =>
    have hrl : (repZ (n + 1) de.zero).length = (n + 1) * de.zero.length := repZ_length _ _
    have hone : ∀ k, ∀ u ∈ repZ k de.zero, u.oneCell' = true := fun k => by
      induction k with
      | zero => simp [repZ]
      | succ k ih => intro u hu; unfold repZ at hu; rcases List.mem_append.1 hu with h | h; exact h1 u h; exact ih u h
    obtain ⟨W', r1, r2, r3, r4, r5, r6, r7⟩ := run_storeCells (P := P) (off := off) (repZ (n + 1) de.zero) 0 W cs hb (by rw [hrl]; omega) (hone _)
    refine ⟨W', .tuple #[], K', hexec _ ?_, hW.set hk r2 r3 r4 r5 (by rw [r7, hrl]; simp) r6, hR⟩
    simp [Builtin.clear_, run_underlying hkind, hz, hzc, zeroCells_eq, r1]

theorem yv_slice3 (hT : TabOk P T) {t et : TypeId} {x y u : Operand} {px py pu : Bool} {kk k2 : IntKind} {n c h m s bs : Nat} {z : List Value} {de : TyD} {pa : Option Addr} (hg : Gok l F o q) (ho : o.op = .slice t x none (some y) (some u))
    (hx : Fo F x = some (px, .slice pa n c)) (hy : Fo F y = some (py, .int kk (h : Int))) (hu : Fo F u = some (pu, .int k2 (m : Int))) (ht : ty T t = some ⟨.slice et, s, bs, z⟩) (he : ty T et = some de) (hp : q = true → px = true) (hp' : q = true → py = true) (hp2 : q = true → pu = true) (hb : q = true → h ≤ m) (hb' : q = true → m ≤ c) :
    Yv P C l N F o q (.slice pa h m) :=
  yv_value hg fun a hF hq w hw => by
    have e0 := hF.eval hx (hp hq)
    have e1 := hF.eval hy (hp' hq)
    have e2 := hF.eval hu (hp2 hq)
    obtain ⟨dst, op, tp, pos, after, guard⟩ := o
    subst ho
    have h1 := hb hq
    have h2 := hb' hq
    have hkk := (hT t _ ht).kind
    have hadd : ∀ a : Addr, a.add 0 = a := fun a => by simp [Addr.add]
    simp [execOp, e0, e1, e2, Instr.sliceAt, Instr.slice, Instr.sliceBounds, Instr.sliceBound, asIntOf, run_underlying hkk, (hT et _ he).sizeOf, hadd, h1, h2]
theorem yv_sliceLHM (hT : TabOk P T) {t et : TypeId} {x y u r : Operand} {px py pu pr : Bool} {kk k2 k3 : IntKind} {n c lo h m s bs : Nat} {z : List Value} {de : TyD} {pa : Option Addr} (hg : Gok l F o q) (ho : o.op = .slice t x (some r) (some y) (some u))
    (hx : Fo F x = some (px, .slice pa n c)) (hr : Fo F r = some (pr, .int k3 (lo : Int))) (hy : Fo F y = some (py, .int kk (h : Int))) (hu : Fo F u = some (pu, .int k2 (m : Int))) (ht : ty T t = some ⟨.slice et, s, bs, z⟩) (he : ty T et = some de) (hp : q = true → px = true) (hp3 : q = true → pr = true) (hp' : q = true → py = true) (hp2 : q = true → pu = true) (hb0 : q = true → lo ≤ h) (hb : q = true → h ≤ m) (hb' : q = true → m ≤ c) :
    Yv P C l N F o q (.slice (if m = lo then pa else pa.map (·.add (lo * de.size))) (h - lo) (m - lo)) :=
  yv_value hg fun a hF hq w hw => by
    have e0 := hF.eval hx (hp hq)
    have e1 := hF.eval hy (hp' hq)
    have e2 := hF.eval hu (hp2 hq)
    have e3 := hF.eval hr (hp3 hq)
    obtain ⟨dst, op, tp, pos, after, guard⟩ := o
    subst ho
    have h0 := hb0 hq
    have h1 := hb hq
    have h2 := hb' hq
    have hkk := (hT t _ ht).kind
    simp [execOp, e0, e1, e2, e3, Instr.sliceAt, Instr.slice, Instr.sliceBounds, Instr.sliceBound, asIntOf, run_underlying hkk, (hT et _ he).sizeOf, h0, h1, h2]
theorem yv_sliceLH (hT : TabOk P T) {t et : TypeId} {x y r : Operand} {px py pr : Bool} {kk k3 : IntKind} {n c lo h s bs : Nat} {z : List Value} {de : TyD} {pa : Option Addr} (hg : Gok l F o q) (ho : o.op = .slice t x (some r) (some y) none)
    (hx : Fo F x = some (px, .slice pa n c)) (hr : Fo F r = some (pr, .int k3 (lo : Int))) (hy : Fo F y = some (py, .int kk (h : Int))) (ht : ty T t = some ⟨.slice et, s, bs, z⟩) (he : ty T et = some de) (hp : q = true → px = true) (hp3 : q = true → pr = true) (hp' : q = true → py = true) (hb0 : q = true → lo ≤ h) (hb : q = true → h ≤ c) :
    Yv P C l N F o q (.slice (if c = lo then pa else pa.map (·.add (lo * de.size))) (h - lo) (c - lo)) :=
  yv_value hg fun a hF hq w hw => by
    have e0 := hF.eval hx (hp hq)
    have e1 := hF.eval hy (hp' hq)
    have e3 := hF.eval hr (hp3 hq)
    obtain ⟨dst, op, tp, pos, after, guard⟩ := o
    subst ho
    have h0 := hb0 hq
    have h1 := hb hq
    have hkk := (hT t _ ht).kind
    simp [execOp, e0, e1, e3, Instr.sliceAt, Instr.slice, Instr.sliceBounds, Instr.sliceBound, asIntOf, run_underlying hkk, (hT et _ he).sizeOf, h0, h1]
theorem yv_sliceL (hT : TabOk P T) {t et : TypeId} {x r : Operand} {px pr : Bool} {k3 : IntKind} {n c lo s bs : Nat} {z : List Value} {de : TyD} {pa : Option Addr} (hg : Gok l F o q) (ho : o.op = .slice t x (some r) none none)
    (hx : Fo F x = some (px, .slice pa n c)) (hr : Fo F r = some (pr, .int k3 (lo : Int))) (ht : ty T t = some ⟨.slice et, s, bs, z⟩) (he : ty T et = some de) (hp : q = true → px = true) (hp3 : q = true → pr = true) (hb0 : q = true → lo ≤ n) :
    Yv P C l N F o q (.slice (if c = lo then pa else pa.map (·.add (lo * de.size))) (n - lo) (c - lo)) :=
  yv_value hg fun a hF hq w hw => by
    have e0 := hF.eval hx (hp hq)
    have e3 := hF.eval hr (hp3 hq)
    obtain ⟨dst, op, tp, pos, after, guard⟩ := o
    subst ho
    have h0 := hb0 hq
    have hkk := (hT t _ ht).kind
    simp [execOp, e0, e3, Instr.sliceAt, Instr.slice, Instr.sliceBounds, Instr.sliceBound, asIntOf, run_underlying hkk, (hT et _ he).sizeOf, h0]
end
end Go.Proofs.Ytkgjfcjciigcgaa.Sl
