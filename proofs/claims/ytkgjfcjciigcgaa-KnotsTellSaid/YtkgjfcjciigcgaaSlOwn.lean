/-
  Slices that the call itself makes: nil, or a block of its own with what it holds and what it has room for; append. No program in sight.
-/
import Derived.Test.YtkgjfcjciigcgaaSlSlice
import Derived.Deep.AppendSrc
import Derived.Laws.IdiomStrings
namespace Go.Proofs.Ytkgjfcjciigcgaa.Sl
open Go.RowKit
set_option linter.unusedVariables false
attribute [local semireducible] GC GE GL GQ

/-- The address of a block. -/
@[reducible] def ad (g : Nat) : Addr := ⟨g, 0, none⟩
/-- What is known of it: nothing of nil. -/
def ow (p : Option Nat) (b : Bool) (cs : List Value) (e : TypeId) : Kl := match p with
  | none => []
  | some g => [(g, b, .cells cs.toArray e (0, 0))]
/-- n elements of k cells, room for c. -/
structure Ow (p : Option Nat) (n c k : Nat) (xs sp : List Value) : Prop where
  len : xs.length = n * k
  room : sp.length = (c - n) * k
  le : n ≤ c
  nil : p = none → c = 0

theorem Ow.none0 {k : Nat} : Ow none 0 0 k [] [] := ⟨by simp, by simp, Nat.le_refl _, fun _ => rfl⟩

/-- K holds such a slice, and Kx besides. -/
inductive Oa : Kl → Option Nat → List Value → TypeId → Kl → Prop
  | nil {K : Kl} {cs : List Value} {e : TypeId} : Oa K none cs e K
  | hd {K : Kl} {p : Option Nat} {cs : List Value} {e : TypeId} : Oa (ow p true cs e ++ K) p cs e K
  | one {K : Kl} {g : Nat} {cs : List Value} {e : TypeId} : Oa ((g, true, .cells cs.toArray e (0, 0)) :: K) (some g) cs e K
  | tl {K Kx : Kl} {p : Option Nat} {cs : List Value} {e : TypeId} {x : Nat × Bool × Obj} : Oa K p cs e Kx → Oa (x :: K) p cs e (x :: Kx)
  | app {L K Kx : Kl} {p : Option Nat} {cs : List Value} {e : TypeId} : Oa K p cs e Kx → Oa (L ++ K) p cs e (L ++ Kx)

section
variable {P : Program} {T : Tab} {N : Nat} {F : Fl} {a : Act} {l : List Oper} {o : Oper} {q : Bool} {C : World → Prop} {Q : Exit → Act → World → Prop} {w0 W : World} {M : List Nat} {K K' Kx : Kl} {rest : List Oper} {d : Nat} {v : Value} {p : Option Nat} {cs : List Value} {e : TypeId}

theorem Oa.self {p : Option Nat} {cs : List Value} {e : TypeId} : Oa (ow p true cs e) p cs e [] := by
  have := Oa.hd (K := []) (p := p) (cs := cs) (e := e)
  rwa [List.append_nil] at this
theorem St.perm (h : St w0 M K W) (hp : K.Perm K') : St w0 M K' W :=
  ⟨h.os, h.tape, h.output, h.size, h.frame, fun x hx => h.known x (hp.mem_iff.2 hx), fun x hx => h.wr x (hp.mem_iff.2 hx), hp.pairwise h.apart (fun hxy => hxy.symm), h.dr⟩
theorem Oa.perm (h : Oa K p cs e Kx) : K.Perm (ow p true cs e ++ Kx) ∨ (p = none ∧ K = Kx) := by
  induction h with
  | nil => exact .inr ⟨rfl, rfl⟩
  | hd => exact .inl (List.Perm.refl _)
  | one => exact .inl (List.Perm.refl _)
  | @tl K Kx p cs e x h ih =>
    rcases ih with ih | ⟨rfl, rfl⟩
    · exact .inl ((ih.cons x).trans (List.perm_middle (l₁ := ow p true cs e) (a := x) (l₂ := Kx)).symm)
    · exact .inr ⟨rfl, rfl⟩
  | @app L K Kx p cs e h ih =>
    rcases ih with ih | ⟨rfl, rfl⟩
    · refine .inl ((ih.append_left L).trans ?_)
      rw [← List.append_assoc, ← List.append_assoc]
      exact (List.perm_append_comm).append_right Kx
    · exact .inr ⟨rfl, rfl⟩
theorem Oa.st (h : Oa K p cs e Kx) (hW : St w0 M K W) : St w0 M (ow p true cs e ++ Kx) W := by
  rcases h.perm with hp | ⟨rfl, rfl⟩
  · exact hW.perm hp
  · exact hW

/-! ### What is appended -/
def SrcK (P : Program) (k : Nat) (tx : TypeId) (w0 : World) (M : List Nat) (K : Kl) (v : Value) (m : Nat) (news : List Value) : Prop := ∀ W, St w0 M K W → Src P k tx v m news W
theorem src_nil {t' : TypeId} {s bs k : Nat} {z : List Value} {tx : TypeId} (hT : TabOk P T) (ht : ty T tx = some ⟨.slice t', s, bs, z⟩) : SrcK P k tx w0 M K (.slice none 0 0) 0 [] := fun W _ => Src.ofNil W (hT tx _ ht).kind 0
theorem src_blk {t' : TypeId} {s bs k m c off g : Nat} {b : Bool} {z : List Value} {tx : TypeId} {cs news : List Value} {et : TypeId} {fr : Nat × Nat} (hT : TabOk P T) (ht : ty T tx = some ⟨.slice t', s, bs, z⟩) (hm : (g, b, .cells cs.toArray et fr) ∈ K) (hl : news.length = m * k)
    (hn : ∀ j, j < news.length → cs[off + j]? = news[j]?) (h1 : ∀ u ∈ news, u.oneCell' = true) : SrcK P k tx w0 M K (.slice (some ⟨g, off, none⟩) m c) m news := fun W hW =>
  Src.ofSlice W (hT tx _ ht).kind ⟨g, off, none⟩ m c news hl (fun j u hu => by
    have hj : j < news.length := (List.getElem?_eq_some_iff.1 hu).1
    have hadd : (⟨g, off, none⟩ : Addr).add j = ⟨g, off + j, none⟩ := by unfold Addr.add; split <;> simp_all
    have hb := hW.known _ hm
    simp only at hb
    rw [hadd]
    simp [World.cell?, hb, hn j hj, hu]) h1
/-- A whole block's cells. -/
theorem src_one {t' : TypeId} {s bs k m c g : Nat} {b : Bool} {z : List Value} {tx : TypeId} {cs : List Value} {et : TypeId} {fr : Nat × Nat} (hT : TabOk P T) (ht : ty T tx = some ⟨.slice t', s, bs, z⟩) (hm : (g, b, .cells cs.toArray et fr) ∈ K) (hl : cs.length = m * k)
    (h1 : ∀ u ∈ cs, u.oneCell' = true) : SrcK P k tx w0 M K (.slice (some ⟨g, 0, none⟩) m c) m cs := src_blk hT ht hm hl (fun j hj => by simp) h1
theorem src_str {s bs : Nat} {z : List Value} {tx : TypeId} {x : ByteArray} (hT : TabOk P T) (ht : ty T tx = some ⟨.string, s, bs, z⟩) : SrcK P 1 tx w0 M K (.string x) x.size (byteCells x) := fun W _ => Src.ofString W (hT tx _ ht).kind x

theorem zeroCells_eq (z : List Value) (n : Nat) : Builtin.zeroCells z.toArray n = (repZ n z).toArray := by
  rcases Nat.eq_zero_or_pos z.length with h0 | h0
  · have : z = [] := List.eq_nil_of_length_eq_zero h0
    subst this
    have : repZ n [] = [] := List.eq_nil_of_length_eq_zero (by rw [repZ_length]; simp)
    simp [Builtin.zeroCells, this]
  · unfold Builtin.zeroCells
    apply Array.ext_getElem?
    intro j
    have hl := repZ_length z n
    by_cases hj : j < n * z.length
    · have := repZ_get z h0 n j hj
      have hm : j % z.length < z.length := Nat.mod_lt _ h0
      simp [hj, this, hm]
    · simp [hj]
      omega

theorem ev_append (hT : TabOk P T) {R : Value → Kl → Prop} {t tx : TypeId} {x y : Operand} {n c m s bs : Nat} {z : List Value} {de : TyD} {xs sp news : List Value} {pa : Option Addr} (hg : o.guard = none) (ho : o.op = .call ⟨.builtin .append, #[x, y], #[t, tx]⟩)
    (ht : ty T t = some ⟨.slice e, s, bs, z⟩) (he : ty T e = some de) (hz : de.zero.length = de.size) (hx : Fo F x = some (true, .slice pa n c)) (hpa : pa = p.map ad) (hy : Fo F y = some (true, v)) (hk : Oa K p (xs ++ sp) e Kx) (hw : Ow p n c de.size xs sp)
    (hs : SrcK P de.size tx w0 M K v m news) (hlim : (n + m) * de.bytes ≤ 140737488355328) (h63 : n + m ≤ 9223372036854775807)
    (hR : ∀ p' c' sp', Ow p' (n + m) c' de.size (xs ++ news) sp' → R (.slice (p'.map ad) (n + m) c') (ow p' true ((xs ++ news) ++ sp') e ++ Kx)) : Ev P o N w0 M F K R := by
  have hR' : ∀ p' c' sp', Ow p' (n + m) c' de.size (xs ++ news) sp' → R (.slice (p'.map ad) (n + m) c') (ow p' true (xs ++ (news ++ sp')) e ++ Kx) := fun p' c' sp' h => by
    have := hR p' c' sp' h
    rwa [List.append_assoc] at this
  refine ev_run hg fun a W hF hW => ?_
  have e0 := hF.eval hx rfl
  have e1 := hF.eval hy rfl
  have hsrc := hs W hW
  have hW' := hk.st hW
  subst hpa
  obtain ⟨inf, zz, i1, i2, i3, i4, i5⟩ := (hT e de he).info
  have hkind := (hT t _ ht).kind
  rw [← i2] at hsrc
  have hnl : news.length = m * de.size := by rw [hsrc.newsLen, i2]
  obtain ⟨dst, op, tp, pos, after, guard⟩ := o
  subst ho
  have hexec : ∀ u W', (Builtin.append_ #[t, tx] tp #[.slice (p.map ad) n c, v]).run P W = .ok u W' → (execOp a.eval ⟨dst, .call ⟨.builtin .append, #[x, y], #[t, tx]⟩, tp, pos, after, guard⟩).run P W = .ok (.value u) W' := fun u W' h => by
    have hb : ∀ ats ty cs args, builtin .append ats ty cs args = (do pure (.value (← Builtin.append_ ats ty args))) := fun _ _ _ _ => rfl
    simp [execOp, resolve, invoke, e0, e1, hb, h]
  by_cases hroom : n + m ≤ c
  · cases p with
    | none =>
      have hc0 := hw.nil rfl
      subst hc0
      obtain rfl : n = 0 := by omega
      obtain rfl : m = 0 := by omega
      have hx0 : xs = [] := List.eq_nil_of_length_eq_zero (by rw [hw.len]; simp)
      have hn0 : news = [] := List.eq_nil_of_length_eq_zero (by rw [hnl]; simp)
      subst hx0 hn0
      refine ⟨_, _, _, hexec _ _ ?_, hW', by have := hR' none 0 [] (by simpa using Ow.none0); simpa [ow] using this⟩
      rcases hsrc.kind with ⟨e', hk'⟩ | hk' <;> simp [Builtin.append_, run_underlying hkind, run_underlying hk', Go.sizeOf, typeInfo, i1, hsrc.len, hsrc.cells]
    | some g =>
      have hmem : (g, true, Obj.cells (xs ++ sp).toArray e (0, 0)) ∈ ow (some g) true (xs ++ sp) e ++ Kx := by simp [ow]
      have hb := hW'.known _ hmem
      simp only at hb
      have hcl := hsrc.cells
      rw [i2] at hcl
      have hmul : (n + m) * de.size ≤ c * de.size := Nat.mul_le_mul_right _ hroom
      rw [Nat.add_mul] at hmul
      have hcn : (c - n) * de.size = c * de.size - n * de.size := Nat.sub_mul _ _ _
      have hfit : n * de.size + 0 + news.length ≤ (xs ++ sp).length := by
        rw [List.length_append, hw.len, hw.room, hnl, hcn]
        omega
      obtain ⟨W', r1, r2, r3, r4, r5, r6, r7⟩ := run_storeCells (P := P) (off := n * de.size) news 0 W (xs ++ sp) hb hfit hsrc.one
      have hcont : (xs ++ sp).take (n * de.size + 0) ++ news ++ (xs ++ sp).drop (n * de.size + 0 + news.length) = xs ++ (news ++ sp.drop (m * de.size)) := by
        rw [← hw.len, hnl]
        simp [List.drop_append]
      rw [hcont] at r7
      refine ⟨W', .slice ((some g).map ad) (n + m) c, ow (some g) true (xs ++ (news ++ sp.drop (m * de.size))) e ++ Kx, hexec _ _ ?_, ?_, hR' (some g) c (sp.drop (m * de.size)) ⟨by rw [List.length_append, hw.len, hnl, Nat.add_mul], ?_, hroom, fun h => by cases h⟩⟩
      · have hadd : ∀ j, (⟨g, 0, none⟩ : Addr).add j = ⟨g, j, none⟩ := fun j => by unfold Addr.add; split <;> simp_all
        rcases hsrc.kind with ⟨e', hk'⟩ | hk' <;> simp [Builtin.append_, run_underlying hkind, run_underlying hk', Go.sizeOf, typeInfo, i1, hsrc.len, hcl, hroom, hadd, ad, i2, r1]
      · exact hW'.set (K' := ow (some g) true (xs ++ (news ++ sp.drop (m * de.size))) e ++ Kx) (by simp only [ow, List.cons_append, List.nil_append]; exact Ku.head) r2 r3 r4 r5 r7 r6
      · rw [List.length_drop, hw.room, ← Nat.sub_mul]
        congr 1
        omega
  · have hlt : c < n + m := by omega
    have hfit : Builtin.nextslicecap (n + m) c * inf.bytes ≤ 281474976710656 := growslice_fits hlt (by rw [i3]; exact hlim)
    have hold : (Builtin.firstCells inf.size n (.slice (p.map ad) n c)).run P W.drew = .ok xs.toArray W.drew := by
      cases p with
      | none =>
        have hc0 := hw.nil rfl
        subst hc0
        obtain rfl : n = 0 := by have := hw.le; omega
        have hx0 : xs = [] := List.eq_nil_of_length_eq_zero (by rw [hw.len]; simp)
        subst hx0
        exact run_firstCells_none W.drew inf.size 0 0 0
      | some g =>
        have hmem : (g, true, Obj.cells (xs ++ sp).toArray e (0, 0)) ∈ ow (some g) true (xs ++ sp) e ++ Kx := by simp [ow]
        have hb := hW'.known _ hmem
        refine run_firstCells_some W.drew inf.size n _ n c xs (by rw [hw.len, i2]) fun j u hu => ?_
        have hj : j < xs.length := (List.getElem?_eq_some_iff.1 hu).1
        have hadd : (⟨g, 0, none⟩ : Addr).add j = ⟨g, j, none⟩ := by unfold Addr.add; split <;> simp_all
        have hb' : W.drew.heap[g]? = some (Obj.cells (xs ++ sp).toArray e (0, 0)) := hb
        rw [hadd]
        simp [World.cell?, hb', List.getElem?_append_left hj, hu]
    have hrun := run_append_grow_src (P := P) W t tx tp e inf zz hkind i1 i4 (p.map ad) n c xs hold v m news hsrc hlt (by omega) hfit
    rw [i5, zeroCells_eq] at hrun
    have hge := grownCap_ge W (n + m) c e
    generalize grownCap W (n + m) c e = c' at hrun hge
    refine ⟨_, _, (W.heap.size, true, .cells (xs ++ (news ++ repZ (c' - (n + m)) de.zero)).toArray e (0, 0)) :: Kx, hexec _ _ hrun, ?_, ?_⟩
    · have h1 := (hW'.drawn (W.drawn + 1)).alloc (.cells (xs ++ (news ++ repZ (c' - (n + m)) de.zero)).toArray e (0, 0))
      have h2 : St w0 M ((W.heap.size, true, .cells (xs ++ (news ++ repZ (c' - (n + m)) de.zero)).toArray e (0, 0)) :: Kx) (World.alloc { W with drawn := W.drawn + 1 } (.cells (xs ++ (news ++ repZ (c' - (n + m)) de.zero)).toArray e (0, 0))) := h1.drop (List.Sublist.cons_cons _ (List.sublist_append_right _ _))
      have e3 : ((xs ++ news).toArray ++ (repZ (c' - (n + m)) de.zero).toArray) = (xs ++ (news ++ repZ (c' - (n + m)) de.zero)).toArray := by simp
      rw [e3]
      exact h2
    · have := hR' (some W.heap.size) c' (repZ (c' - (n + m)) de.zero) ⟨by rw [List.length_append, hw.len, hnl, Nat.add_mul], by rw [repZ_length, hz], hge, fun h => by cases h⟩
      exact this
/-- '[]byte(s)': a new block, the bytes first. -/
theorem ev_bytes (hT : TabOk P T) {R : Value → Kl → Prop} {t t' u : TypeId} {x : Operand} {str : ByteArray} {s bs s1 b1 s2 b2 : Nat} {z z1 z2 : List Value} (hg : o.guard = none) (ho : o.op = .convert t t' x) (hx : Fo F x = some (true, .string str))
    (h1 : ty T t = some ⟨.string, s, bs, z⟩) (h2 : ty T t' = some ⟨.slice u, s1, b1, z1⟩) (h3 : ty T u = some ⟨.int .u8, s2, b2, z2⟩)
    (hR : ∀ (g c : Nat) (sp : List Value) (fr : Nat × Nat), w0.heap.size ≤ g → str.size ≤ c → R (.slice (some ⟨g, 0, none⟩) str.size c) ((g, true, .cells (byteCells str ++ sp).toArray u fr) :: K)) : Ev P o N w0 M F K R := by
  refine ev_run hg fun a W hF hW => ?_
  have e0 := hF.eval hx rfl
  obtain ⟨dst, op, tp, pos, after, guard⟩ := o
  subst ho
  have hrun := run_bytes_of_string (P := P) W t t' u str (hT t _ h1).kind (hT t' _ h2).kind (hT u _ h3).kind
  have hge := grownCap_ge W str.size 0 u
  generalize grownCap W str.size 0 u = c at hrun hge
  have e3 : bytesRow str c = (byteCells str ++ List.replicate (c - str.size) (Value.int .u8 0)).toArray := by
    unfold bytesRow byteCells
    apply Array.ext'
    simp
  rw [e3] at hrun
  obtain ⟨fr, hrun⟩ : ∃ fr : Nat × Nat, (convert t t' (.string str)).run P W = .ok (.slice (some ⟨W.heap.size, 0, none⟩) str.size c) (W.drew.alloc (.cells (byteCells str ++ List.replicate (c - str.size) (Value.int .u8 0)).toArray u fr)) := ⟨_, hrun⟩
  refine ⟨_, .slice (some ⟨W.heap.size, 0, none⟩) str.size c, _, ?_, (hW.drawn (W.drawn + 1)).alloc (.cells (byteCells str ++ List.replicate (c - str.size) (Value.int .u8 0)).toArray u fr), hR W.heap.size c (List.replicate (c - str.size) (Value.int .u8 0)) fr hW.size hge⟩
  simp [execOp, e0]
  rw [hrun]
  rfl
/-- 'x[:h]'. -/
theorem yv_sliceH (hT : TabOk P T) {t et : TypeId} {x y : Operand} {px py : Bool} {kk : IntKind} {n c h s bs : Nat} {z : List Value} {de : TyD} {pa : Option Addr} (hg : Gok l F o q) (ho : o.op = .slice t x none (some y) none)
    (hx : Fo F x = some (px, .slice pa n c)) (hy : Fo F y = some (py, .int kk (h : Int))) (ht : ty T t = some ⟨.slice et, s, bs, z⟩) (he : ty T et = some de) (hp : q = true → px = true) (hp' : q = true → py = true) (hb : q = true → h ≤ c) :
    Yv P C l N F o q (.slice pa h c) :=
  yv_value hg fun a hF hq w hw => by
    have e0 := hF.eval hx (hp hq)
    have e1 := hF.eval hy (hp' hq)
    obtain ⟨dst, op, tp, pos, after, guard⟩ := o
    subst ho
    have hb' := hb hq
    have hkk := (hT t _ ht).kind
    have hadd : ∀ a : Addr, a.add 0 = a := fun a => by simp [Addr.add]
    simp [execOp, e0, e1, Instr.sliceAt, Instr.slice, Instr.sliceBounds, Instr.sliceBound, asIntOf, run_underlying hkk, (hT et _ he).sizeOf, hadd, hb']

theorem wrap64 {n : Int} (h1 : -9223372036854775808 ≤ n) (h2 : n ≤ 9223372036854775807) : IntKind.i64.wrap n = n := by
  simp [IntKind.wrap, IntKind.signed, IntKind.bits]; omega
/-- 'append(nil, make([]E, n)...)'. -/
theorem ev_appendZ (hT : TabOk P T) {R : Value → Kl → Prop} {t tx : TypeId} {x y : Operand} {m s bs s1 b1 : Nat} {z z1 : List Value} {de : TyD} (hg : o.guard = none) (ho : o.op = .call ⟨.builtin .append, #[x, y], #[t, tx]⟩)
    (ht : ty T t = some ⟨.slice e, s, bs, z⟩) (htx : ty T tx = some ⟨.int .i64, s1, b1, z1⟩) (he : ty T e = some de) (hz : de.zero.length = de.size) (hx : Fo F x = some (true, .slice none 0 0)) {mi : Int} (hy : Fo F y = some (true, .int .i64 mi)) (hmi : mi = (m : Int))
    (h0 : 0 < m) (hlim : m * de.bytes ≤ 140737488355328) (h63 : m ≤ 9223372036854775807) (hsz : 0 < de.size)
    (hR : ∀ (g c' : Nat) (sp' : List Value), w0.heap.size ≤ g → m ≤ c' → sp'.length = c' * de.size → R (.slice (some (ad g)) m c') ((g, true, .cells sp'.toArray e (0, 0)) :: K)) : Ev P o N w0 M F K R := by
  subst hmi
  refine ev_run hg fun a W hF hW => ?_
  have e0 := hF.eval hx rfl
  have e1 := hF.eval hy rfl
  obtain ⟨inf, zz, i1, i2, i3, i4, i5⟩ := (hT e de he).info
  have hkind := (hT t _ ht).kind
  have hkind2 := (hT tx _ htx).kind
  obtain ⟨dst, op, tp, pos, after, guard⟩ := o
  subst ho
  have hexec : ∀ u W', (Builtin.append_ #[t, tx] tp #[.slice none 0 0, .int .i64 m]).run P W = .ok u W' → (execOp a.eval ⟨dst, .call ⟨.builtin .append, #[x, y], #[t, tx]⟩, tp, pos, after, guard⟩).run P W = .ok (.value u) W' := fun u W' h => by
    have hb : ∀ ats ty cs args, builtin .append ats ty cs args = (do pure (.value (← Builtin.append_ ats ty args))) := fun _ _ _ _ => rfl
    simp [execOp, resolve, invoke, e0, e1, hb, h]
  have hge := grownCap_ge W m 0 e
  have hw : IntKind.i64.wrap (m : Int) = m := wrap64 (by omega) (by omega)
  have hneg : ¬ ((m : Int) < 0) := by omega
  have hbig : ¬ ((281474976710656 : Int) < (m : Int) * (inf.bytes : Int)) := by
    rw [i3]
    have h4 : ((m * de.bytes : Nat) : Int) ≤ (140737488355328 : Nat) := Int.ofNat_le.2 hlim
    rw [Int.natCast_mul] at h4
    omega
  have hcap : Builtin.nextslicecap m 0 * inf.bytes ≤ 281474976710656 := by rw [nextslicecap_zero h0, i3]; omega
  have hcap' : ¬ (281474976710656 < Builtin.nextslicecap m 0 * inf.bytes) := by omega
  have hm0 : m ≠ 0 := by omega
  have h63' : ¬ ((9223372036854775807 : Int) < (m : Int)) := by omega
  have hs0 : m * inf.size ≠ 0 := by rw [i2]; exact Nat.mul_ne_zero hm0 (by omega)
  have hmax : IntKind.i64.max = 9223372036854775807 := rfl
  have hrun : (Builtin.append_ #[t, tx] tp #[.slice none 0 0, .int .i64 m]).run P W = .ok (.slice (some ⟨W.heap.size, 0, none⟩) m (grownCap W m 0 e)) (W.drew.alloc (.cells (repZ m de.zero ++ repZ (grownCap W m 0 e - m) de.zero).toArray e (0, 0))) := by
    have hzz := zeroCells_eq de.zero
    simp [Builtin.append_, run_underlying hkind, run_underlying hkind2, Go.sizeOf, typeInfo, Go.zeroValue, i1, i4, i5, hw, hneg, hbig, hm0, hcap', h63', hmax, hs0, run_firstCells_none, Question.forced, newRow, grownCap, asInt, asIntOf, hzz]
  refine ⟨_, _, (W.heap.size, true, .cells (repZ m de.zero ++ repZ (grownCap W m 0 e - m) de.zero).toArray e (0, 0)) :: K, hexec _ _ hrun, (hW.drawn (W.drawn + 1)).alloc _, ?_⟩
  exact hR W.heap.size (grownCap W m 0 e) _ hW.size hge (by rw [List.length_append, repZ_length, repZ_length, hz, ← Nat.add_mul]; congr 1; omega)
/-- It answers a slice of its own. -/
def RetOw (w : World) (n k : Nat) (xs : List Value) (et : TypeId) (e : Ending) (w' : World) : Prop :=
  ∃ p c sp, e = .returned (.slice (p.map ad) n c) ∧ Ow p n c k xs sp ∧ St w [] (ow p true (xs ++ sp) et) w'
theorem ow_wr {p : Option Nat} {cs : List Value} {et : TypeId} {b : Bool} : ∀ e ∈ ow p b cs et, e.2.1 = b := by
  intro e he
  cases p with
  | none => simp [ow] at he
  | some g => simp [ow] at he; subst he; rfl
theorem ev_callOw {R : Value → Kl → Prop} {f : FuncId} {args : Array Operand} {ts : Array TypeId} {vs : List Value} {ps : List Bool} {n k : Nat} {xs : List Value} {et : TypeId} (hg : o.guard = none) (ho : o.op = .call ⟨.value (.func f), args, ts⟩) (hf : Ent P f) (hv : vals F args.toList = some vs) (hc : cdl F args.toList = some ps) (hp : ps.all id = true)
    (h : ∀ W, St w0 M K W → Calls P f vs.toArray W (RetOw W n k xs et)) (hR : ∀ p c sp, Ow p n c k xs sp → R (.slice (p.map ad) n c) (ow p true (xs ++ sp) et ++ K)) : Ev P o N w0 M F K R :=
  ev_call hg ho hf hv hc hp fun W hW => (h W hW).mono fun e W' ⟨p, c, sp, h1, h2, h3⟩ => ⟨_, _, h1, hW.grow h3 (fun e he => (h3.wr e he (ow_wr e he)).resolve_right (by simp)), hR p c sp h2⟩

/-- A slice of bytes, or of what takes a cell, in memory that stays. -/
def SrcB (P : Program) (k : Nat) (tx : TypeId) (w : World) (v : Value) (n : Nat) (bs : List Value) : Prop := ∀ W, (∀ b, b < w.heap.size → W.heap[b]? = w.heap[b]?) → Src P k tx v n bs W
theorem SrcB.k {k : Nat} {tx : TypeId} {v : Value} {n : Nat} {bs : List Value} (h : SrcB P k tx w0 v n bs) : SrcK P k tx w0 [] K v n bs := fun W hW => h W (fun b hb => hW.frame b hb (by simp))
theorem srcB_blk {t' : TypeId} {s bs k m c off g : Nat} {b : Bool} {z : List Value} {tx : TypeId} {cs news : List Value} {et : TypeId} {fr : Nat × Nat} (hT : TabOk P T) (ht : ty T tx = some ⟨.slice t', s, bs, z⟩) (hW : St w0 M K W) (hm : (g, b, .cells cs.toArray et fr) ∈ K) (hl : news.length = m * k)
    (hn : ∀ j, j < news.length → cs[off + j]? = news[j]?) (h1 : ∀ u ∈ news, u.oneCell' = true) : SrcB P k tx W (.slice (some ⟨g, off, none⟩) m c) m news := fun W' hW' => by
  have hb := hW.known _ hm
  simp only at hb
  have hlt : g < W.heap.size := by
    rcases Nat.lt_or_ge g W.heap.size with h | h
    · exact h
    · rw [Array.getElem?_eq_none h] at hb; cases hb
  rw [← hW' g hlt] at hb
  refine Src.ofSlice W' (hT tx _ ht).kind ⟨g, off, none⟩ m c news hl (fun j u hu => ?_) h1
  have hj : j < news.length := (List.getElem?_eq_some_iff.1 hu).1
  have hadd : (⟨g, off, none⟩ : Addr).add j = ⟨g, off + j, none⟩ := by unfold Addr.add; split <;> simp_all
  rw [hadd]
  simp [World.cell?, hb, hn j hj, hu]
theorem srcB_ow {t' : TypeId} {s bs k m c : Nat} {z : List Value} {tx : TypeId} {xs sp : List Value} {et : TypeId} {p : Option Nat} (hT : TabOk P T) (ht : ty T tx = some ⟨.slice t', s, bs, z⟩) (hW : St w0 M K W) (ho : Oa K p (xs ++ sp) et Kx) (hw : Ow p m c k xs sp) (h1 : ∀ u ∈ xs, u.oneCell' = true) : SrcB P k tx W (.slice (p.map ad) m c) m xs := by
  cases p with
  | none =>
    have hc := hw.nil rfl
    subst hc
    obtain rfl : m = 0 := by have := hw.le; omega
    have hx0 : xs = [] := List.eq_nil_of_length_eq_zero (by rw [hw.len]; simp)
    subst hx0
    exact fun W' _ => Src.ofNil W' (hT tx _ ht).kind 0
  | some g =>
    have hW' := ho.st hW
    exact srcB_blk hT ht hW' (g := g) (off := 0) (b := true) (by simp only [ow, List.cons_append]; exact List.Mem.head _) hw.len (fun j hj => by rw [Nat.zero_add, List.getElem?_append_left hj]) h1
/-! ### reading one's own -/
theorem yv_idxO (hT : TabOk P T) {k n c i : Nat} {xs sp : List Value} (hw : Ow p n c k xs sp) {t : TypeId} {x ix : Operand} {px pi : Bool} {kk : IntKind} {et : TypeId} {dd : TyD} {s bs : Nat} {z : List Value} (hg : Gok l F o q) (ho : o.op = .indexAddr t x ix)
    (hx : Fo F x = some (px, .slice (p.map ad) n c)) (hi : Fo F ix = some (pi, .int kk (i : Int))) (ht : ty T t = some ⟨.slice et, s, bs, z⟩) (he : ty T et = some dd) (hk : dd.size = k) (hp : q = true → px = true) (hp' : q = true → pi = true) (hb : q = true → i < n) :
    Yv P C l N F o q (.pointer (some ⟨p.getD 0, i * k, none⟩)) :=
  yv_value hg fun a hF hq w hW => by
    have e0 := hF.eval hx (hp hq)
    have e1 := hF.eval hi (hp' hq)
    obtain ⟨dst, op, tp, pos, after, guard⟩ := o
    subst ho
    have hb' := hb hq
    have hkk := (hT t _ ht).kind
    cases p with
    | none => have := hw.nil rfl; have := hw.le; omega
    | some g =>
      have hadd : ∀ m, (⟨g, 0, none⟩ : Addr).add m = ⟨g, m, none⟩ := fun m => by unfold Addr.add; split <;> simp_all
      simp [execOp, e0, e1, Instr.indexAt, asIntOf, run_underlying hkk, (hT et _ he).sizeOf, hadd, hk]
      intro h; omega
theorem yv_ldO (hT : TabOk P T) {k n c off : Nat} {xs sp : List Value} (hk : Oa K p (xs ++ sp) e Kx) (hw : Ow p n c k xs sp) {t : TypeId} {x : Operand} {px : Bool} (hg : Gok l F o q) (ho : o.op = .load t x)
    (hx : Fo F x = some (px, .pointer (some ⟨p.getD 0, off, none⟩))) (hp : q = true → px = true) (hl : q = true → Lds T t xs off v) (hn : q = true → 0 < n) : Yv P (St w0 M K) l N F o q v :=
  yv_value hg fun a hF hq W hW => by
    have e0 := hF.eval hx (hp hq)
    have hn' := hn hq
    obtain ⟨dst, op, tp, pos, after, guard⟩ := o
    subst ho
    have hW' := hk.st hW
    cases p with
    | none => have := hw.nil rfl; have := hw.le; omega
    | some g =>
      have hb := hW'.known (g, true, Obj.cells (xs ++ sp).toArray e (0, 0)) (by simp [ow])
      simp only at hb
      obtain ⟨dd, vs, hd, l1, l2, l3, l4⟩ := hl hq
      have hL : Lds T t (xs ++ sp) off v := ⟨dd, vs, hd, l1, fun j hj => by
        have := l2 j hj
        have hlt : off + j < xs.length := by
          rcases Nat.lt_or_ge (off + j) xs.length with h | h
          · exact h
          · rw [List.getElem?_eq_none h, List.getElem?_eq_getElem (by omega)] at this; cases this
        rw [List.getElem?_append_left hlt]; exact this, l3, l4⟩
      simp [execOp, e0, Instr.loadAt, Instr.sureAddr, run_loadVar hT hb hL]
end
end Go.Proofs.Ytkgjfcjciigcgaa.Sl
