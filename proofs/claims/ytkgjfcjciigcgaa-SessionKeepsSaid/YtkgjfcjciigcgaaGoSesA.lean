/-
  Sessions in memory: what the program's and the reference's methods do to theirs. First: what they are, copying, telling.
-/
import Derived.Test.YtkgjfcjciigcgaaGoSesM
import Derived.Test.YtkgjfcjciigcgaaSlMod
namespace Go.Proofs.Ytkgjfcjciigcgaa
open Go.Proofs.Ytkgjfcjciigcgaa.Sl Go.RowKit
set_option linter.unusedVariables false
set_option linter.unusedSimpArgs false
set_option linter.unusedSectionVars false
set_option maxRecDepth 100000

/-! ### blocks, picked out -/
namespace Sl
inductive Pk (A : Kl) : Kl → Kl → Prop
  | hd {K : Kl} : Pk A (A ++ K) K
  | fin : Pk A A []
  | tl {x : Nat × Bool × Obj} {K Kx : Kl} : Pk A K Kx → Pk A (x :: K) (x :: Kx)
  | app {L K Kx : Kl} : Pk A K Kx → Pk A (L ++ K) (L ++ Kx)
theorem Pk.perm {A K Kx : Kl} (h : Pk A K Kx) : K.Perm (A ++ Kx) := by
  induction h with
  | hd => exact List.Perm.refl _
  | fin => rw [List.append_nil]
  | @tl x K Kx h ih => exact (ih.cons x).trans List.perm_middle.symm
  | @app L K Kx h ih =>
    refine (ih.append_left L).trans ?_
    rw [← List.append_assoc, ← List.append_assoc]
    exact List.perm_append_comm.append_right Kx
inductive Pk1 (x : Nat × Bool × Obj) : Kl → Kl → Prop
  | hd {K : Kl} : Pk1 x (x :: K) K
  | tl {y : Nat × Bool × Obj} {K Kx : Kl} : Pk1 x K Kx → Pk1 x (y :: K) (y :: Kx)
  | app {L K Kx : Kl} : Pk1 x K Kx → Pk1 x (L ++ K) (L ++ Kx)
theorem Pk1.perm {x : Nat × Bool × Obj} {K Kx : Kl} (h : Pk1 x K Kx) : K.Perm (x :: Kx) := by
  induction h with
  | hd => exact List.Perm.refl _
  | @tl y K Kx h ih => exact (ih.cons y).trans (List.Perm.swap x y Kx)
  | @app L K Kx h ih => exact (ih.append_left L).trans List.perm_middle
inductive Sel : Kl → Kl → Prop
  | nil {K : Kl} : Sel [] K
  | cons {x : Nat × Bool × Obj} {B K Kx : Kl} : Pk1 x K Kx → Sel B Kx → Sel (x :: B) K
  | app {A B K Kx : Kl} : Pk A K Kx → Sel B Kx → Sel (A ++ B) K
theorem Sel.perm {A K : Kl} (h : Sel A K) : ∃ Kx, K.Perm (A ++ Kx) := by
  induction h with
  | @nil K => exact ⟨K, List.Perm.refl _⟩
  | @cons x B K Kx h _ ih =>
    obtain ⟨Ky, hy⟩ := ih
    exact ⟨Ky, h.perm.trans (hy.cons x)⟩
  | @app A B K Kx h _ ih =>
    obtain ⟨Ky, hy⟩ := ih
    exact ⟨Ky, h.perm.trans (by rw [List.append_assoc]; exact hy.append_left A)⟩
theorem Sel.st {A K : Kl} {w0 W : World} {M : List Nat} (h : Sel A K) (hW : St w0 M K W) : St w0 M A W := by
  obtain ⟨Kx, hx⟩ := h.perm
  exact (hW.perm hx).drop (List.sublist_append_left _ _)
theorem c_sel {P : Prop} (h : P := by repeat first | exact Sel.nil | (refine Sel.cons (by repeat first | exact Pk1.hd | apply Pk1.tl | apply Pk1.app) ?_) | (refine Sel.app (by repeat first | exact Pk.hd | exact Pk.fin | apply Pk.tl | apply Pk.app) ?_)) : P := h
end Sl

/-! ### what does not change any more -/
/-- A row of cells in memory outside X. -/
structure Im (w : World) (X : List Nat) (p : Option Addr) (l : List Shown) : Prop where
  sl : SlA w 6 p l.length (fun j => (l.getD j default).l)
  nm : 0 < l.length → pb p ∉ X
  le : l.length ≤ 1000
theorem Im.st {w0 W : World} {M X : List Nat} {K : Kl} {p : Option Addr} {l : List Shown} (h : Im w0 X p l) (hW : St w0 M K W) (hM : ∀ b ∈ M, b ∈ X) : SlA W 6 p l.length (fun j => (l.getD j default).l) :=
  h.sl.stm (fun hn hm => h.nm hn (hM _ hm)) hW
theorem Im.keep {w0 W : World} {M X X' : List Nat} {K : Kl} {p : Option Addr} {l : List Shown} (h : Im w0 X p l) (hW : St w0 M K W) (hM : ∀ b ∈ M, b ∈ X) (hX : ∀ b ∈ X', b ∈ X ∨ w0.heap.size ≤ b) : Im W X' p l :=
  ⟨h.st hW hM, fun hn hm => by
    rcases hX _ hm with h1 | h1
    · exact h.nm hn h1
    · have := h.sl.lt hn
      omega, h.le⟩
theorem Im.anti {w : World} {X X' : List Nat} {p : Option Addr} {l : List Shown} (h : Im w X p l) (hX : ∀ b ∈ X', b ∈ X) : Im w X' p l := ⟨h.sl, fun hn hm => h.nm hn (hX _ hm), h.le⟩
theorem Im.nil {w : World} {X : List Nat} {p : Option Addr} : Im w X p [] := ⟨⟨fun h => absurd h (Nat.lt_irrefl 0), fun i hi => absurd hi (Nat.not_lt_zero _), fun h => absurd h (Nat.lt_irrefl 0)⟩, fun h => absurd h (Nat.lt_irrefl 0), by simp⟩
/-- It is new. -/
def Nw (w : World) (p : Option Nat) : Prop := ∀ g, p = some g → w.heap.size ≤ g
theorem Nw.none {w : World} : Nw w none := fun g h => by cases h
theorem Nw.of {w0 W : World} {M : List Nat} {K : Kl} {p : Option Nat} (h : Nw W p) (hW : St w0 M K W) : Nw w0 p := fun g hg => Nat.le_trans hW.size (h g hg)
theorem pb_map {p : Option Nat} {g : Nat} (h : p = some g) : pb (p.map ad) = g := by subst h; simp [pb, ad]
/-- What the call has made, and writes no more. -/
theorem Im.new {w0 W : World} {M X : List Nat} {K : Kl} {p q : Option Nat} {l : List Shown} {c : Nat} {sp Y : List Value} {t : TypeId} (hW : St w0 M K W) (hs : Sel (ow q true Y t ++ (ow p true (cat Shown.l l ++ sp) 120 ++ [])) K) (hw : Ow p l.length c 6 (cat Shown.l l) sp) (hn : Nw w0 p) (hX : ∀ b ∈ X, b < w0.heap.size) (hl : l.length ≤ 1000) : Im W (q.toList ++ X) (p.map ad) l := by
  have h := hs.st hW
  refine ⟨slA_cat len_shown rfl h (Oa.app Oa.hd) hw, fun h0 hm => ?_, hl⟩
  have hp := ow_some hw h0
  cases p with
  | none => exact hp rfl
  | some g =>
    rw [pb_map rfl] at hm
    rcases List.mem_append.1 hm with hm | hm
    · cases q with
      | none => cases hm
      | some g' =>
        simp at hm
        subst hm
        have := h.apart
        simp [ow] at this
    · have := hX _ hm
      have := hn g rfl
      omega
section
variable {N : Nat} {w0 W : World} {M : List Nat} {F : Fl} {K Kx : Kl} {o : Oper} {P : Program} {l : List Oper} {Q : Exit → Act → World → Prop} {rest : List Oper}
theorem Sl.ev_callOwN {R : Value → Kl → Prop} {f : FuncId} {args : Array Operand} {ts : Array TypeId} {vs : List Value} {ps : List Bool} {n k : Nat} {xs : List Value} {et : TypeId} (hg : o.guard = none) (ho : o.op = .call ⟨.value (.func f), args, ts⟩) (hf : Ent P f) (hv : vals F args.toList = some vs) (hc : cdl F args.toList = some ps) (hp : ps.all id = true)
    (h : ∀ W, St w0 M K W → Calls P f vs.toArray W (RetOw W n k xs et)) (hR : ∀ p c sp, Ow p n c k xs sp → Nw w0 p → R (.slice (p.map ad) n c) (ow p true (xs ++ sp) et ++ K)) : Ev P o N w0 M F K R :=
  ev_call hg ho hf hv hc hp fun W hW => (h W hW).mono fun e W' ⟨p, c, sp, h1, h2, h3⟩ => ⟨_, _, h1, hW.grow h3 (fun e he => (h3.wr e he (ow_wr e he)).resolve_right (by simp)), hR p c sp h2 (fun g hg => by
    subst hg
    exact Nat.le_trans hW.size ((h3.wr (g, true, .cells (xs ++ sp).toArray et (0, 0)) (by simp [ow]) rfl).resolve_right (by simp)))⟩
end
theorem elemsAllS {α : Type} [Inhabited α] {f : α → List Value} {l : List α} : (elems l.length (fun j => f (l.getD j default))).flatten = cat f l := by
  unfold elems cat
  rw [List.flatMap_def]
  congr 1
  apply List.ext_getElem?
  intro j
  by_cases hj : j < l.length
  · simp [hj, List.getD]
  · simp [hj]
/-- slices.Clone of a row of cells. -/
theorem ct_CloneS (l : List Shown) (p : Option Addr) (n cap : Nat) (w : World) (hn : n = l.length) (hs : SlA w 6 p n (fun i => (l.getD i default).l)) (hl : n ≤ 1000) : Calls Try.prog 147 #[.slice p n cap] w (RetOw w n 6 (cat Shown.l l) 120) := by
  rcases p with _ | a
  · have h0 : n = 0 := by
      rcases Nat.eq_zero_or_pos n with h | h
      · exact h
      · have := hs.ptr h; cases this
    subst h0
    have : l = [] := List.eq_nil_of_length_eq_zero hn.symm
    subst this
    refine enter (args := [_]) (M := []) (K := []) Try.func147 rfl Try.ntmps147 rfl (St.refl _ _) ?_
    repeat' first
      | (refine gl_gate ?_; first
        | refine gl_nil ?_
        | (refine gl_any0 ?_; refine gl_pure tab_ok rfl rfl rfl rfl rfl rfl ?_))
      | (refine gc_gate ?_; first
        | refine gc_seq ?_
        | refine gc_region ?_
        | refine gc_true rfl ?_
        | refine gc_ret ?_)
      | (refine ge_gate ?_; first
        | ((with_reducible refine ge_gT ?_); first | with_reducible refine ge_then ?_ | with_reducible refine ge_then_exit ?_ | with_reducible refine ge_then_ret ?_)
        | ((with_reducible refine ge_gB ?_); first | refine ge_ret1 tab_ok rfl c_rvt ?_ | refine ge_end1 tab_ok rfl c_rvt ?_ | refine ge_ret2 tab_ok rfl c_rvt c_rvt ?_ | refine ge_ret_none rfl ?_ | refine ge_end_none rfl ?_))
    intro W hW
    exact ⟨none, 0, [], rfl, Ow.none0, hW⟩
  · have hel : (elems n (fun i => (l.getD i default).l)).flatten = cat Shown.l l := by
      rw [hn]
      exact elemsAllS
    refine enter (args := [_]) (M := []) (K := []) Try.func147 rfl Try.ntmps147 rfl (St.refl _ _) ?_
    repeat' first
      | (refine gl_gate ?_; first
        | refine gl_nil ?_
        | (refine gl_any0 ?_; (refine gl_ev (ev_buildSlice0 tab_ok rfl rfl rfl rfl ?_) rfl rfl; intro g_ hg_))
        | (refine gl_app0 ?_; (refine gl_ev (ev_append tab_ok rfl rfl rfl rfl rfl rfl rfl rfl c_oa ((Ow.some0 (g := g_) (k := 6))) (src_slA tab_ok rfl hs (fun _ => List.not_mem_nil) (fun i _ => ones_of rfl)) c_lim c_lim ?_) rfl rfl; intro p_ c_ sp_ hw_))
        | (refine gl_any0 ?_; refine gl_pure tab_ok rfl rfl rfl rfl rfl rfl ?_))
      | (refine gc_gate ?_; first
        | refine gc_seq ?_
        | refine gc_region ?_
        | refine gc_false rfl ?_
        | refine gc_ret ?_
        | refine gc_skip ?_)
      | (refine ge_gate ?_; first
        | ((with_reducible refine ge_gT ?_); first | with_reducible refine ge_then ?_ | with_reducible refine ge_then_exit ?_ | with_reducible refine ge_then_ret ?_)
        | ((with_reducible refine ge_gB ?_); first | refine ge_ret1 tab_ok rfl c_rvt ?_ | refine ge_end1 tab_ok rfl c_rvt ?_ | refine ge_ret2 tab_ok rfl c_rvt c_rvt ?_ | refine ge_ret_none rfl ?_ | refine ge_end_none rfl ?_))
    intro W hW
    rw [Nat.zero_add] at hw_
    rw [hel] at hw_ hW
    exact ⟨p_, c_, sp_, by simp, by simpa using hw_, by simpa using hW.drop (List.sublist_append_left _ _)⟩

/-! ### sessions -/
structure SX where
  wt : Bool
  bh : Bool
  a : Cell
  b : Cell
  saw : Vw
  l : List RP
def SX.sg (s : SX) : SG := ⟨s.wt, s.bh, s.a, s.b, s.saw.xs, s.l.map RP.rep⟩
def SX.cP (s : SX) (q : Option Nat) (c : Nat) : List Value := [.bool s.wt, .bool s.bh, .string s.a.sheet, .int .i64 s.a.col, .int .i64 s.a.row, .string s.b.sheet, .int .i64 s.b.col, .int .i64 s.b.row, .slice s.saw.p s.saw.xs.length s.saw.c, .slice (q.map ad) s.l.length c]
def SX.cR (s : SX) (q : Option Nat) (c : Nat) : List Value := [.bool s.wt, .string s.a.sheet, .int .i64 s.a.col, .int .i64 s.a.row, .string s.b.sheet, .int .i64 s.b.col, .int .i64 s.b.row, .slice s.saw.p s.saw.xs.length s.saw.c, .bool s.bh, .slice (q.map ad) s.l.length c]
def SX.cs (s : SX) (k : Bool) (q : Option Nat) (c : Nat) : List Value := bif k then s.cP q c else s.cR q c
def SX.K (s : SX) (k : Bool) (g : Nat) (q : Option Nat) (c : Nat) (sp : List Value) (K2 : Kl) : Kl := (g, true, .cells (s.cs k q c).toArray (bif k then 59 else 139) (0, 0)) :: (ow q true (cat RP.l s.l ++ sp) 65 ++ K2)
def SX.tl (s : SX) (x : RP) : SX := if s.l.length < 8 then { s with l := s.l ++ [x] } else { s with bh := true }
theorem SX.tl_sg (s : SX) (x : RP) : (s.tl x).sg = s.sg.tell x.rep := by
  unfold SG.tell SX.sg SX.tl
  simp only [List.length_map]
  split <;> simp
theorem SX.tl_le (s : SX) (x : RP) (h : s.l.length ≤ 8) : (s.tl x).l.length ≤ 8 := by
  unfold SX.tl
  split
  · rename_i h2
    simp
    omega
  · exact h
theorem SX.tl_saw (s : SX) (x : RP) : (s.tl x).saw = s.saw := by unfold SX.tl; split <;> rfl
theorem SX.tl_mem {s : SX} {x r : RP} (h : r ∈ (s.tl x).l) : r ∈ s.l ∨ (r = x ∧ s.l.length < 8) := by
  unfold SX.tl at h
  split at h
  · rename_i h8
    rcases List.mem_append.1 h with h | h
    · exact Or.inl h
    · exact Or.inr ⟨List.mem_singleton.1 h, h8⟩
  · exact Or.inl h
def blks (g : Nat) (q : Option Nat) : List Nat := g :: q.toList
theorem SX.K_app (s : SX) (k : Bool) (g : Nat) (q : Option Nat) (c : Nat) (sp : List Value) (K : Kl) : s.K k g q c sp [] ++ K = s.K k g q c sp K := by simp [SX.K]
theorem SX.K_wr (s : SX) (k : Bool) (g : Nat) (q : Option Nat) (c : Nat) (sp : List Value) : ∀ e ∈ s.K k g q c sp [], e.2.1 = true := by
  intro e he
  unfold SX.K at he
  rw [List.append_nil] at he
  rcases List.mem_cons.1 he with rfl | he
  · rfl
  · exact ow_wr e he
theorem SX.K_map (s : SX) (k : Bool) (g : Nat) (q : Option Nat) (c : Nat) (sp : List Value) : (s.K k g q c sp []).map (·.1) = blks g q := by
  unfold SX.K blks
  rw [List.append_nil]
  cases q <;> rfl
/-- It lies in w. -/
structure SLi (k : Bool) (s : SX) (g : Nat) (q : Option Nat) (c : Nat) (sp : List Value) (w : World) : Prop where
  kn : ∀ e ∈ s.K k g q c sp [], w.heap[e.1]? = some e.2.2
  ap : (s.K k g q c sp []).Pairwise (fun p q => p.1 ≠ q.1)
  ow : Ow q s.l.length c 4 (cat RP.l s.l) sp
inductive Sa (k : Bool) (s : SX) (g : Nat) (q : Option Nat) (c : Nat) (sp : List Value) : Kl → Kl → Prop
  | hd {K : Kl} : Sa k s g q c sp (s.K k g q c sp K) K
  | tl {K Kx : Kl} {x : Nat × Bool × Obj} : Sa k s g q c sp K Kx → Sa k s g q c sp (x :: K) (x :: Kx)
  | app {L K Kx : Kl} : Sa k s g q c sp K Kx → Sa k s g q c sp (L ++ K) (L ++ Kx)
theorem Sa.perm {k : Bool} {s : SX} {g : Nat} {q : Option Nat} {c : Nat} {sp : List Value} {K Kx : Kl} (h : Sa k s g q c sp K Kx) : K.Perm (s.K k g q c sp [] ++ Kx) := by
  induction h with
  | hd => rw [SX.K_app]
  | @tl K Kx x h ih => exact (ih.cons x).trans List.perm_middle.symm
  | @app L K Kx h ih =>
    refine (ih.append_left L).trans ?_
    rw [← List.append_assoc, ← List.append_assoc]
    exact List.perm_append_comm.append_right Kx
theorem c_sa {P : Prop} (h : P := by repeat first | exact Sa.hd | apply Sa.tl | apply Sa.app) : P := h
theorem SLi.of {k : Bool} {s : SX} {g : Nat} {q : Option Nat} {c : Nat} {sp : List Value} {w0 W : World} {M : List Nat} {K Kx : Kl} (hW : St w0 M K W) (hk : Sa k s g q c sp K Kx) (ho : Ow q s.l.length c 4 (cat RP.l s.l) sp) : SLi k s g q c sp W := by
  have hW := hW.perm hk.perm
  exact ⟨fun e he => hW.known e (List.mem_append_left _ he), (List.pairwise_append.1 hW.apart).1, ho⟩
section
variable {N : Nat} {w0 W : World} {M : List Nat} {F : Fl} {K Kx : Kl} {o : Oper}
/-- A method called: what it leaves in place of the session. -/
theorem ev_ses {σ : Type} {R : Value → Kl → Prop} {f : FuncId} {args : Array Operand} {ts : Array TypeId} {vs : List Value} {ps : List Bool} {k : Bool} {s : SX} {g : Nat} {q : Option Nat} {c : Nat} {sp : List Value} {val : σ → Value} {Kn : σ → Kl} {φ : World → σ → Prop} (hg : o.guard = none) (ho : o.op = .call ⟨.value (.func f), args, ts⟩) (hf : Ent Try.prog f) (hv : vals F args.toList = some vs) (hc : cdl F args.toList = some ps) (hp : ps.all id = true)
    (hk : Sa k s g q c sp K Kx) (hw : Ow q s.l.length c 4 (cat RP.l s.l) sp) (h : ∀ W, St w0 M K W → SLi k s g q c sp W → Calls Try.prog f vs.toArray W (RetM W (blks g q) val Kn (φ W))) (hKw : ∀ y, ∀ e ∈ Kn y, e.2.1 = true)
    (hR : ∀ W y, St w0 M K W → φ W y → R (val y) (Kn y ++ Kx)) : Ev Try.prog o N w0 M F K R :=
  ev_call hg ho hf hv hc hp fun W hW0 => by
    refine (h W hW0 (SLi.of hW0 hk hw)).mono fun e W' ⟨y, h1, h2, h3⟩ => ⟨_, _, h1, ?_, hR W y hW0 h2⟩
    have hW := hW0.perm hk.perm
    have hap := hW.apart
    refine hW.over h3 (fun b hb => ?_) (hKw y) (List.sublist_append_right _ _) (fun e he hm => ?_)
    · rw [← s.K_map k g q c sp] at hb
      obtain ⟨⟨b', tr, ob⟩, he, rfl⟩ := List.mem_map.1 hb
      have := SX.K_wr _ _ _ _ _ _ _ he
      simp only at this
      subst this
      exact mem_wrs (o := ob) (List.mem_append_left _ he)
    · rw [← s.K_map k g q c sp] at hm
      obtain ⟨e', he', hee⟩ := List.mem_map.1 hm
      exact (List.pairwise_append.1 hap).2.2 e' he' e he hee
end
end Go.Proofs.Ytkgjfcjciigcgaa
