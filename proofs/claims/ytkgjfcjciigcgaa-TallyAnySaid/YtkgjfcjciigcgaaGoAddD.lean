/-
  The reference's Front: what Add makes of a list of counts.
-/
import Derived.Test.YtkgjfcjciigcgaaGoChg
namespace Go.Proofs.Ytkgjfcjciigcgaa
open Go.Proofs.Ytkgjfcjciigcgaa.Sl Go.RowKit
set_option linter.unusedVariables false
set_option linter.unusedSimpArgs false
set_option linter.unusedSectionVars false
set_option maxRecDepth 100000

theorem c_cl3 {P : Prop} (h : P := by intro W_ h_; refine h_.drop ?_; repeat first | exact List.Sublist.refl _ | exact List.nil_sublist _ | apply List.Sublist.cons_cons | apply List.Sublist.cons | apply sub_app) : P := h
/-! ### objects that a call turns -/
structure ObIn (Ko : Kl) (w : World) : Prop where
  k : ∀ e ∈ Ko, w.heap[e.1]? = some e.2.2
  p : Ko.Pairwise (fun p q => p.1 ≠ q.1)
theorem Sl.St.monoM {w0 W : World} {M M' : List Nat} {K : Kl} (h : St w0 M K W) (hM : ∀ b ∈ M, b ∈ M') : St w0 M' K W := ⟨h.os, h.tape, h.output, h.size, fun b hb hn => h.frame b hb (fun hm => hn (hM b hm)), h.known, fun e he ht => (h.wr e he ht).imp id (hM _), h.apart, h.dr⟩
section
variable {P : Program} {N : Nat} {w0 W : World} {M : List Nat} {F : Fl} {K Kx : Kl} {o : Oper}
theorem ev_obj {σ : Type} {R : Value → Kl → Prop} {f : FuncId} {args : Array Operand} {ts : Array TypeId} {vs : List Value} {ps : List Bool} {Ko : Kl} {val : σ → Value} {Kn : σ → Kl} {φ : σ → Prop} (hg : o.guard = none) (ho : o.op = .call ⟨.value (.func f), args, ts⟩) (hf : Ent P f) (hv : vals F args.toList = some vs) (hc : cdl F args.toList = some ps) (hp : ps.all id = true)
    (hk : K.Perm (Ko ++ Kx)) (hw0 : ∀ e ∈ Ko, e.2.1 = true) (hwn : ∀ x, ∀ e ∈ Kn x, e.2.1 = true) (h : ∀ W, St w0 M K W → ObIn Ko W → Calls P f vs.toArray W (RetM W (Ko.map (·.1)) val Kn φ))
    (hR : ∀ x, φ x → R (val x) (Kn x ++ Kx)) : Ev P o N w0 M F K R :=
  ev_call hg ho hf hv hc hp fun W hW0 => by
    have hW := hW0.perm hk
    refine (h W hW0 ⟨fun e he => hW.known e (List.mem_append_left _ he), (List.pairwise_append.1 hW.apart).1⟩).mono fun e W' ⟨x, h1, h2, h3⟩ => ⟨val x, Kn x ++ Kx, h1, ?_, hR x h2⟩
    refine hW.over h3 (fun b hb => ?_) (hwn x) (List.sublist_append_right _ _) (fun e he hm => ?_)
    · obtain ⟨⟨b', tr, ob⟩, he, rfl⟩ := List.mem_map.1 hb
      have := hw0 _ he
      simp only at this
      subst this
      exact mem_wrs (o := ob) (List.mem_append_left _ he)
    · obtain ⟨e', he', hee⟩ := List.mem_map.1 hm
      exact (List.pairwise_append.1 hW.apart).2.2 e' he' e he hee
section
attribute [local semireducible] GC
theorem gc_partP {c : Code} {Q : Exit → Act → World → Prop} {K1 K2 : Kl} (hp : K.Perm (K1 ++ K2)) (h : ∀ W, St w0 M K W → GC P c Q N W (wrs K1) F K1) : GC P c Q N w0 M F K := fun a W hF hW => h W hW a W hF ((hW.perm hp).drop (List.sublist_append_left _ _)).base
/-- Fewer slots. -/
theorem gc_less {c : Code} {Q : Exit → Act → World → Prop} {F' : Fl} (hs : FrSub F' F) (h : GC P c Q N w0 M F' K) : GC P c Q N w0 M F K := fun a W hF hW => h a W (hF.sub hs) hW
/-- From here on some blocks alone may be written; the others are old. -/
theorem gc_part {c : Code} {Q : Exit → Act → World → Prop} {K1 : Kl} (hs : K1.Sublist K) (h : ∀ W, St w0 M K W → GC P c Q N W (wrs K1) F K1) : GC P c Q N w0 M F K := fun a W hF hW => h W hW a W hF (hW.drop hs).base
end
end
theorem permA {α : Type} (A : List α) (a b z : α) : (A ++ [a, b, z]).Perm ((z :: A) ++ [a, b]) := by
  have h1 : (A ++ [a, b, z]).Perm (A ++ (z :: [a, b])) := List.Perm.append_left A (List.perm_append_comm (l₁ := [a, b]) (l₂ := [z]))
  exact h1.trans List.perm_middle
theorem putC_cat (v : Int) (sp : List Value) : ∀ (l : List Chg) (i : Nat), i < l.length → putL (i * 4 + 3) [.int .i64 v] (cat Chg.l l ++ sp) = some (cat Chg.l (l.set i ⟨(l.getD i default).s, v⟩) ++ sp)
  | x :: r, 0, _ => by
    have e2 : cat Chg.l (x :: r) ++ sp = .int .i64 x.s.epoch :: .int .i64 x.s.rank :: .int .i64 x.s.round :: .int .i64 x.n :: (cat Chg.l r ++ sp) := by simp [cat, Chg.l, Stamp.l]
    rw [e2]
    simp [putL, cat, Chg.l, Stamp.l]
  | x :: r, i + 1, h => by
    have ih := putC_cat v sp r i (by simpa using h)
    have e1 : (i + 1) * 4 + 3 = (i * 4 + 3) + 4 := by omega
    have e2 : cat Chg.l (x :: r) ++ sp = .int .i64 x.s.epoch :: .int .i64 x.s.rank :: .int .i64 x.s.round :: .int .i64 x.n :: (cat Chg.l r ++ sp) := by simp [cat, Chg.l, Stamp.l]
    rw [e1, e2]
    have e3 : ∀ (o : Nat) (c : List Value) (a b d f : Value) (t r' : List Value), putL o c t = some r' → putL (o + 4) c (a :: b :: d :: f :: t) = some (a :: b :: d :: f :: r') := by
      intro o c a b d f t r' hr
      simp [putL, hr]
    rw [e3 _ _ _ _ _ _ _ _ ih]
    simp [cat, Chg.l, Stamp.l]
theorem own_nm {w0 W : World} {M : List Nat} {K K1 : Kl} {q : Option Nat} {X : List Value} {t : TypeId} (h : St w0 M K W) (hs : (K1 ++ ow q true X t).Sublist K) (hq : q ≠ none) : pb (q.map ad) ∉ wrs K1 := by
  cases q with
  | none => exact absurd rfl hq
  | some g =>
    intro hm
    obtain ⟨o, ho⟩ := wrs_mem hm
    have := (List.pairwise_append.1 (h.drop hs).apart).2.2 _ ho (g, true, _) (List.mem_singleton.2 rfl)
    exact this (by simp [pb, ad])
theorem ow_pos {p : Option Nat} {n c k : Nat} {xs sp : List Value} (h : Ow p n c k xs sp) (hn : 0 < n) : p ≠ none := fun e => by
  subst e
  have h1 := h.nil rfl
  have h2 := h.le
  omega
section
variable {P : Program} {T : Tab} {w0 : World} {M : List Nat} {K : Kl} {k n i cap : Nat} {p : Option Addr} {e : Nat → List Value}
theorem addA (g o m : Nat) : (⟨g, o, none⟩ : Addr).add m = ⟨g, o + m, none⟩ := by unfold Addr.add; split <;> simp_all
theorem takeA (h : SlA w0 k p n e) (hi : i ≤ n) : SlA w0 k p i e :=
  ⟨fun h0 => h.ptr (by omega), fun j hj => h.len j (by omega), fun h0 => by
    obtain ⟨l, t, fr, h1, h2⟩ := h.mem (by omega)
    exact ⟨l, t, fr, h1, fun j hj => h2 j (by omega)⟩⟩
theorem pbA (h : SlA w0 k p n e) (hn : 0 < n) (m : Nat) : p.map (·.add m) = some ⟨pb p, po p + m, none⟩ ∧ pb (p.map (·.add m)) = pb p ∧ po (p.map (·.add m)) = po p + m := by
  have hp := h.ptr hn
  have hadd := addA (pb p) (po p) m
  have hm : p.map (·.add m) = some ⟨pb p, po p + m, none⟩ := by
    generalize hq : pb p = b at *
    generalize ho : po p = o at *
    rw [hp]
    simp only [Option.map_some, hadd]
  exact ⟨hm, by rw [hm]; simp [pb], by rw [hm]; simp [po]⟩
theorem dropA (h : SlA w0 k p n e) (hi : i < n) : SlA w0 k (p.map (·.add (i * k))) (n - i) (fun j => e (i + j)) := by
  obtain ⟨l, t, fr, h1, h2⟩ := h.mem (by omega)
  obtain ⟨hm, e1, e2⟩ := pbA h (by omega) (i * k)
  refine ⟨fun _ => by rw [e1, e2]; exact hm, fun j hj => h.len _ (by omega), fun _ => ⟨l, t, fr, by rw [e1]; exact h1, fun j hj m hm => ?_⟩⟩
  rw [e2]
  have := h2 (i + j) (by omega) m hm
  rw [Nat.add_mul] at this
  rw [← this]
  congr 1
  omega
/-- A slice of old memory, appended: nil too. -/
theorem srcA {t' : TypeId} {s bs : Nat} {z : List Value} {tx : TypeId} (hT : TabOk P T) (ht : ty T tx = some ⟨.slice t', s, bs, z⟩) (h : SlA w0 k p n e) (hM : 0 < n → pb p ∉ M) (h1 : ∀ i, i < n → ∀ u ∈ e i, u.oneCell' = true) (hc : p = none → cap = 0) : SrcK P k tx w0 M K (.slice p n cap) n (elems n e).flatten := by
  cases p with
  | some g => exact src_slA hT ht h hM h1
  | none =>
    have hn : n = 0 := by
      rcases Nat.eq_zero_or_pos n with h0 | h0
      · exact h0
      · have := h.ptr h0; cases this
    subst hn
    rw [hc rfl]
    exact src_nil hT ht
theorem srcRestA {t' : TypeId} {s bs : Nat} {z : List Value} {tx : TypeId} (hT : TabOk P T) (ht : ty T tx = some ⟨.slice t', s, bs, z⟩) (h : SlA w0 k p n e) (hi : i ≤ n) (hcap : n ≤ cap) (hM : 0 < n → pb p ∉ M) (h1 : ∀ i, i < n → ∀ u ∈ e i, u.oneCell' = true) (hc : p = none → cap = 0) :
    SrcK P k tx w0 M K (.slice (if cap = i then p else p.map (·.add (i * k))) (n - i) (cap - i)) (n - i) (elems (n - i) (fun j => e (i + j))).flatten := by
  by_cases hlt : i < n
  · rw [if_neg (by omega)]
    refine srcA hT ht (dropA h hlt) (fun _ => by rw [(pbA h (by omega) (i * k)).2.1]; exact hM (by omega)) (fun j hj => h1 _ (by omega)) (fun hn => ?_)
    have := h.ptr (by omega)
    rw [this] at hn
    cases hn
  · have e0 : n - i = 0 := by omega
    rw [e0]
    refine srcA hT ht SlA.nil (fun h => absurd h (Nat.lt_irrefl 0)) (fun j hj => absurd hj (by omega)) (fun hn => ?_)
    split at hn
    · have := hc hn
      omega
    · cases p with
      | none => have := hc rfl; omega
      | some g => cases hn
theorem elemsTake {α : Type} [Inhabited α] {f : α → List Value} {l : List α} {i : Nat} (hi : i ≤ l.length) : (elems i (fun j => f (l.getD j default))).flatten = cat f (l.take i) := by
  unfold elems cat
  rw [List.flatMap_def]
  congr 1
  apply List.ext_getElem?
  intro j
  by_cases hj : j < i
  · have : j < l.length := by omega
    simp [hj, List.getD, this, List.getElem?_take]
  · simp [hj, List.getElem?_take]
theorem elemsDrop {α : Type} [Inhabited α] {f : α → List Value} {l : List α} {i : Nat} (hi : i ≤ l.length) : (elems (l.length - i) (fun j => f (l.getD (i + j) default))).flatten = cat f (l.drop i) := by
  unfold elems cat
  rw [List.flatMap_def]
  congr 1
  apply List.ext_getElem?
  intro j
  by_cases hj : j < l.length - i
  · have : i + j < l.length := by omega
    simp [hj, List.getD, this]
  · have : ¬ i + j < l.length := by omega
    simp [hj, this]
end
theorem lds_part {α : Type} [Inhabited α] {T : Tab} {f : α → List Value} {k o : Nat} {v : Value} (hf : ∀ x, (f x).length = k) {l : List α} {i : Nat} {t : TypeId} {d : TyD} (hi : i < l.length) (hd : ty T t = some d) (ho : o + d.size ≤ k) (h : Lds T t (f (l.getD i default)) o v) : Lds T t (cat f l) (i * k + o) v := by
  obtain ⟨d', vs, h1, h2, h3, h4, h5⟩ := h
  rw [hd] at h1
  cases h1
  refine ⟨d, vs, hd, h2, fun j hj => ?_, h4, h5⟩
  rw [← h3 j hj, Nat.add_assoc]
  exact cat_get hf l i (o + j) hi (by omega)
/-! ### the front's list -/
def addI (s : Stamp) : List Chg → Nat
  | [] => 0
  | x :: r => if ltOf cSt x.s s then addI s r + 1 else 0
theorem addI_le (s : Stamp) : ∀ l, addI s l ≤ l.length
  | [] => Nat.le_refl _
  | x :: r => by
    have := addI_le s r
    unfold addI
    split
    · simp; omega
    · simp
theorem addI_eq (s : Stamp) : ∀ (l : List Chg) (i : Nat), i ≤ l.length → (∀ j, j < i → ltOf cSt (l.getD j default).s s = true) → (i < l.length → ltOf cSt (l.getD i default).s s = false) → addI s l = i
  | [], i, hi, _, _ => by simp at hi; subst hi; rfl
  | x :: r, 0, _, _, h2 => by
    have := h2 (by simp)
    unfold addI
    rw [show x.s = ((x :: r).getD 0 default).s from rfl, this]
    rfl
  | x :: r, i + 1, hi, h1, h2 => by
    have h3 := h1 0 (by omega)
    have h4 := addI_eq s r i (by simpa using hi) (fun j hj => h1 (j + 1) (by omega)) (fun hlt => h2 (by simpa using hlt))
    unfold addI
    rw [show x.s = ((x :: r).getD 0 default).s from rfl, h3, if_pos rfl, h4]
def insC (l : List Chg) (s : Stamp) : List Chg := if addI s l < l.length ∧ (l.getD (addI s l) default).s = s then l else l.take (addI s l) ++ (⟨s, 0⟩ :: l.drop (addI s l))
def bumpC (l : List Chg) (i : Nat) (n : Int) : List Chg := l.set i ⟨(l.getD i default).s, (l.getD i default).n + n⟩
def addC (l : List Chg) (s : Stamp) (n : Int) : List Chg :=
  if (((insC l s).getD (addI s l) default).n + n) = 0 then (bumpC (insC l s) (addI s l) n).take (addI s l) ++ (bumpC (insC l s) (addI s l) n).drop (addI s l + 1) else bumpC (insC l s) (addI s l) n
def FrK (g : Nat) (q : Option Nat) (c : Nat) (l : List Chg) (sp : List Value) : Kl := (g, true, .cells [.slice (q.map ad) l.length c].toArray 94 (0, 0)) :: ow q true (cat Chg.l l ++ sp) 82
theorem FrK_wr (g : Nat) (q : Option Nat) (c : Nat) (l : List Chg) (sp : List Value) : ∀ e ∈ FrK g q c l sp, e.2.1 = true := by
  intro e he
  rcases List.mem_cons.1 he with rfl | he
  · rfl
  · exact ow_wr e he
abbrev FS := Option Nat × Nat × List Value
def RetF (w : World) (g : Nat) (q : Option Nat) (c : Nat) (l : List Chg) (sp : List Value) (l' : List Chg) : Ending → World → Prop :=
  RetM w ((FrK g q c l sp).map (·.1)) (fun _ : FS => .tuple #[]) (fun y => FrK g y.1 y.2.1 l' y.2.2) (fun y => Ow y.1 l'.length y.2.1 4 (cat Chg.l l') y.2.2)
theorem insC_new {l : List Chg} {s : Stamp} {i : Nat} (hai : addI s l = i) (h : ¬ (i < l.length ∧ (l.getD i default).s = s)) : insC l s = l.take i ++ (⟨s, 0⟩ :: l.drop i) := by
  unfold insC
  rw [hai, if_neg h]
theorem insC_old {l : List Chg} {s : Stamp} {i : Nat} (hai : addI s l = i) (h : i < l.length ∧ (l.getD i default).s = s) : insC l s = l := by
  unfold insC
  rw [hai, if_pos h]
theorem insC_at {l : List Chg} {s : Stamp} : addI s l < (insC l s).length ∧ (insC l s).length ≤ l.length + 1 ∧ (((insC l s).getD (addI s l) default) = ⟨s, 0⟩ ∨ ((insC l s).getD (addI s l) default) ∈ l) := by
  have hle := addI_le s l
  by_cases h : addI s l < l.length ∧ (l.getD (addI s l) default).s = s
  · rw [insC_old rfl h]
    exact ⟨h.1, by omega, Or.inr (getD_mem l _ h.1)⟩
  · rw [insC_new rfl h]
    refine ⟨by simp; omega, by simp; omega, Or.inl ?_⟩
    simp [List.getD, List.getElem?_append, hle]
end Go.Proofs.Ytkgjfcjciigcgaa
