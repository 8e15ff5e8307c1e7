/-
  Formulas as trees: a node of package api, what it looks like in memory, and that an argument reads as one; what the plain functions over formulas answer.
-/
import Derived.Test.YtkgjfcjciigcgaaData
import Derived.Test.YtkgjfcjciigcgaaSlFlat
namespace Go.Proofs.Ytkgjfcjciigcgaa
open Go.Proofs.Ytkgjfcjciigcgaa.Sl Go.RowKit
set_option linter.unusedVariables false

inductive Node where
  | mk (kind : Int) (op name : ByteArray) (value : Val) (cell to : Cell) (kids : List Node)
instance : Inhabited Node := ⟨.mk 0 .empty .empty ⟨0, 0, .empty⟩ ⟨.empty, 0, 0⟩ ⟨.empty, 0, 0⟩ []⟩
namespace Node
def kind : Node → Int | mk k _ _ _ _ _ _ => k
def op : Node → ByteArray | mk _ o _ _ _ _ _ => o
def name : Node → ByteArray | mk _ _ n _ _ _ _ => n
def value : Node → Val | mk _ _ _ v _ _ _ => v
def cell : Node → Cell | mk _ _ _ _ c _ _ => c
def to : Node → Cell | mk _ _ _ _ _ t _ => t
def kids : Node → List Node | mk _ _ _ _ _ _ k => k
theorem ind {p : Node → Prop} (h : ∀ n : Node, (∀ x ∈ n.kids, p x) → p n) : ∀ n, p n := by
  intro n
  induction n using Node.rec (motive_2 := fun l => ∀ x ∈ l, p x) with
  | mk k o nm v c t kids ih => exact h (.mk k o nm v c t kids) ih
  | nil => rename_i x hx; cases hx
  | cons a r ih1 ih2 =>
    rename_i x hx
    rcases List.mem_cons.1 hx with rfl | hx
    · exact ih1
    · exact ih2 x hx
/-- A node's cells, where its kids lie at p, with room for c. -/
def l (n : Node) (p : Option Addr) (c : Nat) : List Value :=
  [.int .i64 n.kind, .string n.op, .string n.name, .int .i64 n.value.kind, .int .i64 n.value.n, .string n.value.s, .string n.cell.sheet, .int .i64 n.cell.col, .int .i64 n.cell.row, .string n.to.sheet, .int .i64 n.to.col, .int .i64 n.to.row, .slice p n.kids.length c]
mutual
def depth : Node → Int
  | .mk _ _ _ _ _ _ kids => depthL kids 0 + 1
def depthL : List Node → Int → Int
  | [], m => m
  | k :: ks, m => depthL ks (max m (depth k))
end
theorem depth_eq (n : Node) : n.depth = depthL n.kids 0 + 1 := by cases n; rfl
theorem depthL_eq : ∀ (l : List Node) (m : Int), depthL l m = l.foldl (fun m k => max m k.depth) m
  | [], m => rfl
  | k :: ks, m => by rw [depthL, depthL_eq ks]; rfl
mutual
def count : Node → Nat
  | .mk _ _ _ _ _ _ kids => countL kids + 1
def countL : List Node → Nat
  | [] => 0
  | k :: ks => count k + countL ks
end
theorem count_eq (n : Node) : n.count = countL n.kids + 1 := by cases n; rfl
theorem count_pos (n : Node) : 1 ≤ n.count := by rw [count_eq]; omega
theorem countL_mem : ∀ {l : List Node} {x : Node}, x ∈ l → x.count ≤ countL l
  | k :: ks, x, h => by
    rw [countL]
    rcases List.mem_cons.1 h with rfl | h
    · omega
    · have := countL_mem h; omega
theorem countL_len : ∀ l : List Node, l.length ≤ countL l
  | [] => by simp
  | k :: ks => by have := countL_len ks; have := count_pos k; rw [countL]; simp; omega
theorem kid_count {n x : Node} (h : x ∈ n.kids) : x.count < n.count := by
  have := countL_mem h
  rw [count_eq n]; omega
theorem kids_len (n : Node) : n.kids.length < n.count := by
  have := countL_len n.kids
  rw [count_eq]; omega
def headSame (a b : Node) : Bool := decide (a.kind = b.kind) && decide (a.op = b.op) && decide (a.name = b.name) && decide (a.value = b.value) && decide (a.cell = b.cell) && decide (a.to = b.to)
theorem eq_of {a b : Node} (h1 : a.kind = b.kind) (h2 : a.op = b.op) (h3 : a.name = b.name) (h4 : a.value = b.value) (h5 : a.cell = b.cell) (h6 : a.to = b.to) (h7 : a.kids = b.kids) : a = b := by
  cases a; cases b
  simp only [kind, op, name, value, cell, to, kids] at *
  subst h1 h2 h3 h4 h5 h6 h7
  rfl
end Node

def All : Nat → Prop := fun _ => True
/-- This formula, with its kids at p, lies in the memory of W, in its blocks of S alone. -/
inductive NodeR (S : Nat → Prop) (W : World) : Node → Option Addr → Prop
  | mk {n : Node} {p : Option Addr} {kp : Nat → Option Addr} {kc : Nat → Nat} (hs : SlA W 13 p n.kids.length (fun i => (n.kids.getD i default).l (kp i) (kc i))) (hS : 0 < n.kids.length → S (pb p))
      (hk : ∀ i, i < n.kids.length → NodeR S W (n.kids.getD i default) (kp i)) : NodeR S W n p

theorem NodeR.mono {S S' : Nat → Prop} {W W' : World} {n : Node} {p : Option Addr} (h : NodeR S W n p) (hS : ∀ b, S b → b < W.heap.size → S' b) (hb : ∀ b, S b → b < W.heap.size → W'.heap[b]? = W.heap[b]?) : NodeR S' W' n p := by
  induction h with
  | mk hs hs' hk ih => exact .mk (hs.mono1 fun hn => hb _ (hs' hn) (hs.lt hn)) (fun hn => hS _ (hs' hn) (hs.lt hn)) ih
theorem NodeR.blw {S : Nat → Prop} {W W' : World} {n : Node} {p : Option Addr} (h : NodeR S W n p) (hb : Bl W W') : NodeR S W' n p := h.mono (fun _ h _ => h) fun b _ hb' => hb.block b hb'
theorem NodeR.st {S : Nat → Prop} {w0 W : World} {K : Kl} {n : Node} {p : Option Addr} (h : NodeR S w0 n p) (hW : St w0 [] K W) : NodeR S W n p := h.mono (fun _ h _ => h) fun b _ hb => hW.frame b hb (by simp)
theorem NodeR.stM {S : Nat → Prop} {w0 W : World} {M : List Nat} {K : Kl} {n : Node} {p : Option Addr} (h : NodeR S w0 n p) (hW : St w0 M K W) (hM : ∀ b, S b → b ∉ M) : NodeR S W n p := h.mono (fun _ h _ => h) fun b hs hb => hW.frame b hb (hM b hs)
theorem NodeR.all {S : Nat → Prop} {W : World} {n : Node} {p : Option Addr} (h : NodeR S W n p) : NodeR All W n p := h.mono (fun _ _ _ => trivial) fun _ _ _ => rfl

theorem pick_list {α : Type} [Inhabited α] {n : Nat} {R : Nat → α → Prop} (h : ∀ i, i < n → ∃ x, R i x) : ∃ xs : List α, xs.length = n ∧ ∀ i, i < n → R i (xs.getD i default) := by
  classical
  have hc : ∃ g : Nat → α, ∀ i, i < n → R i (g i) := ⟨fun i => if hi : i < n then (h i hi).choose else default, fun i hi => by simp only [hi, dif_pos]; exact (h i hi).choose_spec⟩
  obtain ⟨g, hg⟩ := hc
  exact ⟨(List.range n).map g, by simp, fun i hi => by rw [show ((List.range n).map g).getD i default = g i by simp [List.getD, hi]]; exact hg i hi⟩

theorem rdNode {W : World} : ∀ (n : Nat) (cs : List Value), Rd tab W n 28 cs → ∃ (t : Node) (p : Option Addr) (c : Nat), cs = t.l p c ∧ NodeR All W t p := by
  intro n
  induction n using Nat.strongRecOn with
  | _ n ih =>
    intro cs h
    obtain ⟨m, rfl, hl, hf⟩ := rd_st (fs := [(3, 0), (9, 1), (9, 2), (23, 3), (25, 6), (25, 9), (26, 12)]) h rfl
    obtain ⟨a0, a1, a2, a3, a4, a5, a6, a7, a8, a9, a10, a11, a12, rfl⟩ : ∃ a0 a1 a2 a3 a4 a5 a6 a7 a8 a9 a10 a11 a12, cs = [a0, a1, a2, a3, a4, a5, a6, a7, a8, a9, a10, a11, a12] := by
      match cs, hl with
      | [a0, a1, a2, a3, a4, a5, a6, a7, a8, a9, a10, a11, a12], _ => exact ⟨a0, a1, a2, a3, a4, a5, a6, a7, a8, a9, a10, a11, a12, rfl⟩
    obtain ⟨k, h0, _⟩ := rd_i64 (hf (3, 0) (by simp) rfl) rfl
    obtain ⟨o, h1, _⟩ := rd_s (hf (9, 1) (by simp) rfl) rfl
    obtain ⟨nm, h2, _⟩ := rd_s (hf (9, 2) (by simp) rfl) rfl
    obtain ⟨v, h3, _⟩ := rdVal (hf (23, 3) (by simp) rfl)
    obtain ⟨c, h4, _⟩ := rdCell (hf (25, 6) (by simp) rfl)
    obtain ⟨t, h5, _⟩ := rdCell (hf (25, 9) (by simp) rfl)
    obtain ⟨m', p, len, cap, el, hn, h6, _, _, _, hs, hr⟩ := rd_slA (hf (26, 12) (by simp) rfl) rfl rfl (by decide)
    cases (show [a0] = _ from h0)
    cases (show [a1] = _ from h1)
    cases (show [a2] = _ from h2)
    cases (show [a3, a4, a5] = _ from h3)
    cases (show [a6, a7, a8] = _ from h4)
    cases (show [a9, a10, a11] = _ from h5)
    cases (show [a12] = _ from h6)
    obtain ⟨kids, hk, hkr⟩ := pick_list (α := Node × Option Addr × Nat) (R := fun i x => el i = x.1.l x.2.1 x.2.2 ∧ NodeR All W x.1 x.2.1) fun i hi => by
      obtain ⟨t, p, c, h1, h2⟩ := ih m' (by omega) (el i) (hr i hi)
      exact ⟨(t, p, c), h1, h2⟩
    subst hk
    have hlen : (kids.map Prod.fst).length = kids.length := by simp
    have hget : ∀ i, i < kids.length → (kids.map Prod.fst).getD i default = (kids.getD i default).1 := fun i hi => by simp [List.getD, hi]
    refine ⟨.mk k o nm v c t (kids.map Prod.fst), p, cap, by simp [Node.l, Node.kind, Node.op, Node.name, Node.value, Node.cell, Node.to, Node.kids], .mk (kp := fun i => (kids.getD i default).2.1) (kc := fun i => (kids.getD i default).2.2) ?_ (fun _ => trivial) ?_⟩
    · rw [show (Node.mk k o nm v c t (kids.map Prod.fst)).kids.length = kids.length from hlen]
      refine hs.congr fun i hi => ?_
      show el i = ((kids.map Prod.fst).getD i default).l _ _
      rw [hget i hi]
      exact (hkr i hi).1
    · intro i hi
      have hi' : i < kids.length := by rw [← hlen]; exact hi
      show NodeR All W ((kids.map Prod.fst).getD i default) _
      rw [hget i hi']
      exact (hkr i hi').2
end Go.Proofs.Ytkgjfcjciigcgaa
