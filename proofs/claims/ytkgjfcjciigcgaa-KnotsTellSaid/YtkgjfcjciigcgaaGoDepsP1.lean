/-
  deps.New: which cells hang on which, in memory.
-/
import Derived.Test.YtkgjfcjciigcgaaGoDepsP0
import Derived.Test.YtkgjfcjciigcgaaGoCells
namespace Go.Proofs.Ytkgjfcjciigcgaa
open Go.Proofs.Ytkgjfcjciigcgaa.Sl Go.RowKit
set_option linter.unusedVariables false
set_option linter.unusedSimpArgs false
set_option linter.unusedSectionVars false
set_option maxRecDepth 100000

def idV (v : Value) : Value := v
def nilS : Value := .slice none 0 0
theorem zero_cells (w : World) : (zeroValue 44).run Try.prog w = .ok (idV nilS) w := Try.zeroValue44 w
def RowV (W : World) (v : Value) (xs : List Cell) : Prop := ∃ p c, v = .slice p xs.length c ∧ SlA W 3 p xs.length (fun i => (xs.getD i default).l)
structure DpP (W : World) (l : List En) (g : Nat) : Prop where
  ex : ∃ (p : Option Addr) (c gr gf : Nat) (mr mf : List (Cell × Value)) (er ef : Array MapEntry) (kr kf : Nat),
    W.heap[g]? = some (.cells [.slice p (dC l).length c, .map (some gr), .map (some gf)].toArray 207 (0, 0)) ∧ SlA W 3 p (dC l).length (fun i => ((dC l).getD i default).l) ∧
    (W.heap[gr]? = some (.map er kr) ∧ Mp kCell idV mr er kr ∧ ∀ x, RowV W (mgetD mr x nilS) (rdD l x)) ∧
    (W.heap[gf]? = some (.map ef kf) ∧ Mp kCell idV mf ef kf ∧ ∀ x, RowV W (mgetD mf x nilS) (rrD l x))
/-! ### while it is made -/
structure NwS where
  mr : List (Cell × Value)
  er : Array MapEntry
  kr : Nat
  mf : List (Cell × Value)
  ef : Array MapEntry
  kf : Nat
  R : Cell → Rw Cell
  F : Cell → Rw Cell
structure NwOk (l : List En) (i j : Nat) (s : NwS) : Prop where
  mr : Mp kCell idV s.mr s.er s.kr
  mf : Mp kCell idV s.mf s.ef s.kf
  gr : ∀ x, mgetD s.mr x nilS = (s.R x).v
  gf : ∀ x, mgetD s.mf x nilS = (s.F x).v
  ro : ∀ x, (s.R x).Ow Cell.l 3
  fo : ∀ x, (s.F x).Ow Cell.l 3
  rx : ∀ x, (s.R x).xs = RX l i j x
  fx : ∀ x, (s.F x).xs = FX l i j x
def nwS0 : NwS := ⟨[], #[], 0, [], #[], 0, fun _ => Rw.none, fun _ => Rw.none⟩
theorem NwOk.start (l : List En) : NwOk l 0 0 nwS0 :=
  ⟨Mp.nil, Mp.nil, fun _ => rfl, fun _ => rfl, fun _ => Rw.none_Ow, fun _ => Rw.none_Ow, fun x => (RX_zero l x).symm, fun x => (FX_zero l x).symm⟩
section
variable {l : List En} {i j : Nat} {s : NwS}
theorem NwOk.no (h : NwOk l i j s) (hj : j < (cR l ((dC l).getD i default)).length) (hy : (cR l ((dC l).getD i default)).getD j default ∉ dC l) : NwOk l i (j + 1) s :=
  ⟨h.mr, h.mf, h.gr, h.gf, h.ro, h.fo, fun x => by rw [RX_no hj hy]; exact h.rx x, fun x => by rw [FX_no hj hy]; exact h.fx x⟩
theorem NwOk.next (h : NwOk l i (cR l ((dC l).getD i default)).length s) (hi : i < (dC l).length) : NwOk l (i + 1) 0 s :=
  ⟨h.mr, h.mf, h.gr, h.gf, h.ro, h.fo, fun x => by rw [RX_next hi]; exact h.rx x, fun x => by rw [FX_next hi]; exact h.fx x⟩
theorem NwOk.step (h : NwOk l i j s) (hi : i < (dC l).length) (hj : j < (cR l ((dC l).getD i default)).length) (hy : (cR l ((dC l).getD i default)).getD j default ∈ dC l) {er ef : Array MapEntry} {kr kf : Nat} {r f : Rw Cell}
    (hr : r.Ow Cell.l 3) (hf : f.Ow Cell.l 3) (hrx : r.xs = (s.R ((dC l).getD i default)).xs ++ [(cR l ((dC l).getD i default)).getD j default]) (hfx : f.xs = (s.F ((cR l ((dC l).getD i default)).getD j default)).xs ++ [(dC l).getD i default])
    (hmr : Mp kCell idV (mset s.mr ((dC l).getD i default) r.v) er kr) (hmf : Mp kCell idV (mset s.mf ((cR l ((dC l).getD i default)).getD j default) f.v) ef kf) :
    NwOk l i (j + 1) ⟨mset s.mr ((dC l).getD i default) r.v, er, kr, mset s.mf ((cR l ((dC l).getD i default)).getD j default) f.v, ef, kf, upd s.R ((dC l).getD i default) r, upd s.F ((cR l ((dC l).getD i default)).getD j default) f⟩ := by
  refine ⟨hmr, hmf, fun x => ?_, fun x => ?_, fun x => ?_, fun x => ?_, fun x => ?_, fun x => ?_⟩
  · dsimp only
    rw [mgetD_msetM]
    by_cases hx : (dC l).getD i default = x
    · rw [if_pos hx, ← hx, upd_self]
    · rw [if_neg hx, upd_ne hx]; exact h.gr x
  · dsimp only
    rw [mgetD_msetM]
    by_cases hx : (cR l ((dC l).getD i default)).getD j default = x
    · rw [if_pos hx, ← hx, upd_self]
    · rw [if_neg hx, upd_ne hx]; exact h.gf x
  · dsimp only
    by_cases hx : (dC l).getD i default = x
    · rw [← hx, upd_self]; exact hr
    · rw [upd_ne hx]; exact h.ro x
  · dsimp only
    by_cases hx : (cR l ((dC l).getD i default)).getD j default = x
    · rw [← hx, upd_self]; exact hf
    · rw [upd_ne hx]; exact h.fo x
  · dsimp only
    by_cases hx : (dC l).getD i default = x
    · rw [← hx, upd_self, hrx, RX_self hi hj hy, h.rx]
    · rw [upd_ne hx, RX_ne hx]; exact h.rx x
  · dsimp only
    by_cases hx : (cR l ((dC l).getD i default)).getD j default = x
    · rw [← hx, upd_self, hfx, FX_self hi hj hy, h.fx]
    · rw [upd_ne hx, FX_ne hj hx]; exact h.fx x
theorem Rw.rowV {r : Rw Cell} {W : World} {xs : List Cell} (h : xs = r.xs) (hs : 0 < xs.length → SlA W 3 (r.p.map ad) r.xs.length (fun i => (r.xs.getD i default).l)) : RowV W r.v xs := by
  subst h
  refine ⟨r.p.map ad, r.c, rfl, ?_⟩
  rcases Nat.eq_zero_or_pos r.xs.length with h | h
  · rw [h]; exact SlA.nil
  · exact hs h
end
abbrev rowsC (R : Cell → Rw Cell) (L : List Cell) : Kl := rowsK Cell.l 25 R L
def nwK (l : List En) (s : NwS) (gd gr gf : Nat) (pd : Option Nat) (cd : Nat) (spd : List Value) : Kl :=
  (gd, true, .cells [.slice (pd.map ad) (dC l).length cd, .map (some gr), .map (some gf)].toArray 207 (0, 0)) :: (gf, true, .map s.ef s.kf) :: (gr, true, .map s.er s.kr) :: (ow pd true (cat Cell.l (dC l) ++ spd) 25 ++ (rowsC s.R (dC l) ++ rowsC s.F (dC l)))
theorem nwK_wr {l : List En} {s : NwS} {gd gr gf : Nat} {pd : Option Nat} {cd : Nat} {spd : List Value} : ∀ e ∈ nwK l s gd gr gf pd cd spd, e.2.1 = true := by
  intro e he
  unfold nwK at he
  rcases List.mem_cons.1 he with rfl | he
  · rfl
  rcases List.mem_cons.1 he with rfl | he
  · rfl
  rcases List.mem_cons.1 he with rfl | he
  · rfl
  rcases List.mem_append.1 he with he | he
  · exact ow_wr e he
  rcases List.mem_append.1 he with he | he
  · exact rowsK_wr e he
  · exact rowsK_wr e he
theorem nwK_fz {l : List En} {s : NwS} {gd gr gf : Nat} {pd : Option Nat} {cd : Nat} {spd : List Value} (h : NwOk l (dC l).length 0 s) (hw : Ow pd (dC l).length cd 3 (cat Cell.l (dC l)) spd) : Fz (nwK l s gd gr gf pd cd spd) fun W => DpP W l gd := by
  intro W hW
  unfold nwK at hW
  refine ⟨⟨pd.map ad, cd, gr, gf, s.mr, s.mf, s.er, s.ef, s.kr, s.kf, hW _ (List.mem_cons_self ..), ?_, ⟨hW (gr, true, .map s.er s.kr) (by simp), h.mr, fun x => ?_⟩, ⟨hW (gf, true, .map s.ef s.kf) (by simp), h.mf, fun x => ?_⟩⟩⟩
  · exact fz_cat (e := 25) len_cell rfl hw W fun e he => hW e (List.mem_cons_of_mem _ (List.mem_cons_of_mem _ (List.mem_cons_of_mem _ (List.mem_append_left _ he))))
  · rw [h.gr]
    refine Rw.rowV (by rw [h.rx, RX_end]) fun hp => ?_
    have hx : x ∈ dC l := by
      obtain ⟨y, hy⟩ := List.exists_mem_of_length_pos hp
      exact rdD_in hy
    exact fz_row (t := 25) len_cell hx (h.ro x) W fun e he => hW e (List.mem_cons_of_mem _ (List.mem_cons_of_mem _ (List.mem_cons_of_mem _ (List.mem_append_right _ (List.mem_append_left _ he)))))
  · rw [h.gf]
    refine Rw.rowV (by rw [h.fx, FX_end]) fun hp => ?_
    have hx : x ∈ dC l := by
      obtain ⟨y, hy⟩ := List.exists_mem_of_length_pos hp
      exact rdD_sub (rrD_mem.1 hy).2
    exact fz_row (t := 25) len_cell hx (h.fo x) W fun e he => hW e (List.mem_cons_of_mem _ (List.mem_cons_of_mem _ (List.mem_cons_of_mem _ (List.mem_append_right _ (List.mem_append_right _ he)))))
theorem perm4 {α : Type} (a b A B : List α) : (a ++ (b ++ (A ++ B))).Perm ((a ++ A) ++ (b ++ B)) := by
  rw [List.append_assoc]
  refine List.Perm.append_left a ?_
  rw [← List.append_assoc, ← List.append_assoc]
  exact List.perm_append_comm.append_right B
section
variable {P : Program} {T : Tab} {κ ν : Type} [DecidableEq κ] {kf : κ → Value} {vf : ν → Value} {N : Nat} {F : Fl} {o : Oper} {w0 : World} {M : List Nat} {K : Kl} {kt et mt : TypeId} {s bs : Nat} {z : List Value}
theorem Sl.ev_mapEntryV {R : Value → Kl → Prop} {x y : Operand} {g : Nat} {m : List (κ × ν)} {es : Array MapEntry} {clock : Nat} {k : κ} {z0 u0 : ν} (hv : mgetD m k z0 = u0) (kl : KeyLaw P kt kf) (hT : TabOk P T) (hz : ∀ w, (zeroValue et).run P w = .ok (vf z0) w) (hg : o.guard = none) (ho : o.op = .mapEntry mt x y) (ht : ty T mt = some ⟨.map kt et, s, bs, z⟩)
    (hx : Fo F x = some (true, .map (some g))) (hy : Fo F y = some (true, kf k)) (h : Mp kf vf m es clock) (hk : (g, true, .map es clock) ∈ K)
    (hR : ∀ es' clock' m' j st, Mp kf vf m' es' clock' → m'[j]? = some (k, u0) → (∀ v, m'.set j (k, v) = mset m k v) → (es'[j]?).map (·.born) = some st → ∃ K', Ku K g (.map es clock) (.map es' clock') K' ∧ R (.tuple #[vf u0, goInt (st : Nat)]) K') : Ev P o N w0 M F K R := by
  subst hv
  exact ev_mapEntry kl hT hz hg ho ht hx hy h hk hR
end
theorem perm6 {α : Type} (A B Z1 Z2 R F : List α) : (A ++ (B ++ (Z1 ++ (Z2 ++ (R ++ F))))).Perm (Z1 ++ (Z2 ++ ((B ++ R) ++ (A ++ F)))) := by
  have h1 : (A ++ (B ++ ((Z1 ++ Z2) ++ (R ++ F)))).Perm ((Z1 ++ Z2) ++ (A ++ (B ++ (R ++ F)))) := ((List.perm_append_comm_assoc B (Z1 ++ Z2) (R ++ F)).append_left A).trans (List.perm_append_comm_assoc A (Z1 ++ Z2) (B ++ (R ++ F)))
  have h2 : (A ++ (B ++ (R ++ F))).Perm ((B ++ R) ++ (A ++ F)) := (List.perm_append_comm_assoc A B (R ++ F)).trans (perm4 B A R F)
  have h3 := h1.trans (h2.append_left (Z1 ++ Z2))
  rwa [List.append_assoc, List.append_assoc] at h3
section
variable {N : Nat} {FF : Fl} {Q : Exit → Act → World → Prop} {w0 : World} {M : List Nat} {e : Exit}
theorem ge_rows {A B Z1 Z2 R F R' F' : Kl} {x1 x2 x3 : Nat × Bool × Obj} (hR : R'.Perm (B ++ R)) (hF : F'.Perm (A ++ F)) (h : GE Q e N w0 M FF (Z1 ++ (Z2 ++ (R' ++ F')))) : GE Q e N w0 M FF (A ++ x1 :: (B ++ x2 :: x3 :: (Z1 ++ (Z2 ++ (R ++ F))))) := by
  refine ge_dropK (K' := A ++ (B ++ (Z1 ++ (Z2 ++ (R ++ F))))) ?_ ?_
  · refine List.Sublist.append (List.Sublist.refl _) (List.Sublist.cons _ ?_)
    exact List.Sublist.append (List.Sublist.refl _) (List.Sublist.cons _ (List.Sublist.cons _ (List.Sublist.refl _)))
  · exact ge_perm ((perm6 A B Z1 Z2 R F).trans (((hR.append hF).symm.append_left Z2).append_left Z1)) h
end
end Go.Proofs.Ytkgjfcjciigcgaa
