/-
  The plain law of views: what a list shows of a cell, and that a list in order is told by it.
-/
import Derived.Test.YtkgjfcjciigcgaaGoSees
namespace Go.Proofs.Ytkgjfcjciigcgaa
open Go.Proofs.Ytkgjfcjciigcgaa.Sl Go.RowKit
set_option linter.unusedVariables false
set_option linter.unusedSimpArgs false
set_option linter.unusedSectionVars false

/-! ### maps by what they answer -/
section
variable {κ ν : Type} [DecidableEq κ]
def mk : List (κ × ν) → κ → Option ν
  | [], _ => none
  | x :: r, c => if x.1 = c then some x.2 else mk r c
theorem fnd_mk (c : κ) : ∀ (m : List (κ × ν)) (i : Nat), (fnd c m i).map (·.2) = mk m c
  | [], i => rfl
  | x :: r, i => by
    unfold fnd mk
    by_cases h : c = x.1
    · rw [if_pos h, if_pos h.symm]; rfl
    · rw [if_neg h, if_neg (fun e => h e.symm)]; exact fnd_mk c r (i + 1)
theorem fnd_shift (c : κ) : ∀ (m : List (κ × ν)) (i : Nat), fnd c m (i + 1) = (fnd c m i).map fun x => (x.1 + 1, x.2)
  | [], i => rfl
  | x :: r, i => by
    unfold fnd
    by_cases h : c = x.1
    · rw [if_pos h, if_pos h]; rfl
    · rw [if_neg h, if_neg h]; exact fnd_shift c r (i + 1)
theorem mgetD_mk (m : List (κ × ν)) (c : κ) (d : ν) : mgetD m c d = (mk m c).getD d := by
  rw [← fnd_mk c m 0]
  unfold mgetD
  cases fnd c m 0 <;> rfl
theorem fnd_isSome_mk (m : List (κ × ν)) (c : κ) : (fnd c m 0).isSome = (mk m c).isSome := by
  rw [← fnd_mk c m 0]
  cases fnd c m 0 <;> rfl
theorem mset_cons (x : κ × ν) (r : List (κ × ν)) (k : κ) (v : ν) : mset (x :: r) k v = if k = x.1 then (k, v) :: r else x :: mset r k v := by
  unfold mset
  rw [fnd]
  by_cases h : k = x.1
  · rw [if_pos h, if_pos h]; rfl
  · rw [if_neg h, if_neg h, fnd_shift]
    cases fnd k r 0 <;> rfl
theorem mdel_cons (x : κ × ν) (r : List (κ × ν)) (k : κ) : mdel (x :: r) k = if k = x.1 then r else x :: mdel r k := by
  unfold mdel
  rw [fnd]
  by_cases h : k = x.1
  · rw [if_pos h, if_pos h]; rfl
  · rw [if_neg h, if_neg h, fnd_shift]
    cases fnd k r 0 <;> rfl
theorem mk_mset (k c : κ) (v : ν) : ∀ m : List (κ × ν), mk (mset m k v) c = if k = c then some v else mk m c
  | [] => rfl
  | x :: r => by
    rw [mset_cons]
    by_cases h : k = x.1
    · rw [if_pos h]
      unfold mk
      by_cases h2 : k = c
      · rw [if_pos h2, if_pos h2]
      · rw [if_neg h2, if_neg h2, if_neg (fun e => h2 (h.trans e))]
    · rw [if_neg h, mk, mk, mk_mset k c v r]
      by_cases h2 : x.1 = c
      · rw [if_pos h2, if_pos h2, if_neg (fun e => h (e.trans h2.symm))]
      · rw [if_neg h2, if_neg h2]
theorem mk_none {m : List (κ × ν)} {c : κ} : mk m c = none ↔ c ∉ m.map (·.1) := by
  induction m with
  | nil => simp [mk]
  | cons x r ih =>
    unfold mk
    by_cases h : x.1 = c
    · rw [if_pos h]; simp [h]
    · rw [if_neg h, ih]
      simp only [List.map_cons, List.mem_cons, not_or]
      exact ⟨fun h' => ⟨fun e => h e.symm, h'⟩, fun h' => h'.2⟩
theorem mk_mem {m : List (κ × ν)} {c : κ} {v : ν} (h : mk m c = some v) : (c, v) ∈ m := by
  induction m with
  | nil => cases h
  | cons x r ih =>
    unfold mk at h
    by_cases h2 : x.1 = c
    · rw [if_pos h2] at h
      cases h
      subst h2
      exact List.Mem.head _
    · rw [if_neg h2] at h
      exact List.Mem.tail _ (ih h)
theorem mk_of_mem {m : List (κ × ν)} {c : κ} {v : ν} (hn : (m.map (·.1)).Nodup) (h : (c, v) ∈ m) : mk m c = some v := by
  induction m with
  | nil => cases h
  | cons x r ih =>
    simp only [List.map_cons, List.nodup_cons] at hn
    unfold mk
    rcases List.mem_cons.1 h with h | h
    · subst h; rw [if_pos rfl]
    · rw [if_neg (fun e => hn.1 (List.mem_map.2 ⟨_, h, e.symm⟩))]
      exact ih hn.2 h
theorem mk_mdel {k c : κ} : ∀ {m : List (κ × ν)}, (m.map (·.1)).Nodup → mk (mdel m k) c = if k = c then none else mk m c
  | [], _ => by simp [mdel, fnd, mk]
  | x :: r, hn => by
    simp only [List.map_cons, List.nodup_cons] at hn
    rw [mdel_cons]
    by_cases h : k = x.1
    · rw [if_pos h]
      by_cases h2 : k = c
      · rw [if_pos h2]
        exact mk_none.2 (h2 ▸ h ▸ hn.1)
      · rw [if_neg h2, mk, if_neg (fun e => h2 (h.trans e))]
    · rw [if_neg h, mk, mk, mk_mdel hn.2]
      by_cases h2 : x.1 = c
      · rw [if_pos h2, if_pos h2, if_neg (fun e => h (e.trans h2.symm))]
      · rw [if_neg h2, if_neg h2]
theorem mdel_keys {m : List (κ × ν)} {k : κ} (h : (m.map (·.1)).Nodup) : ((mdel m k).map (·.1)).Nodup := by
  have : (mdel m k).Sublist m := by
    unfold mdel
    split
    · exact List.Sublist.refl _
    · exact List.eraseIdx_sublist ..
  exact h.sublist (this.map _)
theorem mk_append (a b : List (κ × ν)) (c : κ) : mk (a ++ b) c = (mk a c).or (mk b c) := by
  induction a with
  | nil => simp [mk]
  | cons x r ih =>
    rw [List.cons_append, mk, mk]
    by_cases h : x.1 = c
    · rw [if_pos h, if_pos h]; rfl
    · rw [if_neg h, if_neg h, ih]
theorem mk_filter {p : κ × ν → Bool} {c : κ} : ∀ {m : List (κ × ν)}, (m.map (·.1)).Nodup → mk (m.filter p) c = (mk m c).filter fun v => p (c, v)
  | [], _ => rfl
  | x :: r, hn => by
    simp only [List.map_cons, List.nodup_cons] at hn
    have ih := mk_filter (p := p) (c := c) hn.2
    rw [mk]
    by_cases h : x.1 = c
    · subst h
      rw [if_pos rfl]
      cases hp : p x with
      | true => rw [List.filter_cons_of_pos hp, mk, if_pos rfl]; show _ = if p x then _ else _; rw [hp]; rfl
      | false =>
        rw [List.filter_cons_of_neg (by simp [hp]), ih, mk_none.2 hn.1]
        show none = if p x then _ else _
        rw [hp]
        rfl
    · rw [if_neg h, ← ih]
      cases hp : p x with
      | true => rw [List.filter_cons_of_pos hp, mk, if_neg h]
      | false => rw [List.filter_cons_of_neg (by simp [hp])]
theorem mk_map (d : ν) (m : List (κ × ν)) (c : κ) : mk (m.map fun x => (x.1, d)) c = (mk m c).map fun _ => d := by
  induction m with
  | nil => rfl
  | cons x r ih =>
    rw [List.map_cons, mk, mk]
    by_cases h : x.1 = c
    · rw [if_pos h, if_pos h]; rfl
    · rw [if_neg h, if_neg h, ih]
end

/-! ### lists of what is shown -/
def lk : List Shown → Cell → Option Val
  | [], _ => none
  | x :: r, c => if x.cell = c then some x.val else lk r c
def Srt (l : List Shown) : Prop := (l.map Shown.cell).Pairwise cLt
def NB (l : List Shown) : Prop := ∀ x ∈ l, x.val.kind ≠ 0
theorem lk_none {l : List Shown} {c : Cell} : lk l c = none ↔ c ∉ l.map Shown.cell := by
  induction l with
  | nil => simp [lk]
  | cons x r ih =>
    unfold lk
    by_cases h : x.cell = c
    · rw [if_pos h]; simp [h]
    · rw [if_neg h, ih]
      simp only [List.map_cons, List.mem_cons, not_or]
      exact ⟨fun h' => ⟨fun e => h e.symm, h'⟩, fun h' => h'.2⟩
theorem lk_mem {l : List Shown} {c : Cell} {v : Val} (h : lk l c = some v) : ⟨c, v⟩ ∈ l := by
  induction l with
  | nil => cases h
  | cons x r ih =>
    unfold lk at h
    by_cases h2 : x.cell = c
    · rw [if_pos h2] at h
      cases h
      subst h2
      exact List.Mem.head _
    · rw [if_neg h2] at h
      exact List.Mem.tail _ (ih h)
theorem lk_of_mem {l : List Shown} {x : Shown} (hn : (l.map Shown.cell).Nodup) (h : x ∈ l) : lk l x.cell = some x.val := by
  induction l with
  | nil => cases h
  | cons y r ih =>
    simp only [List.map_cons, List.nodup_cons] at hn
    unfold lk
    rcases List.mem_cons.1 h with h | h
    · subst h; rw [if_pos rfl]
    · rw [if_neg (fun e => hn.1 (List.mem_map.2 ⟨_, h, e.symm⟩))]
      exact ih hn.2 h
theorem Srt.nodup {l : List Shown} (h : Srt l) : (l.map Shown.cell).Nodup := cLt_nodup h
theorem srt_ext {l m : List Shown} (hl : Srt l) (hm : Srt m) (h : ∀ c, lk l c = lk m c) : l = m := by
  have key : ∀ {a b : List Shown}, Srt a → (∀ c, lk a c = lk b c) → ∀ x ∈ a, x ∈ b := fun {a b} ha he x hx => by
    have h1 := lk_of_mem ha.nodup hx
    rw [he] at h1
    exact lk_mem h1
  have n1 : l.Nodup := List.Pairwise.of_map Shown.cell (fun a b h e => h (by rw [e])) hl.nodup
  have n2 : m.Nodup := List.Pairwise.of_map Shown.cell (fun a b h e => h (by rw [e])) hm.nodup
  refine List.Perm.eq_of_pairwise (le := fun a b => cLt a.cell b.cell) (fun a b _ _ h1 h2 => absurd (cLt_trans h1 h2) (cLt_irrefl _)) (List.pairwise_map.1 hl) (List.pairwise_map.1 hm) ((List.perm_ext_iff_of_nodup n1 n2).2 fun x => ⟨key hl h x, key hm (fun c => (h c).symm) x⟩)

/-! ### Set -/
theorem setS_cons (x : Shown) (r : List Shown) (c : Cell) (v : Val) : setS (x :: r) c v = if ltOf cmpC x.cell c then x :: setS r c v else if x.cell = c then ⟨c, v⟩ :: r else ⟨c, v⟩ :: x :: r := by
  unfold setS
  rw [setI]
  by_cases h : ltOf cmpC x.cell c = true
  · rw [if_pos h, if_pos h]
    have e : ((x :: r).getD (setI c r + 1) default) = r.getD (setI c r) default := by simp
    rw [e, List.length_cons]
    by_cases h2 : setI c r < r.length ∧ (r.getD (setI c r) default).cell = c
    · rw [if_pos h2, if_pos ⟨by omega, h2.2⟩]; rfl
    · rw [if_neg h2, if_neg (fun h3 => h2 ⟨by omega, h3.2⟩)]; rfl
  · rw [if_neg h, if_neg h]
    by_cases h2 : x.cell = c
    · rw [if_pos h2, if_pos ⟨by simp, h2⟩]; rfl
    · rw [if_neg h2, if_neg (fun h3 => h2 h3.2)]; rfl
theorem setS_nil (c : Cell) (v : Val) : setS [] c v = [⟨c, v⟩] := rfl
theorem lk_setS (c d : Cell) (v : Val) : ∀ l : List Shown, lk (setS l c v) d = if c = d then some v else lk l d
  | [] => rfl
  | x :: r => by
    rw [setS_cons]
    by_cases h : ltOf cmpC x.cell c = true
    · rw [if_pos h, lk, lk, lk_setS c d v r]
      by_cases h2 : x.cell = d
      · rw [if_pos h2, if_pos h2, if_neg]
        intro e
        rw [h2, e] at h
        exact cLt_irrefl _ ((ltC_iff _ _).1 h)
      · rw [if_neg h2, if_neg h2]
    · rw [if_neg h]
      by_cases h2 : x.cell = c
      · rw [if_pos h2, lk, lk]
        by_cases h3 : c = d
        · rw [if_pos h3, if_pos h3]
        · rw [if_neg h3, if_neg h3, if_neg (fun e => h3 (h2.symm.trans e))]
      · rw [if_neg h2, lk]
theorem setS_cells {c d : Cell} {v : Val} : ∀ {l : List Shown}, d ∈ (setS l c v).map Shown.cell → d = c ∨ d ∈ l.map Shown.cell := fun {l} h => by
  by_cases h2 : c = d
  · exact Or.inl h2.symm
  · refine Or.inr ?_
    have h3 : lk (setS l c v) d ≠ none := fun e => lk_none.1 e h
    rw [lk_setS, if_neg h2] at h3
    exact Classical.byContradiction fun h4 => h3 (lk_none.2 h4)
theorem Srt.set {c : Cell} {v : Val} : ∀ {l : List Shown}, Srt l → Srt (setS l c v)
  | [], _ => by simp [setS_nil, Srt]
  | x :: r, h => by
    rw [setS_cons]
    have h' := h
    unfold Srt at h'
    simp only [List.map_cons, List.pairwise_cons] at h'
    obtain ⟨h1, h2⟩ := h'
    by_cases h3 : ltOf cmpC x.cell c = true
    · rw [if_pos h3]
      unfold Srt
      simp only [List.map_cons, List.pairwise_cons]
      refine ⟨fun d hd => ?_, Srt.set (l := r) h2⟩
      rcases setS_cells hd with rfl | hd
      · exact (ltC_iff _ _).1 h3
      · exact h1 d hd
    · rw [if_neg h3]
      by_cases h4 : x.cell = c
      · rw [if_pos h4]
        unfold Srt
        simp only [List.map_cons, List.pairwise_cons]
        exact ⟨fun d hd => h4 ▸ h1 d hd, h2⟩
      · rw [if_neg h4]
        unfold Srt
        have h5 : cLt c x.cell := by
          rcases cLt_total c x.cell with h6 | h6 | h6
          · exact h6
          · exact absurd h6.symm h4
          · exact absurd ((ltC_iff _ _).2 h6) h3
        simp only [List.map_cons, List.pairwise_cons, List.mem_cons]
        refine ⟨fun d hd => ?_, h1, h2⟩
        rcases hd with rfl | hd
        · exact h5
        · exact cLt_trans h5 (h1 d hd)
theorem setS_mem {c : Cell} {v : Val} {x : Shown} : ∀ {l : List Shown}, x ∈ setS l c v → x = ⟨c, v⟩ ∨ x ∈ l
  | [], h => by simpa [setS_nil] using h
  | y :: r, h => by
    rw [setS_cons] at h
    split at h
    · rcases List.mem_cons.1 h with h | h
      · exact Or.inr (h ▸ List.Mem.head _)
      · rcases setS_mem h with h | h
        · exact Or.inl h
        · exact Or.inr (List.Mem.tail _ h)
    · split at h
      · rcases List.mem_cons.1 h with h | h
        · exact Or.inl h
        · exact Or.inr (List.Mem.tail _ h)
      · rcases List.mem_cons.1 h with h | h
        · exact Or.inl h
        · exact Or.inr h
theorem whole_ok (l : List Shown) : Srt (wholeL l) ∧ NB (wholeL l) := by
  have key : ∀ (l s : List Shown), Srt s → NB s → Srt (l.foldl setN s) ∧ NB (l.foldl setN s) := by
    intro l
    induction l with
    | nil => intro s h1 h2; exact ⟨h1, h2⟩
    | cons x r ih =>
      intro s h1 h2
      refine ih (setN s x) ?_ ?_
      · unfold setN
        split
        · exact h1
        · exact h1.set
      · unfold setN
        split
        · exact h2
        · rename_i hk
          intro y hy
          rcases setS_mem hy with rfl | hy
          · exact hk
          · exact h2 y hy
  exact key l [] List.Pairwise.nil (fun x hx => by cases hx)
/-! ### what a map lists -/
theorem lk_keys {f : Cell → Val} {c : Cell} : ∀ {ks : List Cell}, lk (ks.map fun k => ⟨k, f k⟩) c = if c ∈ ks then some (f c) else none
  | [] => rfl
  | k :: r => by
    rw [List.map_cons, lk, lk_keys]
    by_cases h : k = c
    · rw [if_pos h, if_pos (by simp [h]), h]
    · rw [if_neg h]
      by_cases h2 : c ∈ r
      · rw [if_pos h2, if_pos (List.mem_cons_of_mem _ h2)]
      · rw [if_neg h2, if_neg]
        intro h3
        rcases List.mem_cons.1 h3 with e | h3
        · exact h e.symm
        · exact h2 h3
theorem listM_srt {m : List (Cell × Val)} (h : (m.map (·.1)).Nodup) : Srt (listM m) := by
  unfold Srt listM
  rw [List.map_map]
  have : (sortC (m.map (·.1))).map (Shown.cell ∘ fun c => (⟨c, mgetD m c v00⟩ : Shown)) = sortC (m.map (·.1)) := by
    conv => rhs; rw [← List.map_id (sortC (m.map (·.1)))]
    rfl
  rw [this]
  exact sortC_lt h
theorem lk_listM (m : List (Cell × Val)) (c : Cell) : lk (listM m) c = mk m c := by
  unfold listM
  rw [lk_keys]
  cases h : mk m c with
  | none => rw [if_neg]; rw [sortC_mem]; exact mk_none.1 h
  | some v =>
    rw [if_pos, mgetD_mk, h]
    · rfl
    · rw [sortC_mem]
      exact Classical.byContradiction fun h2 => by rw [mk_none.2 h2] at h; cases h
theorem listM_eq {m : List (Cell × Val)} {l : List Shown} (hm : (m.map (·.1)).Nodup) (hl : Srt l) (h : ∀ c, mk m c = lk l c) : listM m = l :=
  srt_ext (listM_srt hm) hl fun c => by rw [lk_listM, h]
theorem mk_ofL {l : List Shown} (hn : (l.map Shown.cell).Nodup) (c : Cell) : mk (ofL l) c = lk l c := by
  have key : ∀ (l : List Shown) (m : List (Cell × Val)), (l.map Shown.cell).Nodup → mk (l.foldl (fun m x => mset m x.cell x.val) m) c = (lk l c).or (mk m c) := by
    intro l
    induction l with
    | nil => intro m _; simp [lk]
    | cons x r ih =>
      intro m hn
      simp only [List.map_cons, List.nodup_cons] at hn
      rw [List.foldl_cons, ih _ hn.2, mk_mset, lk]
      by_cases h : x.cell = c
      · rw [if_pos h, if_pos h, lk_none.2 (h ▸ hn.1)]; rfl
      · rw [if_neg h, if_neg h]
  have := key l [] hn
  simpa [mk, ofL] using this
/-! ### Delta -/
def dl : Option Val → Option Val → Option Val
  | a, some v => if a = some v then none else some v
  | some _, none => some v00
  | none, none => none
theorem mk_deltaM {ma mb : List (Cell × Val)} (ha : (ma.map (·.1)).Nodup) (hb : (mb.map (·.1)).Nodup) (c : Cell) : mk (deltaM ma mb) c = dl (mk ma c) (mk mb c) := by
  unfold deltaM tB tA
  rw [mk_append, mk_map, mk_filter hb, mk_filter ha]
  have e1 : ∀ v, turnedB ma (c, v) = !decide (mk ma c = some v) := fun v => by
    unfold turnedB
    simp only
    rw [fnd_isSome_mk, mgetD_mk]
    cases mk ma c <;> simp
  have e2 : ∀ v, goneB mb (c, v) = !(mk mb c).isSome := fun v => by
    unfold goneB
    simp only
    rw [fnd_isSome_mk]
  cases h1 : mk mb c with
  | none =>
    cases h2 : mk ma c with
    | none => rfl
    | some u => simp [dl, e2, h1]
  | some v =>
    cases h2 : mk ma c with
    | none => simp [dl, e1, h2]
    | some u =>
      by_cases h3 : u = v
      · simp [dl, e1, e2, h1, h2, h3]
      · simp [dl, e1, e2, h1, h2, h3]
theorem deltaM_keys {ma mb : List (Cell × Val)} (ha : (ma.map (·.1)).Nodup) (hb : (mb.map (·.1)).Nodup) : ((deltaM ma mb).map (·.1)).Nodup := by
  unfold deltaM tB tA
  rw [List.map_append, List.map_map, List.nodup_append]
  have e : ((fun x : Cell × Val => x.1) ∘ fun x : Cell × Val => (x.1, v00)) = fun x => x.1 := rfl
  rw [e]
  refine ⟨hb.sublist ((List.filter_sublist ..).map _), ha.sublist ((List.filter_sublist ..).map _), fun a h1 b h2 e => ?_⟩
  subst e
  obtain ⟨x, hx, e1⟩ := List.mem_map.1 h1
  obtain ⟨y, hy, e2⟩ := List.mem_map.1 h2
  have h3 := (List.mem_filter.1 hy).2
  unfold goneB at h3
  rw [e2, fnd_isSome.2 (List.mem_map.2 ⟨x, (List.mem_filter.1 hx).1, e1⟩)] at h3
  cases h3
theorem delta_srt (a b : List Shown) : Srt (deltaL a b) := listM_srt (deltaM_keys (ofL_nodup a) (ofL_nodup b))
theorem lk_deltaL {a b : List Shown} (ha : (a.map Shown.cell).Nodup) (hb : (b.map Shown.cell).Nodup) (c : Cell) : lk (deltaL a b) c = dl (lk a c) (lk b c) := by
  unfold deltaL
  rw [lk_listM, mk_deltaM (ofL_nodup a) (ofL_nodup b), mk_ofL ha, mk_ofL hb]
/-! ### a screen -/
def nbo : Option Val → Option Val
  | none => none
  | some v => if v.kind = 0 then none else some v
theorem show1_keys {m : List (Cell × Val)} {x : Shown} (h : (m.map (·.1)).Nodup) : ((show1 m x).map (·.1)).Nodup := by
  unfold show1
  split
  · exact mdel_keys h
  · exact mset_keys h
theorem showAll_keys : ∀ {l : List Shown} {m : List (Cell × Val)}, (m.map (·.1)).Nodup → ((showAll l m).map (·.1)).Nodup
  | [], _, h => h
  | x :: r, m, h => showAll_keys (l := r) (m := show1 m x) (show1_keys h)
theorem mk_show1 {m : List (Cell × Val)} (x : Shown) (h : (m.map (·.1)).Nodup) (c : Cell) : mk (show1 m x) c = if x.cell = c then nbo (some x.val) else mk m c := by
  unfold show1 nbo
  split
  · rename_i hk
    rw [mk_mdel h]
    simp [hk]
  · rename_i hk
    rw [mk_mset]
    simp [hk]
theorem mk_showAll {c : Cell} : ∀ {l : List Shown} {m : List (Cell × Val)}, (m.map (·.1)).Nodup → (l.map Shown.cell).Nodup → mk (showAll l m) c = match lk l c with
    | none => mk m c
    | some v => nbo (some v)
  | [], _, _, _ => rfl
  | x :: r, m, h, hn => by
    simp only [List.map_cons, List.nodup_cons] at hn
    show mk (showAll r (show1 m x)) c = _
    rw [mk_showAll (show1_keys h) hn.2, lk]
    by_cases h2 : x.cell = c
    · rw [if_pos h2, lk_none.2 (h2 ▸ hn.1)]
      simp only
      rw [mk_show1 x h, if_pos h2]
    · rw [if_neg h2]
      cases lk r c with
      | none => simp only; rw [mk_show1 x h, if_neg h2]
      | some v => rfl
theorem lk_nb {l : List Shown} (h : NB l) {c : Cell} {v : Val} (he : lk l c = some v) : v.kind ≠ 0 := h _ (lk_mem he)
/-- What turned from one view to the next one, shown over the one, makes the next one. -/
theorem show_delta {a b : List Shown} {m : List (Cell × Val)} (ha : Srt a) (hb : Srt b) (nb : NB b) (hm : (m.map (·.1)).Nodup) (h : ∀ c, mk m c = lk a c) (c : Cell) : mk (showAll (deltaL a b) m) c = lk b c := by
  rw [mk_showAll hm (delta_srt a b).nodup, lk_deltaL ha.nodup hb.nodup, h]
  cases h1 : lk b c with
  | none =>
    cases h2 : lk a c with
    | none => rfl
    | some u => simp [dl, nbo, v00]
  | some v =>
    have h3 := lk_nb nb h1
    by_cases h4 : lk a c = some v
    · simp [dl, h4]
    · simp [dl, h4, nbo, h3]
theorem show_all {b : List Shown} (hb : Srt b) (nb : NB b) (c : Cell) : mk (showAll b []) c = lk b c := by
  rw [mk_showAll (by simp) hb.nodup]
  cases h1 : lk b c with
  | none => rfl
  | some v => simp [nbo, lk_nb nb h1]
end Go.Proofs.Ytkgjfcjciigcgaa
