/-
  A session as plain data: what each call makes of it, and that who takes all has what is seen.
-/
import Derived.Test.YtkgjfcjciigcgaaGoWinTells
namespace Go.Proofs.Ytkgjfcjciigcgaa
open Go.Proofs.Ytkgjfcjciigcgaa.Sl Go.RowKit
set_option linter.unusedVariables false
set_option linter.unusedSimpArgs false
set_option maxRecDepth 100000

structure SG where
  wt : Bool
  bh : Bool
  a : Cell
  b : Cell
  saw : List Shown
  l : List Rep
def SG.tell (s : SG) (x : Rep) : SG := if s.l.length < 8 then { s with l := s.l ++ [x] } else { s with bh := true }
def SG.look (s : SG) (cs : List Shown) : List Shown := seeL s.a s.b cs
def SG.shot (s : SG) (v : Int) (cs : List Shown) : Rep := ⟨2, v, 0, s.look cs⟩
def SG.saws (s : SG) (x : List Shown) : SG := { s with saw := x }
def SG.turn (s : SG) (a b : Cell) : SG := { s with wt := true, a := a, b := b }
def SG.watch (s : SG) (a b : Cell) (v : Int) (cs : List Shown) : SG := ((s.turn a b).saws (seeL a b cs)).tell ⟨2, v, 0, seeL a b cs⟩
def SG.pub (s : SG) (v : Int) (cs : List Shown) : SG := if s.wt && !s.bh then (s.tell ⟨3, v, 0, deltaL s.saw (s.look cs)⟩).saws (s.look cs) else s
def SG.takeR (s : SG) (v : Int) (cs : List Shown) : Option Rep := match s.l with
  | x :: _ => some x
  | [] => if s.bh && s.wt then some (s.shot v cs) else none
def SG.takeS (s : SG) (v : Int) (cs : List Shown) : SG := match s.l with
  | _ :: r => { s with l := r }
  | [] => if s.bh && s.wt then { s with bh := false, saw := s.look cs } else s
theorem SG.tell_len {s : SG} (h : s.l.length ≤ 8) (x : Rep) : (s.tell x).l.length ≤ 8 := by
  unfold SG.tell
  split
  · rename_i h2
    simp
    omega
  · exact h
theorem SG.pub_len {s : SG} (h : s.l.length ≤ 8) (v : Int) (cs : List Shown) : (s.pub v cs).l.length ≤ 8 := by
  unfold SG.pub
  split
  · exact SG.tell_len h _
  · exact h
theorem SG.takeS_len {s : SG} (h : s.l.length ≤ 8) (v : Int) (cs : List Shown) : (s.takeS v cs).l.length ≤ 8 := by
  unfold SG.takeS
  split
  · rename_i x r hl
    rw [hl] at h
    simp only [List.length_cons] at h
    simp only
    omega
  · split
    · exact h
    · exact h
theorem see_srt {a b : Cell} {l : List Shown} (h : Srt l) : Srt (seeL a b l) := by
  unfold Srt seeL
  exact List.Pairwise.sublist (List.filter_sublist.map _) h
theorem see_nb (a b : Cell) (l : List Shown) : NB (seeL a b l) := fun x hx => by
  have := (List.mem_filter.1 hx).2
  unfold seen1 at this
  simp only [Bool.and_eq_true, Bool.not_eq_true', beq_eq_false_iff_ne] at this
  exact this.2
/-- All that was taken, and all that waits, plays; and if nothing was lost, it makes what is seen. -/
structure Keep (a b : Cell) (i : Int) (now : List Shown) (s : SG) (all : List Rep) : Prop where
  intro ::
  wt : s.wt = true
  ea : s.a = a
  eb : s.b = b
  srt : Srt s.saw
  nb : NB s.saw
  le : s.l.length ≤ 8
  pl : ∃ m last, playAll (all ++ s.l) (none, 0) = some (some m, last) ∧ last ≤ i ∧ (m.map (·.1)).Nodup ∧ (s.bh = false → s.saw = seeL a b now ∧ ∀ c, mk m c = lk s.saw c)
theorem play_snoc {l : List Rep} {st : Option (List (Cell × Val)) × Int} (h : playAll l (none, 0) = some st) (x : Rep) : playAll (l ++ [x]) (none, 0) = playStep st x := by
  rw [playAll_append, h]
  show (playStep st x).bind (playAll []) = _
  cases playStep st x <;> rfl
theorem Keep.start (a b : Cell) (s : SG) (h : s.l = []) (hb : s.bh = false) : Keep a b 0 [] (s.watch a b 0 []) [] := by
  have e : s.watch a b 0 [] = { s with wt := true, a := a, b := b, saw := [], l := [⟨2, 0, 0, []⟩] } := by
    unfold SG.watch SG.tell SG.turn SG.saws
    simp [h, seeL]
  rw [e]
  refine ⟨rfl, rfl, rfl, List.Pairwise.nil, fun x hx => (by cases hx), by simp, [], 0, rfl, Int.le_refl _, by simp, fun _ => ⟨rfl, fun c => rfl⟩⟩
theorem Keep.noise {a b : Cell} {i : Int} {now : List Shown} {s : SG} {all : List Rep} (h : Keep a b i now s all) {x : Rep} (hx : ¬ (x.kind = 2 ∨ x.kind = 3)) : Keep a b i now (s.tell x) all := by
  obtain ⟨h1, h2, h3, h4, h5, h6, m, last, p1, p2, p3, p4⟩ := h
  unfold SG.tell
  split
  · rename_i h8
    refine ⟨h1, h2, h3, h4, h5, by simp; omega, m, last, ?_, p2, p3, p4⟩
    show playAll (all ++ (s.l ++ [x])) (none, 0) = _
    rw [← List.append_assoc, play_snoc p1, playStep, if_neg hx]
  · exact ⟨h1, h2, h3, h4, h5, h6, m, last, p1, p2, p3, fun h => by cases h⟩
theorem Keep.pub {a b : Cell} {i : Int} {now now' : List Shown} {s : SG} {all : List Rep} (h : Keep a b i now s all) (hn : Srt now') : Keep a b (i + 1) now' (s.pub (i + 1) now') all := by
  obtain ⟨h1, h2, h3, h4, h5, h6, m, last, p1, p2, p3, p4⟩ := h
  unfold SG.pub
  rw [h1]
  cases hb : s.bh with
  | true =>
    simp only [Bool.not_true, Bool.and_false, Bool.false_eq_true, if_false]
    exact ⟨h1, h2, h3, h4, h5, h6, m, last, p1, by omega, p3, fun h => by rw [hb] at h; cases h⟩
  | false =>
    simp only [Bool.not_false, Bool.and_true, if_true]
    obtain ⟨p5, p6⟩ := p4 hb
    have hsr : Srt (seeL a b now') := see_srt hn
    have hlook : s.look now' = seeL a b now' := by unfold SG.look; rw [h2, h3]
    rw [hlook]
    unfold SG.tell SG.saws
    split
    · rename_i h8
      refine ⟨h1, h2, h3, hsr, see_nb _ _ _, by simp; omega, showAll (deltaL s.saw (seeL a b now')) m, i + 1, ?_, Int.le_refl _, showAll_keys p3, fun _ => ⟨rfl, fun c => ?_⟩⟩
      · show playAll (all ++ (s.l ++ [_])) (none, 0) = _
        rw [← List.append_assoc, play_snoc p1, playStep, if_pos (.inr rfl)]
        have hm : may (some m, last).1.isSome (some m, last).2 3 (i + 1) = true := by
          show may true last 3 (i + 1) = true
          unfold may
          simp
          omega
        rw [hm, if_pos rfl]
        rfl
      · exact show_delta h4 hsr (see_nb _ _ _) p3 p6 c
    · refine ⟨h1, h2, h3, hsr, see_nb _ _ _, h6, m, last, p1, by omega, p3, fun h => by cases h⟩
theorem Keep.take {a b : Cell} {i : Int} {now : List Shown} {s : SG} {all : List Rep} (h : Keep a b i now s all) (hn : Srt now) : Keep a b i now (s.takeS i now) (all ++ (s.takeR i now).toList) := by
  obtain ⟨h1, h2, h3, h4, h5, h6, m, last, p1, p2, p3, p4⟩ := h
  unfold SG.takeS SG.takeR
  cases hl : s.l with
  | cons x r =>
    rw [hl] at p1 h6
    refine ⟨h1, h2, h3, h4, h5, by simp at h6; show r.length ≤ 8; omega, m, last, ?_, p2, p3, p4⟩
    show playAll ((all ++ [x]) ++ r) (none, 0) = _
    rw [List.append_assoc]
    exact p1
  | nil =>
    rw [hl] at p1
    cases hb : s.bh with
    | false =>
      simp only [Bool.false_and, Bool.false_eq_true, if_false, Option.toList_none, List.append_nil]
      refine ⟨h1, h2, h3, h4, h5, h6, m, last, ?_, p2, p3, fun _ => p4 hb⟩
      rw [hl]
      exact p1
    | true =>
      rw [h1]
      simp only [Bool.true_and, if_true, Option.toList_some]
      have hlook : s.look now = seeL a b now := by unfold SG.look; rw [h2, h3]
      have hsr : Srt (seeL a b now) := see_srt hn
      refine ⟨rfl, h2, h3, ?_, ?_, Nat.zero_le _, showAll (seeL a b now) [], i, ?_, Int.le_refl _, showAll_keys List.nodup_nil, fun _ => ⟨hlook, fun c => ?_⟩⟩
      · show Srt (s.look now)
        rw [hlook]; exact hsr
      · show NB (s.look now)
        rw [hlook]; exact see_nb _ _ _
      · show playAll ((all ++ [s.shot i now]) ++ []) (none, 0) = _
        rw [List.append_nil] at p1
        rw [List.append_nil, play_snoc p1, playStep, if_pos (.inl rfl)]
        have hm : may (some m, last).1.isSome (some m, last).2 (s.shot i now).kind (s.shot i now).version = true := by
          show may true last 2 i = true
          unfold may
          simp
          omega
        rw [hm, if_pos rfl]
        show some (some (showAll (s.look now) []), i) = _
        rw [hlook]
      · show mk _ c = lk (s.look now) c
        rw [hlook]
        exact show_all hsr (see_nb _ _ _) c
/-- How much is left to take. -/
def SG.left (s : SG) : Nat := s.l.length + (if s.bh then 1 else 0)
theorem SG.takeS_left (s : SG) (h : s.wt = true) (v : Int) (cs : List Shown) : (s.takeS v cs).left = s.left - 1 := by
  unfold SG.takeS SG.left
  cases hl : s.l with
  | cons x r =>
    simp only [List.length_cons]
    omega
  | nil =>
    rw [h]
    cases hb : s.bh with
    | false => simp [hb, hl]
    | true => simp [hl]
theorem Keep.end {a b : Cell} {i : Int} {now : List Shown} {s : SG} {all : List Rep} (h : Keep a b i now s all) (h0 : s.left = 0) : playR all = (seeL a b now, true) := by
  obtain ⟨h1, h2, h3, h4, h5, h6, m, last, p1, p2, p3, p4⟩ := h
  unfold SG.left at h0
  have hl : s.l = [] := List.eq_nil_of_length_eq_zero (by omega)
  have hb : s.bh = false := by
    cases hb : s.bh with
    | false => rfl
    | true => rw [hb] at h0; simp at h0
  obtain ⟨p5, p6⟩ := p4 hb
  rw [hl, List.append_nil] at p1
  unfold playR
  rw [p1]
  show (listM m, true) = _
  rw [← p5, listM_eq p3 h4 p6]
end Go.Proofs.Ytkgjfcjciigcgaa
