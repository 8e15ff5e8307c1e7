/-
  SessionPlays: the program's session and the reference's answer alike.
-/
import Derived.Test.YtkgjfcjciigcgaaGoSesG
namespace Go.Proofs.Ytkgjfcjciigcgaa
open Go.Proofs.Ytkgjfcjciigcgaa.Sl Go.RowKit
set_option linter.unusedVariables false
set_option linter.unusedSimpArgs false
set_option linter.unusedSectionVars false
set_option maxRecDepth 100000

structure Stp where
  kind : Int
  v : Int
  a : Cell
  b : Cell
  r : RP
  cs : Vw
  deriving Inhabited
def Stp.l (x : Stp) : List Value := [.int .i64 x.kind, .int .i64 x.v, .string x.a.sheet, .int .i64 x.a.col, .int .i64 x.a.row, .string x.b.sheet, .int .i64 x.b.col, .int .i64 x.b.row, .int .i64 x.r.rep.kind, .int .i64 x.r.rep.version, .int .i64 x.r.rep.err, .slice x.r.p x.r.rep.cells.length x.r.c, .slice x.cs.p x.cs.xs.length x.cs.c]
theorem len_stp (x : Stp) : x.l.length = 13 := rfl
/-- What holds of both sessions. -/
structure SgOk (s : SG) : Prop where
  srt : Srt s.saw
  nb : NB s.saw
  le : s.saw.length ≤ 60
theorem SgOk.see {s : SG} {a b : Cell} {cs : List Shown} (hs : Srt cs) (hl : cs.length ≤ 60) (h : s.saw = seeL a b cs) : SgOk s := by
  have := seeL_len a b cs
  exact ⟨h ▸ see_srt hs, h ▸ see_nb a b cs, by rw [h]; omega⟩
theorem SG.tell_saw (s : SG) (x : Rep) : (s.tell x).saw = s.saw := by unfold SG.tell; split <;> rfl
theorem SgOk.tell {s : SG} (h : SgOk s) (x : Rep) : SgOk (s.tell x) := by
  obtain ⟨h1, h2, h3⟩ := h
  exact ⟨by rw [SG.tell_saw]; exact h1, by rw [SG.tell_saw]; exact h2, by rw [SG.tell_saw]; exact h3⟩
theorem SgOk.watch {s : SG} {a b : Cell} {v : Int} {cs : List Shown} (hs : Srt cs) (hl : cs.length ≤ 60) : SgOk (s.watch a b v cs) := SgOk.see (a := a) (b := b) hs hl (SG.tell_saw _ _)
theorem SgOk.pub {s : SG} {v : Int} {cs : List Shown} (h : SgOk s) (hs : Srt cs) (hl : cs.length ≤ 60) : SgOk (s.pub v cs) := by
  unfold SG.pub
  split
  · exact SgOk.see (a := s.a) (b := s.b) hs hl rfl
  · exact h
theorem SgOk.takeS {s : SG} {v : Int} {cs : List Shown} (h : SgOk s) (hs : Srt cs) (hl : cs.length ≤ 60) : SgOk (s.takeS v cs) := by
  unfold SG.takeS
  split
  · exact ⟨h.srt, h.nb, h.le⟩
  · split
    · exact SgOk.see (a := s.a) (b := s.b) hs hl rfl
    · exact h
theorem SgOk.delta {s : SG} {cs : List Shown} (h : SgOk s) (hl : cs.length ≤ 60) : (deltaL s.saw (seeL s.a s.b cs)).length ≤ 1000 := by
  have h1 := dl_len s.saw (seeL s.a s.b cs)
  have h2 := seeL_len s.a s.b cs
  have h3 := h.le
  omega
theorem Im.arg {w0 W : World} {K : Kl} {p : Option Addr} {l : List Shown} (hs : SlA w0 6 p l.length (fun j => (l.getD j default).l)) (hW : St w0 [] K W) (hl : l.length ≤ 1000) : Im W (wrs K) p l :=
  ⟨hs.st hW, fun hn => nm_wr hW (hs.lt hn) (by simp), hl⟩
/-- Where the law stands: three sessions (the program's, another of the program's for what is told, the reference's). -/
structure X3 where
  i : Nat
  s : SX
  q : Option Nat
  c : Nat
  sp : List Value
  s1 : SX
  q1 : Option Nat
  c1 : Nat
  sp1 : List Value
  s2 : SX
  q2 : Option Nat
  c2 : Nat
  sp2 : List Value
def X3.K (x : X3) (g g1 g2 : Nat) : Kl := x.s2.K false g2 x.q2 x.c2 x.sp2 (x.s1.K true g1 x.q1 x.c1 x.sp1 (x.s.K true g x.q x.c x.sp []))
structure Inv3 (n : Nat) (g g1 g2 : Nat) (x : X3) (W : World) : Prop where
  le : x.i ≤ n
  a : Ses true x.s g x.q x.c x.sp (wrs (x.K g g1 g2)) W
  b : Ses true x.s1 g1 x.q1 x.c1 x.sp1 (wrs (x.K g g1 g2)) W
  c : Ses false x.s2 g2 x.q2 x.c2 x.sp2 (wrs (x.K g g1 g2)) W
  eq : x.s2.sg = x.s.sg
  ok : SgOk x.s.sg
theorem ct_TellXP (s : SX) (g c : Nat) (q : Option Nat) (sp : List Value) (X : List Nat) (x : RP) (w : World) (h : Ses true s g q c sp X w) (hx : Im w X x.p x.rep.cells) :
    Calls Try.prog 58 #[.pointer (some ⟨g, 0, none⟩), .agg x.l.toArray] w (RetX true w g q X (fun v _ _ => v = .tuple #[]) (s.sg.tell x.rep)) :=
  (ct_TellP s g c q sp x w h.li (hx.anti h.mX) h.le).mono fun e W ⟨y, h1, ⟨h2, h3, h4, h5⟩, hW⟩ => by
    subst h1
    obtain ⟨ys, yq, yc, ysp, p2, c2, sp2⟩ := y
    dsimp only at h2 h3 h4 h5 hW
    subst h2
    refine RetX.of _ yq yc ysp hW c_sel h3 (SX.tl_sg _ _) (SX.tl_le _ _ h.le) h.mX h.lX (fun hX => ?_) (fun hX r hr => ?_) (fun _ => rfl)
    · rw [SX.tl_saw]
      exact h.saw.keep hW h.mX hX
    · rcases SX.tl_mem hr with hr | ⟨rfl, h8⟩
      · exact (h.im r hr).keep hW h.mX hX
      · exact Im.new (l := x.rep.cells) (q := yq) (X := X) hW c_sel (h4 h8) h5 h.lX hx.le
theorem ct_TellXR (s : SX) (g c : Nat) (q : Option Nat) (sp : List Value) (X : List Nat) (x : RP) (w : World) (h : Ses false s g q c sp X w) (hx : Im w X x.p x.rep.cells) :
    Calls Try.prog 125 #[.pointer (some ⟨g, 0, none⟩), .agg x.l.toArray] w (RetX false w g q X (fun v _ _ => v = .tuple #[]) (s.sg.tell x.rep)) :=
  (ct_TellR s g c q sp x w h.li h.le).mono fun e W ⟨y, h1, ⟨h2, h3⟩, hW⟩ => by
    subst h1
    obtain ⟨ys, yq, yc, ysp, p2, c2, sp2⟩ := y
    dsimp only at h2 h3 hW
    subst h2
    refine RetX.of _ yq yc ysp hW c_sel h3 (SX.tl_sg _ _) (SX.tl_le _ _ h.le) h.mX h.lX (fun hX => ?_) (fun hX r hr => ?_) (fun _ => rfl)
    · rw [SX.tl_saw]
      exact h.saw.keep hW h.mX hX
    · rcases SX.tl_mem hr with hr | ⟨rfl, h8⟩
      · exact (h.im r hr).keep hW h.mX hX
      · exact hx.keep hW h.mX hX
theorem tk_v {t : Option Rep} {v : Value} {W : World} {X : List Nat} (h : TkV t v W X) : ∃ p c, v = .tuple #[.agg #[.int .i64 (t.getD ⟨0, 0, 0, []⟩).kind, .int .i64 (t.getD ⟨0, 0, 0, []⟩).version, .int .i64 (t.getD ⟨0, 0, 0, []⟩).err, .slice p (t.getD ⟨0, 0, 0, []⟩).cells.length c], .bool t.isSome] ∧ Im W X p (t.getD ⟨0, 0, 0, []⟩).cells := by
  cases t with
  | none => exact ⟨none, 0, h, Im.nil⟩
  | some x =>
    obtain ⟨p, c, h1, h2⟩ := h
    exact ⟨p, c, h1, h2⟩
theorem srt_step {l : List Shown} (h : ∀ k, k + 1 < l.length → cLt (l.getD k default).cell (l.getD (k + 1) default).cell) : Srt l := by
  unfold Srt
  induction l with
  | nil => exact List.Pairwise.nil
  | cons x r ih =>
    have ih' := ih fun k hk => by simpa using h (k + 1) (by simpa using hk)
    simp only [List.map_cons, List.pairwise_cons]
    refine ⟨?_, ih'⟩
    cases r with
    | nil => intro d hd; cases hd
    | cons y r =>
      have h0 : cLt x.cell y.cell := by simpa using h 0 (by simp)
      intro d hd
      simp only [List.map_cons, List.pairwise_cons] at ih'
      rcases List.mem_cons.1 (by simpa using hd : d ∈ y.cell :: r.map Shown.cell) with rfl | hd
      · exact h0
      · exact cLt_trans h0 (ih'.1 d hd)
theorem sg_len {s t : SX} (h : t.sg = s.sg) : t.l.length = s.l.length := by
  have := congrArg (fun x => x.l.length) h
  simpa [SX.sg] using this
theorem rdStp {W : World} {n : Nat} {cs : List Value} (h : Rd tab W n 141 cs) : ∃ x : Stp, cs = x.l ∧ (SlA W 6 x.cs.p x.cs.xs.length (fun j => (x.cs.xs.getD j default).l) ∧ x.cs.xs.length ≤ 9223372036854775807) ∧ (SlA W 6 x.r.p x.r.rep.cells.length (fun j => (x.r.rep.cells.getD j default).l) ∧ x.r.rep.cells.length ≤ 9223372036854775807) := by
  obtain ⟨m, rfl, hl, hf⟩ := rd_st (fs := [(3, 0), (3, 1), (55, 2), (65, 8), (56, 12)]) h rfl
  obtain ⟨v0, v1, v2, v3, v4, v5, v6, v7, v8, v9, v10, v11, v12, rfl⟩ : ∃ v0 v1 v2 v3 v4 v5 v6 v7 v8 v9 v10 v11 v12, cs = [v0, v1, v2, v3, v4, v5, v6, v7, v8, v9, v10, v11, v12] := by
    match cs, hl with
    | [v0, v1, v2, v3, v4, v5, v6, v7, v8, v9, v10, v11, v12], _ => exact ⟨v0, v1, v2, v3, v4, v5, v6, v7, v8, v9, v10, v11, v12, rfl⟩
  obtain ⟨x, h1, ox⟩ := rd_i64 (hf (3, 0) (by simp) rfl) rfl
  obtain ⟨y, h2, oy⟩ := rd_i64 (hf (3, 1) (by simp) rfl) rfl
  obtain ⟨a, b, h3, _⟩ := rdRange (hf (55, 2) (by simp) rfl)
  obtain ⟨r, h4, hr⟩ := rdRp (hf (65, 8) (by simp) rfl)
  obtain ⟨p, k, cap, l, h5, hk, hle, hcap, hs, _⟩ := rdFlat (f := Shown.l) (hf (56, 12) (by simp) rfl) rfl rfl (by decide) fun _ _ h => rdShown h
  cases (show [v0] = _ from h1)
  cases (show [v1] = _ from h2)
  have h3' : [v2, v3, v4, v5, v6, v7] = a.l ++ b.l := h3
  have h4' : [v8, v9, v10, v11] = r.l := h4
  cases (show [v12] = _ from h5)
  subst hk
  refine ⟨⟨x, y, a, b, r, ⟨p, cap, l⟩⟩, ?_, ⟨hs, by show l.length ≤ _; omega⟩, hr⟩
  show _ = [Value.int .i64 x, .int .i64 y] ++ (a.l ++ b.l) ++ r.l ++ [_]
  rw [← h3', ← h4']
  rfl
end Go.Proofs.Ytkgjfcjciigcgaa
