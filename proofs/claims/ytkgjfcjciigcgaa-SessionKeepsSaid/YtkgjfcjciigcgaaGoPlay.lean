/-
  window.Play: what a watcher has behind some replies.
-/
import Derived.Test.YtkgjfcjciigcgaaGoWin
namespace Go.Proofs.Ytkgjfcjciigcgaa
open Go.Proofs.Ytkgjfcjciigcgaa.Sl Go.RowKit
set_option linter.unusedVariables false
set_option linter.unusedSimpArgs false
set_option maxRecDepth 100000

structure Rep where
  kind : Int
  version : Int
  err : Int
  cells : List Shown
  deriving Inhabited
def Rep.rl (r : Rep) (p : Option Addr) (c : Nat) : List Value := [.int .i64 r.kind, .int .i64 r.version, .int .i64 r.err, .slice p r.cells.length c]
/-- A list of replies in memory. -/
def RepsR (w : World) (p : Option Addr) (l : List Rep) : Prop := ∃ (cp : Nat → Option Addr) (cc : Nat → Nat), SlA w 4 p l.length (fun i => (l.getD i default).rl (cp i) (cc i)) ∧ ∀ i, i < l.length → SlA w 6 (cp i) (l.getD i default).cells.length (fun j => ((l.getD i default).cells.getD j default).l)
def playStep (st : Option (List (Cell × Val)) × Int) (r : Rep) : Option (Option (List (Cell × Val)) × Int) :=
  if r.kind = 2 ∨ r.kind = 3 then (if may st.1.isSome st.2 r.kind r.version then some (some (showAll r.cells (if r.kind = 2 then [] else st.1.getD [])), r.version) else none) else some st
def playAll : List Rep → Option (List (Cell × Val)) × Int → Option (Option (List (Cell × Val)) × Int)
  | [], st => some st
  | r :: l, st => (playStep st r).bind (playAll l)
theorem playAll_append : ∀ (a b : List Rep) (st : Option (List (Cell × Val)) × Int), playAll (a ++ b) st = (playAll a st).bind (playAll b)
  | [], b, st => rfl
  | r :: a, b, st => by
    rw [List.cons_append, playAll, playAll]
    cases playStep st r with
    | none => rfl
    | some st' => exact playAll_append a b st'
def playR (l : List Rep) : List Shown × Bool := match playAll l (none, 0) with
  | none => ([], false)
  | some (none, _) => ([], true)
  | some (some m, _) => (listM m, true)
def kmap (mo : Option Nat) (es : Array MapEntry) (clock : Nat) : Kl := match mo with
  | none => []
  | some g => [(g, true, .map es clock)]
theorem show1_len (m : List (Cell × Val)) (x : Shown) : (show1 m x).length ≤ m.length + 1 := by
  unfold show1
  split
  · unfold mdel
    split
    · omega
    · rename_i y _
      have := List.length_eraseIdx_le m y.1
      omega
  · unfold mset
    split <;> simp
theorem showAll_len : ∀ (l : List Shown) (m : List (Cell × Val)), (showAll l m).length ≤ m.length + l.length
  | [], m => by simp [showAll]
  | x :: r, m => by
    have h1 := showAll_len r (show1 m x)
    have h2 := show1_len m x
    show (showAll r (show1 m x)).length ≤ _
    simp only [List.length_cons]
    omega
/-- It answers a list of its own, and whether. -/
def RetPl (w : World) (x : List Shown × Bool) : Ending → World → Prop := fun e w' => ∃ q c sp, e = .returned (.tuple #[.slice (Option.map ad q) x.1.length c, .bool x.2]) ∧ Ow q x.1.length c 6 (cat Shown.l x.1) sp ∧ St w [] (ow q true (cat Shown.l x.1 ++ sp) 120) w'
theorem playAll_next {l : List Rep} {i : Nat} {s st : Option (List (Cell × Val)) × Int} (h : playAll (l.take i) s = some st) (hi : i < l.length) : playAll (l.take (i + 1)) s = playStep st (l.getD i default) := by
  rw [take_succD l i hi, playAll_append, h]
  show (playStep st (l.getD i default)).bind (playAll []) = _
  cases playStep st (l.getD i default) <;> rfl
theorem playAll_fail {l : List Rep} {i : Nat} {s : Option (List (Cell × Val)) × Int} (h : playAll (l.take i) s = none) : playAll l s = none := by
  rw [← List.take_append_drop i l, playAll_append, h]
  rfl
section
attribute [local semireducible] GE
theorem ge_perm {N : Nat} {F : Fl} {Q : Exit → Act → World → Prop} {e : Exit} {w0 : World} {M : List Nat} {K : Kl} (A B : Kl) (hK : K = A ++ B) (h : GE Q e N w0 M F (B ++ A)) : GE Q e N w0 M F K := fun a W hF hW => h a W hF (by subst hK; exact hW.perm List.perm_append_comm)
end
theorem ne_of_objs {w0 W : World} {M : List Nat} {K : Kl} (hW : St w0 M K W) {a b : Nat} {x y : Bool} {c : Array Value} {t : TypeId} {f : Nat × Nat} {es : Array MapEntry} {k : Nat} (h1 : (a, x, Obj.cells c t f) ∈ K) (h2 : (b, y, Obj.map es k) ∈ K) : a ≠ b := fun e => by
  subst e
  have h3 := hW.known _ h1
  have h4 := hW.known _ h2
  simp only at h3 h4
  rw [h3] at h4
  cases h4
theorem ct_Play {w : World} {p : Option Addr} {l : List Rep} (hR : RepsR w p l) (hl : l.length ≤ 100000) (hc : ∀ x ∈ l, x.cells.length ≤ 1000) (cap : Nat) : Calls Try.prog 75 #[.slice p l.length cap] w (RetPl w (playR l)) := by
  obtain ⟨cp, cc, hs, hs2⟩ := hR
  refine enter (args := [_]) (M := []) (K := []) Try.func75 rfl Try.ntmps75 rfl (St.refl _ _) ?_
  repeat' first
    | (refine gl_gate ?_; first
      | refine gl_nil ?_
      | (refine gl_box0 ?_; first | (refine gl_box_agg rfl rfl rfl rfl rfl ?_; intro g_ hg_) | (refine gl_box_one rfl rfl rfl rfl rfl rfl ?_; intro g_ hg_) | (refine gl_box rfl rfl rfl rfl rfl ?_; intro g_ hg_))
      | (refine gl_any0 ?_; refine gl_pure tab_ok rfl rfl rfl rfl rfl rfl ?_))
    | (refine gc_gate ?_; first
      | refine gc_seq ?_
      | refine gc_region ?_
      | refine gc_block ?_)
    | (refine ge_gate ?_; first
      | ((with_reducible refine ge_gT ?_); first | with_reducible refine ge_then ?_ | with_reducible refine ge_then_exit ?_ | with_reducible refine ge_then_ret ?_))
  generalize g_ = b at *
  refine gc_loop (α := Nat × Option Nat × Array MapEntry × Nat × List (Cell × Val) × Int) (fun x => [(2, true, .slice none 0 0), (3, true, .bool false), (4, true, .pointer (some ⟨b, 0, none⟩)), (9, true, .slice p l.length cap), (10, true, .int .i64 l.length), (11, true, .int .i64 (x.1 : Int))])
    (fun x => (b, true, .cells [.map x.2.1, .int .i64 x.2.2.2.2.2].toArray 182 (0, 0)) :: kmap x.2.1 x.2.2.1 x.2.2.2.1) (fun x => x.1 ≤ l.length ∧ playAll (l.take x.1) (none, 0) = some (x.2.1.map (fun _ => x.2.2.2.2.1), x.2.2.2.2.2) ∧ (x.2.1 ≠ none → Mp kCell vV x.2.2.2.2.1 x.2.2.1 x.2.2.2.1 ∧ x.2.2.2.2.1.length ≤ x.1 * 1000)) (fun x => l.length - x.1) (0, none, #[], 0, [], 0) c_frs (List.Sublist.refl _) ⟨Nat.zero_le _, rfl, fun h => absurd rfl h⟩ ?_
  rintro ⟨i, mo, es, clock, m, ver⟩ ⟨hi, hpl, hmp⟩
  dsimp only at hi hpl hmp ⊢
  rcases mo with _ | g
  · simp only [kmap]
    have hst : playAll (l.take i) (none, 0) = some (none, ver) := hpl
    repeat' first
      | refine gl_ev (ev_makeMap rfl rfl ?_) rfl rfl; intro g2_ hg2_
      | (refine gl_gate ?_; first
        | refine gl_nil ?_
        | (refine gl_load0 ?_; refine gl_yv (yv_load tab_ok (gok_none rfl) rfl rfl (fun _ => rfl) c_mem (fun _ => c_lds)) rfl rfl ?_)
        | (refine gl_add0 ?_; refine gl_yv (yv_add tab_ok (gok_none rfl) rfl rfl rfl rfl (fun _ => allT_of rfl) (by intro _; omega)) rfl rfl ?_)
        | (refine gl_idx0 ?_; refine gl_yv (yv_idxA tab_ok hs (gok_none rfl) rfl rfl rfl rfl rfl rfl (fun _ => rfl) (fun _ => rfl) c_bnd) rfl rfl ?_)
        | (refine gl_load0 ?_; refine gl_yv (yv_ldA0 tab_ok hs c_nm (gok_none rfl) rfl rfl (fun _ => rfl) c_bnd (fun _ => c_lds)) rfl rfl ?_)
        | (refine gl_bld0 ?_; (refine gl_ev (ev_buildSlice tab_ok rfl rfl rfl rfl rfl rfl rfl rfl rfl rfl ?_) rfl rfl; intro g_ hg_))
        | (refine gl_calv0 ?_; first | refine gl_yd (yd_call (gok_none rfl) rfl ent156 rfl rfl (fun _ => allT_of rfl) (fun _ W hW => ct_Contains23 g_ _ W (hW.kn c_mem))) rfl rfl ?_ | refine gl_yd (yd_call (gok_none rfl) rfl ent157 rfl rfl (fun _ => allT_of rfl) (fun _ W hW => ct_may (hW.kn c_mem) _ _ _)) rfl rfl ?_)
        | (refine gl_alc0 ?_; (refine gl_alloc tab_ok rfl rfl rfl rfl rfl ?_; intro g_ hg_))
        | (refine gl_sto0 ?_; refine gl_store tab_ok rfl rfl rfl rfl rfl rfl rfl c_one rfl c_ku ?_)
        | (refine gl_any0 ?_; refine gl_pure tab_ok rfl rfl rfl rfl rfl rfl ?_))
      | (refine gc_gate ?_; first
        | refine gc_seq ?_
        | refine gc_region ?_
        | (refine gc_cond rfl ?_ ?_ <;> intro h_ <;> have hd_ := h_ <;> (try simp only [bytes_beq, cell_beq, val_beq, stamp_beq, decide_eq_true_eq, decide_eq_false_iff_not, Bool.and_eq_true, Bool.or_eq_true, Bool.or_eq_false_iff, Bool.not_eq_true', Bool.not_eq_false', Bool.not_true, Bool.not_false, Bool.false_or, Bool.true_and, Bool.and_true, Bool.or_false, beq_iff_eq, bne_iff_ne, beq_eq_false_iff_ne, bne_eq_false_iff_eq, ne_eq, Bool.false_eq_true, reduceCtorEq] at hd_) <;> (try (exfalso; omega)))
        | refine gc_block ?_
        | refine gc_exit ?_
        | refine gc_ret ?_
        | refine gc_skip ?_)
      | (refine ge_gate ?_; first
        | ((with_reducible refine ge_gT ?_); first | with_reducible refine ge_then ?_ | with_reducible refine ge_then_exit ?_ | with_reducible refine ge_then_ret ?_)
        | ((with_reducible refine ge_gK ?_); first | with_reducible refine ge_block ?_ | refine ge_block_exit ?_ | refine ge_block_pass rfl ?_ | with_reducible refine ge_block_ret ?_)
        | ((with_reducible refine ge_gB ?_); first | refine ge_ret1 tab_ok rfl c_rvt ?_ | refine ge_end1 tab_ok rfl c_rvt ?_ | refine ge_ret2 tab_ok rfl c_rvt c_rvt ?_ | refine ge_ret_none rfl ?_ | refine ge_end_none rfl ?_))
    · refine ge_round (i + 1, none, es, clock, m, ver) ⟨by omega, ?_, fun h => absurd rfl h⟩ (by show l.length - (i + 1) < l.length - i; omega) c_frs (List.Sublist.cons _ (List.Sublist.cons _ (List.Sublist.refl _)))
      show playAll (l.take (i + 1)) (none, 0) = some (none, ver)
      rw [playAll_next hst (by omega), playStep, if_neg hd_]
    · intro W hW
      have hk : (l.getD i default).kind = 2 ∨ (l.getD i default).kind = 3 := by assumption
      have e : playR l = ([], false) := by
        unfold playR
        rw [playAll_fail (i := i + 1) (by rw [playAll_next hst (by omega), playStep, if_pos hk]; have hd2 : may false ver (l.getD i default).kind (l.getD i default).version = false := hd_; show (if may false ver _ _ then _ else _) = _; rw [hd2]; rfl)]
      rw [e]
      exact ⟨none, 0, [], rfl, Ow.none0, hW.drop (List.nil_sublist _)⟩
    · have hd2 : may false ver (l.getD i default).kind (l.getD i default).version = true := by assumption
      have hk : (l.getD i default).kind = 2 ∨ (l.getD i default).kind = 3 := by assumption
      have hmay : may false ver (l.getD i default).kind (l.getD i default).version = true := by assumption
      have hcl := hc _ (getD_mem l i (by omega))
      have hsl := showAll_len (l.getD i default).cells []
      refine gl_ev (ev_callG (val := fun _ : Array MapEntry × Nat => .tuple #[]) (ob := fun x => .map x.1 x.2) (φ := fun x => Mp kCell vV (showAll (l.getD i default).cells []) x.1 x.2) (g := g2_) (o1 := .map #[] 0) rfl rfl ent158 rfl rfl rfl (fun W hW => ct_show (b := b) (hW.kn c_mem) (hW.kn (wr := true) c_mem) Mp.nil ((hs2 i (by omega)).st hW) rfl (fun h => by have := (hs2 i (by omega)).lt h; omega) (ne_of_objs hW (a := b) (b := g2_) (x := true) (y := true) c_mem c_mem) (by omega)) (fun x hx => ⟨_, c_ku, ?_⟩)) rfl rfl
      repeat' first
        | (refine gl_gate ?_; first
          | refine gl_nil ?_
          | (refine gl_add0 ?_; refine gl_yv (yv_add tab_ok (gok_none rfl) rfl rfl rfl rfl (fun _ => allT_of rfl) (by intro _; omega)) rfl rfl ?_)
          | (refine gl_any0 ?_; refine gl_pure tab_ok rfl rfl rfl rfl rfl rfl ?_))
        | (refine gc_gate ?_; first
          | refine gc_region ?_)
        | (refine ge_gate ?_; first
          | ((with_reducible refine ge_gT ?_); first | with_reducible refine ge_then ?_ | with_reducible refine ge_then_exit ?_ | with_reducible refine ge_then_ret ?_)
          | ((with_reducible refine ge_gK ?_); first | with_reducible refine ge_block ?_ | refine ge_block_exit ?_ | refine ge_block_pass rfl ?_ | with_reducible refine ge_block_ret ?_))
      refine ge_perm [_, _, _] _ rfl ?_
      refine ge_round (i + 1, some g2_, x.1, x.2, showAll (l.getD i default).cells [], (l.getD i default).version) ⟨by omega, ?_, fun _ => ⟨hx, ?_⟩⟩ (by show l.length - (i + 1) < l.length - i; omega) c_frs ?_
      · show playAll (l.take (i + 1)) (none, 0) = some (some (showAll (l.getD i default).cells []), (l.getD i default).version)
        rw [playAll_next hst (by omega), playStep, if_pos hk]
        show (if may false ver _ _ then _ else _) = _
        rw [hmay, if_pos rfl, if_pos hd_]
      · show (showAll (l.getD i default).cells []).length ≤ (i + 1) * 1000
        (try simp only [List.length_nil] at hsl)
        omega
      · exact List.Sublist.cons_cons _ (List.Sublist.cons_cons _ (List.nil_sublist _))
    · exfalso
      have hd2 : may false ver (l.getD i default).kind (l.getD i default).version = true := by assumption
      unfold may at hd2
      simp only [Bool.false_eq_true, if_false, decide_eq_true_eq] at hd2
      exact hd_ hd2
    · have e : playR l = ([], true) := by
        have hi2 : i = l.length := by omega
        rw [hi2, List.take_length] at hst
        unfold playR
        rw [hst]
      rw [e]
      repeat' first
        | (refine gl_gate ?_; first
          | refine gl_nil ?_
          | (refine gl_any0 ?_; (refine gl_ev (ev_callOw rfl rfl ent159 rfl rfl rfl (fun W hW => ct_ListN W) ?_) rfl rfl; intro q_ c_ sp_ hw_))
          | (refine gl_any0 ?_; refine gl_pure tab_ok rfl rfl rfl rfl rfl rfl ?_))
        | (refine gc_gate ?_; first
          | refine gc_ret ?_)
        | (refine ge_gate ?_; first
          | ((with_reducible refine ge_gT ?_); first | with_reducible refine ge_then ?_ | with_reducible refine ge_then_exit ?_ | with_reducible refine ge_then_ret ?_)
          | ((with_reducible refine ge_gB ?_); first | refine ge_ret1 tab_ok rfl c_rvt ?_ | refine ge_end1 tab_ok rfl c_rvt ?_ | refine ge_ret2 tab_ok rfl c_rvt c_rvt ?_ | refine ge_ret_none rfl ?_ | refine ge_end_none rfl ?_))
      intro W hW
      exact ⟨q_, c_, sp_, rfl, hw_, hW.drop (List.sublist_append_left _ _)⟩
  · simp only [kmap]
    obtain ⟨hmp1, hmp2⟩ := hmp (by simp)
    have hst : playAll (l.take i) (none, 0) = some (some m, ver) := hpl
    repeat' first
      | refine gl_ev (ev_makeMap rfl rfl ?_) rfl rfl; intro g2_ hg2_
      | (refine gl_gate ?_; first
        | refine gl_nil ?_
        | (refine gl_load0 ?_; refine gl_yv (yv_load tab_ok (gok_none rfl) rfl rfl (fun _ => rfl) c_mem (fun _ => c_lds)) rfl rfl ?_)
        | (refine gl_add0 ?_; refine gl_yv (yv_add tab_ok (gok_none rfl) rfl rfl rfl rfl (fun _ => allT_of rfl) (by intro _; omega)) rfl rfl ?_)
        | (refine gl_idx0 ?_; refine gl_yv (yv_idxA tab_ok hs (gok_none rfl) rfl rfl rfl rfl rfl rfl (fun _ => rfl) (fun _ => rfl) c_bnd) rfl rfl ?_)
        | (refine gl_load0 ?_; refine gl_yv (yv_ldA0 tab_ok hs c_nm (gok_none rfl) rfl rfl (fun _ => rfl) c_bnd (fun _ => c_lds)) rfl rfl ?_)
        | (refine gl_bld0 ?_; (refine gl_ev (ev_buildSlice tab_ok rfl rfl rfl rfl rfl rfl rfl rfl rfl rfl ?_) rfl rfl; intro g_ hg_))
        | (refine gl_calv0 ?_; first | refine gl_yd (yd_call (gok_none rfl) rfl ent156 rfl rfl (fun _ => allT_of rfl) (fun _ W hW => ct_Contains23 g_ _ W (hW.kn c_mem))) rfl rfl ?_ | refine gl_yd (yd_call (gok_none rfl) rfl ent157 rfl rfl (fun _ => allT_of rfl) (fun _ W hW => ct_may (hW.kn c_mem) _ _ _)) rfl rfl ?_)
        | (refine gl_alc0 ?_; (refine gl_alloc tab_ok rfl rfl rfl rfl rfl ?_; intro g_ hg_))
        | (refine gl_sto0 ?_; refine gl_store tab_ok rfl rfl rfl rfl rfl rfl rfl c_one rfl c_ku ?_)
        | (refine gl_any0 ?_; refine gl_pure tab_ok rfl rfl rfl rfl rfl rfl ?_))
      | (refine gc_gate ?_; first
        | refine gc_seq ?_
        | refine gc_region ?_
        | (refine gc_cond rfl ?_ ?_ <;> intro h_ <;> have hd_ := h_ <;> (try simp only [bytes_beq, cell_beq, val_beq, stamp_beq, decide_eq_true_eq, decide_eq_false_iff_not, Bool.and_eq_true, Bool.or_eq_true, Bool.or_eq_false_iff, Bool.not_eq_true', Bool.not_eq_false', Bool.not_true, Bool.not_false, Bool.false_or, Bool.true_and, Bool.and_true, Bool.or_false, beq_iff_eq, bne_iff_ne, beq_eq_false_iff_ne, bne_eq_false_iff_eq, ne_eq, Bool.false_eq_true, reduceCtorEq] at hd_) <;> (try (exfalso; omega)))
        | refine gc_block ?_
        | refine gc_exit ?_
        | refine gc_ret ?_
        | refine gc_skip ?_)
      | (refine ge_gate ?_; first
        | ((with_reducible refine ge_gT ?_); first | with_reducible refine ge_then ?_ | with_reducible refine ge_then_exit ?_ | with_reducible refine ge_then_ret ?_)
        | ((with_reducible refine ge_gK ?_); first | with_reducible refine ge_block ?_ | refine ge_block_exit ?_ | refine ge_block_pass rfl ?_ | with_reducible refine ge_block_ret ?_)
        | ((with_reducible refine ge_gB ?_); first | refine ge_ret1 tab_ok rfl c_rvt ?_ | refine ge_end1 tab_ok rfl c_rvt ?_ | refine ge_ret2 tab_ok rfl c_rvt c_rvt ?_ | refine ge_ret_none rfl ?_ | refine ge_end_none rfl ?_))
    · refine ge_round (i + 1, some g, es, clock, m, ver) ⟨by omega, ?_, fun _ => ⟨hmp1, by show m.length ≤ (i + 1) * 1000; omega⟩⟩ (by show l.length - (i + 1) < l.length - i; omega) c_frs (List.Sublist.cons _ (List.Sublist.cons _ (List.Sublist.refl _)))
      show playAll (l.take (i + 1)) (none, 0) = some (some m, ver)
      rw [playAll_next hst (by omega), playStep, if_neg hd_]
    · intro W hW
      have hk : (l.getD i default).kind = 2 ∨ (l.getD i default).kind = 3 := by assumption
      have e : playR l = ([], false) := by
        unfold playR
        rw [playAll_fail (i := i + 1) (by rw [playAll_next hst (by omega), playStep, if_pos hk]; have hd2 : may true ver (l.getD i default).kind (l.getD i default).version = false := hd_; show (if may true ver _ _ then _ else _) = _; rw [hd2]; rfl)]
      rw [e]
      exact ⟨none, 0, [], rfl, Ow.none0, hW.drop (List.nil_sublist _)⟩
    · skip
      have hk : (l.getD i default).kind = 2 ∨ (l.getD i default).kind = 3 := by assumption
      have hmay : may true ver (l.getD i default).kind (l.getD i default).version = true := by assumption
      have hcl := hc _ (getD_mem l i (by omega))
      have hsl := showAll_len (l.getD i default).cells []
      refine gl_ev (ev_callG (val := fun _ : Array MapEntry × Nat => .tuple #[]) (ob := fun x => .map x.1 x.2) (φ := fun x => Mp kCell vV (showAll (l.getD i default).cells []) x.1 x.2) (g := g2_) (o1 := .map #[] 0) rfl rfl ent158 rfl rfl rfl (fun W hW => ct_show (b := b) (hW.kn c_mem) (hW.kn (wr := true) c_mem) Mp.nil ((hs2 i (by omega)).st hW) rfl (fun h => by have := (hs2 i (by omega)).lt h; omega) (ne_of_objs hW (a := b) (b := g2_) (x := true) (y := true) c_mem c_mem) (by omega)) (fun x hx => ⟨_, c_ku, ?_⟩)) rfl rfl
      repeat' first
        | (refine gl_gate ?_; first
          | refine gl_nil ?_
          | (refine gl_add0 ?_; refine gl_yv (yv_add tab_ok (gok_none rfl) rfl rfl rfl rfl (fun _ => allT_of rfl) (by intro _; omega)) rfl rfl ?_)
          | (refine gl_any0 ?_; refine gl_pure tab_ok rfl rfl rfl rfl rfl rfl ?_))
        | (refine gc_gate ?_; first
          | refine gc_region ?_)
        | (refine ge_gate ?_; first
          | ((with_reducible refine ge_gT ?_); first | with_reducible refine ge_then ?_ | with_reducible refine ge_then_exit ?_ | with_reducible refine ge_then_ret ?_)
          | ((with_reducible refine ge_gK ?_); first | with_reducible refine ge_block ?_ | refine ge_block_exit ?_ | refine ge_block_pass rfl ?_ | with_reducible refine ge_block_ret ?_))
      refine ge_perm [_, _, _] _ rfl ?_
      refine ge_round (i + 1, some g2_, x.1, x.2, showAll (l.getD i default).cells [], (l.getD i default).version) ⟨by omega, ?_, fun _ => ⟨hx, ?_⟩⟩ (by show l.length - (i + 1) < l.length - i; omega) c_frs ?_
      · show playAll (l.take (i + 1)) (none, 0) = some (some (showAll (l.getD i default).cells []), (l.getD i default).version)
        rw [playAll_next hst (by omega), playStep, if_pos hk]
        show (if may true ver _ _ then _ else _) = _
        rw [hmay, if_pos rfl, if_pos hd_]
      · show (showAll (l.getD i default).cells []).length ≤ (i + 1) * 1000
        (try simp only [List.length_nil] at hsl)
        omega
      · exact List.Sublist.cons_cons _ (List.Sublist.cons _ (List.Sublist.cons_cons _ (List.nil_sublist _)))
    · skip
      have hk : (l.getD i default).kind = 2 ∨ (l.getD i default).kind = 3 := by assumption
      have hmay : may true ver (l.getD i default).kind (l.getD i default).version = true := by assumption
      have hcl := hc _ (getD_mem l i (by omega))
      have hsl := showAll_len (l.getD i default).cells m
      refine gl_ev (ev_callG (val := fun _ : Array MapEntry × Nat => .tuple #[]) (ob := fun x => .map x.1 x.2) (φ := fun x => Mp kCell vV (showAll (l.getD i default).cells m) x.1 x.2) (g := g) (o1 := .map es clock) rfl rfl ent158 rfl rfl rfl (fun W hW => ct_show (b := b) (hW.kn c_mem) (hW.kn (wr := true) c_mem) hmp1 ((hs2 i (by omega)).st hW) rfl (fun h => by have := (hs2 i (by omega)).lt h; have := (hW.wr (g, true, .map es clock) c_mem rfl).resolve_right (by simp); simp only at this; omega) (ne_of_objs hW (a := b) (b := g) (x := true) (y := true) c_mem c_mem) (by omega)) (fun x hx => ⟨_, c_ku, ?_⟩)) rfl rfl
      repeat' first
        | (refine gl_gate ?_; first
          | refine gl_nil ?_
          | (refine gl_add0 ?_; refine gl_yv (yv_add tab_ok (gok_none rfl) rfl rfl rfl rfl (fun _ => allT_of rfl) (by intro _; omega)) rfl rfl ?_)
          | (refine gl_any0 ?_; refine gl_pure tab_ok rfl rfl rfl rfl rfl rfl ?_))
        | (refine gc_gate ?_; first
          | refine gc_region ?_)
        | (refine ge_gate ?_; first
          | ((with_reducible refine ge_gT ?_); first | with_reducible refine ge_then ?_ | with_reducible refine ge_then_exit ?_ | with_reducible refine ge_then_ret ?_)
          | ((with_reducible refine ge_gK ?_); first | with_reducible refine ge_block ?_ | refine ge_block_exit ?_ | refine ge_block_pass rfl ?_ | with_reducible refine ge_block_ret ?_))
      refine ge_round (i + 1, some g, x.1, x.2, showAll (l.getD i default).cells m, (l.getD i default).version) ⟨by omega, ?_, fun _ => ⟨hx, ?_⟩⟩ (by show l.length - (i + 1) < l.length - i; omega) c_frs ?_
      · show playAll (l.take (i + 1)) (none, 0) = some (some (showAll (l.getD i default).cells m), (l.getD i default).version)
        rw [playAll_next hst (by omega), playStep, if_pos hk]
        show (if may true ver _ _ then _ else _) = _
        rw [hmay, if_pos rfl, if_neg hd_]
        rfl
      · show (showAll (l.getD i default).cells m).length ≤ (i + 1) * 1000
        (try simp only [List.length_nil] at hsl)
        omega
      · exact List.Sublist.cons _ (List.Sublist.cons _ (List.Sublist.refl _))
    · have e : playR l = (listM m, true) := by
        have hi2 : i = l.length := by omega
        rw [hi2, List.take_length] at hst
        unfold playR
        rw [hst]
      rw [e]
      repeat' first
        | (refine gl_gate ?_; first
          | refine gl_nil ?_
          | (refine gl_any0 ?_; (refine gl_ev (ev_callOw rfl rfl ent159 rfl rfl rfl (fun W hW => ct_List (hW.kn (wr := true) c_mem) hmp1 (by omega)) ?_) rfl rfl; intro q_ c_ sp_ hw_))
          | (refine gl_any0 ?_; refine gl_pure tab_ok rfl rfl rfl rfl rfl rfl ?_))
        | (refine gc_gate ?_; first
          | refine gc_ret ?_)
        | (refine ge_gate ?_; first
          | ((with_reducible refine ge_gT ?_); first | with_reducible refine ge_then ?_ | with_reducible refine ge_then_exit ?_ | with_reducible refine ge_then_ret ?_)
          | ((with_reducible refine ge_gB ?_); first | refine ge_ret1 tab_ok rfl c_rvt ?_ | refine ge_end1 tab_ok rfl c_rvt ?_ | refine ge_ret2 tab_ok rfl c_rvt c_rvt ?_ | refine ge_ret_none rfl ?_ | refine ge_end_none rfl ?_))
      intro W hW
      exact ⟨q_, c_, sp_, rfl, hw_, hW.drop (List.sublist_append_left _ _)⟩
end Go.Proofs.Ytkgjfcjciigcgaa
