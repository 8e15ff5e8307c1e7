/-
  slices.Compact of a slice of texts of one's own; the sheets that a formula reads, of both.
-/
import Derived.Test.YtkgjfcjciigcgaaGoReadsN
namespace Go.Proofs.Ytkgjfcjciigcgaa
open Go.Proofs.Ytkgjfcjciigcgaa.Sl Go.RowKit
set_option linter.unusedVariables false
set_option linter.unusedSimpArgs false
set_option maxRecDepth 100000

def S1 (s : ByteArray) : List Value := [.string s]
theorem len_S1 (s : ByteArray) : (S1 s).length = 1 := rfl
theorem ones_S1 (s : ByteArray) : ∀ u ∈ S1 s, u.oneCell' = true := by
  intro u hu
  simp [S1] at hu
  subst hu
  rfl
theorem cat_S1 (xs : List ByteArray) : cat S1 xs = xs.map .string := by
  unfold cat
  induction xs with
  | nil => rfl
  | cons x r ih => simp [S1, ih]
theorem lds_S1 {xs : List ByteArray} {sp : List Value} {i : Nat} (hi : i < xs.length) : Lds tab 9 (cat S1 xs ++ sp) i (.string (xs.getD i default)) := by
  refine lds_one (d := ⟨.string, _, _, _⟩) rfl rfl rfl ?_
  rw [nth_eq, cat_S1, List.getElem?_append_left (by simpa using hi)]
  simp [List.getD, hi]
theorem putS1 {xs : List ByteArray} {sp : List Value} {i : Nat} (s : ByteArray) (hi : i < xs.length) : putL i [.string s] (cat S1 xs ++ sp) = some (cat S1 (xs.set i s) ++ sp) := by
  rw [cat_S1, cat_S1, putL_some _ _ _ (by simp; omega)]
  congr 1
  rw [List.take_append_of_le_length (by simp; omega), List.drop_append_of_le_length (by simp; omega), List.map_set, List.set_eq_take_append_cons_drop, if_pos (by simpa using hi)]
  simp
theorem sheetsOf_short {l : List ByteArray} (h : l.length < 2) : sheetsOf l = l := by
  match l, h with
  | [], _ => rfl
  | [x], _ => rfl
theorem getD_take {l m : List ByteArray} {k : Nat} (h : m.take k = l) (j : Nat) (hj : j < l.length) : m.getD j default = l.getD j default := by
  subst h
  simp only [List.length_take] at hj
  simp [List.getD, List.getElem?_take, show j < k by omega]
section
variable {P : Program} {T : Tab} {F : Fl} {l : List Oper} {o : Oper} {q : Bool} {C : World → Prop} {N : Nat}
theorem yv_ix0 (hT : TabOk P T) {t : TypeId} {x ix : Operand} {px pi : Bool} {k : IntKind} {b n c i : Nat} {e : TypeId} {d : TyD} {s bs : Nat} {z : List Value} (hg : Gok l F o q) (ho : o.op = .indexAddr t x ix) (hx : Fo F x = some (px, .slice (some (ad b)) n c)) (hi : Fo F ix = some (pi, .int k (i : Int)))
    (ht : ty T t = some ⟨.slice e, s, bs, z⟩) (he : ty T e = some d) (hs : d.size = 1) (hp : q = true → px = true) (hp' : q = true → pi = true) (hb : q = true → i < n) : Yv P C l N F o q (.pointer (some ⟨b, i, none⟩)) :=
  (yv_indexAddr hT hg ho hx hi ht he hp hp' (fun h => ⟨by omega, by have := hb h; omega⟩)).cast (by rw [hs]; simp)
theorem yv_ixo (hT : TabOk P T) {t : TypeId} {x ix : Operand} {px pi : Bool} {k : IntKind} {b n c i off : Nat} {e : TypeId} {d : TyD} {s bs : Nat} {z : List Value} (hg : Gok l F o q) (ho : o.op = .indexAddr t x ix) (hx : Fo F x = some (px, .slice (some ⟨b, off, none⟩) n c)) (hi : Fo F ix = some (pi, .int k (i : Int)))
    (ht : ty T t = some ⟨.slice e, s, bs, z⟩) (he : ty T e = some d) (hs : d.size = 1) (hp : q = true → px = true) (hp' : q = true → pi = true) (hb : q = true → i < n) : Yv P C l N F o q (.pointer (some ⟨b, off + i, none⟩)) :=
  (yv_indexAddr hT hg ho hx hi ht he hp hp' (fun h => ⟨by omega, by have := hb h; omega⟩)).cast (by rw [hs]; simp)
end
theorem ct_CompactN (w : World) : Calls Try.prog 174 #[.slice none 0 0] w fun e w' => e = .returned (.slice none 0 0) ∧ Bl w w' := by
  refine enter (args := [_]) (M := []) (K := []) Try.func174 rfl Try.ntmps174 rfl (St.refl _ _) ?_
  repeat' first
    | (refine gl_gate ?_; first
      | refine gl_nil ?_
      | (refine gl_any0 ?_; refine gl_pure tab_ok rfl rfl rfl rfl rfl rfl ?_))
    | (refine gc_gate ?_; first
      | refine gc_seq ?_
      | refine gc_region ?_
      | refine gc_true rfl ?_
      | refine gc_ret ?_)
    | (refine ge_gate ?_; first
      | ((with_reducible refine ge_gT ?_); first | with_reducible refine ge_then ?_ | with_reducible refine ge_then_exit ?_ | with_reducible refine ge_then_ret ?_)
      | ((with_reducible refine ge_gB ?_); first | refine ge_ret1 tab_ok rfl c_rvt ?_ | refine ge_end1 tab_ok rfl c_rvt ?_ | refine ge_ret2 tab_ok rfl c_rvt c_rvt ?_ | refine ge_ret_none rfl ?_ | refine ge_end_none rfl ?_))
  intro W hW
  exact ⟨rfl, hW.below0⟩
theorem ct_Compact {g c : Nat} {l : List ByteArray} {sp : List Value} {w : World} (hb : w.heap[g]? = some (.cells (cat S1 l ++ sp).toArray 9 (0, 0))) (hc : l.length ≤ c) (hsp : sp.length = c - l.length) (hsz : l.length < 4611686018427387904) :
    Calls Try.prog 174 #[.slice (some (ad g)) l.length c] w (RetG w g (fun _ : List Value => .slice (some (ad g)) (sheetsOf l).length c) (fun s => .cells (cat S1 (sheetsOf l) ++ s).toArray 9 (0, 0)) (fun s => s.length = c - (sheetsOf l).length)) := by
  have hadd : ∀ m, (ad g).add m = ⟨g, m, none⟩ := fun m => by
    have := addA' g 0 m
    rw [Nat.zero_add] at this
    exact this
  refine enter (args := [_]) (M := []) (K := []) Try.func174 rfl Try.ntmps174 rfl (St.refl _ _) ?_
  refine gc_own [(g, true, .cells (cat S1 l ++ sp).toArray 9 (0, 0))] (by simpa using hb) (by simp) ?_
  unfold RetG
  generalize hM : ([(g, true, Obj.cells (cat S1 l ++ sp).toArray 9 (0, 0))] : Kl).map (·.1) = M
  rw [show [g] = M from hM]
  repeat' first
    | (refine gl_gate ?_; first
      | refine gl_nil ?_
      | (refine gl_any0 ?_; refine gl_pure tab_ok rfl rfl rfl rfl rfl rfl ?_))
    | (refine gc_gate ?_; first
      | refine gc_seq ?_
      | refine gc_region ?_)
    | (refine ge_gate ?_; first
      | ((with_reducible refine ge_gT ?_); first | with_reducible refine ge_then ?_ | with_reducible refine ge_then_exit ?_ | with_reducible refine ge_then_ret ?_))
  (refine gc_cond rfl ?_ ?_ <;> intro h_ <;> have hd_ := h_ <;> (try simp only [bytes_beq, cell_beq, val_beq, stamp_beq, decide_eq_true_eq, decide_eq_false_iff_not, Bool.and_eq_true, Bool.or_eq_true, Bool.or_eq_false_iff, Bool.not_eq_true', Bool.not_eq_false', Bool.not_true, Bool.not_false, Bool.false_or, Bool.true_and, Bool.and_true, Bool.or_false, beq_iff_eq, bne_iff_ne, beq_eq_false_iff_ne, bne_eq_false_iff_eq, ne_eq, Bool.false_eq_true, reduceCtorEq] at hd_) <;> (try (exfalso; omega)))
  · repeat' first
      | (refine gl_gate ?_; first
        | refine gl_nil ?_
        | (refine gl_any0 ?_; refine gl_pure tab_ok rfl rfl rfl rfl rfl rfl ?_))
      | (refine gc_gate ?_; first
        | refine gc_seq ?_
        | refine gc_region ?_
        | refine gc_ret ?_)
      | (refine ge_gate ?_; first
        | ((with_reducible refine ge_gT ?_); first | with_reducible refine ge_then ?_ | with_reducible refine ge_then_exit ?_ | with_reducible refine ge_then_ret ?_)
        | ((with_reducible refine ge_gB ?_); first | refine ge_ret1 tab_ok rfl c_rvt ?_ | refine ge_end1 tab_ok rfl c_rvt ?_ | refine ge_ret2 tab_ok rfl c_rvt c_rvt ?_ | refine ge_ret_none rfl ?_ | refine ge_end_none rfl ?_))
    intro W hW
    have e := sheetsOf_short (l := l) (by omega)
    rw [e]
    exact ⟨sp, rfl, hsp, hW⟩
  repeat' first
    | (refine gl_gate ?_; first
      | refine gl_nil ?_
      | (refine gl_any0 ?_; refine gl_pure tab_ok rfl rfl rfl rfl rfl rfl ?_))
    | (refine gc_gate ?_; first
      | refine gc_seq ?_
      | refine gc_region ?_
      | refine gc_block ?_
      | refine gc_skip ?_)
    | (refine ge_gate ?_; first
      | ((with_reducible refine ge_gT ?_); first | with_reducible refine ge_then ?_ | with_reducible refine ge_then_exit ?_ | with_reducible refine ge_then_ret ?_))
  refine gc_loop (α := Nat) (fun k => [(0, true, .slice (some (ad g)) l.length c), (3, true, .int .i64 (k : Int))]) (fun _ => [(g, true, .cells (cat S1 l ++ sp).toArray 9 (0, 0))]) (fun k => 1 ≤ k ∧ k ≤ l.length ∧ sheetsOf (l.take k) = l.take k) (fun k => l.length - k) 1 c_frs (List.Sublist.refl _) ⟨Nat.le_refl _, by omega, sheetsOf_short (by simp; omega)⟩ ?_
  rintro k ⟨hk1, hk2, hk⟩
  repeat' first
    | (refine gl_gate ?_; first
      | refine gl_nil ?_
      | (refine gl_any0 ?_; refine gl_pure tab_ok rfl rfl rfl rfl rfl rfl ?_))
    | (refine gc_gate ?_; first
      | refine gc_seq ?_
      | refine gc_region ?_)
    | (refine ge_gate ?_; first
      | ((with_reducible refine ge_gT ?_); first | with_reducible refine ge_then ?_ | with_reducible refine ge_then_exit ?_ | with_reducible refine ge_then_ret ?_))
  (refine gc_cond rfl ?_ ?_ <;> intro h_ <;> have hd_ := h_ <;> (try simp only [bytes_beq, cell_beq, val_beq, stamp_beq, decide_eq_true_eq, decide_eq_false_iff_not, Bool.and_eq_true, Bool.or_eq_true, Bool.or_eq_false_iff, Bool.not_eq_true', Bool.not_eq_false', Bool.not_true, Bool.not_false, Bool.false_or, Bool.true_and, Bool.and_true, Bool.or_false, beq_iff_eq, bne_iff_ne, beq_eq_false_iff_ne, bne_eq_false_iff_eq, ne_eq, Bool.false_eq_true, reduceCtorEq] at hd_) <;> (try (exfalso; omega)))
  rotate_left
  · repeat' first
      | (refine gl_gate ?_; first
        | refine gl_nil ?_
        | (refine gl_any0 ?_; refine gl_pure tab_ok rfl rfl rfl rfl rfl rfl ?_))
      | (refine gc_gate ?_; first
        | refine gc_seq ?_
        | refine gc_region ?_
        | refine gc_exit ?_
        | refine gc_ret ?_)
      | (refine ge_gate ?_; first
        | ((with_reducible refine ge_gT ?_); first | with_reducible refine ge_then ?_ | with_reducible refine ge_then_exit ?_ | with_reducible refine ge_then_ret ?_)
        | ((with_reducible refine ge_gK ?_); first | with_reducible refine ge_block ?_ | refine ge_block_exit ?_ | refine ge_block_pass rfl ?_ | with_reducible refine ge_block_ret ?_)
        | ((with_reducible refine ge_gB ?_); first | refine ge_ret1 tab_ok rfl c_rvt ?_ | refine ge_end1 tab_ok rfl c_rvt ?_ | refine ge_ret2 tab_ok rfl c_rvt c_rvt ?_ | refine ge_ret_none rfl ?_ | refine ge_end_none rfl ?_))
    intro W hW
    have h1 : k = l.length := by omega
    rw [h1, List.take_length] at hk
    rw [hk]
    exact ⟨sp, rfl, hsp, hW⟩
  have hkl : k < l.length := by omega
  repeat' first
    | (refine gq_idx0 ?_; refine gq_yv (yv_ix0 tab_ok (gok_none rfl) rfl rfl rfl rfl rfl rfl (fun _ => rfl) (fun _ => rfl) c_bnd) rfl rfl ?_)
    | (refine gq_load0 ?_; refine gq_yv (yv_load tab_ok (gok_none rfl) rfl rfl (fun _ => rfl) c_mem (fun _ => lds_S1 (by omega))) rfl rfl ?_)
    | (refine gq_sub0 ?_; refine gq_yv ((yv_sub tab_ok (gok_none rfl) rfl rfl rfl rfl (fun _ => allT_of rfl) (by intro _; omega)).cast (v' := .int .i64 ((k - 1 : Nat) : Int)) (by congr 1; omega)) rfl rfl ?_)
    | (refine gc_gate ?_; first
      | refine gc_seq ?_
      | refine gc_quietRo rfl mixed (by decide +kernel) ?_
      | refine gc_block ?_
      | refine gc_skip ?_)
    | (refine ge_gate ?_; first
      | ((with_reducible refine ge_gT ?_); first | with_reducible refine ge_then ?_ | with_reducible refine ge_then_exit ?_ | with_reducible refine ge_then_ret ?_))
    | (refine gq_gate ?_; first
      | refine gq_nil ?_
      | (refine gq_any0 ?_; refine gq_pure tab_ok rfl rfl rfl rfl rfl rfl ?_))
  (refine gc_cond rfl ?_ ?_ <;> intro h_ <;> have hd_ := h_ <;> (try simp only [bytes_beq, cell_beq, val_beq, stamp_beq, decide_eq_true_eq, decide_eq_false_iff_not, Bool.and_eq_true, Bool.or_eq_true, Bool.or_eq_false_iff, Bool.not_eq_true', Bool.not_eq_false', Bool.not_true, Bool.not_false, Bool.false_or, Bool.true_and, Bool.and_true, Bool.or_false, beq_iff_eq, bne_iff_ne, beq_eq_false_iff_ne, bne_eq_false_iff_eq, ne_eq, Bool.false_eq_true, reduceCtorEq] at hd_) <;> (try (exfalso; omega)))
  rotate_left
  · repeat' first
      | (refine gl_gate ?_; first
        | refine gl_nil ?_
        | (refine gl_add0 ?_; refine gl_yv (yv_add tab_ok (gok_none rfl) rfl rfl rfl rfl (fun _ => allT_of rfl) (by intro _; omega)) rfl rfl ?_)
        | (refine gl_any0 ?_; refine gl_pure tab_ok rfl rfl rfl rfl rfl rfl ?_))
      | (refine gc_gate ?_; first
        | refine gc_region ?_
        | refine gc_skip ?_)
      | (refine ge_gate ?_; first
        | ((with_reducible refine ge_gT ?_); first | with_reducible refine ge_then ?_ | with_reducible refine ge_then_exit ?_ | with_reducible refine ge_then_ret ?_)
        | ((with_reducible refine ge_gK ?_); first | with_reducible refine ge_block ?_ | refine ge_block_exit ?_ | refine ge_block_pass rfl ?_ | with_reducible refine ge_block_ret ?_))
    refine ge_round (k + 1) ⟨by omega, by omega, ?_⟩ (by omega) c_frs (List.Sublist.refl _)
    rw [sheetsOf_take _ _ hkl, addS_at _ _ hk1 hkl, if_neg hd_, hk, take_succD _ _ hkl]
  have hsh : sheetsOf (l.take (k + 1)) = l.take k := by rw [sheetsOf_take _ _ hkl, addS_at _ _ hk1 hkl, if_pos hd_, hk]
  repeat' first
    | (refine gl_any0 ?_; refine gl_yv ((yv_sliceL (lo := k) tab_ok (gok_none rfl) rfl rfl rfl rfl rfl (fun _ => rfl) (fun _ => rfl) (fun _ => by omega)).cast (v' := .slice (some ⟨g, k, none⟩) (l.length - k) (c - k)) (by rw [if_neg (by omega)]; simp [hadd])) rfl rfl ?_)
    | (refine gl_gate ?_; first
      | refine gl_nil ?_
      | (refine gl_any0 ?_; refine gl_pure tab_ok rfl rfl rfl rfl rfl rfl ?_))
    | (refine gc_gate ?_; first
      | refine gc_seq ?_
      | refine gc_region ?_
      | refine gc_block ?_)
    | (refine ge_gate ?_; first
      | ((with_reducible refine ge_gT ?_); first | with_reducible refine ge_then ?_ | with_reducible refine ge_then_exit ?_ | with_reducible refine ge_then_ret ?_))
  refine gc_loop (α := Nat × Nat × List ByteArray) (fun x => [(0, true, .slice (some (ad g)) l.length c), (3, true, .int .i64 (x.2.1 : Int)), (4, true, .slice (some ⟨g, k, none⟩) (l.length - k) (c - k)), (5, true, .int .i64 (x.1 : Int))]) (fun x => [(g, true, .cells (cat S1 x.2.2 ++ sp).toArray 9 (0, 0))])
    (fun x => 1 ≤ x.1 ∧ x.1 + k ≤ l.length ∧ x.2.1 < x.1 + k ∧ x.2.2.length = l.length ∧ x.2.2.take x.2.1 = sheetsOf (l.take (k + x.1)) ∧ ∀ j, k + x.1 ≤ j + 1 → x.2.2.getD j default = l.getD j default) (fun x => l.length - x.1) (1, k, l) c_frs (List.Sublist.refl _) ⟨Nat.le_refl _, by omega, by show k < 1 + k; omega, rfl, hsh.symm, fun j _ => rfl⟩ ?_
  rintro ⟨k2, kk, xs⟩ ⟨j1, j2, j3, j4, j5, j6⟩
  dsimp only at j1 j2 j3 j4 j5 j6 ⊢
  repeat' first
    | (refine gl_gate ?_; first
      | refine gl_nil ?_
      | (refine gl_any0 ?_; refine gl_pure tab_ok rfl rfl rfl rfl rfl rfl ?_))
    | (refine gc_gate ?_; first
      | refine gc_seq ?_
      | refine gc_region ?_)
    | (refine ge_gate ?_; first
      | ((with_reducible refine ge_gT ?_); first | with_reducible refine ge_then ?_ | with_reducible refine ge_then_exit ?_ | with_reducible refine ge_then_ret ?_))
  (refine gc_cond rfl ?_ ?_ <;> intro h_ <;> have hd_ := h_ <;> (try simp only [bytes_beq, cell_beq, val_beq, stamp_beq, decide_eq_true_eq, decide_eq_false_iff_not, Bool.and_eq_true, Bool.or_eq_true, Bool.or_eq_false_iff, Bool.not_eq_true', Bool.not_eq_false', Bool.not_true, Bool.not_false, Bool.false_or, Bool.true_and, Bool.and_true, Bool.or_false, beq_iff_eq, bne_iff_ne, beq_eq_false_iff_ne, bne_eq_false_iff_eq, ne_eq, Bool.false_eq_true, reduceCtorEq] at hd_) <;> (try (exfalso; omega)))
  · have hj : k + k2 < l.length := by omega
    have e1 := j6 (k + k2) (by omega)
    have e2 := j6 (k + (k2 - 1)) (by omega)
    repeat' first
      | (refine gq_idx0 ?_; refine gq_yv (yv_ixo tab_ok (gok_none rfl) rfl rfl rfl rfl rfl rfl (fun _ => rfl) (fun _ => rfl) c_bnd) rfl rfl ?_)
      | (refine gq_load0 ?_; refine gq_yv (yv_load tab_ok (gok_none rfl) rfl rfl (fun _ => rfl) c_mem (fun _ => lds_S1 (by omega))) rfl rfl ?_)
      | (refine gq_sub0 ?_; refine gq_yv ((yv_sub tab_ok (gok_none rfl) rfl rfl rfl rfl (fun _ => allT_of rfl) (by intro _; omega)).cast (v' := .int .i64 ((k2 - 1 : Nat) : Int)) (by congr 1; omega)) rfl rfl ?_)
      | (refine gc_gate ?_; first
        | refine gc_seq ?_
        | refine gc_quietRo rfl mixed (by decide +kernel) ?_
        | refine gc_block ?_
        | refine gc_skip ?_)
      | (refine ge_gate ?_; first
        | ((with_reducible refine ge_gT ?_); first | with_reducible refine ge_then ?_ | with_reducible refine ge_then_exit ?_ | with_reducible refine ge_then_ret ?_))
      | (refine gq_gate ?_; first
        | refine gq_nil ?_
        | (refine gq_any0 ?_; refine gq_pure tab_ok rfl rfl rfl rfl rfl rfl ?_))
    rw [e1, e2]
    have hstep : sheetsOf (l.take (k + (k2 + 1))) = if l.getD (k + k2) default = l.getD (k + (k2 - 1)) default then xs.take kk else xs.take kk ++ [l.getD (k + k2) default] := by
      rw [← Nat.add_assoc, sheetsOf_take _ _ hj, addS_at _ _ (by omega) hj, j5, show k + k2 - 1 = k + (k2 - 1) by omega]
    (refine gc_cond rfl ?_ ?_ <;> intro h_ <;> have hd_ := h_ <;> (try simp only [bytes_beq, cell_beq, val_beq, stamp_beq, decide_eq_true_eq, decide_eq_false_iff_not, Bool.and_eq_true, Bool.or_eq_true, Bool.or_eq_false_iff, Bool.not_eq_true', Bool.not_eq_false', Bool.not_true, Bool.not_false, Bool.false_or, Bool.true_and, Bool.and_true, Bool.or_false, beq_iff_eq, bne_iff_ne, beq_eq_false_iff_ne, bne_eq_false_iff_eq, ne_eq, Bool.false_eq_true, reduceCtorEq] at hd_) <;> (try (exfalso; omega)))
    · rw [if_neg hd_] at hstep
      repeat' first
        | (refine gl_idx0 ?_; refine gl_yv (yv_ix0 tab_ok (gok_none rfl) rfl rfl rfl rfl rfl rfl (fun _ => rfl) (fun _ => rfl) (fun _ => by omega)) rfl rfl ?_)
        | (refine gl_idx0 ?_; refine gl_yv (yv_ixo tab_ok (gok_none rfl) rfl rfl rfl rfl rfl rfl (fun _ => rfl) (fun _ => rfl) c_bnd) rfl rfl ?_)
        | (refine gl_load0 ?_; refine gl_yv (yv_load tab_ok (gok_none rfl) rfl rfl (fun _ => rfl) c_mem (fun _ => lds_S1 (by omega))) rfl rfl ?_)
        | (refine gl_ev0 (ev_store (g := g) (off := kk) (e := 9) (cs := cat S1 xs ++ sp) tab_ok rfl rfl rfl rfl rfl rfl c_one (putS1 _ (by omega)) c_ku ?_) rfl)
        | (refine gl_gate ?_; first
          | refine gl_nil ?_
          | (refine gl_add0 ?_; refine gl_yv (yv_add tab_ok (gok_none rfl) rfl rfl rfl rfl (fun _ => allT_of rfl) (by intro _; omega)) rfl rfl ?_)
          | (refine gl_any0 ?_; refine gl_pure tab_ok rfl rfl rfl rfl rfl rfl ?_))
        | (refine gc_gate ?_; first
          | refine gc_seq ?_
          | refine gc_region ?_)
        | (refine ge_gate ?_; first
          | ((with_reducible refine ge_gT ?_); first | with_reducible refine ge_then ?_ | with_reducible refine ge_then_exit ?_ | with_reducible refine ge_then_ret ?_)
          | ((with_reducible refine ge_gK ?_); first | with_reducible refine ge_block ?_ | refine ge_block_exit ?_ | refine ge_block_pass rfl ?_ | with_reducible refine ge_block_ret ?_))
      refine ge_round (k2 + 1, kk + 1, xs.set kk (l.getD (k + k2) default)) ⟨by omega, by show k2 + 1 + k ≤ _; omega, by show kk + 1 < k2 + 1 + k; omega, by simpa using j4, ?_, ?_⟩ (by show l.length - (k2 + 1) < l.length - k2; omega) c_frs ?_
      · show (xs.set kk _).take (kk + 1) = _
        rw [hstep, take_succD _ _ (by simp; omega)]
        simp [List.getD, show kk < xs.length by omega, List.take_set_of_le]
      · intro j hj2
        show (xs.set kk _).getD j default = _
        rw [← j6 j (by omega)]
        simp [List.getD, List.getElem?_set, show ¬ kk = j by omega]
      · rw [e1]
        exact List.Sublist.refl _
    · rw [if_pos (by simpa using hd_)] at hstep
      repeat' first
        | (refine gl_gate ?_; first
          | refine gl_nil ?_
          | (refine gl_add0 ?_; refine gl_yv (yv_add tab_ok (gok_none rfl) rfl rfl rfl rfl (fun _ => allT_of rfl) (by intro _; omega)) rfl rfl ?_)
          | (refine gl_any0 ?_; refine gl_pure tab_ok rfl rfl rfl rfl rfl rfl ?_))
        | (refine gc_gate ?_; first
          | refine gc_region ?_
          | refine gc_skip ?_)
        | (refine ge_gate ?_; first
          | ((with_reducible refine ge_gT ?_); first | with_reducible refine ge_then ?_ | with_reducible refine ge_then_exit ?_ | with_reducible refine ge_then_ret ?_)
          | ((with_reducible refine ge_gK ?_); first | with_reducible refine ge_block ?_ | refine ge_block_exit ?_ | refine ge_block_pass rfl ?_ | with_reducible refine ge_block_ret ?_))
      exact ge_round (k2 + 1, kk, xs) ⟨by omega, by show k2 + 1 + k ≤ _; omega, by show kk < k2 + 1 + k; omega, j4, hstep.symm, fun j hj2 => j6 j (by omega)⟩ (by show l.length - (k2 + 1) < l.length - k2; omega) c_frs (List.Sublist.refl _)
  · have hj : k + k2 = l.length := by omega
    rw [hj, List.take_length] at j5
    have hkn : kk < l.length := by omega
    have hlen : (sheetsOf l).length = kk := by rw [← j5, List.length_take]; omega
    repeat' first
      | (refine gl_any0 ?_; refine gl_yv ((yv_sliceL (lo := kk) tab_ok (gok_none rfl) rfl rfl rfl rfl rfl (fun _ => rfl) (fun _ => rfl) (fun _ => by omega)).cast (v' := .slice (some ⟨g, kk, none⟩) (l.length - kk) (c - kk)) (by rw [if_neg (by omega)]; simp [hadd])) rfl rfl ?_)
      | (refine gl_any0 ?_; refine gl_ev0 (ev_clear tab_ok rfl rfl rfl rfl rfl (ones_of rfl) ?_ Ku.head ?_) rfl)
      | (refine gl_gate ?_; first
        | refine gl_nil ?_
        | (refine gl_any0 ?_; refine gl_pure tab_ok rfl rfl rfl rfl rfl rfl ?_)
        | (refine gl_any0 ?_; first | refine gl_yv (yv_shr tab_ok (gok_none rfl) rfl rfl rfl (fun _ => rfl) (fun _ => rfl) c_bnd) rfl rfl ?_ | refine gl_yv (yv_rem tab_ok (gok_none rfl) rfl rfl rfl (fun _ => rfl) (fun _ => rfl) c_bnd) rfl rfl ?_ | refine gl_yv (yv_indexS tab_ok (gok_none rfl) rfl rfl rfl rfl (fun _ => rfl) (fun _ => rfl) c_bnd) rfl rfl ?_ | refine gl_yv (yv_sliceH tab_ok (gok_none rfl) rfl rfl rfl rfl rfl (fun _ => rfl) (fun _ => rfl) c_bnd) rfl rfl ?_))
      | (refine gc_gate ?_; first
        | refine gc_seq ?_
        | refine gc_region ?_
        | refine gc_exit ?_
        | refine gc_ret ?_)
      | (refine ge_gate ?_; first
        | ((with_reducible refine ge_gT ?_); first | with_reducible refine ge_then ?_ | with_reducible refine ge_then_exit ?_ | with_reducible refine ge_then_ret ?_)
        | ((with_reducible refine ge_gK ?_); first | with_reducible refine ge_block ?_ | refine ge_block_exit ?_ | refine ge_block_pass rfl ?_ | with_reducible refine ge_block_ret ?_)
        | ((with_reducible refine ge_gB ?_); first | refine ge_ret1 tab_ok rfl c_rvt ?_ | refine ge_end1 tab_ok rfl c_rvt ?_ | refine ge_ret2 tab_ok rfl c_rvt c_rvt ?_ | refine ge_ret_none rfl ?_ | refine ge_end_none rfl ?_))
    · show kk + (l.length - kk) * 1 ≤ _
      rw [List.length_append, cat_length len_S1, j4]
      omega
    · intro W hW
      rw [hlen]
      have e : ((cat S1 xs ++ sp).take kk ++ repZ (l.length - kk) [.string .empty]) ++ (cat S1 xs ++ sp).drop (kk + (l.length - kk) * 1) = cat S1 (sheetsOf l) ++ (repZ (l.length - kk) [.string .empty] ++ sp) := by
        have hcl : (cat S1 xs).length = l.length := by rw [cat_length len_S1, j4, Nat.mul_one]
        rw [show kk + (l.length - kk) * 1 = (cat S1 xs).length by omega, List.drop_left, List.take_append_of_le_length (by omega), ← j5, cat_S1, cat_S1, List.map_take, List.append_assoc]
      refine ⟨repZ (l.length - kk) [.string .empty] ++ sp, rfl, ?_, ?_⟩
      · dsimp only
        rw [List.length_append, repZ_length, hsp]
        simp
        omega
      · dsimp only
        rw [← e]
        exact hW
end Go.Proofs.Ytkgjfcjciigcgaa
