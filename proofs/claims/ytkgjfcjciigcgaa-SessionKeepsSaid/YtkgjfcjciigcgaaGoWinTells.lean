/-
  WindowTells: what a watcher sees, what turned between any two views, and what any replies make.
-/
import Derived.Test.YtkgjfcjciigcgaaGoTells
import Derived.Test.YtkgjfcjciigcgaaGoWinPlays
namespace Go.Proofs.Ytkgjfcjciigcgaa
open Go.Proofs.Ytkgjfcjciigcgaa.Sl Go.RowKit
set_option linter.unusedVariables false
set_option linter.unusedSimpArgs false
set_option linter.unusedSectionVars false
set_option maxRecDepth 100000

theorem Srt.foldIf {p : Shown → Bool} {f : Shown → Val} : ∀ {l s : List Shown}, Srt s → Srt (l.foldl (putIf p f) s)
  | [], _, h => h
  | x :: r, s, h => Srt.foldIf (l := r) (by
      unfold putIf
      split
      · exact h.set
      · exact h)
theorem lk_foldIf {p : Shown → Bool} {f : Shown → Val} {c : Cell} : ∀ {l s : List Shown}, (l.map Shown.cell).Nodup → lk (l.foldl (putIf p f) s) c = match lk l c with
    | none => lk s c
    | some v => if p ⟨c, v⟩ then some (f ⟨c, v⟩) else lk s c
  | [], _, _ => rfl
  | x :: r, s, hn => by
    simp only [List.map_cons, List.nodup_cons] at hn
    rw [List.foldl_cons, lk_foldIf hn.2, lk]
    by_cases h : x.cell = c
    · rw [if_pos h, lk_none.2 (h ▸ hn.1)]
      subst h
      show lk (putIf p f s x) x.cell = if p x then some (f x) else lk s x.cell
      unfold putIf
      split
      · rw [lk_setS, if_pos rfl]
      · rfl
    · rw [if_neg h]
      have e : lk (putIf p f s x) c = lk s c := by
        unfold putIf
        split
        · rw [lk_setS, if_neg h]
        · rfl
      cases lk r c with
      | none => exact e
      | some v => simp only; rw [e]
theorem deltaR_eq {a b : List Shown} (ha : Srt a) (hb : Srt b) (na : NB a) (nb : NB b) : deltaR a b = deltaL a b := by
  refine srt_ext (Srt.foldIf (Srt.foldIf List.Pairwise.nil)) (delta_srt a b) fun c => ?_
  rw [lk_deltaL ha.nodup hb.nodup]
  unfold deltaR d1L
  rw [lk_foldIf hb.nodup, lk_foldIf ha.nodup]
  have hv : ∀ {v : Val}, v.kind ≠ 0 → v00 ≠ v := fun h e => h (by rw [← e]; rfl)
  cases h1 : lk b c with
  | none =>
    cases h2 : lk a c with
    | none => rfl
    | some u =>
      have := lk_nb na h2
      simp [dl, showsL, h1, hv this]
  | some v =>
    have h3 := lk_nb nb h1
    cases h2 : lk a c with
    | none => simp [dl, showsL, h2, hv h3]
    | some u =>
      by_cases h4 : u = v
      · subst h4; simp [dl, showsL, h1, h2, lk]
      · simp [dl, showsL, h1, h2, h4]
/-! ### Play -/
def simOk (out : List Shown) (m : List (Cell × Val)) : Prop := Srt out ∧ (m.map (·.1)).Nodup ∧ ∀ c, mk m c = nbo (lk out c)
theorem sim_put {out : List Shown} {m : List (Cell × Val)} (h : simOk out m) (x : Shown) : simOk (setS out x.cell x.val) (show1 m x) :=
  ⟨h.1.set, show1_keys h.2.1, fun c => by
    rw [mk_show1 x h.2.1, lk_setS]
    by_cases h2 : x.cell = c
    · rw [if_pos h2, if_pos h2]
    · rw [if_neg h2, if_neg h2, h.2.2]⟩
theorem sim_all : ∀ (l : List Shown) {out : List Shown} {m : List (Cell × Val)}, simOk out m → simOk (putAll l out) (showAll l m)
  | [], _, _, h => h
  | x :: r, out, m, h => sim_all r (sim_put h x)
theorem sim_nil : simOk [] [] := ⟨List.Pairwise.nil, by simp, fun c => rfl⟩
def simSt (s : Option (List (Cell × Val)) × Int) (r : PSt) : Prop := r.1 = s.1.isSome ∧ r.2.1 = s.2 ∧ simOk r.2.2 (s.1.getD [])
theorem sim_step {s : Option (List (Cell × Val)) × Int} {r : PSt} (h : simSt s r) (x : Rep) : (playStep s x = none ∧ stepR r x = none) ∨ ∃ s' r', playStep s x = some s' ∧ stepR r x = some r' ∧ simSt s' r' := by
  obtain ⟨mo, ver⟩ := s
  obtain ⟨any, last, out⟩ := r
  obtain ⟨h1, h2, h3⟩ := h
  simp only at h1 h2 h3
  subst h1 h2
  unfold playStep stepR
  by_cases hk : x.kind = 2 ∨ x.kind = 3
  · have hk2 : ¬ (x.kind ≠ 2 ∧ x.kind ≠ 3) := fun ⟨a, b⟩ => hk.elim a b
    rw [if_pos hk, if_neg hk2]
    have hm : badR mo.isSome last x.kind x.version = !may mo.isSome last x.kind x.version := by
      unfold badR may
      rcases hk with hk | hk <;> rw [hk] <;> cases mo <;> simp
      all_goals
        rw [Bool.eq_iff_iff]
        simp
        try omega
    simp only
    rw [hm]
    cases hmm : may mo.isSome last x.kind x.version with
    | false => exact Or.inl ⟨rfl, rfl⟩
    | true =>
      refine Or.inr ⟨_, _, rfl, rfl, rfl, rfl, ?_⟩
      show simOk (putAll x.cells (if x.kind = 2 then [] else out)) (showAll x.cells (if x.kind = 2 then [] else mo.getD []))
      split
      · exact sim_all _ sim_nil
      · exact sim_all _ h3
  · have hk2 : x.kind ≠ 2 ∧ x.kind ≠ 3 := ⟨fun e => hk (Or.inl e), fun e => hk (Or.inr e)⟩
    rw [if_neg hk, if_pos hk2]
    exact Or.inr ⟨_, _, rfl, rfl, rfl, rfl, h3⟩
theorem sim_run : ∀ (l : List Rep) {s : Option (List (Cell × Val)) × Int} {r : PSt}, simSt s r → (playAll l s = none ∧ allR l r = none) ∨ ∃ s' r', playAll l s = some s' ∧ allR l r = some r' ∧ simSt s' r'
  | [], s, r, h => Or.inr ⟨s, r, rfl, rfl, h⟩
  | x :: l, s, r, h => by
    rw [playAll, allR]
    rcases sim_step h x with ⟨h1, h2⟩ | ⟨s', r', h1, h2, h3⟩
    · rw [h1, h2]; exact Or.inl ⟨rfl, rfl⟩
    · rw [h1, h2]; exact sim_run l h3
theorem lk_filter {c : Cell} : ∀ {l : List Shown}, (l.map Shown.cell).Nodup → lk (l.filter nb1) c = nbo (lk l c)
  | [], _ => rfl
  | x :: r, hn => by
    simp only [List.map_cons, List.nodup_cons] at hn
    have ih := lk_filter (c := c) hn.2
    rw [lk]
    by_cases h : x.cell = c
    · subst h
      rw [if_pos rfl]
      by_cases hk : x.val.kind = 0
      · rw [List.filter_cons_of_neg (by simp [nb1, hk]), ih, lk_none.2 hn.1]
        simp [nbo, hk]
      · rw [List.filter_cons_of_pos (by simp [nb1, hk]), lk, if_pos rfl]
        simp [nbo, hk]
    · rw [if_neg h, ← ih]
      by_cases hk : nb1 x = true
      · rw [List.filter_cons_of_pos hk, lk, if_neg h]
      · rw [List.filter_cons_of_neg hk]
theorem playRR_eq (l : List Rep) : playRR l = playR l := by
  unfold playRR playR
  rcases sim_run l (s := (none, 0)) (r := (false, 0, [])) ⟨rfl, rfl, sim_nil⟩ with ⟨h1, h2⟩ | ⟨⟨mo, ver⟩, ⟨any, last, out⟩, h1, h2, _, _, h3⟩
  · rw [h1, h2]
  · rw [h1, h2]
    simp only at h3
    obtain ⟨a1, a2, a3⟩ := h3
    have hs : Srt (out.filter nb1) := by
      unfold Srt
      exact a1.sublist ((List.filter_sublist ..).map _)
    cases mo with
    | none =>
      simp only
      have : out.filter nb1 = [] := srt_ext hs List.Pairwise.nil fun c => by
        rw [lk_filter a1.nodup, ← a3]
        rfl
      rw [this]
    | some m =>
      simp only
      rw [listM_eq (m := m) a2 hs (fun c => by rw [lk_filter a1.nodup]; exact a3 c)]
theorem playAll_len {B : Nat} : ∀ (l : List Rep) {s s' : Option (List (Cell × Val)) × Int}, (∀ x ∈ l, x.cells.length ≤ B) → playAll l s = some s' → (s'.1.getD []).length ≤ (s.1.getD []).length + l.length * B
  | [], s, s', _, h => by cases h; simp
  | x :: l, s, s', hc, h => by
    rw [playAll] at h
    cases h1 : playStep s x with
    | none => rw [h1] at h; cases h
    | some s1 =>
      rw [h1] at h
      have h2 := playAll_len l (fun y hy => hc y (List.mem_cons_of_mem _ hy)) (show playAll l s1 = some s' from h)
      have h3 : (s1.1.getD []).length ≤ (s.1.getD []).length + B := by
        unfold playStep at h1
        split at h1
        · split at h1
          · cases h1
            have h4 := hc x (List.mem_cons_self ..)
            have h5 := showAll_len x.cells (if x.kind = 2 then [] else s.1.getD [])
            show (showAll x.cells _).length ≤ _
            split at h5 <;> simp_all <;> omega
          · cases h1
        · cases h1; omega
      simp only [List.length_cons]
      rw [Nat.add_mul]
      omega
theorem playR_len {B : Nat} {l : List Rep} (hc : ∀ x ∈ l, x.cells.length ≤ B) : (playR l).1.length ≤ l.length * B := by
  unfold playR
  cases h : playAll l (none, 0) with
  | none => exact Nat.zero_le _
  | some s =>
    have := playAll_len l hc h
    obtain ⟨mo, v⟩ := s
    cases mo with
    | none => exact Nat.zero_le _
    | some m =>
      simp only [listM, List.length_map, sortC_length]
      simpa using this
section
variable {N : Nat} {w0 : World} {M : List Nat} {F : Fl} {K : Kl} {o : Oper}
theorem ev_callPlR {R : Value → Kl → Prop} {args : Array Operand} {ts : Array TypeId} {vs : List Value} {ps : List Bool} {x : List Shown × Bool} (hg : o.guard = none) (ho : o.op = .call ⟨.value (.func 102), args, ts⟩) (hv : vals F args.toList = some vs) (hc : cdl F args.toList = some ps) (hp : ps.all id = true)
    (h : ∀ W, St w0 M K W → Calls Try.prog 102 vs.toArray W (RetPl W x)) (hR : ∀ q c sp, Ow q x.1.length c 6 (cat Shown.l x.1) sp → R (.tuple #[.slice (Option.map ad q) x.1.length c, .bool x.2]) (ow q true (cat Shown.l x.1 ++ sp) 120 ++ K)) : Ev Try.prog o N w0 M F K R :=
  ev_call hg ho ent102 hv hc hp fun W hW => (h W hW).mono fun e W' ⟨q, c, sp, h1, h2, h3⟩ => ⟨_, _, h1, hW.grow h3 (fun e he => (h3.wr e he (ow_wr e he)).resolve_right (by simp)), hR q c sp h2⟩
end
set_option maxHeartbeats 4000000 in
theorem walk_WindowTells (a b : Cell) (la lb : List Shown) (rps : List RP) (p r u : Option Addr) (n k m cap cap' cap'' : Nat) (hn : n = la.length) (hk : k = lb.length) (hm : m = rps.length) (hn9 : n ≤ 9223372036854775807) (hk9 : k ≤ 9223372036854775807) (hm9 : m ≤ 9223372036854775807) (w : World) (hs : SlA w 6 p n (fun i => (la.getD i default).l)) (hs' : SlA w 6 r k (fun i => (lb.getD i default).l)) (hs'' : SlA w 4 u m (fun i => (rps.getD i default).l))
    (hcs : ∀ x ∈ rps, SlA w 6 x.p x.rep.cells.length (fun j => (x.rep.cells.getD j default).l) ∧ x.rep.cells.length ≤ 9223372036854775807) :
    Calls Try.prog 21 #[.agg (a.l ++ b.l).toArray, .slice p n cap, .slice r k cap', .slice u m cap''] w fun e w' => e = .returned (.bool true) ∧ Bl w w' := by
  refine enter (args := [_, _, _, _]) (M := []) (K := []) Try.func21 rfl Try.ntmps21 rfl (St.refl _ _) ?_
  repeat' first
    | (refine gl_gate ?_; first
      | refine gl_nil ?_
      | (refine gl_calv0 ?_; first | refine gl_yd (yd_call (gok_none rfl) rfl ent74 rfl rfl (fun _ => allT_of rfl) (fun _ W hW => ct_aliveW W)) rfl rfl ?_)
      | (refine gl_box0 ?_; first | (refine gl_box_agg rfl rfl rfl rfl rfl ?_; intro g_ hg_) | (refine gl_box_one rfl rfl rfl rfl rfl rfl ?_; intro g_ hg_) | (refine gl_box rfl rfl rfl rfl rfl ?_; intro g_ hg_))
      | (refine gl_any0 ?_; refine gl_pure tab_ok rfl rfl rfl rfl rfl rfl ?_)
      | (refine gl_anyG ?_; first | refine gl_yv (yv_pure tab_ok c_gok rfl rfl c_allT) rfl rfl ?_ | refine gl_yv (yv_indexS tab_ok c_gok rfl rfl rfl rfl c_imp c_imp (by intro hq_; (try simp only [Bool.and_eq_true, Bool.not_eq_true', Bool.not_eq_false', Bool.or_eq_false_iff, Bool.or_eq_true, decide_eq_true_eq, decide_eq_false_iff_not, Bool.true_and, Bool.and_true] at hq_); omega)) rfl rfl ?_ | refine gl_yv (yv_indexS (i := 0) tab_ok c_gok rfl rfl rfl rfl c_imp c_imp (by intro hq_; (try simp only [Bool.and_eq_true, Bool.not_eq_true', Bool.not_eq_false', Bool.or_eq_false_iff, Bool.or_eq_true, decide_eq_true_eq, decide_eq_false_iff_not, Bool.true_and, Bool.and_true] at hq_); omega)) rfl rfl ?_))
    | (refine gc_gate ?_; first
      | refine gc_seq ?_
      | refine gc_region ?_)
    | (refine ge_gate ?_; first
      | ((with_reducible refine ge_gT ?_); first | with_reducible refine ge_then ?_ | with_reducible refine ge_then_exit ?_ | with_reducible refine ge_then_ret ?_))
  refine gl_yd (yd_call c_gok rfl ent94 rfl rfl c_allT (fun _ W hW => ct_FewS la p n cap W hn (hs.st hW) hn9)) rfl rfl ?_
  repeat' first
    | (refine gl_gate ?_; first
      | (refine gl_pick0 ?_; first | refine gl_yv (yv_and (gok_none rfl) rfl rfl rfl (fun _ => rfl) c_imp2) rfl rfl ?_ | refine gl_yv (yv_or (gok_none rfl) rfl rfl rfl (fun _ => rfl) c_imp2) rfl rfl ?_)
      | (refine gl_any0 ?_; refine gl_pure tab_ok rfl rfl rfl rfl rfl rfl ?_)
      | (refine gl_anyG ?_; first | refine gl_yv (yv_pure tab_ok c_gok rfl rfl c_allT) rfl rfl ?_ | refine gl_yv (yv_indexS tab_ok c_gok rfl rfl rfl rfl c_imp c_imp (by intro hq_; (try simp only [Bool.and_eq_true, Bool.not_eq_true', Bool.not_eq_false', Bool.or_eq_false_iff, Bool.or_eq_true, decide_eq_true_eq, decide_eq_false_iff_not, Bool.true_and, Bool.and_true] at hq_); omega)) rfl rfl ?_ | refine gl_yv (yv_indexS (i := 0) tab_ok c_gok rfl rfl rfl rfl c_imp c_imp (by intro hq_; (try simp only [Bool.and_eq_true, Bool.not_eq_true', Bool.not_eq_false', Bool.or_eq_false_iff, Bool.or_eq_true, decide_eq_true_eq, decide_eq_false_iff_not, Bool.true_and, Bool.and_true] at hq_); omega)) rfl rfl ?_))
  refine gl_yd (yd_call c_gok rfl ent94 rfl rfl c_allT (fun _ W hW => ct_FewS lb r k cap' W hk (hs'.st hW) hk9)) rfl rfl ?_
  repeat' first
    | (refine gl_gate ?_; first
      | refine gl_nil ?_
      | (refine gl_pick0 ?_; first | refine gl_yv (yv_and (gok_none rfl) rfl rfl rfl (fun _ => rfl) c_imp2) rfl rfl ?_ | refine gl_yv (yv_or (gok_none rfl) rfl rfl rfl (fun _ => rfl) c_imp2) rfl rfl ?_)
      | (refine gl_any0 ?_; refine gl_pure tab_ok rfl rfl rfl rfl rfl rfl ?_)
      | (refine gl_anyG ?_; first | refine gl_yv (yv_pure tab_ok c_gok rfl rfl c_allT) rfl rfl ?_ | refine gl_yv (yv_indexS tab_ok c_gok rfl rfl rfl rfl c_imp c_imp (by intro hq_; (try simp only [Bool.and_eq_true, Bool.not_eq_true', Bool.not_eq_false', Bool.or_eq_false_iff, Bool.or_eq_true, decide_eq_true_eq, decide_eq_false_iff_not, Bool.true_and, Bool.and_true] at hq_); omega)) rfl rfl ?_ | refine gl_yv (yv_indexS (i := 0) tab_ok c_gok rfl rfl rfl rfl c_imp c_imp (by intro hq_; (try simp only [Bool.and_eq_true, Bool.not_eq_true', Bool.not_eq_false', Bool.or_eq_false_iff, Bool.or_eq_true, decide_eq_true_eq, decide_eq_false_iff_not, Bool.true_and, Bool.and_true] at hq_); omega)) rfl rfl ?_))
    | (refine ge_gate ?_; first
      | ((with_reducible refine ge_gT ?_); first | with_reducible refine ge_then ?_ | with_reducible refine ge_then_exit ?_ | with_reducible refine ge_then_ret ?_))
  refine gc_cond rfl ?_ ?_ <;> intro h_
  · repeat' first
      | (refine gl_gate ?_; first
        | refine gl_nil ?_
        | (refine gl_any0 ?_; refine gl_pure tab_ok rfl rfl rfl rfl rfl rfl ?_))
      | (refine gc_gate ?_; first
        | refine gc_seq ?_
        | refine gc_region ?_
        | refine gc_ret ?_)
      | (refine ge_gate ?_; first
        | ((with_reducible refine ge_gT ?_); first | with_reducible refine ge_then ?_ | with_reducible refine ge_then_exit ?_ | with_reducible refine ge_then_ret ?_)
        | ((with_reducible refine ge_gB ?_); first | refine ge_ret1 tab_ok rfl c_rvt ?_ | refine ge_end1 tab_ok rfl c_rvt ?_ | refine ge_ret2 tab_ok rfl c_rvt c_rvt ?_ | refine ge_ret_none rfl ?_ | refine ge_end_none rfl ?_))
    intro W hW
    exact ⟨rfl, hW.below0⟩
  have hfa : fewL la = true := by
    cases h : fewL la with
    | true => rfl
    | false => rw [h] at h_; simp at h_
  have hfb : fewL lb = true := by
    cases h : fewL lb with
    | true => rfl
    | false => rw [h] at h_; simp at h_
  have hm30 : m ≤ 30 := by simp at h_; omega
  have hn60 := few60 hfa
  have hk60 := few60 hfb
  clear h_ hfa hfb
  repeat' first
    | (refine gl_gate ?_; first
      | refine gl_nil ?_
      | (refine gl_any0 ?_; refine gl_pure tab_ok rfl rfl rfl rfl rfl rfl ?_))
    | (refine gc_gate ?_; first
      | refine gc_seq ?_
      | refine gc_region ?_
      | refine gc_block ?_
      | refine gc_skip ?_)
    | (refine ge_gate ?_; first
      | ((with_reducible refine ge_gT ?_); first | with_reducible refine ge_then ?_ | with_reducible refine ge_then_exit ?_ | with_reducible refine ge_then_ret ?_))
  refine gc_loop (α := Nat) (fun i => [(1, true, .slice p n cap), (2, true, .slice r k cap'), (3, true, .slice u m cap''), (4, true, .pointer (some ⟨g_, 0, none⟩)), (10, true, .int .i64 (i : Int))])
    (fun _ => [(g_, true, .cells (a.l ++ b.l).toArray 55 (0, 0))]) (fun i => i ≤ m ∧ ∀ j, j < i → (rps.getD j default).rep.cells.length ≤ 60) (fun i => m - i) 0 c_frs (List.Sublist.refl _) ⟨Nat.zero_le _, fun j hj => by omega⟩ ?_
  rintro i ⟨hi, hfew⟩
  repeat' first
    | (refine gl_gate ?_; first
      | refine gl_nil ?_
      | (refine gl_add0 ?_; refine gl_yv (yv_add tab_ok (gok_none rfl) rfl rfl rfl rfl (fun _ => allT_of rfl) (by intro _; omega)) rfl rfl ?_)
      | (refine gl_idx0 ?_; refine gl_yv (yv_idxA tab_ok hs'' (gok_none rfl) rfl rfl rfl rfl rfl rfl (fun _ => rfl) (fun _ => rfl) c_bnd) rfl rfl ?_)
      | (refine gl_load0 ?_; refine gl_yv (yv_ldA tab_ok hs'' c_nm (gok_none rfl) rfl rfl (fun _ => rfl) c_bnd (fun _ => c_lds)) rfl rfl ?_)
      | (refine gl_calv0 ?_; first | refine gl_yd (yd_call (gok_none rfl) rfl ent94 rfl rfl (fun _ => allT_of rfl) (fun _ W hW => ct_FewS (rps.getD i default).rep.cells _ _ _ W rfl ((hcs _ (getD_mem rps i (by omega))).1.st hW) (hcs _ (getD_mem rps i (by omega))).2)) rfl rfl ?_)
      | (refine gl_any0 ?_; refine gl_pure tab_ok rfl rfl rfl rfl rfl rfl ?_))
    | (refine gc_gate ?_; first
      | refine gc_seq ?_
      | refine gc_region ?_
      | refine gc_block ?_
      | (refine gc_cond rfl ?_ ?_ <;> intro h_ <;> have hd_ := h_ <;> (try simp only [bytes_beq, cell_beq, val_beq, stamp_beq, decide_eq_true_eq, decide_eq_false_iff_not, Bool.and_eq_true, Bool.or_eq_true, Bool.or_eq_false_iff, Bool.not_eq_true', Bool.not_eq_false', Bool.not_true, Bool.not_false, Bool.false_or, Bool.true_and, Bool.and_true, Bool.or_false, beq_iff_eq, bne_iff_ne, beq_eq_false_iff_ne, bne_eq_false_iff_eq, ne_eq, Bool.false_eq_true, reduceCtorEq] at hd_) <;> (try (exfalso; omega)))
      | refine gc_exit ?_
      | refine gc_ret ?_
      | refine gc_skip ?_)
    | (refine ge_gate ?_; first
      | ((with_reducible refine ge_gT ?_); first | with_reducible refine ge_then ?_ | with_reducible refine ge_then_exit ?_ | with_reducible refine ge_then_ret ?_)
      | ((with_reducible refine ge_gK ?_); first | with_reducible refine ge_block ?_ | refine ge_block_exit ?_ | refine ge_block_pass rfl ?_ | with_reducible refine ge_block_ret ?_)
      | ((with_reducible refine ge_gB ?_); first | refine ge_ret1 tab_ok rfl c_rvt ?_ | refine ge_end1 tab_ok rfl c_rvt ?_ | refine ge_ret2 tab_ok rfl c_rvt c_rvt ?_ | refine ge_ret_none rfl ?_ | refine ge_end_none rfl ?_))
  · intro W hW
    exact ⟨rfl, hW.below0⟩
  · refine ge_round (i + 1) ⟨by omega, fun j hj => ?_⟩ (by omega) c_frs (List.Sublist.refl _)
    rcases Nat.lt_or_ge j i with h | h
    · exact hfew j h
    · obtain rfl : j = i := by omega
      exact few60 hd_
  obtain rfl : i = m := by omega
  have hrep : ∀ x ∈ rps.map RP.rep, x.cells.length ≤ 60 := fun x hx => by
    obtain ⟨y, hy, rfl⟩ := List.mem_map.1 hx
    obtain ⟨j, hj, rfl⟩ := List.mem_iff_getElem.1 hy
    have := hfew j (by omega)
    rwa [getD_get rps j hj] at this
  have hRl : (rps.map RP.rep).length = i := by rw [List.length_map]; omega
  have hwa := wholeL_len la
  have hwb := wholeL_len lb
  have hsa := seeL_len a b la
  have hpr := playR_len hrep
  rw [hRl] at hpr
  have hoa := whole_ok la
  have hob := whole_ok lb
  have hdel := deltaR_eq hoa.1 hob.1 hoa.2 hob.2
  have hdll := dl_len (wholeL la) (wholeL lb)
  refine gl_ev (ev_callOw rfl rfl ent95 rfl rfl rfl (fun W hW => ct_whole la p n cap W hn (hs.st hW) (by omega)) ?_) rfl rfl; intro p1_ c1_ sp1_ hw1_
  repeat' first
    | (refine gl_gate ?_; first
      | refine gl_nil ?_
      | (refine gl_any0 ?_; refine gl_pure tab_ok rfl rfl rfl rfl rfl rfl ?_))
    | (refine gc_gate ?_; first
      | refine gc_seq ?_
      | refine gc_region ?_)
    | (refine ge_gate ?_; first
      | ((with_reducible refine ge_gT ?_); first | with_reducible refine ge_then ?_ | with_reducible refine ge_then_exit ?_ | with_reducible refine ge_then_ret ?_))
  refine gl_ev (ev_callOw rfl rfl ent95 rfl rfl rfl (fun W hW => ct_whole lb r k cap' W hk (hs'.st hW) (by omega)) ?_) rfl rfl; intro p2_ c2_ sp2_ hw2_
  repeat' first
    | (refine gl_gate ?_; first
      | refine gl_nil ?_
      | (refine gl_any0 ?_; refine gl_pure tab_ok rfl rfl rfl rfl rfl rfl ?_))
    | (refine gc_gate ?_; first
      | refine gc_seq ?_
      | refine gc_region ?_)
    | (refine ge_gate ?_; first
      | ((with_reducible refine ge_gT ?_); first | with_reducible refine ge_then ?_ | with_reducible refine ge_then_exit ?_ | with_reducible refine ge_then_ret ?_))
  have hRR : ∀ W K, St w [] K W → RepsR W u (rps.map RP.rep) := fun W K hW => repsR_of (by rw [← hm]; exact hs''.st hW) (fun x hx => (hcs x hx).1.st hW)
  refine gl_ev (ev_callPl (x := playR (rps.map RP.rep)) rfl rfl rfl rfl rfl (fun W hW => by
    have h2 := ct_Play (hRR W _ hW) (by omega) (fun x hx => by have := hrep x hx; omega) cap''
    rw [hRl] at h2
    exact h2) (fun q3_ c3_ sp3_ hw3_ => ?_)) rfl rfl
  repeat' first
    | (refine gl_gate ?_; first
      | refine gl_nil ?_
      | (refine gl_any0 ?_; refine gl_pure tab_ok rfl rfl rfl rfl rfl rfl ?_))
    | (refine gc_gate ?_; first
      | refine gc_seq ?_
      | refine gc_region ?_)
    | (refine ge_gate ?_; first
      | ((with_reducible refine ge_gT ?_); first | with_reducible refine ge_then ?_ | with_reducible refine ge_then_exit ?_ | with_reducible refine ge_then_ret ?_))
  refine gl_ev (ev_callPlR (x := playR (rps.map RP.rep)) rfl rfl rfl rfl rfl (fun W hW => by
    have h2 := ct_PlayR (hRR W _ hW) (by omega) (fun x hx => by have := hrep x hx; omega) cap''
    rw [hRl, playRR_eq] at h2
    exact h2) (fun q4_ c4_ sp4_ hw4_ => ?_)) rfl rfl
  repeat' first
    | (refine gl_gate ?_; first
      | refine gl_nil ?_
      | (refine gl_any0 ?_; refine gl_pure tab_ok rfl rfl rfl rfl rfl rfl ?_))
    | (refine gc_gate ?_; first
      | refine gc_seq ?_)
    | (refine ge_gate ?_; first
      | ((with_reducible refine ge_gT ?_); first | with_reducible refine ge_then ?_ | with_reducible refine ge_then_exit ?_ | with_reducible refine ge_then_ret ?_))
  generalize hP : playR (rps.map RP.rep) = PR at *
  obtain ⟨pl, ok⟩ := PR
  dsimp only at hpr hw3_ hw4_ ⊢
  have hcast : ∀ l : List Shown, Value.bool (decide (l = l)) = .bool true := fun l => by simp
  refine gp_startC (St w [] [(g_, true, .cells (a.l ++ b.l).toArray 55 (0, 0))]) c_cl2 [] #[false, false, false, false, false, false, false, false, false, false, false, false, false, false, false, false, false, false, false, false, false, false, false, false, false, false, false] mixed rfl rfl c_qp ?_; intro hqp_
  refine gp_take 0 #[true, false, false, false, false, false, false, false, false, false, false, false, false, false, false, false, false, false, false, false, false, false, false, false, false, false, false] hqp_ rfl (by kernel_rfl) (yv_load tab_ok c_gok rfl rfl c_imp c_mem (fun _ => c_lds)) c_cl2 rfl rfl ?_
  refine gp_take 1 #[true, true, false, false, false, false, false, false, false, false, false, false, false, false, false, false, false, false, false, false, false, false, false, false, false, false, false] hqp_ rfl (by kernel_rfl) (yv_pure tab_ok c_gok rfl rfl c_allT) c_cl2 rfl rfl ?_
  refine gp_take 3 #[true, true, false, true, false, false, false, false, false, false, false, false, false, false, false, false, false, false, false, false, false, false, false, false, false, false, false] hqp_ rfl (by kernel_rfl) (yv_load tab_ok c_gok rfl rfl c_imp c_mem (fun _ => c_lds)) c_cl2 rfl rfl ?_
  refine gp_take 4 #[true, true, false, true, true, false, false, false, false, false, false, false, false, false, false, false, false, false, false, false, false, false, false, false, false, false, false] hqp_ rfl (by kernel_rfl) (yv_pure tab_ok c_gok rfl rfl c_allT) c_cl2 rfl rfl ?_
  (refine gp_ev 2 #[true, true, true, true, true, false, false, false, false, false, false, false, false, false, false, false, false, false, false, false, false, false, false, false, false, false, false] rfl (by kernel_rfl) rfl rfl rfl (ev_callOw rfl rfl ent103 rfl rfl rfl (fun W hW => ct_See a b la p n cap W hn (hs.st hW) (by omega)) ?_); intro pa_ ca_ spa_ hwa_; refine ⟨c_cl2, ?_⟩)
  (refine gp_ev 5 #[true, true, true, true, true, true, false, false, false, false, false, false, false, false, false, false, false, false, false, false, false, false, false, false, false, false, false] rfl (by kernel_rfl) rfl rfl rfl (ev_callOw rfl rfl ent104 rfl rfl rfl (fun W hW => ct_SeeR a b la p n cap W hn (hs.st hW) (by omega)) ?_); intro pb_ cb_ spb_ hwb_; refine ⟨c_cl2, ?_⟩)
  refine gp_ev 6 #[true, true, true, true, true, true, true, false, false, false, false, false, false, false, false, false, false, false, false, false, false, false, false, false, false, false, false] rfl (by kernel_rfl) rfl rfl rfl (ev_callq rfl rfl ent97 rfl rfl rfl (fun W hW => ct_SameShown W (seeL a b la) (seeL a b la) _ _ _ _ _ _ rfl rfl (slA_cat len_shown rfl hW c_oa hwa_) (slA_cat len_shown rfl hW c_oa hwb_) (by omega) (by omega)) ⟨c_cl2, ?_⟩)
  refine gp_take 7 #[true, true, true, true, true, true, true, true, false, false, false, false, false, false, false, false, false, false, false, false, false, false, false, false, false, false, false] hqp_ rfl (by kernel_rfl) (((yv_pure tab_ok c_gok rfl rfl c_allT).cast (v' := .bool true) (by simp))) c_cl2 rfl rfl ?_
  refine gp_take 8 #[true, true, true, true, true, true, true, true, true, false, false, false, false, false, false, false, false, false, false, false, false, false, false, false, false, false, false] hqp_ rfl (by kernel_rfl) (yv_pure tab_ok c_gok rfl rfl c_allT) c_cl2 rfl rfl ?_
  refine gp_take 9 #[true, true, true, true, true, true, true, true, true, true, false, false, false, false, false, false, false, false, false, false, false, false, false, false, false, false, false] hqp_ rfl (by kernel_rfl) (yv_pure tab_ok c_gok rfl rfl c_allT) c_cl2 rfl rfl ?_
  refine gp_take 11 #[true, true, true, true, true, true, true, true, true, true, false, true, false, false, false, false, false, false, false, false, false, false, false, false, false, false, false] hqp_ rfl (by kernel_rfl) (yv_pure tab_ok c_gok rfl rfl c_allT) c_cl2 rfl rfl ?_
  refine gp_take 12 #[true, true, true, true, true, true, true, true, true, true, false, true, true, false, false, false, false, false, false, false, false, false, false, false, false, false, false] hqp_ rfl (by kernel_rfl) (yv_pure tab_ok c_gok rfl rfl c_allT) c_cl2 rfl rfl ?_
  (refine gp_evG 10 #[true, true, true, true, true, true, true, true, true, true, true, true, true, false, false, false, false, false, false, false, false, false, false, false, false, false, false] rfl (by kernel_rfl) rfl rfl rfl c_gok (ev_callOw rfl rfl ent96 rfl rfl rfl (fun W hW => ct_Delta (wholeL la) (wholeL lb) _ _ _ _ _ _ W rfl rfl (slA_cat len_shown rfl hW c_oa hw1_) (slA_cat len_shown rfl hW c_oa hw2_) (by omega) (by omega)) ?_); intro pc_ cc_ spc_ hwc_; refine ⟨c_cl2, ?_⟩)
  (refine gp_evG 13 #[true, true, true, true, true, true, true, true, true, true, true, true, true, true, false, false, false, false, false, false, false, false, false, false, false, false, false] rfl (by kernel_rfl) rfl rfl rfl c_gok (ev_callOw rfl rfl ent105 rfl rfl rfl (fun W hW => by { have h := ct_DeltaR (wholeL la) (wholeL lb) _ _ _ _ c1_ c2_ W rfl rfl (slA_cat len_shown rfl hW c_oa hw1_) (slA_cat len_shown rfl hW c_oa hw2_) (by omega) (by omega); rw [hdel] at h; exact h }) ?_); intro pd_ cd_ spd_ hwd_; refine ⟨c_cl2, ?_⟩)
  refine gp_evG 14 #[true, true, true, true, true, true, true, true, true, true, true, true, true, true, true, false, false, false, false, false, false, false, false, false, false, false, false] rfl (by kernel_rfl) rfl rfl rfl c_gok (ev_callq rfl rfl ent97 rfl rfl rfl (fun W hW => ct_SameShown W (deltaL (wholeL la) (wholeL lb)) (deltaL (wholeL la) (wholeL lb)) _ _ _ _ _ _ rfl rfl (slA_cat len_shown rfl hW c_oa hwc_) (slA_cat len_shown rfl hW c_oa hwd_) (by omega) (by omega)) ⟨c_cl2, ?_⟩)
  refine gp_take 15 #[true, true, true, true, true, true, true, true, true, true, true, true, true, true, true, true, false, false, false, false, false, false, false, false, false, false, false] hqp_ rfl (by kernel_rfl) (yv_and c_gok rfl rfl rfl c_imp c_imp2) c_cl2 rfl rfl ?_
  refine gp_take 16 #[true, true, true, true, true, true, true, true, true, true, true, true, true, true, true, true, true, false, false, false, false, false, false, false, false, false, false] hqp_ rfl (by kernel_rfl) (((yv_pure tab_ok c_gok rfl rfl c_allT).cast (v' := .bool true) (by simp))) c_cl2 rfl rfl ?_
  refine gp_take 17 #[true, true, true, true, true, true, true, true, true, true, true, true, true, true, true, true, true, true, false, false, false, false, false, false, false, false, false] hqp_ rfl (by kernel_rfl) (yv_pure tab_ok c_gok rfl rfl c_allT) c_cl2 rfl rfl ?_
  refine gp_take 18 #[true, true, true, true, true, true, true, true, true, true, true, true, true, true, true, true, true, true, true, false, false, false, false, false, false, false, false] hqp_ rfl (by kernel_rfl) (yv_pure tab_ok c_gok rfl rfl c_allT) c_cl2 rfl rfl ?_
  refine gp_evG 19 #[true, true, true, true, true, true, true, true, true, true, true, true, true, true, true, true, true, true, true, true, false, false, false, false, false, false, false] rfl (by kernel_rfl) rfl rfl rfl c_gok (ev_callq rfl rfl ent97 rfl rfl rfl (fun W hW => ct_SameShown W pl pl _ _ _ _ _ _ rfl rfl (slA_cat len_shown rfl hW c_oa hw3_) (slA_cat len_shown rfl hW c_oa hw4_) (by omega) (by omega)) ⟨c_cl2, ?_⟩)
  refine gp_take 20 #[true, true, true, true, true, true, true, true, true, true, true, true, true, true, true, true, true, true, true, true, true, false, false, false, false, false, false] hqp_ rfl (by kernel_rfl) (yv_and c_gok rfl rfl rfl c_imp c_imp2) c_cl2 rfl rfl ?_
  refine gp_take 21 #[true, true, true, true, true, true, true, true, true, true, true, true, true, true, true, true, true, true, true, true, true, true, false, false, false, false, false] hqp_ rfl (by kernel_rfl) (((yv_pure tab_ok c_gok rfl rfl c_allT).cast (v' := .bool true) (by simp))) c_cl2 rfl rfl ?_
  refine gp_take 22 #[true, true, true, true, true, true, true, true, true, true, true, true, true, true, true, true, true, true, true, true, true, true, true, false, false, false, false] hqp_ rfl (by kernel_rfl) (yv_pure tab_ok c_gok rfl rfl c_allT) c_cl2 rfl rfl ?_
  refine gp_take 23 #[true, true, true, true, true, true, true, true, true, true, true, true, true, true, true, true, true, true, true, true, true, true, true, true, false, false, false] hqp_ rfl (by kernel_rfl) (yv_pure tab_ok c_gok rfl rfl c_allT) c_cl2 rfl rfl ?_
  refine gp_take 24 #[true, true, true, true, true, true, true, true, true, true, true, true, true, true, true, true, true, true, true, true, true, true, true, true, true, false, false] hqp_ rfl (by kernel_rfl) (((yv_pure tab_ok c_gok rfl rfl c_allT).cast (v' := .bool true) (by simp))) c_cl2 rfl rfl ?_
  refine gp_take 25 #[true, true, true, true, true, true, true, true, true, true, true, true, true, true, true, true, true, true, true, true, true, true, true, true, true, true, false] hqp_ rfl (by kernel_rfl) (yv_and c_gok rfl rfl rfl c_imp c_imp2) c_cl2 rfl rfl ?_
  refine gp_take 26 #[true, true, true, true, true, true, true, true, true, true, true, true, true, true, true, true, true, true, true, true, true, true, true, true, true, true, true] hqp_ rfl (by kernel_rfl) (yv_pure tab_ok c_gok rfl rfl c_allT) c_cl2 rfl rfl ?_
  refine gp_done (by kernel_rfl) ?_; clear hqp_
  repeat' first
    | (refine gc_gate ?_; first
      | refine gc_ret ?_)
    | (refine ge_gate ?_; first
      | ((with_reducible refine ge_gT ?_); first | with_reducible refine ge_then ?_ | with_reducible refine ge_then_exit ?_ | with_reducible refine ge_then_ret ?_)
      | ((with_reducible refine ge_gB ?_); first | refine ge_ret1 tab_ok rfl c_rvt ?_ | refine ge_end1 tab_ok rfl c_rvt ?_ | refine ge_ret2 tab_ok rfl c_rvt c_rvt ?_ | refine ge_ret_none rfl ?_ | refine ge_end_none rfl ?_))
  intro W hW
  exact ⟨rfl, hW.below0⟩
theorem rdRp {W : World} {n : Nat} {cs : List Value} (h : Rd tab W n 65 cs) : ∃ x : RP, cs = x.l ∧ SlA W 6 x.p x.rep.cells.length (fun j => (x.rep.cells.getD j default).l) ∧ x.rep.cells.length ≤ 9223372036854775807 := by
  obtain ⟨m, rfl, hl, hf⟩ := rd_st (fs := [(3, 0), (3, 1), (61, 2), (56, 3)]) h rfl
  obtain ⟨a, b, c, d, rfl⟩ : ∃ a b c d, cs = [a, b, c, d] := by
    match cs, hl with
    | [a, b, c, d], _ => exact ⟨a, b, c, d, rfl⟩
  obtain ⟨x, h1, ox⟩ := rd_i64 (hf (3, 0) (by simp) rfl) rfl
  obtain ⟨y, h2, oy⟩ := rd_i64 (hf (3, 1) (by simp) rfl) rfl
  obtain ⟨z, h3, oz⟩ := rd_i64 (hf (61, 2) (by simp) rfl) rfl
  obtain ⟨p, k, cap, l, h4, hk, hle, hcap, hs, _⟩ := rdFlat (f := Shown.l) (hf (56, 3) (by simp) rfl) rfl rfl (by decide) fun _ _ h => rdShown h
  cases (show [a] = _ from h1)
  cases (show [b] = _ from h2)
  cases (show [c] = _ from h3)
  cases (show [d] = _ from h4)
  subst hk
  exact ⟨⟨⟨x, y, z, l⟩, p, cap⟩, rfl, hs, by show l.length ≤ _; omega⟩
theorem rdReps {W : World} {n : Nat} {cs : List Value} (h : Rd tab W n 57 cs) : ∃ (p : Option Addr) (len cap : Nat) (xs : List RP), cs = [.slice p len cap] ∧ len = xs.length ∧ len ≤ 9223372036854775807 ∧ SlA W 4 p len (fun i => (xs.getD i default).l) ∧ ∀ x ∈ xs, SlA W 6 x.p x.rep.cells.length (fun j => (x.rep.cells.getD j default).l) ∧ x.rep.cells.length ≤ 9223372036854775807 := by
  obtain ⟨m, p, n, cap, el, _, h0, hle, hcap, _, hs, hr⟩ := rd_slA h rfl rfl (by decide)
  obtain ⟨xs, hn, hs', hv⟩ := hs.pick (f := RP.l) (R := fun x => SlA W 6 x.p x.rep.cells.length (fun j => (x.rep.cells.getD j default).l) ∧ x.rep.cells.length ≤ 9223372036854775807) fun i hi => rdRp (hr i hi)
  exact ⟨p, n, cap, xs, h0, hn.symm, by omega, hs', hv⟩
theorem law_WindowTells (W : World) {b0 b1 b2 b3 : Nat} {v0 v1 v2 v3 : Value} (o0 : Value.okWide Try.prog W .any b0 55 v0) (o1 : Value.okWide Try.prog W .any b1 56 v1) (o2 : Value.okWide Try.prog W .any b2 56 v2) (o3 : Value.okWide Try.prog W .any b3 57 v3)
    (r0 : ∃ m, Rd tab W m 55 v0.cells.toList) (r1 : ∃ m, Rd tab W m 56 v1.cells.toList) (r2 : ∃ m, Rd tab W m 56 v2.cells.toList) (r3 : ∃ m, Rd tab W m 57 v3.cells.toList) : Calls Try.prog 21 #[v0, v1, v2, v3] W fun e w' => e = .returned (.bool true) ∧ Bl W w' := by
  obtain ⟨cs, rfl⟩ := arg_struct tab_ok (t := 55) rfl o0
  rw [arg_one tab_ok (t := 56) rfl rfl o1] at r1
  rw [arg_one tab_ok (t := 56) rfl rfl o2] at r2
  rw [arg_one tab_ok (t := 57) rfl rfl o3] at r3
  obtain ⟨m0, r0⟩ := r0
  obtain ⟨m1, r1⟩ := r1
  obtain ⟨m2, r2⟩ := r2
  obtain ⟨m3, r3⟩ := r3
  obtain ⟨a, b, h0, _⟩ := rdRange r0
  obtain ⟨p, n, cap, la, h1, hn, hle, hcap, hs, _⟩ := rdFlat (f := Shown.l) r1 rfl rfl (by decide) fun _ _ h => rdShown h
  obtain ⟨r, k, cap', lb, h2, hk, hle', hcap', hs', _⟩ := rdFlat (f := Shown.l) r2 rfl rfl (by decide) fun _ _ h => rdShown h
  obtain ⟨u, m, cap'', rps, h3, hm, hm9, hs'', hcs⟩ := rdReps r3
  have h0' : cs = a.l ++ b.l := by simpa [Value.cells] using h0
  subst h0'
  cases h1
  cases h2
  cases h3
  exact walk_WindowTells a b la lb rps p r u n k m cap cap' cap'' hn hk hm (by omega) (by omega) hm9 W hs hs' hs'' hcs
end Go.Proofs.Ytkgjfcjciigcgaa
