/-
  window.Delta: what turned from one list to another one.
-/
import Derived.Test.YtkgjfcjciigcgaaGoSee
namespace Go.Proofs.Ytkgjfcjciigcgaa
open Go.Proofs.Ytkgjfcjciigcgaa.Sl Go.RowKit
set_option linter.unusedVariables false
set_option linter.unusedSimpArgs false
set_option linter.unusedSectionVars false
set_option maxRecDepth 100000

section
variable {κ ν : Type} [DecidableEq κ] {kf : κ → Value} {vf : ν → Value}
theorem Rng.nodup {m : List (κ × ν)} {es : Array MapEntry} {clock : Nat} {seen : Array Nat} {out : List (κ × ν)} (h : Mp kf vf m es clock) (hs : Rng m es seen out) : (out.map (·.1)).Nodup := by
  obtain ⟨ix, i1, i2, i3, i4⟩ := hs
  have h1 : (ix.map (fun i => m[i]?)).Pairwise (fun a b => a.map (·.1) ≠ b.map (·.1)) := by
    rw [List.pairwise_map]
    refine List.Pairwise.imp_of_mem (fun {i j} hi hj hne => ?_) i1
    have hi' := i2 i hi
    have hj' := i2 j hj
    rw [List.getElem?_eq_getElem hi', List.getElem?_eq_getElem hj']
    simp only [Option.map_some, ne_eq, Option.some.injEq]
    have hk := List.pairwise_iff_getElem.1 h.keys
    rcases Nat.lt_trichotomy i j with h' | h' | h'
    · have := hk i j (by simpa using hi') (by simpa using hj') h'
      simpa using this
    · exact absurd h' hne
    · have := hk j i (by simpa using hj') (by simpa using hi') h'
      simp only [List.getElem_map] at this
      exact fun e => this e.symm
  rw [← i4, List.pairwise_map] at h1
  rw [List.Nodup, List.pairwise_map]
  exact h1.imp fun h e => h (by simp [e])
theorem Rng.sub {m : List (κ × ν)} {es : Array MapEntry} {seen : Array Nat} {out : List (κ × ν)} (hs : Rng m es seen out) : ∀ x ∈ out, x ∈ m := by
  obtain ⟨ix, i1, i2, i3, i4⟩ := hs
  intro x hx
  have : some x ∈ out.map some := List.mem_map.2 ⟨x, hx, rfl⟩
  rw [i4] at this
  obtain ⟨i, _, h⟩ := List.mem_map.1 this
  exact List.mem_of_getElem? h
theorem mset_new {m : List (κ × ν)} {k : κ} {v : ν} (h : ∀ x ∈ m, x.1 ≠ k) : mset m k v = m ++ [(k, v)] := by
  unfold mset
  rw [fnd_none.2 h]
theorem fnd_of_mem : ∀ {m : List (κ × ν)} {i : Nat} {k : κ} {v : ν}, (m.map (·.1)).Nodup → (k, v) ∈ m → ∃ j, fnd k m i = some (j, v)
  | x :: r, i, k, v, hn, h => by
    unfold fnd
    simp only [List.map_cons, List.nodup_cons] at hn
    rcases List.mem_cons.1 h with h | h
    · subst h
      exact ⟨i, by simp⟩
    · have : k ≠ x.1 := fun e => hn.1 (List.mem_map.2 ⟨_, h, e⟩)
      rw [if_neg this]
      exact fnd_of_mem hn.2 h
theorem mgetD_mem {m : List (κ × ν)} {k : κ} {v d : ν} (hn : (m.map (·.1)).Nodup) (h : (k, v) ∈ m) : mgetD m k d = v := by
  obtain ⟨j, hj⟩ := fnd_of_mem (i := 0) hn h
  unfold mgetD
  rw [hj]
theorem fnd_isSome {m : List (κ × ν)} {k : κ} : (fnd k m 0).isSome = true ↔ k ∈ m.map (·.1) := by
  cases h : fnd k m 0 with
  | none =>
    have := fnd_none.1 h
    simp only [Option.isSome_none, Bool.false_eq_true, false_iff]
    intro hk
    obtain ⟨x, hx, e⟩ := List.mem_map.1 hk
    exact this x hx e
  | some y =>
    have := (fnd_some h).2
    simp only [Option.isSome_some, true_iff]
    exact List.mem_map.2 ⟨_, List.mem_of_getElem? this, rfl⟩
end
section
variable {P : Program} {N : Nat} {F : Fl} {l rest : List Oper} {Q : Exit → Act → World → Prop} {w0 : World} {M : List Nat} {K : Kl} {ds : Option Tmp} {tp t : TypeId} {ps : String} {af : Array Edge} {x y v : Operand} {b : Bool}
theorem gl_nxt0 (h : GL P l Q (⟨ds, .next x b, tp, ps, af, none⟩ :: rest) N w0 M F K) : GL P l Q (⟨ds, .next x b, tp, ps, af, none⟩ :: rest) N w0 M F K := h
theorem gl_ent0 (h : GL P l Q (⟨ds, .entry x, tp, ps, af, none⟩ :: rest) N w0 M F K) : GL P l Q (⟨ds, .entry x, tp, ps, af, none⟩ :: rest) N w0 M F K := h
theorem gl_lku0 (h : GL P l Q (⟨ds, .lookup t x y b, tp, ps, af, none⟩ :: rest) N w0 M F K) : GL P l Q (⟨ds, .lookup t x y b, tp, ps, af, none⟩ :: rest) N w0 M F K := h
theorem gl_mup0 (h : GL P l Q (⟨ds, .mapUpdate t x y v, tp, ps, af, none⟩ :: rest) N w0 M F K) : GL P l Q (⟨ds, .mapUpdate t x y v, tp, ps, af, none⟩ :: rest) N w0 M F K := h
theorem gl_rng0 (h : GL P l Q (⟨ds, .range t x, tp, ps, af, none⟩ :: rest) N w0 M F K) : GL P l Q (⟨ds, .range t x, tp, ps, af, none⟩ :: rest) N w0 M F K := h
end
theorem listM_perm {m m' : List (Cell × Val)} (hn : (m.map (·.1)).Nodup) (h : m.Perm m') : listM m = listM m' := by
  unfold listM
  have hn' : (m'.map (·.1)).Nodup := (h.map (·.1)).nodup_iff.1 hn
  rw [sortC_of_perm hn (h.map (·.1))]
  apply List.map_congr_left
  intro c hc
  rw [sortC_mem] at hc
  obtain ⟨⟨c', v⟩, hx, rfl⟩ := List.mem_map.1 hc
  rw [mgetD_mem hn (h.mem_iff.2 hx), mgetD_mem hn' hx]
def turnedB (ma : List (Cell × Val)) (x : Cell × Val) : Bool := !(fnd x.1 ma 0).isSome || !decide (mgetD ma x.1 v00 = x.2)
def goneB (mb : List (Cell × Val)) (x : Cell × Val) : Bool := !(fnd x.1 mb 0).isSome
def tB (ma out : List (Cell × Val)) : List (Cell × Val) := out.filter (turnedB ma)
def tA (mb out : List (Cell × Val)) : List (Cell × Val) := (out.filter (goneB mb)).map fun x => (x.1, v00)
def deltaM (ma mb : List (Cell × Val)) : List (Cell × Val) := tB ma mb ++ tA mb ma
def deltaL (la lb : List Shown) : List Shown := listM (deltaM (ofL la) (ofL lb))
section
variable {N : Nat} {w0 : World} {M : List Nat} {F : Fl} {K : Kl} {o : Oper}
theorem ev_callMp {R : Value → Kl → Prop} {args : Array Operand} {ts : Array TypeId} {vs : List Value} {ps : List Bool} {x : List (Cell × Val)} (hg : o.guard = none) (ho : o.op = .call ⟨.value (.func 171), args, ts⟩) (hv : vals F args.toList = some vs) (hc : cdl F args.toList = some ps) (hp : ps.all id = true)
    (h : ∀ W, St w0 M K W → Calls Try.prog 171 vs.toArray W (RetMp W x)) (hR : ∀ g es clock, Mp kCell vV x es clock → R (.map (some g)) ((g, true, .map es clock) :: K)) : Ev Try.prog o N w0 M F K R :=
  ev_call hg ho ent171 hv hc hp fun W hW => (h W hW).mono fun e W' ⟨g, es, clock, h1, h2, h3⟩ => ⟨_, _, h1, hW.grow h3 (fun e he => by
    simp only [List.mem_singleton] at he
    subst he
    exact (h3.wr (g, true, .map es clock) (List.Mem.head _) rfl).resolve_right (by simp)), hR g es clock h2⟩
end
theorem tB_snoc (ma out : List (Cell × Val)) (y : Cell × Val) : tB ma (out ++ [y]) = if turnedB ma y then tB ma out ++ [y] else tB ma out := by
  unfold tB
  rw [List.filter_append]
  cases h : turnedB ma y <;> simp [h]
theorem tA_snoc (mb out : List (Cell × Val)) (y : Cell × Val) : tA mb (out ++ [y]) = if goneB mb y then tA mb out ++ [(y.1, v00)] else tA mb out := by
  unfold tA
  rw [List.filter_append]
  cases h : goneB mb y <;> simp [h]
theorem nodup_last {m : List (Cell × Val)} {y : Cell × Val} (h : ((m ++ [y]).map (·.1)).Nodup) : ∀ x ∈ m, x.1 ≠ y.1 := by
  rw [List.map_append, List.nodup_append] at h
  intro x hx
  exact h.2.2 x.1 (List.mem_map.2 ⟨x, hx, rfl⟩) y.1 (by simp)
theorem mset_tB {ma out : List (Cell × Val)} {y : Cell × Val} (h : ((out ++ [y]).map (·.1)).Nodup) : mset (tB ma out) y.1 y.2 = tB ma out ++ [y] :=
  mset_new fun x hx => nodup_last h x (List.mem_filter.1 hx).1
theorem mset_tA {ma mb ob oa : List (Cell × Val)} {y : Cell × Val} (hb : ∀ x ∈ ob, x ∈ mb) (hg : goneB mb y = true) (h : ((oa ++ [y]).map (·.1)).Nodup) (v : Val) : mset (tB ma ob ++ tA mb oa) y.1 v = tB ma ob ++ (tA mb oa ++ [(y.1, v)]) := by
  rw [mset_new, List.append_assoc]
  intro x hx e
  rcases List.mem_append.1 hx with hx | hx
  · have h1 := hb x (List.mem_filter.1 hx).1
    unfold goneB at hg
    have h2 : (fnd y.1 mb 0).isSome = true := fnd_isSome.2 (List.mem_map.2 ⟨x, h1, e⟩)
    rw [h2] at hg
    cases hg
  · unfold tA at hx
    obtain ⟨z, hz, rfl⟩ := List.mem_map.1 hx
    exact nodup_last h z (List.mem_filter.1 hz).1 e
set_option maxHeartbeats 4000000 in
theorem ct_Delta (la lb : List Shown) (p r : Option Addr) (n k cap cap' : Nat) (w : World) (hn : n = la.length) (hk : k = lb.length) (hs : SlA w 6 p n (fun i => (la.getD i default).l)) (hs' : SlA w 6 r k (fun i => (lb.getD i default).l)) (hl : n ≤ 100000000) (hl' : k ≤ 100000000) :
    Calls Try.prog 96 #[.slice p n cap, .slice r k cap'] w (RetOw w (deltaL la lb).length 6 (cat Shown.l (deltaL la lb)) 120) := by
  have hla := ofL_len la
  have hlb := ofL_len lb
  refine enter (args := [_, _]) (M := []) (K := []) Try.func96 rfl Try.ntmps96 rfl (St.refl _ _) ?_
  repeat' first
    | (refine gl_gate ?_; first
      | refine gl_nil ?_
      | (refine gl_any0 ?_; refine gl_pure tab_ok rfl rfl rfl rfl rfl rfl ?_))
    | (refine gc_gate ?_; first
      | refine gc_seq ?_
      | refine gc_region ?_)
    | (refine ge_gate ?_; first
      | ((with_reducible refine ge_gT ?_); first | with_reducible refine ge_then ?_ | with_reducible refine ge_then_exit ?_ | with_reducible refine ge_then_ret ?_))
  refine gl_ev (ev_callMp (x := ofL la) rfl rfl rfl rfl rfl (fun W hW => ct_of la p n cap W hn (hs.st hW) (by omega)) (fun ga ea ka hma => ?_)) rfl rfl
  repeat' first
    | (refine gl_gate ?_; first
      | (refine gl_any0 ?_; refine gl_pure tab_ok rfl rfl rfl rfl rfl rfl ?_))
  refine gl_ev (ev_callMp (x := ofL lb) rfl rfl rfl rfl rfl (fun W hW => ct_of lb r k cap' W hk (hs'.st hW) (by omega)) (fun gb eb kb hmb => ?_)) rfl rfl
  repeat' first
    | refine gl_ev (ev_makeMap rfl rfl ?_) rfl rfl; intro g2_ hg2_
    | refine gl_rng0 ?_; refine gl_ev (ev_range tab_ok rfl rfl rfl rfl c_mem ?_) rfl rfl; intro r_ hr_
    | (refine gl_gate ?_; first
      | refine gl_nil ?_
      | (refine gl_any0 ?_; refine gl_pure tab_ok rfl rfl rfl rfl rfl rfl ?_))
    | (refine gc_gate ?_; first
      | refine gc_seq ?_
      | refine gc_region ?_
      | refine gc_block ?_)
    | (refine ge_gate ?_; first
      | ((with_reducible refine ge_gT ?_); first | with_reducible refine ge_then ?_ | with_reducible refine ge_then_exit ?_ | with_reducible refine ge_then_ret ?_))
  unfold deltaL
  generalize ofL la = ma at *
  generalize ofL lb = mb at *
  refine gc_loop (α := List (Cell × Val) × Array Nat × Array MapEntry × Nat) (fun x => [(5, true, .map (some ga)), (6, true, .map (some gb)), (7, true, .map (some g2_)), (21, true, .pointer (some ⟨r_, 0, none⟩))])
    (fun x => [(r_, true, .mapIter (some gb) kb x.2.1 kb), (g2_, true, .map x.2.2.1 x.2.2.2), (gb, true, .map eb kb), (ga, true, .map ea ka)]) (fun x => Rng mb eb x.2.1 x.1 ∧ Mp kCell vV (tB ma x.1) x.2.2.1 x.2.2.2 ∧ x.1.length ≤ mb.length) (fun x => mb.length - x.1.length) ([], #[], #[], 0) c_frs (List.Sublist.refl _) ⟨Rng.start, Mp.nil, Nat.zero_le _⟩ ?_
  rintro ⟨out, seen, e2, k2⟩ ⟨hs1, hm2, hl2⟩
  dsimp only at hs1 hm2 hl2 ⊢
  repeat' first
    | refine gl_nxt0 ?_; refine gl_ev (ev_next rfl rfl rfl c_mem c_mem hmb hs1 (fun hp_ => ?_) (fun y_ seen_ y1_ y2_ y3_ y4_ => ⟨_, c_ku, ?_⟩)) rfl rfl
    | refine gl_ent0 ?_; refine gl_yv (yv_entry (gok_none rfl) rfl rfl (fun _ => rfl) c_mem c_mem hmb y4_) rfl rfl ?_
    | refine gl_lku0 ?_; refine gl_yv ((yv_lookup (c := true) (k := y_.1) (z0 := v00) key_cell tab_ok zero_val (gok_none rfl) rfl rfl rfl rfl (fun _ => rfl) (fun _ => rfl) hma c_mem).cast (v' := .tuple #[vV (mgetD ma y_.1 v00), .bool (fnd y_.1 ma 0).isSome]) rfl) rfl rfl ?_
    | refine gl_mup0 ?_; refine gl_ev0 (ev_mapUpdate (kf := kCell) (vf := vV) (k := y_.1) (u := y_.2) key_cell tab_ok rfl rfl rfl rfl rfl rfl hm2 c_mem (fun es3 clock3 hm3 => ⟨_, c_ku, ?_⟩)) rfl
    | (refine gl_gate ?_; first
      | refine gl_nil ?_
      | (refine gl_load0 ?_; refine gl_yv (yv_load tab_ok (gok_none rfl) rfl rfl (fun _ => rfl) c_mem (fun _ => c_lds)) rfl rfl ?_)
      | (refine gl_pick0 ?_; first | refine gl_yv (yv_and (gok_none rfl) rfl rfl rfl (fun _ => rfl) c_imp2) rfl rfl ?_ | refine gl_yv (yv_or (gok_none rfl) rfl rfl rfl (fun _ => rfl) c_imp2) rfl rfl ?_)
      | (refine gl_loadG ?_; refine gl_yv (yv_load tab_ok c_gok rfl rfl c_imp c_mem (fun _ => c_lds)) rfl rfl ?_)
      | (refine gl_alc0 ?_; (refine gl_alloc tab_ok rfl rfl rfl rfl rfl ?_; intro g_ hg_))
      | (refine gl_sto0 ?_; refine gl_store tab_ok rfl rfl rfl rfl rfl rfl rfl c_one rfl c_ku ?_)
      | (refine gl_any0 ?_; refine gl_pure tab_ok rfl rfl rfl rfl rfl rfl ?_)
      | (refine gl_neS ?_; first | refine gl_yv (yv_neS tab_ok eqs_ok c_gok rfl rfl rfl rfl c_allT rfl rfl rfl) rfl rfl ?_))
    | (refine gc_gate ?_; first
      | refine gc_seq ?_
      | refine gc_region ?_
      | refine gc_true rfl ?_
      | refine gc_false rfl ?_
      | (refine gc_cond rfl ?_ ?_ <;> intro h_ <;> have hd_ := h_ <;> (try simp only [bytes_beq, cell_beq, val_beq, stamp_beq, decide_eq_true_eq, decide_eq_false_iff_not, Bool.and_eq_true, Bool.or_eq_true, Bool.or_eq_false_iff, Bool.not_eq_true', Bool.not_eq_false', Bool.not_true, Bool.not_false, Bool.false_or, Bool.true_and, Bool.and_true, Bool.or_false, beq_iff_eq, bne_iff_ne, beq_eq_false_iff_ne, bne_eq_false_iff_eq, ne_eq, Bool.false_eq_true, reduceCtorEq] at hd_) <;> (try (exfalso; omega)))
      | refine gc_block ?_
      | refine gc_exit ?_
      | refine gc_skip ?_)
    | (refine ge_gate ?_; first
      | ((with_reducible refine ge_gT ?_); first | with_reducible refine ge_then ?_ | with_reducible refine ge_then_exit ?_ | with_reducible refine ge_then_ret ?_)
      | ((with_reducible refine ge_gK ?_); first | with_reducible refine ge_block ?_ | refine ge_block_exit ?_ | refine ge_block_pass rfl ?_ | with_reducible refine ge_block_ret ?_))
  · repeat' first
      | refine gl_rng0 ?_; refine gl_ev (ev_range tab_ok rfl rfl rfl rfl c_mem ?_) rfl rfl; intro r2_ hr2_
      | (refine gl_gate ?_; first
        | refine gl_nil ?_)
      | (refine gc_gate ?_; first
        | refine gc_block ?_)
      | (refine ge_gate ?_; first
        | ((with_reducible refine ge_gT ?_); first | with_reducible refine ge_then ?_ | with_reducible refine ge_then_exit ?_ | with_reducible refine ge_then_ret ?_))
    refine gc_loop (α := List (Cell × Val) × Array Nat × Array MapEntry × Nat) (fun x => [(6, true, .map (some gb)), (7, true, .map (some g2_)), (44, true, .pointer (some ⟨r2_, 0, none⟩))])
      (fun x => [(r2_, true, .mapIter (some ga) ka x.2.1 ka), (g2_, true, .map x.2.2.1 x.2.2.2), (gb, true, .map eb kb), (ga, true, .map ea ka)]) (fun x => Rng ma ea x.2.1 x.1 ∧ Mp kCell vV (tB ma out ++ tA mb x.1) x.2.2.1 x.2.2.2 ∧ x.1.length ≤ ma.length) (fun x => ma.length - x.1.length) ([], #[], e2, k2) c_frs ?_ ⟨Rng.start, by show Mp kCell vV (tB ma out ++ []) _ _; rw [List.append_nil]; exact hm2, Nat.zero_le _⟩ ?_
    · exact List.Sublist.cons_cons _ (List.Sublist.cons _ (List.Sublist.refl _))
    rintro ⟨out2, seen2, e3, k3⟩ ⟨hs3, hm3, hl3⟩
    dsimp only at hs3 hm3 hl3 ⊢
    repeat' first
      | refine gl_nxt0 ?_; refine gl_ev (ev_next rfl rfl rfl c_mem c_mem hma hs3 (fun hp2_ => ?_) (fun y_ seen_ y1_ y2_ y3_ y4_ => ⟨_, c_ku, ?_⟩)) rfl rfl
      | refine gl_ent0 ?_; refine gl_yv (yv_entry (gok_none rfl) rfl rfl (fun _ => rfl) c_mem c_mem hma y4_) rfl rfl ?_
      | refine gl_lku0 ?_; refine gl_yv ((yv_lookup (c := true) (k := y_.1) (z0 := v00) key_cell tab_ok zero_val (gok_none rfl) rfl rfl rfl rfl (fun _ => rfl) (fun _ => rfl) hmb c_mem).cast (v' := .tuple #[vV (mgetD mb y_.1 v00), .bool (fnd y_.1 mb 0).isSome]) rfl) rfl rfl ?_
      | refine gl_mup0 ?_; refine gl_ev0 (ev_mapUpdate (kf := kCell) (vf := vV) (k := y_.1) (u := v00) key_cell tab_ok rfl rfl rfl rfl rfl rfl hm3 c_mem (fun es4 clock4 hm4 => ⟨_, c_ku, ?_⟩)) rfl
      | (refine gl_gate ?_; first
        | refine gl_nil ?_
        | (refine gl_load0 ?_; refine gl_yv (yv_load tab_ok (gok_none rfl) rfl rfl (fun _ => rfl) c_mem (fun _ => c_lds)) rfl rfl ?_)
        | (refine gl_alc0 ?_; (refine gl_alloc tab_ok rfl rfl rfl rfl rfl ?_; intro g_ hg_))
        | (refine gl_sto0 ?_; refine gl_store tab_ok rfl rfl rfl rfl rfl rfl rfl c_one rfl c_ku ?_)
        | (refine gl_any0 ?_; refine gl_pure tab_ok rfl rfl rfl rfl rfl rfl ?_))
      | (refine gc_gate ?_; first
        | refine gc_seq ?_
        | refine gc_region ?_
        | refine gc_true rfl ?_
        | refine gc_false rfl ?_
        | (refine gc_cond rfl ?_ ?_ <;> intro h_ <;> have hd_ := h_ <;> (try simp only [bytes_beq, cell_beq, val_beq, stamp_beq, decide_eq_true_eq, decide_eq_false_iff_not, Bool.and_eq_true, Bool.or_eq_true, Bool.or_eq_false_iff, Bool.not_eq_true', Bool.not_eq_false', Bool.not_true, Bool.not_false, Bool.false_or, Bool.true_and, Bool.and_true, Bool.or_false, beq_iff_eq, bne_iff_ne, beq_eq_false_iff_ne, bne_eq_false_iff_eq, ne_eq, Bool.false_eq_true, reduceCtorEq] at hd_) <;> (try (exfalso; omega)))
        | refine gc_block ?_
        | refine gc_exit ?_
        | refine gc_skip ?_)
      | (refine ge_gate ?_; first
        | ((with_reducible refine ge_gT ?_); first | with_reducible refine ge_then ?_ | with_reducible refine ge_then_exit ?_ | with_reducible refine ge_then_ret ?_)
        | ((with_reducible refine ge_gK ?_); first | with_reducible refine ge_block ?_ | refine ge_block_exit ?_ | refine ge_block_pass rfl ?_ | with_reducible refine ge_block_ret ?_))
    · have hnb := (hp_.map (·.1)).nodup_iff.2 hmb.keys
      have hT : (tB ma out ++ tA mb out2).Perm (deltaM ma mb) := List.Perm.append (hp_.filter _) ((hp2_.filter _).map _)
      have hL := listM_perm hm3.keys hT
      have hlen : (tB ma out ++ tA mb out2).length ≤ 1000000000 := by
        have h1 : (tB ma out).length ≤ out.length := List.length_filter_le ..
        have h2 : (tA mb out2).length ≤ out2.length := by unfold tA; rw [List.length_map]; exact List.length_filter_le ..
        rw [List.length_append]
        omega
      rw [← hL]
      repeat' first
        | (refine gl_gate ?_; first
          | refine gl_nil ?_
          | (refine gl_any0 ?_; (refine gl_ev (ev_callOw rfl rfl ent159 rfl rfl rfl (fun W hW => ct_List (hW.kn (wr := true) c_mem) hm3 hlen) ?_) rfl rfl; intro q_ c_ sp_ hw_))
          | (refine gl_any0 ?_; refine gl_pure tab_ok rfl rfl rfl rfl rfl rfl ?_))
        | (refine gc_gate ?_; first
          | refine gc_ret ?_)
        | (refine ge_gate ?_; first
          | ((with_reducible refine ge_gT ?_); first | with_reducible refine ge_then ?_ | with_reducible refine ge_then_exit ?_ | with_reducible refine ge_then_ret ?_)
          | ((with_reducible refine ge_gB ?_); first | refine ge_ret1 tab_ok rfl c_rvt ?_ | refine ge_end1 tab_ok rfl c_rvt ?_ | refine ge_ret2 tab_ok rfl c_rvt c_rvt ?_ | refine ge_ret_none rfl ?_ | refine ge_end_none rfl ?_))
      intro W hW
      exact ⟨q_, c_, sp_, rfl, hw_, hW.drop (List.sublist_append_left _ _)⟩
    · refine ge_round (out2 ++ [y_], seen_, es4, clock4) ⟨y4_, ?_, by rw [List.length_append]; exact y3_⟩ (by show ma.length - (out2 ++ [y_]).length < ma.length - out2.length; rw [List.length_append]; simp; omega) c_frs ?_
      · show Mp kCell vV (tB ma out ++ tA mb (out2 ++ [y_])) es4 clock4
        have ht : goneB mb y_ = true := by unfold goneB; rw [hd_]; rfl
        rw [tA_snoc, if_pos ht, ← mset_tA (fun x hx => hp_.mem_iff.1 hx) ht (Rng.nodup hma y4_)]
        exact hm4
      · exact List.Sublist.cons _ (List.Sublist.cons _ (List.Sublist.refl _))
    · refine ge_round (out2 ++ [y_], seen_, e3, k3) ⟨y4_, ?_, by rw [List.length_append]; exact y3_⟩ (by show ma.length - (out2 ++ [y_]).length < ma.length - out2.length; rw [List.length_append]; simp; omega) c_frs ?_
      · show Mp kCell vV (tB ma out ++ tA mb (out2 ++ [y_])) e3 k3
        have ht : goneB mb y_ = false := by unfold goneB; rw [hd_]; rfl
        rw [tA_snoc, ht]
        exact hm3
      · exact List.Sublist.cons _ (List.Sublist.cons _ (List.Sublist.refl _))
  · refine ge_round (out ++ [y_], seen_, es3, clock3) ⟨y4_, ?_, by rw [List.length_append]; exact y3_⟩ (by show mb.length - (out ++ [y_]).length < mb.length - out.length; rw [List.length_append]; simp; omega) c_frs ?_
    · show Mp kCell vV (tB ma (out ++ [y_])) es3 clock3
      have ht : turnedB ma y_ = true := by
        unfold turnedB
        rcases hd_ with h | h
        · rw [h]; rfl
        · simp [h]
      rw [tB_snoc, if_pos ht, ← mset_tB (Rng.nodup hmb y4_)]
      exact hm3
    · exact List.Sublist.cons _ (List.Sublist.cons _ (List.Sublist.cons _ (List.Sublist.refl _)))
  · refine ge_round (out ++ [y_], seen_, e2, k2) ⟨y4_, ?_, by rw [List.length_append]; exact y3_⟩ (by show mb.length - (out ++ [y_]).length < mb.length - out.length; rw [List.length_append]; simp; omega) c_frs ?_
    · show Mp kCell vV (tB ma (out ++ [y_])) e2 k2
      have ht : turnedB ma y_ = false := by
        unfold turnedB
        simp [hd_.1, hd_.2]
      rw [tB_snoc, ht]
      exact hm2
    · exact List.Sublist.cons _ (List.Sublist.cons _ (List.Sublist.cons _ (List.Sublist.refl _)))
end Go.Proofs.Ytkgjfcjciigcgaa
