/-
  tally.Apply; what counts come to, in whichever order.
-/
import Derived.Test.YtkgjfcjciigcgaaGoTallySum
import Derived.Laws.MakeOwn
namespace Go.Proofs.Ytkgjfcjciigcgaa
open Go.Proofs.Ytkgjfcjciigcgaa.Sl Go.RowKit
set_option linter.unusedVariables false
set_option linter.unusedSimpArgs false
set_option linter.unusedSectionVars false
set_option maxRecDepth 100000

def appM (m : FM) (l : List Chg) : FM := l.foldl (fun m x => fadd m x.s x.n) m
theorem appM_take (m : FM) (l : List Chg) (i : Nat) (hi : i < l.length) : appM m (l.take (i + 1)) = fadd (appM m (l.take i)) (l.getD i default).s (l.getD i default).n := by
  unfold appM
  rw [take_succD _ _ hi, List.foldl_append]
  rfl
theorem appM_append (m : FM) (a b : List Chg) : appM m (a ++ b) = appM (appM m a) b := by
  unfold appM
  rw [List.foldl_append]
def tot (l : List Chg) (s : Stamp) : Int := (l.map fun x => if x.s = s then x.n else 0).sum
theorem tot_cons (x : Chg) (l : List Chg) (s : Stamp) : tot (x :: l) s = (if x.s = s then x.n else 0) + tot l s := by simp [tot]
theorem tot_append (a b : List Chg) (s : Stamp) : tot (a ++ b) s = tot a s + tot b s := by simp [tot]
theorem tot_perm {a b : List Chg} (h : a.Perm b) (s : Stamp) : tot a s = tot b s := by
  induction h with
  | nil => rfl
  | cons x _ ih => rw [tot_cons, tot_cons, ih]
  | swap x y l => rw [tot_cons, tot_cons, tot_cons, tot_cons]; omega
  | trans _ _ h1 h2 => rw [h1, h2]
theorem appM_get (s : Stamp) : ∀ (l : List Chg) (m : FM), mgetD (appM m l) s 0 = mgetD m s 0 + tot l s
  | [], m => by simp [appM, tot]
  | x :: r, m => by
    show mgetD (appM (fadd m x.s x.n) r) s 0 = _
    rw [appM_get s r, tot_cons]
    unfold fadd
    rw [mgetD_mset]
    split
    · rename_i h
      subst h
      omega
    · omega
theorem appM_keys : ∀ (l : List Chg) (m : FM), (m.map (·.1)).Nodup → ((appM m l).map (·.1)).Nodup
  | [], m, h => h
  | x :: r, m, h => appM_keys r (fadd m x.s x.n) (mset_keysO h)
theorem appM_len : ∀ (l : List Chg) (m : FM), (appM m l).length ≤ m.length + l.length
  | [], m => by simp [appM]
  | x :: r, m => by
    have h1 := appM_len r (fadd m x.s x.n)
    have h2 := mset_lenO m x.s (mgetD m x.s 0 + x.n)
    show (appM (fadd m x.s x.n) r).length ≤ _
    unfold fadd at *
    simp only [List.length_cons]
    omega
theorem tot_bound {B : Int} (s : Stamp) : ∀ l : List Chg, (∀ x ∈ l, -B ≤ x.n ∧ x.n ≤ B) → 0 ≤ B → -((l.length : Int) * B) ≤ tot l s ∧ tot l s ≤ (l.length : Int) * B
  | [], _, _ => by simp [tot]
  | x :: r, h, hB => by
    have h1 := tot_bound s r (fun y hy => h y (List.mem_cons_of_mem _ hy)) hB
    have h2 := h x (List.mem_cons_self ..)
    rw [tot_cons, List.length_cons]
    have e : ((r.length + 1 : Nat) : Int) * B = (r.length : Int) * B + B := by rw [Int.natCast_add, Int.add_mul]; simp
    rw [e]
    split <;> omega
abbrev FPO := Option Nat × Array MapEntry × Nat
theorem ct_Apply {w : World} {g : Nat} {mo : Option Nat} {m : FM} {es : Array MapEntry} {clock : Nat} {l : List Chg} {p : Option Addr} {n c : Nat} (hI : ObIn (FrPK g mo es clock) w) (hf : FOk mo m es clock) (hn : n = l.length) (hs : SlA w 4 p n (fun i => (l.getD i default).l)) (hnm : 0 < n → pb p ∉ (FrPK g mo es clock).map (·.1)) (hl : n ≤ 1000)
    (hx : ∀ x ∈ l, -1099511627776000 ≤ x.n ∧ x.n ≤ 1099511627776000) (hm : ∀ s, -1000000000000000000 ≤ mgetD m s 0 ∧ mgetD m s 0 ≤ 1000000000000000000) :
    Calls Try.prog 106 #[.pointer (some ⟨g, 0, none⟩), .slice p n c] w (RetM w ((FrPK g mo es clock).map (·.1)) (fun _ : FPO => .tuple #[]) (fun y => FrPK g y.1 y.2.1 y.2.2) (fun y => FOk y.1 (appM m l) y.2.1 y.2.2)) := by
  subst hn
  refine enter (args := [_, _]) (M := []) (K := []) Try.func106 rfl Try.ntmps106 rfl (St.refl _ _) ?_
  refine gc_own (FrPK g mo es clock) hI.k hI.p ?_
  generalize hM : (FrPK g mo es clock).map (·.1) = M at *
  repeat' first
    | (refine gl_gate ?_; first
      | refine gl_nil ?_
      | (refine gl_any0 ?_; refine gl_pure tab_ok rfl rfl rfl rfl rfl rfl ?_))
    | (refine gc_gate ?_; first
      | refine gc_seq ?_
      | refine gc_region ?_
      | refine gc_block ?_)
    | (refine ge_gate ?_; first
      | ((with_reducible refine ge_gT ?_); first | with_reducible refine ge_then ?_ | with_reducible refine ge_then_exit ?_ | with_reducible refine ge_then_ret ?_))
  refine gc_loop (α := Nat × Option Nat × Array MapEntry × Nat) (fun x => [(0, true, .pointer (some ⟨g, 0, none⟩)), (6, true, .slice p l.length c), (7, true, .int .i64 l.length), (8, true, .int .i64 (x.1 : Int))]) (fun x => FrPK g x.2.1 x.2.2.1 x.2.2.2) (fun x => x.1 ≤ l.length ∧ FOk x.2.1 (appM m (l.take x.1)) x.2.2.1 x.2.2.2) (fun x => l.length - x.1) (0, mo, es, clock) c_frs (List.Sublist.refl _) ⟨Nat.zero_le _, hf⟩ ?_
  rintro ⟨i, mo1, es1, clock1⟩ ⟨hi, hf1⟩
  dsimp only at hi hf1 ⊢
  repeat' first
    | (refine gl_gate ?_; first
      | refine gl_nil ?_
      | (refine gl_any0 ?_; refine gl_pure tab_ok rfl rfl rfl rfl rfl rfl ?_))
    | (refine gc_gate ?_; first
      | refine gc_seq ?_
      | refine gc_region ?_)
    | (refine ge_gate ?_; first
      | ((with_reducible refine ge_gT ?_); first | with_reducible refine ge_then ?_ | with_reducible refine ge_then_exit ?_ | with_reducible refine ge_then_ret ?_))
  (refine gc_cond rfl ?_ ?_ <;> intro h_ <;> have hd_ := h_ <;> (try simp only [bytes_beq, cell_beq, val_beq, stamp_beq, decide_eq_true_eq, decide_eq_false_iff_not, Bool.and_eq_true, Bool.or_eq_true, Bool.or_eq_false_iff, Bool.not_eq_true', Bool.not_eq_false', Bool.not_true, Bool.not_false, Bool.false_or, Bool.true_and, Bool.and_true, Bool.or_false, beq_iff_eq, bne_iff_ne, beq_eq_false_iff_ne, bne_eq_false_iff_eq, ne_eq, Bool.false_eq_true, reduceCtorEq] at hd_) <;> (try (exfalso; omega)))
  · have hil : i < l.length := by omega
    have hnext := appM_take m l i hil
    have hb := appM_get (l.getD i default).s (l.take i) m
    have ht := tot_bound (B := 1099511627776000) (l.getD i default).s (l.take i) (fun x h => hx x (List.mem_of_mem_take h)) (by decide)
    have hm1 := hm (l.getD i default).s
    have hx1 := hx _ (getD_mem l i hil)
    have hlen : (l.take i).length ≤ 1000 := by simp; omega
    repeat' first
      | (refine gl_gate ?_; first
        | refine gl_nil ?_
        | (refine gl_load0 ?_; refine gl_yv (yv_load tab_ok (gok_none rfl) rfl rfl (fun _ => rfl) c_mem (fun _ => c_lds)) rfl rfl ?_)
        | (refine gl_add0 ?_; refine gl_yv (yv_add tab_ok (gok_none rfl) rfl rfl rfl rfl (fun _ => allT_of rfl) (by intro _; omega)) rfl rfl ?_)
        | (refine gl_idx0 ?_; refine gl_yv (yv_idxA tab_ok hs (gok_none rfl) rfl rfl rfl rfl rfl rfl (fun _ => rfl) (fun _ => rfl) c_bnd) rfl rfl ?_)
        | (refine gl_load0 ?_; refine gl_yv (yv_ldA tab_ok hs c_nm (gok_none rfl) rfl rfl (fun _ => rfl) c_bnd (fun _ => c_lds)) rfl rfl ?_)
        | (refine gl_any0 ?_; (refine gl_ev (ev_addF (g := g) (mo := mo1) (m := appM m (l.take i)) (es := es1) (clock := clock1) (s := (l.getD i default).s) (n := (l.getD i default).n) rfl rfl rfl rfl rfl (List.perm_append_comm (l₁ := [_])) hf1 (by unfold In64; rw [hb]; omega) ?_) rfl rfl; intro gm es2 clock2 hm2))
        | (refine gl_alc0 ?_; (refine gl_alloc tab_ok rfl rfl rfl rfl rfl ?_; intro g_ hg_))
        | (refine gl_sto0 ?_; refine gl_store tab_ok rfl rfl rfl rfl rfl rfl rfl c_one rfl c_ku ?_)
        | (refine gl_any0 ?_; refine gl_pure tab_ok rfl rfl rfl rfl rfl rfl ?_))
      | (refine gc_gate ?_; first
        | refine gc_seq ?_
        | refine gc_region ?_
        | refine gc_block ?_
        | refine gc_skip ?_)
      | (refine ge_gate ?_; first
        | ((with_reducible refine ge_gT ?_); first | with_reducible refine ge_then ?_ | with_reducible refine ge_then_exit ?_ | with_reducible refine ge_then_ret ?_)
        | ((with_reducible refine ge_gK ?_); first | with_reducible refine ge_block ?_ | refine ge_block_exit ?_ | refine ge_block_pass rfl ?_ | with_reducible refine ge_block_ret ?_))
    refine ge_round (i + 1, some gm, es2, clock2) ⟨by omega, ?_⟩ (by show l.length - (i + 1) < l.length - i; omega) c_frs (List.sublist_append_left _ _)
    dsimp only
    rw [hnext]
    exact hm2
  · repeat' first
      | (refine gc_gate ?_; first
        | refine gc_exit ?_)
      | (refine ge_gate ?_; first
        | ((with_reducible refine ge_gT ?_); first | with_reducible refine ge_then ?_ | with_reducible refine ge_then_exit ?_ | with_reducible refine ge_then_ret ?_)
        | ((with_reducible refine ge_gK ?_); first | with_reducible refine ge_block ?_ | refine ge_block_exit ?_ | refine ge_block_pass rfl ?_ | with_reducible refine ge_block_ret ?_)
        | ((with_reducible refine ge_gB ?_); first | refine ge_ret1 tab_ok rfl c_rvt ?_ | refine ge_end1 tab_ok rfl c_rvt ?_ | refine ge_ret2 tab_ok rfl c_rvt c_rvt ?_ | refine ge_ret_none rfl ?_ | refine ge_end_none rfl ?_))
    intro W hW
    have h1 : i = l.length := by omega
    rw [h1, List.take_length] at hf1
    exact ⟨(mo1, es1, clock1), rfl, hf1, hW⟩
section
variable {P : Program} {T : Tab} {N : Nat} {F : Fl} {o : Oper} {w0 W : World} {M : List Nat} {K Kx : Kl}
theorem made_one (v : Value) (n : Nat) : madeCells #[v] n = (List.replicate n v).toArray := by
  apply Array.ext'
  apply List.ext_getElem?
  intro i
  by_cases h : i < n
  · simp [madeCells, Nat.mod_one, h]
  · simp [madeCells, Nat.mod_one, h]
theorem ev_makeSlice (hT : TabOk P T) {R : Value → Kl → Prop} {t e : TypeId} {x : Operand} {n s bs : Nat} {z : List Value} {v : Value} {k : TyK} {b : Nat} (hg : o.guard = none) (ho : o.op = .makeSlice t x x) (hx : Fo F x = some (true, .int .i64 (n : Int))) (ht : ty T t = some ⟨.slice e, s, bs, z⟩) (he : ty T e = some ⟨k, 1, b, [v]⟩) (hb : (b : Int) * (n : Int) ≤ 281474976710656) (h63 : (n : Int) ≤ 9223372036854775807)
    (hR : ∀ g, w0.heap.size ≤ g → R (.slice (some (ad g)) n n) ((g, true, .cells (List.replicate n v).toArray e (0, 0)) :: K)) : Ev P o N w0 M F K R := by
  refine ev_new hg (.cells (List.replicate n v).toArray e (0, 0)) (fun g => .slice (some (ad g)) n n) (fun a W hF hW => ?_) hR
  obtain ⟨i, zv, h1, h2, h3, h4, h5⟩ := (hT e _ he).info
  have e0 := hF.eval hx rfl
  have h6 := run_make (P := P) W t e i zv (hT t _ ht).kind h1 h4 .i64 .i64 (n : Int) (n : Int) (by omega) (Int.le_refl _) (by rw [h3]; exact hb) h63
  rw [h2, h5, Int.toNat_natCast] at h6
  obtain ⟨dst, op, tp, pos, after, guard⟩ := o
  subst ho
  have h7 : (Instr.makeSlice t (.int .i64 (n : Int)) (.int .i64 (n : Int))).run P W = .ok (.slice (some ⟨W.heap.size, 0, none⟩) n n) (W.alloc (.cells (List.replicate n v).toArray e)) := by
    rw [h6, show n * 1 = n from Nat.mul_one n]
    show Result.ok _ (W.alloc (.cells (madeCells #[v] n) e)) = _
    rw [made_one]
  simp only [execOp, e0]
  simp only [Sem.run_bind, h7, Result.andThen_ok, Sem.run_pure]
/-- Those blocks, and what is left. -/
inductive Pk (A : Kl) : Kl → Kl → Prop
  | hd {K : Kl} : Pk A (A ++ K) K
  | fin : Pk A A []
  | tl {x : Nat × Bool × Obj} {K Kx : Kl} : Pk A K Kx → Pk A (x :: K) (x :: Kx)
  | app {L K Kx : Kl} : Pk A K Kx → Pk A (L ++ K) (L ++ Kx)
theorem Pk.perm {A K Kx : Kl} (h : Pk A K Kx) : K.Perm (A ++ Kx) := by
  induction h with
  | hd => exact List.Perm.refl _
  | fin => rw [List.append_nil]
  | tl _ ih => exact (ih.cons _).trans List.perm_middle.symm
  | app _ ih => exact (List.Perm.append_left _ ih).trans (List.perm_append_comm_assoc ..)
theorem c_pk {P : Prop} (h : P := by repeat first | exact Pk.hd | exact Pk.fin | apply Pk.tl | apply Pk.app) : P := h
theorem c_sb {P : Prop} (h : P := by repeat first | exact List.sublist_append_left _ _ | exact List.Sublist.refl _ | apply sub_app | apply List.Sublist.cons) : P := h
section
attribute [local semireducible] GE
theorem ge_pick {Q : Exit → Act → World → Prop} {e : Exit} (A : Kl) (h : Pk A K Kx) (h2 : GE Q e N w0 M F (A ++ Kx)) : GE Q e N w0 M F K := fun a W hF hW => h2 a W hF (hW.perm h.perm)
end
theorem ow_notin {A B Bx : Kl} {q : Option Nat} {X : List Value} {t : TypeId} (h : St w0 M K W) (hk : K.Perm (A ++ B)) (hB : Oa B q X t Bx) (hq : q ≠ none) : pb (q.map ad) ∉ A.map (·.1) := by
  have hap := (h.perm hk).apart
  cases q with
  | none => exact absurd rfl hq
  | some g =>
    rcases hB.perm with h1 | ⟨h1, _⟩
    · have hm : (g, true, Obj.cells X.toArray t (0, 0)) ∈ B := h1.symm.subset (List.mem_append_left _ (List.mem_singleton.2 rfl))
      intro hc
      obtain ⟨e, he, h2⟩ := List.mem_map.1 hc
      refine (List.pairwise_append.1 hap).2.2 e he _ hm ?_
      rw [h2]
      simp [pb, ad]
    · cases h1
end
section
variable {N : Nat} {w0 : World} {M : List Nat} {F : Fl} {K Kx : Kl} {o : Oper}
theorem ev_applyF {R : Value → Kl → Prop} {args : Array Operand} {ts : Array TypeId} {ps : List Bool} {g : Nat} {mo : Option Nat} {m : FM} {es : Array MapEntry} {clock : Nat} {l : List Chg} {p : Option Addr} {n c : Nat} (hg : o.guard = none) (ho : o.op = .call ⟨.value (.func 106), args, ts⟩) (hv : vals F args.toList = some [.pointer (some ⟨g, 0, none⟩), .slice p n c]) (hc : cdl F args.toList = some ps) (hp : ps.all id = true)
    (hk : Pk (FrPK g mo es clock) K Kx) (hf : FOk mo m es clock) (hn : n = l.length) (hs : ∀ W, St w0 M K W → SlA W 4 p n (fun i => (l.getD i default).l) ∧ (0 < n → pb p ∉ (FrPK g mo es clock).map (·.1))) (hl : n ≤ 1000)
    (hx : ∀ x ∈ l, -1099511627776000 ≤ x.n ∧ x.n ≤ 1099511627776000) (hm : ∀ s, -1000000000000000000 ≤ mgetD m s 0 ∧ mgetD m s 0 ≤ 1000000000000000000) (hR : ∀ mo' es' clock', FOk mo' (appM m l) es' clock' → R (.tuple #[]) (FrPK g mo' es' clock' ++ Kx)) : Ev Try.prog o N w0 M F K R :=
  have wr : ∀ (mo : Option Nat) (es : Array MapEntry) (clock : Nat), ∀ e ∈ FrPK g mo es clock, e.2.1 = true := fun mo es clock e he => by
    rcases List.mem_cons.1 he with rfl | he
    · rfl
    · cases mo with
      | none => cases he
      | some gm => simp [kmapT] at he; subst he; rfl
  ev_obj (Ko := FrPK g mo es clock) (val := fun _ : FPO => .tuple #[]) (Kn := fun y => FrPK g y.1 y.2.1 y.2.2) (φ := fun y => FOk y.1 (appM m l) y.2.1 y.2.2) hg ho ent106 hv hc hp hk.perm (wr _ _ _) (fun x => wr _ _ _)
    (fun W hW hI => ct_Apply hI hf hn (hs W hW).1 (hs W hW).2 hl hx hm) (fun x hx => hR _ _ _ hx)
end
end Go.Proofs.Ytkgjfcjciigcgaa
