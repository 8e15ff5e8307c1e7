/-
  Slices of elements that are themselves rows of cells: laid one behind the other, read, turned one by one, appended. No program in sight.
-/
import Derived.Test.YtkgjfcjciigcgaaSlBase
namespace Go.Proofs.Ytkgjfcjciigcgaa.Sl
open Go.RowKit Go.Proofs.YtkgjfcjciigcgaaW.PrintLast
set_option linter.unusedVariables false
attribute [local semireducible] GC GE GL GQ

/-- Each of k cells. -/
def Ek (k : Nat) (es : List (List Value)) : Prop := ∀ x ∈ es, x.length = k
theorem Ek.nil {k : Nat} : Ek k [] := fun x h => by cases h
theorem Ek.snoc {k : Nat} {es : List (List Value)} {x : List Value} (h : Ek k es) (hx : x.length = k) : Ek k (es ++ [x]) := fun y hy => by
  rcases List.mem_append.1 hy with hy | hy
  · exact h y hy
  · simp at hy; subst hy; exact hx
theorem Ek.set {k : Nat} {es : List (List Value)} {i : Nat} {x : List Value} (h : Ek k es) (hx : x.length = k) : Ek k (es.set i x) := fun y hy => by
  rcases List.mem_or_eq_of_mem_set hy with hy | rfl
  · exact h y hy
  · exact hx
theorem Ek.get {k : Nat} {es : List (List Value)} {i : Nat} (h : Ek k es) (hi : i < es.length) : (es.getD i []).length = k := by
  rw [show es.getD i [] = es[i] by simp [List.getD, hi]]; exact h _ (List.getElem_mem _)
theorem flat_length {k : Nat} : ∀ {es : List (List Value)}, Ek k es → es.flatten.length = es.length * k
  | [], _ => by simp
  | x :: r, h => by
    have h1 := flat_length (es := r) fun y hy => h y (List.mem_cons_of_mem _ hy)
    rw [List.flatten_cons, List.length_append, h x (by simp), h1, List.length_cons, Nat.succ_mul]; omega
theorem flat_get {k : Nat} : ∀ {es : List (List Value)} {i j : Nat}, Ek k es → i < es.length → j < k → es.flatten[i * k + j]? = (es.getD i [])[j]?
  | [], i, j, _, hi, hj => by simp at hi
  | x :: r, 0, j, h, hi, hj => by
    rw [List.flatten_cons, Nat.zero_mul, Nat.zero_add, List.getElem?_append_left (by rw [h x (by simp)]; exact hj)]
    simp
  | x :: r, i + 1, j, h, hi, hj => by
    have h1 := flat_get (es := r) (i := i) (j := j) (fun y hy => h y (List.mem_cons_of_mem _ hy)) (by simpa using hi) hj
    rw [List.flatten_cons, Nat.succ_mul, List.getElem?_append_right (by rw [h x (by simp)]; omega), h x (by simp), show i * k + k + j - k = i * k + j by omega, h1]
    simp
theorem flat_snoc (es : List (List Value)) (x : List Value) : (es ++ [x]).flatten = es.flatten ++ x := by simp
theorem flat_ones {es : List (List Value)} (h : ∀ x ∈ es, ∀ u ∈ x, u.oneCell' = true) : ∀ u ∈ es.flatten, u.oneCell' = true := fun u hu => by
  obtain ⟨x, hx, hu⟩ := List.mem_flatten.1 hu
  exact h x hx u hu
theorem putL_some : ∀ (o : Nat) (c l : List Value), o + c.length ≤ l.length → putL o c l = some (l.take o ++ c ++ l.drop (o + c.length))
  | 0, [], l, h => by simp [putL]
  | 0, v :: c, [], h => by simp at h
  | 0, v :: c, x :: l, h => by
    have := putL_some 0 c l (by simp at h ⊢; omega)
    simp only [putL, this]
    simp
  | o + 1, c, [], h => by simp at h
  | o + 1, c, x :: l, h => by
    have := putL_some o c l (by simp at h ⊢; omega)
    have e : putL (o + 1) c (x :: l) = match putL o c l with | some t => some (x :: t) | none => none := by cases c <;> rfl
    rw [e, this]
    simp [show o + 1 + c.length = (o + c.length) + 1 by omega]
theorem flat_set {k : Nat} : ∀ {es : List (List Value)} {i : Nat} {v : List Value}, Ek k es → i < es.length → v.length = k → (es.set i v).flatten = es.flatten.take (i * k) ++ v ++ es.flatten.drop (i * k + k)
  | [], i, v, _, hi, _ => by simp at hi
  | x :: r, 0, v, h, hi, hv => by
    have hx := h x (by simp)
    simp [hx]
  | x :: r, i + 1, v, h, hi, hv => by
    have hx := h x (by simp)
    have h1 := flat_set (es := r) (i := i) (v := v) (fun y hy => h y (List.mem_cons_of_mem _ hy)) (by simpa using hi) hv
    rw [List.set_cons_succ, List.flatten_cons, h1, List.flatten_cons, Nat.succ_mul]
    have e1 : List.take (i * k + k) x = x := List.take_of_length_le (by rw [hx]; omega)
    have e2 : List.drop (i * k + k + k) x = [] := List.drop_of_length_le (by rw [hx]; omega)
    rw [List.take_append, List.drop_append, hx, show i * k + k - k = i * k by omega, show i * k + k + k - k = i * k + k by omega, e1, e2]
    simp
theorem putL_flat {k : Nat} {es : List (List Value)} {i : Nat} {v sp : List Value} (h : Ek k es) (hi : i < es.length) (hv : v.length = k) : putL (i * k) v (es.flatten ++ sp) = some ((es.set i v).flatten ++ sp) := by
  have hl := flat_length h
  have hle : i * k + k ≤ es.length * k := by
    calc i * k + k = (i + 1) * k := by rw [Nat.succ_mul]
      _ ≤ es.length * k := Nat.mul_le_mul_right _ hi
  rw [putL_some _ _ _ (by rw [List.length_append, hl, hv]; omega), hv, flat_set h hi hv]
  congr 1
  rw [List.take_append, List.drop_append, hl, show i * k - es.length * k = 0 by omega, show i * k + k - es.length * k = 0 by omega]
  simp

section
variable {P : Program} {T : Tab} {N : Nat} {F : Fl} {a : Act} {l : List Oper} {o : Oper} {q : Bool} {C : World → Prop} {Q : Exit → Act → World → Prop} {w0 W : World} {M : List Nat} {K K' Kx : Kl} {rest : List Oper} {d : Nat} {v : Value} {p : Option Nat} {es : List (List Value)} {sp : List Value} {e : TypeId} {k n c : Nat}

theorem lds_flat {t : TypeId} {d : TyD} {i : Nat} (h : Ek k es) (hi : i < es.length) (hd : ty T t = some d) (ha : d.kind.agg = true) (hk : d.size = k) : Lds T t es.flatten (i * k) (.agg (es.getD i []).toArray) :=
  ⟨d, es.getD i [], hd, by rw [h.get hi, hk], fun j hj => flat_get h hi (by omega), fun _ => rfl, fun h => by rw [ha] at h; cases h⟩
/-- An own slice, read as one of the memory's. -/
theorem slA_flat (he : Ek k es) (hn : n = es.length) (hW : St w0 M K W) (hk : Oa K p (es.flatten ++ sp) e Kx) (hw : Ow p n c k es.flatten sp) : SlA W k (p.map ad) n (fun i => es.getD i []) := by
  subst hn
  have hW' := hk.st hW
  refine ⟨fun hn => ?_, fun i hi => he.get hi, fun hn => ?_⟩
  · cases p with
    | none => have := hw.nil rfl; have := hw.le; omega
    | some g => simp [pb, po, ad]
  · cases p with
    | none => have := hw.nil rfl; have := hw.le; omega
    | some g =>
      have hb := hW'.known (g, true, Obj.cells (es.flatten ++ sp).toArray e (0, 0)) (by simp [ow])
      have hpb : pb ((some g).map ad) = g := by simp [pb, ad]
      have hpo : po ((some g).map ad) = 0 := by simp [po, ad]
      refine ⟨_, _, _, by rw [hpb]; exact hb, fun i hi j hj => ?_⟩
      rw [hpo, Nat.zero_add, List.getElem?_append_left (by rw [flat_length he]; calc i * k + j < i * k + k := by omega
            _ = (i + 1) * k := by rw [Nat.succ_mul]
            _ ≤ es.length * k := Nat.mul_le_mul_right _ hi)]
      exact flat_get he hi hj
/-- The elements of a slice of old memory, as a list. -/
def elems (n : Nat) (f : Nat → List Value) : List (List Value) := (List.range n).map f
theorem elems_length (n : Nat) (f : Nat → List Value) : (elems n f).length = n := by simp [elems]
theorem elems_get {f : Nat → List Value} {i : Nat} (hi : i < n) : (elems n f).getD i [] = f i := by simp [elems, List.getD, hi]
theorem elems_ek {f : Nat → List Value} {pa : Option Addr} (h : SlA W k pa n f) : Ek k (elems n f) := fun x hx => by
  obtain ⟨i, hi, rfl⟩ := List.mem_map.1 hx
  exact h.len i (List.mem_range.1 hi)
theorem src_slA {t' : TypeId} {s bs : Nat} {z : List Value} {tx : TypeId} {f : Nat → List Value} {g : Addr} {cap : Nat} (hT : TabOk P T) (ht : ty T tx = some ⟨.slice t', s, bs, z⟩) (h : SlA w0 k (some g) n f) (hM : 0 < n → pb (some g) ∉ M) (h1 : ∀ i, i < n → ∀ u ∈ f i, u.oneCell' = true) : SrcK P k tx w0 M K (.slice (some g) n cap) n (elems n f).flatten := fun W hW => by
  have hek := elems_ek h
  have hl := flat_length hek
  rw [elems_length] at hl
  rcases Nat.eq_zero_or_pos n with h0 | h0
  · subst h0
    have e0 : (elems 0 f).flatten = [] := rfl
    rw [e0]
    exact Src.ofSlice W (hT tx _ ht).kind g 0 cap [] (by simp) (fun j u hu => by cases hu) (fun u hu => by cases hu)
  · have hg := h.ptr h0
    obtain ⟨cs, ct, fr, h2, h3⟩ := h.mem h0
    have hlt : pb (some g) < w0.heap.size := h.lt h0
    have hb : W.heap[pb (some g)]? = some (.cells cs.toArray ct fr) := by rw [hW.frame _ hlt (hM h0)]; exact h2
    simp only [Option.some.injEq] at hg
    refine Src.ofSlice W (hT tx _ ht).kind g n cap _ (by rw [hl]) (fun j u hu => ?_) (flat_ones fun x hx => by
      obtain ⟨i, hi, rfl⟩ := List.mem_map.1 hx
      exact h1 i (List.mem_range.1 hi))
    have hj : j < n * k := by rw [← hl]; exact (List.getElem?_eq_some_iff.1 hu).1
    have hk0 : 0 < k := by
      rcases Nat.eq_zero_or_pos k with h | h
      · subst h; omega
      · exact h
    have hi : j / k < n := (Nat.div_lt_iff_lt_mul hk0).2 hj
    have hm : j % k < k := Nat.mod_lt _ hk0
    have hjj : j / k * k + j % k = j := by rw [Nat.mul_comm]; exact Nat.div_add_mod j k
    have := flat_get hek (i := j / k) (j := j % k) (by rw [elems_length]; exact hi) hm
    rw [hjj, elems_get hi, hu] at this
    have h4 := h3 _ hi _ hm
    rw [← this, Nat.add_assoc, hjj] at h4
    have hadd : g.add j = ⟨pb (some g), po (some g) + j, none⟩ := by
      obtain ⟨b, off, spt⟩ := g
      simp only [pb, po, Option.getD_some, Addr.mk.injEq, true_and] at hg ⊢
      subst hg
      unfold Addr.add
      split <;> simp_all
    rw [hadd]
    simp [World.cell?, hb, h4]
/-- '[]T{}'. -/
theorem ev_buildSlice0 (hT : TabOk P T) {R : Value → Kl → Prop} {t : TypeId} {s bs : Nat} {z : List Value} {de : TyD} (hg : o.guard = none) (ho : o.op = .buildSlice t 0 #[]) (ht : ty T t = some ⟨.slice e, s, bs, z⟩) (he : ty T e = some de)
    (hR : ∀ g, w0.heap.size ≤ g → R (.slice ((some g).map ad) 0 0) (ow (some g) true ([] ++ []) e ++ K)) : Ev P o N w0 M F K R :=
  ev_new hg (.cells #[] e (0, 0)) (fun g => .slice (some ⟨g, 0, none⟩) 0 0) (fun a W hF hW => by
    obtain ⟨dst, op, tp, pos, after, guard⟩ := o
    subst ho
    have hrun : (Instr.buildSlice t 0 #[]).run P W = .ok (.slice (some ⟨W.heap.size, 0, none⟩) 0 0) (W.alloc (.cells #[] e (0, 0))) := by
      unfold Instr.buildSlice
      simp only [Sem.run_bind, run_underlying (hT t _ ht).kind, Result.andThen_ok, (hT e _ he).sizeOf, Nat.zero_mul]
      have h0 : Array.range 0 = #[] := rfl
      simp [Instr.fill, newRow, newObj, Sem.run, h0]
    simp only [execOp]
    rw [show (Array.map (fun (x : Nat × Operand) => (x.1, a.eval x.2)) #[]) = #[] by simp]
    simp [hrun]) (fun g hg' => by simpa [ow] using hR g hg')
theorem Ow.some0 {g : Nat} : Ow (some g) 0 0 k [] [] := ⟨by simp, by simp, Nat.le_refl _, fun h => by cases h⟩
/-- One element of one's own is turned. -/
theorem ev_storeO {t : TypeId} {x y : Operand} {dd : TyD} {R : Value → Kl → Prop} {g i : Nat} {cs : List Value} (hT : TabOk P T) (hg : o.guard = none) (ho : o.op = .store t x y) (hx : Fo F x = some (true, .pointer (some ⟨g, i * k, none⟩))) (hy : Fo F y = some (true, .agg cs.toArray))
    (ht : ty T t = some dd) (hs : dd.size = k) (hc : cs.length = k) (h1 : ∀ u ∈ cs, u.oneCell' = true) (he : Ek k es) (hi : i < es.length) (hk : Ku K g (.cells (es.flatten ++ sp).toArray e (0, 0)) (.cells ((es.set i cs).flatten ++ sp).toArray e (0, 0)) K')
    (h : R undef K') : Ev P o N w0 M F K R :=
  ev_store hT hg ho hx hy ht (by simpa [Value.cells, hs] using hc) (by simpa [Value.cells] using h1) (by simpa [Value.cells] using putL_flat he hi hc) hk h
theorem elems_set {f : Nat → List Value} {i : Nat} {x : List Value} : (elems n f).set i x = elems n (fun j => if j = i then x else f j) := by
  apply List.ext_getElem?
  intro j
  simp only [elems, List.getElem?_set, List.getElem?_map, List.length_map, List.length_range]
  by_cases hij : i = j
  · subst hij
    by_cases hi : i < n
    · simp [hi]
    · simp [hi]
  · by_cases hj : j < n
    · simp [hij, hj, show ¬ j = i by omega]
    · simp [hij, hj]
theorem elems_ek' {f : Nat → List Value} (h : ∀ i, i < n → (f i).length = k) : Ek k (elems n f) := fun x hx => by
  obtain ⟨i, hi, rfl⟩ := List.mem_map.1 hx
  exact h i (List.mem_range.1 hi)
theorem elems_congr {f g : Nat → List Value} (h : ∀ i, i < n → f i = g i) : elems n f = elems n g := by
  unfold elems
  exact List.map_congr_left fun i hi => h i (List.mem_range.1 hi)
theorem elems_succ {f : Nat → List Value} : elems (n + 1) f = elems n f ++ [f n] := by simp [elems, List.range_succ]
theorem lds_elems {f : Nat → List Value} {t : TypeId} {d : TyD} {i : Nat} (h : ∀ i, i < n → (f i).length = k) (hi : i < n) (hd : ty T t = some d) (ha : d.kind.agg = true) (hk : d.size = k) : Lds T t (elems n f).flatten (i * k) (.agg (f i).toArray) := by
  have := lds_flat (T := T) (t := t) (i := i) (elems_ek' h) (by rw [elems_length]; exact hi) hd ha hk
  rwa [elems_get hi] at this
/-- One element of one's own is turned. -/
theorem ev_storeE {t : TypeId} {x y : Operand} {dd : TyD} {R : Value → Kl → Prop} {g i : Nat} {cs : List Value} {f : Nat → List Value} (hT : TabOk P T) (hg : o.guard = none) (ho : o.op = .store t x y) (hx : Fo F x = some (true, .pointer (some ⟨g, i * k, none⟩))) (hy : Fo F y = some (true, .agg cs.toArray))
    (ht : ty T t = some dd) (hs : dd.size = k) (hc : cs.length = k) (h1 : ∀ u ∈ cs, u.oneCell' = true) (he : ∀ i, i < n → (f i).length = k) (hi : i < n) (hk : Ku K g (.cells ((elems n f).flatten ++ sp).toArray e (0, 0)) (.cells ((elems n (fun j => if j = i then cs else f j)).flatten ++ sp).toArray e (0, 0)) K')
    (h : R undef K') : Ev P o N w0 M F K R := by
  rw [← elems_set] at hk
  exact ev_storeO hT hg ho hx hy ht hs hc h1 (elems_ek' he) (by rw [elems_length]; exact hi) hk h
/-- A call that answers with blocks of its own. -/
theorem evb_callKV {σ : Type} {R : Value → World → List Nat → Kl → Prop} {x : Operand} {f : FuncId} {first cap : Array Value} {args : Array Operand} {ts : Array TypeId} {vs av : List Value} {ps : List Bool} {val : σ → Value} {Kn : σ → Kl} {φ : World → World → σ → Prop} (hg : o.guard = none) (ho : o.op = .call ⟨.value x, args, ts⟩) (hx : Fo F x = some (true, .func (.func f) first cap)) (hf : Ent P f) (hv : vals F args.toList = some vs) (hc : cdl F args.toList = some ps) (hp : ps.all id = true) (has : first.toList ++ vs ++ cap.toList = av)
    (h : ∀ W, St w0 M K W → Calls P f av.toArray W fun e W' => ∃ x, e = .returned (val x) ∧ φ W W' x ∧ St W [] (Kn x) W') (hw : ∀ x, ∀ e ∈ Kn x, e.2.1 = true)
    (hR : ∀ W W' x, St w0 M K W → St w0 M (Kn x ++ K) W' → St W [] (Kn x) W' → φ W W' x → R (val x) W' (wrs (Kn x ++ K)) (Kn x ++ K)) : EvB P o N w0 M F K R :=
  ⟨hg, fun a W hF hW next Qx hn => by
    have e0 := vals_ok hF hc (allT_of hp) hv
    have e2 := hF.eval hx rfl
    obtain ⟨dst, op, tp, pos, after, guard⟩ := o
    subst ho
    have e1 : args.map a.eval = vs.toArray := by apply Array.ext'; simpa using e0
    have e3 : first ++ vs.toArray ++ cap = av.toArray := by rw [← has]; apply Array.ext'; simp
    have hrun : (execOp a.eval ⟨dst, .call ⟨.value x, args, ts⟩, tp, pos, after, guard⟩).run P W = .ok (.enter f av.toArray) W := by
      have hf' := hf av.toArray W
      simp [execOp, resolve, e2, Deferred.ofValue, invoke, e1, e3, hf']
    unfold Oper.wp
    rw [hrun, Oper.upon_enter]
    exact (h W hW).mono fun e W' ⟨y, he, hφ, hb⟩ => by
      subst he
      have hW' := hW.grow hb (fun e he => (hb.wr e he (hw y e he)).resolve_right (by simp))
      exact hn _ _ _ _ _ (hR W W' y hW hW' hb hφ) hW'.base⟩
theorem evb_callK {σ : Type} {R : Value → World → List Nat → Kl → Prop} {f : FuncId} {args : Array Operand} {ts : Array TypeId} {vs : List Value} {ps : List Bool} {val : σ → Value} {Kn : σ → Kl} {φ : World → World → σ → Prop} (hg : o.guard = none) (ho : o.op = .call ⟨.value (.func f), args, ts⟩) (hf : Ent P f) (hv : vals F args.toList = some vs) (hc : cdl F args.toList = some ps) (hp : ps.all id = true)
    (h : ∀ W, St w0 M K W → Calls P f vs.toArray W fun e W' => ∃ x, e = .returned (val x) ∧ φ W W' x ∧ St W [] (Kn x) W') (hw : ∀ x, ∀ e ∈ Kn x, e.2.1 = true)
    (hR : ∀ W W' x, St w0 M K W → St w0 M (Kn x ++ K) W' → St W [] (Kn x) W' → φ W W' x → R (val x) W' (wrs (Kn x ++ K)) (Kn x ++ K)) : EvB P o N w0 M F K R :=
  evb_callKV hg ho (x := .func f) (first := #[]) (cap := #[]) rfl hf hv hc hp (by simp) h hw hR
end
end Go.Proofs.Ytkgjfcjciigcgaa.Sl
