/- Put together: Flow. -/
import Derived.Test.YtaphmmobmadfoaaMc05
/- A region whose effects may come in any order: what reads only comes first; of the rest one word on each operation is enough, whatever the order. -/
namespace Go.Proofs.Ytaphmmobmadfoaa
open Go Go.RowKit
namespace Mix
section
variable {P : Program} {ops : Array Oper} {md : Region.Mode} {C : World → Prop} {E : List Nat} {Q : Act → World → Prop}
def pre (P : Program) (md : Region.Mode) (ops : Array Oper) (C : World → Prop) (E : List Nat) (T : Nat → Array Bool → Act → World → Prop) : Nat → Array Bool → Act → World → Prop
  | 0, l, a, w => T 0 l a w
  | f + 1, l, a, w => match pick md ops E l with
    | some i => mOp P ops C E ops.size i (pre P md ops C E T f (l.setIfInBounds i true)) a w
    | none => T (f + 1) l a w
theorem any_pre (hs : Region.noSelect ops = true) {T : Nat → Array Bool → Act → World → Prop} (hT : ∀ f l a w, C w → T f l a w → any P md ops C E ops.size Q f l a w) : ∀ (f : Nat) (l : Array Bool) (a : Act) (w : World), C w → pre P md ops C E T f l a w → any P md ops C E ops.size Q f l a w
  | 0, l, a, w, hC, h => hT _ _ _ _ hC h
  | f + 1, l, a, w, hC, h => by
    have hN : ops[ops.size]? = none := Array.getElem?_eq_none (Nat.le_refl _)
    unfold pre at h
    cases hp : pick md ops E l with
    | some i =>
      rw [hp] at h
      simp only at h
      have hmem := List.mem_of_find?_eq_some hp
      have hsat := List.find?_some hp
      simp only [Bool.and_eq_true, Bool.not_eq_true'] at hsat
      obtain ⟨hE, hF⟩ := hsat
      unfold freeI at hF
      cases ho : ops[i]? with
      | none => rw [ho] at hF; cases hF
      | some oi =>
        rw [ho] at hF
        simp only [Bool.and_eq_true, Bool.not_eq_true', List.all_eq_true, List.mem_range, Bool.or_eq_true, beq_iff_eq] at hF
        obtain ⟨hc, hF⟩ := hF
        obtain ⟨v, hy, hK⟩ := yields_of_mOp ho hE h
        have hil : i < ops.size := (Array.getElem?_eq_some_iff.1 ho).1
        refine any_first_quiet ho hE hc (by omega) (fun _ => False) (fun j hj => hj.elim) (.inl hN) (Region.noSelect_spec hs) f l a w hC (fun j hj => hj.elim) (fun j oj hoj hji hun hno => ?_) hmem hy
          (any_pre hs hT f _ _ w hC hK)
        have hjl : j < ops.size := (Array.getElem?_eq_some_iff.1 hoj).1
        rcases hF j hjl with (h' | h') | h'
        · exact absurd h' hji
        · rw [hun] at h'; cases h'
        · rw [hoj] at h'
          simp only [Bool.or_eq_true] at h'
          rcases h' with h' | h'
          · obtain ⟨e, he, hb⟩ := Array.any_eq_true'.1 h'
            simp only [Bool.and_eq_true, beq_iff_eq] at hb
            exact absurd hb.2 (hno e he hb.1)
          · exact h'
    | none =>
      rw [hp] at h
      exact hT _ _ _ _ hC h
def dstOf (ops : Array Oper) (j : Nat) : Option Nat := (ops[j]?).bind (·.dst)
def putL (ops : Array Oper) (vals : Nat → Value) : List Nat → Act → Act
  | [], a => a
  | j :: r, a => putL ops vals r (a.put (dstOf ops j) (vals j))
theorem put_size (a : Act) (d : Option Tmp) (v : Value) : (a.put d v).tmps.size = a.tmps.size := by
  cases d <;> simp [Act.put]
theorem put_defers (a : Act) (d : Option Tmp) (v : Value) : (a.put d v).defers = a.defers := by
  cases d <;> rfl
theorem putL_size (vals : Nat → Value) : ∀ (L : List Nat) (a : Act), (putL ops vals L a).tmps.size = a.tmps.size
  | [], _ => rfl
  | j :: r, a => (putL_size vals r _).trans (put_size _ _ _)
theorem putL_defers (vals : Nat → Value) : ∀ (L : List Nat) (a : Act), (putL ops vals L a).defers = a.defers
  | [], _ => rfl
  | j :: r, a => (putL_defers vals r _).trans (put_defers _ _ _)
theorem put_not (a : Act) {d : Option Tmp} (v : Value) {t : Nat} (h : d ≠ some t) : (a.put d v).tmps[t]? = a.tmps[t]? := by
  cases d with
  | none => rfl
  | some d =>
    have : d ≠ t := fun e => h (by rw [e])
    simp [Act.put, this]
theorem putL_not (vals : Nat → Value) {t : Nat} : ∀ (L : List Nat) (a : Act), (∀ j ∈ L, dstOf ops j ≠ some t) → (putL ops vals L a).tmps[t]? = a.tmps[t]?
  | [], _, _ => rfl
  | j :: r, a, h => (putL_not vals r _ fun i hi => h i (List.mem_cons_of_mem _ hi)).trans (put_not _ _ (h j (by simp)))
theorem putL_mem (vals : Nat → Value) {t j : Nat} (hd : dstOf ops j = some t) : ∀ (L : List Nat) (a : Act), j ∈ L → t < a.tmps.size → (∀ i ∈ L, dstOf ops i = some t → i = j) → (putL ops vals L a).tmps[t]? = some (vals j)
  | [], _, h, _, _ => by cases h
  | i :: r, a, h, ht, hu => by
    by_cases hj : j ∈ r
    · exact putL_mem vals hd r _ hj (by rw [put_size]; exact ht) fun k hk => hu k (List.mem_cons_of_mem _ hk)
    · have hij : j = i := by
        rcases List.mem_cons.1 h with h | h
        · exact h
        · exact absurd h hj
      subst hij
      have hr : ∀ k ∈ r, dstOf ops k ≠ some t := fun k hk e => hj (by rw [← hu k (List.mem_cons_of_mem _ hk) e]; exact hk)
      show (putL ops vals r (a.put (dstOf ops j) (vals j))).tmps[t]? = _
      rw [putL_not vals r _ hr, hd]
      simp [Act.put, ht]
theorem putL_snoc (vals : Nat → Value) (i : Nat) : ∀ (L : List Nat) (a : Act), putL ops vals (L ++ [i]) a = (putL ops vals L a).put (dstOf ops i) (vals i)
  | [], _ => rfl
  | j :: r, a => putL_snoc vals i r _
theorem putL_congr {vals vals' : Nat → Value} : ∀ (L : List Nat) (a : Act), (∀ j ∈ L, vals j = vals' j) → putL ops vals L a = putL ops vals' L a
  | [], _, _ => rfl
  | j :: r, a, h => by
    show putL ops vals r (a.put (dstOf ops j) (vals j)) = putL ops vals' r (a.put (dstOf ops j) (vals' j))
    rw [h j (by simp)]
    exact putL_congr r _ fun k hk => h k (List.mem_cons_of_mem _ hk)
def setL (l : Array Bool) (L : List Nat) : Array Bool := L.foldl (fun l j => l.setIfInBounds j true) l
theorem setL_snoc (l : Array Bool) (L : List Nat) (i : Nat) : setL l (L ++ [i]) = (setL l L).setIfInBounds i true := by simp [setL]
theorem setL_get : ∀ (L : List Nat) (l : Array Bool) (i : Nat) (b : Bool), i < l.size → (setL l L).getD i b = if i ∈ L then true else l.getD i b
  | [], l, i, b, _ => by simp [setL]
  | j :: r, l, i, b, h => by
    have := setL_get r (l.setIfInBounds j true) i b (by simpa using h)
    show (setL (l.setIfInBounds j true) r).getD i b = _
    rw [this]
    by_cases hr : i ∈ r
    · simp [hr]
    · rw [if_neg hr]
      by_cases e : j = i
      · subst e
        simp [Array.getD_eq_getD_getElem?, h]
      · have e' : ¬ i = j := fun h => e h.symm
        simp [Array.getD_eq_getD_getElem?, Array.getElem?_setIfInBounds, e, e', hr]
def selB (o : Op) : Bool := match o with | .select _ _ => true | _ => false
def flowB (md : Region.Mode) (ops : Array Oper) (E M : List Nat) (D : Nat → List Nat) (l0 : Array Bool) (sz : Nat) : Bool :=
  decide M.Nodup && l0.size == ops.size && (List.range ops.size).all (fun i => l0.getD i true || M.contains i) &&
  (List.range ops.size).all (fun i => match ops[i]? with | none => true | some o => o.after.all fun e => !Region.binds md e || decide (e.on < i)) &&
  M.all (fun i => decide (i < ops.size) && !l0.getD i true && E.contains i && match ops[i]? with
    | none => false
    | some o => o.guard.isNone && !selB o.op &&
      (match o.dst with | none => true | some d => decide (d < sz) && M.all fun j => j == i || dstOf ops j != some d) &&
      (D i).all (fun j => M.contains j && o.after.any fun e => Region.binds md e && e.on == j) &&
      o.op.operands.all fun x => match x with | .tmp t => (D i).any (fun j => dstOf ops j == some t) || M.all (fun j => dstOf ops j != some t) | _ => true)
theorem nodup_le : ∀ (L M : List Nat), L.Nodup → (∀ j ∈ L, j ∈ M) → L.length ≤ M.length
  | [], _, _, _ => Nat.zero_le _
  | j :: r, M, hn, hs => by
    rw [List.nodup_cons] at hn
    have hj : j ∈ M := hs j (by simp)
    have := nodup_le r (M.erase j) hn.2 fun i hi => by
      have hij : i ≠ j := fun e => hn.1 (e ▸ hi)
      exact (List.mem_erase_of_ne hij).2 (hs i (List.mem_cons_of_mem _ hi))
    rw [List.length_erase_of_mem hj] at this
    have hp : 0 < M.length := List.length_pos_of_mem hj
    rw [List.length_cons]
    omega
theorem nodup_all {L M : List Nat} (hn : L.Nodup) (hs : ∀ j ∈ L, j ∈ M) (hl : M.length ≤ L.length) : ∀ j ∈ M, j ∈ L := fun j hj => by
  by_cases h : j ∈ L
  · exact h
  · have := nodup_le (j :: L) M (List.nodup_cons.2 ⟨h, hn⟩) fun i hi => by
      rcases List.mem_cons.1 hi with e | e
      · rw [e]; exact hj
      · exact hs i e
    rw [List.length_cons] at this
    omega
theorem eval_get {a a' : Act} {t : Nat} (h : a.tmps[t]? = a'.tmps[t]?) : a.eval (.tmp t) = a'.eval (.tmp t) := by
  show a.tmps.getD t undef = a'.tmps.getD t undef
  rw [Array.getD_eq_getD_getElem?, Array.getD_eq_getD_getElem?, h]
theorem any_flow (M : List Nat) (D : Nat → List Nat) (R : Nat → Value → World → Prop) (S : World → World → Prop) {l0 : Array Bool} {a0 : Act} (hB : flowB md ops E M D l0 a0.tmps.size = true)
    (hS : ∀ j v u u', S u u' → R j v u → R j v u')
    (hstep : ∀ i ∈ M, ∀ vals u, C u → (∀ j ∈ D i, R j (vals j) u) → ∀ o, ops[i]? = some o → goes P o (putL ops vals (D i) a0) u (fun v u' => C u' ∧ S u u' ∧ R i v u'))
    (hend : ∀ vals u, C u → (∀ j ∈ M, R j (vals j) u) → Q (putL ops vals M a0) u) :
    ∀ (k : Nat) (done : List Nat) (vals : Nat → Value) (u : World), done.Nodup → (∀ j ∈ done, j ∈ M) → k + done.length = M.length → C u → (∀ j ∈ done, R j (vals j) u) →
      any P md ops C E ops.size Q k (setL l0 done) (putL ops vals done a0) u := by
  unfold flowB at hB
  simp only [Bool.and_eq_true, decide_eq_true_eq, beq_iff_eq, List.all_eq_true, List.mem_range, Bool.or_eq_true, Bool.not_eq_true', List.contains_iff_mem] at hB
  obtain ⟨⟨⟨⟨hnd, hsz⟩, hall⟩, hback⟩, hM⟩ := hB
  have un : ∀ {done : List Nat} {i : Nat}, i < ops.size → i ∉ done → i ∈ M → (setL l0 done).getD i true = false := fun {done i} hi hd hm => by
    rw [setL_get _ _ _ _ (by rw [hsz]; exact hi), if_neg hd]
    exact (hM i hm).1.1.2
  -- a slot of one of the operations
  have slot : ∀ {i : Nat} {d : Nat}, i ∈ M → dstOf ops i = some d → d < a0.tmps.size ∧ ∀ j ∈ M, dstOf ops j = some d → j = i := fun {i d} hi hd => by
    have h := (hM i hi).2
    unfold dstOf at hd
    cases ho : ops[i]? with
    | none => rw [ho] at hd; cases hd
    | some o =>
      rw [ho] at hd h
      have hd' : o.dst = some d := hd
      simp only [hd', Bool.and_eq_true, decide_eq_true_eq, List.all_eq_true, Bool.or_eq_true, beq_iff_eq, bne_iff_ne] at h
      refine ⟨h.1.1.2.1, fun j hj e => ?_⟩
      rcases h.1.1.2.2 j hj with h' | h'
      · exact h'
      · exact absurd e h'
  intro k
  induction k with
  | zero =>
    intro done vals u hdn hdM hk hC hR
    have hsub : ∀ j ∈ M, j ∈ done := by
      exact nodup_all hdn hdM (by omega)
    refine ⟨?_, ?_⟩
    · apply List.eq_nil_iff_forall_not_mem.2
      intro i hi
      obtain ⟨h1, o, ho, _⟩ := mem_ready.1 hi
      have hil : i < ops.size := (Array.getElem?_eq_some_iff.1 ho).1
      rw [setL_get _ _ _ _ (by rw [hsz]; exact hil)] at h1
      split at h1
      · cases h1
      · rename_i hd
        rcases hall i hil with h2 | h2
        · rw [h1] at h2; cases h2
        · exact hd (hsub i h2)
    · have := hend vals u hC fun j hj => hR j (hsub j hj)
      have e : putL ops vals done a0 = putL ops vals M a0 := by
        have e1 : (putL ops vals done a0).tmps = (putL ops vals M a0).tmps := by
          apply Array.ext_getElem?
          intro t
          by_cases ht : ∃ j ∈ M, dstOf ops j = some t
          · obtain ⟨j, hj, hd⟩ := ht
            obtain ⟨h1, h2⟩ := slot hj hd
            rw [putL_mem vals hd done a0 (hsub j hj) h1 fun i hi => h2 i (hdM i hi), putL_mem vals hd M a0 hj h1 h2]
          · rw [putL_not vals done a0 fun j hj e => ht ⟨j, hdM j hj, e⟩, putL_not vals M a0 fun j hj e => ht ⟨j, hj, e⟩]
        have e2 : (putL ops vals done a0).defers = (putL ops vals M a0).defers := by rw [putL_defers, putL_defers]
        cases h1 : putL ops vals done a0
        cases h2 : putL ops vals M a0
        rw [h1, h2] at e1 e2
        simp only at e1 e2
        rw [e1, e2]
      rw [e]
      exact this
  | succ k ih =>
    intro done vals u hdn hdM hk hC hR
    refine ⟨fun he => ?_, fun i hi => ?_⟩
    · exfalso
      have hlist : ∀ i, i < ops.size → (setL l0 done).getD i true = true := by
        intro i
        induction i using Nat.strongRecOn with
        | ind i ihi =>
          intro hil
          cases hv : (setL l0 done).getD i true with
          | true => rfl
          | false =>
            exfalso
            have hmem : i ∈ Region.ready md ops (setL l0 done) := by
              obtain ⟨o, ho⟩ : ∃ o, ops[i]? = some o := ⟨ops[i], Array.getElem?_eq_getElem hil⟩
              refine mem_ready.2 ⟨hv, o, ho, fun e hem hb => ?_⟩
              have hb' := hback i hil
              rw [ho] at hb'
              have := Array.all_eq_true'.1 hb' e hem
              rw [hb] at this
              simp only [Bool.not_true, Bool.false_or, decide_eq_true_eq] at this
              have h3 := ihi e.on this (by omega)
              have hs3 : e.on < (setL l0 done).size := by
                rcases Nat.lt_or_ge e.on (setL l0 done).size with h | h
                · exact h
                · exfalso
                  have hh : (setL l0 done).size = l0.size := by
                    have : ∀ (L : List Nat) (l : Array Bool), (setL l L).size = l.size := by
                      intro L
                      induction L with
                      | nil => intro l; rfl
                      | cons a L ih => intro l; exact (ih _).trans (by simp)
                    exact this _ _
                  omega
              rw [Array.getD_eq_getD_getElem?, Array.getElem?_eq_getElem hs3] at h3 ⊢
              exact h3
            rw [he] at hmem
            cases hmem
      have hsub : ∀ j ∈ M, j ∈ done := by
        intro j hj
        have hjl := (hM j hj).1.1.1
        have h1 := hlist j hjl
        by_cases hd : j ∈ done
        · exact hd
        · rw [un hjl hd hj] at h1; cases h1
      have := nodup_le M done hnd hsub
      omega
    · obtain ⟨h1, o, ho, haft⟩ := mem_ready.1 hi
      have hil : i < ops.size := (Array.getElem?_eq_some_iff.1 ho).1
      have hid : i ∉ done := fun h => by
        rw [setL_get _ _ _ _ (by rw [hsz]; exact hil), if_pos h] at h1
        cases h1
      have hiM : i ∈ M := by
        rcases hall i hil with h2 | h2
        · rw [setL_get _ _ _ _ (by rw [hsz]; exact hil), if_neg hid, h2] at h1
          cases h1
        · exact h2
      have hi0 := hM i hiM
      have hEi := hi0.1.2
      have hio := hi0.2
      rw [ho] at hio
      simp only [Bool.and_eq_true, Bool.not_eq_true', List.all_eq_true, List.contains_iff_mem] at hio
      obtain ⟨⟨⟨⟨hg, hsel⟩, hdst⟩, hD⟩, hopd⟩ := hio
      have hg' : o.guard = none := by simpa using hg
      have hDd : ∀ j ∈ D i, j ∈ done := fun j hj => by
        obtain ⟨hjM, hje⟩ := hD j hj
        obtain ⟨e, hem, hb⟩ := Array.any_eq_true'.1 hje
        simp only [Bool.and_eq_true, beq_iff_eq] at hb
        have h3 := haft e hem hb.1
        rw [hb.2, setL_get _ _ _ _ (by rw [hsz]; exact (hM j hjM).1.1.1)] at h3
        split at h3
        · assumption
        · have h4 := (hM j hjM).1.1.2
          have hs3 : j < l0.size := by rw [hsz]; exact (hM j hjM).1.1.1
          rw [Array.getD_eq_getD_getElem?, Array.getElem?_eq_getElem hs3] at h3 h4
          have h3' : l0[j] = true := h3
          have h4' : l0[j] = false := h4
          rw [h3'] at h4'
          cases h4'
      have hst := hstep i hiM vals u hC (fun j hj => hR j (hDd j hj)) o ho
      have hcong : execOp (putL ops vals (D i) a0).eval o = execOp (putL ops vals done a0).eval o := by
        refine execOp_congr o (fun cs b e => by rw [e] at hsel; cases hsel) fun x hx => ?_
        have hx' := Array.all_eq_true'.1 hopd x hx
        cases x with
        | tmp t =>
          simp only [Bool.or_eq_true, List.any_eq_true, List.all_eq_true, beq_iff_eq, bne_iff_ne] at hx'
          apply eval_get
          rcases hx' with ⟨j, hj, hd⟩ | hx'
          · obtain ⟨h1', h2'⟩ := slot (hD j hj).1 hd
            rw [putL_mem vals hd (D i) a0 hj h1' fun i' hi' => h2' i' (hD i' hi').1, putL_mem vals hd done a0 (hDd j hj) h1' fun i' hi' => h2' i' (hdM i' hi')]
          · rw [putL_not vals (D i) a0 fun j hj => hx' j (hD j hj).1, putL_not vals done a0 fun j hj => hx' j (hdM j hj)]
        | const v => rfl
        | global g => rfl
        | func f => rfl
      unfold mOp
      simp only [ho]
      unfold step
      rw [if_pos (wanted_none hg'), if_pos (List.contains_iff_mem.2 hEi)]
      unfold goes at hst ⊢
      rw [hcong] at hst
      refine goesUpon_mono (fun v w' ⟨hC', hSS, hRi⟩ => ⟨fun _ => hC', ?_⟩) hst
      have hine : ¬ i = ops.size := by omega
      simp only [hine, if_false]
      have e1 : (putL ops vals done a0).put o.dst v = putL ops (fun j => if j = i then v else vals j) (done ++ [i]) a0 := by
        rw [putL_snoc, putL_congr (vals' := vals) done a0 fun j hj => if_neg fun (e : j = i) => hid (by rw [← e]; exact hj)]
        have : dstOf ops i = o.dst := by unfold dstOf; rw [ho]; rfl
        rw [this, if_pos rfl]
      rw [e1, ← setL_snoc]
      refine ih (done ++ [i]) _ w' ?_ ?_ ?_ hC' ?_
      · rw [List.nodup_append]
        exact ⟨hdn, by simp, fun a ha b hb e => by rw [List.mem_singleton] at hb; exact hid (by rw [← hb, ← e]; exact ha)⟩
      · intro j hj
        rcases List.mem_append.1 hj with h | h
        · exact hdM j h
        · rw [List.mem_singleton] at h; rw [h]; exact hiM
      · rw [List.length_append, List.length_singleton]; omega
      · intro j hj
        by_cases e : j = i
        · subst e
          rw [if_pos rfl]
          exact hRi
        · rw [if_neg e]
          rcases List.mem_append.1 hj with h | h
          · exact hS j _ u w' hSS (hR j h)
          · rw [List.mem_singleton] at h; exact absurd h e
/-- What is left when all that only reads has come. -/
def Rest (P : Program) (md : Region.Mode) (ops : Array Oper) (C : World → Prop) (E : List Nat) (Q : Act → World → Prop) : Nat → Array Bool → Act → World → Prop :=
  fun f l a w => any P md ops C E ops.size Q f l a w
theorem wp_flow {id : Nat} {Q : Exit → Act → World → Prop} {a : Act} {w : World} {l : List Oper} (n : Nat) (E : List Nat) (C : World → Prop) (hn : l.length = n) (hm : P.follows .mixedOrders = true)
    (hs : Region.noSelect l.toArray = true) (hC : C w.drew)
    (h : pre P .any l.toArray C E (Rest P .any l.toArray C E (fun a' w' => Q .normal a' w')) n (Array.replicate n false) a w.drew) : (Code.region id l.toArray true).wp P Q a w := by
  subst hn
  refine wp_region_any hm (wpAny_of_any (C := C) (E := E) (N := l.toArray.size) _ _ _ _ hC ?_)
  have := any_pre (Q := fun a' w' => Q .normal a' w') hs (fun f l a w _ h => h) l.length (Array.replicate l.length false) a _ hC h
  simpa using this
variable {f : Nat} {l : Array Bool} {a : Act} {w : World}
theorem pre_quiet {L : List Oper} {T : Nat → Array Bool → Act → World → Prop} {i : Nat} {o : Oper} (hp : pick md L.toArray E l = some i) (ho : L[i]? = some o) (hg : o.guard = none) (hE : E.contains i = false) (hc : callB o = false)
    (h : ∀ K : Act → Prop, (∀ a', pre P md L.toArray C E T f (l.setIfInBounds i true) a' w → K a') → o.quiet P a C K) : pre P md L.toArray C E T (f + 1) l a w := by
  rw [← List.getElem?_toArray] at ho
  unfold pre
  rw [hp]
  unfold mOp step
  simp only [ho]
  rw [if_pos (wanted_none hg), if_neg (by rw [hE]; exact Bool.false_ne_true)]
  exact ⟨hc, h _ fun _ h => h⟩
theorem goes_K {o : Oper} {a : Act} {u : World} {N : Value → World → Prop} (h : ∀ K : Value → World → Prop, (∀ v u', N v u' → K v u') → goes P o a u K) : goes P o a u N := h N fun _ _ h => h
def putP (vals : Nat → Value) : List (Nat × Option Nat) → Act → Act
  | [], a => a
  | p :: r, a => putP vals r (a.put p.2 (vals p.1))
def depsR (R : Nat → Value → World → Prop) (vals : Nat → Value) (u : World) : List (Nat × Option Nat) → Prop
  | [] => True
  | p :: r => R p.1 (vals p.1) u ∧ depsR R vals u r
def goesAt (P : Program) (L : List Oper) (i : Nat) (a : Act) (u : World) (N : Value → World → Prop) : Prop := match L[i]? with
  | some o => goes P o a u N
  | none => False
def stepsP (P : Program) (L : List Oper) (C : World → Prop) (S : World → World → Prop) (R : Nat → Value → World → Prop) (DD : Nat → List (Nat × Option Nat)) (a : Act) : List Nat → Prop
  | [] => True
  | i :: r => (∀ vals u, C u → depsR R vals u (DD i) → goesAt P L i (putP vals (DD i) a) u (fun v u' => S u u' ∧ R i v u')) ∧ stepsP P L C S R DD a r
def stabP (S : World → World → Prop) (R : Nat → Value → World → Prop) : List Nat → Prop
  | [] => True
  | i :: r => (∀ v u u', S u u' → R i v u → R i v u') ∧ stabP S R r
theorem stepsP_mem {P : Program} {L : List Oper} {C : World → Prop} {S : World → World → Prop} {R : Nat → Value → World → Prop} {DD : Nat → List (Nat × Option Nat)} {a : Act} : ∀ {E : List Nat}, stepsP P L C S R DD a E → ∀ i ∈ E, ∀ vals u, C u → depsR R vals u (DD i) → goesAt P L i (putP vals (DD i) a) u (fun v u' => S u u' ∧ R i v u')
  | [], _, i, hi => by cases hi
  | k :: r, h, i, hi => by
    rcases List.mem_cons.1 hi with e | hi
    · subst e; exact h.1
    · exact stepsP_mem h.2 i hi
theorem stabP_mem {S : World → World → Prop} {R : Nat → Value → World → Prop} : ∀ {E : List Nat}, stabP S R E → ∀ i ∈ E, ∀ v u u', S u u' → R i v u → R i v u'
  | [], _, i, hi => by cases hi
  | k :: r, h, i, hi => by
    rcases List.mem_cons.1 hi with e | hi
    · subst e; exact h.1
    · exact stabP_mem h.2 i hi
theorem putP_L (vals : Nat → Value) : ∀ (LP : List (Nat × Option Nat)) (a : Act), (∀ p ∈ LP, dstOf ops p.1 = p.2) → putP vals LP a = putL ops vals (LP.map (·.1)) a
  | [], _, _ => rfl
  | p :: r, a, h => by
    show putP vals r (a.put p.2 (vals p.1)) = putL ops vals (r.map (·.1)) (a.put (dstOf ops p.1) (vals p.1))
    rw [h p (by simp)]
    exact putP_L vals r _ fun q hq => h q (List.mem_cons_of_mem _ hq)
theorem depsR_all {R : Nat → Value → World → Prop} {vals : Nat → Value} {u : World} : ∀ {LP : List (Nat × Option Nat)}, (∀ j ∈ LP.map (·.1), R j (vals j) u) → depsR R vals u LP
  | [], _ => trivial
  | p :: r, h => ⟨h p.1 (by simp), depsR_all fun j hj => h j (by rw [List.map_cons]; exact List.mem_cons_of_mem _ hj)⟩
def pairsB (ops : Array Oper) (E : List Nat) (DD : Nat → List (Nat × Option Nat)) (MM : List (Nat × Option Nat)) : Bool :=
  E.all (fun i => (DD i).all fun p => dstOf ops p.1 == p.2) && MM.all (fun p => dstOf ops p.1 == p.2) && MM.map (·.1) == E
/-- **Of what is left: what each operation comes to, from those that it hangs on; then, what all come to.** -/
theorem pre_flow {L : List Oper} (DD : Nat → List (Nat × Option Nat)) (MM : List (Nat × Option Nat)) (R : Nat → Value → World → Prop) (S : World → World → Prop) (hp : pick md L.toArray E l = none) (hf : f + 1 = E.length)
    (hB : (pairsB L.toArray E DD MM && flowB md L.toArray E E (fun i => (DD i).map (·.1)) l a.tmps.size) = true) (hC : C w) (hCS : ∀ u u', C u → S u u' → C u') (hS : stabP S R E)
    (hstep : stepsP P L C S R DD a E)
    (hend : ∀ vals u, C u → depsR R vals u MM → Q (putP vals MM a) u) : pre P md L.toArray C E (Rest P md L.toArray C E Q) (f + 1) l a w := by
  rw [Bool.and_eq_true] at hB
  obtain ⟨hB1, hB2⟩ := hB
  unfold pairsB at hB1
  simp only [Bool.and_eq_true, List.all_eq_true, beq_iff_eq] at hB1
  obtain ⟨⟨hd1, hd2⟩, hmm⟩ := hB1
  unfold pre
  rw [hp]
  unfold Rest
  rw [hf]
  have hstab : ∀ j v u u', S u u' → (R j v u ∧ j ∈ E) → (R j v u' ∧ j ∈ E) := fun j v u u' hs h => ⟨stabP_mem hS j h.2 v u u' hs h.1, h.2⟩
  have hDE : ∀ i ∈ E, ∀ j ∈ (DD i).map (·.1), j ∈ E := fun i hi j hj => by
    have hB3 := hB2
    unfold flowB at hB3
    simp only [Bool.and_eq_true, List.all_eq_true] at hB3
    have h1 := (hB3.2 i hi).2
    split at h1
    · cases h1
    · simp only [Bool.and_eq_true, List.all_eq_true, List.contains_iff_mem] at h1
      exact (h1.1.2 j hj).1
  have := any_flow (P := P) (C := C) (Q := Q) E (fun i => (DD i).map (·.1)) (fun j v u => R j v u ∧ j ∈ E) S hB2 hstab (fun i hi vals u hc hj o ho => by
    have h1 := stepsP_mem hstep i hi vals u hc (depsR_all fun j hjm => (hj j hjm).1)
    unfold goesAt at h1
    rw [← List.getElem?_toArray, ho] at h1
    simp only at h1
    rw [putP_L (ops := L.toArray) vals (DD i) a fun p hp => hd1 i hi p hp] at h1
    exact goesUpon_mono (fun v w' ⟨hs, hr⟩ => ⟨hCS _ _ hc hs, hs, hr, hi⟩) h1)
    (fun vals u hc hj => by
      have h1 := hend vals u hc (depsR_all fun j hjm => (hj j (by rw [← hmm]; exact hjm)).1)
      rwa [putP_L (ops := L.toArray) vals MM a fun p hp => hd2 p hp, hmm] at h1)
    E.length [] (fun _ => undef) w List.nodup_nil (fun j hj => by cases hj) (by simp) hC (fun j hj => by cases hj)
  exact this
end
end Mix
end Go.Proofs.Ytaphmmobmadfoaa
