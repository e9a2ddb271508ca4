/- Put together: Tree. -/
import Derived.Test.YtnhaekifcieeoaaGreatDoorMa02
/- A region whose operations that change the world come in more than one order: those that only read are walked first, then one walk a way. -/
namespace Go.Proofs.YtnhaekifcieeoaaGreatDoor
open Go Go.RowKit
namespace Mix
section
variable {P : Program} {ops : Array Oper} {md : Region.Mode} {C : World → Prop} {E : List Nat} {Q : Act → World → Prop}
/-- It reads only, and nothing that may still come ahead of it touches it. -/
def freeI (md : Region.Mode) (ops : Array Oper) (listed : Array Bool) (i : Nat) : Bool :=
  match ops[i]? with
  | none => false
  | some oi => !callB oi && (List.range ops.size).all fun j => j == i || listed.getD j true || (match ops[j]? with | none => true | some oj => oj.after.any (fun e => Region.binds md e && e.on == i) || oi.apart ops oj)
def pick (md : Region.Mode) (ops : Array Oper) (E : List Nat) (listed : Array Bool) : Option Nat := (Region.ready md ops listed).find? fun i => !E.contains i && freeI md ops listed i
def treeB (md : Region.Mode) (ops : Array Oper) (E : List Nat) : Nat → Array Bool → Bool
  | 0, l => (Region.ready md ops l).isEmpty
  | f + 1, l => match pick md ops E l with
    | some i => treeB md ops E f (l.setIfInBounds i true)
    | none => !(Region.ready md ops l).isEmpty && (Region.ready md ops l).all fun i => E.contains i && treeB md ops E f (l.setIfInBounds i true)
def tree (P : Program) (md : Region.Mode) (ops : Array Oper) (C : World → Prop) (E : List Nat) (Q : Act → World → Prop) : Nat → Array Bool → Act → World → Prop
  | 0, _, a, w => Q a w
  | f + 1, l, a, w => match pick md ops E l with
    | some i => mOp P ops C E ops.size i (tree P md ops C E Q f (l.setIfInBounds i true)) a w
    | none => ∀ i ∈ Region.ready md ops l, mOp P ops C E ops.size i (tree P md ops C E Q f (l.setIfInBounds i true)) a w
theorem any_tree (hs : Region.noSelect ops = true) : ∀ (f : Nat) (l : Array Bool) (a : Act) (w : World), C w → treeB md ops E f l = true → tree P md ops C E Q f l a w → any P md ops C E ops.size Q f l a w
  | 0, l, a, w, _, hB, h => ⟨by simpa [treeB] using hB, h⟩
  | f + 1, l, a, w, hC, hB, h => by
    have hN : ops[ops.size]? = none := Array.getElem?_eq_none (Nat.le_refl _)
    unfold treeB at hB
    unfold tree at h
    cases hp : pick md ops E l with
    | some i =>
      rw [hp] at hB h
      simp only at hB h
      have hmem := List.mem_of_find?_eq_some hp
      have hsat := List.find?_some hp
      simp only [Bool.and_eq_true, Bool.not_eq_true'] at hsat
      obtain ⟨hE, hF⟩ := hsat
      unfold freeI at hF
      cases ho : ops[i]? with
      | none => rw [ho] at hF; cases hF
      | some oi =>
        rw [ho] at hF
        simp only [Bool.and_eq_true, Bool.not_eq_true', List.all_eq_true, List.mem_range, Bool.or_eq_true, beq_iff_eq] at hF
        obtain ⟨hc, hF⟩ := hF
        obtain ⟨v, hy, hK⟩ := yields_of_mOp ho hE h
        have hil : i < ops.size := (Array.getElem?_eq_some_iff.1 ho).1
        refine any_first_quiet ho hE hc (by omega) (fun _ => False) (fun j hj => hj.elim) (.inl hN) (Region.noSelect_spec hs) f l a w hC (fun j hj => hj.elim) (fun j oj hoj hji hun hno => ?_) hmem hy
          (any_tree hs f _ _ w hC hB hK)
        have hjl : j < ops.size := (Array.getElem?_eq_some_iff.1 hoj).1
        rcases hF j hjl with (h' | h') | h'
        · exact absurd h' hji
        · rw [hun] at h'; cases h'
        · rw [hoj] at h'
          simp only [Bool.or_eq_true] at h'
          rcases h' with h' | h'
          · obtain ⟨e, he, hb⟩ := Array.any_eq_true'.1 h'
            simp only [Bool.and_eq_true, beq_iff_eq] at hb
            exact absurd hb.2 (hno e he hb.1)
          · exact h'
    | none =>
      rw [hp] at hB h
      simp only [Bool.and_eq_true, Bool.not_eq_true', List.all_eq_true] at hB h
      refine ⟨fun he => ?_, fun i hi => ?_⟩
      · rw [he] at hB; simp at hB
      · obtain ⟨hEi, hBi⟩ := hB.2 i hi
        have hm := h i hi
        obtain ⟨_, o, ho, _⟩ := mem_ready.1 hi
        have hil : i < ops.size := (Array.getElem?_eq_some_iff.1 ho).1
        have after : ∀ a' w', C w' → tree P md ops C E Q f (l.setIfInBounds i true) a' w' →
            (if i = ops.size then Region.ready md ops (l.setIfInBounds i true) = [] ∧ Q a' w' else any P md ops C E ops.size Q f (l.setIfInBounds i true) a' w') := fun a' w' c hK => by
          rw [if_neg (by omega)]
          exact any_tree hs f _ _ w' c hBi hK
        unfold mOp at hm ⊢
        simp only [ho] at hm ⊢
        unfold step at hm ⊢
        split
        · rename_i hw
          rw [if_pos hw, if_pos hEi] at hm
          exact goesUpon_mono (fun v w' ⟨c, hK⟩ => ⟨c, after _ w' (c (by omega)) hK⟩) hm
        · rename_i hw
          rw [if_neg hw] at hm
          exact after _ w hC hm
/-- **A region that draws its order, by its ways.** -/
theorem wp_tree {id : Nat} {Q : Exit → Act → World → Prop} {a : Act} {w : World} {l : List Oper} (n : Nat) (E : List Nat) (C : World → Prop) (hn : l.length = n) (hm : P.follows .mixedOrders = true)
    (hB : (Region.noSelect l.toArray && treeB .any l.toArray E n (Array.replicate n false)) = true) (hC : C w.drew)
    (h : tree P .any l.toArray C E (fun a' w' => Q .normal a' w') n (Array.replicate n false) a w.drew) : (Code.region id l.toArray true).wp P Q a w := by
  subst hn
  simp only [Bool.and_eq_true] at hB
  refine wp_region_any hm (wpAny_of_any (C := C) (E := E) (N := l.toArray.size) _ _ _ _ hC ?_)
  have := any_tree hB.1 l.length (Array.replicate l.length false) a _ hC hB.2 h
  simpa using this
/-! ### Steps -/
variable {f : Nat} {l : Array Bool} {a : Act} {w : World}
theorem tree_nil (h : Q a w) : tree P md ops C E Q 0 l a w := h
theorem tree_quiet {L : List Oper} {i : Nat} {o : Oper} (hp : pick md L.toArray E l = some i) (ho : L[i]? = some o) (hg : o.guard = none) (hE : E.contains i = false) (hc : callB o = false)
    (h : ∀ K : Act → Prop, (∀ a', tree P md L.toArray C E Q f (l.setIfInBounds i true) a' w → K a') → o.quiet P a C K) : tree P md L.toArray C E Q (f + 1) l a w := by
  rw [← List.getElem?_toArray] at ho
  unfold tree
  rw [hp]
  unfold mOp step
  simp only [ho]
  rw [if_pos (wanted_none hg), if_neg (by rw [hE]; exact Bool.false_ne_true)]
  exact ⟨hc, h _ fun _ h => h⟩
theorem goes_step {L : List Oper} {i : Nat} {o : Oper} (ho : L[i]? = some o) (hg : o.guard = none) (hE : E.contains i = true) {R : Act → World → Prop}
    (h : ∀ K : Value → World → Prop, (∀ v w', C w' → R (a.put o.dst v) w' → K v w') → goes P o a w K) : mOp P L.toArray C E L.toArray.size i R a w := by
  rw [← List.getElem?_toArray] at ho
  unfold mOp step
  simp only [ho]
  rw [if_pos (wanted_none hg), if_pos hE]
  exact h _ fun _ _ h1 h2 => ⟨fun _ => h1, h2⟩
theorem tree_one {L : List Oper} {i : Nat} {o : Oper} (hp : pick md L.toArray E l = none) (hr : Region.ready md L.toArray l = [i]) (ho : L[i]? = some o) (hg : o.guard = none) (hE : E.contains i = true)
    (h : ∀ K : Value → World → Prop, (∀ v w', C w' → tree P md L.toArray C E Q f (l.setIfInBounds i true) (a.put o.dst v) w' → K v w') → goes P o a w K) : tree P md L.toArray C E Q (f + 1) l a w := by
  unfold tree
  rw [hp, hr]
  simp only [List.mem_singleton, forall_eq]
  exact goes_step ho hg hE h
theorem tree_two {L : List Oper} {i j : Nat} {o o' : Oper} (hp : pick md L.toArray E l = none) (hr : Region.ready md L.toArray l = [i, j]) (ho : L[i]? = some o) (ho' : L[j]? = some o') (hg : o.guard = none) (hg' : o'.guard = none) (hE : E.contains i = true) (hE' : E.contains j = true)
    (h : ∀ K : Value → World → Prop, (∀ v w', C w' → tree P md L.toArray C E Q f (l.setIfInBounds i true) (a.put o.dst v) w' → K v w') → goes P o a w K)
    (h' : ∀ K : Value → World → Prop, (∀ v w', C w' → tree P md L.toArray C E Q f (l.setIfInBounds j true) (a.put o'.dst v) w' → K v w') → goes P o' a w K) : tree P md L.toArray C E Q (f + 1) l a w := by
  unfold tree
  rw [hp, hr]
  simp only [List.mem_cons, List.not_mem_nil, or_false, forall_eq_or_imp, forall_eq]
  exact ⟨goes_step ho hg hE h, goes_step ho' hg' hE' h'⟩
theorem wanted_at {ops : Array Oper} {o : Oper} {j dj : Nat} {want : Bool} {v : Value} (hg : o.guard = some (j, want)) (hj : (ops[j]?).bind (·.dst) = some dj) (hv : a.tmps.toList[dj]? = some v) (hw : v = .bool want) : Region.wanted o (yielded ops a.tmps) = true := by
  subst hw; simp [Region.wanted, hg, yielded_at hj hv]
theorem tree_quietG {L : List Oper} {i : Nat} {o : Oper} {j dj : Nat} {want : Bool} {v : Value} (hp : pick md L.toArray E l = some i) (ho : L[i]? = some o) (hg : o.guard = some (j, want)) (hj : (L.toArray[j]?).bind (·.dst) = some dj) (hv : a.tmps.toList[dj]? = some v) (hw : v = .bool want) (hE : E.contains i = false) (hc : callB o = false)
    (h : ∀ K : Act → Prop, (∀ a', tree P md L.toArray C E Q f (l.setIfInBounds i true) a' w → K a') → o.quiet P a C K) : tree P md L.toArray C E Q (f + 1) l a w := by
  rw [← List.getElem?_toArray] at ho
  unfold tree
  rw [hp]
  unfold mOp step
  simp only [ho]
  rw [if_pos (wanted_at hg hj hv hw), if_neg (by rw [hE]; exact Bool.false_ne_true)]
  exact ⟨hc, h _ fun _ h => h⟩
theorem goes_stepG {L : List Oper} {i : Nat} {o : Oper} (ho : L[i]? = some o) (hw : Region.wanted o (yielded L.toArray a.tmps) = true) (hE : E.contains i = true) {R : Act → World → Prop}
    (h : ∀ K : Value → World → Prop, (∀ v w', C w' → R (a.put o.dst v) w' → K v w') → goes P o a w K) : mOp P L.toArray C E L.toArray.size i R a w := by
  rw [← List.getElem?_toArray] at ho
  unfold mOp step
  simp only [ho]
  rw [if_pos hw, if_pos hE]
  exact h _ fun _ _ h1 h2 => ⟨fun _ => h1, h2⟩
theorem tree_oneG {L : List Oper} {i : Nat} {o : Oper} {j dj : Nat} {want : Bool} {v : Value} (hp : pick md L.toArray E l = none) (hr : Region.ready md L.toArray l = [i]) (ho : L[i]? = some o) (hg : o.guard = some (j, want)) (hj : (L.toArray[j]?).bind (·.dst) = some dj) (hv : a.tmps.toList[dj]? = some v) (hw : v = .bool want) (hE : E.contains i = true)
    (h : ∀ K : Value → World → Prop, (∀ v w', C w' → tree P md L.toArray C E Q f (l.setIfInBounds i true) (a.put o.dst v) w' → K v w') → goes P o a w K) : tree P md L.toArray C E Q (f + 1) l a w := by
  unfold tree
  rw [hp, hr]
  simp only [List.mem_singleton, forall_eq]
  exact goes_stepG ho (wanted_at hg hj hv hw) hE h
theorem tree_twoG {L : List Oper} {i j : Nat} {o o' : Oper} {k k' dk dk' : Nat} {want want' : Bool} {v v' : Value} (hp : pick md L.toArray E l = none) (hr : Region.ready md L.toArray l = [i, j]) (ho : L[i]? = some o) (ho' : L[j]? = some o')
    (hg : o.guard = some (k, want)) (hj : (L.toArray[k]?).bind (·.dst) = some dk) (hv : a.tmps.toList[dk]? = some v) (hw : v = .bool want)
    (hg' : o'.guard = some (k', want')) (hj' : (L.toArray[k']?).bind (·.dst) = some dk') (hv' : a.tmps.toList[dk']? = some v') (hw' : v' = .bool want') (hE : E.contains i = true) (hE' : E.contains j = true)
    (h : ∀ K : Value → World → Prop, (∀ v w', C w' → tree P md L.toArray C E Q f (l.setIfInBounds i true) (a.put o.dst v) w' → K v w') → goes P o a w K)
    (h' : ∀ K : Value → World → Prop, (∀ v w', C w' → tree P md L.toArray C E Q f (l.setIfInBounds j true) (a.put o'.dst v) w' → K v w') → goes P o' a w K) : tree P md L.toArray C E Q (f + 1) l a w := by
  unfold tree
  rw [hp, hr]
  simp only [List.mem_cons, List.not_mem_nil, or_false, forall_eq_or_imp, forall_eq]
  exact ⟨goes_stepG ho (wanted_at hg hj hv hw) hE h, goes_stepG ho' (wanted_at hg' hj' hv' hw') hE' h'⟩
end
end Mix
end Go.Proofs.YtnhaekifcieeoaaGreatDoor
