/- Put together: FlowJ. -/
import Derived.Test.YtaphmmobmadfoaaMc06
/- A drawn region whose effects come in any order, over one invariant that knows what has come. -/
namespace Go.Proofs.Ytaphmmobmadfoaa
open Go Go.RowKit
namespace Mix
section
variable {P : Program} {ops : Array Oper} {md : Region.Mode} {C : World → Prop} {E : List Nat} {Q : Act → World → Prop}
theorem any_flowJ (M : List Nat) (D : Nat → List Nat) (J : List Nat → (Nat → Value) → World → Prop) {l0 : Array Bool} {a0 : Act} (hB : flowB md ops E M D l0 a0.tmps.size = true)
    (hstep : ∀ i ∈ M, ∀ done vals u, C u → i ∉ done → (∀ j ∈ D i, j ∈ done) → J done vals u → ∀ o, ops[i]? = some o → goes P o (putL ops vals (D i) a0) u (fun v u' => C u' ∧ J (done ++ [i]) (fun j => if j = i then v else vals j) u'))
    (hend : ∀ done vals u, C u → (∀ j ∈ M, j ∈ done) → J done vals u → Q (putL ops vals M a0) u) :
    ∀ (k : Nat) (done : List Nat) (vals : Nat → Value) (u : World), done.Nodup → (∀ j ∈ done, j ∈ M) → k + done.length = M.length → C u → J done vals u →
      any P md ops C E ops.size Q k (setL l0 done) (putL ops vals done a0) u := by
  unfold flowB at hB
  simp only [Bool.and_eq_true, decide_eq_true_eq, beq_iff_eq, List.all_eq_true, List.mem_range, Bool.or_eq_true, Bool.not_eq_true', List.contains_iff_mem] at hB
  obtain ⟨⟨⟨⟨hnd, hsz⟩, hall⟩, hback⟩, hM⟩ := hB
  have un : ∀ {done : List Nat} {i : Nat}, i < ops.size → i ∉ done → i ∈ M → (setL l0 done).getD i true = false := fun {done i} hi hd hm => by
    rw [setL_get _ _ _ _ (by rw [hsz]; exact hi), if_neg hd]
    exact (hM i hm).1.1.2
  -- a slot of one of the operations
  have slot : ∀ {i : Nat} {d : Nat}, i ∈ M → dstOf ops i = some d → d < a0.tmps.size ∧ ∀ j ∈ M, dstOf ops j = some d → j = i := fun {i d} hi hd => by
    have h := (hM i hi).2
    unfold dstOf at hd
    cases ho : ops[i]? with
    | none => rw [ho] at hd; cases hd
    | some o =>
      rw [ho] at hd h
      have hd' : o.dst = some d := hd
      simp only [hd', Bool.and_eq_true, decide_eq_true_eq, List.all_eq_true, Bool.or_eq_true, beq_iff_eq, bne_iff_ne] at h
      refine ⟨h.1.1.2.1, fun j hj e => ?_⟩
      rcases h.1.1.2.2 j hj with h' | h'
      · exact h'
      · exact absurd e h'
  intro k
  induction k with
  | zero =>
    intro done vals u hdn hdM hk hC hJ
    have hsub : ∀ j ∈ M, j ∈ done := by
      exact nodup_all hdn hdM (by omega)
    refine ⟨?_, ?_⟩
    · apply List.eq_nil_iff_forall_not_mem.2
      intro i hi
      obtain ⟨h1, o, ho, _⟩ := mem_ready.1 hi
      have hil : i < ops.size := (Array.getElem?_eq_some_iff.1 ho).1
      rw [setL_get _ _ _ _ (by rw [hsz]; exact hil)] at h1
      split at h1
      · cases h1
      · rename_i hd
        rcases hall i hil with h2 | h2
        · rw [h1] at h2; cases h2
        · exact hd (hsub i h2)
    · have := hend done vals u hC hsub hJ
      have e : putL ops vals done a0 = putL ops vals M a0 := by
        have e1 : (putL ops vals done a0).tmps = (putL ops vals M a0).tmps := by
          apply Array.ext_getElem?
          intro t
          by_cases ht : ∃ j ∈ M, dstOf ops j = some t
          · obtain ⟨j, hj, hd⟩ := ht
            obtain ⟨h1, h2⟩ := slot hj hd
            rw [putL_mem vals hd done a0 (hsub j hj) h1 fun i hi => h2 i (hdM i hi), putL_mem vals hd M a0 hj h1 h2]
          · rw [putL_not vals done a0 fun j hj e => ht ⟨j, hdM j hj, e⟩, putL_not vals M a0 fun j hj e => ht ⟨j, hj, e⟩]
        have e2 : (putL ops vals done a0).defers = (putL ops vals M a0).defers := by rw [putL_defers, putL_defers]
        cases h1 : putL ops vals done a0
        cases h2 : putL ops vals M a0
        rw [h1, h2] at e1 e2
        simp only at e1 e2
        rw [e1, e2]
      rw [e]
      exact this
  | succ k ih =>
    intro done vals u hdn hdM hk hC hJ
    refine ⟨fun he => ?_, fun i hi => ?_⟩
    · exfalso
      have hlist : ∀ i, i < ops.size → (setL l0 done).getD i true = true := by
        intro i
        induction i using Nat.strongRecOn with
        | ind i ihi =>
          intro hil
          cases hv : (setL l0 done).getD i true with
          | true => rfl
          | false =>
            exfalso
            have hmem : i ∈ Region.ready md ops (setL l0 done) := by
              obtain ⟨o, ho⟩ : ∃ o, ops[i]? = some o := ⟨ops[i], Array.getElem?_eq_getElem hil⟩
              refine mem_ready.2 ⟨hv, o, ho, fun e hem hb => ?_⟩
              have hb' := hback i hil
              rw [ho] at hb'
              have := Array.all_eq_true'.1 hb' e hem
              rw [hb] at this
              simp only [Bool.not_true, Bool.false_or, decide_eq_true_eq] at this
              have h3 := ihi e.on this (by omega)
              have hs3 : e.on < (setL l0 done).size := by
                rcases Nat.lt_or_ge e.on (setL l0 done).size with h | h
                · exact h
                · exfalso
                  have hh : (setL l0 done).size = l0.size := by
                    have : ∀ (L : List Nat) (l : Array Bool), (setL l L).size = l.size := by
                      intro L
                      induction L with
                      | nil => intro l; rfl
                      | cons a L ih => intro l; exact (ih _).trans (by simp)
                    exact this _ _
                  omega
              rw [Array.getD_eq_getD_getElem?, Array.getElem?_eq_getElem hs3] at h3 ⊢
              exact h3
            rw [he] at hmem
            cases hmem
      have hsub : ∀ j ∈ M, j ∈ done := by
        intro j hj
        have hjl := (hM j hj).1.1.1
        have h1 := hlist j hjl
        by_cases hd : j ∈ done
        · exact hd
        · rw [un hjl hd hj] at h1; cases h1
      have := nodup_le M done hnd hsub
      omega
    · obtain ⟨h1, o, ho, haft⟩ := mem_ready.1 hi
      have hil : i < ops.size := (Array.getElem?_eq_some_iff.1 ho).1
      have hid : i ∉ done := fun h => by
        rw [setL_get _ _ _ _ (by rw [hsz]; exact hil), if_pos h] at h1
        cases h1
      have hiM : i ∈ M := by
        rcases hall i hil with h2 | h2
        · rw [setL_get _ _ _ _ (by rw [hsz]; exact hil), if_neg hid, h2] at h1
          cases h1
        · exact h2
      have hi0 := hM i hiM
      have hEi := hi0.1.2
      have hio := hi0.2
      rw [ho] at hio
      simp only [Bool.and_eq_true, Bool.not_eq_true', List.all_eq_true, List.contains_iff_mem] at hio
      obtain ⟨⟨⟨⟨hg, hsel⟩, hdst⟩, hD⟩, hopd⟩ := hio
      have hg' : o.guard = none := by simpa using hg
      have hDd : ∀ j ∈ D i, j ∈ done := fun j hj => by
        obtain ⟨hjM, hje⟩ := hD j hj
        obtain ⟨e, hem, hb⟩ := Array.any_eq_true'.1 hje
        simp only [Bool.and_eq_true, beq_iff_eq] at hb
        have h3 := haft e hem hb.1
        rw [hb.2, setL_get _ _ _ _ (by rw [hsz]; exact (hM j hjM).1.1.1)] at h3
        split at h3
        · assumption
        · have h4 := (hM j hjM).1.1.2
          have hs3 : j < l0.size := by rw [hsz]; exact (hM j hjM).1.1.1
          rw [Array.getD_eq_getD_getElem?, Array.getElem?_eq_getElem hs3] at h3 h4
          have h3' : l0[j] = true := h3
          have h4' : l0[j] = false := h4
          rw [h3'] at h4'
          cases h4'
      have hst := hstep i hiM done vals u hC hid hDd hJ o ho
      have hcong : execOp (putL ops vals (D i) a0).eval o = execOp (putL ops vals done a0).eval o := by
        refine execOp_congr o (fun cs b e => by rw [e] at hsel; cases hsel) fun x hx => ?_
        have hx' := Array.all_eq_true'.1 hopd x hx
        cases x with
        | tmp t =>
          simp only [Bool.or_eq_true, List.any_eq_true, List.all_eq_true, beq_iff_eq, bne_iff_ne] at hx'
          apply eval_get
          rcases hx' with ⟨j, hj, hd⟩ | hx'
          · obtain ⟨h1', h2'⟩ := slot (hD j hj).1 hd
            rw [putL_mem vals hd (D i) a0 hj h1' fun i' hi' => h2' i' (hD i' hi').1, putL_mem vals hd done a0 (hDd j hj) h1' fun i' hi' => h2' i' (hdM i' hi')]
          · rw [putL_not vals (D i) a0 fun j hj => hx' j (hD j hj).1, putL_not vals done a0 fun j hj => hx' j (hdM j hj)]
        | const v => rfl
        | global g => rfl
        | func f => rfl
      unfold mOp
      simp only [ho]
      unfold step
      rw [if_pos (wanted_none hg'), if_pos (List.contains_iff_mem.2 hEi)]
      unfold goes at hst ⊢
      rw [hcong] at hst
      refine goesUpon_mono (fun v w' ⟨hC', hJ'⟩ => ⟨fun _ => hC', ?_⟩) hst
      have hine : ¬ i = ops.size := by omega
      simp only [hine, if_false]
      have e1 : (putL ops vals done a0).put o.dst v = putL ops (fun j => if j = i then v else vals j) (done ++ [i]) a0 := by
        rw [putL_snoc, putL_congr (vals' := vals) done a0 fun j hj => if_neg fun (e : j = i) => hid (by rw [← e]; exact hj)]
        have : dstOf ops i = o.dst := by unfold dstOf; rw [ho]; rfl
        rw [this, if_pos rfl]
      rw [e1, ← setL_snoc]
      refine ih (done ++ [i]) _ w' ?_ ?_ ?_ hC' hJ'
      · rw [List.nodup_append]
        exact ⟨hdn, by simp, fun a ha b hb e => by rw [List.mem_singleton] at hb; exact hid (by rw [← hb, ← e]; exact ha)⟩
      · intro j hj
        rcases List.mem_append.1 hj with h | h
        · exact hdM j h
        · rw [List.mem_singleton] at h; rw [h]; exact hiM
      · rw [List.length_append, List.length_singleton]; omega
end
section
variable {P : Program}
def stepsJ (P : Program) (L : List Oper) (C : World → Prop) (J : List Nat → (Nat → Value) → World → Prop) (DD : Nat → List (Nat × Option Nat)) (a : Act) : List Nat → Prop
  | [] => True
  | i :: r => (∀ done vals u, C u → i ∉ done → (∀ p ∈ DD i, p.1 ∈ done) → J done vals u → goesAt P L i (putP vals (DD i) a) u (fun v u' => C u' ∧ J (done ++ [i]) (fun j => if j = i then v else vals j) u')) ∧ stepsJ P L C J DD a r
theorem stepsJ_mem {P : Program} {L : List Oper} {C : World → Prop} {J : List Nat → (Nat → Value) → World → Prop} {DD : Nat → List (Nat × Option Nat)} {a : Act} : ∀ {E : List Nat}, stepsJ P L C J DD a E → ∀ i ∈ E, ∀ done vals u, C u → i ∉ done → (∀ p ∈ DD i, p.1 ∈ done) → J done vals u → goesAt P L i (putP vals (DD i) a) u (fun v u' => C u' ∧ J (done ++ [i]) (fun j => if j = i then v else vals j) u')
  | i :: r, h, k, hk => by
    rcases List.mem_cons.1 hk with e | e
    · rw [e]; exact h.1
    · exact stepsJ_mem h.2 k e
/-- As pre_flow, over one invariant that knows what has come. -/
theorem pre_flowJ {L : List Oper} {E : List Nat} {Q : Act → World → Prop} {C : World → Prop} {md : Region.Mode} {f : Nat} {l : Array Bool} {a : Act} {w : World} (DD : Nat → List (Nat × Option Nat)) (MM : List (Nat × Option Nat)) (J : List Nat → (Nat → Value) → World → Prop) (hp : pick md L.toArray E l = none) (hf : f + 1 = E.length)
    (hB : (pairsB L.toArray E DD MM && flowB md L.toArray E E (fun i => (DD i).map (·.1)) l a.tmps.size) = true) (hC : C w) (h0 : ∀ vals, J [] vals w)
    (hstep : stepsJ P L C J DD a E)
    (hend : ∀ done vals u, C u → (∀ p ∈ MM, p.1 ∈ done) → J done vals u → Q (putP vals MM a) u) : pre P md L.toArray C E (Rest P md L.toArray C E Q) (f + 1) l a w := by
  rw [Bool.and_eq_true] at hB
  obtain ⟨hB1, hB2⟩ := hB
  unfold pairsB at hB1
  simp only [Bool.and_eq_true, List.all_eq_true, beq_iff_eq] at hB1
  obtain ⟨⟨hd1, hd2⟩, hmm⟩ := hB1
  unfold pre
  rw [hp]
  unfold Rest
  rw [hf]
  have := any_flowJ (P := P) (C := C) (Q := Q) E (fun i => (DD i).map (·.1)) J hB2 (fun i hi done vals u hc hid hj hJ o ho => by
    have h1 := stepsJ_mem hstep i hi done vals u hc hid (fun p hp => hj p.1 (List.mem_map_of_mem hp)) hJ
    unfold goesAt at h1
    rw [← List.getElem?_toArray, ho] at h1
    simp only at h1
    rw [putP_L (ops := L.toArray) vals (DD i) a fun p hp => hd1 i hi p hp] at h1
    exact h1)
    (fun done vals u hc hj hJ => by
      have h1 := hend done vals u hc (fun p hp => hj p.1 (by rw [← hmm]; exact List.mem_map_of_mem hp)) hJ
      rwa [putP_L (ops := L.toArray) vals MM a fun p hp => hd2 p hp, hmm] at h1)
    E.length [] (fun _ => undef) w List.nodup_nil (fun j hj => by cases hj) (by simp) hC (h0 _)
  exact this
end
end Mix
end Go.Proofs.Ytaphmmobmadfoaa
