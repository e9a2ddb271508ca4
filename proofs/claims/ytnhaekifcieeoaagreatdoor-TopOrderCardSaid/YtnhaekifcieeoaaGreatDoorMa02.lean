/- Put together: Mix. -/
import Derived.Test.YtnhaekifcieeoaaGreatDoorMa01
/- A region of operations, whatever the order that the tape draws: operations that only read may come at any time, those that change the world come in the order of the text. One walk in the order of the text serves every order. -/
namespace Go.Proofs.YtnhaekifcieeoaaGreatDoor
open Go Go.RowKit
namespace Mix
section
variable {P : Program} {ops : Array Oper} {md : Region.Mode} {C : World → Prop} {E : List Nat} {N : Nat}

/-- May this operation enter a function, or go beyond this goroutine? -/
def callB (o : Oper) : Bool := match o.op with
  | .call c => (match c.callee with | .builtin .len | .builtin .cap | .builtin .max | .builtin .min => false | _ => true)
  | .go _ | .defer _ | .send _ _ | .recv _ _ _ | .select _ _ => true
  | _ => false

theorem value_noEnter {s : Sem Value} {w w' : World} {f : FuncId} {args : Array Value} : (do let a ← s; pure (Next.value a) : Sem Next).run P w ≠ .ok (.enter f args) w' := by
  rw [Sem.run_bind]
  cases s.run P w <;> simp [Result.andThen]
theorem unit_noEnter {s : Sem Unit} {w w' : World} {f : FuncId} {args : Array Value} : (do s; pure Next.skip : Sem Next).run P w ≠ .ok (.enter f args) w' := by
  rw [Sem.run_bind]
  cases s.run P w <;> simp [Result.andThen]

def goesUpon (P : Program) (N : Value → World → Prop) : Result Next → Prop
  | .ok (.value v) w' => N v w'
  | .ok .skip w' => N undef w'
  | .ok (.enter f args) w' => Calls P f args w' fun e w'' => ∃ v, e = .returned v ∧ N v w''
  | _ => False
/-- What one operation that may change the world comes to. -/
def goes (P : Program) (o : Oper) (a : Act) (w : World) (N : Value → World → Prop) : Prop := goesUpon P N ((execOp a.eval o).run P w)

theorem goesUpon_mono {N N' : Value → World → Prop} {r : Result Next} (h : ∀ v w, N v w → N' v w) (hh : goesUpon P N r) : goesUpon P N' r := by
  unfold goesUpon at *
  split at hh <;> first
    | exact h _ _ hh
    | exact hh.mono fun e w ⟨v, he, hn⟩ => ⟨v, he, h _ _ hn⟩
    | exact hh.elim
theorem goesUpon_ex {N : Value → World → Prop} {r : Result Next} (hh : goesUpon P N r) : ∃ v w, N v w := by
  unfold goesUpon at hh
  split at hh <;> first
    | exact ⟨_, _, hh⟩
    | (obtain ⟨e, w', fr, ⟨v, _, hn⟩, _⟩ := hh []; exact ⟨v, w', hn⟩)
    | exact hh.elim
theorem wp_of_goes {o : Oper} {a : Act} {w : World} {K : Act → World → Prop} {Q : Exit → Act → World → Prop} {N : Value → World → Prop}
    (h : ∀ v w', N v w' → K (a.put o.dst v) w') (hh : goes P o a w N) : o.wp P a w K Q := by
  unfold goes at hh
  unfold Oper.wp
  generalize (execOp a.eval o).run P w = r at *
  unfold goesUpon at hh
  split at hh
  · exact h _ _ hh
  · exact h _ _ hh
  · exact hh.mono fun e w ⟨v, he, hn⟩ => by subst he; exact h _ _ hn
  · exact hh.elim

/-- One operation of the walk: number 'i' of the region. -/
def step (P : Program) (ops : Array Oper) (C : World → Prop) (E : List Nat) (N : Nat) (i : Nat) (o : Oper) (a : Act) (w : World) (K : Act → World → Prop) : Prop :=
  if Region.wanted o (yielded ops a.tmps) then
    (if E.contains i then goes P o a w (fun v w' => (i ≠ N → C w') ∧ K (a.put o.dst v) w') else callB o = false ∧ o.quiet P a C (fun a' => K a' w))
  else K (a.put o.dst undef) w

/-- The walk in the order of the text. -/
def lex (P : Program) (ops : Array Oper) (C : World → Prop) (E : List Nat) (N : Nat) (Q : Act → World → Prop) : Nat → List Oper → Act → World → Prop
  | _, [], a, w => Q a w
  | k, o :: l, a, w => step P ops C E N k o a w (lex P ops C E N Q (k + 1) l)

def mOp (P : Program) (ops : Array Oper) (C : World → Prop) (E : List Nat) (N : Nat) (i : Nat) (K : Act → World → Prop) (a : Act) (w : World) : Prop :=
  match ops[i]? with
  | none => K a w
  | some o => step P ops C E N i o a w K

def any (P : Program) (md : Region.Mode) (ops : Array Oper) (C : World → Prop) (E : List Nat) (N : Nat) (Q : Act → World → Prop) : Nat → Array Bool → Act → World → Prop
  | 0, listed, a, w => Region.ready md ops listed = [] ∧ Q a w
  | fuel + 1, listed, a, w =>
    (Region.ready md ops listed = [] → Q a w) ∧
    ∀ i ∈ Region.ready md ops listed, mOp P ops C E N i (fun a' w' => if i = N then Region.ready md ops (listed.setIfInBounds i true) = [] ∧ Q a' w' else any P md ops C E N Q fuel (listed.setIfInBounds i true) a' w') a w

theorem nilDeref_noEnter {w w' : World} {f : FuncId} {args : Array Value} : (runtimePanic .nilDeref : Sem Next).run P w ≠ .ok (.enter f args) w' := by
  simp [runtimePanic, goPanic, go_sem]
theorem exec_noEnter {o : Oper} (h : callB o = false) {ρ : Operand → Value} {w w' : World} {f : FuncId} {args : Array Value} : (execOp ρ o).run P w ≠ .ok (.enter f args) w' := by
  unfold callB at h
  unfold execOp
  cases ho : o.op <;> simp only [ho] at h ⊢ <;> first
    | exact value_noEnter
    | exact unit_noEnter
    | (cases h; done)
    | (simp [Sem.run_pure]; done)
    | skip
  case pick c a b =>
    rw [Sem.run_bind]
    cases (asBool (ρ c)).run P w <;> simp [Result.andThen]
  case nilCheck x =>
    split
    · exact nilDeref_noEnter
    · exact nilDeref_noEnter
    · exact nilDeref_noEnter
    · split
      · exact nilDeref_noEnter
      · rw [Sem.run_bind]
        cases program.run P w with
        | halt x w' => simp [Result.andThen]
        | ok p w' =>
          simp only [Result.andThen]
          rw [Sem.run_bind]
          cases (nilAhead _ _ _ _ : Sem (Option Bool)).run P w' with
          | halt x w' => simp [Result.andThen]
          | ok b w' =>
            simp only [Result.andThen]
            split
            · simp [unsupported, Sem.run_bind, Sem.run]
            · simp [Sem.run_pure]
      · simp [Sem.run_pure]
    · simp [Sem.run_pure]
  case call c =>
    rw [Sem.run_bind]
    unfold resolve
    split at h
    case h_5 => cases h
    all_goals
      rename_i hc
      simp only [hc, Sem.run_pure, Result.andThen, invoke, builtin]
      exact value_noEnter

/-- In state 'a', in every world of the class, 'o' leaves 'v' in its temporary and the world as it is. -/
theorem yields_uniq {o : Oper} {v v' : Value} {a : Act} {w : World} (hw : C w) (h : YieldsIn P ops C o v a) (h' : YieldsIn P ops C o v' a) (hc : callB o = false) : v = v' := by
  rcases h with ⟨h1, h2⟩ | ⟨h1, rfl⟩ <;> rcases h' with ⟨k1, k2⟩ | ⟨k1, rfl⟩
  · have a1 := h2 w hw
    have a2 := k2 w hw
    unfold Oper.quietAt at a1 a2
    have hn := fun f args w' => exec_noEnter (P := P) hc (ρ := a.eval) (w := w) (w' := w') (f := f) (args := args)
    generalize (execOp a.eval o).run P w = r at *
    unfold Oper.quietUpon at a1 a2
    split at a1
    · simp only at a2; rw [← a1.2, ← a2.2]
    · simp only at a2; rw [a1.2, a2.2]
    · exact absurd rfl (hn _ _ _)
    · exact a1.elim
  · rw [h1] at k1; cases k1
  · rw [h1] at k1; cases k1
  · rfl

theorem step_mono {i : Nat} {o : Oper} {a : Act} {w : World} {K K' : Act → World → Prop} (h : ∀ a w, K a w → K' a w) (hh : step P ops C E N i o a w K) : step P ops C E N i o a w K' := by
  unfold step at *
  split
  · rename_i hw
    rw [if_pos hw] at hh
    split
    · rename_i he; rw [if_pos he] at hh; exact goesUpon_mono (fun v w ⟨c, k⟩ => ⟨c, h _ _ k⟩) hh
    · rename_i he; rw [if_neg he] at hh; exact ⟨hh.1, Oper.quiet_mono (fun a k => h _ _ k) hh.2⟩
  · rename_i hw
    rw [if_neg hw] at hh
    exact h _ _ hh
theorem mOp_mono {i : Nat} {a : Act} {w : World} {K K' : Act → World → Prop} (h : ∀ a w, K a w → K' a w) (hh : mOp P ops C E N i K a w) : mOp P ops C E N i K' a w := by
  unfold mOp at *
  split
  · rename_i e; simp only [e] at hh; exact h _ _ hh
  · rename_i o e; simp only [e] at hh; exact step_mono h hh
/-- What an operation comes to is there. -/
theorem mOp_ex {i : Nat} {o : Oper} {a : Act} {w : World} {K : Act → World → Prop} (ho : ops[i]? = some o) (hh : mOp P ops C E N i K a w) : ∃ v w', K (a.put o.dst v) w' := by
  unfold mOp at hh
  simp only [ho] at hh
  unfold step at hh
  split at hh
  · split at hh
    · obtain ⟨v, w', _, k⟩ := goesUpon_ex hh; exact ⟨v, w', k⟩
    · obtain ⟨_, v, _, k⟩ := hh; exact ⟨v, w, k⟩
  · exact ⟨undef, w, hh⟩
/-- It reads nothing that an operation apart from it writes. -/
theorem mOp_apart {i : Nat} {oi oj : Oper} {u : Value} {a : Act} {w : World} {K K' : Act → World → Prop} (hi : ops[i]? = some oi) (hap : oi.apart ops oj = true)
    (hsi : ∀ cs b, oi.op ≠ .select cs b) (hh : mOp P ops C E N i K a w) (h : ∀ v w', K (a.put oi.dst v) w' → K' ((a.put oj.dst u).put oi.dst v) w') : mOp P ops C E N i K' (a.put oj.dst u) w := by
  obtain ⟨h1, h2, h3⟩ := Oper.apart_spec hap
  unfold mOp at *
  simp only [hi] at *
  unfold step at *
  rw [wanted_put oi a oj.dst u h3]
  have he := execOp_put oi hsi a oj.dst u h3
  split
  · rename_i hw
    rw [if_pos hw] at hh
    split
    · rename_i hE
      rw [if_pos hE] at hh
      unfold goes at *
      rw [he]
      exact goesUpon_mono (fun v w' ⟨c, k⟩ => ⟨c, h v w' k⟩) hh
    · rename_i hE
      rw [if_neg hE] at hh
      obtain ⟨hc, v, hq, k⟩ := hh
      refine ⟨hc, v, fun w' hw' => ?_, h v w k⟩
      have := hq w' hw'
      unfold Oper.quietAt at *
      rwa [he]
  · rename_i hw
    rw [if_neg hw] at hh
    exact h undef w hh
/-- A quiet operation yields the same before and behind one that is apart from it. -/
theorem yields_apart {oi oj : Oper} {u v : Value} {a : Act} (hap : oi.apart ops oj = true) (hsj : ∀ cs b, oj.op ≠ .select cs b) :
    YieldsIn P ops C oj v (a.put oi.dst u) ↔ YieldsIn P ops C oj v a := by
  obtain ⟨h1, _, _⟩ := Oper.apart_spec hap
  unfold YieldsIn Oper.quietAt
  rw [wanted_put oj a oi.dst u h1, execOp_put oj hsj a oi.dst u h1]
theorem yields_of_mOp {j : Nat} {oj : Oper} {a : Act} {w : World} {K : Act → World → Prop} (hj : ops[j]? = some oj) (hE : E.contains j = false) (hh : mOp P ops C E N j K a w) :
    ∃ v, YieldsIn P ops C oj v a ∧ K (a.put oj.dst v) w := by
  unfold mOp at hh
  simp only [hj] at hh
  unfold step at hh
  split at hh
  · rename_i hw
    rw [if_neg (by rw [hE]; exact Bool.false_ne_true)] at hh
    obtain ⟨_, v, hq, k⟩ := hh
    exact ⟨v, .inl ⟨hw, hq⟩, k⟩
  · rename_i hw
    exact ⟨undef, .inr ⟨by simpa using hw, rfl⟩, hh⟩
theorem mOp_of_yields {j : Nat} {oj : Oper} {v : Value} {a : Act} {w : World} {K : Act → World → Prop} (hj : ops[j]? = some oj) (hE : E.contains j = false) (hc : callB oj = false)
    (hy : YieldsIn P ops C oj v a) (k : K (a.put oj.dst v) w) : mOp P ops C E N j K a w := by
  unfold mOp
  simp only [hj]
  unfold step
  rcases hy with ⟨hw, hv⟩ | ⟨hw, rfl⟩
  · rw [if_pos hw, if_neg (by rw [hE]; exact Bool.false_ne_true)]; exact ⟨hc, v, hv, k⟩
  · rw [if_neg (by simp [hw])]; exact k

/-- A quiet operation that may come up now may be taken first. 'N': the number of an operation that comes last of all (what it leaves need be of no class), or beyond the region. -/
theorem any_first_quiet {Q : Act → World → Prop} {i : Nat} {oi : Oper} {v : Value} (hi : ops[i]? = some oi) (hE : E.contains i = false) (hc : callB oi = false)
    (hiN : i ≠ N) (W : Nat → Prop)
    (hWw : ∀ j, W j → j ≠ i → ∃ o e, ops[j]? = some o ∧ e ∈ o.after ∧ Region.binds md e = true ∧ W e.on) (hWN : ops[N]? = none ∨ W N)
    (hsel : ∀ (j : Nat) (o : Oper) cs b, ops[j]? = some o → o.op ≠ .select cs b) :
    ∀ (fuel : Nat) (listed : Array Bool) (a : Act) (w : World), C w → (∀ j, W j → listed.getD j true = false) →
      (∀ j oj, ops[j]? = some oj → j ≠ i → listed.getD j true = false → (∀ e ∈ oj.after, Region.binds md e = true → e.on ≠ i) → oi.apart ops oj = true) →
      i ∈ Region.ready md ops listed → YieldsIn P ops C oi v a →
      any P md ops C E N Q fuel (listed.setIfInBounds i true) (a.put oi.dst v) w → any P md ops C E N Q (fuel + 1) listed a w := by
  intro fuel
  induction fuel with
  | zero =>
    intro listed a w _ _ _ hr hy H
    refine ⟨fun h => (by rw [h] at hr; cases hr), fun j hj => ?_⟩
    by_cases hji : j = i
    · subst hji; exact mOp_of_yields hi hE hc hy (by rw [if_neg hiN]; exact H)
    · have := ready_mono hj hji
      rw [H.1] at this
      cases this
  | succ fuel ih =>
    intro listed a w hC hWun hfree hr hy H
    refine ⟨fun h => (by rw [h] at hr; cases hr), fun j hj => ?_⟩
    by_cases hji : j = i
    · subst hji; exact mOp_of_yields hi hE hc hy (by rw [if_neg hiN]; exact H)
    · have h1 := H.2 j (ready_mono hj hji)
      obtain ⟨hjun, oj, hoj, hall⟩ := mem_ready.1 hj
      have hnW : ¬ W j := fun hW => by
        obtain ⟨o, e, ho, he, hb, hWe⟩ := hWw j hW hji
        rw [hoj] at ho
        cases ho
        have h1 := hall e he hb
        have h0 := hWun _ hWe
        rcases Nat.lt_or_ge e.on listed.size with h' | h'
        · simp [h'] at h0 h1; rw [h0] at h1; cases h1
        · simp [Array.getElem?_eq_none h'] at h1
      have hjN : j ≠ N := fun e => by
        subst e
        rcases hWN with h' | h'
        · rw [hoj] at h'; cases h'
        · exact hnW h'
      have hnot : ∀ e ∈ oj.after, Region.binds md e = true → e.on ≠ i := fun e he hb heq => by
        have h1 := hall e he hb
        have h0 := (mem_ready.1 hr).1
        rw [heq] at h1
        rcases Nat.lt_or_ge i listed.size with h' | h'
        · simp [h'] at h0 h1; rw [h0] at h1; cases h1
        · simp [Array.getElem?_eq_none h'] at h1
      have hap := hfree j oj hoj hji hjun hnot
      obtain ⟨p1, p2, p3⟩ := Oper.apart_spec hap
      have hWun' : ∀ k, W k → (listed.setIfInBounds j true).getD k true = false := fun k hk => by
        rw [getD_set_ne true (fun e => hnW (by rw [e]; exact hk))]
        exact hWun k hk
      have hfree' : ∀ k ok, ops[k]? = some ok → k ≠ i → (listed.setIfInBounds j true).getD k true = false →
          (∀ e ∈ ok.after, Region.binds md e = true → e.on ≠ i) → oi.apart ops ok = true := fun k ok hk hki hun hno => by
        refine hfree k ok hk hki ?_ hno
        by_cases hjk : j = k
        · subst hjk; exact hjun
        · rw [getD_set_ne true hjk] at hun; exact hun
      -- 'j' is carried out in the frame without i's value
      have hback : mOp P ops C E N j (fun a' w' => ∃ u, C w' ∧ a' = a.put oj.dst u ∧ any P md ops C E N Q fuel ((listed.setIfInBounds i true).setIfInBounds j true) (a'.put oi.dst v) w') a w := by
        unfold mOp at h1 ⊢
        simp only [hoj, if_neg hjN] at h1 ⊢
        unfold step at h1 ⊢
        rw [wanted_put oj a oi.dst v p1] at h1
        have he := execOp_put oj (fun cs b => hsel j oj cs b hoj) a oi.dst v p1
        split
        · rename_i hw
          rw [if_pos hw] at h1
          split
          · rename_i hEj
            rw [if_pos hEj] at h1
            unfold goes at *
            rw [he] at h1
            refine goesUpon_mono (fun u w' ⟨c, k⟩ => ⟨c, u, c hjN, rfl, ?_⟩) h1
            rw [Act.put_comm a v u p2] at k
            exact k
          · rename_i hEj
            rw [if_neg hEj] at h1
            obtain ⟨hcj, u, hq, k⟩ := h1
            refine ⟨hcj, u, fun w' hw' => ?_, u, hC, rfl, ?_⟩
            · have := hq w' hw'
              unfold Oper.quietAt at *
              rwa [he] at this
            · rw [Act.put_comm a v u p2] at k
              exact k
        · rename_i hw
          rw [if_neg hw] at h1
          refine ⟨undef, hC, rfl, ?_⟩
          rw [Act.put_comm a v undef p2] at h1
          exact h1
      refine mOp_mono (fun a' w' ⟨u, hC', ha', h3⟩ => ?_) hback
      subst ha'
      rw [if_neg hjN]
      refine ih (listed.setIfInBounds j true) _ w' hC' hWun' hfree' (ready_mono hr (Ne.symm hji)) ?_ ?_
      · refine hy.of_same (execOp_put oi (fun cs b => hsel i oi cs b hi) a oj.dst u p3) (wanted_put oi a oj.dst u p3)
      · rw [Array.setIfInBounds_comm _ _ hji]
        exact h3

/-- An operation that may change the world, and that is ready, may be taken first, if what may come ahead of it is quiet. 'W': what waits for it. -/
theorem any_first_goes {Q : Act → World → Prop} {i : Nat} {oi : Oper} (hi : ops[i]? = some oi) (W : Nat → Prop)
    (hWw : ∀ j, W j → j ≠ i → ∃ o e, ops[j]? = some o ∧ e ∈ o.after ∧ Region.binds md e = true ∧ W e.on) (hWN : ops[N]? = none ∨ W N)
    (hcb : ∀ j oj, ops[j]? = some oj → ¬ W j → E.contains j = false → callB oj = false)
    (hsel : ∀ (j : Nat) (o : Oper) cs b, ops[j]? = some o → o.op ≠ .select cs b) (w : World) (hC : C w) :
    ∀ (fuel : Nat) (listed : Array Bool) (a : Act),
      (∀ j, W j → listed.getD j true = false) →
      (∀ j oj, ops[j]? = some oj → ¬ W j → listed.getD j true = false → oi.apart ops oj = true ∧ E.contains j = false) →
      i ∈ Region.ready md ops listed →
      mOp P ops C E N i (fun a' w' => if i = N then Region.ready md ops (listed.setIfInBounds i true) = [] ∧ Q a' w' else any P md ops C E N Q fuel (listed.setIfInBounds i true) a' w') a w →
      any P md ops C E N Q (fuel + 1) listed a w := by
  intro fuel
  induction fuel with
  | zero =>
    intro listed a _ _ hr H
    refine ⟨fun h => (by rw [h] at hr; cases hr), fun j hj => ?_⟩
    by_cases hji : j = i
    · subst hji; exact H
    · obtain ⟨v, w', H'⟩ := mOp_ex hi H
      have := ready_mono hj hji
      split at H'
      · rw [H'.1] at this; cases this
      · rw [H'.1] at this; cases this
  | succ fuel ih =>
    intro listed a hWun hfree hr H
    refine ⟨fun h => (by rw [h] at hr; cases hr), fun j hj => ?_⟩
    by_cases hji : j = i
    · subst hji; exact H
    · obtain ⟨hjun, oj, hoj, hall⟩ := mem_ready.1 hj
      have hjE : j ∈ Region.ready md ops (listed.setIfInBounds i true) := ready_mono hj hji
      have hnW : ¬ W j := fun hW => by
        obtain ⟨o, e, ho, he, hb, hWe⟩ := hWw j hW hji
        rw [hoj] at ho
        cases ho
        have h1 := hall e he hb
        have h0 := hWun _ hWe
        rcases Nat.lt_or_ge e.on listed.size with h' | h'
        · simp [h'] at h0 h1; rw [h0] at h1; cases h1
        · simp [Array.getElem?_eq_none h'] at h1
      have hjN : j ≠ N := fun e => by
        subst e
        rcases hWN with h' | h'
        · rw [hoj] at h'; cases h'
        · exact hnW h'
      obtain ⟨hap, hEj⟩ := hfree j oj hoj hnW hjun
      obtain ⟨p1, p2, p3⟩ := Oper.apart_spec hap
      have hcj := hcb j oj hoj hnW hEj
      have hsj := fun cs b => hsel j oj cs b hoj
      by_cases hiN : i = N
      · obtain ⟨v0, w0, H0⟩ := mOp_ex hi H
        rw [if_pos hiN] at H0
        rw [H0.1] at hjE
        cases hjE
      have H : mOp P ops C E N i (any P md ops C E N Q (fuel + 1) (listed.setIfInBounds i true)) a w := by
        simpa only [if_neg hiN] using H
      obtain ⟨v0, w0, H0⟩ := mOp_ex hi H
      obtain ⟨vj, hyj, _⟩ := yields_of_mOp hoj hEj (H0.2 j hjE)
      have hyj := (yields_apart (u := v0) hap hsj).1 hyj
      refine mOp_of_yields hoj hEj hcj hyj ?_
      rw [if_neg hjN]
      refine ih (listed.setIfInBounds j true) _ (fun k hk => ?_) (fun k ok hok hnk hun => ?_) (ready_mono hr (Ne.symm hji)) ?_
      · have hkj : j ≠ k := fun e => hnW (e ▸ hk)
        rw [getD_set_ne true hkj]
        exact hWun k hk
      · refine hfree k ok hok hnk ?_
        by_cases hjk : j = k
        · subst hjk; exact hjun
        · rw [getD_set_ne true hjk] at hun; exact hun
      · refine mOp_apart hi hap (fun cs b => hsel i oi cs b hi) H (fun v w' k => ?_)
        rw [if_neg hiN]
        obtain ⟨vj', hyj', k'⟩ := yields_of_mOp hoj hEj (k.2 j hjE)
        rw [if_neg hjN] at k'
        have hyj' := (yields_apart (u := v) hap hsj).1 hyj'
        have he := yields_uniq hC hyj' hyj hcj
        subst he
        rw [Act.put_comm a v vj' p2] at k'
        rw [Array.setIfInBounds_comm _ _ hji]
        exact k'

/-- What waits for number 'i', among the first 'n' operations. -/
def clos (md : Region.Mode) (ops : Array Oper) (i : Nat) : Nat → List Nat
  | 0 => []
  | n + 1 => if n = i then n :: clos md ops i n else
      match ops[n]? with
      | some o => if o.after.any (fun e => Region.binds md e && (clos md ops i n).contains e.on) then n :: clos md ops i n else clos md ops i n
      | none => clos md ops i n
theorem clos_succ {i n j : Nat} (h : j ∈ clos md ops i n) : j ∈ clos md ops i (n + 1) := by
  unfold clos
  split
  · exact List.mem_cons_of_mem _ h
  · split
    · split
      · exact List.mem_cons_of_mem _ h
      · exact h
    · exact h
theorem clos_ge {i : Nat} : ∀ n j, j ∈ clos md ops i n → i ≤ j ∧ j < n
  | 0, j, h => by simp [clos] at h
  | n + 1, j, h => by
    unfold clos at h
    split at h
    · rename_i e
      rcases List.mem_cons.1 h with h | h
      · omega
      · have := clos_ge n j h; omega
    · split at h
      · split at h
        · rename_i o ho hany
          rcases List.mem_cons.1 h with h | h
          · subst h
            obtain ⟨e, he, hb⟩ := Array.any_eq_true'.1 hany
            simp only [Bool.and_eq_true, List.contains_iff_mem] at hb
            have := clos_ge j e.on hb.2
            omega
          · have := clos_ge n j h; omega
        · have := clos_ge n j h; omega
      · have := clos_ge n j h; omega
theorem clos_waits {i : Nat} : ∀ n j, j ∈ clos md ops i n → j ≠ i → ∃ o e, ops[j]? = some o ∧ e ∈ o.after ∧ Region.binds md e = true ∧ e.on ∈ clos md ops i n
  | 0, j, h, _ => by simp [clos] at h
  | n + 1, j, h, hne => by
    have up : (j ∈ clos md ops i n) → ∃ o e, ops[j]? = some o ∧ e ∈ o.after ∧ Region.binds md e = true ∧ e.on ∈ clos md ops i (n + 1) := fun h => by
      obtain ⟨o, e, h1, h2, h3, h4⟩ := clos_waits n j h hne
      exact ⟨o, e, h1, h2, h3, clos_succ h4⟩
    have h0 := h
    unfold clos at h
    split at h
    · rename_i e
      rcases List.mem_cons.1 h with h | h
      · exact absurd (h.trans e) hne
      · exact up h
    · split at h
      · split at h
        · rename_i o ho hany
          rcases List.mem_cons.1 h with h | h
          · subst h
            obtain ⟨e, he, hb⟩ := Array.any_eq_true'.1 hany
            simp only [Bool.and_eq_true, List.contains_iff_mem] at hb
            exact ⟨o, e, ho, he, hb.1, clos_succ hb.2⟩
          · exact up h
        · exact up h
      · exact up h
theorem clos_self {i n : Nat} (h : i < n) : i ∈ clos md ops i n := by
  induction n with
  | zero => omega
  | succ n ih =>
    by_cases e : n = i
    · subst e; unfold clos; simp
    · exact clos_succ (ih (by omega))

/-- The check: each pair of operations that may change the world is in order; every other one is no call; number 'N' comes last of all, or lies beyond. -/
def orderB (md : Region.Mode) (ops : Array Oper) (E : List Nat) (N : Nat) : Bool :=
  E.all (fun i => decide (i < ops.size) && E.all fun j => decide (j ≤ i) || (clos md ops i ops.size).contains j) &&
  ((List.range ops.size).all fun j => E.contains j || ((ops[j]?).map fun o => !callB o).getD true) &&
  (decide (ops.size ≤ N) || (decide (N + 1 = ops.size) && E.contains N && (List.range ops.size).all fun j => (clos md ops j ops.size).contains N))

/-- What is apart or waits, for one that may change the world. -/
def freeE (md : Region.Mode) (ops : Array Oper) (E : List Nat) : Bool :=
  E.all fun i => match ops[i]? with
    | none => false
    | some oi => (List.range ops.size).all fun j => decide (j ≤ i) || (clos md ops i ops.size).contains j || ((ops[j]?).map fun oj => oi.apart ops oj).getD true

theorem any_lex {Q : Act → World → Prop} (hs : Region.noSelect ops = true) (hO : orderB md ops E N = true) (hF : freeE md ops E = true) :
    ∀ (l : List Oper) (k : Nat) (listed : Array Bool) (a : Act) (w : World), C w → (∀ j, l[j]? = ops[k + j]?) → k + l.length = ops.size →
    (∀ j, k ≤ j → j < ops.size → listed.getD j true = false) → (∀ j, j < k → listed.getD j true = true) →
    Region.lexFrom md ops l.length k listed = true → lex P ops C E N Q k l a w → any P md ops C E N Q l.length listed a w
  | [], _, _, _, _, _, _, _, _, _, hB, h => ⟨by simpa [Region.lexFrom] using hB, h⟩
  | o :: l, k, listed, a, w, hC, hl, hlen, hun, hdone, hB, h => by
    have h0 : ops[k]? = some o := by simpa using (hl 0).symm
    have hkl : k < ops.size := by simp at hlen; omega
    simp only [List.length_cons, Region.lexFrom, Bool.and_eq_true] at hB
    obtain ⟨⟨hr, hf⟩, hB'⟩ := hB
    have hsel := Region.noSelect_spec hs
    have hr' : k ∈ Region.ready md ops listed := by simpa using hr
    have hO' := hO
    simp only [orderB, Bool.and_eq_true, List.all_eq_true, Bool.or_eq_true, decide_eq_true_eq, List.mem_range] at hO
    obtain ⟨⟨hO1, hO2⟩, hO3⟩ := hO
    have hcb : ∀ j oj, ops[j]? = some oj → E.contains j = false → callB oj = false := fun j oj hoj hE => by
      have hjl : j < ops.size := (Array.getElem?_eq_some_iff.1 hoj).1
      rcases hO2 j hjl with h | h
      · rw [hE] at h; cases h
      · simpa [hoj] using h
    have hWN : ops[N]? = none ∨ N ∈ clos md ops k ops.size := by
      rcases hO3 with h | ⟨_, h⟩
      · exact .inl (Array.getElem?_eq_none h)
      · exact .inr (by simpa using h k hkl)
    have hl' : ∀ j, l[j]? = ops[(k + 1) + j]? := fun j => by have := hl (j + 1); simpa [Nat.add_assoc, Nat.add_comm 1 j] using this
    have hun' : ∀ j, k + 1 ≤ j → j < ops.size → (listed.setIfInBounds k true).getD j true = false := fun j h1 h2 => by
      rw [getD_set_ne true (by omega)]; exact hun j (by omega) h2
    have hdone' : ∀ j, j < k + 1 → (listed.setIfInBounds k true).getD j true = true := fun j h1 => by
      by_cases e : k = j
      · subst e
        by_cases hs' : k < listed.size
        · simp [hs']
        · simp [Nat.not_lt.1 hs']
      · rw [getD_set_ne true e]; exact hdone j (by omega)
    have hm : mOp P ops C E N k (lex P ops C E N Q (k + 1) l) a w := by unfold mOp; simp only [h0]; exact h
    have hWun : ∀ j, j ∈ clos md ops k ops.size → listed.getD j true = false := fun j hj => by
      have := clos_ge _ j hj
      exact hun j this.1 this.2
    cases hE : E.contains k with
    | false =>
      obtain ⟨v, hy, hK⟩ := yields_of_mOp h0 hE hm
      have hkN : k ≠ N := fun e => by
        rcases hO3 with h | ⟨⟨_, h⟩, _⟩
        · omega
        · rw [← e, hE] at h; cases h
      exact any_first_quiet h0 hE (hcb k o h0 hE) hkN (fun j => j ∈ clos md ops k ops.size) (fun j hj hne => clos_waits _ j hj hne) hWN hsel l.length listed a w hC hWun (Region.free_spec h0 hf) hr' hy
        (any_lex hs hO' hF l (k + 1) _ _ w hC hl' (by simp at hlen; omega) hun' hdone' hB' hK)
    | true =>
      have hkE : k ∈ E := by simpa using hE
      have hO1k := hO1 k hkE
      have hFk := (List.all_eq_true.1 hF) k hkE
      simp only [h0, List.all_eq_true, List.mem_range, Bool.or_eq_true, decide_eq_true_eq, List.contains_iff_mem] at hFk
      refine any_first_goes h0 (fun j => j ∈ clos md ops k ops.size) (fun j hj hne => clos_waits _ j hj hne) hWN
        (fun j oj hoj _ hEj => hcb j oj hoj hEj) hsel w hC l.length listed a hWun (fun j oj hoj hnW hunj => ?_) hr' ?_
      · have hjl : j < ops.size := (Array.getElem?_eq_some_iff.1 hoj).1
        have hkj : k ≤ j := by
          rcases Nat.lt_or_ge j k with h' | h'
          · rw [hdone j h'] at hunj; cases hunj
          · exact h'
        have hne : j ≠ k := fun e => hnW (by rw [e]; exact clos_self hkl)
        refine ⟨?_, ?_⟩
        · rcases hFk j hjl with (h' | h') | h'
          · omega
          · exact absurd h' hnW
          · simpa [hoj] using h'
        · cases hEj : E.contains j with
          | false => rfl
          | true =>
            have := hO1k
            simp only [decide_eq_true_eq, List.contains_iff_mem, Bool.and_eq_true, List.all_eq_true, Bool.or_eq_true] at this
            rcases this.2 j (by simpa using hEj) with h' | h'
            · omega
            · exact absurd h' hnW
      · -- what stands behind it
        have after : ∀ a' w', (k ≠ N → C w') → lex P ops C E N Q (k + 1) l a' w' →
            (if k = N then Region.ready md ops (listed.setIfInBounds k true) = [] ∧ Q a' w' else any P md ops C E N Q l.length (listed.setIfInBounds k true) a' w') := fun a' w' c hK => by
          by_cases hkN : k = N
          · rw [if_pos hkN]
            have hnil : l = [] := by
              apply List.eq_nil_of_length_eq_zero
              rcases hO3 with h | ⟨⟨h, _⟩, _⟩
              · omega
              · simp at hlen; omega
            subst hnil
            exact ⟨by simpa [Region.lexFrom] using hB', hK⟩
          · rw [if_neg hkN]
            exact any_lex hs hO' hF l (k + 1) _ _ w' (c hkN) hl' (by simp at hlen; omega) hun' hdone' hB' hK
        unfold mOp at hm ⊢
        simp only [h0] at hm ⊢
        unfold step at hm ⊢
        split
        · rename_i hw
          rw [if_pos hw, if_pos hE] at hm
          exact goesUpon_mono (fun v w' ⟨c, hK⟩ => ⟨c, after _ w' c hK⟩) hm
        · rename_i hw
          rw [if_neg hw] at hm
          exact after _ w (fun _ => hC) hm

theorem wpOp_of_mOp {Q : Exit → Act → World → Prop} {i : Nat} {a : Act} {w : World} {K K' : Act → World → Prop} (hC : C w) (h : ∀ a w, (i ≠ N → C w) → K a w → K' a w) (hh : mOp P ops C E N i K a w) : wpOp P ops Q i K' a w := by
  unfold mOp at hh
  unfold wpOp
  split
  · rename_i e; simp only [e] at hh; exact h _ _ (fun _ => hC) hh
  · rename_i o e
    simp only [e] at hh
    unfold step at hh
    split
    · rename_i hw
      rw [if_pos hw] at hh
      refine .inl ?_
      split at hh
      · exact wp_of_goes (fun v w' ⟨c, k⟩ => h _ _ c k) hh
      · obtain ⟨hc, v, hq, k⟩ := hh
        have hv := hq w hC
        have hn := fun f args w' => exec_noEnter (P := P) hc (ρ := a.eval) (w := w) (w' := w') (f := f) (args := args)
        unfold Oper.quietAt at hv
        unfold Oper.wp
        generalize (execOp a.eval o).run P w = r at *
        unfold Oper.quietUpon at hv
        split at hv
        · obtain ⟨e1, e2⟩ := hv; subst e1; subst e2; exact h _ _ (fun _ => hC) k
        · obtain ⟨e1, e2⟩ := hv; subst e1; subst e2; exact h _ _ (fun _ => hC) k
        · exact absurd rfl (hn _ _ _)
        · exact hv.elim
    · rename_i hw
      rw [if_neg hw] at hh
      exact h _ _ (fun _ => hC) hh
theorem wpAny_done {Q' : Exit → Act → World → Prop} {listed : Array Bool} {a : Act} {w : World} (hr : Region.ready md ops listed = []) (hQ : Q' .normal a w) : ∀ fuel, wpAny P md ops Q' fuel listed a w
  | 0 => ⟨hr, hQ⟩
  | _ + 1 => ⟨fun _ => hQ, fun i hi => by rw [hr] at hi; cases hi⟩
theorem wpAny_of_any {Q' : Exit → Act → World → Prop} : ∀ (fuel : Nat) (listed : Array Bool) (a : Act) (w : World), C w →
    any P md ops C E N (fun a w => Q' .normal a w) fuel listed a w → wpAny P md ops Q' fuel listed a w
  | 0, _, _, _, _, h => h
  | fuel + 1, _, _, _, hw, h => ⟨h.1, fun i hi => wpOp_of_mOp hw (fun a' w' hC' k => by
      by_cases hiN : i = N
      · rw [if_pos hiN] at k
        exact wpAny_done k.1 k.2 fuel
      · rw [if_neg hiN] at k
        exact wpAny_of_any fuel _ a' w' (hC' hiN) k) (h.2 i hi)⟩

theorem wpList_of_lex {Q : Exit → Act → World → Prop} : ∀ (k : Nat) (l : List Oper) (a : Act) (w : World), C w → k + l.length ≤ N + 1 →
    lex P ops C E N (fun a w => Q .normal a w) k l a w → wpList P ops Q l a w
  | _, [], _, _, _, _, h => h
  | k, o :: rest, a, w, hC, hN, h => by
    simp only [List.length_cons] at hN
    have on : ∀ a' w', (k ≠ N → C w') → lex P ops C E N (fun a w => Q .normal a w) (k + 1) rest a' w' → wpList P ops Q rest a' w' := fun a' w' c h' => by
      by_cases hkN : k = N
      · have hnil : rest = [] := List.eq_nil_of_length_eq_zero (by omega)
        subst hnil
        exact h'
      · exact wpList_of_lex (k + 1) rest a' w' (c hkN) (by omega) h'
    unfold lex step at h
    unfold wpList
    split
    · rename_i hw
      rw [if_pos hw] at h
      refine .inl ?_
      split at h
      · exact wp_of_goes (fun v w' ⟨c, k⟩ => on _ w' c k) h
      · obtain ⟨hc, v, hq, k'⟩ := h
        have hv := hq w hC
        have hn := fun f args w' => exec_noEnter (P := P) hc (ρ := a.eval) (w := w) (w' := w') (f := f) (args := args)
        have hk := on _ w (fun _ => hC) k'
        unfold Oper.quietAt at hv
        unfold Oper.wp
        generalize (execOp a.eval o).run P w = r at *
        unfold Oper.quietUpon at hv
        split at hv
        · obtain ⟨e1, e2⟩ := hv; subst e1; subst e2; exact hk
        · obtain ⟨e1, e2⟩ := hv; subst e1; subst e2; exact hk
        · exact absurd rfl (hn _ _ _)
        · exact hv.elim
    · rename_i hw
      rw [if_neg hw] at h
      exact on _ w (fun _ => hC) h

/-- **A region that draws its order.** 'N': an operation that comes last of all and that may leave the class; or a number beyond. -/
theorem wp_draw {id : Nat} {Q : Exit → Act → World → Prop} {a : Act} {w : World} {l : List Oper} (E : List Nat) (N : Nat) (C : World → Prop) (hm : P.follows .mixedOrders = true)
    (hB : (Region.lexB .any l.toArray && orderB .any l.toArray E N && freeE .any l.toArray E) = true) (hC : C w.drew)
    (h : lex P l.toArray C E N (fun a' w' => Q .normal a' w') 0 l a w.drew) : (Code.region id l.toArray true).wp P Q a w := by
  simp only [Bool.and_eq_true] at hB
  obtain ⟨⟨hB, hO⟩, hF⟩ := hB
  simp only [Region.lexB, Bool.and_eq_true] at hB
  refine wp_region_any hm (wpAny_of_any (C := C) (E := E) (N := N) _ _ _ _ hC ?_)
  have := any_lex (C := C) (E := E) (N := N) (md := .any) hB.1 hO hF l 0 (Array.replicate l.toArray.size false) a w.drew hC (by simp) (by simp) (fun j _ hj => by simp at hj; simp [hj]) (fun j hj => by omega) (by simpa using hB.2) h
  simpa using this
/-- **A region that doesn't.** -/
theorem wp_plain {id : Nat} {Q : Exit → Act → World → Prop} {a : Act} {w : World} {l : List Oper} (E : List Nat) (C : World → Prop) (hC : C w)
    (h : lex P l.toArray C E (l.length - 1) (fun a' w' => Q .normal a' w') 0 l a w) : (Code.region id l.toArray false).wp P Q a w :=
  wp_region_lit (wpList_of_lex 0 l a w hC (by omega) h)
end
section
variable {P : Program} {ops : Array Oper} {C : World → Prop} {E : List Nat} {N : Nat}
/-! ### Steps -/
variable {Q : Act → World → Prop} {k : Nat} {o : Oper} {l : List Oper} {a : Act} {w : World}
theorem lex_nil (h : Q a w) : lex P ops C E N Q k [] a w := h
theorem lex_skip (hw : Region.wanted o (yielded ops a.tmps) = false) (h : lex P ops C E N Q (k + 1) l (a.put o.dst undef) w) : lex P ops C E N Q k (o :: l) a w := by
  unfold lex step
  rw [if_neg (by rw [hw]; exact Bool.false_ne_true)]
  exact h
theorem lex_quiet (hw : Region.wanted o (yielded ops a.tmps) = true) (hE : E.contains k = false) (hc : callB o = false)
    (h : ∀ K : Act → Prop, (∀ a', lex P ops C E N Q (k + 1) l a' w → K a') → o.quiet P a C K) : lex P ops C E N Q k (o :: l) a w := by
  unfold lex step
  rw [if_pos hw, if_neg (by rw [hE]; exact Bool.false_ne_true)]
  exact ⟨hc, h _ fun _ h => h⟩
theorem lex_goes (hw : Region.wanted o (yielded ops a.tmps) = true) (hE : E.contains k = true)
    (h : ∀ K : Value → World → Prop, (∀ v w', (k ≠ N → C w') → lex P ops C E N Q (k + 1) l (a.put o.dst v) w' → K v w') → goes P o a w K) : lex P ops C E N Q k (o :: l) a w := by
  unfold lex step
  rw [if_pos hw, if_pos hE]
  exact h _ fun _ _ h1 h2 => ⟨h1, h2⟩
theorem wanted_none (hg : o.guard = none) : Region.wanted o (yielded ops a.tmps) = true := by simp [Region.wanted, hg]
theorem yielded_at {j dj : Nat} {v : Value} (hj : (ops[j]?).bind (·.dst) = some dj) (hv : a.tmps.toList[dj]? = some v) : yielded ops a.tmps j = (match v with | .bool b => some b | _ => none) := by
  rw [Array.getElem?_toList] at hv
  unfold yielded
  simp only [hj, hv, Option.bind_some]
  cases v <;> rfl
theorem lex_quiet0 (hg : o.guard = none) (hE : E.contains k = false) (hc : callB o = false)
    (h : ∀ K : Act → Prop, (∀ a', lex P ops C E N Q (k + 1) l a' w → K a') → o.quiet P a C K) : lex P ops C E N Q k (o :: l) a w := lex_quiet (wanted_none hg) hE hc h
theorem lex_quietG {j dj : Nat} {want : Bool} {v : Value} (hg : o.guard = some (j, want)) (hj : (ops[j]?).bind (·.dst) = some dj) (hv : a.tmps.toList[dj]? = some v) (hw : v = .bool want)
    (hE : E.contains k = false) (hc : callB o = false) (h : ∀ K : Act → Prop, (∀ a', lex P ops C E N Q (k + 1) l a' w → K a') → o.quiet P a C K) : lex P ops C E N Q k (o :: l) a w :=
  lex_quiet (by subst hw; simp [Region.wanted, hg, yielded_at hj hv]) hE hc h
/-- The guard is decided: no way parts here. -/
theorem lex_decided {j dj : Nat} {want : Bool} {v : Value} (_hg : o.guard = some (j, want)) (_hj : (ops[j]?).bind (·.dst) = some dj) (_hv : a.tmps.toList[dj]? = some v) (_hw : v = .bool want)
    (h : lex P ops C E N Q k (o :: l) a w) : lex P ops C E N Q k (o :: l) a w := h
theorem lex_goes0 (hg : o.guard = none) (hE : E.contains k = true)
    (h : ∀ K : Value → World → Prop, (∀ v w', (k ≠ N → C w') → lex P ops C E N Q (k + 1) l (a.put o.dst v) w' → K v w') → goes P o a w K) : lex P ops C E N Q k (o :: l) a w := lex_goes (wanted_none hg) hE h
theorem lex_goesG {j dj : Nat} {want : Bool} {v : Value} (hg : o.guard = some (j, want)) (hj : (ops[j]?).bind (·.dst) = some dj) (hv : a.tmps.toList[dj]? = some v) (hw : v = .bool want)
    (hE : E.contains k = true) (h : ∀ K : Value → World → Prop, (∀ v w', (k ≠ N → C w') → lex P ops C E N Q (k + 1) l (a.put o.dst v) w' → K v w') → goes P o a w K) : lex P ops C E N Q k (o :: l) a w :=
  lex_goes (by subst hw; simp [Region.wanted, hg, yielded_at hj hv]) hE h
theorem lex_skipT {j dj : Nat} {v : Value} (hg : o.guard = some (j, true)) (hj : (ops[j]?).bind (·.dst) = some dj) (hv : a.tmps.toList[dj]? = some v) (hw : v = .bool false)
    (h : lex P ops C E N Q (k + 1) l (a.put o.dst undef) w) : lex P ops C E N Q k (o :: l) a w :=
  lex_skip (by subst hw; simp [Region.wanted, hg, yielded_at hj hv]) h
theorem lex_skipF {j dj : Nat} {v : Value} (hg : o.guard = some (j, false)) (hj : (ops[j]?).bind (·.dst) = some dj) (hv : a.tmps.toList[dj]? = some v) (hw : v = .bool true)
    (h : lex P ops C E N Q (k + 1) l (a.put o.dst undef) w) : lex P ops C E N Q k (o :: l) a w :=
  lex_skip (by subst hw; simp [Region.wanted, hg, yielded_at hj hv]) h
theorem lex_skipU {j dj : Nat} {want : Bool} {v : Value} (hg : o.guard = some (j, want)) (hj : (ops[j]?).bind (·.dst) = some dj) (hv : a.tmps.toList[dj]? = some v) (hw : v = undef)
    (h : lex P ops C E N Q (k + 1) l (a.put o.dst undef) w) : lex P ops C E N Q k (o :: l) a w :=
  lex_skip (by subst hw; simp [Region.wanted, hg, yielded_at hj hv, undef]) h
theorem lex_part {j dj : Nat} {want b : Bool} (_hE : E.contains k = false) (_hg : o.guard = some (j, want)) (_hj : (ops[j]?).bind (·.dst) = some dj) (hv : a.tmps.toList[dj]? = some (.bool b))
    (h1 : b = true → lex P ops C E N Q k (o :: l) (a.put (some dj) (.bool true)) w)
    (h2 : b = false → lex P ops C E N Q k (o :: l) (a.put (some dj) (.bool false)) w) : lex P ops C E N Q k (o :: l) a w := by
  rw [Array.getElem?_toList] at hv
  cases b with
  | true => have := h1 rfl; rwa [put_same hv] at this
  | false => have := h2 rfl; rwa [put_same hv] at this
theorem lex_partE {j dj : Nat} {want b : Bool} (_hg : o.guard = some (j, want)) (_hj : (ops[j]?).bind (·.dst) = some dj) (hv : a.tmps.toList[dj]? = some (.bool b))
    (h1 : b = true → lex P ops C E N Q k (o :: l) (a.put (some dj) (.bool true)) w)
    (h2 : b = false → lex P ops C E N Q k (o :: l) (a.put (some dj) (.bool false)) w) : lex P ops C E N Q k (o :: l) a w := by
  rw [Array.getElem?_toList] at hv
  cases b with
  | true => have := h1 rfl; rwa [put_same hv] at this
  | false => have := h2 rfl; rwa [put_same hv] at this
theorem wpList_guarded {Q : Exit → Act → World → Prop} {l : List Oper} (_hg : (l.any fun o => o.guard.isSome) = true)
    (h : lex P ops (fun w' => w' = w) [] l.length (fun a' w' => Q .normal a' w') 0 l a w) : wpList P ops Q l a w :=
  wpList_of_lex (C := fun w' => w' = w) 0 l a w rfl (by omega) h
/-- A region that draws, whose operations leave this world as it is. -/
theorem wp_still {id : Nat} {Q : Exit → Act → World → Prop} {l : List Oper} (hm : P.follows .mixedOrders = true)
    (hB : (Region.lexB .any l.toArray && orderB .any l.toArray [] l.length && freeE .any l.toArray []) = true)
    (h : lex P l.toArray (fun w' => w' = w.drew) [] l.length (fun a' w' => Q .normal a' w') 0 l a w.drew) : (Code.region id l.toArray true).wp P Q a w :=
  wp_draw [] l.length (fun w' => w' = w.drew) hm hB rfl h
end
attribute [go_sem] goes goesUpon
attribute [irreducible] lex step
end Mix
end Go.Proofs.YtnhaekifcieeoaaGreatDoor
