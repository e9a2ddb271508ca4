/- Put together: Base, Ml, OpenM, Door, Mix, Data, Open, OpenB, OpenF, OpenS. -/
import Derived.WalkKit
import Derived.ProofKit
import Derived.OpenShut
import Derived.WalkLawsBesides
import Derived.WalkSpells
import Derived.Lib.Hide
import Derived.BigQuiet
import Derived.Deep.QuietTactic
import Derived.Outline
import Derived.Deep.DeepCutAuto
import Derived.Laws.StructEq
import Derived.Test.YtnhaekifcieeoaaGreatDoorProg
import Derived.HandedShaped
import Derived.Shelf.Vars
import Derived.ShutString
import Derived.ChangeOld
import Derived.Below
import Derived.LaidMore
import Derived.Lay
import Derived.Handed
import Derived.SevenTiedAt
import Derived.Stop.Joined
import Derived.Deep.Slices
import Derived.Deep.Fields
import Derived.ChangeSame
import Derived.Lib.SmallJoins
namespace Go.Proofs.YtnhaekifcieeoaaGreatDoor
open Go Go.RowKit
section
variable {P : Program} {ops : Array Oper} {C : World → Prop}
theorem put_same {a : Act} {d : Nat} {v : Value} (h : a.tmps[d]? = some v) : a.put (some d) v = a := by
  have : a.tmps.setIfInBounds d v = a.tmps := by
    rw [Array.getElem?_eq_some_iff] at h
    obtain ⟨hl, hv⟩ := h
    subst hv
    apply Array.ext
    · simp
    · intro i h1 h2
      rw [Array.getElem_setIfInBounds]
      split
      · rename_i e; subst e; rfl
      · rfl
  unfold Act.put
  simp [this]
end
abbrev Str := List UInt8
abbrev S (l : Str) : Value := .string ⟨l.toArray⟩
theorem S_append (x y : Str) : (⟨x.toArray⟩ ++ ⟨y.toArray⟩ : ByteArray) = ⟨(x ++ y).toArray⟩ := by
  apply ByteArray.ext
  simp
attribute [go_sem] S_append
theorem getElem_S (s : Str) (k : Nat) (h : k < s.length) (h' : k < (⟨s.toArray⟩ : ByteArray).size) : (⟨s.toArray⟩ : ByteArray)[k]'h' = s[k] := rfl
attribute [go_sem] getElem_S
structure Only (F : Nat → Prop) (w v : World) : Prop where
  os : v.os = w.os
  tape : v.tape = w.tape
  output : v.output = w.output
  size : w.heap.size ≤ v.heap.size
  block : ∀ b, b < w.heap.size → ¬ F b → v.heap[b]? = w.heap[b]?
abbrev No : Nat → Prop := fun _ => False
abbrev Ext (w v : World) : Prop := Only No w v
section
variable {F G : Nat → Prop} {w u v : World}
theorem Only.refl (F : Nat → Prop) (w : World) : Only F w w := ⟨rfl, rfl, rfl, Nat.le_refl _, fun _ _ _ => rfl⟩
theorem Only.weak (h : Only F w v) (hF : ∀ b, b < w.heap.size → F b → G b) : Only G w v := ⟨h.os, h.tape, h.output, h.size, fun b hb hn => h.block b hb fun hf => hn (hF b hb hf)⟩
theorem Only.any (h : Ext w v) : Only F w v := h.weak fun _ _ h => h.elim
theorem Only.trans (h : Only F w u) (k : Only G u v) (hG : ∀ b, b < w.heap.size → G b → F b) : Only F w v :=
  ⟨k.os.trans h.os, k.tape.trans h.tape, k.output.trans h.output, Nat.le_trans h.size k.size,
   fun b hb hn => (k.block b (Nat.lt_of_lt_of_le hb h.size) fun hg => hn (hG b hb hg)).trans (h.block b hb hn)⟩
theorem Only.then_ext (h : Only F w u) (k : Ext u v) : Only F w v := h.trans k fun _ _ h => h.elim
theorem Only.drew (h : Only F w v) : Only F w v.drew := ⟨h.os, h.tape, h.output, h.size, h.block⟩
theorem Only.drewN (h : Only F w v) (n : Nat) : Only F w (v.drewN n) := ⟨h.os, h.tape, h.output, h.size, h.block⟩
theorem Only.alloc (h : Only F w v) (o : Obj) : Only F w (v.alloc o) :=
  h.trans (G := No) ⟨rfl, rfl, rfl, by simp, fun b hb _ => Below.heap_alloc _ _ _ hb⟩ fun _ _ h => h.elim
theorem Only.setCell (h : Only F w v) {p : Addr} (hp : w.heap.size ≤ p.block ∨ F p.block) (x : Value) : Only F w (v.setCell p x) :=
  h.trans (G := fun b => b = p.block) ⟨rfl, rfl, rfl, by simp [World.setCell], fun b _ hn => Below.heap_setCell _ _ _ _ hn⟩ fun b hb e => by
    subst e
    rcases hp with hp | hp
    · omega
    · exact hp
theorem Only.at_ {g : Nat} (h : Only (· = g) w v) (i : Nat) (x : Value) : Only (· = g) w (v.setCell ⟨g, i, none⟩ x) := h.setCell (p := ⟨g, i, none⟩) (.inr rfl) x
theorem Only.grown {row : Option Nat} (h : Only F w u) (hg : u.grownBy v row) (hr : ∀ g, row = some g → w.heap.size ≤ g ∨ F g) : Only F w v :=
  h.trans (G := fun b => some b = row) ⟨hg.os, hg.tape, hg.output, hg.size, fun b hb hn => hg.block b hb hn⟩ fun b hb e => by
    rcases hr b e.symm with hp | hp
    · omega
    · exact hp
theorem Only.below (h : Below w.heap.size w v) : Ext w v := ⟨h.os, h.tape, h.output, h.size, fun b hb _ => h.block b hb⟩
theorem Only.toBelow (h : Ext w v) : Below w.heap.size w v :=
  ⟨h.os, h.tape, h.output, h.size, fun b hb => h.block b hb id⟩
theorem Only.cell (h : Only F w v) {p : Addr} (hp : p.block < w.heap.size) (hn : ¬ F p.block) : v.cell? p = w.cell? p := World.cell?_of_block (w := w) (h.block p.block hp hn)
theorem Only.frozen (h : Only F w v) {p : Addr} (hp : p.block < w.heap.size) (hn : ¬ F p.block) : v.frozen? p = w.frozen? p := World.frozen?_of_block (w := w) (h.block p.block hp hn)
end
structure X (w : World) (F : Nat → Prop) where
  v : World
  h : Only F w v
section
variable {w : World} {F : Nat → Prop}
def X.here (w : World) (F : Nat → Prop) : X w F := ⟨w, Only.refl _ _⟩
instance X.has (w : World) (F : Nat → Prop) : Nonempty (X w F) := ⟨X.here w F⟩
def X.on (ξ : X w F) {v : World} (h : Ext ξ.v v) : X w F := ⟨v, ξ.h.then_ext h⟩
theorem X.lt (ξ : X w F) {b : Nat} (h : b < w.heap.size) : b < ξ.v.heap.size := Nat.lt_of_lt_of_le h ξ.h.size
abbrev Cl (w : World) (F : Nat → Prop) : World → Prop := fun w' => ∃ ξ : X w F, w' = ξ.v
theorem Cl.here : Cl w F w := ⟨X.here w F, rfl⟩
theorem Cl.drew_ (ξ : X w F) : Cl w F ξ.v.drew := ⟨⟨ξ.v.drew, ξ.h.drew⟩, rfl⟩
theorem Cl.of {v : World} (h : Only F w v) : Cl w F v := ⟨⟨v, h⟩, rfl⟩
end
def Ml (w : World) : Prop := ∃ m, w.cell? ⟨0, 0, none⟩ = some (.int .i64 m)
theorem Ml.only {w v : World} {F : Nat → Prop} (h : Ml w) (hx : Only F w v) (hF : ¬ F 0) : Ml v := by
  obtain ⟨m, hm⟩ := h
  exact ⟨m, (hx.cell (World.block_lt_of_cell? _ _ hm) hF).trans hm⟩
theorem Ml.ext {w v : World} (h : Ml w) (hx : Ext w v) : Ml v := h.only hx id
set_option maxRecDepth 100000 in
theorem ml_shaped {W : World} (h : W.ShapedOpen Tryz.prog) : Ml W :=
  cell_of_shapedOpen_int (t := 3) (zero := #[.int .i64 0]) h (of_decide_eq_true (by kernel_rfl)) (by kernel_rfl) rfl (by kernel_rfl) (by kernel_rfl) Tryz.underlying3
open Go Go.RowKit Go.ChangeShapes Go.WideShapes Go.ChangeAt
section
variable {H : Type} {enc : TypeId × Value → H}
theorem handed_and_shaped {a : Assume} {C : Checked} {os : Os} {f : FuncId} {fn : Func} {s : ChangeSpec} {conds : List PathCond} {apart fresh handsOn again : Bool} {X : World → Array Value → Prop}
    (hX : ∀ (w w' : World) (args : Array Value), w.heap = w'.heap → X w args → X w' args)
    (own : ownKnob C.prog.godebug = none) (started : os.Started) (noInit : C.prog.inits.idxOf? f = none) (hfn : C.prog.funcs[f]? = some fn)
    (witness : ∃ (w : World) (tape : Tape) (i : Input), w.os = os ∧ (w.forCall tape i).Shaped C.prog ∧ i.vars = [] ∧ Input.okWide C.prog (w.forCall tape i) .any w.heap.size f i ∧
      ((s.pre enc C.prog fn conds apart (w.forCall tape i).memory i.args ∧ X (w.forCall tape i).memory i.args) ∧ sizedMet enc C.prog fn (OpenSpec.ofChange s) apart (w.forCall tape i).memory i.args) ∧ a.holds C.prog (lone (Frame.enter C.prog f i.args .normal) [] (w.forCall tape i)))
    (contract : ∀ (W : World) (base : Nat) (args : Array Value) (ds gs : List (DataW H)) (before : List MemPlace),
      (∀ (j : Nat) t v, fn.params[j]? = some t → args[j]? = some v → Value.okWide C.prog W .any base t v) →
      DataW.Whole enc C.prog fn.params.toList s.vars apart W args.toList ds gs before →
      W.ShapedOpen C.prog → X W args →
      Calls C.prog f args W fun e W' => ∃ v, e = .returned v ∧ s.post enc C.prog fn apart fresh handsOn again W args v W') :
    ReturnsInHanded a C os f .any (fun w args => (s.pre enc C.prog fn conds apart w args ∧ X w args) ∧ sizedMet enc C.prog fn (OpenSpec.ofChange s) apart w args) (s.post enc C.prog fn apart fresh handsOn again) := by
  refine returnsInHanded_of_calls own started noInit witness ?_
  intro w tape i _ hsh _ hok hpre hholds
  obtain ⟨_, _, _, fn', hfn', _, _, _, _, hval⟩ := hok
  have e : fn' = fn := Option.some.inj (hfn'.symm.trans hfn)
  subst e
  obtain ⟨⟨⟨ds, gs, before, hw, hc⟩, hx⟩, hz⟩ := hpre
  have hw' := DataW.Whole.of_heap (w' := w.forCall tape i) (by rfl) hw
  refine (contract (w.forCall tape i) w.heap.size i.args ds gs before hval hw' hsh (hX _ _ _ (by rfl) hx)).mono fun e W' ⟨v, he, hp⟩ => ?_
  subst he
  exact ChangeSpec.post_blind hp
end
namespace Mix
section
variable {P : Program} {ops : Array Oper} {md : Region.Mode} {C : World → Prop} {E : List Nat} {N : Nat}
def callB (o : Oper) : Bool := match o.op with
  | .call c => (match c.callee with | .builtin .len | .builtin .cap | .builtin .max | .builtin .min => false | _ => true)
  | .go _ | .defer _ | .send _ _ | .recv _ _ _ | .select _ _ => true
  | _ => false
theorem value_noEnter {s : Sem Value} {w w' : World} {f : FuncId} {args : Array Value} : (do let a ← s; pure (Next.value a) : Sem Next).run P w ≠ .ok (.enter f args) w' := by
  rw [Sem.run_bind]
  cases s.run P w <;> simp [Result.andThen]
theorem unit_noEnter {s : Sem Unit} {w w' : World} {f : FuncId} {args : Array Value} : (do s; pure Next.skip : Sem Next).run P w ≠ .ok (.enter f args) w' := by
  rw [Sem.run_bind]
  cases s.run P w <;> simp [Result.andThen]
def goesUpon (P : Program) (N : Value → World → Prop) : Result Next → Prop
  | .ok (.value v) w' => N v w'
  | .ok .skip w' => N undef w'
  | .ok (.enter f args) w' => Calls P f args w' fun e w'' => ∃ v, e = .returned v ∧ N v w''
  | _ => False
def goes (P : Program) (o : Oper) (a : Act) (w : World) (N : Value → World → Prop) : Prop := goesUpon P N ((execOp a.eval o).run P w)
theorem goesUpon_mono {N N' : Value → World → Prop} {r : Result Next} (h : ∀ v w, N v w → N' v w) (hh : goesUpon P N r) : goesUpon P N' r := by
  unfold goesUpon at *
  split at hh <;> first
    | exact h _ _ hh
    | exact hh.mono fun e w ⟨v, he, hn⟩ => ⟨v, he, h _ _ hn⟩
    | exact hh.elim
theorem goesUpon_ex {N : Value → World → Prop} {r : Result Next} (hh : goesUpon P N r) : ∃ v w, N v w := by
  unfold goesUpon at hh
  split at hh <;> first
    | exact ⟨_, _, hh⟩
    | (obtain ⟨e, w', fr, ⟨v, _, hn⟩, _⟩ := hh []; exact ⟨v, w', hn⟩)
    | exact hh.elim
theorem wp_of_goes {o : Oper} {a : Act} {w : World} {K : Act → World → Prop} {Q : Exit → Act → World → Prop} {N : Value → World → Prop}
    (h : ∀ v w', N v w' → K (a.put o.dst v) w') (hh : goes P o a w N) : o.wp P a w K Q := by
  unfold goes at hh
  unfold Oper.wp
  generalize (execOp a.eval o).run P w = r at *
  unfold goesUpon at hh
  split at hh
  · exact h _ _ hh
  · exact h _ _ hh
  · exact hh.mono fun e w ⟨v, he, hn⟩ => by subst he; exact h _ _ hn
  · exact hh.elim
def step (P : Program) (ops : Array Oper) (C : World → Prop) (E : List Nat) (N : Nat) (i : Nat) (o : Oper) (a : Act) (w : World) (K : Act → World → Prop) : Prop :=
  if Region.wanted o (yielded ops a.tmps) then
    (if E.contains i then goes P o a w (fun v w' => (i ≠ N → C w') ∧ K (a.put o.dst v) w') else callB o = false ∧ o.quiet P a C (fun a' => K a' w))
  else K (a.put o.dst undef) w
def lex (P : Program) (ops : Array Oper) (C : World → Prop) (E : List Nat) (N : Nat) (Q : Act → World → Prop) : Nat → List Oper → Act → World → Prop
  | _, [], a, w => Q a w
  | k, o :: l, a, w => step P ops C E N k o a w (lex P ops C E N Q (k + 1) l)
def mOp (P : Program) (ops : Array Oper) (C : World → Prop) (E : List Nat) (N : Nat) (i : Nat) (K : Act → World → Prop) (a : Act) (w : World) : Prop :=
  match ops[i]? with
  | none => K a w
  | some o => step P ops C E N i o a w K
def any (P : Program) (md : Region.Mode) (ops : Array Oper) (C : World → Prop) (E : List Nat) (N : Nat) (Q : Act → World → Prop) : Nat → Array Bool → Act → World → Prop
  | 0, listed, a, w => Region.ready md ops listed = [] ∧ Q a w
  | fuel + 1, listed, a, w =>
    (Region.ready md ops listed = [] → Q a w) ∧
    ∀ i ∈ Region.ready md ops listed, mOp P ops C E N i (fun a' w' => if i = N then Region.ready md ops (listed.setIfInBounds i true) = [] ∧ Q a' w' else any P md ops C E N Q fuel (listed.setIfInBounds i true) a' w') a w
theorem nilDeref_noEnter {w w' : World} {f : FuncId} {args : Array Value} : (runtimePanic .nilDeref : Sem Next).run P w ≠ .ok (.enter f args) w' := by
  simp [runtimePanic, goPanic, go_sem]
theorem exec_noEnter {o : Oper} (h : callB o = false) {ρ : Operand → Value} {w w' : World} {f : FuncId} {args : Array Value} : (execOp ρ o).run P w ≠ .ok (.enter f args) w' := by
  unfold callB at h
  unfold execOp
  cases ho : o.op <;> simp only [ho] at h ⊢ <;> first
    | exact value_noEnter
    | exact unit_noEnter
    | (cases h; done)
    | (simp [Sem.run_pure]; done)
    | skip
  case pick c a b =>
    rw [Sem.run_bind]
    cases (asBool (ρ c)).run P w <;> simp [Result.andThen]
  case nilCheck x =>
    split
    · exact nilDeref_noEnter
    · exact nilDeref_noEnter
    · exact nilDeref_noEnter
    · split
      · exact nilDeref_noEnter
      · rw [Sem.run_bind]
        cases program.run P w with
        | halt x w' => simp [Result.andThen]
        | ok p w' =>
          simp only [Result.andThen]
          rw [Sem.run_bind]
          cases (nilAhead _ _ _ _ : Sem (Option Bool)).run P w' with
          | halt x w' => simp [Result.andThen]
          | ok b w' =>
            simp only [Result.andThen]
            split
            · simp [unsupported, Sem.run_bind, Sem.run]
            · simp [Sem.run_pure]
      · simp [Sem.run_pure]
    · simp [Sem.run_pure]
  case call c =>
    rw [Sem.run_bind]
    unfold resolve
    split at h
    case h_5 => cases h
    all_goals
      rename_i hc
      simp only [hc, Sem.run_pure, Result.andThen, invoke, builtin]
      exact value_noEnter
theorem yields_uniq {o : Oper} {v v' : Value} {a : Act} {w : World} (hw : C w) (h : YieldsIn P ops C o v a) (h' : YieldsIn P ops C o v' a) (hc : callB o = false) : v = v' := by
  rcases h with ⟨h1, h2⟩ | ⟨h1, rfl⟩ <;> rcases h' with ⟨k1, k2⟩ | ⟨k1, rfl⟩
  · have a1 := h2 w hw
    have a2 := k2 w hw
    unfold Oper.quietAt at a1 a2
    have hn := fun f args w' => exec_noEnter (P := P) hc (ρ := a.eval) (w := w) (w' := w') (f := f) (args := args)
    generalize (execOp a.eval o).run P w = r at *
    unfold Oper.quietUpon at a1 a2
    split at a1
    · simp only at a2; rw [← a1.2, ← a2.2]
    · simp only at a2; rw [a1.2, a2.2]
    · exact absurd rfl (hn _ _ _)
    · exact a1.elim
  · rw [h1] at k1; cases k1
  · rw [h1] at k1; cases k1
  · rfl
theorem step_mono {i : Nat} {o : Oper} {a : Act} {w : World} {K K' : Act → World → Prop} (h : ∀ a w, K a w → K' a w) (hh : step P ops C E N i o a w K) : step P ops C E N i o a w K' := by
  unfold step at *
  split
  · rename_i hw
    rw [if_pos hw] at hh
    split
    · rename_i he; rw [if_pos he] at hh; exact goesUpon_mono (fun v w ⟨c, k⟩ => ⟨c, h _ _ k⟩) hh
    · rename_i he; rw [if_neg he] at hh; exact ⟨hh.1, Oper.quiet_mono (fun a k => h _ _ k) hh.2⟩
  · rename_i hw
    rw [if_neg hw] at hh
    exact h _ _ hh
theorem mOp_mono {i : Nat} {a : Act} {w : World} {K K' : Act → World → Prop} (h : ∀ a w, K a w → K' a w) (hh : mOp P ops C E N i K a w) : mOp P ops C E N i K' a w := by
  unfold mOp at *
  split
  · rename_i e; simp only [e] at hh; exact h _ _ hh
  · rename_i o e; simp only [e] at hh; exact step_mono h hh
theorem mOp_ex {i : Nat} {o : Oper} {a : Act} {w : World} {K : Act → World → Prop} (ho : ops[i]? = some o) (hh : mOp P ops C E N i K a w) : ∃ v w', K (a.put o.dst v) w' := by
  unfold mOp at hh
  simp only [ho] at hh
  unfold step at hh
  split at hh
  · split at hh
    · obtain ⟨v, w', _, k⟩ := goesUpon_ex hh; exact ⟨v, w', k⟩
    · obtain ⟨_, v, _, k⟩ := hh; exact ⟨v, w, k⟩
  · exact ⟨undef, w, hh⟩
theorem mOp_apart {i : Nat} {oi oj : Oper} {u : Value} {a : Act} {w : World} {K K' : Act → World → Prop} (hi : ops[i]? = some oi) (hap : oi.apart ops oj = true)
    (hsi : ∀ cs b, oi.op ≠ .select cs b) (hh : mOp P ops C E N i K a w) (h : ∀ v w', K (a.put oi.dst v) w' → K' ((a.put oj.dst u).put oi.dst v) w') : mOp P ops C E N i K' (a.put oj.dst u) w := by
  obtain ⟨h1, h2, h3⟩ := Oper.apart_spec hap
  unfold mOp at *
  simp only [hi] at *
  unfold step at *
  rw [wanted_put oi a oj.dst u h3]
  have he := execOp_put oi hsi a oj.dst u h3
  split
  · rename_i hw
    rw [if_pos hw] at hh
    split
    · rename_i hE
      rw [if_pos hE] at hh
      unfold goes at *
      rw [he]
      exact goesUpon_mono (fun v w' ⟨c, k⟩ => ⟨c, h v w' k⟩) hh
    · rename_i hE
      rw [if_neg hE] at hh
      obtain ⟨hc, v, hq, k⟩ := hh
      refine ⟨hc, v, fun w' hw' => ?_, h v w k⟩
      have := hq w' hw'
      unfold Oper.quietAt at *
      rwa [he]
  · rename_i hw
    rw [if_neg hw] at hh
    exact h undef w hh
theorem yields_apart {oi oj : Oper} {u v : Value} {a : Act} (hap : oi.apart ops oj = true) (hsj : ∀ cs b, oj.op ≠ .select cs b) :
    YieldsIn P ops C oj v (a.put oi.dst u) ↔ YieldsIn P ops C oj v a := by
  obtain ⟨h1, _, _⟩ := Oper.apart_spec hap
  unfold YieldsIn Oper.quietAt
  rw [wanted_put oj a oi.dst u h1, execOp_put oj hsj a oi.dst u h1]
theorem yields_of_mOp {j : Nat} {oj : Oper} {a : Act} {w : World} {K : Act → World → Prop} (hj : ops[j]? = some oj) (hE : E.contains j = false) (hh : mOp P ops C E N j K a w) :
    ∃ v, YieldsIn P ops C oj v a ∧ K (a.put oj.dst v) w := by
  unfold mOp at hh
  simp only [hj] at hh
  unfold step at hh
  split at hh
  · rename_i hw
    rw [if_neg (by rw [hE]; exact Bool.false_ne_true)] at hh
    obtain ⟨_, v, hq, k⟩ := hh
    exact ⟨v, .inl ⟨hw, hq⟩, k⟩
  · rename_i hw
    exact ⟨undef, .inr ⟨by simpa using hw, rfl⟩, hh⟩
theorem mOp_of_yields {j : Nat} {oj : Oper} {v : Value} {a : Act} {w : World} {K : Act → World → Prop} (hj : ops[j]? = some oj) (hE : E.contains j = false) (hc : callB oj = false)
    (hy : YieldsIn P ops C oj v a) (k : K (a.put oj.dst v) w) : mOp P ops C E N j K a w := by
  unfold mOp
  simp only [hj]
  unfold step
  rcases hy with ⟨hw, hv⟩ | ⟨hw, rfl⟩
  · rw [if_pos hw, if_neg (by rw [hE]; exact Bool.false_ne_true)]; exact ⟨hc, v, hv, k⟩
  · rw [if_neg (by simp [hw])]; exact k
theorem any_first_quiet {Q : Act → World → Prop} {i : Nat} {oi : Oper} {v : Value} (hi : ops[i]? = some oi) (hE : E.contains i = false) (hc : callB oi = false)
    (hiN : i ≠ N) (W : Nat → Prop)
    (hWw : ∀ j, W j → j ≠ i → ∃ o e, ops[j]? = some o ∧ e ∈ o.after ∧ Region.binds md e = true ∧ W e.on) (hWN : ops[N]? = none ∨ W N)
    (hsel : ∀ (j : Nat) (o : Oper) cs b, ops[j]? = some o → o.op ≠ .select cs b) :
    ∀ (fuel : Nat) (listed : Array Bool) (a : Act) (w : World), C w → (∀ j, W j → listed.getD j true = false) →
      (∀ j oj, ops[j]? = some oj → j ≠ i → listed.getD j true = false → (∀ e ∈ oj.after, Region.binds md e = true → e.on ≠ i) → oi.apart ops oj = true) →
      i ∈ Region.ready md ops listed → YieldsIn P ops C oi v a →
      any P md ops C E N Q fuel (listed.setIfInBounds i true) (a.put oi.dst v) w → any P md ops C E N Q (fuel + 1) listed a w := by
  intro fuel
  induction fuel with
  | zero =>
    intro listed a w _ _ _ hr hy H
    refine ⟨fun h => (by rw [h] at hr; cases hr), fun j hj => ?_⟩
    by_cases hji : j = i
    · subst hji; exact mOp_of_yields hi hE hc hy (by rw [if_neg hiN]; exact H)
    · have := ready_mono hj hji
      rw [H.1] at this
      cases this
  | succ fuel ih =>
    intro listed a w hC hWun hfree hr hy H
    refine ⟨fun h => (by rw [h] at hr; cases hr), fun j hj => ?_⟩
    by_cases hji : j = i
    · subst hji; exact mOp_of_yields hi hE hc hy (by rw [if_neg hiN]; exact H)
    · have h1 := H.2 j (ready_mono hj hji)
      obtain ⟨hjun, oj, hoj, hall⟩ := mem_ready.1 hj
      have hnW : ¬ W j := fun hW => by
        obtain ⟨o, e, ho, he, hb, hWe⟩ := hWw j hW hji
        rw [hoj] at ho
        cases ho
        have h1 := hall e he hb
        have h0 := hWun _ hWe
        rcases Nat.lt_or_ge e.on listed.size with h' | h'
        · simp [h'] at h0 h1; rw [h0] at h1; cases h1
        · simp [Array.getElem?_eq_none h'] at h1
      have hjN : j ≠ N := fun e => by
        subst e
        rcases hWN with h' | h'
        · rw [hoj] at h'; cases h'
        · exact hnW h'
      have hnot : ∀ e ∈ oj.after, Region.binds md e = true → e.on ≠ i := fun e he hb heq => by
        have h1 := hall e he hb
        have h0 := (mem_ready.1 hr).1
        rw [heq] at h1
        rcases Nat.lt_or_ge i listed.size with h' | h'
        · simp [h'] at h0 h1; rw [h0] at h1; cases h1
        · simp [Array.getElem?_eq_none h'] at h1
      have hap := hfree j oj hoj hji hjun hnot
      obtain ⟨p1, p2, p3⟩ := Oper.apart_spec hap
      have hWun' : ∀ k, W k → (listed.setIfInBounds j true).getD k true = false := fun k hk => by
        rw [getD_set_ne true (fun e => hnW (by rw [e]; exact hk))]
        exact hWun k hk
      have hfree' : ∀ k ok, ops[k]? = some ok → k ≠ i → (listed.setIfInBounds j true).getD k true = false →
          (∀ e ∈ ok.after, Region.binds md e = true → e.on ≠ i) → oi.apart ops ok = true := fun k ok hk hki hun hno => by
        refine hfree k ok hk hki ?_ hno
        by_cases hjk : j = k
        · subst hjk; exact hjun
        · rw [getD_set_ne true hjk] at hun; exact hun
      have hback : mOp P ops C E N j (fun a' w' => ∃ u, C w' ∧ a' = a.put oj.dst u ∧ any P md ops C E N Q fuel ((listed.setIfInBounds i true).setIfInBounds j true) (a'.put oi.dst v) w') a w := by
        unfold mOp at h1 ⊢
        simp only [hoj, if_neg hjN] at h1 ⊢
        unfold step at h1 ⊢
        rw [wanted_put oj a oi.dst v p1] at h1
        have he := execOp_put oj (fun cs b => hsel j oj cs b hoj) a oi.dst v p1
        split
        · rename_i hw
          rw [if_pos hw] at h1
          split
          · rename_i hEj
            rw [if_pos hEj] at h1
            unfold goes at *
            rw [he] at h1
            refine goesUpon_mono (fun u w' ⟨c, k⟩ => ⟨c, u, c hjN, rfl, ?_⟩) h1
            rw [Act.put_comm a v u p2] at k
            exact k
          · rename_i hEj
            rw [if_neg hEj] at h1
            obtain ⟨hcj, u, hq, k⟩ := h1
            refine ⟨hcj, u, fun w' hw' => ?_, u, hC, rfl, ?_⟩
            · have := hq w' hw'
              unfold Oper.quietAt at *
              rwa [he] at this
            · rw [Act.put_comm a v u p2] at k
              exact k
        · rename_i hw
          rw [if_neg hw] at h1
          refine ⟨undef, hC, rfl, ?_⟩
          rw [Act.put_comm a v undef p2] at h1
          exact h1
      refine mOp_mono (fun a' w' ⟨u, hC', ha', h3⟩ => ?_) hback
      subst ha'
      rw [if_neg hjN]
      refine ih (listed.setIfInBounds j true) _ w' hC' hWun' hfree' (ready_mono hr (Ne.symm hji)) ?_ ?_
      · refine hy.of_same (execOp_put oi (fun cs b => hsel i oi cs b hi) a oj.dst u p3) (wanted_put oi a oj.dst u p3)
      · rw [Array.setIfInBounds_comm _ _ hji]
        exact h3
theorem any_first_goes {Q : Act → World → Prop} {i : Nat} {oi : Oper} (hi : ops[i]? = some oi) (W : Nat → Prop)
    (hWw : ∀ j, W j → j ≠ i → ∃ o e, ops[j]? = some o ∧ e ∈ o.after ∧ Region.binds md e = true ∧ W e.on) (hWN : ops[N]? = none ∨ W N)
    (hcb : ∀ j oj, ops[j]? = some oj → ¬ W j → E.contains j = false → callB oj = false)
    (hsel : ∀ (j : Nat) (o : Oper) cs b, ops[j]? = some o → o.op ≠ .select cs b) (w : World) (hC : C w) :
    ∀ (fuel : Nat) (listed : Array Bool) (a : Act),
      (∀ j, W j → listed.getD j true = false) →
      (∀ j oj, ops[j]? = some oj → ¬ W j → listed.getD j true = false → oi.apart ops oj = true ∧ E.contains j = false) →
      i ∈ Region.ready md ops listed →
      mOp P ops C E N i (fun a' w' => if i = N then Region.ready md ops (listed.setIfInBounds i true) = [] ∧ Q a' w' else any P md ops C E N Q fuel (listed.setIfInBounds i true) a' w') a w →
      any P md ops C E N Q (fuel + 1) listed a w := by
  intro fuel
  induction fuel with
  | zero =>
    intro listed a _ _ hr H
    refine ⟨fun h => (by rw [h] at hr; cases hr), fun j hj => ?_⟩
    by_cases hji : j = i
    · subst hji; exact H
    · obtain ⟨v, w', H'⟩ := mOp_ex hi H
      have := ready_mono hj hji
      split at H'
      · rw [H'.1] at this; cases this
      · rw [H'.1] at this; cases this
  | succ fuel ih =>
    intro listed a hWun hfree hr H
    refine ⟨fun h => (by rw [h] at hr; cases hr), fun j hj => ?_⟩
    by_cases hji : j = i
    · subst hji; exact H
    · obtain ⟨hjun, oj, hoj, hall⟩ := mem_ready.1 hj
      have hjE : j ∈ Region.ready md ops (listed.setIfInBounds i true) := ready_mono hj hji
      have hnW : ¬ W j := fun hW => by
        obtain ⟨o, e, ho, he, hb, hWe⟩ := hWw j hW hji
        rw [hoj] at ho
        cases ho
        have h1 := hall e he hb
        have h0 := hWun _ hWe
        rcases Nat.lt_or_ge e.on listed.size with h' | h'
        · simp [h'] at h0 h1; rw [h0] at h1; cases h1
        · simp [Array.getElem?_eq_none h'] at h1
      have hjN : j ≠ N := fun e => by
        subst e
        rcases hWN with h' | h'
        · rw [hoj] at h'; cases h'
        · exact hnW h'
      obtain ⟨hap, hEj⟩ := hfree j oj hoj hnW hjun
      obtain ⟨p1, p2, p3⟩ := Oper.apart_spec hap
      have hcj := hcb j oj hoj hnW hEj
      have hsj := fun cs b => hsel j oj cs b hoj
      by_cases hiN : i = N
      · obtain ⟨v0, w0, H0⟩ := mOp_ex hi H
        rw [if_pos hiN] at H0
        rw [H0.1] at hjE
        cases hjE
      have H : mOp P ops C E N i (any P md ops C E N Q (fuel + 1) (listed.setIfInBounds i true)) a w := by
        simpa only [if_neg hiN] using H
      obtain ⟨v0, w0, H0⟩ := mOp_ex hi H
      obtain ⟨vj, hyj, _⟩ := yields_of_mOp hoj hEj (H0.2 j hjE)
      have hyj := (yields_apart (u := v0) hap hsj).1 hyj
      refine mOp_of_yields hoj hEj hcj hyj ?_
      rw [if_neg hjN]
      refine ih (listed.setIfInBounds j true) _ (fun k hk => ?_) (fun k ok hok hnk hun => ?_) (ready_mono hr (Ne.symm hji)) ?_
      · have hkj : j ≠ k := fun e => hnW (e ▸ hk)
        rw [getD_set_ne true hkj]
        exact hWun k hk
      · refine hfree k ok hok hnk ?_
        by_cases hjk : j = k
        · subst hjk; exact hjun
        · rw [getD_set_ne true hjk] at hun; exact hun
      · refine mOp_apart hi hap (fun cs b => hsel i oi cs b hi) H (fun v w' k => ?_)
        rw [if_neg hiN]
        obtain ⟨vj', hyj', k'⟩ := yields_of_mOp hoj hEj (k.2 j hjE)
        rw [if_neg hjN] at k'
        have hyj' := (yields_apart (u := v) hap hsj).1 hyj'
        have he := yields_uniq hC hyj' hyj hcj
        subst he
        rw [Act.put_comm a v vj' p2] at k'
        rw [Array.setIfInBounds_comm _ _ hji]
        exact k'
def clos (md : Region.Mode) (ops : Array Oper) (i : Nat) : Nat → List Nat
  | 0 => []
  | n + 1 => if n = i then n :: clos md ops i n else
      match ops[n]? with
      | some o => if o.after.any (fun e => Region.binds md e && (clos md ops i n).contains e.on) then n :: clos md ops i n else clos md ops i n
      | none => clos md ops i n
theorem clos_succ {i n j : Nat} (h : j ∈ clos md ops i n) : j ∈ clos md ops i (n + 1) := by
  unfold clos
  split
  · exact List.mem_cons_of_mem _ h
  · split
    · split
      · exact List.mem_cons_of_mem _ h
      · exact h
    · exact h
theorem clos_ge {i : Nat} : ∀ n j, j ∈ clos md ops i n → i ≤ j ∧ j < n
  | 0, j, h => by simp [clos] at h
  | n + 1, j, h => by
    unfold clos at h
    split at h
    · rename_i e
      rcases List.mem_cons.1 h with h | h
      · omega
      · have := clos_ge n j h; omega
    · split at h
      · split at h
        · rename_i o ho hany
          rcases List.mem_cons.1 h with h | h
          · subst h
            obtain ⟨e, he, hb⟩ := Array.any_eq_true'.1 hany
            simp only [Bool.and_eq_true, List.contains_iff_mem] at hb
            have := clos_ge j e.on hb.2
            omega
          · have := clos_ge n j h; omega
        · have := clos_ge n j h; omega
      · have := clos_ge n j h; omega
theorem clos_waits {i : Nat} : ∀ n j, j ∈ clos md ops i n → j ≠ i → ∃ o e, ops[j]? = some o ∧ e ∈ o.after ∧ Region.binds md e = true ∧ e.on ∈ clos md ops i n
  | 0, j, h, _ => by simp [clos] at h
  | n + 1, j, h, hne => by
    have up : (j ∈ clos md ops i n) → ∃ o e, ops[j]? = some o ∧ e ∈ o.after ∧ Region.binds md e = true ∧ e.on ∈ clos md ops i (n + 1) := fun h => by
      obtain ⟨o, e, h1, h2, h3, h4⟩ := clos_waits n j h hne
      exact ⟨o, e, h1, h2, h3, clos_succ h4⟩
    have h0 := h
    unfold clos at h
    split at h
    · rename_i e
      rcases List.mem_cons.1 h with h | h
      · exact absurd (h.trans e) hne
      · exact up h
    · split at h
      · split at h
        · rename_i o ho hany
          rcases List.mem_cons.1 h with h | h
          · subst h
            obtain ⟨e, he, hb⟩ := Array.any_eq_true'.1 hany
            simp only [Bool.and_eq_true, List.contains_iff_mem] at hb
            exact ⟨o, e, ho, he, hb.1, clos_succ hb.2⟩
          · exact up h
        · exact up h
      · exact up h
theorem clos_self {i n : Nat} (h : i < n) : i ∈ clos md ops i n := by
  induction n with
  | zero => omega
  | succ n ih =>
    by_cases e : n = i
    · subst e; unfold clos; simp
    · exact clos_succ (ih (by omega))
def orderB (md : Region.Mode) (ops : Array Oper) (E : List Nat) (N : Nat) : Bool :=
  E.all (fun i => decide (i < ops.size) && E.all fun j => decide (j ≤ i) || (clos md ops i ops.size).contains j) &&
  ((List.range ops.size).all fun j => E.contains j || ((ops[j]?).map fun o => !callB o).getD true) &&
  (decide (ops.size ≤ N) || (decide (N + 1 = ops.size) && E.contains N && (List.range ops.size).all fun j => (clos md ops j ops.size).contains N))
def freeE (md : Region.Mode) (ops : Array Oper) (E : List Nat) : Bool :=
  E.all fun i => match ops[i]? with
    | none => false
    | some oi => (List.range ops.size).all fun j => decide (j ≤ i) || (clos md ops i ops.size).contains j || ((ops[j]?).map fun oj => oi.apart ops oj).getD true
theorem any_lex {Q : Act → World → Prop} (hs : Region.noSelect ops = true) (hO : orderB md ops E N = true) (hF : freeE md ops E = true) :
    ∀ (l : List Oper) (k : Nat) (listed : Array Bool) (a : Act) (w : World), C w → (∀ j, l[j]? = ops[k + j]?) → k + l.length = ops.size →
    (∀ j, k ≤ j → j < ops.size → listed.getD j true = false) → (∀ j, j < k → listed.getD j true = true) →
    Region.lexFrom md ops l.length k listed = true → lex P ops C E N Q k l a w → any P md ops C E N Q l.length listed a w
  | [], _, _, _, _, _, _, _, _, _, hB, h => ⟨by simpa [Region.lexFrom] using hB, h⟩
  | o :: l, k, listed, a, w, hC, hl, hlen, hun, hdone, hB, h => by
    have h0 : ops[k]? = some o := by simpa using (hl 0).symm
    have hkl : k < ops.size := by simp at hlen; omega
    simp only [List.length_cons, Region.lexFrom, Bool.and_eq_true] at hB
    obtain ⟨⟨hr, hf⟩, hB'⟩ := hB
    have hsel := Region.noSelect_spec hs
    have hr' : k ∈ Region.ready md ops listed := by simpa using hr
    have hO' := hO
    simp only [orderB, Bool.and_eq_true, List.all_eq_true, Bool.or_eq_true, decide_eq_true_eq, List.mem_range] at hO
    obtain ⟨⟨hO1, hO2⟩, hO3⟩ := hO
    have hcb : ∀ j oj, ops[j]? = some oj → E.contains j = false → callB oj = false := fun j oj hoj hE => by
      have hjl : j < ops.size := (Array.getElem?_eq_some_iff.1 hoj).1
      rcases hO2 j hjl with h | h
      · rw [hE] at h; cases h
      · simpa [hoj] using h
    have hWN : ops[N]? = none ∨ N ∈ clos md ops k ops.size := by
      rcases hO3 with h | ⟨_, h⟩
      · exact .inl (Array.getElem?_eq_none h)
      · exact .inr (by simpa using h k hkl)
    have hl' : ∀ j, l[j]? = ops[(k + 1) + j]? := fun j => by have := hl (j + 1); simpa [Nat.add_assoc, Nat.add_comm 1 j] using this
    have hun' : ∀ j, k + 1 ≤ j → j < ops.size → (listed.setIfInBounds k true).getD j true = false := fun j h1 h2 => by
      rw [getD_set_ne true (by omega)]; exact hun j (by omega) h2
    have hdone' : ∀ j, j < k + 1 → (listed.setIfInBounds k true).getD j true = true := fun j h1 => by
      by_cases e : k = j
      · subst e
        by_cases hs' : k < listed.size
        · simp [hs']
        · simp [Nat.not_lt.1 hs']
      · rw [getD_set_ne true e]; exact hdone j (by omega)
    have hm : mOp P ops C E N k (lex P ops C E N Q (k + 1) l) a w := by unfold mOp; simp only [h0]; exact h
    have hWun : ∀ j, j ∈ clos md ops k ops.size → listed.getD j true = false := fun j hj => by
      have := clos_ge _ j hj
      exact hun j this.1 this.2
    cases hE : E.contains k with
    | false =>
      obtain ⟨v, hy, hK⟩ := yields_of_mOp h0 hE hm
      have hkN : k ≠ N := fun e => by
        rcases hO3 with h | ⟨⟨_, h⟩, _⟩
        · omega
        · rw [← e, hE] at h; cases h
      exact any_first_quiet h0 hE (hcb k o h0 hE) hkN (fun j => j ∈ clos md ops k ops.size) (fun j hj hne => clos_waits _ j hj hne) hWN hsel l.length listed a w hC hWun (Region.free_spec h0 hf) hr' hy
        (any_lex hs hO' hF l (k + 1) _ _ w hC hl' (by simp at hlen; omega) hun' hdone' hB' hK)
    | true =>
      have hkE : k ∈ E := by simpa using hE
      have hO1k := hO1 k hkE
      have hFk := (List.all_eq_true.1 hF) k hkE
      simp only [h0, List.all_eq_true, List.mem_range, Bool.or_eq_true, decide_eq_true_eq, List.contains_iff_mem] at hFk
      refine any_first_goes h0 (fun j => j ∈ clos md ops k ops.size) (fun j hj hne => clos_waits _ j hj hne) hWN
        (fun j oj hoj _ hEj => hcb j oj hoj hEj) hsel w hC l.length listed a hWun (fun j oj hoj hnW hunj => ?_) hr' ?_
      · have hjl : j < ops.size := (Array.getElem?_eq_some_iff.1 hoj).1
        have hkj : k ≤ j := by
          rcases Nat.lt_or_ge j k with h' | h'
          · rw [hdone j h'] at hunj; cases hunj
          · exact h'
        have hne : j ≠ k := fun e => hnW (by rw [e]; exact clos_self hkl)
        refine ⟨?_, ?_⟩
        · rcases hFk j hjl with (h' | h') | h'
          · omega
          · exact absurd h' hnW
          · simpa [hoj] using h'
        · cases hEj : E.contains j with
          | false => rfl
          | true =>
            have := hO1k
            simp only [decide_eq_true_eq, List.contains_iff_mem, Bool.and_eq_true, List.all_eq_true, Bool.or_eq_true] at this
            rcases this.2 j (by simpa using hEj) with h' | h'
            · omega
            · exact absurd h' hnW
      ·
        have after : ∀ a' w', (k ≠ N → C w') → lex P ops C E N Q (k + 1) l a' w' →
            (if k = N then Region.ready md ops (listed.setIfInBounds k true) = [] ∧ Q a' w' else any P md ops C E N Q l.length (listed.setIfInBounds k true) a' w') := fun a' w' c hK => by
          by_cases hkN : k = N
          · rw [if_pos hkN]
            have hnil : l = [] := by
              apply List.eq_nil_of_length_eq_zero
              rcases hO3 with h | ⟨⟨h, _⟩, _⟩
              · omega
              · simp at hlen; omega
            subst hnil
            exact ⟨by simpa [Region.lexFrom] using hB', hK⟩
          · rw [if_neg hkN]
            exact any_lex hs hO' hF l (k + 1) _ _ w' (c hkN) hl' (by simp at hlen; omega) hun' hdone' hB' hK
        unfold mOp at hm ⊢
        simp only [h0] at hm ⊢
        unfold step at hm ⊢
        split
        · rename_i hw
          rw [if_pos hw, if_pos hE] at hm
          exact goesUpon_mono (fun v w' ⟨c, hK⟩ => ⟨c, after _ w' c hK⟩) hm
        · rename_i hw
          rw [if_neg hw] at hm
          exact after _ w (fun _ => hC) hm
theorem wpOp_of_mOp {Q : Exit → Act → World → Prop} {i : Nat} {a : Act} {w : World} {K K' : Act → World → Prop} (hC : C w) (h : ∀ a w, (i ≠ N → C w) → K a w → K' a w) (hh : mOp P ops C E N i K a w) : wpOp P ops Q i K' a w := by
  unfold mOp at hh
  unfold wpOp
  split
  · rename_i e; simp only [e] at hh; exact h _ _ (fun _ => hC) hh
  · rename_i o e
    simp only [e] at hh
    unfold step at hh
    split
    · rename_i hw
      rw [if_pos hw] at hh
      refine .inl ?_
      split at hh
      · exact wp_of_goes (fun v w' ⟨c, k⟩ => h _ _ c k) hh
      · obtain ⟨hc, v, hq, k⟩ := hh
        have hv := hq w hC
        have hn := fun f args w' => exec_noEnter (P := P) hc (ρ := a.eval) (w := w) (w' := w') (f := f) (args := args)
        unfold Oper.quietAt at hv
        unfold Oper.wp
        generalize (execOp a.eval o).run P w = r at *
        unfold Oper.quietUpon at hv
        split at hv
        · obtain ⟨e1, e2⟩ := hv; subst e1; subst e2; exact h _ _ (fun _ => hC) k
        · obtain ⟨e1, e2⟩ := hv; subst e1; subst e2; exact h _ _ (fun _ => hC) k
        · exact absurd rfl (hn _ _ _)
        · exact hv.elim
    · rename_i hw
      rw [if_neg hw] at hh
      exact h _ _ (fun _ => hC) hh
theorem wpAny_done {Q' : Exit → Act → World → Prop} {listed : Array Bool} {a : Act} {w : World} (hr : Region.ready md ops listed = []) (hQ : Q' .normal a w) : ∀ fuel, wpAny P md ops Q' fuel listed a w
  | 0 => ⟨hr, hQ⟩
  | _ + 1 => ⟨fun _ => hQ, fun i hi => by rw [hr] at hi; cases hi⟩
theorem wpAny_of_any {Q' : Exit → Act → World → Prop} : ∀ (fuel : Nat) (listed : Array Bool) (a : Act) (w : World), C w →
    any P md ops C E N (fun a w => Q' .normal a w) fuel listed a w → wpAny P md ops Q' fuel listed a w
  | 0, _, _, _, _, h => h
  | fuel + 1, _, _, _, hw, h => ⟨h.1, fun i hi => wpOp_of_mOp hw (fun a' w' hC' k => by
      by_cases hiN : i = N
      · rw [if_pos hiN] at k
        exact wpAny_done k.1 k.2 fuel
      · rw [if_neg hiN] at k
        exact wpAny_of_any fuel _ a' w' (hC' hiN) k) (h.2 i hi)⟩
theorem wpList_of_lex {Q : Exit → Act → World → Prop} : ∀ (k : Nat) (l : List Oper) (a : Act) (w : World), C w → k + l.length ≤ N + 1 →
    lex P ops C E N (fun a w => Q .normal a w) k l a w → wpList P ops Q l a w
  | _, [], _, _, _, _, h => h
  | k, o :: rest, a, w, hC, hN, h => by
    simp only [List.length_cons] at hN
    have on : ∀ a' w', (k ≠ N → C w') → lex P ops C E N (fun a w => Q .normal a w) (k + 1) rest a' w' → wpList P ops Q rest a' w' := fun a' w' c h' => by
      by_cases hkN : k = N
      · have hnil : rest = [] := List.eq_nil_of_length_eq_zero (by omega)
        subst hnil
        exact h'
      · exact wpList_of_lex (k + 1) rest a' w' (c hkN) (by omega) h'
    unfold lex step at h
    unfold wpList
    split
    · rename_i hw
      rw [if_pos hw] at h
      refine .inl ?_
      split at h
      · exact wp_of_goes (fun v w' ⟨c, k⟩ => on _ w' c k) h
      · obtain ⟨hc, v, hq, k'⟩ := h
        have hv := hq w hC
        have hn := fun f args w' => exec_noEnter (P := P) hc (ρ := a.eval) (w := w) (w' := w') (f := f) (args := args)
        have hk := on _ w (fun _ => hC) k'
        unfold Oper.quietAt at hv
        unfold Oper.wp
        generalize (execOp a.eval o).run P w = r at *
        unfold Oper.quietUpon at hv
        split at hv
        · obtain ⟨e1, e2⟩ := hv; subst e1; subst e2; exact hk
        · obtain ⟨e1, e2⟩ := hv; subst e1; subst e2; exact hk
        · exact absurd rfl (hn _ _ _)
        · exact hv.elim
    · rename_i hw
      rw [if_neg hw] at h
      exact on _ w (fun _ => hC) h
theorem wp_draw {id : Nat} {Q : Exit → Act → World → Prop} {a : Act} {w : World} {l : List Oper} (E : List Nat) (N : Nat) (C : World → Prop) (hm : P.follows .mixedOrders = true)
    (hB : (Region.lexB .any l.toArray && orderB .any l.toArray E N && freeE .any l.toArray E) = true) (hC : C w.drew)
    (h : lex P l.toArray C E N (fun a' w' => Q .normal a' w') 0 l a w.drew) : (Code.region id l.toArray true).wp P Q a w := by
  simp only [Bool.and_eq_true] at hB
  obtain ⟨⟨hB, hO⟩, hF⟩ := hB
  simp only [Region.lexB, Bool.and_eq_true] at hB
  refine wp_region_any hm (wpAny_of_any (C := C) (E := E) (N := N) _ _ _ _ hC ?_)
  have := any_lex (C := C) (E := E) (N := N) (md := .any) hB.1 hO hF l 0 (Array.replicate l.toArray.size false) a w.drew hC (by simp) (by simp) (fun j _ hj => by simp at hj; simp [hj]) (fun j hj => by omega) (by simpa using hB.2) h
  simpa using this
theorem wp_plain {id : Nat} {Q : Exit → Act → World → Prop} {a : Act} {w : World} {l : List Oper} (E : List Nat) (C : World → Prop) (hC : C w)
    (h : lex P l.toArray C E (l.length - 1) (fun a' w' => Q .normal a' w') 0 l a w) : (Code.region id l.toArray false).wp P Q a w :=
  wp_region_lit (wpList_of_lex 0 l a w hC (by omega) h)
end
section
variable {P : Program} {ops : Array Oper} {C : World → Prop} {E : List Nat} {N : Nat}
variable {Q : Act → World → Prop} {k : Nat} {o : Oper} {l : List Oper} {a : Act} {w : World}
theorem lex_nil (h : Q a w) : lex P ops C E N Q k [] a w := h
theorem lex_skip (hw : Region.wanted o (yielded ops a.tmps) = false) (h : lex P ops C E N Q (k + 1) l (a.put o.dst undef) w) : lex P ops C E N Q k (o :: l) a w := by
  unfold lex step
  rw [if_neg (by rw [hw]; exact Bool.false_ne_true)]
  exact h
theorem lex_quiet (hw : Region.wanted o (yielded ops a.tmps) = true) (hE : E.contains k = false) (hc : callB o = false)
    (h : ∀ K : Act → Prop, (∀ a', lex P ops C E N Q (k + 1) l a' w → K a') → o.quiet P a C K) : lex P ops C E N Q k (o :: l) a w := by
  unfold lex step
  rw [if_pos hw, if_neg (by rw [hE]; exact Bool.false_ne_true)]
  exact ⟨hc, h _ fun _ h => h⟩
theorem lex_goes (hw : Region.wanted o (yielded ops a.tmps) = true) (hE : E.contains k = true)
    (h : ∀ K : Value → World → Prop, (∀ v w', (k ≠ N → C w') → lex P ops C E N Q (k + 1) l (a.put o.dst v) w' → K v w') → goes P o a w K) : lex P ops C E N Q k (o :: l) a w := by
  unfold lex step
  rw [if_pos hw, if_pos hE]
  exact h _ fun _ _ h1 h2 => ⟨h1, h2⟩
theorem wanted_none (hg : o.guard = none) : Region.wanted o (yielded ops a.tmps) = true := by simp [Region.wanted, hg]
theorem yielded_at {j dj : Nat} {v : Value} (hj : (ops[j]?).bind (·.dst) = some dj) (hv : a.tmps.toList[dj]? = some v) : yielded ops a.tmps j = (match v with | .bool b => some b | _ => none) := by
  rw [Array.getElem?_toList] at hv
  unfold yielded
  simp only [hj, hv, Option.bind_some]
  cases v <;> rfl
theorem lex_quiet0 (hg : o.guard = none) (hE : E.contains k = false) (hc : callB o = false)
    (h : ∀ K : Act → Prop, (∀ a', lex P ops C E N Q (k + 1) l a' w → K a') → o.quiet P a C K) : lex P ops C E N Q k (o :: l) a w := lex_quiet (wanted_none hg) hE hc h
theorem lex_quietG {j dj : Nat} {want : Bool} {v : Value} (hg : o.guard = some (j, want)) (hj : (ops[j]?).bind (·.dst) = some dj) (hv : a.tmps.toList[dj]? = some v) (hw : v = .bool want)
    (hE : E.contains k = false) (hc : callB o = false) (h : ∀ K : Act → Prop, (∀ a', lex P ops C E N Q (k + 1) l a' w → K a') → o.quiet P a C K) : lex P ops C E N Q k (o :: l) a w :=
  lex_quiet (by subst hw; simp [Region.wanted, hg, yielded_at hj hv]) hE hc h
theorem lex_goes0 (hg : o.guard = none) (hE : E.contains k = true)
    (h : ∀ K : Value → World → Prop, (∀ v w', (k ≠ N → C w') → lex P ops C E N Q (k + 1) l (a.put o.dst v) w' → K v w') → goes P o a w K) : lex P ops C E N Q k (o :: l) a w := lex_goes (wanted_none hg) hE h
theorem lex_goesG {j dj : Nat} {want : Bool} {v : Value} (hg : o.guard = some (j, want)) (hj : (ops[j]?).bind (·.dst) = some dj) (hv : a.tmps.toList[dj]? = some v) (hw : v = .bool want)
    (hE : E.contains k = true) (h : ∀ K : Value → World → Prop, (∀ v w', (k ≠ N → C w') → lex P ops C E N Q (k + 1) l (a.put o.dst v) w' → K v w') → goes P o a w K) : lex P ops C E N Q k (o :: l) a w :=
  lex_goes (by subst hw; simp [Region.wanted, hg, yielded_at hj hv]) hE h
theorem lex_skipT {j dj : Nat} {v : Value} (hg : o.guard = some (j, true)) (hj : (ops[j]?).bind (·.dst) = some dj) (hv : a.tmps.toList[dj]? = some v) (hw : v = .bool false)
    (h : lex P ops C E N Q (k + 1) l (a.put o.dst undef) w) : lex P ops C E N Q k (o :: l) a w :=
  lex_skip (by subst hw; simp [Region.wanted, hg, yielded_at hj hv]) h
theorem lex_skipF {j dj : Nat} {v : Value} (hg : o.guard = some (j, false)) (hj : (ops[j]?).bind (·.dst) = some dj) (hv : a.tmps.toList[dj]? = some v) (hw : v = .bool true)
    (h : lex P ops C E N Q (k + 1) l (a.put o.dst undef) w) : lex P ops C E N Q k (o :: l) a w :=
  lex_skip (by subst hw; simp [Region.wanted, hg, yielded_at hj hv]) h
theorem lex_skipU {j dj : Nat} {want : Bool} {v : Value} (hg : o.guard = some (j, want)) (hj : (ops[j]?).bind (·.dst) = some dj) (hv : a.tmps.toList[dj]? = some v) (hw : v = undef)
    (h : lex P ops C E N Q (k + 1) l (a.put o.dst undef) w) : lex P ops C E N Q k (o :: l) a w :=
  lex_skip (by subst hw; simp [Region.wanted, hg, yielded_at hj hv, undef]) h
theorem lex_part {j dj : Nat} {want b : Bool} (_hE : E.contains k = false) (_hg : o.guard = some (j, want)) (_hj : (ops[j]?).bind (·.dst) = some dj) (hv : a.tmps.toList[dj]? = some (.bool b))
    (h1 : b = true → lex P ops C E N Q k (o :: l) (a.put (some dj) (.bool true)) w)
    (h2 : b = false → lex P ops C E N Q k (o :: l) (a.put (some dj) (.bool false)) w) : lex P ops C E N Q k (o :: l) a w := by
  rw [Array.getElem?_toList] at hv
  cases b with
  | true => have := h1 rfl; rwa [put_same hv] at this
  | false => have := h2 rfl; rwa [put_same hv] at this
theorem wpList_guarded {Q : Exit → Act → World → Prop} {l : List Oper} (_hg : (l.any fun o => o.guard.isSome) = true)
    (h : lex P ops (fun w' => w' = w) [] l.length (fun a' w' => Q .normal a' w') 0 l a w) : wpList P ops Q l a w :=
  wpList_of_lex (C := fun w' => w' = w) 0 l a w rfl (by omega) h
theorem wp_still {id : Nat} {Q : Exit → Act → World → Prop} {l : List Oper} (hm : P.follows .mixedOrders = true)
    (hB : (Region.lexB .any l.toArray && orderB .any l.toArray [] l.length && freeE .any l.toArray []) = true)
    (h : lex P l.toArray (fun w' => w' = w.drew) [] l.length (fun a' w' => Q .normal a' w') 0 l a w.drew) : (Code.region id l.toArray true).wp P Q a w :=
  wp_draw [] l.length (fun w' => w' = w.drew) hm hB rfl h
end
attribute [go_sem] goes goesUpon
attribute [irreducible] lex step
end Mix
structure Flat (α : Type) where
  size : Nat
  enc : α → List Value
  len : ∀ x, (enc x).length = size
abbrev File := Str × Str
def strF : Flat Str := ⟨1, fun s => [S s], fun _ => rfl⟩
def fileF : Flat File := ⟨2, fun f => [S f.1, S f.2], fun _ => rfl⟩
def SlR {α : Type} (T : Flat α) (w : World) (A : Option Addr) (n : Nat) (xs : List α) : Prop :=
  xs.length = n ∧ (0 < n → ∃ b o, A = some ⟨b, o, none⟩ ∧ b < w.heap.size ∧ ∀ k x, xs[k]? = some x → ∀ j u, (T.enc x)[j]? = some u → w.cell? ⟨b, o + k * T.size + j, none⟩ = some u)
section
variable {α : Type} {T : Flat α} {w v : World} {A : Option Addr} {n : Nat} {xs : List α}
theorem SlR.get (h : SlR T w A n xs) {k : Nat} (hk : k < n) : ∃ b o x, A = some ⟨b, o, none⟩ ∧ b < w.heap.size ∧ xs[k]? = some x ∧
    ∀ j u, (T.enc x)[j]? = some u → w.cell? ⟨b, o + k * T.size + j, none⟩ = some u := by
  obtain ⟨b, o, e, hb, hc⟩ := h.2 (by omega)
  have hl : k < xs.length := by rw [h.1]; exact hk
  exact ⟨b, o, xs[k], e, hb, List.getElem?_eq_getElem hl, hc k _ (List.getElem?_eq_getElem hl)⟩
theorem SlR.none_ : SlR T w none 0 [] := ⟨rfl, fun h => absurd h (by omega)⟩
theorem SlR.nil_ (h : SlR T w A 0 xs) : xs = [] := List.eq_nil_of_length_eq_zero h.1
theorem SlR.keep (h : SlR T w A n xs) (hs : w.heap.size ≤ v.heap.size) (hk : ∀ p : Addr, p.block < w.heap.size → v.cell? p = w.cell? p) : SlR T v A n xs :=
  ⟨h.1, fun hn => by
    obtain ⟨b, o, e, hb, hc⟩ := h.2 hn
    exact ⟨b, o, e, by omega, fun k x hx j u hu => (hk _ hb).trans (hc k x hx j u hu)⟩⟩
theorem SlR.ext (h : SlR T w A n xs) (hx : Ext w v) : SlR T v A n xs := h.keep hx.size fun _ hp => hx.cell hp id
end
theorem files_get {w : World} {A : Option Addr} {n : Nat} {xs : List File} (h : SlR fileF w A n xs) {k : Nat} (hk : k < n) :
    ∃ b o f, A = some ⟨b, o, none⟩ ∧ xs[k]? = some f ∧ (∀ ξ : X w No, ξ.v.cell? ⟨b, o + k * 2, none⟩ = some (S f.1)) ∧ (∀ ξ : X w No, ξ.v.cell? ⟨b, o + k * 2 + 1, none⟩ = some (S f.2)) := by
  obtain ⟨b, o, x, e, hb, hx, hc⟩ := h.get hk
  exact ⟨b, o, x, e, hx, fun ξ => (ξ.h.cell hb id).trans (hc 0 _ rfl), fun ξ => (ξ.h.cell hb id).trans (hc 1 _ rfl)⟩
theorem strs_get {w : World} {A : Option Addr} {n : Nat} {xs : List Str} (h : SlR strF w A n xs) {k : Nat} (hk : k < n) :
    ∃ b o s, A = some ⟨b, o, none⟩ ∧ xs[k]? = some s ∧ (∀ ξ : X w No, ξ.v.cell? ⟨b, o + k, none⟩ = some (S s)) := by
  obtain ⟨b, o, x, e, hb, hx, hc⟩ := h.get hk
  exact ⟨b, o, x, e, hx, fun ξ => (ξ.h.cell hb id).trans (by simpa [strF] using hc 0 _ rfl)⟩
theorem take_grow {α : Type} {xs ys : List α} {k : Nat} {x y : α} (h : xs.take k = ys.take k) (hx : xs[k]? = some x) (hy : ys[k]? = some y) (e : x = y) : xs.take (k + 1) = ys.take (k + 1) := by
  rw [List.take_add_one, List.take_add_one, h, hx, hy, e]
theorem ne_at {α : Type} {xs ys : List α} {k : Nat} {x y : α} (hx : xs[k]? = some x) (hy : ys[k]? = some y) (e : x ≠ y) : xs ≠ ys := by
  intro h; subst h; rw [hx] at hy; exact e (Option.some.inj hy)
theorem eq_of_take {α : Type} {xs ys : List α} {k n : Nat} (h : xs.take k = ys.take k) (hx : xs.length = n) (hy : ys.length = n) (hk : n ≤ k) : xs = ys := by
  rw [List.take_of_length_le (by omega), List.take_of_length_le (by omega)] at h; exact h
theorem ret_bool {a b : Bool} (h : a = b) : Ending.returned (.bool a) = .returned (.bool b) := by rw [h]
open Go Go.RowKit Go.ChangeShapes Go.WideShapes Go.Deep
section
variable {H : Type} {enc : TypeId × Value → H} {P : Program} {w : World} {base : Nat} {spare : Nat → Bool} {held : Bool}
theorem list_of {α : Type} : ∀ (n : Nat) (R : Nat → α → Prop), (∀ i, i < n → ∃ x, R i x) → ∃ xs : List α, xs.length = n ∧ ∀ k x, xs[k]? = some x → R k x
  | 0, _, _ => ⟨[], rfl, fun k x h => by simp at h⟩
  | n + 1, R, h => by
    obtain ⟨xs, hl, hx⟩ := list_of n R fun i hi => h i (by omega)
    obtain ⟨y, hy⟩ := h n (by omega)
    refine ⟨xs ++ [y], by simp [hl], fun k x hk => ?_⟩
    by_cases hkn : k < n
    · rw [List.getElem?_append_left (by omega)] at hk; exact hx k x hk
    · have : k = n := by
        have := (List.getElem?_eq_some_iff.1 hk).1
        simp [hl] at this; omega
      subst this
      rw [List.getElem?_append_right (by omega)] at hk
      simp [hl] at hk
      subst hk; exact hy
theorem open_fields {t e : TypeId} {fs : Array Field} {fuel : Nat} {v0 : Value} {x : DataW H × List MemPlace} (ht : P.underlying t = some (.slice e)) (he : P.underlying e = some (.struct fs))
    (hone : oneCellFields P fs = true) (hC : P.cellsOf e = fs.size) (h : DataW.trod enc P w base (fun _ => true) held fuel t [v0] = some x) :
    v0 = .slice none 0 0 ∨
    ∃ (a : Addr) (len cap : Nat), v0 = .slice (some a) len cap ∧ len ≤ cap ∧ cap ≤ maxLen ∧
      ∀ i, i < cap → ∃ n, ∀ (j : Nat) (f : Field), fs[j]? = some f → ∃ (v : Value) (y : DataW H × List MemPlace), w.cell? (a.add (i * fs.size + j)) = some v ∧ DataW.trod enc P w base (fun _ => true) held n f.type [v] = some y := by
  rcases open_slice ht h with ⟨h0, _⟩ | ⟨a, len, cap, m, n, D, Pl, hcs, _, hl, hm, hmm, _, hi⟩
  · injection h0 with h0; exact .inl h0
  · injection hcs with hcs
    refine .inr ⟨a, len, cap, hcs, hl, hm, fun i hi' => ?_⟩
    obtain ⟨cs', hc, ht'⟩ := hi i (by simpa [hmm] using hi')
    rw [hC] at hc
    obtain ⟨ys, n', hn', hy, hlen, hyl, hf⟩ := DataW.trod_struct he ht'
    obtain ⟨_, hcl, hat⟩ := World.cells?_some hc
    refine ⟨n', fun j f hj => ?_⟩
    obtain ⟨ho, hk⟩ := hone_of hone j f hj
    have hjl : j < fs.size := (Array.getElem?_eq_some_iff.1 hj).1
    have hcell := hat j hjl
    have hv : cs'[j]? = some (cs'[j]'(by omega)) := List.getElem?_eq_getElem (by omega)
    have h1 := hf j f hj
    rw [ho, hk] at h1
    have hone' : (cs'.drop j).take 1 = [cs'[j]'(by omega)] := by
      rw [List.drop_eq_getElem_cons (by omega)]
      rfl
    rw [hone'] at h1
    have hys : ys[j]? = some (ys[j]'(by omega)) := List.getElem?_eq_getElem (by omega)
    refine ⟨_, _, ?_, h1.trans hys⟩
    rw [← Go.Deep.add_add, hcell, hv]
theorem open_flat {α : Type} {T : Flat α} {t e : TypeId} {fs : Array Field} {fuel : Nat} {v0 : Value} {x : DataW H × List MemPlace} (ht : P.underlying t = some (.slice e)) (he : P.underlying e = some (.struct fs))
    (hone : oneCellFields P fs = true) (hC : P.cellsOf e = fs.size) (hT : fs.size = T.size) (hpos : 0 < T.size) (good : α → Prop)
    (dec : ∀ (n : Nat) (c : Nat → Option Value), (∀ (j : Nat) (f : Field), fs[j]? = some f → ∃ (v : Value) (y : DataW H × List MemPlace), c j = some v ∧ DataW.trod enc P w base (fun _ => true) held n f.type [v] = some y) →
      ∃ x : α, good x ∧ ∀ j u, (T.enc x)[j]? = some u → c j = some u)
    (h : DataW.trod enc P w base (fun _ => true) held fuel t [v0] = some x) :
    ∃ A n c xs, v0 = .slice A n c ∧ SlR T w A n xs ∧ (∀ x ∈ xs, good x) ∧ n ≤ maxLen := by
  rcases open_fields ht he hone hC h with rfl | ⟨a, len, cap, rfl, hl, hm, hf⟩
  · exact ⟨none, 0, 0, [], rfl, SlR.none_, (fun x hx => by cases hx), Nat.zero_le _⟩
  · obtain ⟨xs, hxl, hx⟩ := list_of len (fun i x => good x ∧ ∀ j u, (T.enc x)[j]? = some u → w.cell? (a.add (i * fs.size + j)) = some u) fun i hi => by
      obtain ⟨n, hn⟩ := hf i (by omega)
      exact dec n (fun j => w.cell? (a.add (i * fs.size + j))) hn
    refine ⟨some a, len, cap, xs, rfl, ⟨hxl, fun h0 => ?_⟩, fun x hx' => ?_, by omega⟩
    · have hx0 := hx 0 (xs[0]'(by omega)) (List.getElem?_eq_getElem (by omega))
      have hlen := T.len (xs[0]'(by omega))
      have h0' := hx0.2 0 ((T.enc (xs[0]'(by omega)))[0]'(by omega)) (List.getElem?_eq_getElem (by omega))
      obtain ⟨b, o, s⟩ := a
      have hs : s = none := by simpa [Addr.add] using World.cell?_spot h0'
      subst hs
      refine ⟨b, o, rfl, by simpa [Addr.add] using World.block_lt_of_cell? _ _ h0', fun k x hk j u hu => ?_⟩
      have := (hx k x hk).2 j u hu
      rw [hT] at this
      rw [Nat.add_assoc]
      by_cases hz : k * T.size + j = 0
      · rw [hz] at this ⊢
        simpa [Addr.add] using this
      · unfold Addr.add at this
        rw [if_neg hz] at this
        exact this
    · obtain ⟨k, hk⟩ := List.getElem?_of_mem hx'
      exact (hx k x hk).1
theorem open_str {t : TypeId} {n : Nat} {v : Value} {y : DataW H × List MemPlace} (ht : P.underlying t = some .string) (h : DataW.trod enc P w base spare held n t [v] = some y) : ∃ s : Str, v = S s ∧ s.length ≤ maxLen := by
  obtain ⟨s, hc, _, hl⟩ := DataW.trod_string ht h
  injection hc with hc
  exact ⟨s.data.toList, by rw [hc], hl⟩
end
open Go Go.RowKit Go.ChangeShapes Go.WideShapes Go.Deep
section
variable {H : Type} {enc : TypeId × Value → H} {w : World} {base : Nat} {held : Bool}
abbrev allP : Nat → Bool := fun _ => true
set_option maxRecDepth 100000 in
theorem arg_str {r : Reach} {b0 : Nat} {v : Value} {d : DataW H} {p : List MemPlace} (hv : Value.okWide Tryz.prog w r b0 9 v) (h : DataW.Trod enc Tryz.prog w base allP held 9 v d p) :
    ∃ s : Str, v = S s ∧ s.length ≤ maxLen := by
  obtain ⟨s, rfl⟩ := okWide_string Tryz.underlying9 hv
  obtain ⟨fuel, hf⟩ := h
  exact open_str Tryz.underlying9 (v := .string s) hf
end
open Go Go.RowKit Go.ChangeShapes Go.WideShapes Go.Deep
section
variable {H : Type} {enc : TypeId × Value → H} {w : World} {base : Nat} {held : Bool}
set_option maxRecDepth 100000 in
theorem open_files {fuel : Nat} {v0 : Value} {x : DataW H × List MemPlace} (h : DataW.trod enc Tryz.prog w base allP held fuel 22 [v0] = some x) :
    ∃ A n c xs, v0 = .slice A n c ∧ SlR fileF w A n xs ∧ n ≤ maxLen := by
  obtain ⟨A, n, c, xs, h1, h2, _, h3⟩ := open_flat (T := fileF) Tryz.underlying22 Tryz.underlying75 (by kernel_rfl) (by kernel_rfl) rfl (by decide) (fun x => x.1.length ≤ maxLen ∧ x.2.length ≤ maxLen) (fun n c hf => by
    obtain ⟨v0, y0, c0, h0⟩ := hf 0 _ rfl
    obtain ⟨v1, y1, c1, h1⟩ := hf 1 _ rfl
    obtain ⟨s0, rfl, l0⟩ := open_str Tryz.underlying9 h0
    obtain ⟨s1, rfl, l1⟩ := open_str Tryz.underlying9 h1
    refine ⟨(s0, s1), ⟨l0, l1⟩, fun j u hu => ?_⟩
    match j, hu with
    | 0, hu => injection hu with hu; rw [c0, hu]
    | 1, hu => injection hu with hu; rw [c1, hu]) h
  exact ⟨A, n, c, xs, h1, h2, h3⟩
set_option maxRecDepth 100000 in
theorem arg_files {r : Reach} {b0 : Nat} {v : Value} {d : DataW H} {p : List MemPlace} (hv : Value.okWide Tryz.prog w r b0 22 v) (h : DataW.Trod enc Tryz.prog w base allP held 22 v d p) :
    ∃ A n c xs, v = .slice A n c ∧ SlR fileF w A n xs ∧ n ≤ maxLen := by
  obtain ⟨A, n, c, rfl⟩ := okWide_slice Tryz.underlying22 hv
  obtain ⟨fuel, hf⟩ := h
  exact open_files (v0 := .slice A n c) hf
end
open Go Go.RowKit Go.ChangeShapes Go.WideShapes Go.Deep
end Go.Proofs.YtnhaekifcieeoaaGreatDoor
