/- Put together: Base, Ml, OpenM, Door. -/
import Derived.WalkKit
import Derived.ProofKit
import Derived.OpenShut
import Derived.WalkLawsBesides
import Derived.WalkSpells
import Derived.Lib.Hide
import Derived.BigQuiet
import Derived.Deep.QuietTactic
import Derived.Outline
import Derived.Deep.DeepCutAuto
import Derived.Laws.StructEq
import Derived.Test.YtnhaekifcieeoaaGreatDoorProg
import Derived.HandedShaped
import Derived.Shelf.Vars
import Derived.ShutString
import Derived.ChangeOld
import Derived.Below
import Derived.LaidMore
import Derived.Lay
import Derived.Handed
import Derived.SevenTiedAt
import Derived.Stop.Joined
/- Words that are used in all texts of this claim: worlds that extend a world, quiet regions in that class, slices that read as lists. -/
namespace Go.Proofs.YtnhaekifcieeoaaGreatDoor
open Go Go.RowKit
section
variable {P : Program} {ops : Array Oper} {C : World → Prop}
theorem put_same {a : Act} {d : Nat} {v : Value} (h : a.tmps[d]? = some v) : a.put (some d) v = a := by
  have : a.tmps.setIfInBounds d v = a.tmps := by
    rw [Array.getElem?_eq_some_iff] at h
    obtain ⟨hl, hv⟩ := h
    subst hv
    apply Array.ext
    · simp
    · intro i h1 h2
      rw [Array.getElem_setIfInBounds]
      split
      · rename_i e; subst e; rfl
      · rfl
  unfold Act.put
  simp [this]
theorem wpQuiet_part {Q : Act → Prop} {a : Act} {o : Oper} {rest : List Oper} {j dj : Nat} {want b : Bool}
    (_hg : o.guard = some (j, want)) (_hj : (ops[j]?).bind (·.dst) = some dj) (hv : a.tmps[dj]? = some (.bool b))
    (h1 : b = true → wpQuiet P ops C Q (o :: rest) (a.put (some dj) (.bool true)))
    (h2 : b = false → wpQuiet P ops C Q (o :: rest) (a.put (some dj) (.bool false))) : wpQuiet P ops C Q (o :: rest) a := by
  cases b with
  | true => have := h1 rfl; rwa [put_same hv] at this
  | false => have := h2 rfl; rwa [put_same hv] at this
/-- A region that does not draw, all of whose operations are quiet in the very world. -/
theorem wpList_of_quiet {Q : Exit → Act → World → Prop} {w : World} : ∀ (l : List Oper) (a : Act),
    wpQuiet P ops (fun w' => w' = w) (fun a' => Q .normal a' w) l a → wpList P ops Q l a w
  | [], _, h => h
  | o :: rest, a, h => by
    unfold wpQuiet at h
    unfold wpList
    split
    · rename_i hw
      rw [if_pos hw] at h
      exact .inl (Oper.wp_of_quiet (C := fun w' => w' = w) rfl (fun a' w' e hK => by subst e; exact wpList_of_quiet rest a' hK) h)
    · rename_i hw
      rw [if_neg hw] at h
      exact wpList_of_quiet rest _ h
theorem wp_region_still_lit {id : Nat} {Q : Exit → Act → World → Prop} {a : Act} {w : World} {l : List Oper}
    (h : wpQuiet P l.toArray (fun w' => w' = w) (fun a' => Q .normal a' w) l a) : (Code.region id l.toArray false).wp P Q a w :=
  wp_region_lit (wpList_of_quiet l a h)
end
abbrev Str := List UInt8
abbrev S (l : Str) : Value := .string ⟨l.toArray⟩
theorem S_append (x y : Str) : (⟨x.toArray⟩ ++ ⟨y.toArray⟩ : ByteArray) = ⟨(x ++ y).toArray⟩ := by
  apply ByteArray.ext
  simp
attribute [go_sem] S_append
theorem getElem_S (s : Str) (k : Nat) (h : k < s.length) (h' : k < (⟨s.toArray⟩ : ByteArray).size) : (⟨s.toArray⟩ : ByteArray)[k]'h' = s[k] := rfl
attribute [go_sem] getElem_S
/-- 'v' is 'w' but for blocks of 'F' and new blocks. -/
structure Only (F : Nat → Prop) (w v : World) : Prop where
  os : v.os = w.os
  tape : v.tape = w.tape
  output : v.output = w.output
  size : w.heap.size ≤ v.heap.size
  block : ∀ b, b < w.heap.size → ¬ F b → v.heap[b]? = w.heap[b]?
/-- No block that was there is written. -/
abbrev No : Nat → Prop := fun _ => False
abbrev Ext (w v : World) : Prop := Only No w v
section
variable {F G : Nat → Prop} {w u v : World}
theorem Only.refl (F : Nat → Prop) (w : World) : Only F w w := ⟨rfl, rfl, rfl, Nat.le_refl _, fun _ _ _ => rfl⟩
theorem Only.weak (h : Only F w v) (hF : ∀ b, b < w.heap.size → F b → G b) : Only G w v := ⟨h.os, h.tape, h.output, h.size, fun b hb hn => h.block b hb fun hf => hn (hF b hb hf)⟩
theorem Only.any (h : Ext w v) : Only F w v := h.weak fun _ _ h => h.elim
theorem Only.trans (h : Only F w u) (k : Only G u v) (hG : ∀ b, b < w.heap.size → G b → F b) : Only F w v :=
  ⟨k.os.trans h.os, k.tape.trans h.tape, k.output.trans h.output, Nat.le_trans h.size k.size,
   fun b hb hn => (k.block b (Nat.lt_of_lt_of_le hb h.size) fun hg => hn (hG b hb hg)).trans (h.block b hb hn)⟩
theorem Only.then_ext (h : Only F w u) (k : Ext u v) : Only F w v := h.trans k fun _ _ h => h.elim
theorem Only.drew (h : Only F w v) : Only F w v.drew := ⟨h.os, h.tape, h.output, h.size, h.block⟩
theorem Only.drewN (h : Only F w v) (n : Nat) : Only F w (v.drewN n) := ⟨h.os, h.tape, h.output, h.size, h.block⟩
theorem Only.alloc (h : Only F w v) (o : Obj) : Only F w (v.alloc o) :=
  h.trans (G := No) ⟨rfl, rfl, rfl, by simp, fun b hb _ => Below.heap_alloc _ _ _ hb⟩ fun _ _ h => h.elim
theorem Only.setCell (h : Only F w v) {p : Addr} (hp : w.heap.size ≤ p.block ∨ F p.block) (x : Value) : Only F w (v.setCell p x) :=
  h.trans (G := fun b => b = p.block) ⟨rfl, rfl, rfl, by simp [World.setCell], fun b _ hn => Below.heap_setCell _ _ _ _ hn⟩ fun b hb e => by
    subst e
    rcases hp with hp | hp
    · omega
    · exact hp
theorem Only.at_ {g : Nat} (h : Only (· = g) w v) (i : Nat) (x : Value) : Only (· = g) w (v.setCell ⟨g, i, none⟩ x) := h.setCell (p := ⟨g, i, none⟩) (.inr rfl) x
theorem Only.grown {row : Option Nat} (h : Only F w u) (hg : u.grownBy v row) (hr : ∀ g, row = some g → w.heap.size ≤ g ∨ F g) : Only F w v :=
  h.trans (G := fun b => some b = row) ⟨hg.os, hg.tape, hg.output, hg.size, fun b hb hn => hg.block b hb hn⟩ fun b hb e => by
    rcases hr b e.symm with hp | hp
    · omega
    · exact hp
theorem Only.below (h : Below w.heap.size w v) : Ext w v := ⟨h.os, h.tape, h.output, h.size, fun b hb _ => h.block b hb⟩
theorem Only.toBelow (h : Ext w v) : Below w.heap.size w v :=
  ⟨h.os, h.tape, h.output, h.size, fun b hb => h.block b hb id⟩
theorem Only.cell (h : Only F w v) {p : Addr} (hp : p.block < w.heap.size) (hn : ¬ F p.block) : v.cell? p = w.cell? p := World.cell?_of_block (w := w) (h.block p.block hp hn)
theorem Only.frozen (h : Only F w v) {p : Addr} (hp : p.block < w.heap.size) (hn : ¬ F p.block) : v.frozen? p = w.frozen? p := World.frozen?_of_block (w := w) (h.block p.block hp hn)
end
/-- The worlds that are 'w' but for blocks of 'F' and new blocks. -/
structure X (w : World) (F : Nat → Prop) where
  v : World
  h : Only F w v
section
variable {w : World} {F : Nat → Prop}
def X.here (w : World) (F : Nat → Prop) : X w F := ⟨w, Only.refl _ _⟩
instance X.has (w : World) (F : Nat → Prop) : Nonempty (X w F) := ⟨X.here w F⟩
def X.on (ξ : X w F) {v : World} (h : Ext ξ.v v) : X w F := ⟨v, ξ.h.then_ext h⟩
theorem X.lt (ξ : X w F) {b : Nat} (h : b < w.heap.size) : b < ξ.v.heap.size := Nat.lt_of_lt_of_le h ξ.h.size
/-- The class of worlds of a region. -/
abbrev Cl (w : World) (F : Nat → Prop) : World → Prop := fun w' => ∃ ξ : X w F, w' = ξ.v
theorem Cl.here : Cl w F w := ⟨X.here w F, rfl⟩
theorem Cl.drew_ (ξ : X w F) : Cl w F ξ.v.drew := ⟨⟨ξ.v.drew, ξ.h.drew⟩, rfl⟩
theorem Cl.of {v : World} (h : Only F w v) : Cl w F v := ⟨⟨v, h⟩, rfl⟩
end
end Go.Proofs.YtnhaekifcieeoaaGreatDoor

/- The library's variable that strings.Index reads. -/
namespace Go.Proofs.YtnhaekifcieeoaaGreatDoor
open Go Go.RowKit
/-- The library's variable internal/bytealg.MaxLen holds some number. -/
def Ml (w : World) : Prop := ∃ m, w.cell? ⟨0, 0, none⟩ = some (.int .i64 m)
theorem Ml.only {w v : World} {F : Nat → Prop} (h : Ml w) (hx : Only F w v) (hF : ¬ F 0) : Ml v := by
  obtain ⟨m, hm⟩ := h
  exact ⟨m, (hx.cell (World.block_lt_of_cell? _ _ hm) hF).trans hm⟩
theorem Ml.ext {w v : World} (h : Ml w) (hx : Ext w v) : Ml v := h.only hx id
end Go.Proofs.YtnhaekifcieeoaaGreatDoor

/- The library's variable that strings.Index reads holds some number in every world that a claim speaks of. -/
namespace Go.Proofs.YtnhaekifcieeoaaGreatDoor
open Go Go.RowKit
set_option maxRecDepth 100000 in
theorem ml_shaped {W : World} (h : W.ShapedOpen Tryz.prog) : Ml W :=
  cell_of_shapedOpen_int (t := 3) (zero := #[.int .i64 0]) h (of_decide_eq_true (by kernel_rfl)) (by kernel_rfl) rfl (by kernel_rfl) (by kernel_rfl) Tryz.underlying3
end Go.Proofs.YtnhaekifcieeoaaGreatDoor

/- The frame of a law whose row lists variables: what is handed to the walk is the shape of the world, and what the listed variables hold. -/
namespace Go.Proofs.YtnhaekifcieeoaaGreatDoor
open Go Go.RowKit Go.ChangeShapes Go.WideShapes Go.ChangeAt
section
variable {H : Type} {enc : TypeId × Value → H}
theorem handed_and_shaped {a : Assume} {C : Checked} {os : Os} {f : FuncId} {fn : Func} {s : ChangeSpec} {conds : List PathCond} {apart fresh handsOn again : Bool} {X : World → Array Value → Prop}
    (hX : ∀ (w w' : World) (args : Array Value), w.heap = w'.heap → X w args → X w' args)
    (own : ownKnob C.prog.godebug = none) (started : os.Started) (noInit : C.prog.inits.idxOf? f = none) (hfn : C.prog.funcs[f]? = some fn)
    (witness : ∃ (w : World) (tape : Tape) (i : Input), w.os = os ∧ (w.forCall tape i).Shaped C.prog ∧ i.vars = [] ∧ Input.okWide C.prog (w.forCall tape i) .any w.heap.size f i ∧
      ((s.pre enc C.prog fn conds apart (w.forCall tape i).memory i.args ∧ X (w.forCall tape i).memory i.args) ∧ sizedMet enc C.prog fn (OpenSpec.ofChange s) apart (w.forCall tape i).memory i.args) ∧ a.holds C.prog (lone (Frame.enter C.prog f i.args .normal) [] (w.forCall tape i)))
    (contract : ∀ (W : World) (base : Nat) (args : Array Value) (ds gs : List (DataW H)) (before : List MemPlace),
      (∀ (j : Nat) t v, fn.params[j]? = some t → args[j]? = some v → Value.okWide C.prog W .any base t v) →
      DataW.Whole enc C.prog fn.params.toList s.vars apart W args.toList ds gs before →
      W.ShapedOpen C.prog → X W args →
      Calls C.prog f args W fun e W' => ∃ v, e = .returned v ∧ s.post enc C.prog fn apart fresh handsOn again W args v W') :
    ReturnsInHanded a C os f .any (fun w args => (s.pre enc C.prog fn conds apart w args ∧ X w args) ∧ sizedMet enc C.prog fn (OpenSpec.ofChange s) apart w args) (s.post enc C.prog fn apart fresh handsOn again) := by
  refine returnsInHanded_of_calls own started noInit witness ?_
  intro w tape i _ hsh _ hok hpre hholds
  obtain ⟨_, _, _, fn', hfn', _, _, _, _, hval⟩ := hok
  have e : fn' = fn := Option.some.inj (hfn'.symm.trans hfn)
  subst e
  obtain ⟨⟨⟨ds, gs, before, hw, hc⟩, hx⟩, hz⟩ := hpre
  have hw' := DataW.Whole.of_heap (w' := w.forCall tape i) (by rfl) hw
  refine (contract (w.forCall tape i) w.heap.size i.args ds gs before hval hw' hsh (hX _ _ _ (by rfl) hx)).mono fun e W' ⟨v, he, hp⟩ => ?_
  subst he
  exact ChangeSpec.post_blind hp
end
end Go.Proofs.YtnhaekifcieeoaaGreatDoor
