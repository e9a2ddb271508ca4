/- Words that are used in all texts of this claim: worlds that extend a world, quiet regions in that class, slices that read as lists. -/
import Derived.WalkKit
import Derived.ProofKit
import Derived.OpenShut
import Derived.WalkLawsBesides
import Derived.WalkSpells
import Derived.Lib.Hide
import Derived.BigQuiet
import Derived.Deep.QuietTactic
import Derived.Outline
import Derived.Deep.DeepCutAuto
import Derived.Laws.StructEq
namespace Go.Proofs.Ytnhaekifcieeoaa
open Go Go.RowKit
section
variable {P : Program} {ops : Array Oper} {C : World → Prop}
theorem put_same {a : Act} {d : Nat} {v : Value} (h : a.tmps[d]? = some v) : a.put (some d) v = a := by
  have : a.tmps.setIfInBounds d v = a.tmps := by
    rw [Array.getElem?_eq_some_iff] at h
    obtain ⟨hl, hv⟩ := h
    subst hv
    apply Array.ext
    · simp
    · intro i h1 h2
      rw [Array.getElem_setIfInBounds]
      split
      · rename_i e; subst e; rfl
      · rfl
  unfold Act.put
  simp [this]
theorem wpQuiet_part {Q : Act → Prop} {a : Act} {o : Oper} {rest : List Oper} {j dj : Nat} {want b : Bool}
    (_hg : o.guard = some (j, want)) (_hj : (ops[j]?).bind (·.dst) = some dj) (hv : a.tmps[dj]? = some (.bool b))
    (h1 : b = true → wpQuiet P ops C Q (o :: rest) (a.put (some dj) (.bool true)))
    (h2 : b = false → wpQuiet P ops C Q (o :: rest) (a.put (some dj) (.bool false))) : wpQuiet P ops C Q (o :: rest) a := by
  cases b with
  | true => have := h1 rfl; rwa [put_same hv] at this
  | false => have := h2 rfl; rwa [put_same hv] at this
/-- A region that does not draw, all of whose operations are quiet in the very world. -/
theorem wpList_of_quiet {Q : Exit → Act → World → Prop} {w : World} : ∀ (l : List Oper) (a : Act),
    wpQuiet P ops (fun w' => w' = w) (fun a' => Q .normal a' w) l a → wpList P ops Q l a w
  | [], _, h => h
  | o :: rest, a, h => by
    unfold wpQuiet at h
    unfold wpList
    split
    · rename_i hw
      rw [if_pos hw] at h
      exact .inl (Oper.wp_of_quiet (C := fun w' => w' = w) rfl (fun a' w' e hK => by subst e; exact wpList_of_quiet rest a' hK) h)
    · rename_i hw
      rw [if_neg hw] at h
      exact wpList_of_quiet rest _ h
theorem wp_region_still_lit {id : Nat} {Q : Exit → Act → World → Prop} {a : Act} {w : World} {l : List Oper}
    (h : wpQuiet P l.toArray (fun w' => w' = w) (fun a' => Q .normal a' w) l a) : (Code.region id l.toArray false).wp P Q a w :=
  wp_region_lit (wpList_of_quiet l a h)
end
abbrev Str := List UInt8
abbrev S (l : Str) : Value := .string ⟨l.toArray⟩
theorem S_append (x y : Str) : (⟨x.toArray⟩ ++ ⟨y.toArray⟩ : ByteArray) = ⟨(x ++ y).toArray⟩ := by
  apply ByteArray.ext
  simp
attribute [go_sem] S_append
theorem getElem_S (s : Str) (k : Nat) (h : k < s.length) (h' : k < (⟨s.toArray⟩ : ByteArray).size) : (⟨s.toArray⟩ : ByteArray)[k]'h' = s[k] := rfl
attribute [go_sem] getElem_S
/-- 'v' is 'w' but for blocks of 'F' and new blocks. -/
structure Only (F : Nat → Prop) (w v : World) : Prop where
  os : v.os = w.os
  tape : v.tape = w.tape
  output : v.output = w.output
  size : w.heap.size ≤ v.heap.size
  block : ∀ b, b < w.heap.size → ¬ F b → v.heap[b]? = w.heap[b]?
/-- No block that was there is written. -/
abbrev No : Nat → Prop := fun _ => False
abbrev Ext (w v : World) : Prop := Only No w v
section
variable {F G : Nat → Prop} {w u v : World}
theorem Only.refl (F : Nat → Prop) (w : World) : Only F w w := ⟨rfl, rfl, rfl, Nat.le_refl _, fun _ _ _ => rfl⟩
theorem Only.weak (h : Only F w v) (hF : ∀ b, b < w.heap.size → F b → G b) : Only G w v := ⟨h.os, h.tape, h.output, h.size, fun b hb hn => h.block b hb fun hf => hn (hF b hb hf)⟩
theorem Only.any (h : Ext w v) : Only F w v := h.weak fun _ _ h => h.elim
theorem Only.trans (h : Only F w u) (k : Only G u v) (hG : ∀ b, b < w.heap.size → G b → F b) : Only F w v :=
  ⟨k.os.trans h.os, k.tape.trans h.tape, k.output.trans h.output, Nat.le_trans h.size k.size,
   fun b hb hn => (k.block b (Nat.lt_of_lt_of_le hb h.size) fun hg => hn (hG b hb hg)).trans (h.block b hb hn)⟩
theorem Only.then_ext (h : Only F w u) (k : Ext u v) : Only F w v := h.trans k fun _ _ h => h.elim
theorem Only.drew (h : Only F w v) : Only F w v.drew := ⟨h.os, h.tape, h.output, h.size, h.block⟩
theorem Only.drewN (h : Only F w v) (n : Nat) : Only F w (v.drewN n) := ⟨h.os, h.tape, h.output, h.size, h.block⟩
theorem Only.alloc (h : Only F w v) (o : Obj) : Only F w (v.alloc o) :=
  h.trans (G := No) ⟨rfl, rfl, rfl, by simp, fun b hb _ => Below.heap_alloc _ _ _ hb⟩ fun _ _ h => h.elim
theorem Only.setCell (h : Only F w v) {p : Addr} (hp : w.heap.size ≤ p.block ∨ F p.block) (x : Value) : Only F w (v.setCell p x) :=
  h.trans (G := fun b => b = p.block) ⟨rfl, rfl, rfl, by simp [World.setCell], fun b _ hn => Below.heap_setCell _ _ _ _ hn⟩ fun b hb e => by
    subst e
    rcases hp with hp | hp
    · omega
    · exact hp
theorem Only.at_ {g : Nat} (h : Only (· = g) w v) (i : Nat) (x : Value) : Only (· = g) w (v.setCell ⟨g, i, none⟩ x) := h.setCell (p := ⟨g, i, none⟩) (.inr rfl) x
theorem Only.grown {row : Option Nat} (h : Only F w u) (hg : u.grownBy v row) (hr : ∀ g, row = some g → w.heap.size ≤ g ∨ F g) : Only F w v :=
  h.trans (G := fun b => some b = row) ⟨hg.os, hg.tape, hg.output, hg.size, fun b hb hn => hg.block b hb hn⟩ fun b hb e => by
    rcases hr b e.symm with hp | hp
    · omega
    · exact hp
theorem Only.below (h : Below w.heap.size w v) : Ext w v := ⟨h.os, h.tape, h.output, h.size, fun b hb _ => h.block b hb⟩
theorem Only.toBelow (h : Ext w v) : Below w.heap.size w v :=
  ⟨h.os, h.tape, h.output, h.size, fun b hb => h.block b hb id⟩
theorem Only.cell (h : Only F w v) {p : Addr} (hp : p.block < w.heap.size) (hn : ¬ F p.block) : v.cell? p = w.cell? p := World.cell?_of_block (w := w) (h.block p.block hp hn)
theorem Only.frozen (h : Only F w v) {p : Addr} (hp : p.block < w.heap.size) (hn : ¬ F p.block) : v.frozen? p = w.frozen? p := World.frozen?_of_block (w := w) (h.block p.block hp hn)
end
/-- The worlds that are 'w' but for blocks of 'F' and new blocks. -/
structure X (w : World) (F : Nat → Prop) where
  v : World
  h : Only F w v
section
variable {w : World} {F : Nat → Prop}
def X.here (w : World) (F : Nat → Prop) : X w F := ⟨w, Only.refl _ _⟩
instance X.has (w : World) (F : Nat → Prop) : Nonempty (X w F) := ⟨X.here w F⟩
def X.on (ξ : X w F) {v : World} (h : Ext ξ.v v) : X w F := ⟨v, ξ.h.then_ext h⟩
theorem X.lt (ξ : X w F) {b : Nat} (h : b < w.heap.size) : b < ξ.v.heap.size := Nat.lt_of_lt_of_le h ξ.h.size
/-- The class of worlds of a region. -/
abbrev Cl (w : World) (F : Nat → Prop) : World → Prop := fun w' => ∃ ξ : X w F, w' = ξ.v
theorem Cl.here : Cl w F w := ⟨X.here w F, rfl⟩
theorem Cl.drew_ (ξ : X w F) : Cl w F ξ.v.drew := ⟨⟨ξ.v.drew, ξ.h.drew⟩, rfl⟩
theorem Cl.of {v : World} (h : Only F w v) : Cl w F v := ⟨⟨v, h⟩, rfl⟩
end
end Go.Proofs.Ytnhaekifcieeoaa
