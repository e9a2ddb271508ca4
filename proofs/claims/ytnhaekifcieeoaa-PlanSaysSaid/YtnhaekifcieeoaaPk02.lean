/- Put together: Ord, FilesL, RcM, OpenR, Mp, Own, Own2, Own3, Txt, Fnd, CutB, Cut, Exp, Spl, Clone, Strs. -/
import Derived.Test.YtnhaekifcieeoaaPk01
import Derived.Lib.Bytealg
import Derived.Test.YtnhaekifcieeoaaPkS
import Derived.Maps.OwnSet
import Derived.Maps.Views
import Derived.Carry
import Derived.Lib.AppendZerosOnto
import Derived.Lib.Overlaps
import Derived.RangeFuncNested
import Derived.RangeFuncBound
import Derived.RangeFuncCalls
import Derived.RangeFuncLeaves
import Derived.RangeFuncBox
import Derived.Shelf.Abstract
import Derived.WalkKit
import Derived.OwnWalkIn
import Derived.TacticsInMore
import Derived.LoopNIn
import Derived.LoopIn
import Derived.Test.YtnhaekifcieeoaaProg
import Derived.Lib.IndexMore
import Derived.Lib.SplitLaws
namespace Go.Proofs.Ytnhaekifcieeoaa
open Go Go.RowKit
theorem slt_trans {a b c : Str} (h : a < b) (k : b < c) : a < c := List.lt_trans h k
theorem slt_irrefl (a : Str) : ¬ a < a := List.lt_irrefl a
theorem slt_asymm {a b : Str} (h : a < b) : ¬ b < a := List.lt_asymm h
theorem sle_iff {a b : Str} : a ≤ b ↔ ¬ b < a := List.not_lt.symm
theorem seq_of {a b : Str} (h : ¬ a < b) (k : ¬ b < a) : a = b := List.le_antisymm (List.not_lt.1 k) (List.not_lt.1 h)
theorem slt_of_le_ne {a b : Str} (h : a ≤ b) (k : a ≠ b) : a < b := by
  by_cases hl : a < b
  · exact hl
  · exact absurd (seq_of hl (sle_iff.1 h)) k
theorem slt_ne {a b : Str} (h : a < b) : a ≠ b := fun e => slt_irrefl b (e ▸ h)
theorem sle_lt_trans {a b c : Str} (h : a ≤ b) (k : b < c) : a < c := by
  by_cases e : a = b
  · exact e ▸ k
  · exact slt_trans (slt_of_le_ne h e) k
theorem cmp_cases : ∀ a b : Str, (Lib.compareBytes a b = -1 ∧ a < b) ∨ (Lib.compareBytes a b = 0 ∧ a = b) ∨ (Lib.compareBytes a b = 1 ∧ b < a)
  | [], [] => .inr (.inl ⟨rfl, rfl⟩)
  | [], _ :: _ => .inl ⟨rfl, by simp⟩
  | _ :: _, [] => .inr (.inr ⟨rfl, by simp⟩)
  | x :: a, y :: b => by
    unfold Lib.compareBytes
    by_cases h : x < y
    · exact .inl ⟨if_pos h, List.cons_lt_cons_iff.2 (.inl h)⟩
    · rw [if_neg h]
      by_cases h' : y < x
      · exact .inr (.inr ⟨if_pos h', List.cons_lt_cons_iff.2 (.inl h')⟩)
      · rw [if_neg h']
        obtain rfl : x = y := UInt8.le_antisymm (UInt8.not_lt.1 h') (UInt8.not_lt.1 h)
        rcases cmp_cases a b with ⟨h1, h2⟩ | ⟨h1, h2⟩ | ⟨h1, h2⟩
        · exact .inl ⟨h1, List.cons_lt_cons_iff.2 (.inr ⟨rfl, h2⟩)⟩
        · exact .inr (.inl ⟨h1, by rw [h2]⟩)
        · exact .inr (.inr ⟨h1, List.cons_lt_cons_iff.2 (.inr ⟨rfl, h2⟩)⟩)
def cmpS (a b : Str) : Int := Lib.compareBytes a b
theorem cmpS_lt (a b : Str) : decide (cmpS a b < 0) = decide (a < b) := by
  unfold cmpS
  rcases cmp_cases a b with ⟨h1, h2⟩ | ⟨h1, h2⟩ | ⟨h1, h2⟩ <;> rw [h1]
  · simp [h2]
  · subst h2; simp [slt_irrefl]
  · simp [slt_asymm h2]
theorem cmpS_eq (a b : Str) : (cmpS a b == 0) = decide (a = b) := by
  unfold cmpS
  rcases cmp_cases a b with ⟨h1, h2⟩ | ⟨h1, h2⟩ | ⟨h1, h2⟩ <;> rw [h1]
  · simp [slt_ne h2]
  · simp [h2]
  · simp [(slt_ne h2).symm]
theorem bytesLess_eq : ∀ a b : Str, Op.bytesLess a b = decide (a < b)
  | [], [] => by simp [Op.bytesLess]
  | [], _ :: _ => by simp [Op.bytesLess]
  | _ :: _, [] => by simp [Op.bytesLess]
  | x :: a, y :: b => by
    unfold Op.bytesLess
    rw [bytesLess_eq a b, Bool.eq_iff_iff]
    simp [List.cons_lt_cons_iff]
def ltB (a b : Str) : Bool := decide (a < b)
def leB (a b : Str) : Bool := decide (a ≤ b)
theorem ltB_true {a b : Str} (h : ltB a b = true) : a < b := of_decide_eq_true h
theorem leB_true {a b : Str} (h : leB a b = true) : a ≤ b := of_decide_eq_true h
theorem leB_false {a b : Str} (h : leB a b = false) : b < a := by
  have := of_decide_eq_false h
  rw [sle_iff] at this
  exact Classical.not_not.1 this
theorem toList_loop (b : ByteArray) (i : Nat) (r : List UInt8) : ByteArray.toList.loop b i r = r.reverse ++ b.data.toList.drop i := by
  rw [ByteArray.toList.loop]
  split
  · rename_i h
    rw [toList_loop b (i+1)]
    have hi : i < b.data.toList.length := by simpa using h
    rw [List.drop_eq_getElem_cons hi]
    have : b.get! i = b.data.toList[i] := by
      simp [ByteArray.get!]
      rw [getElem!_pos b.data i (by simpa using hi)]
    simp [this]
  · rename_i h
    rw [List.drop_eq_nil_of_le (by simpa using h)]; simp
termination_by b.size - i
theorem toList_S (a : List UInt8) : ByteArray.toList ⟨a.toArray⟩ = a := by
  unfold ByteArray.toList
  rw [toList_loop]; simp
@[go_sem high] theorem lss_S (t : TypeId) (a b : Str) : binOp .lss t (.string ⟨a.toArray⟩) (.string ⟨b.toArray⟩) = pure (.bool (ltB a b)) := by
  simp [binOp, Op.stringOp, toList_S, bytesLess_eq, ltB]
@[go_sem high] theorem leq_S (t : TypeId) (a b : Str) : binOp .leq t (.string ⟨a.toArray⟩) (.string ⟨b.toArray⟩) = pure (.bool (leB a b)) := by
  have : (decide (a < b) || a == b) = leB a b := by
    unfold leB
    rw [Bool.eq_iff_iff]
    simp only [Bool.or_eq_true, decide_eq_true_eq, beq_iff_eq]
    constructor
    · rintro (h | rfl)
      · exact sle_iff.2 (slt_asymm h)
      · exact sle_iff.2 (slt_irrefl _)
    · intro h
      by_cases e : a = b
      · exact .inr e
      · exact .inl (slt_of_le_ne h e)
  simp [binOp, Op.stringOp, toList_S, bytesLess_eq, this]
section
variable {α : Type} (key : α → Str)
def Rise (l : List α) : Prop := l.Pairwise fun a b => key a < key b
def posOf (l : List α) (k : Str) : Nat := (l.takeWhile fun x => ltB (key x) k).length
variable {key}
theorem Rise.at_lt {l : List α} (h : Rise key l) {i j : Nat} (hij : i < j) {x y : α} (hx : l[i]? = some x) (hy : l[j]? = some y) : key x < key y := by
  obtain ⟨hi, rfl⟩ := List.getElem?_eq_some_iff.1 hx
  obtain ⟨hj, rfl⟩ := List.getElem?_eq_some_iff.1 hy
  exact List.pairwise_iff_getElem.1 h i j hi hj hij
theorem posOf_le (l : List α) (k : Str) : posOf key l k ≤ l.length := by
  unfold posOf
  induction l with
  | nil => simp
  | cons x l ih =>
    rw [List.takeWhile_cons]
    split
    · simp; exact ih
    · simp
theorem posOf_of {l : List α} {k : Str} {i : Nat} (hi : i ≤ l.length) (h1 : ∀ j x, j < i → l[j]? = some x → key x < k) (h2 : ∀ x, l[i]? = some x → ¬ key x < k) : posOf key l k = i := by
  unfold posOf
  induction l generalizing i with
  | nil => simp at hi; simp [hi]
  | cons x l ih =>
    rw [List.takeWhile_cons]
    cases i with
    | zero =>
      have : ltB (key x) k = false := decide_eq_false (h2 x rfl)
      simp [this]
    | succ i =>
      have : ltB (key x) k = true := decide_eq_true (h1 0 x (by omega) rfl)
      simp only [this, if_true, List.length_cons]
      rw [ih (by simpa using hi) (fun j y hj hy => h1 (j + 1) y (by omega) (by simpa using hy)) (fun y hy => h2 y (by simpa using hy))]
end
def hasAt {α : Type} (key : α → Str) (l : List α) (k : Str) : Bool := match l[posOf key l k]? with | some x => decide (key x = k) | none => false
section
variable {α : Type} (key : α → Str)
def putL (f : α) : List α → List α
  | [] => [f]
  | x :: l => if leB (key f) (key x) then f :: (x :: l).filter (fun y => decide (key y ≠ key f)) else x :: putL f l
def dropL (k : Str) (l : List α) : List α := l.filter fun y => decide (key y ≠ k)
def getL (k : Str) (l : List α) : Option α := l.find? fun y => decide (key y = k)
variable {key}
theorem posOf_cons_lt {x : α} {l : List α} {k : Str} (h : key x < k) : posOf key (x :: l) k = posOf key l k + 1 := by
  unfold posOf
  rw [List.takeWhile_cons, if_pos (show ltB (key x) k = true from decide_eq_true h)]
  rfl
theorem posOf_cons_ge {x : α} {l : List α} {k : Str} (h : ¬ key x < k) : posOf key (x :: l) k = 0 := by
  unfold posOf
  rw [List.takeWhile_cons, if_neg (by show ¬ ltB (key x) k = true; rw [show ltB (key x) k = false from decide_eq_false h]; simp)]
  rfl
theorem hasAt_cons_lt {x : α} {l : List α} {k : Str} (h : key x < k) : hasAt key (x :: l) k = hasAt key l k := by
  unfold hasAt; rw [posOf_cons_lt h, List.getElem?_cons_succ]
theorem hasAt_cons_ge {x : α} {l : List α} {k : Str} (h : ¬ key x < k) : hasAt key (x :: l) k = decide (key x = k) := by
  unfold hasAt; rw [posOf_cons_ge h]; rfl
theorem Rise.tail {x : α} {l : List α} (h : Rise key (x :: l)) : Rise key l := (List.pairwise_cons.1 h).2
theorem Rise.head {x : α} {l : List α} (h : Rise key (x :: l)) : ∀ y ∈ l, key x < key y := (List.pairwise_cons.1 h).1
theorem filter_above {l : List α} {k : Str} (h : ∀ y ∈ l, k < key y) : l.filter (fun y => decide (key y ≠ k)) = l := by
  rw [List.filter_eq_self]
  exact fun y hy => decide_eq_true (slt_ne (h y hy)).symm
theorem getL_at {l : List α} (h : Rise key l) (k : Str) : getL key k l = if hasAt key l k then l[posOf key l k]? else none := by
  induction l with
  | nil => simp [getL, hasAt]
  | cons x l ih =>
    by_cases hx : key x < k
    · rw [hasAt_cons_lt hx, posOf_cons_lt hx, List.getElem?_cons_succ, ← ih h.tail]
      unfold getL
      rw [List.find?_cons_of_neg (by simpa using slt_ne hx)]
    · rw [hasAt_cons_ge hx, posOf_cons_ge hx]
      by_cases e : key x = k
      · simp [getL, e]
      · have hk : k < key x := by
          by_cases hl : k < key x
          · exact hl
          · exact absurd (seq_of hx hl) e
        have : getL key k (x :: l) = none := by
          unfold getL
          rw [List.find?_eq_none]
          intro y hy
          rcases List.mem_cons.1 hy with rfl | hy
          · simpa using e
          · have := slt_ne (slt_trans hk (h.head y hy))
            simp [Ne.symm this]
        rw [this]
        simp [e]
theorem putL_at {l : List α} (h : Rise key l) (f : α) : putL key f l = if hasAt key l (key f) then l.set (posOf key l (key f)) f else l.take (posOf key l (key f)) ++ f :: l.drop (posOf key l (key f)) := by
  induction l with
  | nil => simp [putL, hasAt, posOf]
  | cons x l ih =>
    unfold putL
    by_cases hx : key x < key f
    · have : leB (key f) (key x) = false := decide_eq_false (by rw [sle_iff]; exact fun h => h hx)
      rw [this, hasAt_cons_lt hx, posOf_cons_lt hx, ih h.tail]
      simp
      split <;> rfl
    · have : leB (key f) (key x) = true := decide_eq_true (sle_iff.2 hx)
      rw [this, hasAt_cons_ge hx, posOf_cons_ge hx]
      by_cases e : key x = key f
      · simp only [e, decide_true, if_true, List.set_cons_zero, List.filter_cons, ne_eq, not_true, decide_false, Bool.false_eq_true, if_false]
        rw [filter_above (fun y hy => e ▸ h.head y hy)]
      · have hk : key f < key x := by
          by_cases hl : key f < key x
          · exact hl
          · exact absurd (seq_of hx hl) e
        simp only [e, decide_false, Bool.false_eq_true, if_false, if_true, List.take_zero, List.drop_zero, List.nil_append]
        rw [filter_above fun y hy => ?_]
        rcases List.mem_cons.1 hy with rfl | hy
        · exact hk
        · exact slt_trans hk (h.head y hy)
theorem mem_putL {l : List α} {f x : α} (h : x ∈ putL key f l) : x = f ∨ x ∈ l := by
  induction l with
  | nil => simpa [putL] using h
  | cons y l ih =>
    unfold putL at h
    split at h
    · rcases List.mem_cons.1 h with h | h
      · exact .inl h
      · exact .inr (List.mem_filter.1 h).1
    · rcases List.mem_cons.1 h with h | h
      · exact .inr (h ▸ List.mem_cons_self)
      · rcases ih h with h | h
        · exact .inl h
        · exact .inr (List.mem_cons_of_mem _ h)
theorem rise_filter {l : List α} (h : Rise key l) (p : α → Bool) : Rise key (l.filter p) := List.Pairwise.filter p h
theorem rise_putL {l : List α} (h : Rise key l) (f : α) : Rise key (putL key f l) := by
  induction l with
  | nil => simp [putL, Rise]
  | cons x l ih =>
    unfold putL
    split
    · rename_i hle
      refine List.pairwise_cons.2 ⟨fun y hy => ?_, rise_filter h _⟩
      have hy2 := List.mem_filter.1 hy
      have hne : key y ≠ key f := by simpa using hy2.2
      have hfx : key f ≤ key x := leB_true hle
      rcases List.mem_cons.1 hy2.1 with rfl | hy
      · exact slt_of_le_ne hfx hne.symm
      · exact sle_lt_trans hfx (h.head y hy)
    · rename_i hle
      have hle : key x < key f := leB_false (by simpa using hle)
      refine List.pairwise_cons.2 ⟨fun y hy => ?_, ih h.tail⟩
      rcases mem_putL hy with rfl | hy
      · exact hle
      · exact h.head y hy
def riseB (key : α → Str) : List α → Bool
  | [] => true
  | [_] => true
  | x :: y :: l => ltB (key x) (key y) && riseB key (y :: l)
theorem rise_of {l : List α} (h : riseB key l = true) : Rise key l := by
  induction l with
  | nil => simp [Rise]
  | cons x l ih =>
    cases l with
    | nil => simp [Rise]
    | cons y l =>
      simp only [riseB, Bool.and_eq_true] at h
      have hr := ih h.2
      refine List.pairwise_cons.2 ⟨fun z hz => ?_, hr⟩
      have hxy := ltB_true h.1
      rcases List.mem_cons.1 hz with rfl | hz
      · exact hxy
      · exact slt_trans hxy (hr.head z hz)
theorem riseB_iff {l : List α} : riseB key l = true ↔ ∀ i x y, l[i]? = some x → l[i + 1]? = some y → key x < key y := by
  induction l with
  | nil => simp [riseB]
  | cons a l ih =>
    cases l with
    | nil => simp [riseB]
    | cons b l =>
      simp only [riseB, Bool.and_eq_true]
      constructor
      · rintro ⟨h1, h2⟩ i x y hx hy
        cases i with
        | zero =>
          simp at hx hy
          subst hx; subst hy
          exact ltB_true h1
        | succ i => exact ih.1 h2 i x y (by simpa using hx) (by simpa using hy)
      · intro h
        exact ⟨decide_eq_true (h 0 a b rfl rfl), ih.2 fun i x y hx hy => h (i + 1) x y (by simpa using hx) (by simpa using hy)⟩
theorem length_putL (f : α) (l : List α) : (putL key f l).length ≤ l.length + 1 := by
  induction l with
  | nil => simp [putL]
  | cons x l ih =>
    unfold putL
    split
    · simp only [List.length_cons]
      have := List.length_filter_le (fun y => decide (key y ≠ key f)) (x :: l)
      simp only [List.length_cons] at this
      omega
    · simp only [List.length_cons]; omega
end
structure Rcd where
  cmds : List Str
  needs : List File
  out : List File
structure RcdV where
  cA : Option Addr
  cc : Nat
  nA : Option Addr
  nc : Nat
  oA : Option Addr
  oc : Nat
abbrev rcT : TypeId := 45
def rcdCs (v : RcdV) (r : Rcd) : Array Value := #[.slice v.cA r.cmds.length v.cc, .slice v.nA r.needs.length v.nc, .slice v.oA r.out.length v.oc]
abbrev rcdV (v : RcdV) (r : Rcd) : Value := .agg (rcdCs v r)
structure RcdR (w : World) (v : RcdV) (r : Rcd) : Prop where
  c : SlR strF w v.cA r.cmds.length r.cmds
  n : SlR fileF w v.nA r.needs.length r.needs
  o : SlR fileF w v.oA r.out.length r.out
theorem RcdR.ext {w u : World} {v : RcdV} {r : Rcd} (h : RcdR w v r) (hx : Ext w u) : RcdR u v r := ⟨h.c.ext hx, h.n.ext hx, h.o.ext hx⟩
theorem load_rc {w : World} {b : Nat} {x y z : Value} (h : Cs w b rcT #[x, y, z]) : (loadVar rcT ⟨b, 0, none⟩).run Try.prog w = .ok (.agg #[x, y, z]) w := by
  have c0 := h.cell 0
  have c1 := h.cell 1
  have c2 := h.cell 2
  simp only [List.getElem?_toArray, List.getElem?_cons_succ, List.getElem?_cons_zero] at c0 c1 c2
  go_simp
open Go Go.RowKit Go.ChangeShapes Go.WideShapes Go.Deep
abbrev rcdT : TypeId := 45
abbrev rmapT : TypeId := 58
abbrev rdV (v : Value) : Option (DataW Value × List MemPlace) := some (.held v, [])
abbrev zeroR : Value := .agg #[.slice none 0 0, .slice none 0 0, .slice none 0 0]
theorem str_keyed : Go.Maps.Keyed Try.prog 9 := Go.Maps.string_keyed Try.underlying9
theorem rmap_ty : Try.prog.underlying rmapT = some (.map 9 rcdT) := Try.underlying58
theorem rcd_zero (w : World) : (zeroValue rcdT).run Try.prog w = .ok zeroR w := Try.zeroValue45 w
def MapR (w : World) (b n : Nat) (f : Str → Option Value) : Prop :=
  ∃ D : DataW Value, w.ownsMap Try.prog 9 rdV b n D ∧ ∀ s, Go.Maps.has D (.string s) = (f s).isSome ∧ ∀ z, D.atKey (.string s) (.held z) = .held ((f s).getD z)
set_option maxRecDepth 100000 in
theorem key_str (s : Str) (hs : s.length ≤ maxLen) : keyOf Try.prog 9 (S s) = some (.string s) := by
  have hz : (⟨s.toArray⟩ : ByteArray).size ≤ maxLen := by simpa [ByteArray.size] using hs
  simp [keyOf, mapKey, Try.underlying9, hz]
theorem MapR.made (w : World) : MapR (w.alloc (.map #[] 0)) w.heap.size 0 (fun _ => none) :=
  ⟨.map [], World.ownsMap_made w _ _ _, fun s => ⟨rfl, fun z => rfl⟩⟩
theorem MapR.keep {F : Nat → Prop} {w v : World} {b n : Nat} {f : Str → Option Value} (h : MapR w b n f) (hx : Only F w v) (hb : ¬ F b) : MapR v b n f := by
  obtain ⟨D, ⟨es, clock, h1, h2, h3, h4⟩, h5⟩ := h
  have hlt : b < w.heap.size := (Array.getElem?_eq_some_iff.1 h1).1
  exact ⟨D, ⟨es, clock, (hx.block b hlt hb).trans h1, h2, h3, h4⟩, h5⟩
theorem MapR.lt {w : World} {b n : Nat} {f : Str → Option Value} (h : MapR w b n f) : b < w.heap.size := by
  obtain ⟨D, h1, _⟩ := h
  exact h1.lt
theorem MapR.put {w : World} {b n : Nat} {f : Str → Option Value} (h : MapR w b n f) (hn : n < maxLen) (s : Str) (hs : s.length ≤ maxLen) (v : Value) :
    ∃ w', (Instr.mapUpdate rmapT (.map (some b)) (S s) v).run Try.prog w = .ok () w' ∧ MapR w' b (n + 1) (fun k => if k = s then some v else f k) ∧ Only (fun q => q = b) w w' := by
  obtain ⟨D, h1, h2⟩ := h
  have hm : Go.Maps.IsMap D := h1.isMap
  obtain ⟨w', r1, r2, r3⟩ := h1.update str_keyed rmap_ty hn (key_str s hs) (show rdV v = some (.held v, []) from rfl)
  refine ⟨w', r1, ⟨_, r2, fun k => ?_⟩, ⟨r3.os, r3.tape, r3.output, r3.size, fun q hq hne => r3.block q hq (fun e => hne (Option.some.inj e))⟩⟩
  show Go.Maps.has (D.put (.string s) (.held v)) (.string k) = (if k = s then some v else f k).isSome ∧ ∀ z, (D.put (.string s) (.held v)).atKey (.string k) (.held z) = .held ((if k = s then some v else f k).getD z)
  by_cases hk : k = s
  · rw [if_pos hk, hk]
    exact ⟨Go.Maps.has_put_same hm (str_keyed.key (key_str s hs)) _, fun z => Go.Maps.atKey_put_same hm (str_keyed.key (key_str s hs)) _ _⟩
  · rw [if_neg hk]
    have hne : (Lit.string k) ≠ Lit.string s := fun e => hk (by injection e)
    refine ⟨?_, fun z => ?_⟩
    · rw [Go.Maps.has_put_other hne]; exact (h2 k).1
    · rw [Go.Maps.atKey_put_other hne]; exact (h2 k).2 z
theorem MapR.look {w : World} {b n : Nat} {f : Str → Option Value} (h : MapR w b n f) (s : Str) (hs : s.length ≤ maxLen) :
    (Instr.lookup rmapT (.map (some b)) (S s) true).run Try.prog w = .ok (.tuple #[(f s).getD zeroR, .bool (f s).isSome]) w := by
  obtain ⟨D, h1, h2⟩ := h
  obtain ⟨v, ps, r1, r2⟩ := h1.look_ok str_keyed rmap_ty (rcd_zero w) (show rdV zeroR = some (.held zeroR, []) from rfl) (key_str s hs)
  rw [(h2 s).1] at r1
  rw [(h2 s).2 zeroR] at r2
  have e : v = (f s).getD zeroR := by
    have := congrArg (Option.map Prod.fst) r2
    simp only [Option.map_some, Option.some.injEq] at this
    injection this
  rw [r1, e]
set_option maxRecDepth 100000 in
theorem look_nil (w : World) (s : Str) (hs : s.length ≤ maxLen) : (Instr.lookup rmapT (.map none) (S s) true).run Try.prog w = .ok (.tuple #[zeroR, .bool false]) w := by
  have hc := str_keyed.check w true (key_str s hs)
  have hf : (Instr.findKey 9 (S s) []).run Try.prog w = .ok none w := by
    rcases str_keyed.find w (key_str s hs) [] (fun e he => by cases he) with h | ⟨j, e, _, h, _⟩
    · exact h.1
    · cases h
  simp [Instr.lookup, rcd_zero, hc, hf]
def Rd (w : World) (A : Option Addr) (n size : Nat) (cs : List Value) : Prop :=
  cs.length = n * size ∧ (0 < n → ∃ b o, A = some ⟨b, o, none⟩ ∧ ∀ j u, cs[j]? = some u → w.cell? ⟨b, o + j, none⟩ = some u)
theorem getElem?_flatMap_enc {α : Type} (T : Flat α) (hpos : 0 < T.size) : ∀ (xs : List α) (i : Nat), (xs.flatMap T.enc)[i]? = (xs[i / T.size]?).bind fun x => (T.enc x)[i % T.size]?
  | [], i => by simp
  | x :: xs, i => by
    rw [List.flatMap_cons]
    by_cases h : i < T.size
    · rw [List.getElem?_append_left (by rw [T.len]; exact h), Nat.div_eq_of_lt h, Nat.mod_eq_of_lt h]; rfl
    · have hge : T.size ≤ i := by omega
      rw [List.getElem?_append_right (by rw [T.len]; exact hge), T.len, getElem?_flatMap_enc T hpos xs (i - T.size)]
      have hd : i / T.size = (i - T.size) / T.size + 1 := by
        rw [Nat.div_eq i, if_pos ⟨hpos, hge⟩]
      have hm : i % T.size = (i - T.size) % T.size := by rw [Nat.mod_eq_sub_mod hge]
      rw [hd, hm, List.getElem?_cons_succ]
theorem length_flatMap_enc {α : Type} (T : Flat α) (xs : List α) : (xs.flatMap T.enc).length = xs.length * T.size := by
  induction xs with
  | nil => simp
  | cons x xs ih => rw [List.flatMap_cons, List.length_append, T.len, ih, List.length_cons, Nat.succ_mul, Nat.add_comm]
theorem SlR.rd {α : Type} {T : Flat α} {w : World} {A : Option Addr} {n : Nat} {xs : List α} (hpos : 0 < T.size) (h : SlR T w A n xs) : Rd w A n T.size (xs.flatMap T.enc) := by
  refine ⟨by rw [length_flatMap_enc, h.1], fun hn => ?_⟩
  obtain ⟨b, o, e, _, hc⟩ := h.2 hn
  refine ⟨b, o, e, fun j u hu => ?_⟩
  rw [getElem?_flatMap_enc T hpos] at hu
  cases hx : xs[j / T.size]? with
  | none => rw [hx] at hu; cases hu
  | some x =>
    rw [hx] at hu
    have := hc _ x hx _ u hu
    rwa [Nat.add_assoc, Nat.mul_comm, Nat.div_add_mod] at this
theorem SlR.of_own {α : Type} {T : Flat α} (hpos : 0 < T.size) {w : World} {A : Option Addr} {n c B : Nat} {e : TypeId} {xs : List α} (h : w.ownsRow B e T.size (.slice A n c) n (xs.flatMap T.enc)) : SlR T w A n xs := by
  have hl : xs.length = n := by
    have := h.1
    rw [length_flatMap_enc] at this
    exact Nat.eq_of_mul_eq_mul_right hpos this
  refine ⟨hl, fun hn => ?_⟩
  rcases h.2 with ⟨hv, h0⟩ | ⟨g, cap, cur, hv, hb, hh, _, _, _, ht⟩
  · omega
  · injection hv with hv1 hv2 hv3
    subst hv1; subst hv3
    refine ⟨g, 0, rfl, (Array.getElem?_eq_some_iff.1 hh).1, fun k x hx j u hu => ?_⟩
    have hj : j < T.size := by
      rw [← T.len x]
      exact (List.getElem?_eq_some_iff.1 hu).1
    have hk : k < n := by rw [← hl]; exact (List.getElem?_eq_some_iff.1 hx).1
    have hlt : k * T.size + j < n * T.size := by
      have : (k + 1) * T.size ≤ n * T.size := Nat.mul_le_mul_right _ hk
      rw [Nat.succ_mul] at this
      omega
    rw [Nat.zero_add, World.ownsRow.cellAt h _ hlt, getElem?_flatMap_enc T hpos]
    have hd : (k * T.size + j) / T.size = k := by
      rw [Nat.mul_comm, Nat.mul_add_div hpos, Nat.div_eq_of_lt hj, Nat.add_zero]
    have hm : (k * T.size + j) % T.size = j := by
      rw [Nat.mul_comm, Nat.mul_add_mod, Nat.mod_eq_of_lt hj]
    rw [hd, hm, hx]
    exact hu
theorem cell?_alloc_of (w : World) (o : Obj) (p : Addr) {u : Value} (h : w.cell? p = some u) : (w.alloc o).cell? p = some u :=
  (World.cell?_alloc_lt w o p (World.block_lt_of_cell? w p h)).trans h
theorem Rd.alloc {w : World} {A : Option Addr} {n size : Nat} {cs : List Value} (h : Rd w A n size cs) (o : Obj) : Rd (w.alloc o) A n size cs :=
  ⟨h.1, fun hn => by
    obtain ⟨b, o', e, hc⟩ := h.2 hn
    exact ⟨b, o', e, fun j u hu => cell?_alloc_of _ _ _ (hc j u hu)⟩⟩
theorem own_empty (w : World) (e : TypeId) (size : Nat) : (w.alloc (.cells #[] e)).ownsRow 0 e size (.slice (some ⟨w.heap.size, 0, none⟩) 0 0) 0 [] :=
  ⟨by simp, .inr ⟨w.heap.size, 0, #[], rfl, Nat.zero_le _, Cs.new w _ _, Nat.le_refl _, by simp [maxLen], by simp, by simp⟩⟩
section
variable {P : Program} (w : World)
theorem run_append_of_nil (base : Nat) (t ty e : TypeId) (i : TypeInfo) (size : Nat) (ht : P.underlying t = some (.slice e)) (hi : P.info? e = some i)
    (v : Value) (n : Nat) (xs : List Value) (hown : w.ownsRow base e size v n xs) (c : Nat) : (Builtin.append_ #[t, t] ty #[v, .slice none 0 c]).run P w = .ok v w := by
  rcases hown.2 with ⟨rfl, rfl⟩ | ⟨g, cap, cur, rfl, _, _, hnc, _⟩
  · simp [Builtin.append_, run_underlying ht, sizeOf, typeInfo, hi, Builtin.lenOf, Builtin.firstCells]
  · simp [Builtin.append_, run_underlying ht, sizeOf, typeInfo, hi, Builtin.lenOf, Builtin.firstCells, hnc, storeCells]
structure Ety (P : Program) (t e : TypeId) (size : Nat) : Prop where
  under : P.underlying t = some (.slice e)
  info : ∃ i z, P.info? e = some i ∧ i.zero = some z ∧ i.size = size ∧ i.bytes ≤ 256 ∧ z.cells.size = size
  pos : 0 < size
theorem Ety.mk' {P : Program} {t e : TypeId} {size bytes : Nat} {z : Value} (h1 : P.underlying t = some (.slice e)) (h2 : (P.info? e).map (fun i => (i.zero, i.size, i.bytes)) = some (some z, size, bytes))
    (h3 : z.cells.size = size) (h4 : 0 < size) (h5 : bytes ≤ 256) : Ety P t e size := by
  obtain ⟨i, hi, hz, hs, hb⟩ := info_parts h2
  exact ⟨h1, ⟨i, z, hi, hz, hs, by rw [hb]; exact h5, h3⟩, h4⟩
theorem run_append_raw {t ty e : TypeId} {size : Nat} (hT : Ety P t e size) {v : Value} {n : Nat} {xs : List Value} (hown : w.ownsRow 0 e size v n xs)
    {A : Option Addr} {m c : Nat} {news : List Value} (hr : Rd w A m size news) (h1 : ∀ u ∈ news, u.oneCell' = true) (hnil : A = none → c = c) (hsm : n + m ≤ 100000000) :
    ∃ v' w', (Builtin.append_ #[t, t] ty #[v, .slice A m c]).run P w = .ok v' w' ∧ w'.ownsRow 0 e size v' (n + m) (xs ++ news) ∧ w.grownBy w' v.ownBlock ∧
      (v'.ownBlock = v.ownBlock ∨ v'.ownBlock = some w.heap.size) := by
  obtain ⟨i, z, hi, hz, hs, hb, hzs⟩ := hT.info
  rcases A with _ | ad
  · have hm : m = 0 := by
      rcases Nat.eq_zero_or_pos m with h0 | h0
      · exact h0
      · obtain ⟨_, _, h, _⟩ := hr.2 h0
        cases h
    subst hm
    have hn : news = [] := List.eq_nil_of_length_eq_zero (by simpa using hr.1)
    subst hn
    exact ⟨v, w, run_append_of_nil w 0 t ty e i size hT.under hi v n xs hown c, by simpa using hown, World.grownBy.refl w _, .inl rfl⟩
  · have hcells : ∀ j u, news[j]? = some u → w.cell? (ad.add j) = some u := by
      intro j u hu
      rcases Nat.eq_zero_or_pos m with h0 | h0
      · subst h0
        have hn : news = [] := List.eq_nil_of_length_eq_zero (by simpa using hr.1)
        subst hn
        simp at hu
      · obtain ⟨b, o, h, hc⟩ := hr.2 h0
        injection h with h
        subst h
        have := hc j u hu
        unfold Addr.add
        split
        · rename_i e; subst e; simpa using this
        · exact this
    obtain ⟨v', w', hrun, h2, h3, _, h5⟩ := run_append_own_at (P := P) w 0 t ty e i z size i.bytes hT.under hi hz hs rfl hzs hT.pos v n xs hown ad m c news hr.1 hcells h1
      (by simp only [maxLen]; omega) (by
        have : (n + m) * i.bytes ≤ 100000000 * 256 := Nat.mul_le_mul hsm hb
        omega) (Nat.zero_le _)
    exact ⟨v', w', hrun, h2, h3, h5⟩
end
theorem own_slice {w : World} {B : Nat} {e : TypeId} {size n : Nat} {v : Value} {xs : List Value} (h : w.ownsRow B e size v n xs) : ∃ A c, v = .slice A n c := by
  rcases h.2 with ⟨rfl, rfl⟩ | ⟨g, cap, cur, rfl, _⟩
  · exact ⟨none, 0, rfl⟩
  · exact ⟨_, _, rfl⟩
section
variable {P : Program} {w : World} {o : Oper} {a : Act}
theorem goes_append {K : Value → World → Prop} {t e : TypeId} {size : Nat} (hT : Ety P t e size) {s x : Operand} (ho : o.op = .call { callee := .builtin .append, args := #[s, x], argTypes := #[t, t] })
    {v : Value} {n : Nat} {xs : List Value} (hs : a.eval s = v) {A : Option Addr} {m c : Nat} (hx : a.eval x = .slice A m c) (hown : w.ownsRow 0 e size v n xs) {news : List Value} (hr : Rd w A m size news)
    (h1 : ∀ u ∈ news, u.oneCell' = true) (hsm : n + m ≤ 100000000)
    (h : ∀ A' c' w', w'.ownsRow 0 e size (.slice A' (n + m : Nat) c') (n + m) (xs ++ news) → w.grownBy w' v.ownBlock → ((Value.slice A' (n + m : Nat) c').ownBlock = v.ownBlock ∨ (Value.slice A' (n + m : Nat) c').ownBlock = some w.heap.size) → K (.slice A' (n + m : Nat) c') w') : Mix.goes P o a w K := by
  obtain ⟨v', w', hrun, h2, h3, h4⟩ := run_append_raw (P := P) w (ty := o.type) hT hown (c := c) hr h1 (fun _ => rfl) hsm
  unfold Mix.goes Mix.goesUpon execOp
  simp only [ho, resolve, invoke, builtin, Sem.run_bind, Sem.run_pure, Result.andThen_ok, List.map_toArray, List.map_cons, List.map_nil, hs, hx, hrun]
  obtain ⟨A', c', e⟩ := own_slice h2
  rw [e] at h2 h4 ⊢
  exact h A' c' w' h2 h3 h4
theorem wpList_append {ops : Array Oper} {rest : List Oper} {Q : Exit → Act → World → Prop} (hgd : o.guard = none) {t e : TypeId} {size : Nat} (hT : Ety P t e size) {s x : Operand} (ho : o.op = .call { callee := .builtin .append, args := #[s, x], argTypes := #[t, t] })
    {v : Value} {n : Nat} {xs : List Value} (hs : a.eval s = v) {A : Option Addr} {m c : Nat} (hx : a.eval x = .slice A m c) (hown : w.ownsRow 0 e size v n xs) {news : List Value} (hr : Rd w A m size news)
    (h1 : ∀ u ∈ news, u.oneCell' = true) (hsm : n + m ≤ 100000000)
    (h : ∀ A' c' w', w'.ownsRow 0 e size (.slice A' (n + m : Nat) c') (n + m) (xs ++ news) → w.grownBy w' v.ownBlock → ((Value.slice A' (n + m : Nat) c').ownBlock = v.ownBlock ∨ (Value.slice A' (n + m : Nat) c').ownBlock = some w.heap.size) → wpList P ops Q rest (a.put o.dst (.slice A' (n + m : Nat) c')) w') : wpList P ops Q (o :: rest) a w :=
  wpList_plain hgd fun _ hK => Mix.wp_of_goes (N := fun v' w' => wpList P ops Q rest (a.put o.dst v') w') (fun _ _ h => hK _ _ h) (goes_append hT ho hs hx hown hr h1 hsm h)
theorem rd_one (w : World) (e : TypeId) (cs : List Value) : Rd (w.alloc (.cells cs.toArray e)) (some ⟨w.heap.size, 0, none⟩) 1 cs.length cs :=
  ⟨by simp, fun _ => ⟨w.heap.size, 0, rfl, fun j u hu => by
    rw [(Cs.new w e cs.toArray).cell, Nat.zero_add]
    simpa using hu⟩⟩
end
theorem SlR.one {α : Type} (T : Flat α) (w : World) (t : TypeId) (x : α) {cs : Array Value} (hcs : (T.enc x).toArray = cs) : SlR T (w.alloc (.cells cs t)) (some ⟨w.heap.size, 0, none⟩) 1 [x] := by
  subst hcs
  refine ⟨rfl, fun _ => ⟨w.heap.size, 0, rfl, by simp, fun k y hk j u hu => ?_⟩⟩
  match k, hk with
  | 0, hk =>
    injection hk with hk
    subst hk
    rw [(Cs.new w t _).cell]
    simpa using hu
section
variable {P : Program}
theorem add_plain_ (b o j : Nat) : (⟨b, o, none⟩ : Addr).add j = ⟨b, o + j, none⟩ := by
  unfold Addr.add
  split
  · rename_i h; subst h; rfl
  · rfl
theorem run_copy_k (w : World) (dT sT ty elem : TypeId) (g o dLen dCap b so sLen sCap k : Nat) (cur : List Value) (t : TypeId) (cs : List Value)
    (hu : P.underlying dT = some (.slice elem)) (hs : (P.info? elem).map (·.size) = some k)
    (hg : Cs w g t cur.toArray) (hn : cs.length = Nat.min sLen dLen * k)
    (hsrc : ∀ j v, cs[j]? = some v → w.cell? ⟨b, so + j, none⟩ = some v) (hfit : o + cs.length ≤ cur.length) (h1 : ∀ v ∈ cs, v.oneCell' = true) :
    (Builtin.copy_ #[dT, sT] ty #[.slice (some ⟨g, o, none⟩) dLen dCap, .slice (some ⟨b, so, none⟩) sLen sCap]).run P w =
      .ok (goInt (Nat.min sLen dLen : Nat)) (w.setRow g (cur.take o ++ cs ++ cur.drop (o + cs.length)).toArray) := by
  have hl := run_loadCells_list (P := P) w ⟨b, so, none⟩ cs (fun j v h => by rw [add_plain_]; exact hsrc j v h)
  have hst := run_storeCells_at P g o t cs 0 cur.toArray w hg (by simpa using hfit) h1
  cases hq : P.info? elem with
  | none => simp [hq] at hs
  | some i =>
    have hi : i.size = k := by simpa [hq] using hs
    simp [Builtin.copy_, run_underlying hu, Builtin.lenOf, Builtin.firstCells, sizeOf, typeInfo, hq, hi, ← hn, hl, hst]
theorem goes_copy_k {w : World} {o : Oper} {a : Act} {K : Value → World → Prop} {dT sT e : TypeId} {k : Nat} (hu : P.underlying dT = some (.slice e)) (hz : (P.info? e).map (·.size) = some k) {d s : Operand}
    (ho : o.op = .call { callee := .builtin .copy, args := #[d, s], argTypes := #[dT, sT] }) {g off dLen dCap : Nat} (hd : a.eval d = .slice (some ⟨g, off, none⟩) dLen dCap) {b so sLen c : Nat} (hs : a.eval s = .slice (some ⟨b, so, none⟩) sLen c)
    {t : TypeId} {cur cs : List Value} (hg : Cs w g t cur.toArray) (hn : cs.length = Nat.min sLen dLen * k) (hsrc : ∀ j u, cs[j]? = some u → w.cell? ⟨b, so + j, none⟩ = some u) (hfit : off + cs.length ≤ cur.length) (h1 : ∀ u ∈ cs, u.oneCell' = true)
    (h : ∀ w', Cs w' g t (cur.take off ++ cs ++ cur.drop (off + cs.length)).toArray → Only (fun x => x = g) w w' → K (.int .i64 (Nat.min sLen dLen : Nat)) w') : Mix.goes P o a w K := by
  have hrun := run_copy_k (P := P) w dT sT o.type e g off dLen dCap b so sLen c k cur t cs hu hz hg hn hsrc hfit h1
  unfold Mix.goes Mix.goesUpon execOp
  simp only [ho, resolve, invoke, builtin, Sem.run_bind, Sem.run_pure, Result.andThen_ok, List.map_toArray, List.map_cons, List.map_nil, hd, hs, hrun]
  exact h _ (setRow_heap w g _ _ t _ hg) ⟨rfl, rfl, rfl, by simp [World.setRow], fun k _ hne => setRow_other w g k _ hne⟩
theorem wpList_copy_k {ops : Array Oper} {rest : List Oper} {Q : Exit → Act → World → Prop} {w : World} {o : Oper} {a : Act} (hgd : o.guard = none) {dT sT e : TypeId} {k : Nat} (hu : P.underlying dT = some (.slice e)) (hz : (P.info? e).map (·.size) = some k) {d s : Operand}
    (ho : o.op = .call { callee := .builtin .copy, args := #[d, s], argTypes := #[dT, sT] }) {g off dLen dCap : Nat} (hd : a.eval d = .slice (some ⟨g, off, none⟩) dLen dCap) {b so sLen c : Nat} (hs : a.eval s = .slice (some ⟨b, so, none⟩) sLen c)
    {t : TypeId} {cur cs : List Value} (hg : Cs w g t cur.toArray) (hn : cs.length = Nat.min sLen dLen * k) (hsrc : ∀ j u, cs[j]? = some u → w.cell? ⟨b, so + j, none⟩ = some u) (hfit : off + cs.length ≤ cur.length) (h1 : ∀ u ∈ cs, u.oneCell' = true)
    (h : ∀ w', Cs w' g t (cur.take off ++ cs ++ cur.drop (off + cs.length)).toArray → Only (fun x => x = g) w w' → wpList P ops Q rest (a.put o.dst (.int .i64 (Nat.min sLen dLen : Nat))) w') : wpList P ops Q (o :: rest) a w :=
  wpList_plain hgd fun _ hK => Mix.wp_of_goes (N := fun v' w' => wpList P ops Q rest (a.put o.dst v') w') (fun _ _ h => hK _ _ h) (goes_copy_k hu hz ho hd hs hg hn hsrc hfit h1 h)
theorem wpList_zeros {ops : Array Oper} {rest : List Oper} {Q : Exit → Act → World → Prop} {w : World} {o : Oper} {a : Act} (hgd : o.guard = none) {t tn e : TypeId} {i : TypeInfo} {z : Value} {kn : IntKind} (ht : P.underlying t = some (.slice e)) (htn : P.underlying tn = some (.int kn))
    (hi : P.info? e = some i) (hz : i.zero = some z) {s x : Operand} (ho : o.op = .call { callee := .builtin .append, args := #[s, x], argTypes := #[t, tn] })
    {b off sLen sCap m : Nat} (hs : a.eval s = .slice (some ⟨b, off, none⟩) sLen sCap) (hx : a.eval x = .int .i64 (m : Int)) {olds : List Value} (hol : olds.length = sLen * i.size) (hold : ∀ j v, olds[j]? = some v → w.cell? ⟨b, off + j, none⟩ = some v)
    (h0 : 0 < m) (hsz : 0 < i.size) (hg : sCap < sLen + m) (hby : i.bytes ≤ 256) (hsm : sLen + m ≤ 100000000)
    (h : ∀ cap, sLen + m ≤ cap → cap ≤ maxLen → wpList P ops Q rest (a.put o.dst (.slice (some ⟨w.heap.size, 0, none⟩) (sLen + m : Nat) cap)) (w.drew.alloc (.cells (olds ++ (Builtin.zeroCells z.cells m).toList ++ (Builtin.zeroCells z.cells (cap - (sLen + m))).toList).toArray e))) :
    wpList P ops Q (o :: rest) a w := by
  have hm1 : (sLen + m) * i.bytes ≤ 100000000 * 256 := Nat.mul_le_mul hsm hby
  have hm2 : m * i.bytes ≤ (sLen + m) * i.bytes := Nat.mul_le_mul (by omega) (Nat.le_refl _)
  have hrun := Lib.run_append_grow_zeros (P := P) w t tn o.type e i z .i64 kn ht htn hi hz (some ⟨b, off, none⟩) sLen sCap olds
    (run_firstCells_some w.drew i.size sLen ⟨b, off, none⟩ sLen sCap olds hol (fun j v hj => by rw [add_plain_]; exact hold j v hj)) m h0 hsz hg (by omega) (by omega) (growslice_fits hg (by omega))
  refine wpList_plain hgd fun K hK => Mix.wp_of_goes (N := fun v' w' => wpList P ops Q rest (a.put o.dst v') w') (fun _ _ h => hK _ _ h) ?_
  unfold Mix.goes Mix.goesUpon execOp
  simp only [ho, resolve, invoke, builtin, Sem.run_bind, Sem.run_pure, Result.andThen_ok, List.map_toArray, List.map_cons, List.map_nil, hs, hx, hrun]
  have := h (grownCap w (sLen + m) sCap e) (grownCap_ge w _ _ _) (grownCap_le_maxLen w _ _ e (by unfold maxLen; omega))
  have e1 : (olds ++ (Builtin.zeroCells z.cells m).toList ++ (Builtin.zeroCells z.cells (grownCap w (sLen + m) sCap e - (sLen + m))).toList).toArray = olds.toArray ++ Builtin.zeroCells z.cells m ++ Builtin.zeroCells z.cells (grownCap w (sLen + m) sCap e - (sLen + m)) := by
    apply Array.ext'
    simp
  rw [e1] at this
  exact this
end
theorem take_flatMap {α : Type} (T : Flat α) (xs : List α) (i : Nat) : (xs.take i).flatMap T.enc = (xs.flatMap T.enc).take (i * T.size) := by
  induction xs generalizing i with
  | nil => simp
  | cons x xs ih =>
    cases i with
    | zero => simp
    | succ i =>
      have h := T.len x
      have e1 : (T.enc x).take (i * T.size + T.size) = T.enc x := List.take_of_length_le (by omega)
      rw [List.take_succ_cons, List.flatMap_cons, List.flatMap_cons, ih, List.take_append, h, Nat.succ_mul, Nat.add_sub_cancel, e1]
theorem drop_flatMap {α : Type} (T : Flat α) (xs : List α) (i : Nat) : (xs.drop i).flatMap T.enc = (xs.flatMap T.enc).drop (i * T.size) := by
  induction xs generalizing i with
  | nil => simp
  | cons x xs ih =>
    cases i with
    | zero => simp
    | succ i =>
      have h := T.len x
      have e1 : (T.enc x).drop (i * T.size + T.size) = [] := List.drop_eq_nil_of_le (by omega)
      rw [List.drop_succ_cons, List.flatMap_cons, ih, List.drop_append, h, Nat.succ_mul, Nat.add_sub_cancel, e1]
      rfl
theorem own_block {w : World} {B : Nat} {e : TypeId} {size n c : Nat} {A : Option Addr} {xs : List Value} (h : w.ownsRow B e size (.slice A n c) n xs) (hn : 0 < n) (hs : 0 < size) :
    ∃ g rest, A = some ⟨g, 0, none⟩ ∧ Cs w g e (xs ++ rest).toArray ∧ xs.length = n * size ∧ (xs ++ rest).length = c * size ∧ n ≤ c ∧ c ≤ maxLen := by
  rcases h.2 with ⟨hv, h0⟩ | ⟨g, cap, cur, hv, hb, hh, hnc, hc, hsz, ht⟩
  · omega
  · injection hv with hv1 hv2 hv3
    subst hv1; subst hv3
    refine ⟨g, cur.toList.drop (n * size), rfl, ?_, h.1, ?_, hnc, hc⟩
    · unfold Cs
      rw [hh, ← ht, List.take_append_drop]
    · rw [← ht, List.take_append_drop]; simpa using hsz
theorem own_of_block {w : World} {B : Nat} {e : TypeId} {size n c g : Nat} {xs rest : List Value} (h : Cs w g e (xs ++ rest).toArray) (hb : B ≤ g) (hl : xs.length = n * size) (hc : (xs ++ rest).length = c * size) (hnc : n ≤ c) (hm : c ≤ maxLen) :
    w.ownsRow B e size (.slice (some ⟨g, 0, none⟩) n c) n xs :=
  ⟨hl, .inr ⟨g, c, (xs ++ rest).toArray, rfl, hb, h, hnc, hm, by simpa using hc, by rw [← hl]; simp⟩⟩
theorem ins_cells (X rest E : List Value) (i n k : Nat) (hX : X.length = n * k) (hE : E.length = k) (hi : i < n) {c1 : List Value}
    (h1 : c1 = (X ++ rest).take ((i + 1) * k) ++ X.drop (i * k) ++ (X ++ rest).drop ((i + 1) * k + (X.drop (i * k)).length)) :
    c1.take (i * k) ++ E ++ c1.drop (i * k + E.length) = X.take (i * k) ++ E ++ X.drop (i * k) ++ (X ++ rest).drop ((n + 1) * k) := by
  have h2 : (i + 1) * k ≤ n * k := Nat.mul_le_mul_right _ hi
  have h3 : (i + 1) * k = i * k + k := Nat.succ_mul _ _
  have hA : ((X ++ rest).take ((i + 1) * k)).length = (i + 1) * k := by rw [List.length_take, List.length_append]; omega
  have hD : (i + 1) * k + (X.drop (i * k)).length = (n + 1) * k := by rw [List.length_drop, hX, Nat.succ_mul n k]; omega
  have e1 : c1.take (i * k) = X.take (i * k) := by
    rw [h1, List.append_assoc, List.take_append_of_le_length (by omega), List.take_take, Nat.min_eq_left (by omega), List.take_append_of_le_length (by omega)]
  have e2 : c1.drop (i * k + E.length) = X.drop (i * k) ++ (X ++ rest).drop ((n + 1) * k) := by
    rw [h1, hE, ← h3, List.append_assoc, List.drop_left' hA, hD]
  rw [e1, e2, List.append_assoc, List.append_assoc, List.append_assoc]
theorem grow_cells1 (O Z R E : List Value) (i k : Nat) (hO : O.length = i * k) (hE : E.length = k) (hZ : k ≤ Z.length) : (O ++ Z ++ R).take (i * k) ++ E ++ (O ++ Z ++ R).drop (i * k + E.length) = O ++ E ++ Z.drop k ++ R := by
  have e1 : (O ++ Z ++ R).take (i * k) = O := by rw [List.append_assoc, List.take_left' hO]
  have e2 : (O ++ Z ++ R).drop (i * k + E.length) = Z.drop k ++ R := by
    rw [List.append_assoc, hE, ← hO, ← List.drop_drop, List.drop_left, List.drop_append_of_le_length hZ]
  rw [e1, e2, ← List.append_assoc]
theorem grow_cells2 (O Z R E D : List Value) (i k : Nat) (hO : O.length = i * k) (hE : E.length = k) (hZ : Z.length = k + D.length) : (O ++ E ++ Z.drop k ++ R).take ((i + 1) * k) ++ D ++ (O ++ E ++ Z.drop k ++ R).drop ((i + 1) * k + D.length) = O ++ E ++ D ++ R := by
  have h1 : (O ++ E).length = (i + 1) * k := by rw [List.length_append, hO, hE, Nat.succ_mul]
  have h2 : (Z.drop k).length = D.length := by rw [List.length_drop]; omega
  have e1 : (O ++ E ++ Z.drop k ++ R).take ((i + 1) * k) = O ++ E := by rw [List.append_assoc (O ++ E), List.take_left' h1]
  have e2 : (O ++ E ++ Z.drop k ++ R).drop ((i + 1) * k + D.length) = R := by
    rw [List.append_assoc (O ++ E), ← h1, ← List.drop_drop, List.drop_left, ← h2, List.drop_left]
  rw [e1, e2]
theorem length_zeroCells (cs : Array Value) (n : Nat) : (Builtin.zeroCells cs n).toList.length = n * cs.size := by
  simp [Builtin.zeroCells]
theorem Cs.shape {w : World} {g : Nat} {t : TypeId} {cs : Array Value} (h : Cs w g t cs) : w.shape? g = some (t, cs.size) := by
  unfold Cs at h; simp [World.shape?, h]
structure Fresh {α : Type} (T : Flat α) (t : TypeId) (w w' : World) (A : Option Addr) (c : Nat) (xs : List α) : Prop where
  own : w'.ownsRow 0 t T.size (.slice A xs.length c) xs.length (xs.flatMap T.enc)
  ext : Ext w w'
  new : ∀ g, (Value.slice A xs.length c).ownBlock = some g → w.heap.size ≤ g
theorem Fresh.row {α : Type} {T : Flat α} (hp : 0 < T.size) {t : TypeId} {w w' : World} {A : Option Addr} {c : Nat} {xs : List α} (h : Fresh T t w w' A c xs) : SlR T w' A xs.length xs := SlR.of_own hp h.own
theorem own_ext {w v : World} {B : Nat} {e : TypeId} {size n : Nat} {x : Value} {xs : List Value} (h : w.ownsRow B e size x n xs) (hx : Ext w v) : v.ownsRow B e size x n xs := own_keep h hx fun _ _ h => h
theorem Fresh.on {α : Type} {T : Flat α} {t : TypeId} {w w' u : World} {A : Option Addr} {c : Nat} {xs : List α} (h : Fresh T t w w' A c xs) (hx : Ext w' u) : Fresh T t w u A c xs := ⟨own_ext h.own hx, h.ext.then_ext hx, h.new⟩
theorem Fresh.from {α : Type} {T : Flat α} {t : TypeId} {w0 w w' : World} {A : Option Addr} {c : Nat} {xs : List α} (h : Fresh T t w w' A c xs) (hx : Ext w0 w) : Fresh T t w0 w' A c xs := ⟨h.own, hx.then_ext h.ext, fun g hg => Nat.le_trans hx.size (h.new g hg)⟩
theorem Fresh.nil {α : Type} (T : Flat α) (t : TypeId) (w w' : World) (hx : Ext w w') : Fresh T t w w' none 0 ([] : List α) := ⟨World.ownsRow_nil _ _ _ _, hx, fun g hg => by simp [Value.ownBlock] at hg⟩
theorem Fresh.grow {α : Type} {T : Flat α} {t : TypeId} {w w1 w2 : World} {A A' : Option Addr} {c c' m : Nat} {xs ys : List α} (h : Fresh T t w w1 A c xs) (hm : ys.length = m) (hown : w2.ownsRow 0 t T.size (.slice A' (xs.length + m : Nat) c') (xs.length + m) (xs.flatMap T.enc ++ ys.flatMap T.enc)) (hg : w1.grownBy w2 (Value.slice A xs.length c).ownBlock)
    (hb : (Value.slice A' (xs.length + m : Nat) c').ownBlock = (Value.slice A xs.length c).ownBlock ∨ (Value.slice A' (xs.length + m : Nat) c').ownBlock = some w1.heap.size) : Fresh T t w w2 A' c' (xs ++ ys) := by
  subst hm
  refine ⟨by rw [List.length_append, List.flatMap_append]; exact hown, h.ext.grown hg fun g hg => .inl (h.new g hg), fun g hg => ?_⟩
  rw [List.length_append] at hg
  rcases hb with hb | hb
  · exact h.new g (hb.symm.trans hg)
  · rw [hb] at hg
    injection hg with hg
    have := h.ext.size
    omega
theorem own_cs {w : World} {B : Nat} {e : TypeId} {size n : Nat} {x : Value} {xs : List Value} (h : w.ownsRow B e size x n xs) {g : Nat} (hg : x.ownBlock = some g) : ∃ cur, Cs w g e cur := by
  rcases h.2 with ⟨rfl, _⟩ | ⟨g', cap, cur, rfl, hb, hh, _⟩
  · simp [Value.ownBlock] at hg
  · simp [Value.ownBlock] at hg
    subst hg
    exact ⟨cur, hh⟩
theorem own_ne_cs {w : World} {B : Nat} {e t : TypeId} {size n g : Nat} {x : Value} {xs : List Value} {cs : Array Value} (h : w.ownsRow B e size x n xs) (hc : Cs w g t cs) (hne : e ≠ t) : ∀ b, x.ownBlock = some b → ¬ b = g := by
  rintro b hb rfl
  obtain ⟨cur, h1⟩ := own_cs h hb
  exact Cs.ne_ h1 hc hne rfl
theorem Fresh.keep {α : Type} {T : Flat α} {t : TypeId} {w wr u : World} {A : Option Addr} {c : Nat} {xs : List α} {F : Nat → Prop} (h : Fresh T t w wr A c xs) (hx : Only F wr u) (hE : Ext w u) (hn : ∀ g, (Value.slice A xs.length c).ownBlock = some g → ¬ F g) : Fresh T t w u A c xs := ⟨own_keep h.own hx hn, hE, h.new⟩
theorem S_extract (l : Str) (i j : Nat) : (⟨l.toArray⟩ : ByteArray).extract i j = ⟨((l.take j).drop i).toArray⟩ := by
  apply ByteArray.ext
  rw [ByteArray.data_extract]
  simp
  rw [List.drop_take]
theorem eql_lit (l : Str) (k : List UInt8) : ((⟨l.toArray⟩ : ByteArray).toList == k) = (l == k) := by rw [toList_S]
attribute [go_sem] S_extract eql_lit List.take_succ_cons List.drop_succ_cons List.drop_zero List.take_zero List.take_length
open Go Go.RowKit Go.Shelf
attribute [local go_sem] Oper.semAt_some
def fndL (k : Str) (xs : List File) : Option File := xs.reverse.find? fun y => decide (y.1 = k)
def cutB (c : UInt8) : Str → Str × Str × Bool
  | [] => ([], [], false)
  | x :: s => if x = c then ([], s, true) else (x :: (cutB c s).1, (cutB c s).2.1, (cutB c s).2.2)
theorem index_byte_cons (c x : UInt8) (s : Str) : Lib.index (x :: s) [c] = if x = c then 0 else if Lib.index s [c] = -1 then -1 else Lib.index s [c] + 1 := by
  have e : List.isPrefixOf [c] (x :: s) = decide (x = c) := by
    simp only [List.isPrefixOf, Bool.and_true]
    by_cases h : x = c
    · simp [h]
    · simp [h, Ne.symm h]
  rw [Lib.index, e]
  simp
theorem cut_byte (c : UInt8) : ∀ s : Str, Lib.cut s [c] = cutB c s
  | [] => by simp [Lib.cut, Lib.index, cutB]
  | x :: s => by
    have ih := cut_byte c s
    have hg := Lib.index_ge s [c]
    unfold Lib.cut at ih ⊢
    rw [index_byte_cons]
    unfold cutB
    by_cases h : x = c
    · simp [h]
    · rw [if_neg h, if_neg h, ← ih]
      by_cases h1 : Lib.index s [c] = -1
      · rw [h1]; simp
      · rw [if_neg h1]
        obtain ⟨i, hi⟩ : ∃ i : Nat, Lib.index s [c] = i := ⟨(Lib.index s [c]).toNat, by omega⟩
        rw [hi]
        have e1 : (0 : Int) ≤ (i : Int) + 1 := by omega
        have e2 : (0 : Int) ≤ (i : Int) := by omega
        have e3 : ((i : Int) + 1).toNat = i + 1 := by omega
        simp [e1, e2, e3]
theorem cutB_len (c : UInt8) : ∀ s : Str, (cutB c s).1.length + (cutB c s).2.1.length ≤ s.length
  | [] => by simp [cutB]
  | x :: s => by
    have := cutB_len c s
    unfold cutB
    split
    · simp
    · simp only [List.length_cons]; omega
def varB (s : Str) : Bool := (s.all fun c => decide (65 ≤ c.toNat) && decide (c.toNat ≤ 90)) && !(s == []) && decide (s.length ≤ 4)
abbrev dlr : Str := [36, 40]
def expL (l : List File) (rec : Str → Str × Int) : Nat → Str → Str → Str × Int
  | 0, _, _ => ([], 0)
  | f + 1, s, out =>
    if (Lib.cut s dlr).2.2 = false then (if 600 < (out ++ (Lib.cut s dlr).1).length then ([], 2) else (out ++ (Lib.cut s dlr).1, 0))
    else if (cutB 41 (Lib.cut s dlr).2.1).2.2 = false ∨ varB (cutB 41 (Lib.cut s dlr).2.1).1 = false then ([], 4)
    else match fndL (cutB 41 (Lib.cut s dlr).2.1).1 l with
      | none => ([], 5)
      | some v => if (rec v.2).2 ≠ 0 then ([], (rec v.2).2) else if 600 < (out ++ (Lib.cut s dlr).1 ++ (rec v.2).1).length then ([], 2) else expL l rec f (cutB 41 (Lib.cut s dlr).2.1).2.1 (out ++ (Lib.cut s dlr).1 ++ (rec v.2).1)
def exp (l : List File) : Nat → Str → Str × Int
  | 0, _ => ([], 9)
  | d + 1, s => expL l (exp l d) (s.length + 1) s []
theorem cut_len (s sep : Str) : (Lib.cut s sep).1.length + (Lib.cut s sep).2.1.length ≤ s.length := by
  unfold Lib.cut
  split
  · rename_i h
    simp only [List.length_take, List.length_drop]
    have : (Lib.index s sep).toNat ≤ s.length ∨ s.length < (Lib.index s sep).toNat := by omega
    rcases this with h1 | h1
    · omega
    · omega
  · simp
theorem expL_bound {l : List File} {rec : Str → Str × Int} : ∀ (f : Nat) (s out : Str), (expL l rec f s out).1.length ≤ 600
  | 0, _, _ => by simp [expL]
  | f + 1, s, out => by
    unfold expL
    split
    · split
      · simp
      · rename_i h; show (out ++ (Lib.cut s dlr).1).length ≤ 600; omega
    · split
      · simp
      · split
        · simp
        · split
          · simp
          · split
            · simp
            · exact expL_bound f _ _
theorem exp_bound (l : List File) : ∀ (d : Nat) (s : Str), (exp l d s).1.length ≤ 600
  | 0, _ => by simp [exp]
  | d + 1, s => expL_bound _ _ _
theorem expL_nonneg {l : List File} {rec : Str → Str × Int} (hr : ∀ s, 0 ≤ (rec s).2) : ∀ (f : Nat) (s out : Str), 0 ≤ (expL l rec f s out).2
  | 0, _, _ => by simp [expL]
  | f + 1, s, out => by
    unfold expL
    split
    · split <;> simp
    · split
      · simp
      · split
        · simp
        · split
          · exact hr _
          · split
            · simp
            · exact expL_nonneg hr f _ _
theorem exp_nonneg (l : List File) : ∀ (d : Nat) (s : Str), 0 ≤ (exp l d s).2
  | 0, _ => by simp [exp]
  | d + 1, s => expL_nonneg (exp_nonneg l d) _ _ _
def splB (c : UInt8) : Str → List Str
  | [] => [[]]
  | x :: s => if x = c then [] :: splB c s else match splB c s with
    | h :: t => (x :: h) :: t
    | [] => [[x]]
theorem splB_ne (c : UInt8) : ∀ s : Str, splB c s ≠ []
  | [] => by simp [splB]
  | x :: s => by
    unfold splB
    split
    · simp
    · split <;> simp
theorem splB_cons (c x : UInt8) (s : Str) : splB c (x :: s) = if x = c then [] :: splB c s else match splB c s with
    | h :: t => (x :: h) :: t
    | [] => [[x]] := rfl
theorem cut_parts (c : UInt8) : ∀ s : Str, (cutB c s).2.2 = true → s = (cutB c s).1 ++ c :: (cutB c s).2.1
  | [], h => by simp [cutB] at h
  | x :: s, h => by
    unfold cutB at h ⊢
    by_cases hx : x = c
    · simp [hx]
    · rw [if_neg hx] at h ⊢
      rw [List.cons_append, ← cut_parts c s h]
theorem string_info : (Try.prog.info? 9).map (fun i => (i.zero, i.size, i.bytes)) = some (some (S []), 1, 16) := by kernel_rfl
theorem string_ty : Ety Try.prog 23 9 1 := Ety.mk' Try.underlying23 string_info rfl (by omega) (by omega)
theorem CloneStrs_c {w : World} {A : Option Addr} {n c : Nat} {cs : List Value} (h : Rd w A n 1 cs) (h1 : ∀ u ∈ cs, u.oneCell' = true) (hA : A = none → n = 0) (hn : n ≤ 1000000) :
    Calls Try.prog 86 #[.slice A n c] w fun e w' => ∃ A' c', e = .returned (.slice A' n c') ∧ w'.ownsRow 0 9 1 (.slice A' n c') n cs ∧ Ext w w' ∧ ∀ g, (Value.slice A' n c').ownBlock = some g → w.heap.size ≤ g := by
  have h2 := fun (W : World) => Lib.run_eql_slice_nil (P := Try.prog) W 23 9 A n c 0 0 Try.underlying23
  rcases A with _ | ad
  · obtain rfl := hA rfl
    obtain rfl : cs = [] := List.eq_nil_of_length_eq_zero (by simpa using h.1)
    go_enter Try.func86, Try.ntmps86
    go_wp2
    go_ret
    exact ⟨none, 0, rfl, World.ownsRow_nil _ _ _ _, Only.refl _ _, fun g hg => by simp [Value.ownBlock] at hg⟩
  · have H := Lib.hid h
    clear h
    go_enter Try.func86, Try.ntmps86
    go_wp2_with (at_builtin; go_must (refine wpList_append (v := .slice (some ⟨w.heap.size, 0, none⟩) 0 0) (n := 0) (xs := []) rfl string_ty rfl rfl rfl (own_empty w _ _) (H.out.alloc _) h1 (by omega) ?_); intro A' c' w5 hown5 hg5 hb5)
    go_ret
    rw [Nat.zero_add] at hown5 hb5
    have hx : Ext w w5 := ((Only.refl _ _).alloc (.cells #[] 9)).grown hg5 (fun g hg => by simp [Value.ownBlock] at hg; left; omega)
    refine ⟨A', c', ?_, by simpa using hown5, hx, fun g hg => ?_⟩
    · simp [Nat.zero_add]
    · rcases hb5 with h | h <;> rw [h] at hg <;> simp [Value.ownBlock] at hg <;> omega
theorem str_enc1 : ∀ (xs : List Str), ∀ u ∈ xs.flatMap strF.enc, u.oneCell' = true := by
  intro xs u hu
  obtain ⟨x, _, hx⟩ := List.mem_flatMap.1 hu
  rcases List.mem_cons.1 hx with rfl | hx
  · rfl
  · cases hx
def inS (xs : List Str) (k : Str) : Bool := decide (k ∈ xs)
theorem inS_none {xs : List Str} {k : Str} (h : ∀ y ∈ xs, (y == k) = false) : inS xs k = false := by
  unfold inS
  refine decide_eq_false fun hk => ?_
  have := h k hk
  simp at this
theorem inS_at {xs : List Str} {k x : Str} {j : Nat} (hx : xs[j]? = some x) (h : (x == k) = true) : inS xs k = true := by
  unfold inS
  have : x = k := by simpa using h
  exact decide_eq_true (this ▸ List.mem_of_getElem? hx)
theorem none_snoc {α : Type} {p : α → Bool} {xs : List α} {j : Nat} {x : α} (h : ∀ y ∈ xs.take j, p y = false) (hx : xs[j]? = some x) (hp : p x = false) : ∀ y ∈ xs.take (j + 1), p y = false := fun y hy => by
  rw [List.take_add_one, hx] at hy
  rcases List.mem_append.1 hy with hy | hy
  · exact h y hy
  · simp at hy; exact hy ▸ hp
theorem In_c {w : World} {A : Option Addr} {n c : Nat} {xs : List Str} (h : SlR strF w A n xs) (hn : n ≤ 1000000) (k : Str) :
    Calls Try.prog 59 #[.slice A n c, S k] w fun e w' => e = .returned (.bool (inS xs k)) ∧ Ext w w' := by
  go_enter Try.func59, Try.ntmps59
  go_wp2_with fail
  go_loopw [5] (fun i wr => ∃ j : Nat, j ≤ n ∧ i = .int .i64 j ∧ (∀ y ∈ xs.take j, (y == k) = false) ∧ ∃ ξ : X w No, wr = ξ.v) (fun i _ => n - (intOf i).toNat)
  case atStart => exact ⟨0, Nat.zero_le _, rfl, by simp, X.here _ _, rfl⟩
  case round =>
    obtain ⟨j, hj, rfl, hT, ξ, rfl⟩ := hrel
    have HT := Lib.hid hT
    clear hT
    by_cases hlt : j < n
    · obtain ⟨b, o, x, rfl, hx, c0⟩ := strs_get h hlt
      have HX := Lib.hid hx
      clear hx
      obtain ⟨p, hp⟩ : ∃ p, (x == k) = p := ⟨_, rfl⟩
      cases p with
      | true =>
        have HP := Lib.hid hp
        go_wp2_with fail
        go_ret
        exact ⟨by rw [inS_at HX.out HP.out]; rfl, ξ.h⟩
      | false =>
        have HP := Lib.hid hp
        go_wp2_with fail
        go_roundw
        case rel => exact ⟨j + 1, by omega, by go_num, none_snoc HT.out HX.out HP.out, ξ, rfl⟩
        case measure => simp [intOf]; omega
    · go_wp2_with fail
      go_ret
      exact ⟨by rw [inS_none (fun y hy => HT.out y (by rw [List.take_of_length_le (by rw [h.1]; omega)]; exact hy))]; rfl, ξ.h⟩
theorem containsS_eq (xs : List Str) (k : Str) : Lib.containsS (xs.map fun s => (⟨s.toArray⟩ : ByteArray)) ⟨k.toArray⟩ = inS xs k := by
  unfold inS
  rw [Bool.eq_iff_iff, Lib.containsS_iff]
  simp
theorem Contains_c {w : World} {A : Option Addr} {n c : Nat} {xs : List Str} (h : SlR strF w A n xs) (hn : n ≤ 1000000) (k : Str) :
    Calls Try.prog 68 #[.slice A n c, S k] w fun e w' => e = .returned (.bool (inS xs k)) ∧ Ext w w' := by
  by_cases h0 : n = 0
  · subst h0
    refine (Try.slices_Contains_string_empty A c ⟨k.toArray⟩ w).mono ?_
    rintro e w' ⟨rfl, rfl⟩
    exact ⟨by rw [h.nil_]; rfl, Only.refl _ _⟩
  · obtain ⟨b, o, x, rfl, hb, hx, hc⟩ := h.get (k := 0) (by omega)
    refine (Try.slices_Contains_string b o n c (xs.map fun s => (⟨s.toArray⟩ : ByteArray)) ⟨k.toArray⟩ w (by rw [List.length_map, h.1]; exact Nat.le_refl _) (by omega) (fun j hj => ?_)).mono ?_
    · rw [List.length_map, h.1] at hj
      obtain ⟨b', o', y, he, hy, hcell⟩ := strs_get h hj
      injection he with he
      injection he with he1 he2
      subst he1; subst he2
      have := hcell (X.here w No)
      rw [List.getD_eq_getElem?_getD, List.getElem?_map, hy]
      exact this
    · rintro e w' ⟨rfl, rfl⟩
      refine ⟨?_, Only.refl _ _⟩
      rw [List.take_of_length_le (by rw [List.length_map, h.1]; exact Nat.le_refl _), containsS_eq]
theorem CloneStrs_f {w : World} {A : Option Addr} {n c : Nat} {xs : List Str} (h : SlR strF w A n xs) (hA : A = none → n = 0) (hn : n ≤ 1000000) :
    Calls Try.prog 86 #[.slice A n c] w fun e w' => ∃ A' c', e = .returned (.slice A' xs.length c') ∧ Fresh strF 9 w w' A' c' xs := by
  have hl := h.1
  refine (CloneStrs_c (h.rd (by decide)) (str_enc1 xs) hA hn).mono ?_
  rintro e w' ⟨A', c', rfl, h1, h2, h3⟩
  subst hl
  exact ⟨A', c', rfl, h1, h2, h3⟩
def lightT (many long : Nat) (l : List Str) : Bool := decide (l.length ≤ many) && l.all fun s => decide (s.length ≤ long)
theorem LightTexts_c {w : World} {A : Option Addr} {n c : Nat} {xs : List Str} (h : SlR strF w A n xs) (hn0 : n ≤ maxLen) (many long : Nat) (hm : many ≤ 1000000) (hlo : long ≤ 1000000) :
    Calls Try.prog 6 #[.slice A n c, .int .i64 many, .int .i64 long] w fun e w' => e = .returned (.bool (lightT many long xs)) ∧ Ext w w' := by
  unfold maxLen at hn0
  by_cases hn : n ≤ many
  · have HN : Hid (decide (xs.length ≤ many) = true) := by rw [Hid, h.1]; simpa using hn
    go_enter Try.func6, Try.ntmps6
    go_wp2_with fail
    go_loopw [7] (fun i wr => ∃ k : Nat, k ≤ n ∧ i = .int .i64 k ∧ ((xs.take k).all fun s => decide (s.length ≤ long)) = true ∧ ∃ ξ : X w No, wr = ξ.v) (fun i _ => n - (intOf i).toNat)
    case atStart => exact ⟨0, Nat.zero_le _, rfl, rfl, X.here _ _, rfl⟩
    case round =>
      obtain ⟨k, hk, rfl, hT, ξ, rfl⟩ := hrel
      have HT := Lib.hid hT
      clear hT
      by_cases hlt : k < n
      · obtain ⟨b, o, x, rfl, hx, c0⟩ := strs_get h hlt
        have HX := Lib.hid hx
        clear hx
        by_cases h1 : x.length ≤ long
        · go_wp2_with fail
          go_roundw
          case rel =>
            refine ⟨k + 1, by omega, by go_num, ?_, ⟨_, ξ.h⟩, rfl⟩
            rw [List.take_add_one, HX.out]
            simp only [Option.toList, List.all_append, HT.out, List.all_cons, decide_eq_true h1, List.all_nil, Bool.and_self]
          case measure => simp [intOf]; omega
        · have HB : Hid ((xs.all fun s => decide (s.length ≤ long)) = false) := by
            rw [Hid, List.all_eq_false]
            exact ⟨x, List.mem_of_getElem? HX.out, by simpa using h1⟩
          go_wp2_with fail
          go_ret
          exact ⟨ret_bool (by unfold lightT; rw [HB.out, Bool.and_false]), ξ.h⟩
      · have HB : Hid (lightT many long xs = true) := by
          have hT := HT.out
          rw [List.take_of_length_le (by rw [h.1]; omega)] at hT
          unfold Hid lightT
          rw [HN.out, hT]; rfl
        go_wp2_with fail
        go_ret
        exact ⟨ret_bool HB.out.symm, ξ.h⟩
  · have HN : Hid (lightT many long xs = false) := by
      have : decide (xs.length ≤ many) = false := by rw [h.1]; simpa using hn
      rw [Hid, lightT, this]; rfl
    go_enter Try.func6, Try.ntmps6
    go_wp2_with fail
    go_ret
    exact ⟨ret_bool HN.out.symm, Only.refl _ _⟩
end Go.Proofs.Ytnhaekifcieeoaa
