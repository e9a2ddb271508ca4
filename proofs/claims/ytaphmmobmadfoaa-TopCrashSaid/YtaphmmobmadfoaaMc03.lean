/- Put together: Data, Ord, Txt, Mem. -/
import Derived.Test.YtaphmmobmadfoaaMc02
import Derived.Lib.Bytealg
import Derived.Laws.OwnMore
import Derived.Maps.AppendAt
import Derived.Deep.AppendLies
/- How the data of this program lie in memory: strings, and slices whose elements are laid in cells. -/
namespace Go.Proofs.Ytaphmmobmadfoaa
open Go Go.RowKit
/-- How one element is laid in cells. -/
structure Flat (α : Type) where
  size : Nat
  enc : α → List Value
  len : ∀ x, (enc x).length = size
abbrev File := Str × Str
def strF : Flat Str := ⟨1, fun s => [S s], fun _ => rfl⟩
def fileF : Flat File := ⟨2, fun f => [S f.1, S f.2], fun _ => rfl⟩
/-- The slice value '.slice A n c' reads as 'xs', in blocks below 'w''s size. -/
def SlR {α : Type} (T : Flat α) (w : World) (A : Option Addr) (n : Nat) (xs : List α) : Prop :=
  xs.length = n ∧ (0 < n → ∃ b o, A = some ⟨b, o, none⟩ ∧ b < w.heap.size ∧ ∀ k x, xs[k]? = some x → ∀ j u, (T.enc x)[j]? = some u → w.cell? ⟨b, o + k * T.size + j, none⟩ = some u)
section
variable {α : Type} {T : Flat α} {w v : World} {A : Option Addr} {n : Nat} {xs : List α}
theorem SlR.get (h : SlR T w A n xs) {k : Nat} (hk : k < n) : ∃ b o x, A = some ⟨b, o, none⟩ ∧ b < w.heap.size ∧ xs[k]? = some x ∧
    ∀ j u, (T.enc x)[j]? = some u → w.cell? ⟨b, o + k * T.size + j, none⟩ = some u := by
  obtain ⟨b, o, e, hb, hc⟩ := h.2 (by omega)
  have hl : k < xs.length := by rw [h.1]; exact hk
  exact ⟨b, o, xs[k], e, hb, List.getElem?_eq_getElem hl, hc k _ (List.getElem?_eq_getElem hl)⟩
theorem SlR.none_ : SlR T w none 0 [] := ⟨rfl, fun h => absurd h (by omega)⟩
theorem SlR.nil_ (h : SlR T w A 0 xs) : xs = [] := List.eq_nil_of_length_eq_zero h.1
theorem SlR.keep (h : SlR T w A n xs) (hs : w.heap.size ≤ v.heap.size) (hk : ∀ p : Addr, p.block < w.heap.size → v.cell? p = w.cell? p) : SlR T v A n xs :=
  ⟨h.1, fun hn => by
    obtain ⟨b, o, e, hb, hc⟩ := h.2 hn
    exact ⟨b, o, e, by omega, fun k x hx j u hu => (hk _ hb).trans (hc k x hx j u hu)⟩⟩
theorem SlR.ext (h : SlR T w A n xs) (hx : Ext w v) : SlR T v A n xs := h.keep hx.size fun _ hp => hx.cell hp id
end
theorem files_get {w : World} {A : Option Addr} {n : Nat} {xs : List File} (h : SlR fileF w A n xs) {k : Nat} (hk : k < n) :
    ∃ b o f, A = some ⟨b, o, none⟩ ∧ xs[k]? = some f ∧ (∀ ξ : X w No, ξ.v.cell? ⟨b, o + k * 2, none⟩ = some (S f.1)) ∧ (∀ ξ : X w No, ξ.v.cell? ⟨b, o + k * 2 + 1, none⟩ = some (S f.2)) := by
  obtain ⟨b, o, x, e, hb, hx, hc⟩ := h.get hk
  exact ⟨b, o, x, e, hx, fun ξ => (ξ.h.cell hb id).trans (hc 0 _ rfl), fun ξ => (ξ.h.cell hb id).trans (hc 1 _ rfl)⟩
theorem strs_get {w : World} {A : Option Addr} {n : Nat} {xs : List Str} (h : SlR strF w A n xs) {k : Nat} (hk : k < n) :
    ∃ b o s, A = some ⟨b, o, none⟩ ∧ xs[k]? = some s ∧ (∀ ξ : X w No, ξ.v.cell? ⟨b, o + k, none⟩ = some (S s)) := by
  obtain ⟨b, o, x, e, hb, hx, hc⟩ := h.get hk
  exact ⟨b, o, x, e, hx, fun ξ => (ξ.h.cell hb id).trans (by simpa [strF] using hc 0 _ rfl)⟩
theorem take_grow {α : Type} {xs ys : List α} {k : Nat} {x y : α} (h : xs.take k = ys.take k) (hx : xs[k]? = some x) (hy : ys[k]? = some y) (e : x = y) : xs.take (k + 1) = ys.take (k + 1) := by
  rw [List.take_add_one, List.take_add_one, h, hx, hy, e]
theorem ne_at {α : Type} {xs ys : List α} {k : Nat} {x y : α} (hx : xs[k]? = some x) (hy : ys[k]? = some y) (e : x ≠ y) : xs ≠ ys := by
  intro h; subst h; rw [hx] at hy; exact e (Option.some.inj hy)
theorem eq_of_take {α : Type} {xs ys : List α} {k n : Nat} (h : xs.take k = ys.take k) (hx : xs.length = n) (hy : ys.length = n) (hk : n ≤ k) : xs = ys := by
  rw [List.take_of_length_le (by omega), List.take_of_length_le (by omega)] at h; exact h
theorem ret_bool {a b : Bool} (h : a = b) : Ending.returned (.bool a) = .returned (.bool b) := by rw [h]
end Go.Proofs.Ytaphmmobmadfoaa

/- The order of texts, and lists that rise by a key. -/
namespace Go.Proofs.Ytaphmmobmadfoaa
open Go Go.RowKit
theorem slt_trans {a b c : Str} (h : a < b) (k : b < c) : a < c := List.lt_trans h k
theorem slt_irrefl (a : Str) : ¬ a < a := List.lt_irrefl a
theorem slt_asymm {a b : Str} (h : a < b) : ¬ b < a := List.lt_asymm h
theorem sle_iff {a b : Str} : a ≤ b ↔ ¬ b < a := List.not_lt.symm
theorem seq_of {a b : Str} (h : ¬ a < b) (k : ¬ b < a) : a = b := List.le_antisymm (List.not_lt.1 k) (List.not_lt.1 h)
theorem slt_of_le_ne {a b : Str} (h : a ≤ b) (k : a ≠ b) : a < b := by
  by_cases hl : a < b
  · exact hl
  · exact absurd (seq_of hl (sle_iff.1 h)) k
theorem slt_ne {a b : Str} (h : a < b) : a ≠ b := fun e => slt_irrefl b (e ▸ h)
theorem sle_lt_trans {a b c : Str} (h : a ≤ b) (k : b < c) : a < c := by
  by_cases e : a = b
  · exact e ▸ k
  · exact slt_trans (slt_of_le_ne h e) k
theorem slt_le_trans {a b c : Str} (h : a < b) (k : b ≤ c) : a < c := by
  by_cases e : b = c
  · exact e ▸ h
  · exact slt_trans h (slt_of_le_ne k e)
theorem cmp_cases : ∀ a b : Str, (Lib.compareBytes a b = -1 ∧ a < b) ∨ (Lib.compareBytes a b = 0 ∧ a = b) ∨ (Lib.compareBytes a b = 1 ∧ b < a)
  | [], [] => .inr (.inl ⟨rfl, rfl⟩)
  | [], _ :: _ => .inl ⟨rfl, by simp⟩
  | _ :: _, [] => .inr (.inr ⟨rfl, by simp⟩)
  | x :: a, y :: b => by
    unfold Lib.compareBytes
    by_cases h : x < y
    · exact .inl ⟨if_pos h, List.cons_lt_cons_iff.2 (.inl h)⟩
    · rw [if_neg h]
      by_cases h' : y < x
      · exact .inr (.inr ⟨if_pos h', List.cons_lt_cons_iff.2 (.inl h')⟩)
      · rw [if_neg h']
        obtain rfl : x = y := UInt8.le_antisymm (UInt8.not_lt.1 h') (UInt8.not_lt.1 h)
        rcases cmp_cases a b with ⟨h1, h2⟩ | ⟨h1, h2⟩ | ⟨h1, h2⟩
        · exact .inl ⟨h1, List.cons_lt_cons_iff.2 (.inr ⟨rfl, h2⟩)⟩
        · exact .inr (.inl ⟨h1, by rw [h2]⟩)
        · exact .inr (.inr ⟨h1, List.cons_lt_cons_iff.2 (.inr ⟨rfl, h2⟩)⟩)
/-- What strings.Compare returns. -/
def cmpS (a b : Str) : Int := Lib.compareBytes a b
theorem cmpS_lt (a b : Str) : decide (cmpS a b < 0) = decide (a < b) := by
  unfold cmpS
  rcases cmp_cases a b with ⟨h1, h2⟩ | ⟨h1, h2⟩ | ⟨h1, h2⟩ <;> rw [h1]
  · simp [h2]
  · subst h2; simp [slt_irrefl]
  · simp [slt_asymm h2]
theorem cmpS_eq (a b : Str) : (cmpS a b == 0) = decide (a = b) := by
  unfold cmpS
  rcases cmp_cases a b with ⟨h1, h2⟩ | ⟨h1, h2⟩ | ⟨h1, h2⟩ <;> rw [h1]
  · simp [slt_ne h2]
  · simp [h2]
  · simp [(slt_ne h2).symm]
theorem cmpS_bd (a b : Str) : -1 ≤ cmpS a b ∧ cmpS a b ≤ 1 := by
  unfold cmpS
  rcases cmp_cases a b with ⟨h1, h2⟩ | ⟨h1, h2⟩ | ⟨h1, h2⟩ <;> omega
theorem bytesLess_eq : ∀ a b : Str, Op.bytesLess a b = decide (a < b)
  | [], [] => by simp [Op.bytesLess]
  | [], _ :: _ => by simp [Op.bytesLess]
  | _ :: _, [] => by simp [Op.bytesLess]
  | x :: a, y :: b => by
    unfold Op.bytesLess
    rw [bytesLess_eq a b, Bool.eq_iff_iff]
    simp [List.cons_lt_cons_iff]
/-- a < b, a ≤ b, as the walk has them. -/
def ltB (a b : Str) : Bool := decide (a < b)
def leB (a b : Str) : Bool := decide (a ≤ b)
theorem ltB_true {a b : Str} (h : ltB a b = true) : a < b := of_decide_eq_true h
theorem ltB_false {a b : Str} (h : ltB a b = false) : ¬ a < b := of_decide_eq_false h
theorem leB_true {a b : Str} (h : leB a b = true) : a ≤ b := of_decide_eq_true h
theorem leB_false {a b : Str} (h : leB a b = false) : b < a := by
  have := of_decide_eq_false h
  rw [sle_iff] at this
  exact Classical.not_not.1 this
theorem toList_loop (b : ByteArray) (i : Nat) (r : List UInt8) : ByteArray.toList.loop b i r = r.reverse ++ b.data.toList.drop i := by
  rw [ByteArray.toList.loop]
  split
  · rename_i h
    rw [toList_loop b (i+1)]
    have hi : i < b.data.toList.length := by simpa using h
    rw [List.drop_eq_getElem_cons hi]
    have : b.get! i = b.data.toList[i] := by
      simp [ByteArray.get!]
      rw [getElem!_pos b.data i (by simpa using hi)]
    simp [this]
  · rename_i h
    rw [List.drop_eq_nil_of_le (by simpa using h)]; simp
termination_by b.size - i
theorem toList_S (a : List UInt8) : ByteArray.toList ⟨a.toArray⟩ = a := by
  unfold ByteArray.toList
  rw [toList_loop]; simp
@[go_sem high] theorem lss_S (t : TypeId) (a b : Str) : binOp .lss t (.string ⟨a.toArray⟩) (.string ⟨b.toArray⟩) = pure (.bool (ltB a b)) := by
  simp [binOp, Op.stringOp, toList_S, bytesLess_eq, ltB]
@[go_sem high] theorem leq_S (t : TypeId) (a b : Str) : binOp .leq t (.string ⟨a.toArray⟩) (.string ⟨b.toArray⟩) = pure (.bool (leB a b)) := by
  have : (decide (a < b) || a == b) = leB a b := by
    unfold leB
    rw [Bool.eq_iff_iff]
    simp only [Bool.or_eq_true, decide_eq_true_eq, beq_iff_eq]
    constructor
    · rintro (h | rfl)
      · exact sle_iff.2 (slt_asymm h)
      · exact sle_iff.2 (slt_irrefl _)
    · intro h
      by_cases e : a = b
      · exact .inr e
      · exact .inl (slt_of_le_ne h e)
  simp [binOp, Op.stringOp, toList_S, bytesLess_eq, this]
section
variable {α : Type} (key : α → Str)
/-- The list rises by its key. -/
def Rise (l : List α) : Prop := l.Pairwise fun a b => key a < key b
/-- How many stand ahead of a key. -/
def posOf (l : List α) (k : Str) : Nat := (l.takeWhile fun x => ltB (key x) k).length
variable {key}
theorem Rise.at_lt {l : List α} (h : Rise key l) {i j : Nat} (hij : i < j) {x y : α} (hx : l[i]? = some x) (hy : l[j]? = some y) : key x < key y := by
  obtain ⟨hi, rfl⟩ := List.getElem?_eq_some_iff.1 hx
  obtain ⟨hj, rfl⟩ := List.getElem?_eq_some_iff.1 hy
  exact List.pairwise_iff_getElem.1 h i j hi hj hij
theorem posOf_le (l : List α) (k : Str) : posOf key l k ≤ l.length := by
  unfold posOf
  induction l with
  | nil => simp
  | cons x l ih =>
    rw [List.takeWhile_cons]
    split
    · simp; exact ih
    · simp
/-- What a binary search ends at. -/
theorem posOf_of {l : List α} {k : Str} {i : Nat} (hi : i ≤ l.length) (h1 : ∀ j x, j < i → l[j]? = some x → key x < k) (h2 : ∀ x, l[i]? = some x → ¬ key x < k) : posOf key l k = i := by
  unfold posOf
  induction l generalizing i with
  | nil => simp at hi; simp [hi]
  | cons x l ih =>
    rw [List.takeWhile_cons]
    cases i with
    | zero =>
      have : ltB (key x) k = false := decide_eq_false (h2 x rfl)
      simp [this]
    | succ i =>
      have : ltB (key x) k = true := decide_eq_true (h1 0 x (by omega) rfl)
      simp only [this, if_true, List.length_cons]
      rw [ih (by simpa using hi) (fun j y hj hy => h1 (j + 1) y (by omega) (by simpa using hy)) (fun y hy => h2 y (by simpa using hy))]
end
end Go.Proofs.Ytaphmmobmadfoaa

/- Parts of texts, as the walk has them. -/
namespace Go.Proofs.Ytaphmmobmadfoaa
open Go Go.RowKit
theorem S_extract (l : Str) (i j : Nat) : (⟨l.toArray⟩ : ByteArray).extract i j = ⟨((l.take j).drop i).toArray⟩ := by
  apply ByteArray.ext
  rw [ByteArray.data_extract]
  simp
  rw [List.drop_take]
theorem eql_lit (l : Str) (k : List UInt8) : ((⟨l.toArray⟩ : ByteArray).toList == k) = (l == k) := by rw [toList_S]
attribute [go_sem] S_extract eql_lit List.take_succ_cons List.drop_succ_cons List.drop_zero List.take_zero List.take_length
end Go.Proofs.Ytaphmmobmadfoaa

/- Blocks that are known whole, and rows that the call owns. -/
namespace Go.Proofs.Ytaphmmobmadfoaa
open Go Go.RowKit
/-- Block 'g' is just the cells 'cs' of element type 't', none frozen. -/
def Cs (w : World) (g : Nat) (t : TypeId) (cs : Array Value) : Prop := w.heap[g]? = some (.cells cs t (0, 0))
section
variable {w v : World} {g : Nat} {t : TypeId} {cs : Array Value} {F : Nat → Prop}
theorem Cs.lt (h : Cs w g t cs) : g < w.heap.size := by
  rcases Nat.lt_or_ge g w.heap.size with hlt | hge
  · exact hlt
  · unfold Cs at h; rw [Array.getElem?_eq_none hge] at h; cases h
theorem Cs.cell (h : Cs w g t cs) (i : Nat) : w.cell? ⟨g, i, none⟩ = cs[i]? := cell_of_row w g i cs t (0, 0) h
theorem Cs.frozen (h : Cs w g t cs) (i : Nat) : w.frozen? ⟨g, i, none⟩ = false := by
  unfold Cs at h
  simp [World.frozen?, h]
theorem Cs.new (w : World) (t : TypeId) (cs : Array Value) : Cs (w.alloc (.cells cs t)) w.heap.size t cs := heap_alloc_new w _
theorem Cs.drew (h : Cs w g t cs) : Cs w.drew g t cs := h
theorem Cs.drewN (h : Cs w g t cs) (n : Nat) : Cs (w.drewN n) g t cs := h
theorem Cs.alloc (h : Cs w g t cs) (o : Obj) : Cs (w.alloc o) g t cs := (Below.heap_alloc w o g h.lt).trans h
theorem Cs.set_ (h : Cs w g t cs) (i : Nat) (u : Value) : Cs (w.setCell ⟨g, i, none⟩ u) g t (cs.setIfInBounds i u) := by
  unfold Cs at h ⊢
  simp [World.setCell, Array.getElem?_modify, h]
theorem Cs.far (h : Cs w g t cs) {p : Addr} (hp : g ≠ p.block) (u : Value) : Cs (w.setCell p u) g t cs := (Below.heap_setCell w p u g hp).trans h
theorem Cs.keep (h : Cs w g t cs) (hx : Only F w v) (hg : ¬ F g) : Cs v g t cs := (hx.block g h.lt hg).trans h
theorem Cs.ne_ {g' : Nat} {t' : TypeId} {cs' : Array Value} (h : Cs w g t cs) (h' : Cs w g' t' cs') (hne : t ≠ t') : g ≠ g' := by
  rintro rfl
  unfold Cs at h h'
  rw [h] at h'
  injection h' with h'
  injection h' with _ ht
  exact hne ht
end
theorem own_keep {w v : World} {F : Nat → Prop} {B : Nat} {e : TypeId} {size n : Nat} {x : Value} {xs : List Value} (h : w.ownsRow B e size x n xs) (hx : Only F w v) (hn : ∀ g, x.ownBlock = some g → ¬ F g) : v.ownsRow B e size x n xs := by
  obtain ⟨h1, h2⟩ := h
  refine ⟨h1, ?_⟩
  rcases h2 with h2 | ⟨g, cap, cur, hv, hg, hh, r⟩
  · exact Or.inl h2
  · refine Or.inr ⟨g, cap, cur, hv, hg, ?_, r⟩
    rw [hx.block g (Array.getElem?_eq_some_iff.1 hh).1 (hn g (by rw [hv]; rfl))]
    exact hh
theorem Cs.x {w : World} {g : Nat} {t : TypeId} {cs : Array Value} {F : Nat → Prop} (h : Cs w g t cs) (hg : ¬ F g) (i : Nat) : ∀ ξ : X w F, ξ.v.cell? ⟨g, i, none⟩ = cs[i]? := fun ξ => (h.keep ξ.h hg).cell i
/-- Storing over one element of a row of the call's own (elements of one cell). -/
theorem Cs.of_own {w : World} {B : Nat} {e : TypeId} {size g n cap : Nat} {xs : List Value} (h : w.ownsRow B e size (.slice (some ⟨g, 0, none⟩) n cap) n xs) : ∃ cur, Cs w g e cur := by
  rcases h.2 with ⟨h2, _⟩ | ⟨g', cap', cur, hv, hb, hh, _⟩
  · cases h2
  · injection hv with hv1 hv2 hv3
    injection hv1 with hv1
    injection hv1 with hv1
    subst hv1
    exact ⟨cur, hh⟩
theorem own_set {w : World} {B : Nat} {e : TypeId} {g n cap : Nat} {xs : List Value} (h : w.ownsRow B e 1 (.slice (some ⟨g, 0, none⟩) n cap) n xs) (k : Nat) (hk : k < n) (u : Value) :
    (w.setCell ⟨g, k, none⟩ u).ownsRow B e 1 (.slice (some ⟨g, 0, none⟩) n cap) n (xs.set k u) := by
  obtain ⟨h1, h2⟩ := h
  refine ⟨by simpa using h1, .inr ?_⟩
  rcases h2 with ⟨h2, _⟩ | ⟨g', cap', cur, hv, hb, hh, hn, hc, hs, ht⟩
  · cases h2
  · injection hv with hv1 hv2 hv3
    injection hv1 with hv1
    injection hv1 with hv1
    subst hv1; subst hv3
    refine ⟨g, cap, cur.setIfInBounds k u, rfl, hb, ?_, hn, hc, by simpa using hs, ?_⟩
    · simp [World.setCell, Array.getElem?_modify, hh]
    · rw [Array.toList_setIfInBounds, List.take_set, ht]
end Go.Proofs.Ytaphmmobmadfoaa
