/- Put together: OpenBl, Mem, Ord, Txt, Fnd, CutB, Cut, Exp, Spl, Own, Own2, Clone, Strs. -/
import Derived.Test.YtnhaekifcieeoaaGreatDoorPk01
import Derived.Laws.OwnMore
import Derived.Maps.AppendAt
import Derived.Deep.AppendLies
import Derived.Lib.Bytealg
import Derived.RangeFuncNested
import Derived.RangeFuncBound
import Derived.RangeFuncCalls
import Derived.RangeFuncLeaves
import Derived.RangeFuncBox
import Derived.Shelf.Abstract
import Derived.WalkKit
import Derived.OwnWalkIn
import Derived.TacticsInMore
import Derived.LoopNIn
import Derived.LoopIn
import Derived.Test.YtnhaekifcieeoaaGreatDoorProg
import Derived.Lib.IndexMore
import Derived.Test.YtnhaekifcieeoaaGreatDoorPkS
import Derived.Lib.SplitLaws
import Derived.Lib.AppendZerosOnto
import Derived.Lib.Overlaps
namespace Go.Proofs.YtnhaekifcieeoaaGreatDoor
open Go Go.RowKit Go.ChangeShapes Go.WideShapes Go.Deep
def boolF : Flat Bool := ⟨1, fun b => [.bool b], fun _ => rfl⟩
section
variable {H : Type} {enc : TypeId × Value → H} {w : World} {base : Nat} {held : Bool}
set_option maxRecDepth 100000 in
theorem open_bools_ {fuel : Nat} {v0 : Value} {x : DataW H × List MemPlace} (h : DataW.trod enc Tryz.prog w base allP held fuel 51 [v0] = some x) :
    ∃ A n c xs, v0 = .slice A n c ∧ SlR boolF w A n xs ∧ n ≤ maxLen := by
  rcases open_slice Tryz.underlying51 h with ⟨h0, _⟩ | ⟨a, len, cap, m, n, D, Pl, hcs, _, hl, hm, hmm, _, hi⟩
  · injection h0 with h0; exact ⟨none, 0, 0, [], h0, SlR.none_, Nat.zero_le _⟩
  · injection hcs with hcs
    obtain ⟨xs, hxl, hx⟩ := list_of len (fun i (s : Bool) => w.cell? (a.add i) = some (.bool s)) fun i hi' => by
      obtain ⟨cs', hc, ht'⟩ := hi i (by rw [hmm]; simp only [allP, if_true]; omega)
      have hC : Tryz.prog.cellsOf 4 = 1 := by kernel_rfl
      rw [hC] at hc
      obtain ⟨_, hcl, hat⟩ := World.cells?_some hc
      have h0 := hat 0 (by omega)
      obtain ⟨v0, rfl⟩ : ∃ v0, cs' = [v0] := by
        match cs', hcl with
        | [v0], _ => exact ⟨v0, rfl⟩
      obtain ⟨s, hs⟩ := open_b Tryz.underlying4 ht'
      refine ⟨s, ?_⟩
      rw [hs] at h0
      simpa [add_add] using h0
    refine ⟨some a, len, cap, xs, hcs, ⟨hxl, fun h0 => ?_⟩, by omega⟩
    have hx0 := hx 0 (xs[0]'(by omega)) (List.getElem?_eq_getElem (by omega))
    obtain ⟨b, o, s⟩ := a
    have hs : s = none := by simpa [Addr.add] using World.cell?_spot hx0
    subst hs
    refine ⟨b, o, rfl, by simpa [Addr.add] using World.block_lt_of_cell? _ _ hx0, fun k x hk j u hu => ?_⟩
    have := hx k x hk
    match j, hu with
    | 0, hu =>
      injection hu with hu
      rw [← hu, Nat.add_zero, show boolF.size = 1 from rfl, Nat.mul_one]
      unfold Addr.add at this
      split at this
      · rename_i e; subst e; simpa using this
      · exact this
set_option maxRecDepth 100000 in
theorem bools_cap {fuel : Nat} {A : Option Addr} {n c : Nat} {x : DataW H × List MemPlace} (h : DataW.trod enc Tryz.prog w base allP held fuel 51 [.slice A n c] = some x) : n ≤ c := by
  rcases open_slice Tryz.underlying51 h with ⟨h0, _⟩ | ⟨a, len, cap, m, n', D, Pl, hcs, _, hl, _⟩
  · injection h0 with h0
    injection h0 with h1 h2 h3
    omega
  · injection hcs with hcs
    injection hcs with h1 h2 h3
    omega
set_option maxRecDepth 100000 in
theorem arg_boolsc {r : Reach} {b0 : Nat} {v : Value} {d : DataW H} {p : List MemPlace} (hv : Value.okWide Tryz.prog w r b0 51 v) (h : DataW.Trod enc Tryz.prog w base allP held 51 v d p) :
    ∃ A n c xs, v = .slice A n c ∧ SlR boolF w A n xs ∧ n ≤ maxLen ∧ n ≤ c := by
  obtain ⟨A, n, c, rfl⟩ := okWide_slice Tryz.underlying51 hv
  obtain ⟨fuel, hf⟩ := h
  obtain ⟨A', n', c', xs, e, h1, h2⟩ := open_bools_ (v0 := .slice A n c) hf
  injection e with e1 e2 e3
  subst e1; subst e2; subst e3
  exact ⟨_, _, _, xs, rfl, h1, h2, bools_cap hf⟩
end
def Cs (w : World) (g : Nat) (t : TypeId) (cs : Array Value) : Prop := w.heap[g]? = some (.cells cs t (0, 0))
section
variable {w v : World} {g : Nat} {t : TypeId} {cs : Array Value} {F : Nat → Prop}
theorem Cs.lt (h : Cs w g t cs) : g < w.heap.size := by
  rcases Nat.lt_or_ge g w.heap.size with hlt | hge
  · exact hlt
  · unfold Cs at h; rw [Array.getElem?_eq_none hge] at h; cases h
theorem Cs.cell (h : Cs w g t cs) (i : Nat) : w.cell? ⟨g, i, none⟩ = cs[i]? := cell_of_row w g i cs t (0, 0) h
theorem Cs.frozen (h : Cs w g t cs) (i : Nat) : w.frozen? ⟨g, i, none⟩ = false := by
  unfold Cs at h
  simp [World.frozen?, h]
theorem Cs.new (w : World) (t : TypeId) (cs : Array Value) : Cs (w.alloc (.cells cs t)) w.heap.size t cs := heap_alloc_new w _
theorem Cs.drew (h : Cs w g t cs) : Cs w.drew g t cs := h
theorem Cs.drewN (h : Cs w g t cs) (n : Nat) : Cs (w.drewN n) g t cs := h
theorem Cs.alloc (h : Cs w g t cs) (o : Obj) : Cs (w.alloc o) g t cs := (Below.heap_alloc w o g h.lt).trans h
theorem Cs.set_ (h : Cs w g t cs) (i : Nat) (u : Value) : Cs (w.setCell ⟨g, i, none⟩ u) g t (cs.setIfInBounds i u) := by
  unfold Cs at h ⊢
  simp [World.setCell, Array.getElem?_modify, h]
theorem Cs.far (h : Cs w g t cs) {p : Addr} (hp : g ≠ p.block) (u : Value) : Cs (w.setCell p u) g t cs := (Below.heap_setCell w p u g hp).trans h
theorem Cs.keep (h : Cs w g t cs) (hx : Only F w v) (hg : ¬ F g) : Cs v g t cs := (hx.block g h.lt hg).trans h
theorem Cs.ne_ {g' : Nat} {t' : TypeId} {cs' : Array Value} (h : Cs w g t cs) (h' : Cs w g' t' cs') (hne : t ≠ t') : g ≠ g' := by
  rintro rfl
  unfold Cs at h h'
  rw [h] at h'
  injection h' with h'
  injection h' with _ ht
  exact hne ht
end
theorem own_keep {w v : World} {F : Nat → Prop} {B : Nat} {e : TypeId} {size n : Nat} {x : Value} {xs : List Value} (h : w.ownsRow B e size x n xs) (hx : Only F w v) (hn : ∀ g, x.ownBlock = some g → ¬ F g) : v.ownsRow B e size x n xs := by
  obtain ⟨h1, h2⟩ := h
  refine ⟨h1, ?_⟩
  rcases h2 with h2 | ⟨g, cap, cur, hv, hg, hh, r⟩
  · exact Or.inl h2
  · refine Or.inr ⟨g, cap, cur, hv, hg, ?_, r⟩
    rw [hx.block g (Array.getElem?_eq_some_iff.1 hh).1 (hn g (by rw [hv]; rfl))]
    exact hh
theorem Cs.x {w : World} {g : Nat} {t : TypeId} {cs : Array Value} {F : Nat → Prop} (h : Cs w g t cs) (hg : ¬ F g) (i : Nat) : ∀ ξ : X w F, ξ.v.cell? ⟨g, i, none⟩ = cs[i]? := fun ξ => (h.keep ξ.h hg).cell i
theorem Cs.of_own {w : World} {B : Nat} {e : TypeId} {size g n cap : Nat} {xs : List Value} (h : w.ownsRow B e size (.slice (some ⟨g, 0, none⟩) n cap) n xs) : ∃ cur, Cs w g e cur := by
  rcases h.2 with ⟨h2, _⟩ | ⟨g', cap', cur, hv, hb, hh, _⟩
  · cases h2
  · injection hv with hv1 hv2 hv3
    injection hv1 with hv1
    injection hv1 with hv1
    subst hv1
    exact ⟨cur, hh⟩
theorem slt_trans {a b c : Str} (h : a < b) (k : b < c) : a < c := List.lt_trans h k
theorem slt_irrefl (a : Str) : ¬ a < a := List.lt_irrefl a
theorem slt_asymm {a b : Str} (h : a < b) : ¬ b < a := List.lt_asymm h
theorem sle_iff {a b : Str} : a ≤ b ↔ ¬ b < a := List.not_lt.symm
theorem seq_of {a b : Str} (h : ¬ a < b) (k : ¬ b < a) : a = b := List.le_antisymm (List.not_lt.1 k) (List.not_lt.1 h)
theorem slt_of_le_ne {a b : Str} (h : a ≤ b) (k : a ≠ b) : a < b := by
  by_cases hl : a < b
  · exact hl
  · exact absurd (seq_of hl (sle_iff.1 h)) k
theorem slt_ne {a b : Str} (h : a < b) : a ≠ b := fun e => slt_irrefl b (e ▸ h)
theorem cmp_cases : ∀ a b : Str, (Lib.compareBytes a b = -1 ∧ a < b) ∨ (Lib.compareBytes a b = 0 ∧ a = b) ∨ (Lib.compareBytes a b = 1 ∧ b < a)
  | [], [] => .inr (.inl ⟨rfl, rfl⟩)
  | [], _ :: _ => .inl ⟨rfl, by simp⟩
  | _ :: _, [] => .inr (.inr ⟨rfl, by simp⟩)
  | x :: a, y :: b => by
    unfold Lib.compareBytes
    by_cases h : x < y
    · exact .inl ⟨if_pos h, List.cons_lt_cons_iff.2 (.inl h)⟩
    · rw [if_neg h]
      by_cases h' : y < x
      · exact .inr (.inr ⟨if_pos h', List.cons_lt_cons_iff.2 (.inl h')⟩)
      · rw [if_neg h']
        obtain rfl : x = y := UInt8.le_antisymm (UInt8.not_lt.1 h') (UInt8.not_lt.1 h)
        rcases cmp_cases a b with ⟨h1, h2⟩ | ⟨h1, h2⟩ | ⟨h1, h2⟩
        · exact .inl ⟨h1, List.cons_lt_cons_iff.2 (.inr ⟨rfl, h2⟩)⟩
        · exact .inr (.inl ⟨h1, by rw [h2]⟩)
        · exact .inr (.inr ⟨h1, List.cons_lt_cons_iff.2 (.inr ⟨rfl, h2⟩)⟩)
def cmpS (a b : Str) : Int := Lib.compareBytes a b
theorem cmpS_lt (a b : Str) : decide (cmpS a b < 0) = decide (a < b) := by
  unfold cmpS
  rcases cmp_cases a b with ⟨h1, h2⟩ | ⟨h1, h2⟩ | ⟨h1, h2⟩ <;> rw [h1]
  · simp [h2]
  · subst h2; simp [slt_irrefl]
  · simp [slt_asymm h2]
theorem cmpS_eq (a b : Str) : (cmpS a b == 0) = decide (a = b) := by
  unfold cmpS
  rcases cmp_cases a b with ⟨h1, h2⟩ | ⟨h1, h2⟩ | ⟨h1, h2⟩ <;> rw [h1]
  · simp [slt_ne h2]
  · simp [h2]
  · simp [(slt_ne h2).symm]
theorem bytesLess_eq : ∀ a b : Str, Op.bytesLess a b = decide (a < b)
  | [], [] => by simp [Op.bytesLess]
  | [], _ :: _ => by simp [Op.bytesLess]
  | _ :: _, [] => by simp [Op.bytesLess]
  | x :: a, y :: b => by
    unfold Op.bytesLess
    rw [bytesLess_eq a b, Bool.eq_iff_iff]
    simp [List.cons_lt_cons_iff]
def ltB (a b : Str) : Bool := decide (a < b)
def leB (a b : Str) : Bool := decide (a ≤ b)
theorem ltB_true {a b : Str} (h : ltB a b = true) : a < b := of_decide_eq_true h
theorem leB_true {a b : Str} (h : leB a b = true) : a ≤ b := of_decide_eq_true h
theorem leB_false {a b : Str} (h : leB a b = false) : b < a := by
  have := of_decide_eq_false h
  rw [sle_iff] at this
  exact Classical.not_not.1 this
theorem toList_loop (b : ByteArray) (i : Nat) (r : List UInt8) : ByteArray.toList.loop b i r = r.reverse ++ b.data.toList.drop i := by
  rw [ByteArray.toList.loop]
  split
  · rename_i h
    rw [toList_loop b (i+1)]
    have hi : i < b.data.toList.length := by simpa using h
    rw [List.drop_eq_getElem_cons hi]
    have : b.get! i = b.data.toList[i] := by
      simp [ByteArray.get!]
      rw [getElem!_pos b.data i (by simpa using hi)]
    simp [this]
  · rename_i h
    rw [List.drop_eq_nil_of_le (by simpa using h)]; simp
termination_by b.size - i
theorem toList_S (a : List UInt8) : ByteArray.toList ⟨a.toArray⟩ = a := by
  unfold ByteArray.toList
  rw [toList_loop]; simp
@[go_sem high] theorem lss_S (t : TypeId) (a b : Str) : binOp .lss t (.string ⟨a.toArray⟩) (.string ⟨b.toArray⟩) = pure (.bool (ltB a b)) := by
  simp [binOp, Op.stringOp, toList_S, bytesLess_eq, ltB]
@[go_sem high] theorem leq_S (t : TypeId) (a b : Str) : binOp .leq t (.string ⟨a.toArray⟩) (.string ⟨b.toArray⟩) = pure (.bool (leB a b)) := by
  have : (decide (a < b) || a == b) = leB a b := by
    unfold leB
    rw [Bool.eq_iff_iff]
    simp only [Bool.or_eq_true, decide_eq_true_eq, beq_iff_eq]
    constructor
    · rintro (h | rfl)
      · exact sle_iff.2 (slt_asymm h)
      · exact sle_iff.2 (slt_irrefl _)
    · intro h
      by_cases e : a = b
      · exact .inr e
      · exact .inl (slt_of_le_ne h e)
  simp [binOp, Op.stringOp, toList_S, bytesLess_eq, this]
section
variable {α : Type} (key : α → Str)
def Rise (l : List α) : Prop := l.Pairwise fun a b => key a < key b
def posOf (l : List α) (k : Str) : Nat := (l.takeWhile fun x => ltB (key x) k).length
variable {key}
theorem Rise.at_lt {l : List α} (h : Rise key l) {i j : Nat} (hij : i < j) {x y : α} (hx : l[i]? = some x) (hy : l[j]? = some y) : key x < key y := by
  obtain ⟨hi, rfl⟩ := List.getElem?_eq_some_iff.1 hx
  obtain ⟨hj, rfl⟩ := List.getElem?_eq_some_iff.1 hy
  exact List.pairwise_iff_getElem.1 h i j hi hj hij
theorem posOf_le (l : List α) (k : Str) : posOf key l k ≤ l.length := by
  unfold posOf
  induction l with
  | nil => simp
  | cons x l ih =>
    rw [List.takeWhile_cons]
    split
    · simp; exact ih
    · simp
theorem posOf_of {l : List α} {k : Str} {i : Nat} (hi : i ≤ l.length) (h1 : ∀ j x, j < i → l[j]? = some x → key x < k) (h2 : ∀ x, l[i]? = some x → ¬ key x < k) : posOf key l k = i := by
  unfold posOf
  induction l generalizing i with
  | nil => simp at hi; simp [hi]
  | cons x l ih =>
    rw [List.takeWhile_cons]
    cases i with
    | zero =>
      have : ltB (key x) k = false := decide_eq_false (h2 x rfl)
      simp [this]
    | succ i =>
      have : ltB (key x) k = true := decide_eq_true (h1 0 x (by omega) rfl)
      simp only [this, if_true, List.length_cons]
      rw [ih (by simpa using hi) (fun j y hj hy => h1 (j + 1) y (by omega) (by simpa using hy)) (fun y hy => h2 y (by simpa using hy))]
end
theorem S_extract (l : Str) (i j : Nat) : (⟨l.toArray⟩ : ByteArray).extract i j = ⟨((l.take j).drop i).toArray⟩ := by
  apply ByteArray.ext
  rw [ByteArray.data_extract]
  simp
  rw [List.drop_take]
theorem eql_lit (l : Str) (k : List UInt8) : ((⟨l.toArray⟩ : ByteArray).toList == k) = (l == k) := by rw [toList_S]
attribute [go_sem] S_extract eql_lit List.take_succ_cons List.drop_succ_cons List.drop_zero List.take_zero List.take_length
open Go Go.RowKit Go.Shelf
attribute [local go_sem] Oper.semAt_some
def bseq (xs : List File) (k : Nat) : List (Nat × File) := (List.range k).map fun j => (xs.length - 1 - j, xs.getD (xs.length - 1 - j) ([], []))
theorem bseq_succ (xs : List File) (k : Nat) : bseq xs (k + 1) = bseq xs k ++ [(xs.length - 1 - k, xs.getD (xs.length - 1 - k) ([], []))] := by simp [bseq, List.range_succ]
theorem bseq_length (xs : List File) (k : Nat) : (bseq xs k).length = k := by simp [bseq]
theorem bseq_snd (xs : List File) {k : Nat} (hk : k ≤ xs.length) : (bseq xs k).map (·.2) = xs.reverse.take k := by
  apply List.ext_getElem
  · simp [bseq, hk]
  · intro i h1 h2
    have hi : i < k := by simpa [bseq] using h1
    simp only [bseq, List.getElem_map, List.getElem_range, List.getElem_take, List.getElem_reverse]
    rw [List.getD_eq_getElem?_getD, List.getElem?_eq_getElem (by omega)]
    rfl
def fndL (k : Str) (xs : List File) : Option File := xs.reverse.find? fun y => decide (y.1 = k)
theorem fnd_none {k : Str} {xs : List File} (h : ∀ p ∈ bseq xs xs.length, p.2.1 ≠ k) : fndL k xs = none := by
  unfold fndL
  rw [List.find?_eq_none]
  intro y hy
  have h2 := bseq_snd xs (Nat.le_refl _)
  rw [List.take_of_length_le (by simp)] at h2
  rw [← h2] at hy
  obtain ⟨p, hp, rfl⟩ := List.mem_map.1 hy
  simpa using h p hp
theorem fnd_some {k : Str} {xs : List File} {m : Nat} (hm : m + 1 ≤ xs.length) (h : ∀ p ∈ bseq xs m, p.2.1 ≠ k) (h1 : (xs.getD (xs.length - 1 - m) ([], [])).1 = k) : fndL k xs = some (xs.getD (xs.length - 1 - m) ([], [])) := by
  unfold fndL
  have h2 := bseq_snd xs hm
  rw [bseq_succ, List.map_append] at h2
  have h3 : xs.reverse = (bseq xs m).map (·.2) ++ (xs.getD (xs.length - 1 - m) ([], []) :: xs.reverse.drop (m + 1)) :=
    (List.take_append_drop (m + 1) xs.reverse).symm.trans ((congrArg (· ++ xs.reverse.drop (m + 1)) h2.symm).trans (by simp))
  rw [h3, List.find?_append]
  have h4 : ((bseq xs m).map (·.2)).find? (fun y => decide (y.1 = k)) = none := by
    rw [List.find?_eq_none]
    intro y hy
    obtain ⟨p, hp, rfl⟩ := List.mem_map.1 hy
    simpa using h p hp
  rw [h4, List.find?_cons]
  simp only [decide_eq_true h1, Option.none_or]
theorem ownFrom_const {β : Type} (B : Nat) (p : β → Prop) : OwnFrom B (fun s _ => p s) := fun _ _ _ _ hs _ _ => hs
abbrev kvT : TypeId := 110
set_option maxRecDepth 100000 in
set_option maxHeartbeats 2000000 in
theorem back1_in (F : Fence) (n : Nat) (hf : F.fn 177) (hro : F.round = none) (hn : 1 ≤ n) (l Bs n₀ b off len cap : Nat) (xs : List File) (hlen : xs.length = len) (hl : len ≤ 1000000) (hb : b < n₀) (hBl : Bs < n₀) (J Jx : List (Nat × File) → World → Prop)
    (hY : ∀ pre x W, J pre W → pre.length < len → YieldAt F (n - 1) Tryz.prog l #[.int .i64 (x.1 : Int), .agg #[S x.2.1, S x.2.2]] W fun e W' =>
      (e = .returned (.bool true) ∧ J (pre ++ [x]) W' ∧ Below n₀ W W') ∨ (e = .returned (.bool false) ∧ Jx (pre ++ [x]) W'))
    (W : World) (hBs : W.cell? ⟨Bs, 0, none⟩ = some (.slice (some ⟨b, off, none⟩) len cap)) (hc : ∀ j, j < len → W.cell? ⟨b, off + j * 2, none⟩ = some (S (xs.getD j ([], [])).1) ∧ W.cell? ⟨b, off + j * 2 + 1, none⟩ = some (S (xs.getD j ([], [])).2)) (h0 : J [] W) :
    CallsIn F n Tryz.prog 177 #[.func (.yield l) #[] #[], .pointer (some ⟨Bs, 0, none⟩)] W fun e W' => (∃ v, e = .returned v) ∧
      ((∃ ys, ys = bseq xs len ∧ J ys W') ∨ (∃ pre, (∃ k, k ≤ len ∧ pre = bseq xs k) ∧ Jx pre W')) := by
  refine callsIn_of_wp Tryz.func177 rfl hf ?_ hro
  simp only [Tryz.ntmps177, List.size_toArray, List.length_cons, List.length_nil, Nat.reduceAdd, Nat.reduceSub, Array.replicate_succ, Array.replicate_zero, List.push_toArray, List.append_toArray, List.nil_append, List.cons_append]
  gi_wp2
  gi_loopw [3] (fun i wr => ∃ k : Nat, k ≤ len ∧ i = .int .i64 ((len : Int) - 1 - k) ∧ J (bseq xs k) wr ∧ Below n₀ W wr)
    (fun i _ => (intOf i + 1).toNat)
  case atStart => exact ⟨0, Nat.zero_le _, by simp, h0, Below.refl _ _⟩
  case round =>
    obtain ⟨k, hk, rfl, hJs, hnx⟩ := hrel
    have hBx := (hnx.cell (p := ⟨Bs, 0, none⟩) hBl).trans hBs
    by_cases hlt : k < len
    · obtain ⟨j, hj⟩ : ∃ j : Nat, j = len - 1 - k := ⟨_, rfl⟩
      have hji : (len : Int) - 1 - k = (j : Int) := by omega
      have hjl : j < len := by omega
      have hcx1 := (hnx.cell (p := ⟨b, off + j * 2, none⟩) hb).trans (hc j hjl).1
      have hcx2 := (hnx.cell (p := ⟨b, off + j * 2 + 1, none⟩) hb).trans (hc j hjl).2
      have hs := bseq_succ xs k
      rw [hlen, ← hj] at hs
      obtain ⟨x, hx⟩ : ∃ x, x = xs.getD j ([], []) := ⟨_, rfl⟩
      rw [← hx] at hcx1 hcx2 hs
      obtain ⟨fn, tmps, assign, body, hy, hR⟩ := hY _ (j, x) wr hJs (by rw [bseq_length]; exact hlt)
      dsimp only at hy
      rw [hji]
      have HS := Lib.hid hs
      have HC := Lib.hid hc
      clear hs hx hj hc
      gi_wp2
      refine hR.mono ?_
      rintro e W3 (⟨rfl, hJ3, hk3⟩ | ⟨rfl, hJx3⟩)
      · gi_wp2
        go_roundw
        case rel => exact ⟨k + 1, by omega, (by first | go_num | (congr 1; omega) | simp), (by rw [HS.out]; exact hJ3), hnx.trans hk3⟩
        case measure => simp [intOf] <;> omega
      · gi_wp2
        refine bodyPost_ret (results_none rfl _ _ _) rfl ?_
        exact ⟨⟨_, rfl⟩, .inr ⟨_, ⟨k + 1, by omega, HS.out.symm⟩, hJx3⟩⟩
    · obtain rfl : k = len := by omega
      have hji : (k : Int) - 1 - k = -1 := by omega
      rw [hji]
      gi_wp2
      go_end0
      exact ⟨⟨_, rfl⟩, .inl ⟨_, rfl, hJs⟩⟩
set_option maxRecDepth 100000 in
set_option maxHeartbeats 1000000 in
theorem back1_nil_in (F : Fence) (n : Nat) (hf : F.fn 177) (hro : F.round = none) (l Bs cap : Nat) (A : Option Addr) (J : List (Nat × File) → World → Prop) (W : World) (hBs : W.cell? ⟨Bs, 0, none⟩ = some (.slice A 0 cap)) (h0 : J [] W) :
    CallsIn F n Tryz.prog 177 #[.func (.yield l) #[] #[], .pointer (some ⟨Bs, 0, none⟩)] W fun e W' => (∃ v, e = .returned v) ∧ J [] W' := by
  refine callsIn_of_wp Tryz.func177 rfl hf ?_ hro
  simp only [Tryz.ntmps177, List.size_toArray, List.length_cons, List.length_nil, Nat.reduceAdd, Nat.reduceSub, Array.replicate_succ, Array.replicate_zero, List.push_toArray, List.append_toArray, List.nil_append, List.cons_append]
  gi_wp2
  gi_loopw [3] (fun i wr => i = .int .i64 (-1) ∧ J [] wr) (fun _ _ => 0)
  case atStart => exact ⟨by simp, h0⟩
  case round =>
    obtain ⟨rfl, hJs⟩ := hrel
    gi_wp2
    go_end0
    exact ⟨⟨_, rfl⟩, hJs⟩
set_option maxHeartbeats 1000000 in
theorem back_in (F : Fence) (n : Nat) (hf : F.fn 167) (hro : F.round = none) (a : Option Addr) (len cap : Nat) (w : World) :
    CallsIn F n Tryz.prog 167 #[.slice a len cap] w fun e w' => e = .returned (.func (.func 177) #[] #[.pointer (some ⟨w.heap.size, 0, none⟩)]) ∧ w' = w.alloc (.cells #[.slice a len cap] 25) := by
  refine callsIn_of_wp Tryz.func167 rfl hf ?_ hro
  simp only [Tryz.ntmps167, List.size_toArray, List.length_cons, List.length_nil, Nat.reduceAdd, Nat.reduceSub, Array.replicate_succ, Array.replicate_zero, List.push_toArray, List.append_toArray, List.nil_append, List.cons_append]
  gi_wp2
  go_ret
  exact ⟨rfl, rfl⟩
theorem back_stops (F : Fence) (n : Nat) (hf : F.fn 177) (hro : F.round = none) (hn : 1 ≤ n) (Bs n₀ : Nat) (A : Option Addr) (len cap : Nat) (xs : List File) (hl : len ≤ 1000000) (w : World) (hBl : Bs < n₀) (hn₀ : n₀ = w.heap.size)
    (hc : w.cell? ⟨Bs, 0, none⟩ = some (.slice A len cap)) (hI : SlR fileF w A len xs) :
    SeqStopsK F n Tryz.prog 177 #[.pointer (some ⟨Bs, 0, none⟩)] (fun x : Nat × File => #[Value.int .i64 (x.1 : Int), Value.agg #[S x.2.1, S x.2.2]]) (Below n₀) (fun ys => ys = bseq xs len)
      (fun pre => ∃ k, k ≤ len ∧ pre = bseq xs k) len w := fun l J Jx W hW _ _ hY h0 => by
  subst hn₀
  have hc' := (hW.cell (p := ⟨Bs, 0, none⟩) hBl).trans hc
  by_cases h1 : len = 0
  · subst h1
    exact (back1_nil_in F n hf hro l Bs cap A J W hc' h0).mono fun e W' ⟨he, hj⟩ => ⟨he, .inl ⟨_, rfl, hj⟩⟩
  · obtain ⟨b, o, rfl, hb, hcells⟩ := hI.2 (by omega)
    refine back1_in F n hf hro hn l Bs _ b o len cap xs hI.1 hl hb hBl J Jx hY W hc' (fun j hj => ?_) h0
    have hx : xs[j]? = some (xs.getD j ([], [])) := by
      rw [List.getD_eq_getElem?_getD, List.getElem?_eq_getElem (by rw [hI.1]; exact hj)]; rfl
    exact ⟨(hW.cell (p := ⟨b, _, none⟩) hb).trans (hcells j _ hx 0 _ rfl), (hW.cell (p := ⟨b, _, none⟩) hb).trans (hcells j _ hx 1 _ rfl)⟩
set_option maxRecDepth 100000 in
set_option maxHeartbeats 4000000 in
theorem find_in (F : Fence) (n : Nat) (h1 : F.fn 157) (h2 : F.fn 167) (h3 : F.fn 177) (hro : F.round = none) (hn : 3 ≤ n) (A : Option Addr) (len cap : Nat) (xs : List File) (hl : len ≤ 1000000) (name : Str) (w : World) (hI : SlR fileF w A len xs) :
    CallsIn F n Tryz.prog 157 #[.slice A len cap, S name] w fun e W' => e = .returned (.tuple #[S (((fndL name xs).map (·.2)).getD []), .bool (fndL name xs).isSome]) ∧ Below w.heap.size w W' := by
  have hn1 : 1 ≤ n := by omega
  refine callsIn_of_wp_marks Tryz.func157 rfl h1 ?_ hro
  simp only [Tryz.ntmps157, List.size_toArray, List.length_cons, List.length_nil, Nat.reduceAdd, Nat.reduceSub, Array.replicate_succ, Array.replicate_zero, List.push_toArray, List.append_toArray, List.nil_append, List.cons_append]
  gi_wp2_with (gi_at_call 167; refine (back_in F (n - 1) h2 hro _ _ _ _).mono ?_; rintro e w' ⟨rfl, rfl⟩)
  have b0 := Boxed.new w 9 (S name)
  have b1 := Boxed.new (w.alloc (.cells #[S name] 9)) 9 (S [])
  have b2 := Boxed.new ((w.alloc (.cells #[S name] 9)).alloc (.cells #[S []] 9)) 4 (.bool false)
  have b3 := Boxed.new (((w.alloc (.cells #[S name] 9)).alloc (.cells #[S []] 9)).alloc (.cells #[.bool false] 4)) 25 (.slice A len cap)
  have hX0 : Ext w ((((w.alloc (.cells #[S name] 9)).alloc (.cells #[S []] 9)).alloc (.cells #[.bool false] 4)).alloc (.cells #[.slice A len cap] 25)) := ((((Only.refl No w).alloc _).alloc _).alloc _).alloc _
  have hsz : ((((w.alloc (.cells #[S name] 9)).alloc (.cells #[S []] 9)).alloc (.cells #[.bool false] 4)).alloc (.cells #[.slice A len cap] 25)).heap.size = w.heap.size + 4 := by simp
  have b0' := ((b0.alloc (.cells #[S []] 9)).alloc (.cells #[.bool false] 4)).alloc (.cells #[.slice A len cap] 25)
  have b1' := (b1.alloc (.cells #[.bool false] 4)).alloc (.cells #[.slice A len cap] 25)
  have b2' := b2.alloc (.cells #[.slice A len cap] 25)
  simp only [World.size_alloc] at b1' b2' b3
  clear b0 b1 b2
  change Code.wpIn _ _ _ _ _ _ (World.alloc (((w.alloc (.cells #[S name] 9)).alloc (.cells #[S []] 9)).alloc (.cells #[.bool false] 4)) (.cells #[.slice A len cap] 25))
  obtain ⟨W0, hW0⟩ : ∃ W0, ((((w.alloc (.cells #[S name] 9)).alloc (.cells #[S []] 9)).alloc (.cells #[.bool false] 4)).alloc (.cells #[.slice A len cap] 25)) = W0 := ⟨_, rfl⟩
  rw [hW0] at b0' b1' b2' b3 hX0 hsz ⊢
  clear hW0
  have hB0 : Below w.heap.size w W0 := hX0.toBelow
  refine wpIn_rangeFunc_ownH hro hn1 (gf := 177) (lb := #[.pointer (some ⟨w.heap.size + 1 + 1 + 1, 0, none⟩)]) rfl h3 (enters_of Tryz.func177 (by kernel_rfl) rfl)
    (back_stops F (n - 1) h3 hro (by omega) (w.heap.size + 1 + 1 + 1) W0.heap.size A len cap xs hl W0 (by omega) rfl b3.cell (hI.ext hX0)) belowK_t (belowK_b (Nat.le_refl _)) (Below.refl _ _) (fun _ => rfl)
    (fun pre W => ((Boxed W w.heap.size 9 (S name) ∧ Boxed W (w.heap.size + 1) 9 (S [])) ∧ Boxed W (w.heap.size + 1 + 1) 4 (.bool false)) ∧ (∀ p ∈ pre, p.2.1 ≠ name) ∧ Below w.heap.size W0 W)
    (fun c pre W => (Boxed W (w.heap.size + 1) 9 (S ((pre.getLast?.map (·.2.2)).getD [])) ∧ Boxed W (w.heap.size + 1 + 1) 4 (.bool true)) ∧ (c = .ret ∧ ∃ ini last, pre = ini ++ [last] ∧ (∀ p ∈ ini, p.2.1 ≠ name) ∧ last.2.1 = name) ∧ Below w.heap.size W0 W)
    (OwnFrom.and (OwnFrom.and (OwnFrom.and (Own.from (boxed_own _ _ _) _) (Own.from (boxed_own _ _ _) _)) (Own.from (boxed_own _ _ _) _)) (OwnFrom.and (ownFrom_const _ (fun pre : List (Nat × File) => ∀ p ∈ pre, p.2.1 ≠ name)) (ownFrom_below (w₀ := W0) (by omega) (by omega))))
    (fun c => OwnFrom.and (OwnFrom.and (Own.from (boxed_own _ _ _) _) (Own.from (boxed_own _ _ _) _)) (OwnFrom.and (ownFrom_const _ (fun pre : List (Nat × File) => c = .ret ∧ ∃ ini last, pre = ini ++ [last] ∧ (∀ p ∈ ini, p.2.1 ≠ name) ∧ last.2.1 = name)) (ownFrom_below (w₀ := W0) (by omega) (by omega))))
    ⟨⟨⟨b0', b1'⟩, b2'⟩, by simp, Below.refl _ _⟩
    (fun x a' W => ∃ Bx, (W.cell? ⟨Bx, 0, none⟩ = some (S x.2.1) ∧ W.cell? ⟨Bx, 1, none⟩ = some (S x.2.2)) ∧ a' = { tmps := #[.slice A len cap, S name, undef, .pointer (some ⟨w.heap.size, 0, none⟩), .pointer (some ⟨w.heap.size + 1, 0, none⟩), .pointer (some ⟨w.heap.size + 1 + 1, 0, none⟩), undef, .pointer (some ⟨Bx, 0, none⟩), .slice A len cap, .func (.func 177) #[] #[.pointer (some ⟨w.heap.size + 1 + 1 + 1, 0, none⟩)], .int .i64 (x.1 : Int), .agg #[S x.2.1, S x.2.2], undef, undef, undef, undef, undef, undef], defers := [] })
    (fun x a' _ X Y row hs hg hr => by obtain ⟨Bx, ⟨h1, h2⟩, h3⟩ := hs; exact ⟨Bx, ⟨cell_kept h1 hg (fun r e => (hr r e).2), cell_kept h2 hg (fun r e => (hr r e).2)⟩, h3⟩)
    ?assign ?body ?done ?stop
  case assign =>
    rintro l pre x W K ⟨⟨⟨c0, c1⟩, c2⟩, hp, hB⟩ hK
    have hsW := hB.size
    have hcs : Cs (W.alloc (.cells #[S x.2.1, S x.2.2] kvT)) W.heap.size kvT #[S x.2.1, S x.2.2] := Cs.new W kvT #[S x.2.1, S x.2.2]
    gi_wp2
    exact hK _ _ ((KeepsOthers.alloc _ _).from _) ((Below.refl _ W).alloc hsW _)
      ⟨⟨⟨c0.alloc _, c1.alloc _⟩, c2.alloc _⟩, hp, hB.alloc (by omega) _⟩ ⟨W.heap.size, ⟨hcs.cell 0, hcs.cell 1⟩, rfl⟩
  case body =>
    rintro l pre x a' W hl2 ⟨r, hr⟩ ⟨⟨⟨c0, c1⟩, c2⟩, hp, hB⟩ ⟨Bx, ⟨e1, e2⟩, rfl⟩ hlt
    have d0 := c0.cell
    have d1 := c1.cell
    have d2 := c2.cell
    have f1 := c1.frozen
    have f2 := c2.frozen
    by_cases hx : x.2.1 = name
    · have hq : (x.2.1 == name) = true := by simpa using hx
      gi_wp2
      exact ⟨((KeepsOthers.setCell _ _ _).trans (KeepsOthers.setCell _ _ _)).from _, ⟨(by simpa using ((c1.set (S x.2.2)).other (by omega) (.bool true))), (c2.other (by omega) _).set _⟩, ⟨rfl, pre, x, rfl, hp, hx⟩, (hB.setCell (p := ⟨w.heap.size + 1, 0, none⟩) (by show w.heap.size ≤ w.heap.size + 1; omega) _).setCell (p := ⟨w.heap.size + 1 + 1, 0, none⟩) (by show w.heap.size ≤ w.heap.size + 1 + 1; omega) _⟩
    · have hq : (x.2.1 == name) = false := by simpa using hx
      gi_wp2
      exact ⟨KeepsFrom.refl _ _, Below.refl _ _, ⟨⟨c0, c1⟩, c2⟩, fun p hp' => (List.mem_append.1 hp').elim (hp p) (fun e => by simp at e; subst e; exact hx), hB⟩
  case done =>
    rintro D ys W hD rfl ⟨⟨⟨c0, c1⟩, c2⟩, hp, hB⟩ hK
    have HN := Lib.hid (fnd_none (k := name) (xs := xs) (by have := hI.1; rw [this]; exact hp))
    have d1 := c1.cell
    have d2 := c2.cell
    have f1 := c1.frozen
    have f2 := c2.frozen
    gi_wp2
    have hK' := ((KeepsOthers.setCell W ⟨w.heap.size + 1, 0, none⟩ (S [])).trans (KeepsOthers.setCell _ ⟨w.heap.size + 1 + 1, 0, none⟩ (.bool false))).same D _ hK rfl
    refine ⟨by simp, .inl ⟨_, _, rfl, run_takeDeferred hK', ?_⟩⟩
    have r1 := cell_kept (((c1.set (S [])).other (by omega) (.bool false)).cell : ((W.setCell ⟨w.heap.size + 1, 0, none⟩ (S [])).setCell ⟨w.heap.size + 1 + 1, 0, none⟩ (.bool false)).cell? ⟨w.heap.size + 1, 0, none⟩ = some (S [])) (grownBy_putObj' _ D (.deferred none)) (fun r e => by cases e; exact ⟨_, hK', rfl⟩)
    have r2 := cell_kept (((c2.other (by omega) (S [])).set (.bool false)).cell : ((W.setCell ⟨w.heap.size + 1, 0, none⟩ (S [])).setCell ⟨w.heap.size + 1 + 1, 0, none⟩ (.bool false)).cell? ⟨w.heap.size + 1 + 1, 0, none⟩ = some (.bool false)) (grownBy_putObj' _ D (.deferred none)) (fun r e => by cases e; exact ⟨_, hK', rfl⟩)
    refine ⟨.tuple #[S [], .bool false], ?_, ⟨by rw [HN.out]; rfl, hB0.trans (((hB.setCell (p := ⟨w.heap.size + 1, 0, none⟩) (by show w.heap.size ≤ w.heap.size + 1; omega) _).setCell (p := ⟨w.heap.size + 1 + 1, 0, none⟩) (by show w.heap.size ≤ w.heap.size + 1 + 1; omega) _).trans (belowK_b (w := w) (Nat.le_refl _) _ D _ _ (by omega) hK' rfl rfl))⟩⟩
    simp [results, Tryz.f157, go_sem, r1, r2]
  case stop =>
    rintro D c pre W hD ⟨k, hk, rfl⟩ ⟨⟨c1, c2⟩, ⟨rfl, ini, last, e1, e2, e3⟩, hB⟩ hK
    obtain ⟨m, rfl⟩ : ∃ m, k = m + 1 := by
      cases k with
      | zero => simp [bseq] at e1
      | succ m => exact ⟨m, rfl⟩
    rw [bseq_succ] at e1
    obtain ⟨rfl, e5⟩ := List.append_inj' e1 rfl
    obtain rfl := by simpa using e5
    have HN := Lib.hid (fnd_some (by rw [hI.1]; exact hk) e2 e3)
    rw [bseq_succ, List.getLast?_append] at c1
    gi_wp2
    refine ⟨by simp, .inl ⟨_, _, rfl, run_takeDeferred hK, ?_⟩⟩
    have r1 := cell_kept c1.cell (grownBy_putObj' _ D (.deferred none)) (fun r e => by cases e; exact ⟨_, hK, rfl⟩)
    have r2 := cell_kept c2.cell (grownBy_putObj' _ D (.deferred none)) (fun r e => by cases e; exact ⟨_, hK, rfl⟩)
    refine ⟨.tuple #[S (xs.getD (xs.length - 1 - m) ([], [])).2, .bool true], ?_, ⟨by rw [HN.out]; rfl, hB0.trans (hB.trans (belowK_b (w := w) (Nat.le_refl _) _ D _ _ (by omega) hK rfl rfl))⟩⟩
    simp [results, Tryz.f157, go_sem, r1, r2]
theorem vfind_c {A : Option Addr} {len cap : Nat} {xs : List File} (hl : len ≤ 1000000) (name : Str) {w : World} (hI : SlR fileF w A len xs) :
    Calls Tryz.prog 157 #[.slice A len cap, S name] w fun e w' => e = .returned (.tuple #[S (((fndL name xs).map (·.2)).getD []), .bool (fndL name xs).isSome]) ∧ Ext w w' := by
  refine (callsIn_wide (n := 3)).1 ((find_in Fence.wide 3 trivial trivial trivial rfl (by omega) A len cap xs hl name w hI).mono ?_)
  rintro e w' ⟨rfl, h⟩
  exact ⟨rfl, Only.below h⟩
def cutB (c : UInt8) : Str → Str × Str × Bool
  | [] => ([], [], false)
  | x :: s => if x = c then ([], s, true) else (x :: (cutB c s).1, (cutB c s).2.1, (cutB c s).2.2)
theorem index_byte_cons (c x : UInt8) (s : Str) : Lib.index (x :: s) [c] = if x = c then 0 else if Lib.index s [c] = -1 then -1 else Lib.index s [c] + 1 := by
  have e : List.isPrefixOf [c] (x :: s) = decide (x = c) := by
    simp only [List.isPrefixOf, Bool.and_true]
    by_cases h : x = c
    · simp [h]
    · simp [h, Ne.symm h]
  rw [Lib.index, e]
  simp
theorem cut_byte (c : UInt8) : ∀ s : Str, Lib.cut s [c] = cutB c s
  | [] => by simp [Lib.cut, Lib.index, cutB]
  | x :: s => by
    have ih := cut_byte c s
    have hg := Lib.index_ge s [c]
    unfold Lib.cut at ih ⊢
    rw [index_byte_cons]
    unfold cutB
    by_cases h : x = c
    · simp [h]
    · rw [if_neg h, if_neg h, ← ih]
      by_cases h1 : Lib.index s [c] = -1
      · rw [h1]; simp
      · rw [if_neg h1]
        obtain ⟨i, hi⟩ : ∃ i : Nat, Lib.index s [c] = i := ⟨(Lib.index s [c]).toNat, by omega⟩
        rw [hi]
        have e1 : (0 : Int) ≤ (i : Int) + 1 := by omega
        have e2 : (0 : Int) ≤ (i : Int) := by omega
        have e3 : ((i : Int) + 1).toNat = i + 1 := by omega
        simp [e1, e2, e3]
theorem SCut_c (s sep : Str) (hs : s.length < 4294967281) {w : World} (hm : Ml w) :
    Calls Tryz.prog 67 #[S s, S sep] w fun e w' => e = .returned (.tuple #[S (Lib.cut s sep).1, S (Lib.cut s sep).2.1, .bool (Lib.cut s sep).2.2]) ∧ Ext w w' := by
  obtain ⟨m, hm⟩ := hm
  refine (Tryz.strings_Cut ⟨s.toArray⟩ ⟨sep.toArray⟩ m w hs hm).mono ?_
  rintro e w' ⟨rfl, n, rfl⟩
  exact ⟨rfl, (Only.refl No w).drewN n⟩
theorem BCut_c (s : Str) (c : UInt8) (hs : s.length < 4294967281) {w : World} (hm : Ml w) :
    Calls Tryz.prog 67 #[S s, S [c]] w fun e w' => e = .returned (.tuple #[S (cutB c s).1, S (cutB c s).2.1, .bool (cutB c s).2.2]) ∧ Ext w w' := by
  have := SCut_c s [c] hs hm
  rwa [cut_byte] at this
theorem cutB_len (c : UInt8) : ∀ s : Str, (cutB c s).1.length + (cutB c s).2.1.length ≤ s.length
  | [] => by simp [cutB]
  | x :: s => by
    have := cutB_len c s
    unfold cutB
    split
    · simp
    · simp only [List.length_cons]; omega
def varB (s : Str) : Bool := (s.all fun c => decide (65 ≤ c.toNat) && decide (c.toNat ≤ 90)) && !(s == []) && decide (s.length ≤ 4)
abbrev dlr : Str := [36, 40]
def expL (l : List File) (rec : Str → Str × Int) : Nat → Str → Str → Str × Int
  | 0, _, _ => ([], 0)
  | f + 1, s, out =>
    if (Lib.cut s dlr).2.2 = false then (if 600 < (out ++ (Lib.cut s dlr).1).length then ([], 2) else (out ++ (Lib.cut s dlr).1, 0))
    else if (cutB 41 (Lib.cut s dlr).2.1).2.2 = false ∨ varB (cutB 41 (Lib.cut s dlr).2.1).1 = false then ([], 4)
    else match fndL (cutB 41 (Lib.cut s dlr).2.1).1 l with
      | none => ([], 5)
      | some v => if (rec v.2).2 ≠ 0 then ([], (rec v.2).2) else if 600 < (out ++ (Lib.cut s dlr).1 ++ (rec v.2).1).length then ([], 2) else expL l rec f (cutB 41 (Lib.cut s dlr).2.1).2.1 (out ++ (Lib.cut s dlr).1 ++ (rec v.2).1)
def exp (l : List File) : Nat → Str → Str × Int
  | 0, _ => ([], 9)
  | d + 1, s => expL l (exp l d) (s.length + 1) s []
theorem cut_len (s sep : Str) : (Lib.cut s sep).1.length + (Lib.cut s sep).2.1.length ≤ s.length := by
  unfold Lib.cut
  split
  · rename_i h
    simp only [List.length_take, List.length_drop]
    have : (Lib.index s sep).toNat ≤ s.length ∨ s.length < (Lib.index s sep).toNat := by omega
    rcases this with h1 | h1
    · omega
    · omega
  · simp
theorem cut_lt {s sep : Str} (hsep : sep ≠ []) (h : (Lib.cut s sep).2.2 = true) : (Lib.cut s sep).2.1.length < s.length := by
  have hp : 0 < sep.length := List.length_pos_iff.2 hsep
  unfold Lib.cut at h ⊢
  split
  · rename_i hi
    simp only [List.length_drop]
    have hs : 0 < s.length := by
      cases s with
      | nil =>
        exfalso
        unfold Lib.index at hi
        rw [if_neg (by simpa using hsep)] at hi
        omega
      | cons _ _ => simp
    omega
  · rename_i hi
    rw [if_neg hi] at h
    cases h
theorem expL_bound {l : List File} {rec : Str → Str × Int} : ∀ (f : Nat) (s out : Str), (expL l rec f s out).1.length ≤ 600
  | 0, _, _ => by simp [expL]
  | f + 1, s, out => by
    unfold expL
    split
    · split
      · simp
      · rename_i h; show (out ++ (Lib.cut s dlr).1).length ≤ 600; omega
    · split
      · simp
      · split
        · simp
        · split
          · simp
          · split
            · simp
            · exact expL_bound f _ _
theorem exp_bound (l : List File) : ∀ (d : Nat) (s : Str), (exp l d s).1.length ≤ 600
  | 0, _ => by simp [exp]
  | d + 1, s => expL_bound _ _ _
theorem expL_nonneg {l : List File} {rec : Str → Str × Int} (hr : ∀ s, 0 ≤ (rec s).2) : ∀ (f : Nat) (s out : Str), 0 ≤ (expL l rec f s out).2
  | 0, _, _ => by simp [expL]
  | f + 1, s, out => by
    unfold expL
    split
    · split <;> simp
    · split
      · simp
      · split
        · simp
        · split
          · exact hr _
          · split
            · simp
            · exact expL_nonneg hr f _ _
theorem exp_nonneg (l : List File) : ∀ (d : Nat) (s : Str), 0 ≤ (exp l d s).2
  | 0, _ => by simp [exp]
  | d + 1, s => expL_nonneg (exp_nonneg l d) _ _ _
def splB (c : UInt8) : Str → List Str
  | [] => [[]]
  | x :: s => if x = c then [] :: splB c s else match splB c s with
    | h :: t => (x :: h) :: t
    | [] => [[x]]
theorem splB_ne (c : UInt8) : ∀ s : Str, splB c s ≠ []
  | [] => by simp [splB]
  | x :: s => by
    unfold splB
    split
    · simp
    · split <;> simp
theorem splB_cons (c x : UInt8) (s : Str) : splB c (x :: s) = if x = c then [] :: splB c s else match splB c s with
    | h :: t => (x :: h) :: t
    | [] => [[x]] := rfl
theorem cutB_cons (c x : UInt8) (s : Str) : cutB c (x :: s) = if x = c then ([], s, true) else (x :: (cutB c s).1, (cutB c s).2.1, (cutB c s).2.2) := rfl
theorem splB_cut (c : UInt8) : ∀ s : Str, splB c s = if (cutB c s).2.2 then (cutB c s).1 :: splB c (cutB c s).2.1 else [s]
  | [] => by simp [splB, cutB]
  | x :: s => by
    have ih := splB_cut c s
    rw [splB_cons, cutB_cons]
    by_cases h : x = c
    · simp [h]
    · rw [if_neg h, if_neg h, ih]
      cases (cutB c s).2.2 <;> simp
theorem cut_parts (c : UInt8) : ∀ s : Str, (cutB c s).2.2 = true → s = (cutB c s).1 ++ c :: (cutB c s).2.1
  | [], h => by simp [cutB] at h
  | x :: s, h => by
    unfold cutB at h ⊢
    by_cases hx : x = c
    · simp [hx]
    · rw [if_neg hx] at h ⊢
      rw [List.cons_append, ← cut_parts c s h]
theorem index_cut (c : UInt8) (s : Str) : Lib.index s [c] = if (cutB c s).2.2 then ((cutB c s).1.length : Int) else -1 := by
  have h := cut_byte c s
  have hg := Lib.index_ge s [c]
  unfold Lib.cut at h
  by_cases h0 : 0 ≤ Lib.index s [c]
  · rw [if_pos h0] at h
    rw [← h]
    have := Lib.index_room s [c] h0
    simp only [List.length_take, if_true, List.length_cons, List.length_nil] at this ⊢
    omega
  · rw [if_neg h0] at h
    rw [← h]
    simp; omega
theorem splitK_byte (c : UInt8) : ∀ (n : Nat) (s : Str), s.length ≤ n → Lib.splitK [c] 0 (Lib.count s [c]) s = splB c s ∧ Lib.count s [c] + 1 = (splB c s).length
  | n, s, hn => by
    have hi := index_cut c s
    rw [splB_cut]
    by_cases hb : (cutB c s).2.2 = true
    · rw [if_pos hb] at hi
      rw [if_pos hb]
      have hp := cut_parts c s hb
      have hl : ∀ a b : Str, s = a ++ c :: b → s.length = a.length + b.length + 1 ∧ s.drop (a.length + 1) = b ∧ s.take a.length = a := by
        rintro a b rfl
        refine ⟨by simp; omega, ?_, List.take_left⟩
        rw [← List.drop_drop, List.drop_left]; rfl
      obtain ⟨hlen, hd, ht⟩ := hl _ _ hp
      match n, hn with
      | 0, hn => omega
      | n + 1, hn =>
        have hc : Lib.count s [c] = Lib.count (cutB c s).2.1 [c] + 1 := by
          rw [Lib.count_hit (by simp) hi, List.length_singleton, hd, Nat.add_comm]
        have ih := splitK_byte c n (cutB c s).2.1 (by omega)
        rw [hc]
        refine ⟨?_, by rw [List.length_cons, ← ih.2]⟩
        have hm : ¬ (Lib.index s [c] == -1) = true := fun e => by have := beq_iff_eq.1 e; omega
        have e1 : (Lib.index s [c]).toNat = (cutB c s).1.length := by omega
        rw [Lib.splitK, if_neg hm, e1, Nat.add_zero, List.length_singleton, ht, hd, ih.1]
    · rw [if_neg hb] at hi
      rw [if_neg hb, Lib.count_miss hi]
      exact ⟨rfl, rfl⟩
def Rd (w : World) (A : Option Addr) (n size : Nat) (cs : List Value) : Prop :=
  cs.length = n * size ∧ (0 < n → ∃ b o, A = some ⟨b, o, none⟩ ∧ ∀ j u, cs[j]? = some u → w.cell? ⟨b, o + j, none⟩ = some u)
theorem getElem?_flatMap_enc {α : Type} (T : Flat α) (hpos : 0 < T.size) : ∀ (xs : List α) (i : Nat), (xs.flatMap T.enc)[i]? = (xs[i / T.size]?).bind fun x => (T.enc x)[i % T.size]?
  | [], i => by simp
  | x :: xs, i => by
    rw [List.flatMap_cons]
    by_cases h : i < T.size
    · rw [List.getElem?_append_left (by rw [T.len]; exact h), Nat.div_eq_of_lt h, Nat.mod_eq_of_lt h]; rfl
    · have hge : T.size ≤ i := by omega
      rw [List.getElem?_append_right (by rw [T.len]; exact hge), T.len, getElem?_flatMap_enc T hpos xs (i - T.size)]
      have hd : i / T.size = (i - T.size) / T.size + 1 := by
        rw [Nat.div_eq i, if_pos ⟨hpos, hge⟩]
      have hm : i % T.size = (i - T.size) % T.size := by rw [Nat.mod_eq_sub_mod hge]
      rw [hd, hm, List.getElem?_cons_succ]
theorem length_flatMap_enc {α : Type} (T : Flat α) (xs : List α) : (xs.flatMap T.enc).length = xs.length * T.size := by
  induction xs with
  | nil => simp
  | cons x xs ih => rw [List.flatMap_cons, List.length_append, T.len, ih, List.length_cons, Nat.succ_mul, Nat.add_comm]
theorem SlR.rd {α : Type} {T : Flat α} {w : World} {A : Option Addr} {n : Nat} {xs : List α} (hpos : 0 < T.size) (h : SlR T w A n xs) : Rd w A n T.size (xs.flatMap T.enc) := by
  refine ⟨by rw [length_flatMap_enc, h.1], fun hn => ?_⟩
  obtain ⟨b, o, e, _, hc⟩ := h.2 hn
  refine ⟨b, o, e, fun j u hu => ?_⟩
  rw [getElem?_flatMap_enc T hpos] at hu
  cases hx : xs[j / T.size]? with
  | none => rw [hx] at hu; cases hu
  | some x =>
    rw [hx] at hu
    have := hc _ x hx _ u hu
    rwa [Nat.add_assoc, Nat.mul_comm, Nat.div_add_mod] at this
theorem SlR.of_own {α : Type} {T : Flat α} (hpos : 0 < T.size) {w : World} {A : Option Addr} {n c B : Nat} {e : TypeId} {xs : List α} (h : w.ownsRow B e T.size (.slice A n c) n (xs.flatMap T.enc)) : SlR T w A n xs := by
  have hl : xs.length = n := by
    have := h.1
    rw [length_flatMap_enc] at this
    exact Nat.eq_of_mul_eq_mul_right hpos this
  refine ⟨hl, fun hn => ?_⟩
  rcases h.2 with ⟨hv, h0⟩ | ⟨g, cap, cur, hv, hb, hh, _, _, _, ht⟩
  · omega
  · injection hv with hv1 hv2 hv3
    subst hv1; subst hv3
    refine ⟨g, 0, rfl, (Array.getElem?_eq_some_iff.1 hh).1, fun k x hx j u hu => ?_⟩
    have hj : j < T.size := by
      rw [← T.len x]
      exact (List.getElem?_eq_some_iff.1 hu).1
    have hk : k < n := by rw [← hl]; exact (List.getElem?_eq_some_iff.1 hx).1
    have hlt : k * T.size + j < n * T.size := by
      have : (k + 1) * T.size ≤ n * T.size := Nat.mul_le_mul_right _ hk
      rw [Nat.succ_mul] at this
      omega
    rw [Nat.zero_add, World.ownsRow.cellAt h _ hlt, getElem?_flatMap_enc T hpos]
    have hd : (k * T.size + j) / T.size = k := by
      rw [Nat.mul_comm, Nat.mul_add_div hpos, Nat.div_eq_of_lt hj, Nat.add_zero]
    have hm : (k * T.size + j) % T.size = j := by
      rw [Nat.mul_comm, Nat.mul_add_mod, Nat.mod_eq_of_lt hj]
    rw [hd, hm, hx]
    exact hu
theorem cell?_alloc_of (w : World) (o : Obj) (p : Addr) {u : Value} (h : w.cell? p = some u) : (w.alloc o).cell? p = some u :=
  (World.cell?_alloc_lt w o p (World.block_lt_of_cell? w p h)).trans h
theorem Rd.alloc {w : World} {A : Option Addr} {n size : Nat} {cs : List Value} (h : Rd w A n size cs) (o : Obj) : Rd (w.alloc o) A n size cs :=
  ⟨h.1, fun hn => by
    obtain ⟨b, o', e, hc⟩ := h.2 hn
    exact ⟨b, o', e, fun j u hu => cell?_alloc_of _ _ _ (hc j u hu)⟩⟩
theorem own_empty (w : World) (e : TypeId) (size : Nat) : (w.alloc (.cells #[] e)).ownsRow 0 e size (.slice (some ⟨w.heap.size, 0, none⟩) 0 0) 0 [] :=
  ⟨by simp, .inr ⟨w.heap.size, 0, #[], rfl, Nat.zero_le _, Cs.new w _ _, Nat.le_refl _, by simp [maxLen], by simp, by simp⟩⟩
section
variable {P : Program} (w : World)
theorem run_append_of_nil (base : Nat) (t ty e : TypeId) (i : TypeInfo) (size : Nat) (ht : P.underlying t = some (.slice e)) (hi : P.info? e = some i)
    (v : Value) (n : Nat) (xs : List Value) (hown : w.ownsRow base e size v n xs) (c : Nat) : (Builtin.append_ #[t, t] ty #[v, .slice none 0 c]).run P w = .ok v w := by
  rcases hown.2 with ⟨rfl, rfl⟩ | ⟨g, cap, cur, rfl, _, _, hnc, _⟩
  · simp [Builtin.append_, run_underlying ht, sizeOf, typeInfo, hi, Builtin.lenOf, Builtin.firstCells]
  · simp [Builtin.append_, run_underlying ht, sizeOf, typeInfo, hi, Builtin.lenOf, Builtin.firstCells, hnc, storeCells]
structure Ety (P : Program) (t e : TypeId) (size : Nat) : Prop where
  under : P.underlying t = some (.slice e)
  info : ∃ i z, P.info? e = some i ∧ i.zero = some z ∧ i.size = size ∧ i.bytes ≤ 256 ∧ z.cells.size = size
  pos : 0 < size
theorem Ety.mk' {P : Program} {t e : TypeId} {size bytes : Nat} {z : Value} (h1 : P.underlying t = some (.slice e)) (h2 : (P.info? e).map (fun i => (i.zero, i.size, i.bytes)) = some (some z, size, bytes))
    (h3 : z.cells.size = size) (h4 : 0 < size) (h5 : bytes ≤ 256) : Ety P t e size := by
  obtain ⟨i, hi, hz, hs, hb⟩ := info_parts h2
  exact ⟨h1, ⟨i, z, hi, hz, hs, by rw [hb]; exact h5, h3⟩, h4⟩
theorem run_append_raw {t ty e : TypeId} {size : Nat} (hT : Ety P t e size) {v : Value} {n : Nat} {xs : List Value} (hown : w.ownsRow 0 e size v n xs)
    {A : Option Addr} {m c : Nat} {news : List Value} (hr : Rd w A m size news) (h1 : ∀ u ∈ news, u.oneCell' = true) (hnil : A = none → c = c) (hsm : n + m ≤ 100000000) :
    ∃ v' w', (Builtin.append_ #[t, t] ty #[v, .slice A m c]).run P w = .ok v' w' ∧ w'.ownsRow 0 e size v' (n + m) (xs ++ news) ∧ w.grownBy w' v.ownBlock ∧
      (v'.ownBlock = v.ownBlock ∨ v'.ownBlock = some w.heap.size) := by
  obtain ⟨i, z, hi, hz, hs, hb, hzs⟩ := hT.info
  rcases A with _ | ad
  · have hm : m = 0 := by
      rcases Nat.eq_zero_or_pos m with h0 | h0
      · exact h0
      · obtain ⟨_, _, h, _⟩ := hr.2 h0
        cases h
    subst hm
    have hn : news = [] := List.eq_nil_of_length_eq_zero (by simpa using hr.1)
    subst hn
    exact ⟨v, w, run_append_of_nil w 0 t ty e i size hT.under hi v n xs hown c, by simpa using hown, World.grownBy.refl w _, .inl rfl⟩
  · have hcells : ∀ j u, news[j]? = some u → w.cell? (ad.add j) = some u := by
      intro j u hu
      rcases Nat.eq_zero_or_pos m with h0 | h0
      · subst h0
        have hn : news = [] := List.eq_nil_of_length_eq_zero (by simpa using hr.1)
        subst hn
        simp at hu
      · obtain ⟨b, o, h, hc⟩ := hr.2 h0
        injection h with h
        subst h
        have := hc j u hu
        unfold Addr.add
        split
        · rename_i e; subst e; simpa using this
        · exact this
    obtain ⟨v', w', hrun, h2, h3, _, h5⟩ := run_append_own_at (P := P) w 0 t ty e i z size i.bytes hT.under hi hz hs rfl hzs hT.pos v n xs hown ad m c news hr.1 hcells h1
      (by simp only [maxLen]; omega) (by
        have : (n + m) * i.bytes ≤ 100000000 * 256 := Nat.mul_le_mul hsm hb
        omega) (Nat.zero_le _)
    exact ⟨v', w', hrun, h2, h3, h5⟩
end
theorem own_slice {w : World} {B : Nat} {e : TypeId} {size n : Nat} {v : Value} {xs : List Value} (h : w.ownsRow B e size v n xs) : ∃ A c, v = .slice A n c := by
  rcases h.2 with ⟨rfl, rfl⟩ | ⟨g, cap, cur, rfl, _⟩
  · exact ⟨none, 0, rfl⟩
  · exact ⟨_, _, rfl⟩
section
variable {P : Program} {w : World} {o : Oper} {a : Act}
theorem goes_append {K : Value → World → Prop} {t e : TypeId} {size : Nat} (hT : Ety P t e size) {s x : Operand} (ho : o.op = .call { callee := .builtin .append, args := #[s, x], argTypes := #[t, t] })
    {v : Value} {n : Nat} {xs : List Value} (hs : a.eval s = v) {A : Option Addr} {m c : Nat} (hx : a.eval x = .slice A m c) (hown : w.ownsRow 0 e size v n xs) {news : List Value} (hr : Rd w A m size news)
    (h1 : ∀ u ∈ news, u.oneCell' = true) (hsm : n + m ≤ 100000000)
    (h : ∀ A' c' w', w'.ownsRow 0 e size (.slice A' (n + m : Nat) c') (n + m) (xs ++ news) → w.grownBy w' v.ownBlock → ((Value.slice A' (n + m : Nat) c').ownBlock = v.ownBlock ∨ (Value.slice A' (n + m : Nat) c').ownBlock = some w.heap.size) → K (.slice A' (n + m : Nat) c') w') : Mix.goes P o a w K := by
  obtain ⟨v', w', hrun, h2, h3, h4⟩ := run_append_raw (P := P) w (ty := o.type) hT hown (c := c) hr h1 (fun _ => rfl) hsm
  unfold Mix.goes Mix.goesUpon execOp
  simp only [ho, resolve, invoke, builtin, Sem.run_bind, Sem.run_pure, Result.andThen_ok, List.map_toArray, List.map_cons, List.map_nil, hs, hx, hrun]
  obtain ⟨A', c', e⟩ := own_slice h2
  rw [e] at h2 h4 ⊢
  exact h A' c' w' h2 h3 h4
theorem wpList_append {ops : Array Oper} {rest : List Oper} {Q : Exit → Act → World → Prop} (hgd : o.guard = none) {t e : TypeId} {size : Nat} (hT : Ety P t e size) {s x : Operand} (ho : o.op = .call { callee := .builtin .append, args := #[s, x], argTypes := #[t, t] })
    {v : Value} {n : Nat} {xs : List Value} (hs : a.eval s = v) {A : Option Addr} {m c : Nat} (hx : a.eval x = .slice A m c) (hown : w.ownsRow 0 e size v n xs) {news : List Value} (hr : Rd w A m size news)
    (h1 : ∀ u ∈ news, u.oneCell' = true) (hsm : n + m ≤ 100000000)
    (h : ∀ A' c' w', w'.ownsRow 0 e size (.slice A' (n + m : Nat) c') (n + m) (xs ++ news) → w.grownBy w' v.ownBlock → ((Value.slice A' (n + m : Nat) c').ownBlock = v.ownBlock ∨ (Value.slice A' (n + m : Nat) c').ownBlock = some w.heap.size) → wpList P ops Q rest (a.put o.dst (.slice A' (n + m : Nat) c')) w') : wpList P ops Q (o :: rest) a w :=
  wpList_plain hgd fun _ hK => Mix.wp_of_goes (N := fun v' w' => wpList P ops Q rest (a.put o.dst v') w') (fun _ _ h => hK _ _ h) (goes_append hT ho hs hx hown hr h1 hsm h)
theorem rd_one (w : World) (e : TypeId) (cs : List Value) : Rd (w.alloc (.cells cs.toArray e)) (some ⟨w.heap.size, 0, none⟩) 1 cs.length cs :=
  ⟨by simp, fun _ => ⟨w.heap.size, 0, rfl, fun j u hu => by
    rw [(Cs.new w e cs.toArray).cell, Nat.zero_add]
    simpa using hu⟩⟩
end
theorem SlR.one {α : Type} (T : Flat α) (w : World) (t : TypeId) (x : α) {cs : Array Value} (hcs : (T.enc x).toArray = cs) : SlR T (w.alloc (.cells cs t)) (some ⟨w.heap.size, 0, none⟩) 1 [x] := by
  subst hcs
  refine ⟨rfl, fun _ => ⟨w.heap.size, 0, rfl, by simp, fun k y hk j u hu => ?_⟩⟩
  match k, hk with
  | 0, hk =>
    injection hk with hk
    subst hk
    rw [(Cs.new w t _).cell]
    simpa using hu
theorem own_block {w : World} {B : Nat} {e : TypeId} {size n c : Nat} {A : Option Addr} {xs : List Value} (h : w.ownsRow B e size (.slice A n c) n xs) (hn : 0 < n) (hs : 0 < size) :
    ∃ g rest, A = some ⟨g, 0, none⟩ ∧ Cs w g e (xs ++ rest).toArray ∧ xs.length = n * size ∧ (xs ++ rest).length = c * size ∧ n ≤ c ∧ c ≤ maxLen := by
  rcases h.2 with ⟨hv, h0⟩ | ⟨g, cap, cur, hv, hb, hh, hnc, hc, hsz, ht⟩
  · omega
  · injection hv with hv1 hv2 hv3
    subst hv1; subst hv3
    refine ⟨g, cur.toList.drop (n * size), rfl, ?_, h.1, ?_, hnc, hc⟩
    · unfold Cs
      rw [hh, ← ht, List.take_append_drop]
    · rw [← ht, List.take_append_drop]; simpa using hsz
theorem own_of_block {w : World} {B : Nat} {e : TypeId} {size n c g : Nat} {xs rest : List Value} (h : Cs w g e (xs ++ rest).toArray) (hb : B ≤ g) (hl : xs.length = n * size) (hc : (xs ++ rest).length = c * size) (hnc : n ≤ c) (hm : c ≤ maxLen) :
    w.ownsRow B e size (.slice (some ⟨g, 0, none⟩) n c) n xs :=
  ⟨hl, .inr ⟨g, c, (xs ++ rest).toArray, rfl, hb, h, hnc, hm, by simpa using hc, by rw [← hl]; simp⟩⟩
theorem Cs.shape {w : World} {g : Nat} {t : TypeId} {cs : Array Value} (h : Cs w g t cs) : w.shape? g = some (t, cs.size) := by
  unfold Cs at h; simp [World.shape?, h]
structure Fresh {α : Type} (T : Flat α) (t : TypeId) (w w' : World) (A : Option Addr) (c : Nat) (xs : List α) : Prop where
  own : w'.ownsRow 0 t T.size (.slice A xs.length c) xs.length (xs.flatMap T.enc)
  ext : Ext w w'
  new : ∀ g, (Value.slice A xs.length c).ownBlock = some g → w.heap.size ≤ g
theorem Fresh.row {α : Type} {T : Flat α} (hp : 0 < T.size) {t : TypeId} {w w' : World} {A : Option Addr} {c : Nat} {xs : List α} (h : Fresh T t w w' A c xs) : SlR T w' A xs.length xs := SlR.of_own hp h.own
theorem own_ext {w v : World} {B : Nat} {e : TypeId} {size n : Nat} {x : Value} {xs : List Value} (h : w.ownsRow B e size x n xs) (hx : Ext w v) : v.ownsRow B e size x n xs := own_keep h hx fun _ _ h => h
theorem Fresh.on {α : Type} {T : Flat α} {t : TypeId} {w w' u : World} {A : Option Addr} {c : Nat} {xs : List α} (h : Fresh T t w w' A c xs) (hx : Ext w' u) : Fresh T t w u A c xs := ⟨own_ext h.own hx, h.ext.then_ext hx, h.new⟩
theorem Fresh.from {α : Type} {T : Flat α} {t : TypeId} {w0 w w' : World} {A : Option Addr} {c : Nat} {xs : List α} (h : Fresh T t w w' A c xs) (hx : Ext w0 w) : Fresh T t w0 w' A c xs := ⟨h.own, hx.then_ext h.ext, fun g hg => Nat.le_trans hx.size (h.new g hg)⟩
theorem Fresh.nil {α : Type} (T : Flat α) (t : TypeId) (w w' : World) (hx : Ext w w') : Fresh T t w w' none 0 ([] : List α) := ⟨World.ownsRow_nil _ _ _ _, hx, fun g hg => by simp [Value.ownBlock] at hg⟩
theorem Fresh.grow {α : Type} {T : Flat α} {t : TypeId} {w w1 w2 : World} {A A' : Option Addr} {c c' m : Nat} {xs ys : List α} (h : Fresh T t w w1 A c xs) (hm : ys.length = m) (hown : w2.ownsRow 0 t T.size (.slice A' (xs.length + m : Nat) c') (xs.length + m) (xs.flatMap T.enc ++ ys.flatMap T.enc)) (hg : w1.grownBy w2 (Value.slice A xs.length c).ownBlock)
    (hb : (Value.slice A' (xs.length + m : Nat) c').ownBlock = (Value.slice A xs.length c).ownBlock ∨ (Value.slice A' (xs.length + m : Nat) c').ownBlock = some w1.heap.size) : Fresh T t w w2 A' c' (xs ++ ys) := by
  subst hm
  refine ⟨by rw [List.length_append, List.flatMap_append]; exact hown, h.ext.grown hg fun g hg => .inl (h.new g hg), fun g hg => ?_⟩
  rw [List.length_append] at hg
  rcases hb with hb | hb
  · exact h.new g (hb.symm.trans hg)
  · rw [hb] at hg
    injection hg with hg
    have := h.ext.size
    omega
theorem string_info : (Tryz.prog.info? 9).map (fun i => (i.zero, i.size, i.bytes)) = some (some (S []), 1, 16) := by kernel_rfl
theorem string_ty : Ety Tryz.prog 27 9 1 := Ety.mk' Tryz.underlying27 string_info rfl (by omega) (by omega)
theorem CloneStrs_c {w : World} {A : Option Addr} {n c : Nat} {cs : List Value} (h : Rd w A n 1 cs) (h1 : ∀ u ∈ cs, u.oneCell' = true) (hA : A = none → n = 0) (hn : n ≤ 1000000) :
    Calls Tryz.prog 101 #[.slice A n c] w fun e w' => ∃ A' c', e = .returned (.slice A' n c') ∧ w'.ownsRow 0 9 1 (.slice A' n c') n cs ∧ Ext w w' ∧ ∀ g, (Value.slice A' n c').ownBlock = some g → w.heap.size ≤ g := by
  have h2 := fun (W : World) => Lib.run_eql_slice_nil (P := Tryz.prog) W 27 9 A n c 0 0 Tryz.underlying27
  rcases A with _ | ad
  · obtain rfl := hA rfl
    obtain rfl : cs = [] := List.eq_nil_of_length_eq_zero (by simpa using h.1)
    go_enter Tryz.func101, Tryz.ntmps101
    go_wp2
    go_ret
    exact ⟨none, 0, rfl, World.ownsRow_nil _ _ _ _, Only.refl _ _, fun g hg => by simp [Value.ownBlock] at hg⟩
  · have H := Lib.hid h
    clear h
    go_enter Tryz.func101, Tryz.ntmps101
    go_wp2_with (at_builtin; go_must (refine wpList_append (v := .slice (some ⟨w.heap.size, 0, none⟩) 0 0) (n := 0) (xs := []) rfl string_ty rfl rfl rfl (own_empty w _ _) (H.out.alloc _) h1 (by omega) ?_); intro A' c' w5 hown5 hg5 hb5)
    go_ret
    rw [Nat.zero_add] at hown5 hb5
    have hx : Ext w w5 := ((Only.refl _ _).alloc (.cells #[] 9)).grown hg5 (fun g hg => by simp [Value.ownBlock] at hg; left; omega)
    refine ⟨A', c', ?_, by simpa using hown5, hx, fun g hg => ?_⟩
    · simp [Nat.zero_add]
    · rcases hb5 with h | h <;> rw [h] at hg <;> simp [Value.ownBlock] at hg <;> omega
theorem str_enc1 : ∀ (xs : List Str), ∀ u ∈ xs.flatMap strF.enc, u.oneCell' = true := by
  intro xs u hu
  obtain ⟨x, _, hx⟩ := List.mem_flatMap.1 hu
  rcases List.mem_cons.1 hx with rfl | hx
  · rfl
  · cases hx
def inS (xs : List Str) (k : Str) : Bool := decide (k ∈ xs)
theorem containsS_eq (xs : List Str) (k : Str) : Lib.containsS (xs.map fun s => (⟨s.toArray⟩ : ByteArray)) ⟨k.toArray⟩ = inS xs k := by
  unfold inS
  rw [Bool.eq_iff_iff, Lib.containsS_iff]
  simp
theorem Contains_c {w : World} {A : Option Addr} {n c : Nat} {xs : List Str} (h : SlR strF w A n xs) (hn : n ≤ 1000000) (k : Str) :
    Calls Tryz.prog 42 #[.slice A n c, S k] w fun e w' => e = .returned (.bool (inS xs k)) ∧ Ext w w' := by
  by_cases h0 : n = 0
  · subst h0
    refine (Tryz.slices_Contains_string_empty A c ⟨k.toArray⟩ w).mono ?_
    rintro e w' ⟨rfl, rfl⟩
    exact ⟨by rw [h.nil_]; rfl, Only.refl _ _⟩
  · obtain ⟨b, o, x, rfl, hb, hx, hc⟩ := h.get (k := 0) (by omega)
    refine (Tryz.slices_Contains_string b o n c (xs.map fun s => (⟨s.toArray⟩ : ByteArray)) ⟨k.toArray⟩ w (by rw [List.length_map, h.1]; exact Nat.le_refl _) (by omega) (fun j hj => ?_)).mono ?_
    · rw [List.length_map, h.1] at hj
      obtain ⟨b', o', y, he, hy, hcell⟩ := strs_get h hj
      injection he with he
      injection he with he1 he2
      subst he1; subst he2
      have := hcell (X.here w No)
      rw [List.getD_eq_getElem?_getD, List.getElem?_map, hy]
      exact this
    · rintro e w' ⟨rfl, rfl⟩
      refine ⟨?_, Only.refl _ _⟩
      rw [List.take_of_length_le (by rw [List.length_map, h.1]; exact Nat.le_refl _), containsS_eq]
theorem CloneStrs_f {w : World} {A : Option Addr} {n c : Nat} {xs : List Str} (h : SlR strF w A n xs) (hA : A = none → n = 0) (hn : n ≤ 1000000) :
    Calls Tryz.prog 101 #[.slice A n c] w fun e w' => ∃ A' c', e = .returned (.slice A' xs.length c') ∧ Fresh strF 9 w w' A' c' xs := by
  have hl := h.1
  refine (CloneStrs_c (h.rd (by decide)) (str_enc1 xs) hA hn).mono ?_
  rintro e w' ⟨A', c', rfl, h1, h2, h3⟩
  subst hl
  exact ⟨A', c', rfl, h1, h2, h3⟩
end Go.Proofs.YtnhaekifcieeoaaGreatDoor
