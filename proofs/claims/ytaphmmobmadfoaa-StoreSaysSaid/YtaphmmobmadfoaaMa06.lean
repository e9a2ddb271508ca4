/- Put together: Ord, Txt, Byt, Tree. -/
import Derived.Test.YtaphmmobmadfoaaMa03
import Derived.Lib.Bytealg
import Derived.Test.YtaphmmobmadfoaaMa04
import Derived.Test.YtaphmmobmadfoaaProg
import Derived.Laws.BytesArg
import Derived.Test.YtaphmmobmadfoaaMa02
/- The order of texts, and lists that rise by a key. -/
namespace Go.Proofs.Ytaphmmobmadfoaa
open Go Go.RowKit
theorem slt_trans {a b c : Str} (h : a < b) (k : b < c) : a < c := List.lt_trans h k
theorem slt_irrefl (a : Str) : ¬ a < a := List.lt_irrefl a
theorem slt_asymm {a b : Str} (h : a < b) : ¬ b < a := List.lt_asymm h
theorem sle_iff {a b : Str} : a ≤ b ↔ ¬ b < a := List.not_lt.symm
theorem seq_of {a b : Str} (h : ¬ a < b) (k : ¬ b < a) : a = b := List.le_antisymm (List.not_lt.1 k) (List.not_lt.1 h)
theorem slt_of_le_ne {a b : Str} (h : a ≤ b) (k : a ≠ b) : a < b := by
  by_cases hl : a < b
  · exact hl
  · exact absurd (seq_of hl (sle_iff.1 h)) k
theorem slt_ne {a b : Str} (h : a < b) : a ≠ b := fun e => slt_irrefl b (e ▸ h)
theorem sle_lt_trans {a b c : Str} (h : a ≤ b) (k : b < c) : a < c := by
  by_cases e : a = b
  · exact e ▸ k
  · exact slt_trans (slt_of_le_ne h e) k
theorem slt_le_trans {a b c : Str} (h : a < b) (k : b ≤ c) : a < c := by
  by_cases e : b = c
  · exact e ▸ h
  · exact slt_trans h (slt_of_le_ne k e)
theorem cmp_cases : ∀ a b : Str, (Lib.compareBytes a b = -1 ∧ a < b) ∨ (Lib.compareBytes a b = 0 ∧ a = b) ∨ (Lib.compareBytes a b = 1 ∧ b < a)
  | [], [] => .inr (.inl ⟨rfl, rfl⟩)
  | [], _ :: _ => .inl ⟨rfl, by simp⟩
  | _ :: _, [] => .inr (.inr ⟨rfl, by simp⟩)
  | x :: a, y :: b => by
    unfold Lib.compareBytes
    by_cases h : x < y
    · exact .inl ⟨if_pos h, List.cons_lt_cons_iff.2 (.inl h)⟩
    · rw [if_neg h]
      by_cases h' : y < x
      · exact .inr (.inr ⟨if_pos h', List.cons_lt_cons_iff.2 (.inl h')⟩)
      · rw [if_neg h']
        obtain rfl : x = y := UInt8.le_antisymm (UInt8.not_lt.1 h') (UInt8.not_lt.1 h)
        rcases cmp_cases a b with ⟨h1, h2⟩ | ⟨h1, h2⟩ | ⟨h1, h2⟩
        · exact .inl ⟨h1, List.cons_lt_cons_iff.2 (.inr ⟨rfl, h2⟩)⟩
        · exact .inr (.inl ⟨h1, by rw [h2]⟩)
        · exact .inr (.inr ⟨h1, List.cons_lt_cons_iff.2 (.inr ⟨rfl, h2⟩)⟩)
/-- What strings.Compare returns. -/
def cmpS (a b : Str) : Int := Lib.compareBytes a b
theorem cmpS_lt (a b : Str) : decide (cmpS a b < 0) = decide (a < b) := by
  unfold cmpS
  rcases cmp_cases a b with ⟨h1, h2⟩ | ⟨h1, h2⟩ | ⟨h1, h2⟩ <;> rw [h1]
  · simp [h2]
  · subst h2; simp [slt_irrefl]
  · simp [slt_asymm h2]
theorem cmpS_eq (a b : Str) : (cmpS a b == 0) = decide (a = b) := by
  unfold cmpS
  rcases cmp_cases a b with ⟨h1, h2⟩ | ⟨h1, h2⟩ | ⟨h1, h2⟩ <;> rw [h1]
  · simp [slt_ne h2]
  · simp [h2]
  · simp [(slt_ne h2).symm]
theorem cmpS_bd (a b : Str) : -1 ≤ cmpS a b ∧ cmpS a b ≤ 1 := by
  unfold cmpS
  rcases cmp_cases a b with ⟨h1, h2⟩ | ⟨h1, h2⟩ | ⟨h1, h2⟩ <;> omega
theorem bytesLess_eq : ∀ a b : Str, Op.bytesLess a b = decide (a < b)
  | [], [] => by simp [Op.bytesLess]
  | [], _ :: _ => by simp [Op.bytesLess]
  | _ :: _, [] => by simp [Op.bytesLess]
  | x :: a, y :: b => by
    unfold Op.bytesLess
    rw [bytesLess_eq a b, Bool.eq_iff_iff]
    simp [List.cons_lt_cons_iff]
/-- a < b, a ≤ b, as the walk has them. -/
def ltB (a b : Str) : Bool := decide (a < b)
def leB (a b : Str) : Bool := decide (a ≤ b)
theorem ltB_true {a b : Str} (h : ltB a b = true) : a < b := of_decide_eq_true h
theorem ltB_false {a b : Str} (h : ltB a b = false) : ¬ a < b := of_decide_eq_false h
theorem leB_true {a b : Str} (h : leB a b = true) : a ≤ b := of_decide_eq_true h
theorem leB_false {a b : Str} (h : leB a b = false) : b < a := by
  have := of_decide_eq_false h
  rw [sle_iff] at this
  exact Classical.not_not.1 this
theorem toList_loop (b : ByteArray) (i : Nat) (r : List UInt8) : ByteArray.toList.loop b i r = r.reverse ++ b.data.toList.drop i := by
  rw [ByteArray.toList.loop]
  split
  · rename_i h
    rw [toList_loop b (i+1)]
    have hi : i < b.data.toList.length := by simpa using h
    rw [List.drop_eq_getElem_cons hi]
    have : b.get! i = b.data.toList[i] := by
      simp [ByteArray.get!]
      rw [getElem!_pos b.data i (by simpa using hi)]
    simp [this]
  · rename_i h
    rw [List.drop_eq_nil_of_le (by simpa using h)]; simp
termination_by b.size - i
theorem toList_S (a : List UInt8) : ByteArray.toList ⟨a.toArray⟩ = a := by
  unfold ByteArray.toList
  rw [toList_loop]; simp
@[go_sem high] theorem lss_S (t : TypeId) (a b : Str) : binOp .lss t (.string ⟨a.toArray⟩) (.string ⟨b.toArray⟩) = pure (.bool (ltB a b)) := by
  simp [binOp, Op.stringOp, toList_S, bytesLess_eq, ltB]
@[go_sem high] theorem leq_S (t : TypeId) (a b : Str) : binOp .leq t (.string ⟨a.toArray⟩) (.string ⟨b.toArray⟩) = pure (.bool (leB a b)) := by
  have : (decide (a < b) || a == b) = leB a b := by
    unfold leB
    rw [Bool.eq_iff_iff]
    simp only [Bool.or_eq_true, decide_eq_true_eq, beq_iff_eq]
    constructor
    · rintro (h | rfl)
      · exact sle_iff.2 (slt_asymm h)
      · exact sle_iff.2 (slt_irrefl _)
    · intro h
      by_cases e : a = b
      · exact .inr e
      · exact .inl (slt_of_le_ne h e)
  simp [binOp, Op.stringOp, toList_S, bytesLess_eq, this]
section
variable {α : Type} (key : α → Str)
/-- The list rises by its key. -/
def Rise (l : List α) : Prop := l.Pairwise fun a b => key a < key b
/-- How many stand ahead of a key. -/
def posOf (l : List α) (k : Str) : Nat := (l.takeWhile fun x => ltB (key x) k).length
variable {key}
theorem Rise.at_lt {l : List α} (h : Rise key l) {i j : Nat} (hij : i < j) {x y : α} (hx : l[i]? = some x) (hy : l[j]? = some y) : key x < key y := by
  obtain ⟨hi, rfl⟩ := List.getElem?_eq_some_iff.1 hx
  obtain ⟨hj, rfl⟩ := List.getElem?_eq_some_iff.1 hy
  exact List.pairwise_iff_getElem.1 h i j hi hj hij
theorem posOf_le (l : List α) (k : Str) : posOf key l k ≤ l.length := by
  unfold posOf
  induction l with
  | nil => simp
  | cons x l ih =>
    rw [List.takeWhile_cons]
    split
    · simp; exact ih
    · simp
/-- What a binary search ends at. -/
theorem posOf_of {l : List α} {k : Str} {i : Nat} (hi : i ≤ l.length) (h1 : ∀ j x, j < i → l[j]? = some x → key x < k) (h2 : ∀ x, l[i]? = some x → ¬ key x < k) : posOf key l k = i := by
  unfold posOf
  induction l generalizing i with
  | nil => simp at hi; simp [hi]
  | cons x l ih =>
    rw [List.takeWhile_cons]
    cases i with
    | zero =>
      have : ltB (key x) k = false := decide_eq_false (h2 x rfl)
      simp [this]
    | succ i =>
      have : ltB (key x) k = true := decide_eq_true (h1 0 x (by omega) rfl)
      simp only [this, if_true, List.length_cons]
      rw [ih (by simpa using hi) (fun j y hj hy => h1 (j + 1) y (by omega) (by simpa using hy)) (fun y hy => h2 y (by simpa using hy))]
end
end Go.Proofs.Ytaphmmobmadfoaa

/- Parts of texts, as the walk has them. -/
namespace Go.Proofs.Ytaphmmobmadfoaa
open Go Go.RowKit
theorem S_extract (l : Str) (i j : Nat) : (⟨l.toArray⟩ : ByteArray).extract i j = ⟨((l.take j).drop i).toArray⟩ := by
  apply ByteArray.ext
  rw [ByteArray.data_extract]
  simp
  rw [List.drop_take]
theorem eql_lit (l : Str) (k : List UInt8) : ((⟨l.toArray⟩ : ByteArray).toList == k) = (l == k) := by rw [toList_S]
attribute [go_sem] S_extract eql_lit List.take_succ_cons List.drop_succ_cons List.drop_zero List.take_zero List.take_length
end Go.Proofs.Ytaphmmobmadfoaa

/- Texts made of one, two or four bytes. -/
namespace Go.Proofs.Ytaphmmobmadfoaa
open Go Go.RowKit
def bt (z : Int) : UInt8 := UInt8.ofNat z.toNat
@[go_sem] theorem str_new1 (a : Int) (w : World) : (convert 93 9 (.slice (some ⟨w.heap.size, 0, none⟩) 1 1)).run Try.prog (w.alloc (.cells #[.int .u8 a] 5)) = .ok (S [bt a]) (w.alloc (.cells #[.int .u8 a] 5)) := by
  rw [run_convert_bytes_arg _ 93 5 Try.underlying93 Try.underlying5 w.heap.size 0 1 1 [a] rfl (fun i hi => ?_) 9 Try.underlying9]
  · rfl
  · rw [(Cs.new w 5 #[.int .u8 a]).cell]
    match i, hi with
    | 0, _ => rfl
@[go_sem] theorem str_new2 (a b : Int) (w : World) : (convert 93 9 (.slice (some ⟨w.heap.size, 0, none⟩) 2 2)).run Try.prog (w.alloc (.cells #[.int .u8 a, .int .u8 b] 5)) = .ok (S [bt a, bt b]) (w.alloc (.cells #[.int .u8 a, .int .u8 b] 5)) := by
  rw [run_convert_bytes_arg _ 93 5 Try.underlying93 Try.underlying5 w.heap.size 0 2 2 [a, b] rfl (fun i hi => ?_) 9 Try.underlying9]
  · rfl
  · rw [(Cs.new w 5 #[.int .u8 a, .int .u8 b]).cell]
    match i, hi with
    | 0, _ => rfl
    | 1, _ => rfl
@[go_sem] theorem str_new4 (a b c d : Int) (w : World) : (convert 93 9 (.slice (some ⟨w.heap.size, 0, none⟩) 4 4)).run Try.prog (w.alloc (.cells #[.int .u8 a, .int .u8 b, .int .u8 c, .int .u8 d] 5)) = .ok (S [bt a, bt b, bt c, bt d]) (w.alloc (.cells #[.int .u8 a, .int .u8 b, .int .u8 c, .int .u8 d] 5)) := by
  rw [run_convert_bytes_arg _ 93 5 Try.underlying93 Try.underlying5 w.heap.size 0 4 4 [a, b, c, d] rfl (fun i hi => ?_) 9 Try.underlying9]
  · rfl
  · rw [(Cs.new w 5 #[.int .u8 a, .int .u8 b, .int .u8 c, .int .u8 d]).cell]
    match i, hi with
    | 0, _ => rfl
    | 1, _ => rfl
    | 2, _ => rfl
    | 3, _ => rfl
theorem str_cs1 {w : World} {g : Nat} {a : Int} (h : Cs w g 5 #[.int .u8 a]) : (convert 93 9 (.slice (some ⟨g, 0, none⟩) 1 1)).run Try.prog w = .ok (S [bt a]) w := by
  rw [run_convert_bytes_arg _ 93 5 Try.underlying93 Try.underlying5 g 0 1 1 [a] rfl (fun i hi => ?_) 9 Try.underlying9]
  · rfl
  · rw [h.cell]
    match i, hi with
    | 0, _ => rfl
theorem str_cs2 {w : World} {g : Nat} {a b : Int} (h : Cs w g 5 #[.int .u8 a, .int .u8 b]) : (convert 93 9 (.slice (some ⟨g, 0, none⟩) 2 2)).run Try.prog w = .ok (S [bt a, bt b]) w := by
  rw [run_convert_bytes_arg _ 93 5 Try.underlying93 Try.underlying5 g 0 2 2 [a, b] rfl (fun i hi => ?_) 9 Try.underlying9]
  · rfl
  · rw [h.cell]
    match i, hi with
    | 0, _ => rfl
    | 1, _ => rfl
end Go.Proofs.Ytaphmmobmadfoaa

/- A region whose operations that change the world come in more than one order: those that only read are walked first, then one walk a way. -/
namespace Go.Proofs.Ytaphmmobmadfoaa
open Go Go.RowKit
namespace Mix
section
variable {P : Program} {ops : Array Oper} {md : Region.Mode} {C : World → Prop} {E : List Nat} {Q : Act → World → Prop}
/-- It reads only, and nothing that may still come ahead of it touches it. -/
def freeI (md : Region.Mode) (ops : Array Oper) (listed : Array Bool) (i : Nat) : Bool :=
  match ops[i]? with
  | none => false
  | some oi => !callB oi && (List.range ops.size).all fun j => j == i || listed.getD j true || (match ops[j]? with | none => true | some oj => oj.after.any (fun e => Region.binds md e && e.on == i) || oi.apart ops oj)
def pick (md : Region.Mode) (ops : Array Oper) (E : List Nat) (listed : Array Bool) : Option Nat := (Region.ready md ops listed).find? fun i => !E.contains i && freeI md ops listed i
def treeB (md : Region.Mode) (ops : Array Oper) (E : List Nat) : Nat → Array Bool → Bool
  | 0, l => (Region.ready md ops l).isEmpty
  | f + 1, l => match pick md ops E l with
    | some i => treeB md ops E f (l.setIfInBounds i true)
    | none => !(Region.ready md ops l).isEmpty && (Region.ready md ops l).all fun i => E.contains i && treeB md ops E f (l.setIfInBounds i true)
def tree (P : Program) (md : Region.Mode) (ops : Array Oper) (C : World → Prop) (E : List Nat) (Q : Act → World → Prop) : Nat → Array Bool → Act → World → Prop
  | 0, _, a, w => Q a w
  | f + 1, l, a, w => match pick md ops E l with
    | some i => mOp P ops C E ops.size i (tree P md ops C E Q f (l.setIfInBounds i true)) a w
    | none => ∀ i ∈ Region.ready md ops l, mOp P ops C E ops.size i (tree P md ops C E Q f (l.setIfInBounds i true)) a w
theorem any_tree (hs : Region.noSelect ops = true) : ∀ (f : Nat) (l : Array Bool) (a : Act) (w : World), C w → treeB md ops E f l = true → tree P md ops C E Q f l a w → any P md ops C E ops.size Q f l a w
  | 0, l, a, w, _, hB, h => ⟨by simpa [treeB] using hB, h⟩
  | f + 1, l, a, w, hC, hB, h => by
    have hN : ops[ops.size]? = none := Array.getElem?_eq_none (Nat.le_refl _)
    unfold treeB at hB
    unfold tree at h
    cases hp : pick md ops E l with
    | some i =>
      rw [hp] at hB h
      simp only at hB h
      have hmem := List.mem_of_find?_eq_some hp
      have hsat := List.find?_some hp
      simp only [Bool.and_eq_true, Bool.not_eq_true'] at hsat
      obtain ⟨hE, hF⟩ := hsat
      unfold freeI at hF
      cases ho : ops[i]? with
      | none => rw [ho] at hF; cases hF
      | some oi =>
        rw [ho] at hF
        simp only [Bool.and_eq_true, Bool.not_eq_true', List.all_eq_true, List.mem_range, Bool.or_eq_true, beq_iff_eq] at hF
        obtain ⟨hc, hF⟩ := hF
        obtain ⟨v, hy, hK⟩ := yields_of_mOp ho hE h
        have hil : i < ops.size := (Array.getElem?_eq_some_iff.1 ho).1
        refine any_first_quiet ho hE hc (by omega) (fun _ => False) (fun j hj => hj.elim) (.inl hN) (Region.noSelect_spec hs) f l a w hC (fun j hj => hj.elim) (fun j oj hoj hji hun hno => ?_) hmem hy
          (any_tree hs f _ _ w hC hB hK)
        have hjl : j < ops.size := (Array.getElem?_eq_some_iff.1 hoj).1
        rcases hF j hjl with (h' | h') | h'
        · exact absurd h' hji
        · rw [hun] at h'; cases h'
        · rw [hoj] at h'
          simp only [Bool.or_eq_true] at h'
          rcases h' with h' | h'
          · obtain ⟨e, he, hb⟩ := Array.any_eq_true'.1 h'
            simp only [Bool.and_eq_true, beq_iff_eq] at hb
            exact absurd hb.2 (hno e he hb.1)
          · exact h'
    | none =>
      rw [hp] at hB h
      simp only [Bool.and_eq_true, Bool.not_eq_true', List.all_eq_true] at hB h
      refine ⟨fun he => ?_, fun i hi => ?_⟩
      · rw [he] at hB; simp at hB
      · obtain ⟨hEi, hBi⟩ := hB.2 i hi
        have hm := h i hi
        obtain ⟨_, o, ho, _⟩ := mem_ready.1 hi
        have hil : i < ops.size := (Array.getElem?_eq_some_iff.1 ho).1
        have after : ∀ a' w', C w' → tree P md ops C E Q f (l.setIfInBounds i true) a' w' →
            (if i = ops.size then Region.ready md ops (l.setIfInBounds i true) = [] ∧ Q a' w' else any P md ops C E ops.size Q f (l.setIfInBounds i true) a' w') := fun a' w' c hK => by
          rw [if_neg (by omega)]
          exact any_tree hs f _ _ w' c hBi hK
        unfold mOp at hm ⊢
        simp only [ho] at hm ⊢
        unfold step at hm ⊢
        split
        · rename_i hw
          rw [if_pos hw, if_pos hEi] at hm
          exact goesUpon_mono (fun v w' ⟨c, hK⟩ => ⟨c, after _ w' (c (by omega)) hK⟩) hm
        · rename_i hw
          rw [if_neg hw] at hm
          exact after _ w hC hm
/-- **A region that draws its order, by its ways.** -/
theorem wp_tree {id : Nat} {Q : Exit → Act → World → Prop} {a : Act} {w : World} {l : List Oper} (n : Nat) (E : List Nat) (C : World → Prop) (hn : l.length = n) (hm : P.follows .mixedOrders = true)
    (hB : (Region.noSelect l.toArray && treeB .any l.toArray E n (Array.replicate n false)) = true) (hC : C w.drew)
    (h : tree P .any l.toArray C E (fun a' w' => Q .normal a' w') n (Array.replicate n false) a w.drew) : (Code.region id l.toArray true).wp P Q a w := by
  subst hn
  simp only [Bool.and_eq_true] at hB
  refine wp_region_any hm (wpAny_of_any (C := C) (E := E) (N := l.toArray.size) _ _ _ _ hC ?_)
  have := any_tree hB.1 l.length (Array.replicate l.length false) a _ hC hB.2 h
  simpa using this
/-! ### Steps -/
variable {f : Nat} {l : Array Bool} {a : Act} {w : World}
theorem tree_nil (h : Q a w) : tree P md ops C E Q 0 l a w := h
theorem tree_quiet {L : List Oper} {i : Nat} {o : Oper} (hp : pick md L.toArray E l = some i) (ho : L[i]? = some o) (hg : o.guard = none) (hE : E.contains i = false) (hc : callB o = false)
    (h : ∀ K : Act → Prop, (∀ a', tree P md L.toArray C E Q f (l.setIfInBounds i true) a' w → K a') → o.quiet P a C K) : tree P md L.toArray C E Q (f + 1) l a w := by
  rw [← List.getElem?_toArray] at ho
  unfold tree
  rw [hp]
  unfold mOp step
  simp only [ho]
  rw [if_pos (wanted_none hg), if_neg (by rw [hE]; exact Bool.false_ne_true)]
  exact ⟨hc, h _ fun _ h => h⟩
theorem goes_step {L : List Oper} {i : Nat} {o : Oper} (ho : L[i]? = some o) (hg : o.guard = none) (hE : E.contains i = true) {R : Act → World → Prop}
    (h : ∀ K : Value → World → Prop, (∀ v w', C w' → R (a.put o.dst v) w' → K v w') → goes P o a w K) : mOp P L.toArray C E L.toArray.size i R a w := by
  rw [← List.getElem?_toArray] at ho
  unfold mOp step
  simp only [ho]
  rw [if_pos (wanted_none hg), if_pos hE]
  exact h _ fun _ _ h1 h2 => ⟨fun _ => h1, h2⟩
theorem tree_one {L : List Oper} {i : Nat} {o : Oper} (hp : pick md L.toArray E l = none) (hr : Region.ready md L.toArray l = [i]) (ho : L[i]? = some o) (hg : o.guard = none) (hE : E.contains i = true)
    (h : ∀ K : Value → World → Prop, (∀ v w', C w' → tree P md L.toArray C E Q f (l.setIfInBounds i true) (a.put o.dst v) w' → K v w') → goes P o a w K) : tree P md L.toArray C E Q (f + 1) l a w := by
  unfold tree
  rw [hp, hr]
  simp only [List.mem_singleton, forall_eq]
  exact goes_step ho hg hE h
theorem tree_two {L : List Oper} {i j : Nat} {o o' : Oper} (hp : pick md L.toArray E l = none) (hr : Region.ready md L.toArray l = [i, j]) (ho : L[i]? = some o) (ho' : L[j]? = some o') (hg : o.guard = none) (hg' : o'.guard = none) (hE : E.contains i = true) (hE' : E.contains j = true)
    (h : ∀ K : Value → World → Prop, (∀ v w', C w' → tree P md L.toArray C E Q f (l.setIfInBounds i true) (a.put o.dst v) w' → K v w') → goes P o a w K)
    (h' : ∀ K : Value → World → Prop, (∀ v w', C w' → tree P md L.toArray C E Q f (l.setIfInBounds j true) (a.put o'.dst v) w' → K v w') → goes P o' a w K) : tree P md L.toArray C E Q (f + 1) l a w := by
  unfold tree
  rw [hp, hr]
  simp only [List.mem_cons, List.not_mem_nil, or_false, forall_eq_or_imp, forall_eq]
  exact ⟨goes_step ho hg hE h, goes_step ho' hg' hE' h'⟩
theorem wanted_at {ops : Array Oper} {o : Oper} {j dj : Nat} {want : Bool} {v : Value} (hg : o.guard = some (j, want)) (hj : (ops[j]?).bind (·.dst) = some dj) (hv : a.tmps.toList[dj]? = some v) (hw : v = .bool want) : Region.wanted o (yielded ops a.tmps) = true := by
  subst hw; simp [Region.wanted, hg, yielded_at hj hv]
theorem tree_quietG {L : List Oper} {i : Nat} {o : Oper} {j dj : Nat} {want : Bool} {v : Value} (hp : pick md L.toArray E l = some i) (ho : L[i]? = some o) (hg : o.guard = some (j, want)) (hj : (L.toArray[j]?).bind (·.dst) = some dj) (hv : a.tmps.toList[dj]? = some v) (hw : v = .bool want) (hE : E.contains i = false) (hc : callB o = false)
    (h : ∀ K : Act → Prop, (∀ a', tree P md L.toArray C E Q f (l.setIfInBounds i true) a' w → K a') → o.quiet P a C K) : tree P md L.toArray C E Q (f + 1) l a w := by
  rw [← List.getElem?_toArray] at ho
  unfold tree
  rw [hp]
  unfold mOp step
  simp only [ho]
  rw [if_pos (wanted_at hg hj hv hw), if_neg (by rw [hE]; exact Bool.false_ne_true)]
  exact ⟨hc, h _ fun _ h => h⟩
theorem goes_stepG {L : List Oper} {i : Nat} {o : Oper} (ho : L[i]? = some o) (hw : Region.wanted o (yielded L.toArray a.tmps) = true) (hE : E.contains i = true) {R : Act → World → Prop}
    (h : ∀ K : Value → World → Prop, (∀ v w', C w' → R (a.put o.dst v) w' → K v w') → goes P o a w K) : mOp P L.toArray C E L.toArray.size i R a w := by
  rw [← List.getElem?_toArray] at ho
  unfold mOp step
  simp only [ho]
  rw [if_pos hw, if_pos hE]
  exact h _ fun _ _ h1 h2 => ⟨fun _ => h1, h2⟩
theorem tree_oneG {L : List Oper} {i : Nat} {o : Oper} {j dj : Nat} {want : Bool} {v : Value} (hp : pick md L.toArray E l = none) (hr : Region.ready md L.toArray l = [i]) (ho : L[i]? = some o) (hg : o.guard = some (j, want)) (hj : (L.toArray[j]?).bind (·.dst) = some dj) (hv : a.tmps.toList[dj]? = some v) (hw : v = .bool want) (hE : E.contains i = true)
    (h : ∀ K : Value → World → Prop, (∀ v w', C w' → tree P md L.toArray C E Q f (l.setIfInBounds i true) (a.put o.dst v) w' → K v w') → goes P o a w K) : tree P md L.toArray C E Q (f + 1) l a w := by
  unfold tree
  rw [hp, hr]
  simp only [List.mem_singleton, forall_eq]
  exact goes_stepG ho (wanted_at hg hj hv hw) hE h
theorem tree_twoG {L : List Oper} {i j : Nat} {o o' : Oper} {k k' dk dk' : Nat} {want want' : Bool} {v v' : Value} (hp : pick md L.toArray E l = none) (hr : Region.ready md L.toArray l = [i, j]) (ho : L[i]? = some o) (ho' : L[j]? = some o')
    (hg : o.guard = some (k, want)) (hj : (L.toArray[k]?).bind (·.dst) = some dk) (hv : a.tmps.toList[dk]? = some v) (hw : v = .bool want)
    (hg' : o'.guard = some (k', want')) (hj' : (L.toArray[k']?).bind (·.dst) = some dk') (hv' : a.tmps.toList[dk']? = some v') (hw' : v' = .bool want') (hE : E.contains i = true) (hE' : E.contains j = true)
    (h : ∀ K : Value → World → Prop, (∀ v w', C w' → tree P md L.toArray C E Q f (l.setIfInBounds i true) (a.put o.dst v) w' → K v w') → goes P o a w K)
    (h' : ∀ K : Value → World → Prop, (∀ v w', C w' → tree P md L.toArray C E Q f (l.setIfInBounds j true) (a.put o'.dst v) w' → K v w') → goes P o' a w K) : tree P md L.toArray C E Q (f + 1) l a w := by
  unfold tree
  rw [hp, hr]
  simp only [List.mem_cons, List.not_mem_nil, or_false, forall_eq_or_imp, forall_eq]
  exact ⟨goes_stepG ho (wanted_at hg hj hv hw) hE h, goes_stepG ho' (wanted_at hg' hj' hv' hw') hE' h'⟩
end
end Mix
end Go.Proofs.Ytaphmmobmadfoaa
