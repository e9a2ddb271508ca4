/- Put together: Bld, FilesL, Ins. -/
import Derived.Shelf.Strings.BuilderK
import Derived.Laws.Externs
import Derived.OwnWalk
import Derived.Test.YtaphmmobmadfoaaShelf
import Derived.Test.YtaphmmobmadfoaaMc03
import Derived.Test.YtaphmmobmadfoaaMc10
import Derived.Test.YtaphmmobmadfoaaMc12
/- strings.Builder: copyCheck and WriteString at this dump. -/
namespace Go.Proofs.Ytaphmmobmadfoaa
open Go Go.RowKit
abbrev bldT : TypeId := 121
abbrev byT : TypeId := 5
theorem bld_size : (Try.prog.info? bldT).map (·.size) = some 2 := by kernel_rfl
theorem bld_lies : liesAt Try.prog Try.prog.depth bldT (2 / Try.prog.cellsOf bldT) 0 bldT 1 = true := by kernel_rfl
theorem by_info : (Try.prog.info? byT).map (fun i => (i.zero, i.size, i.bytes)) = some (some (.int .u8 0), 1, 1) := by kernel_rfl
set_option maxHeartbeats 1000000 in
set_option maxRecDepth 100000 in
theorem cc_used (b : Nat) (w : World) (h0 : w.cell? ⟨b, 0, none⟩ = some (.pointer (some ⟨b, 0, none⟩))) :
    Calls Try.prog 77 #[.pointer (some ⟨b, 0, none⟩)] w fun e w' => e = .returned (.tuple #[]) ∧ w' = w := by
  obtain ⟨j, hj, _⟩ := Option.map_eq_some_iff.1 bld_size
  go_enter Try.func77, Try.ntmps77
  go_wp2
  rw [Lib.run_neq_ptr_same w _ Try.underlying119 hj]
  go_wp2
  go_end0
  exact ⟨rfl, rfl⟩
set_option maxHeartbeats 1000000 in
set_option maxRecDepth 100000 in
theorem cc_fresh (b : Nat) (w : World) (h0 : w.cell? ⟨b, 0, none⟩ = some (.pointer none)) (hsh : w.shape? b = some (bldT, 2)) (hfz : w.frozen? ⟨b, 0, none⟩ = false) :
    Calls Try.prog 77 #[.pointer (some ⟨b, 0, none⟩)] w fun e w' => e = .returned (.tuple #[]) ∧ w' = w.setCell ⟨b, 0, none⟩ (.pointer (some ⟨b, 0, none⟩)) := by
  obtain ⟨j, hj, hjs⟩ := Option.map_eq_some_iff.1 bld_size
  go_enter Try.func77, Try.ntmps77
  go_wp2
  rw [Lib.run_to_unsafe w ⟨b, 0, none⟩ Try.underlying119 Try.underlying133 hj (by rw [hjs]; decide) hsh (Nat.zero_lt_succ 1)]
  simp only [Result.andThen]
  rw [Oper.upon_value]
  go_wp2
  rw [run_callFunc_extern Try.func81 (by kernel_rfl) (by kernel_rfl) (by kernel_rfl) (e := Extern.AbiNoEscape.same) (by kernel_rfl)]
  rw [Lib.run_noEscape]
  simp only [Result.andThen]
  rw [Oper.upon_value]
  go_wp2
  rw [Lib.run_from_unsafe w ⟨b, 0, none⟩ Try.underlying133 Try.underlying119 hj hsh bld_lies]
  simp only [Result.andThen]
  rw [Oper.upon_value]
  go_wp2
  go_end0
  exact ⟨rfl, rfl⟩
theorem cc_k (B b : Nat) (bs : List Value) (w : World) (h : Lib.IsBuilderF bldT byT B b bs w) :
    Calls Try.prog 77 #[.pointer (some ⟨b, 0, none⟩)] w fun e w' => e = .returned (.tuple #[]) ∧ (Lib.BuilderAtF bldT byT B b (.pointer (some ⟨b, 0, none⟩)) bs w' ∧ Below B w w') := by
  rcases h with h | h
  · refine (cc_fresh b w h.cell0 h.shape h.frozen0).mono ?_
    rintro e w' ⟨rfl, rfl⟩
    exact ⟨rfl, h.used _, (Below.refl B w).setCell (p := ⟨b, 0, none⟩) h.1 _⟩
  · refine (cc_used b w h.cell0).mono ?_
    rintro e w' ⟨rfl, rfl⟩
    exact ⟨rfl, h, Below.refl B _⟩
set_option maxHeartbeats 2000000 in
set_option maxRecDepth 100000 in
theorem WriteStr_k (B b : Nat) (bs : List Value) (s : ByteArray) (w : World) (h : Lib.IsBuilderF bldT byT B b bs w) (hlen : bs.length + s.size ≤ 140737488355328) (hBw : B ≤ w.heap.size) :
    Calls Try.prog 67 #[.pointer (some ⟨b, 0, none⟩), .string s] w fun e w' => e = .returned (.tuple #[.int .i64 s.size, .nilIface]) ∧ (Lib.IsBuilderF bldT byT B b (bs ++ Lib.strCells s) w' ∧ Below B w w') := by
  obtain ⟨i0, hi, hz0, hz1, hz2⟩ := info_parts by_info
  go_enter Try.func67, Try.ntmps67
  go_wp2_with (go_at_call 77; refine (cc_k B b bs _ h).mono ?_)
  rintro e w1 ⟨rfl, h1, hb1⟩
  obtain ⟨hB, v, hbk, hown, hne⟩ := h1
  have c0 : w1.cell? ⟨b, 0, none⟩ = some (.pointer (some ⟨b, 0, none⟩)) := by rw [Lib.cell_of_heap hbk]; rfl
  have c1 : w1.cell? ⟨b, 1, none⟩ = some v := by rw [Lib.cell_of_heap hbk]; rfl
  go_wp2_with (at_builtin; refine Lib.wpList_append_own_stringF _ rfl _ _ 93 9 rfl B byT i0 Try.underlying93 Try.underlying9 hi hz0 hz1 hz2 _ _ _ rfl hown s rfl ?c3 ?c4 ?c5 ?_)
  case c3 => unfold maxLen; omega
  case c4 => omega
  case c5 => have := hb1.size; omega
  intro v' w2 hown' hgrow _
  have hlt : b < w1.heap.size := by
    rcases Nat.lt_or_ge b w1.heap.size with h' | h'
    · exact h'
    · simp [Array.getElem?_eq_none h'] at hbk
  have hb2 : w2.heap[b]? = some (.cells #[.pointer (some ⟨b, 0, none⟩), v] bldT (0, 0)) := by
    rw [hgrow.block b hlt (fun e => hne e.symm)]
    exact hbk
  have d0 : w2.cell? ⟨b, 0, none⟩ = some (.pointer (some ⟨b, 0, none⟩)) := by rw [Lib.cell_of_heap hb2]; rfl
  have d1 : w2.cell? ⟨b, 1, none⟩ = some v := by rw [Lib.cell_of_heap hb2]; rfl
  have f1 : w2.frozen? ⟨b, 1, none⟩ = false := Lib.frozen_of_heap hb2 1
  obtain ⟨ao, n', cap, rfl⟩ : ∃ ao n' cap, v' = .slice ao n' cap := by
    rcases hown'.2 with ⟨hv, _⟩ | ⟨g, cap, cur, fz, hv, _⟩
    · exact ⟨_, _, _, hv⟩
    · exact ⟨_, _, _, hv⟩
  go_wp2
  go_ret2
  refine ⟨rfl, .inr ?_, ?_⟩
  · exact Lib.BuilderAtF.put (T := bldT) (e := byT) hB hb2 (bs' := bs ++ Lib.strCells s) (by simpa [Lib.strCells_length] using hown') (by decide)
  · exact (hb1.grown hgrow (by have := hb1.size; omega) (fun k hk => (hown.lt k hk).1)).setCell (p := ⟨b, 1, none⟩) hB _
end Go.Proofs.Ytaphmmobmadfoaa

/- Files as lists: get, put, drop; rows too. Plain lists: no program. -/
namespace Go.Proofs.Ytaphmmobmadfoaa
open Go Go.RowKit
def hasAt {α : Type} (key : α → Str) (l : List α) (k : Str) : Bool := match l[posOf key l k]? with | some x => decide (key x = k) | none => false
section
variable {α : Type} (key : α → Str)
/-- The document's put. -/
def putL (f : α) : List α → List α
  | [] => [f]
  | x :: l => if leB (key f) (key x) then f :: (x :: l).filter (fun y => decide (key y ≠ key f)) else x :: putL f l
def dropL (k : Str) (l : List α) : List α := l.filter fun y => decide (key y ≠ k)
def getL (k : Str) (l : List α) : Option α := l.find? fun y => decide (key y = k)
variable {key}
theorem posOf_cons_lt {x : α} {l : List α} {k : Str} (h : key x < k) : posOf key (x :: l) k = posOf key l k + 1 := by
  unfold posOf
  rw [List.takeWhile_cons, if_pos (show ltB (key x) k = true from decide_eq_true h)]
  rfl
theorem posOf_cons_ge {x : α} {l : List α} {k : Str} (h : ¬ key x < k) : posOf key (x :: l) k = 0 := by
  unfold posOf
  rw [List.takeWhile_cons, if_neg (by show ¬ ltB (key x) k = true; rw [show ltB (key x) k = false from decide_eq_false h]; simp)]
  rfl
theorem hasAt_cons_lt {x : α} {l : List α} {k : Str} (h : key x < k) : hasAt key (x :: l) k = hasAt key l k := by
  unfold hasAt; rw [posOf_cons_lt h, List.getElem?_cons_succ]
theorem hasAt_cons_ge {x : α} {l : List α} {k : Str} (h : ¬ key x < k) : hasAt key (x :: l) k = decide (key x = k) := by
  unfold hasAt; rw [posOf_cons_ge h]; rfl
theorem Rise.tail {x : α} {l : List α} (h : Rise key (x :: l)) : Rise key l := (List.pairwise_cons.1 h).2
theorem Rise.head {x : α} {l : List α} (h : Rise key (x :: l)) : ∀ y ∈ l, key x < key y := (List.pairwise_cons.1 h).1
theorem filter_above {l : List α} {k : Str} (h : ∀ y ∈ l, k < key y) : l.filter (fun y => decide (key y ≠ k)) = l := by
  rw [List.filter_eq_self]
  exact fun y hy => decide_eq_true (slt_ne (h y hy)).symm
theorem getL_at {l : List α} (h : Rise key l) (k : Str) : getL key k l = if hasAt key l k then l[posOf key l k]? else none := by
  induction l with
  | nil => simp [getL, hasAt]
  | cons x l ih =>
    by_cases hx : key x < k
    · rw [hasAt_cons_lt hx, posOf_cons_lt hx, List.getElem?_cons_succ, ← ih h.tail]
      unfold getL
      rw [List.find?_cons_of_neg (by simpa using slt_ne hx)]
    · rw [hasAt_cons_ge hx, posOf_cons_ge hx]
      by_cases e : key x = k
      · simp [getL, e]
      · have hk : k < key x := by
          by_cases hl : k < key x
          · exact hl
          · exact absurd (seq_of hx hl) e
        have : getL key k (x :: l) = none := by
          unfold getL
          rw [List.find?_eq_none]
          intro y hy
          rcases List.mem_cons.1 hy with rfl | hy
          · simpa using e
          · have := slt_ne (slt_trans hk (h.head y hy))
            simp [Ne.symm this]
        rw [this]
        simp [e]
theorem putL_at {l : List α} (h : Rise key l) (f : α) : putL key f l = if hasAt key l (key f) then l.set (posOf key l (key f)) f else l.take (posOf key l (key f)) ++ f :: l.drop (posOf key l (key f)) := by
  induction l with
  | nil => simp [putL, hasAt, posOf]
  | cons x l ih =>
    unfold putL
    by_cases hx : key x < key f
    · have : leB (key f) (key x) = false := decide_eq_false (by rw [sle_iff]; exact fun h => h hx)
      rw [this, hasAt_cons_lt hx, posOf_cons_lt hx, ih h.tail]
      simp
      split <;> rfl
    · have : leB (key f) (key x) = true := decide_eq_true (sle_iff.2 hx)
      rw [this, hasAt_cons_ge hx, posOf_cons_ge hx]
      by_cases e : key x = key f
      · simp only [e, decide_true, if_true, List.set_cons_zero, List.filter_cons, ne_eq, not_true, decide_false, Bool.false_eq_true, if_false]
        rw [filter_above (fun y hy => e ▸ h.head y hy)]
      · have hk : key f < key x := by
          by_cases hl : key f < key x
          · exact hl
          · exact absurd (seq_of hx hl) e
        simp only [e, decide_false, Bool.false_eq_true, if_false, if_true, List.take_zero, List.drop_zero, List.nil_append]
        rw [filter_above fun y hy => ?_]
        rcases List.mem_cons.1 hy with rfl | hy
        · exact hk
        · exact slt_trans hk (h.head y hy)
theorem mem_putL {l : List α} {f x : α} (h : x ∈ putL key f l) : x = f ∨ x ∈ l := by
  induction l with
  | nil => simpa [putL] using h
  | cons y l ih =>
    unfold putL at h
    split at h
    · rcases List.mem_cons.1 h with h | h
      · exact .inl h
      · exact .inr (List.mem_filter.1 h).1
    · rcases List.mem_cons.1 h with h | h
      · exact .inr (h ▸ List.mem_cons_self)
      · rcases ih h with h | h
        · exact .inl h
        · exact .inr (List.mem_cons_of_mem _ h)
theorem rise_filter {l : List α} (h : Rise key l) (p : α → Bool) : Rise key (l.filter p) := List.Pairwise.filter p h
theorem rise_putL {l : List α} (h : Rise key l) (f : α) : Rise key (putL key f l) := by
  induction l with
  | nil => simp [putL, Rise]
  | cons x l ih =>
    unfold putL
    split
    · rename_i hle
      refine List.pairwise_cons.2 ⟨fun y hy => ?_, rise_filter h _⟩
      have hy2 := List.mem_filter.1 hy
      have hne : key y ≠ key f := by simpa using hy2.2
      have hfx : key f ≤ key x := leB_true hle
      rcases List.mem_cons.1 hy2.1 with rfl | hy
      · exact slt_of_le_ne hfx hne.symm
      · exact sle_lt_trans hfx (h.head y hy)
    · rename_i hle
      have hle : key x < key f := leB_false (by simpa using hle)
      refine List.pairwise_cons.2 ⟨fun y hy => ?_, ih h.tail⟩
      rcases mem_putL hy with rfl | hy
      · exact hle
      · exact h.head y hy
def riseB (key : α → Str) : List α → Bool
  | [] => true
  | [_] => true
  | x :: y :: l => ltB (key x) (key y) && riseB key (y :: l)
theorem rise_of {l : List α} (h : riseB key l = true) : Rise key l := by
  induction l with
  | nil => simp [Rise]
  | cons x l ih =>
    cases l with
    | nil => simp [Rise]
    | cons y l =>
      simp only [riseB, Bool.and_eq_true] at h
      have hr := ih h.2
      refine List.pairwise_cons.2 ⟨fun z hz => ?_, hr⟩
      have hxy := ltB_true h.1
      rcases List.mem_cons.1 hz with rfl | hz
      · exact hxy
      · exact slt_trans hxy (hr.head z hz)
theorem riseB_iff {l : List α} : riseB key l = true ↔ ∀ i x y, l[i]? = some x → l[i + 1]? = some y → key x < key y := by
  induction l with
  | nil => simp [riseB]
  | cons a l ih =>
    cases l with
    | nil => simp [riseB]
    | cons b l =>
      simp only [riseB, Bool.and_eq_true]
      constructor
      · rintro ⟨h1, h2⟩ i x y hx hy
        cases i with
        | zero =>
          simp at hx hy
          subst hx; subst hy
          exact ltB_true h1
        | succ i => exact ih.1 h2 i x y (by simpa using hx) (by simpa using hy)
      · intro h
        exact ⟨decide_eq_true (h 0 a b rfl rfl), ih.2 fun i x y hx hy => h (i + 1) x y (by simpa using hx) (by simpa using hy)⟩
theorem length_putL (f : α) (l : List α) : (putL key f l).length ≤ l.length + 1 := by
  induction l with
  | nil => simp [putL]
  | cons x l ih =>
    unfold putL
    split
    · simp only [List.length_cons]
      have := List.length_filter_le (fun y => decide (key y ≠ key f)) (x :: l)
      simp only [List.length_cons] at this
      omega
    · simp only [List.length_cons]; omega
end
end Go.Proofs.Ytaphmmobmadfoaa

/- slices.Insert of one element. -/
namespace Go.Proofs.Ytaphmmobmadfoaa
open Go Go.RowKit
/-- A row that was made out of another one: in its block, or in a new one. -/
structure Turned (w w' : World) (v v' : Value) : Prop where
  o : Only (fun b => v.ownBlock = some b) w w'
  b : ∀ g, v'.ownBlock = some g → v.ownBlock = some g ∨ w.heap.size ≤ g
def insAt {α : Type} (i : Nat) (x : α) (xs : List α) : List α := xs.take i ++ x :: xs.drop i
end Go.Proofs.Ytaphmmobmadfoaa
