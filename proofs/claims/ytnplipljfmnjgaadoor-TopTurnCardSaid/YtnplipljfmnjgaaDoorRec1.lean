/- What a command comes to. Plain: no program. -/
import Derived.Test.YtnplipljfmnjgaaDoorOv
import Derived.Test.YtnplipljfmnjgaaDoorSplit
import Derived.Lib.Replace
namespace Go.Proofs.YtnplipljfmnjgaaDoor
open Go Go.RowKit
def Ov.two (o : Ov) (a b : Str) (f : Str → Str) : Ov × Int := if o.rdF a = 0 then (o.wr b (f (o.rd a)), o.wrF b (f (o.rd a))) else (o, o.rdF a)
def Ov.joinT (o : Ov) : List Str → Str → Str × Int
  | [], s => (s, 0)
  | n :: ns, s => if o.rdF n = 0 then o.joinT ns (s ++ o.rd n) else ([], o.rdF n)
def Ov.join (o : Ov) (b : Str) (ns : List Str) : Ov × Int := if (o.joinT ns []).2 = 0 then (o.wr b (o.joinT ns []).1, o.wrF b (o.joinT ns []).1) else (o, (o.joinT ns []).2)
def Ov.need (o : Ov) (a : Str) : Int := if o.rdF a = 0 then (if o.rd a == [] then 7 else 0) else o.rdF a
abbrev kPut : Str := [112, 117, 116]
abbrev kCopy : Str := [99, 111, 112, 121]
abbrev kTurn : Str := [116, 117, 114, 110]
abbrev kSwap : Str := [115, 119, 97, 112]
abbrev kJoin : Str := [106, 111, 105, 110]
abbrev kNeed : Str := [110, 101, 101, 100]
abbrev kFail : Str := [102, 97, 105, 108]
def wd (cmd : Str) (i : Nat) : Str := (splB 32 cmd).getD i []
def nw (cmd : Str) : Nat := (splB 32 cmd).length
def sw (x y : Str) (s : Str) : Str := s.map fun c => if [c] = x then y.headD 0 else c
def cmdRest (cmd : Str) : Str := cmd.drop ((wd cmd 0).length + (wd cmd 1).length + 2)
/-- C1. -/
def Ov.run (o : Ov) (cmd : Str) : Ov × Int :=
  if wd cmd 0 = kPut then (if 2 < nw cmd then (o.wr (wd cmd 1) (cmdRest cmd), o.wrF (wd cmd 1) (cmdRest cmd)) else (o, 4))
  else if wd cmd 0 = kCopy then (if nw cmd = 3 then o.two (wd cmd 1) (wd cmd 2) id else (o, 4))
  else if wd cmd 0 = kTurn then (if nw cmd = 3 then o.two (wd cmd 1) (wd cmd 2) List.reverse else (o, 4))
  else if wd cmd 0 = kSwap then (if nw cmd = 5 ∧ (wd cmd 3).length = 1 ∧ (wd cmd 4).length = 1 then o.two (wd cmd 1) (wd cmd 2) (sw (wd cmd 3) (wd cmd 4)) else (o, 4))
  else if wd cmd 0 = kJoin then (if 2 < nw cmd then o.join (wd cmd 1) ((splB 32 cmd).drop 2) else (o, 4))
  else if wd cmd 0 = kNeed then (if nw cmd = 2 then (o, o.need (wd cmd 1)) else (o, 4))
  else if cmd = kFail then (o, 7) else (o, 4)
/-- Texts are not long. -/
structure Ov.Tx (o : Ov) : Prop where
  base : ∀ f ∈ o.base, f.2.length ≤ 1000
  own : ∀ f ∈ o.own, f.2.length ≤ 1000
/-- What an overlay keeps: what it is over, and how many files it may have. -/
structure Ov.Fit (xs : List File) (ns ts : List Str) (k : Nat) (o : Ov) : Prop where
  eb : o.base = xs
  en : o.needs = ns
  et : o.targets = ts
  rise : Rise fk o.own
  len : o.own.length ≤ k
  tx : ∀ f ∈ o.own, f.2.length ≤ 1000
theorem mem_getL_ {xs : List File} {k : Str} {x : File} (h : getL fk k xs = some x) : x ∈ xs := List.mem_of_find?_eq_some h
theorem getT_len {k : Str} {xs : List File} (h : ∀ f ∈ xs, f.2.length ≤ 1000) : (getT k xs).length ≤ 1000 := by
  unfold getT
  cases hg : getL fk k xs with
  | none => simp
  | some x => exact h x (mem_getL_ hg)
theorem Ov.rd_len {o : Ov} (h : o.Tx) (k : Str) : (o.rd k).length ≤ 1000 := by
  unfold Ov.rd
  split
  · exact getT_len h.own
  · split
    · split
      · exact getT_len h.base
      · simp
    · simp
theorem Ov.wr_txt {o : Ov} (h : ∀ f ∈ o.own, f.2.length ≤ 1000) (n s : Str) : ∀ f ∈ (o.wr n s).own, f.2.length ≤ 1000 := by
  intro f hf
  unfold Ov.wr at hf
  split at hf
  · rename_i he
    have hs : s.length ≤ 20 := by
      unfold Ov.wrF at he
      split at he
      · split at he
        · cases he
        · omega
      · cases he
    rcases mem_putL hf with rfl | hf
    · show s.length ≤ 1000; omega
    · exact h f hf
  · exact h f hf
section
variable {xs : List File} {ns ts : List Str} {k : Nat} {o : Ov}
theorem Ov.Fit.more (h : o.Fit xs ns ts k) : o.Fit xs ns ts (k + 1) := ⟨h.eb, h.en, h.et, h.rise, Nat.le_succ_of_le h.len, h.tx⟩
theorem Ov.Fit.wr (h : o.Fit xs ns ts k) (n s : Str) : (o.wr n s).Fit xs ns ts (k + 1) :=
  ⟨(Ov.wr_base _ _ _).trans h.eb, (Ov.wr_needs _ _ _).trans h.en, (Ov.wr_targets _ _ _).trans h.et, Ov.wr_rise h.rise _ _, Nat.le_trans (Ov.wr_len _ _ _) (Nat.succ_le_succ h.len), Ov.wr_txt h.tx _ _⟩
theorem Ov.Fit.two (h : o.Fit xs ns ts k) (a b : Str) (f : Str → Str) : (o.two a b f).1.Fit xs ns ts (k + 1) := by
  unfold Ov.two; split
  · exact h.wr _ _
  · exact h.more
theorem Ov.Fit.join (h : o.Fit xs ns ts k) (b : Str) (l : List Str) : (o.join b l).1.Fit xs ns ts (k + 1) := by
  unfold Ov.join; split
  · exact h.wr _ _
  · exact h.more
theorem Ov.Fit.run (h : o.Fit xs ns ts k) (cmd : Str) : (o.run cmd).1.Fit xs ns ts (k + 1) := by
  unfold Ov.run
  repeat' split
  all_goals first
    | exact h.wr _ _
    | exact h.two _ _ _
    | exact h.join _ _
    | exact h.more
theorem Ov.Fit.small (h : o.Fit xs ns ts k) (h1 : xs.length ≤ 10000) (h2 : ns.length ≤ 10000) (h3 : ts.length ≤ 10000) (h4 : k ≤ 10000) (h5 : Rise fk xs) : o.Small :=
  ⟨by rw [h.eb]; exact h1, Nat.le_trans h.len h4, by rw [h.en]; exact h2, by rw [h.et]; exact h3, h.rise, by rw [h.eb]; exact h5⟩
theorem Ov.Fit.txs (h : o.Fit xs ns ts k) (h1 : ∀ f ∈ xs, f.2.length ≤ 1000) : o.Tx := ⟨by rw [h.eb]; exact h1, h.tx⟩
end
theorem Ov.joinT_len {o : Ov} (h : o.Tx) : ∀ (ns : List Str) (s : Str), (o.joinT ns s).1.length ≤ s.length + 1000 * ns.length
  | [], s => by simp [Ov.joinT]
  | n :: ns, s => by
    unfold Ov.joinT
    split
    · have h1 := Ov.joinT_len h ns (s ++ o.rd n)
      have h2 := Ov.rd_len h n
      simp only [List.length_append, List.length_cons] at h1 ⊢
      omega
    · simp
theorem Ov.joinT_nonneg (o : Ov) : ∀ (ns : List Str) (s : Str), 0 ≤ (o.joinT ns s).2
  | [], s => by simp [Ov.joinT]
  | n :: ns, s => by
    unfold Ov.joinT
    split
    · exact Ov.joinT_nonneg o ns _
    · exact Ov.rdF_nonneg _ _
theorem Ov.run_nonneg (o : Ov) (cmd : Str) : 0 ≤ (o.run cmd).2 := by
  unfold Ov.run Ov.two Ov.join Ov.need
  have h1 := fun a => o.rdF_nonneg a
  have h2 := fun a s => o.wrF_nonneg a s
  have h3 := fun a s => o.joinT_nonneg a s
  repeat' split
  all_goals first
    | exact h1 _
    | exact h2 _ _
    | exact h3 _ _
    | simp
theorem replaceAll_byte (x y : UInt8) (s : Str) : Lib.replaceAll s [x] [y] = s.map fun c => if c = x then y else c := by
  unfold Lib.replaceAll Lib.replace
  by_cases hxy : x = y
  · subst hxy
    simp only [beq_self_eq_true, if_true]
    have : (fun c : UInt8 => if c = x then x else c) = id := by
      funext c; split <;> simp_all
    rw [this, List.map_id]
  · have hne : ([x] == [y]) = false := by simpa using hxy
    rw [if_neg (by rw [hne]; exact Bool.false_ne_true)]
    have hr : Lib.replaceNum s [x] (-1) = Lib.count s [x] := by unfold Lib.replaceNum; rw [if_pos (.inl (by decide))]
    rw [hr]
    have key : ∀ (n : Nat) (s : Str), s.length ≤ n → Lib.replaceK [x] [y] (Lib.count s [x]) s = s.map fun c => if c = x then y else c := by
      intro n
      induction n with
      | zero =>
        intro s hs
        obtain rfl : s = [] := List.eq_nil_of_length_eq_zero (by omega)
        rfl
      | succ n ih =>
        intro s hs
        have hi := index_cut x s
        by_cases hb : (cutB x s).2.2 = true
        · rw [if_pos hb] at hi
          have hp := cut_parts x s hb
          have hfree : ∀ (l : Str), (∀ z ∈ (cutB x l).1, z ≠ x) := by
            intro l
            induction l with
            | nil => simp [cutB]
            | cons z l ihl =>
              rw [cutB_cons]
              split
              · simp
              · rename_i hz
                intro u hu
                rcases List.mem_cons.1 hu with rfl | hu
                · exact hz
                · exact ihl u hu
          have hfr := hfree s
          have hl : ∀ a b : Str, s = a ++ x :: b → s.length = a.length + b.length + 1 ∧ s.drop (a.length + 1) = b ∧ s.take a.length = a := by
            rintro a b rfl
            refine ⟨by simp; omega, ?_, List.take_left⟩
            rw [← List.drop_drop, List.drop_left]; rfl
          obtain ⟨hlen, hd, ht⟩ := hl _ _ hp
          have hc : Lib.count s [x] = Lib.count (cutB x s).2.1 [x] + 1 := by
            rw [Lib.count_hit (by simp) hi, List.length_singleton, hd, Nat.add_comm]
          rw [hc, Lib.replaceK_hit _ _ _ _ _ hi, List.length_singleton, hd, ht, ih _ (by omega)]
          generalize (cutB x s).1 = a at *
          generalize (cutB x s).2.1 = b at *
          rw [hp, List.map_append, List.map_cons, if_pos rfl]
          have : a.map (fun c => if c = x then y else c) = a := by
            have h2 : a.map (fun c => if c = x then y else c) = a.map id := List.map_congr_left fun z hz => if_neg (hfr z hz)
            rw [h2, List.map_id]
          rw [this]
          simp
        · rw [if_neg hb] at hi
          rw [Lib.count_miss hi]
          have hfree : ∀ (l : Str), (cutB x l).2.2 = false → ∀ z ∈ l, z ≠ x := by
            intro l
            induction l with
            | nil => simp
            | cons z l ihl =>
              rw [cutB_cons]
              split
              · simp
              · rename_i hz
                intro hl u hu
                rcases List.mem_cons.1 hu with rfl | hu
                · exact hz
                · exact ihl hl u hu
          have hfr := hfree s (by simpa using hb)
          show s = _
          have h2 : s.map (fun c => if c = x then y else c) = s.map id := List.map_congr_left fun z hz => if_neg (hfr z hz)
          rw [h2, List.map_id]
    exact key _ s (Nat.le_refl _)
end Go.Proofs.YtnplipljfmnjgaaDoor
