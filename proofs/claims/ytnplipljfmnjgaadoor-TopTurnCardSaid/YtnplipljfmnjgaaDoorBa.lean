/- What a group does not declare does not matter; names of what is made. Plain. -/
import Derived.Test.YtnplipljfmnjgaaDoorRec5
namespace Go.Proofs.YtnplipljfmnjgaaDoor
open Go Go.RowKit
def onlyL (ns : List Str) (xs : List File) : List File := xs.filter fun f => inS ns f.1
def Ov.cut (o : Ov) : Ov := { o with base := onlyL o.needs o.base }
theorem getL_only (ns : List Str) (k : Str) (h : inS ns k = true) : ∀ xs : List File, getL fk k (onlyL ns xs) = getL fk k xs
  | [] => rfl
  | x :: xs => by
    have ih := getL_only ns k h xs
    unfold getL onlyL at ih ⊢
    rw [List.filter_cons, List.find?_cons]
    by_cases e : x.1 = k
    · rw [if_pos (by rw [e]; exact h), List.find?_cons]
      simp only [decide_eq_true (show fk x = k from e)]
    · simp only [decide_eq_false (show ¬ fk x = k from e)]
      split
      · rw [List.find?_cons]
        simp only [decide_eq_false (show ¬ fk x = k from e)]
        exact ih
      · exact ih
theorem Ov.cut_rd (o : Ov) (k : Str) : o.cut.rd k = o.rd k := by
  unfold Ov.rd Ov.cut
  by_cases h : inS o.needs k = true
  · simp only [getT, getB, getL_only o.needs k h]; rfl
  · simp only [h]; rfl
theorem Ov.cut_rdF (o : Ov) (k : Str) : o.cut.rdF k = o.rdF k := by
  unfold Ov.rdF Ov.cut
  by_cases h : inS o.needs k = true
  · simp only [getB, getL_only o.needs k h]; rfl
  · simp only [h]; rfl
theorem Ov.cut_wrF (o : Ov) (k s : Str) : o.cut.wrF k s = o.wrF k s := rfl
theorem Ov.cut_wr (o : Ov) (k s : Str) : o.cut.wr k s = (o.wr k s).cut := by
  unfold Ov.wr
  rw [Ov.cut_wrF]
  split <;> rfl
theorem Ov.cut_two (o : Ov) (a b : Str) (f : Str → Str) : o.cut.two a b f = ((o.two a b f).1.cut, (o.two a b f).2) := by
  unfold Ov.two
  rw [Ov.cut_rd, Ov.cut_rdF, Ov.cut_wr, Ov.cut_wrF]
  split <;> rfl
theorem Ov.cut_joinT (o : Ov) : ∀ (ns : List Str) (s : Str), o.cut.joinT ns s = o.joinT ns s
  | [], s => rfl
  | n :: ns, s => by
    unfold Ov.joinT
    rw [Ov.cut_rd, Ov.cut_rdF, Ov.cut_joinT o ns]
theorem Ov.cut_join (o : Ov) (b : Str) (ns : List Str) : o.cut.join b ns = ((o.join b ns).1.cut, (o.join b ns).2) := by
  unfold Ov.join
  rw [Ov.cut_joinT, Ov.cut_wr, Ov.cut_wrF]
  split <;> rfl
theorem Ov.cut_need (o : Ov) (a : Str) : o.cut.need a = o.need a := by
  unfold Ov.need
  rw [Ov.cut_rd, Ov.cut_rdF]
theorem Ov.cut_run (o : Ov) (cmd : Str) : o.cut.run cmd = ((o.run cmd).1.cut, (o.run cmd).2) := by
  unfold Ov.run
  simp only [Ov.cut_two, Ov.cut_join, Ov.cut_need, Ov.cut_wr, Ov.cut_wrF]
  repeat' split
  all_goals rfl
theorem Ov.cut_runs : ∀ (cs : List Str) (o : Ov), o.cut.runs cs = ((o.runs cs).1.cut, (o.runs cs).2)
  | [], o => rfl
  | c :: cs, o => by
    rw [Ov.runs_cons, Ov.runs_cons, Ov.cut_run]
    show (if (o.run c).2 = 0 then (o.run c).1.cut.runs cs else ((o.run c).1.cut, (o.run c).2)) = _
    rw [Ov.cut_runs cs]
    split <;> rfl
theorem allF_only (xs : List File) (g : Grp) : allF (onlyL g.needs xs) g = allF xs g := by
  have h : ov0 (onlyL g.needs xs) g = (ov0 xs g).cut := rfl
  unfold allF
  rw [h, Ov.cut_runs]
  rfl
/-- All names of its own are among the targets. -/
def Ov.Tg (ts : List Str) (o : Ov) : Prop := o.targets = ts ∧ ∀ f ∈ o.own, inS ts f.1 = true
theorem Ov.Tg.wr {ts : List Str} {o : Ov} (h : o.Tg ts) (n s : Str) : (o.wr n s).Tg ts := by
  refine ⟨(Ov.wr_targets _ _ _).trans h.1, fun f hf => ?_⟩
  unfold Ov.wr at hf
  split at hf
  · rename_i he
    rcases mem_putL hf with rfl | hf
    · unfold Ov.wrF at he
      rw [h.1] at he
      show inS ts n = true
      cases hi : inS ts n with
      | true => rfl
      | false => rw [hi] at he; simp at he
    · exact h.2 f hf
  · exact h.2 f hf
theorem Ov.Tg.run {ts : List Str} {o : Ov} (h : o.Tg ts) (cmd : Str) : (o.run cmd).1.Tg ts := by
  unfold Ov.run Ov.two Ov.join
  repeat' split
  all_goals first
    | exact h.wr _ _
    | exact h
theorem Ov.Tg.runs {ts : List Str} : ∀ (cs : List Str) {o : Ov}, o.Tg ts → (o.runs cs).1.Tg ts
  | [], _, h => h
  | c :: cs, o, h => by
    rw [Ov.runs_cons]
    split
    · exact Ov.Tg.runs cs (h.run c)
    · exact h.run c
theorem allF_targets (xs : List File) (g : Grp) : ∀ f ∈ (allF xs g).1, inS g.targets f.1 = true := by
  intro f hf
  have h : ((ov0 xs g).runs g.cmds).1.Tg g.targets := Ov.Tg.runs g.cmds ⟨rfl, fun f hf => by cases hf⟩
  unfold allF at hf
  split at hf
  · split at hf
    · cases hf
    · exact h.2 f hf
  · cases hf
/-- Turning twice. -/
def gTurn : Grp := ⟨[[98], [99]], [[97]], [[116, 117, 114, 110, 32, 97, 32, 98], [116, 117, 114, 110, 32, 98, 32, 99]], false⟩
def gCopy : Grp := ⟨[[98], [99]], [[97]], [[99, 111, 112, 121, 32, 97, 32, 98], [106, 111, 105, 110, 32, 99, 32, 97]], false⟩
theorem run_turn (o : Ov) (a b : UInt8) (cmd : Str) (h0 : wd cmd 0 = kTurn) (h1 : wd cmd 1 = [a]) (h2 : wd cmd 2 = [b]) (h3 : nw cmd = 3) : o.run cmd = o.two [a] [b] List.reverse := by
  unfold Ov.run
  rw [h0, h1, h2, h3, if_neg (by decide), if_neg (by decide), if_pos rfl, if_pos rfl]
theorem run_copy (o : Ov) (a b : UInt8) (cmd : Str) (h0 : wd cmd 0 = kCopy) (h1 : wd cmd 1 = [a]) (h2 : wd cmd 2 = [b]) (h3 : nw cmd = 3) : o.run cmd = o.two [a] [b] id := by
  unfold Ov.run
  rw [h0, h1, h2, h3, if_neg (by decide), if_pos rfl, if_pos rfl]
theorem run_join (o : Ov) (b : Str) (ns : List Str) (cmd : Str) (h0 : wd cmd 0 = kJoin) (h1 : wd cmd 1 = b) (h2 : (splB 32 cmd).drop 2 = ns) (h3 : nw cmd = ns.length + 2) (h4 : ns ≠ []) : o.run cmd = o.join b ns := by
  have h5 : 0 < ns.length := List.length_pos_iff.2 h4
  unfold Ov.run
  rw [h0, h1, h2, h3, if_neg (by decide), if_neg (by decide), if_neg (by decide), if_neg (by decide), if_pos rfl, if_pos (by omega)]
theorem turn_twice (t : Str) : allF [([97], t)] gTurn = if 20 < t.length then ([], 2) else ([([98], t.reverse), ([99], t)], 0) := by
  have e1 : ∀ o : Ov, o.run [116, 117, 114, 110, 32, 97, 32, 98] = o.two [97] [98] List.reverse := fun o => run_turn o 97 98 _ (by decide) (by decide) (by decide) (by decide)
  have e2 : ∀ o : Ov, o.run [116, 117, 114, 110, 32, 98, 32, 99] = o.two [98] [99] List.reverse := fun o => run_turn o 98 99 _ (by decide) (by decide) (by decide) (by decide)
  have a1 : (ov0 [([97], t)] gTurn).rdF [97] = 0 := rfl
  have a2 : (ov0 [([97], t)] gTurn).rd [97] = t := rfl
  by_cases h : 20 < t.length
  · rw [if_pos h]
    have a3 : (ov0 [([97], t)] gTurn).wrF [98] t.reverse = 2 := by
      unfold Ov.wrF
      rw [if_pos (by rfl), if_pos (by simpa using h)]
    have hr : ((ov0 [([97], t)] gTurn).run [116, 117, 114, 110, 32, 97, 32, 98]).2 = 2 := by
      rw [e1]; unfold Ov.two; rw [a1, if_pos rfl, a2, a3]
    have hrs : ((ov0 [([97], t)] gTurn).runs gTurn.cmds).2 = 2 := by
      show ((ov0 [([97], t)] gTurn).runs ([116, 117, 114, 110, 32, 97, 32, 98] :: _)).2 = 2
      rw [Ov.runs_cons, hr, if_neg (by decide)]
    unfold allF
    rw [hrs]
    rfl
  · rw [if_neg h]
    have w1 : (ov0 [([97], t)] gTurn).two [97] [98] List.reverse = (⟨[([97], t)], [([98], t.reverse)], gTurn.needs, gTurn.targets⟩, 0) := by
      have a3 : (ov0 [([97], t)] gTurn).wrF [98] t.reverse = 0 := by
        unfold Ov.wrF
        rw [if_pos (by rfl), if_neg (by simpa using h)]
      unfold Ov.two
      rw [a1, if_pos rfl, a2, a3]
      unfold Ov.wr
      rw [a3, if_pos rfl]
      rfl
    have w2 : (⟨[([97], t)], [([98], t.reverse)], gTurn.needs, gTurn.targets⟩ : Ov).two [98] [99] List.reverse = (⟨[([97], t)], [([98], t.reverse), ([99], t)], gTurn.needs, gTurn.targets⟩, 0) := by
      have b1 : (⟨[([97], t)], [([98], t.reverse)], gTurn.needs, gTurn.targets⟩ : Ov).rdF [98] = 0 := rfl
      have b2 : (⟨[([97], t)], [([98], t.reverse)], gTurn.needs, gTurn.targets⟩ : Ov).rd [98] = t.reverse := rfl
      have a3 : (⟨[([97], t)], [([98], t.reverse)], gTurn.needs, gTurn.targets⟩ : Ov).wrF [99] t = 0 := by
        unfold Ov.wrF
        rw [if_pos (by rfl), if_neg (by simpa using h)]
      unfold Ov.two
      rw [b1, if_pos rfl, b2, List.reverse_reverse, a3]
      unfold Ov.wr
      rw [a3, if_pos rfl]
      rfl
    have hrs : (ov0 [([97], t)] gTurn).runs gTurn.cmds = (⟨[([97], t)], [([98], t.reverse), ([99], t)], gTurn.needs, gTurn.targets⟩, 0) := by
      show (ov0 [([97], t)] gTurn).runs [[116, 117, 114, 110, 32, 97, 32, 98], [116, 117, 114, 110, 32, 98, 32, 99]] = _
      rw [Ov.runs_cons, e1, w1]
      show Ov.runs (⟨[([97], t)], [([98], t.reverse)], gTurn.needs, gTurn.targets⟩ : Ov) [[116, 117, 114, 110, 32, 98, 32, 99]] = _
      rw [Ov.runs_cons, e2, w2]
      rfl
    unfold allF
    rw [hrs]
    rfl
theorem copy_join (t : Str) (h : ¬ 20 < t.length) : allF [([97], t)] gCopy = ([([98], t), ([99], t)], 0) := by
  have e1 : ∀ o : Ov, o.run [99, 111, 112, 121, 32, 97, 32, 98] = o.two [97] [98] id := fun o => run_copy o 97 98 _ (by decide) (by decide) (by decide) (by decide)
  have e2 : ∀ o : Ov, o.run [106, 111, 105, 110, 32, 99, 32, 97] = o.join [99] [[97]] := fun o => run_join o [99] [[97]] _ (by decide) (by decide) (by decide) (by decide) (by decide)
  have a1 : (ov0 [([97], t)] gCopy).rdF [97] = 0 := rfl
  have a2 : (ov0 [([97], t)] gCopy).rd [97] = t := rfl
  have w1 : (ov0 [([97], t)] gCopy).two [97] [98] id = (⟨[([97], t)], [([98], t)], gCopy.needs, gCopy.targets⟩, 0) := by
    have a3 : (ov0 [([97], t)] gCopy).wrF [98] t = 0 := by
      unfold Ov.wrF
      rw [if_pos (by rfl), if_neg h]
    unfold Ov.two
    rw [a1, if_pos rfl, a2, show id t = t from rfl, a3]
    unfold Ov.wr
    rw [a3, if_pos rfl]
    rfl
  have w2 : (⟨[([97], t)], [([98], t)], gCopy.needs, gCopy.targets⟩ : Ov).join [99] [[97]] = (⟨[([97], t)], [([98], t), ([99], t)], gCopy.needs, gCopy.targets⟩, 0) := by
    have b1 : (⟨[([97], t)], [([98], t)], gCopy.needs, gCopy.targets⟩ : Ov).joinT [[97]] [] = (t, 0) := by
      have c1 : (⟨[([97], t)], [([98], t)], gCopy.needs, gCopy.targets⟩ : Ov).rdF [97] = 0 := rfl
      have c2 : (⟨[([97], t)], [([98], t)], gCopy.needs, gCopy.targets⟩ : Ov).rd [97] = t := rfl
      unfold Ov.joinT
      rw [c1, if_pos rfl, c2]
      rfl
    have a3 : (⟨[([97], t)], [([98], t)], gCopy.needs, gCopy.targets⟩ : Ov).wrF [99] t = 0 := by
      unfold Ov.wrF
      rw [if_pos (by rfl), if_neg h]
    unfold Ov.join
    rw [b1, if_pos rfl, a3]
    unfold Ov.wr
    rw [a3, if_pos rfl]
    rfl
  have hrs : (ov0 [([97], t)] gCopy).runs gCopy.cmds = (⟨[([97], t)], [([98], t), ([99], t)], gCopy.needs, gCopy.targets⟩, 0) := by
    show (ov0 [([97], t)] gCopy).runs [[99, 111, 112, 121, 32, 97, 32, 98], [106, 111, 105, 110, 32, 99, 32, 97]] = _
    rw [Ov.runs_cons, e1, w1]
    show Ov.runs (⟨[([97], t)], [([98], t)], gCopy.needs, gCopy.targets⟩ : Ov) [[106, 111, 105, 110, 32, 99, 32, 97]] = _
    rw [Ov.runs_cons, e2, w2]
    rfl
  unfold allF
  rw [hrs]
  rfl
end Go.Proofs.YtnplipljfmnjgaaDoor
