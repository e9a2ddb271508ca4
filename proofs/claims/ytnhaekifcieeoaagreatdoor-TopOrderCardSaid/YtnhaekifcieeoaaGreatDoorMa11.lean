/- Put together: Mks, Aut, Stem. -/
import Derived.Test.YtnhaekifcieeoaaGreatDoorMa06
import Derived.Test.YtnhaekifcieeoaaGreatDoorMa10
import Derived.Test.YtnhaekifcieeoaaGreatDoorMa03
import Derived.Test.YtnhaekifcieeoaaGreatDoorMa02
import Derived.Test.YtnhaekifcieeoaaGreatDoorMa04
import Derived.Test.YtnhaekifcieeoaaGreatDoorMa05
/- What a text says is made of what (E1, E2). Plain: no program. -/
namespace Go.Proofs.YtnhaekifcieeoaaGreatDoor
open Go Go.RowKit
structure Rul where
  targets : List Str
  needs : List Str
  cmds : List Str
  deriving DecidableEq
structure Mk where
  vars : List File
  rules : List Rul
  phony : List Str
  deriving DecidableEq
def mk0 : Mk := ⟨[], [], []⟩
def okFrom (p : Bool) : List Str → List Str → Bool
  | _, [] => true
  | seen, w :: r => wordB w && !inS seen w && (p || !patB w) && okFrom p (seen ++ [w]) r
def allOk (t n : List Str) : Bool := okFrom (t.any patB) [] (t ++ n) && !(t.any patB && decide (1 < t.length))
def headF (m : Mk) (s : Str) : Mk × Int :=
  if (exp m.vars 6 s).2 ≠ 0 then (m, (exp m.vars 6 s).2)
  else if (cutB 58 (exp m.vars 6 s).1).2.2 = false ∨ fieldsF (cutB 58 (exp m.vars 6 s).1).1 = [] then (m, 4)
  else if 2 < (fieldsF (cutB 58 (exp m.vars 6 s).1).1).length ∨ 3 < (fieldsF (cutB 58 (exp m.vars 6 s).1).2.1).length ∨ m.rules.length = 10 then (m, 2)
  else if allOk (fieldsF (cutB 58 (exp m.vars 6 s).1).1) (fieldsF (cutB 58 (exp m.vars 6 s).1).2.1) = true then (⟨m.vars, m.rules ++ [⟨fieldsF (cutB 58 (exp m.vars 6 s).1).1, fieldsF (cutB 58 (exp m.vars 6 s).1).2.1, []⟩], m.phony⟩, 0)
  else (m, 3)
def cmdF (m : Mk) (s : Str) : Mk × Int :=
  match m.rules.getLast? with
  | none => (m, 4)
  | some r =>
    if (exp m.vars 6 s).2 ≠ 0 then (m, (exp m.vars 6 s).2)
    else if r.cmds.length = 3 ∨ 28 < (exp m.vars 6 s).1.length then (m, 2)
    else (⟨m.vars, m.rules.dropLast ++ [⟨r.targets, r.needs, r.cmds ++ [(exp m.vars 6 s).1]⟩], m.phony⟩, 0)
abbrev phonyT : Str := [112, 104, 111, 110, 121, 32]
abbrev eqT : Str := [32, 61, 32]
def phoF (m : Mk) (n : Str) : Mk × Int := if nameB n = false ∨ inS m.phony n = true then (m, 3) else (⟨m.vars, m.rules, m.phony ++ [n]⟩, 0)
def varF (m : Mk) (a b : Str) : Mk × Int := if varB a = false then (m, 3) else if m.vars.length = 6 then (m, 2) else (⟨m.vars ++ [(a, b)], m.rules, m.phony⟩, 0)
def lineF (m : Mk) : Str → Mk × Int
  | [] => (m, 0)
  | x :: r =>
    if x = 35 then (m, 0)
    else if x = 9 then cmdF m r
    else if Lib.hasPrefix (x :: r) phonyT = true then phoF m ((x :: r).drop 6)
    else if (Lib.cut (x :: r) eqT).2.2 = true then varF m (Lib.cut (x :: r) eqT).1 (Lib.cut (x :: r) eqT).2.1
    else headF m (x :: r)
theorem lineF_cons (m : Mk) (x : UInt8) (r : Str) : lineF m (x :: r) =
    if x = 35 then (m, 0)
    else if x = 9 then cmdF m r
    else if Lib.hasPrefix (x :: r) phonyT = true then phoF m ((x :: r).drop 6)
    else if (Lib.cut (x :: r) eqT).2.2 = true then varF m (Lib.cut (x :: r) eqT).1 (Lib.cut (x :: r) eqT).2.1
    else headF m (x :: r) := rfl
def foldF : List Str → Mk → Mk × Int
  | [], m => (m, 0)
  | l :: ls, m => if (lineF m l).2 = 0 then foldF ls (lineF m l).1 else (mk0, (lineF m l).2)
def dupF : List Str → List Str → Bool
  | _, [] => false
  | made, t :: ts => inS made t || dupF (made ++ [t]) ts
def ruleOk (ph : List Str) (r : Rul) : Bool := (inS ph (r.targets.headD []) == decide (r.cmds.length = 0)) && !(decide (1 < r.targets.length) && inS ph (r.targets.getD 1 []))
def chkR (ph : List Str) : List Rul → List Str → Option (List Str)
  | [], made => some made
  | r :: rs, made => if dupF made r.targets = true then none else if ruleOk ph r = true then chkR ph rs (made ++ r.targets) else none
def chkF (m : Mk) : Int :=
  match chkR m.phony m.rules [] with
  | none => 3
  | some made => if m.phony.all (inS made) = true then 0 else 3
def parseF (s : Str) : Mk × Int :=
  if 600 < s.length then (mk0, 2)
  else if (foldF (splB 10 s) mk0).2 ≠ 0 then (mk0, (foldF (splB 10 s) mk0).2)
  else if chkF (foldF (splB 10 s) mk0).1 = 0 then ((foldF (splB 10 s) mk0).1, 0)
  else (mk0, chkF (foldF (splB 10 s) mk0).1)
/-- What stays true as lines come. -/
structure Mk.Fit (m : Mk) (k : Nat) : Prop where
  v : m.vars.length ≤ 6
  vt : ∀ x ∈ m.vars, x.1.length ≤ 600 ∧ x.2.length ≤ 600
  r : m.rules.length ≤ 10
  rt : ∀ x ∈ m.rules, 1 ≤ x.targets.length ∧ x.targets.length ≤ 2 ∧ x.needs.length ≤ 3 ∧ x.cmds.length ≤ 3
  p : m.phony.length ≤ k
theorem mk0_fit : mk0.Fit 0 := ⟨Nat.zero_le _, (fun x hx => by cases hx), Nat.zero_le _, (fun x hx => by cases hx), Nat.le_refl _⟩
theorem Mk.Fit.more {m : Mk} {k : Nat} (h : m.Fit k) : m.Fit (k + 1) := ⟨h.v, h.vt, h.r, h.rt, Nat.le_succ_of_le h.p⟩
theorem headF_fit {m : Mk} {k : Nat} (h : m.Fit k) (s : Str) : (headF m s).1.Fit (k + 1) := by
  unfold headF
  split
  · exact h.more
  · split
    · exact h.more
    · rename_i h2
      split
      · exact h.more
      · rename_i h3
        split
        · refine ⟨h.v, h.vt, ?_, ?_, Nat.le_succ_of_le h.p⟩
          · have := h.r
            show (m.rules ++ [_]).length ≤ 10
            rw [List.length_append, List.length_singleton]
            omega
          · intro x hx
            rcases List.mem_append.1 hx with hx | hx
            · exact h.rt x hx
            · obtain rfl := List.mem_singleton.1 hx
              refine ⟨?_, by show (fieldsF _).length ≤ 2; omega, by show (fieldsF _).length ≤ 3; omega, Nat.zero_le _⟩
              show 1 ≤ (fieldsF (cutB 58 (exp m.vars 6 s).1).1).length
              cases hf : fieldsF (cutB 58 (exp m.vars 6 s).1).1 with
              | nil => exact absurd (.inr hf) h2
              | cons a l => simp
        · exact h.more
theorem cmdF_fit {m : Mk} {k : Nat} (h : m.Fit k) (s : Str) : (cmdF m s).1.Fit (k + 1) := by
  unfold cmdF
  split
  · exact h.more
  · rename_i r hr
    split
    · exact h.more
    · split
      · exact h.more
      · rename_i h3
        have hm := List.mem_of_getLast? hr
        obtain ⟨q1, q2, q3, q4⟩ := h.rt r hm
        refine ⟨h.v, h.vt, ?_, ?_, Nat.le_succ_of_le h.p⟩
        · have := h.r
          have hpos : 0 < m.rules.length := List.length_pos_of_mem hm
          show (m.rules.dropLast ++ [_]).length ≤ 10
          rw [List.length_append, List.length_singleton, List.length_dropLast]
          omega
        · intro x hx
          rcases List.mem_append.1 hx with hx | hx
          · exact h.rt x (List.dropLast_subset _ hx)
          · obtain rfl := List.mem_singleton.1 hx
            refine ⟨q1, q2, q3, ?_⟩
            show (r.cmds ++ [_]).length ≤ 3
            rw [List.length_append, List.length_singleton]
            omega
theorem lineF_fit {m : Mk} {k : Nat} (h : m.Fit k) {s : Str} (hs : s.length ≤ 600) : (lineF m s).1.Fit (k + 1) := by
  cases s with
  | nil => exact h.more
  | cons x r =>
    rw [lineF_cons]
    split
    · exact h.more
    · split
      · exact cmdF_fit h r
      · split
        · unfold phoF
          split
          · exact h.more
          · refine ⟨h.v, h.vt, h.r, h.rt, ?_⟩
            have := h.p
            show (m.phony ++ [_]).length ≤ k + 1
            rw [List.length_append, List.length_singleton]
            omega
        · split
          · unfold varF
            split
            · exact h.more
            · split
              · exact h.more
              · rename_i h6
                have hc := cut_len (x :: r) eqT
                refine ⟨?_, ?_, h.r, h.rt, Nat.le_succ_of_le h.p⟩
                · have := h.v
                  show (m.vars ++ [_]).length ≤ 6
                  rw [List.length_append, List.length_singleton]
                  omega
                · intro y hy
                  rcases List.mem_append.1 hy with hy | hy
                  · exact h.vt y hy
                  · obtain rfl := List.mem_singleton.1 hy
                    exact ⟨by show (Lib.cut (x :: r) eqT).1.length ≤ 600; omega, by show (Lib.cut (x :: r) eqT).2.1.length ≤ 600; omega⟩
          · exact headF_fit h _
theorem headF_nonneg (m : Mk) (s : Str) : 0 ≤ (headF m s).2 := by
  have := exp_nonneg m.vars 6 s
  unfold headF
  repeat' split
  all_goals first | exact this | simp
theorem cmdF_nonneg (m : Mk) (s : Str) : 0 ≤ (cmdF m s).2 := by
  have := exp_nonneg m.vars 6 s
  unfold cmdF
  repeat' split
  all_goals first | exact this | simp
theorem lineF_nonneg (m : Mk) (s : Str) : 0 ≤ (lineF m s).2 := by
  cases s with
  | nil => exact Int.le_refl _
  | cons x r =>
    rw [lineF_cons]
    split
    · simp
    · split
      · exact cmdF_nonneg m r
      · split
        · unfold phoF; split <;> simp
        · split
          · unfold varF; repeat' split
            all_goals simp
          · exact headF_nonneg m _
theorem foldF_nonneg : ∀ (ls : List Str) (m : Mk), 0 ≤ (foldF ls m).2
  | [], m => Int.le_refl _
  | l :: ls, m => by
    unfold foldF
    split
    · exact foldF_nonneg ls _
    · exact lineF_nonneg m l
theorem chkF_cases (m : Mk) : chkF m = 0 ∨ chkF m = 3 := by
  unfold chkF
  split
  · exact .inr rfl
  · split
    · exact .inl rfl
    · exact .inr rfl
theorem parseF_nonneg (s : Str) : 0 ≤ (parseF s).2 := by
  have h1 := foldF_nonneg (splB 10 s) mk0
  have h2 := chkF_cases (foldF (splB 10 s) mk0).1
  unfold parseF
  split
  · simp
  · split
    · exact h1
    · split
      · simp
      · show 0 ≤ chkF _; omega
theorem foldF_fit : ∀ (ls : List Str) (m : Mk) (k : Nat), m.Fit k → (∀ l ∈ ls, l.length ≤ 600) → (foldF ls m).1.Fit (k + ls.length)
  | [], m, k, h, _ => h
  | l :: ls, m, k, h, hl => by
    unfold foldF
    split
    · have := foldF_fit ls _ (k + 1) (lineF_fit h (hl l (by simp))) (fun x hx => hl x (List.mem_cons_of_mem _ hx))
      rw [List.length_cons, show k + (ls.length + 1) = k + 1 + ls.length by omega]
      exact this
    · exact ⟨mk0_fit.v, mk0_fit.vt, mk0_fit.r, mk0_fit.rt, Nat.zero_le _⟩
end Go.Proofs.YtnhaekifcieeoaaGreatDoor

/- D2: what stands for the marks of a command. Plain: no program. -/
namespace Go.Proofs.YtnhaekifcieeoaaGreatDoor
open Go Go.RowKit
/-- The text for the byte behind '$', if there is one. -/
abbrev KeyV := UInt8 → Option Str
def keyV (t f n k : Str) : KeyV := fun c => if c = 64 then some t else if c = 60 then some f else if c = 94 then some n else if c = 42 then some k else none
def autoF (v : KeyV) : Str → Str
  | [] => []
  | [x] => [x]
  | x :: y :: r => if x = 36 then (match v y with | some t => t ++ autoF v r | none => x :: autoF v (y :: r)) else x :: autoF v (y :: r)
def lookF (v : KeyV) : Str → Option Str
  | x :: y :: _ => if x = 36 then v y else none
  | _ => none
def joinSp : List Str → Str
  | [] => []
  | [x] => x
  | x :: y :: r => x ++ 32 :: joinSp (y :: r)
theorem autoF_look (v : KeyV) (x : UInt8) (r : Str) : autoF v (x :: r) = match lookF v (x :: r) with | some t => t ++ autoF v (r.drop 1) | none => x :: autoF v r := by
  cases r with
  | nil => rfl
  | cons y r =>
    by_cases hx : x = 36
    · cases h : v y <;> simp [autoF, lookF, hx, h]
    · simp [autoF, lookF, hx]
theorem autoF_drop_hit {v : KeyV} {s t : Str} {i : Nat} (h : lookF v (s.drop i) = some t) : autoF v (s.drop i) = t ++ autoF v (s.drop (i + 2)) ∧ i + 2 ≤ s.length := by
  cases hs : s.drop i with
  | nil => rw [hs] at h; cases h
  | cons x r =>
    rw [hs] at h
    have hl : r ≠ [] := by
      rintro rfl
      cases h
    have h2 : s.drop (i + 2) = r.drop 1 := by
      rw [Nat.add_comm i 2, ← List.drop_drop, List.drop_drop, Nat.add_comm 2 i, ← List.drop_drop, hs]
      rfl
    rw [autoF_look, h, h2]
    refine ⟨rfl, ?_⟩
    have := congrArg List.length hs
    have hr := List.length_pos_iff.2 hl
    simp only [List.length_drop, List.length_cons] at this
    omega
theorem autoF_drop_miss {v : KeyV} {s : Str} {i : Nat} (h : lookF v (s.drop i) = none) (hi : i < s.length) : autoF v (s.drop i) = s[i] :: autoF v (s.drop (i + 1)) := by
  rw [List.drop_eq_getElem_cons hi] at h ⊢
  rw [autoF_look, h]
theorem autoF_len {v : KeyV} {K : Nat} (hv : ∀ c t, v c = some t → t.length ≤ K) : ∀ s : Str, (autoF v s).length ≤ s.length * (K + 1)
  | [] => by simp [autoF]
  | [x] => by simp [autoF]
  | x :: y :: r => by
    have h1 := autoF_len hv (y :: r)
    have h2 := autoF_len hv r
    rw [autoF_look]
    have e1 : (x :: y :: r).length * (K + 1) = r.length * (K + 1) + (K + 1) + (K + 1) := by simp only [List.length_cons, Nat.succ_mul]
    have e2 : (y :: r).length * (K + 1) = r.length * (K + 1) + (K + 1) := by simp only [List.length_cons, Nat.succ_mul]
    rw [e2] at h1
    rw [e1]
    cases h : lookF v (x :: y :: r) with
    | none => simp only [List.length_cons]; omega
    | some t =>
      have : t.length ≤ K := by
        by_cases hx : x = 36
        · simp only [lookF, hx, if_true] at h
          exact hv _ _ h
        · simp [lookF, hx] at h
      simp only [List.length_append, List.drop_succ_cons, List.drop_zero]
      omega
theorem keyV_len {t f n k : Str} {K : Nat} (h1 : t.length ≤ K) (h2 : f.length ≤ K) (h3 : n.length ≤ K) (h4 : k.length ≤ K) : ∀ c u, keyV t f n k c = some u → u.length ≤ K := by
  intro c u h
  unfold keyV at h
  split at h
  · cases h; exact h1
  · split at h
    · cases h; exact h2
    · split at h
      · cases h; exact h3
      · split at h
        · cases h; exact h4
        · cases h
theorem joinSp_len {K : Nat} : ∀ {l : List Str}, (∀ x ∈ l, x.length ≤ K) → (joinSp l).length ≤ l.length * (K + 1)
  | [], _ => by simp [joinSp]
  | [x], h => by have := h x (by simp); simp [joinSp]; omega
  | x :: y :: r, h => by
    have h1 := joinSp_len (l := y :: r) (fun z hz => h z (List.mem_cons_of_mem _ hz))
    have h2 := h x (by simp)
    have e1 : (x :: y :: r).length * (K + 1) = (y :: r).length * (K + 1) + (K + 1) := by rw [List.length_cons, Nat.succ_mul]
    rw [e1]
    simp only [joinSp, List.length_append, List.length_cons] at h1 ⊢
    omega
theorem joinSp_snoc : ∀ (l : List Str) (x : Str), l ≠ [] → joinSp (l ++ [x]) = joinSp l ++ 32 :: x
  | [], _, h => absurd rfl h
  | [y], x, _ => rfl
  | y :: z :: r, x, _ => by
    have := joinSp_snoc (z :: r) x (by simp)
    show y ++ 32 :: joinSp (z :: r ++ [x]) = (y ++ 32 :: joinSp (z :: r)) ++ 32 :: x
    rw [this]
    simp
end Go.Proofs.YtnhaekifcieeoaaGreatDoor

/- expand.Stem. -/
namespace Go.Proofs.YtnhaekifcieeoaaGreatDoor
open Go Go.RowKit
def preB (s p : Str) : Bool := decide (p.length ≤ s.length) && (s.take p.length == p)
def sufB (s p : Str) : Bool := decide (p.length ≤ s.length) && (s.drop (s.length - p.length) == p)
def stemL (pat name : Str) : Str × Bool :=
  if (cutB 37 pat).2.2 = true ∧ (cutB 37 pat).1.length + (cutB 37 pat).2.1.length < name.length ∧ preB name (cutB 37 pat).1 = true ∧ sufB name (cutB 37 pat).2.1 = true
  then ((name.take (name.length - (cutB 37 pat).2.1.length)).drop (cutB 37 pat).1.length, true) else ([], false)
theorem SLHasPrefix_c (s p : Str) (hs : s.length ≤ maxLen) (hp : p.length ≤ maxLen) (w : World) :
    Calls Tryz.prog 128 #[S s, S p] w fun e w' => e = .returned (.bool (preB s p)) ∧ Ext w w' := by
  unfold maxLen at hs hp
  have HB : Hid (preB s p = (decide (p.length ≤ s.length) && (s.take p.length == p))) := rfl
  by_cases hl : p.length ≤ s.length
  · rw [decide_eq_true hl] at HB
    have HT : Hid ((s.take p.length == p) = preB s p) := by rw [Hid, HB.out]; rfl
    have g1 : decide ((p.length : Int) ≤ (s.length : Int)) = true := by rw [decide_eq_true_iff]; omega
    generalize preB s p = b at HT ⊢
    clear HB
    go_enter Tryz.func128, Tryz.ntmps128
    go_wp2_with (first | ((first | refine Mix.wpList_guarded rfl ?_ | refine Mix.wp_still (by kernel_rfl) (by kernel_rfl) ?_); (repeat' (first | (refine Mix.lex_quiet0 rfl rfl rfl ?_; intro K hK; go_big_quiet_op; go_big_quiet_on) | (refine Mix.lex_quietG rfl rfl rfl (by with_reducible rfl) rfl rfl ?_; intro K hK; go_big_quiet_op; go_big_quiet_on) | ((first | refine Mix.lex_skipT rfl rfl rfl (by with_reducible rfl) ?_ | refine Mix.lex_skipF rfl rfl rfl (by with_reducible rfl) ?_ | refine Mix.lex_skipU rfl rfl rfl (by with_reducible rfl) ?_); simp only [Act.put, List.setIfInBounds_toArray, List.set_cons_succ, List.set_cons_zero]) | (refine Mix.lex_part rfl rfl rfl rfl (fun hq => ?_) (fun hq => ?_) <;> (fail_if_success (guard_hyp hq :ₛ true = true)) <;> (fail_if_success (guard_hyp hq :ₛ false = false)) <;> first | (exfalso; cases hq; done) | (exfalso; simp only [decide_eq_true_eq, decide_eq_false_iff_not, beq_iff_eq, beq_eq_false_iff_ne, ne_eq, Int.not_lt, Int.not_le] at hq; omega) | simp only [Act.put, List.setIfInBounds_toArray, List.set_cons_succ, List.set_cons_zero]))); all_goals (refine Mix.lex_nil ?_)))
    all_goals (go_ret; exact ⟨by rw [← HT.out]; try rfl, Only.refl _ _⟩)
  · have HT : Hid (preB s p = false) := by rw [Hid, HB.out, decide_eq_false hl]; rfl
    have g1 : decide ((p.length : Int) ≤ (s.length : Int)) = false := by rw [decide_eq_false_iff_not]; omega
    rw [HT.out]
    go_enter Tryz.func128, Tryz.ntmps128
    go_wp2_with (first | ((first | refine Mix.wpList_guarded rfl ?_ | refine Mix.wp_still (by kernel_rfl) (by kernel_rfl) ?_); (repeat' (first | (refine Mix.lex_quiet0 rfl rfl rfl ?_; intro K hK; go_big_quiet_op; go_big_quiet_on) | (refine Mix.lex_quietG rfl rfl rfl (by with_reducible rfl) rfl rfl ?_; intro K hK; go_big_quiet_op; go_big_quiet_on) | ((first | refine Mix.lex_skipT rfl rfl rfl (by with_reducible rfl) ?_ | refine Mix.lex_skipF rfl rfl rfl (by with_reducible rfl) ?_ | refine Mix.lex_skipU rfl rfl rfl (by with_reducible rfl) ?_); simp only [Act.put, List.setIfInBounds_toArray, List.set_cons_succ, List.set_cons_zero]) | (refine Mix.lex_part rfl rfl rfl rfl (fun hq => ?_) (fun hq => ?_) <;> (fail_if_success (guard_hyp hq :ₛ true = true)) <;> (fail_if_success (guard_hyp hq :ₛ false = false)) <;> first | (exfalso; cases hq; done) | (exfalso; simp only [decide_eq_true_eq, decide_eq_false_iff_not, beq_iff_eq, beq_eq_false_iff_ne, ne_eq, Int.not_lt, Int.not_le] at hq; omega) | simp only [Act.put, List.setIfInBounds_toArray, List.set_cons_succ, List.set_cons_zero]))); all_goals (refine Mix.lex_nil ?_)))
    all_goals (go_ret; exact ⟨rfl, Only.refl _ _⟩)
theorem HasPrefix_c (s p : Str) (hs : s.length ≤ maxLen) (hp : p.length ≤ maxLen) (w : World) :
    Calls Tryz.prog 119 #[S s, S p] w fun e w' => e = .returned (.bool (preB s p)) ∧ Ext w w' := by
  have HC := Lib.hid (SLHasPrefix_c s p hs hp w)
  go_enter Tryz.func119, Tryz.ntmps119
  go_wp2_with (first | ((first | refine Mix.wpList_guarded rfl ?_ | refine Mix.wp_still (by kernel_rfl) (by kernel_rfl) ?_); (repeat' (first | (refine Mix.lex_quiet0 rfl rfl rfl ?_; intro K hK; go_big_quiet_op; go_big_quiet_on) | (refine Mix.lex_quietG rfl rfl rfl (by with_reducible rfl) rfl rfl ?_; intro K hK; go_big_quiet_op; go_big_quiet_on) | ((first | refine Mix.lex_skipT rfl rfl rfl (by with_reducible rfl) ?_ | refine Mix.lex_skipF rfl rfl rfl (by with_reducible rfl) ?_ | refine Mix.lex_skipU rfl rfl rfl (by with_reducible rfl) ?_); simp only [Act.put, List.setIfInBounds_toArray, List.set_cons_succ, List.set_cons_zero]) | (refine Mix.lex_part rfl rfl rfl rfl (fun hq => ?_) (fun hq => ?_) <;> (fail_if_success (guard_hyp hq :ₛ true = true)) <;> (fail_if_success (guard_hyp hq :ₛ false = false)) <;> first | (exfalso; cases hq; done) | (exfalso; simp only [decide_eq_true_eq, decide_eq_false_iff_not, beq_iff_eq, beq_eq_false_iff_ne, ne_eq, Int.not_lt, Int.not_le] at hq; omega) | simp only [Act.put, List.setIfInBounds_toArray, List.set_cons_succ, List.set_cons_zero]))); all_goals (refine Mix.lex_nil ?_)))
  refine (HC.out).mono ?_; rintro e uu ⟨rfl, hu⟩; obtain ⟨ξ1, hnew⟩ : ∃ ξ : X w No, ξ.v = uu := ⟨⟨uu, (X.here w No).h.then_ext hu⟩, rfl⟩; subst hnew; have Hξ1 := Lib.hid hu; clear hu
  go_wp2_with (first | ((first | refine Mix.wpList_guarded rfl ?_ | refine Mix.wp_still (by kernel_rfl) (by kernel_rfl) ?_); (repeat' (first | (refine Mix.lex_quiet0 rfl rfl rfl ?_; intro K hK; go_big_quiet_op; go_big_quiet_on) | (refine Mix.lex_quietG rfl rfl rfl (by with_reducible rfl) rfl rfl ?_; intro K hK; go_big_quiet_op; go_big_quiet_on) | ((first | refine Mix.lex_skipT rfl rfl rfl (by with_reducible rfl) ?_ | refine Mix.lex_skipF rfl rfl rfl (by with_reducible rfl) ?_ | refine Mix.lex_skipU rfl rfl rfl (by with_reducible rfl) ?_); simp only [Act.put, List.setIfInBounds_toArray, List.set_cons_succ, List.set_cons_zero]) | (refine Mix.lex_part rfl rfl rfl rfl (fun hq => ?_) (fun hq => ?_) <;> (fail_if_success (guard_hyp hq :ₛ true = true)) <;> (fail_if_success (guard_hyp hq :ₛ false = false)) <;> first | (exfalso; cases hq; done) | (exfalso; simp only [decide_eq_true_eq, decide_eq_false_iff_not, beq_iff_eq, beq_eq_false_iff_ne, ne_eq, Int.not_lt, Int.not_le] at hq; omega) | simp only [Act.put, List.setIfInBounds_toArray, List.set_cons_succ, List.set_cons_zero]))); all_goals (refine Mix.lex_nil ?_)))
  go_ret
  exact ⟨rfl, ξ1.h⟩
theorem SLHasSuffix_c (s p : Str) (hs : s.length ≤ maxLen) (hp : p.length ≤ maxLen) (w : World) :
    Calls Tryz.prog 151 #[S s, S p] w fun e w' => e = .returned (.bool (sufB s p)) ∧ Ext w w' := by
  unfold maxLen at hs hp
  have HB : Hid (sufB s p = (decide (p.length ≤ s.length) && (s.drop (s.length - p.length) == p))) := rfl
  by_cases hl : p.length ≤ s.length
  · rw [decide_eq_true hl] at HB
    have HT : Hid ((s.drop (s.length - p.length) == p) = sufB s p) := by rw [Hid, HB.out]; rfl
    have g1 : decide ((p.length : Int) ≤ (s.length : Int)) = true := by rw [decide_eq_true_iff]; omega
    generalize sufB s p = b at HT ⊢
    clear HB
    go_enter Tryz.func151, Tryz.ntmps151
    go_wp2_with (first | ((first | refine Mix.wpList_guarded rfl ?_ | refine Mix.wp_still (by kernel_rfl) (by kernel_rfl) ?_); (repeat' (first | (refine Mix.lex_quiet0 rfl rfl rfl ?_; intro K hK; go_big_quiet_op; go_big_quiet_on) | (refine Mix.lex_quietG rfl rfl rfl (by with_reducible rfl) rfl rfl ?_; intro K hK; go_big_quiet_op; go_big_quiet_on) | ((first | refine Mix.lex_skipT rfl rfl rfl (by with_reducible rfl) ?_ | refine Mix.lex_skipF rfl rfl rfl (by with_reducible rfl) ?_ | refine Mix.lex_skipU rfl rfl rfl (by with_reducible rfl) ?_); simp only [Act.put, List.setIfInBounds_toArray, List.set_cons_succ, List.set_cons_zero]) | (refine Mix.lex_part rfl rfl rfl rfl (fun hq => ?_) (fun hq => ?_) <;> (fail_if_success (guard_hyp hq :ₛ true = true)) <;> (fail_if_success (guard_hyp hq :ₛ false = false)) <;> first | (exfalso; cases hq; done) | (exfalso; simp only [decide_eq_true_eq, decide_eq_false_iff_not, beq_iff_eq, beq_eq_false_iff_ne, ne_eq, Int.not_lt, Int.not_le] at hq; omega) | simp only [Act.put, List.setIfInBounds_toArray, List.set_cons_succ, List.set_cons_zero]))); all_goals (refine Mix.lex_nil ?_)))
    all_goals (go_ret; exact ⟨by rw [← HT.out]; try rfl, Only.refl _ _⟩)
  · have HT : Hid (sufB s p = false) := by rw [Hid, HB.out, decide_eq_false hl]; rfl
    have g1 : decide ((p.length : Int) ≤ (s.length : Int)) = false := by rw [decide_eq_false_iff_not]; omega
    rw [HT.out]
    go_enter Tryz.func151, Tryz.ntmps151
    go_wp2_with (first | ((first | refine Mix.wpList_guarded rfl ?_ | refine Mix.wp_still (by kernel_rfl) (by kernel_rfl) ?_); (repeat' (first | (refine Mix.lex_quiet0 rfl rfl rfl ?_; intro K hK; go_big_quiet_op; go_big_quiet_on) | (refine Mix.lex_quietG rfl rfl rfl (by with_reducible rfl) rfl rfl ?_; intro K hK; go_big_quiet_op; go_big_quiet_on) | ((first | refine Mix.lex_skipT rfl rfl rfl (by with_reducible rfl) ?_ | refine Mix.lex_skipF rfl rfl rfl (by with_reducible rfl) ?_ | refine Mix.lex_skipU rfl rfl rfl (by with_reducible rfl) ?_); simp only [Act.put, List.setIfInBounds_toArray, List.set_cons_succ, List.set_cons_zero]) | (refine Mix.lex_part rfl rfl rfl rfl (fun hq => ?_) (fun hq => ?_) <;> (fail_if_success (guard_hyp hq :ₛ true = true)) <;> (fail_if_success (guard_hyp hq :ₛ false = false)) <;> first | (exfalso; cases hq; done) | (exfalso; simp only [decide_eq_true_eq, decide_eq_false_iff_not, beq_iff_eq, beq_eq_false_iff_ne, ne_eq, Int.not_lt, Int.not_le] at hq; omega) | simp only [Act.put, List.setIfInBounds_toArray, List.set_cons_succ, List.set_cons_zero]))); all_goals (refine Mix.lex_nil ?_)))
    all_goals (go_ret; exact ⟨rfl, Only.refl _ _⟩)
theorem HasSuffix_c (s p : Str) (hs : s.length ≤ maxLen) (hp : p.length ≤ maxLen) (w : World) :
    Calls Tryz.prog 120 #[S s, S p] w fun e w' => e = .returned (.bool (sufB s p)) ∧ Ext w w' := by
  have HC := Lib.hid (SLHasSuffix_c s p hs hp w)
  go_enter Tryz.func120, Tryz.ntmps120
  go_wp2_with (first | ((first | refine Mix.wpList_guarded rfl ?_ | refine Mix.wp_still (by kernel_rfl) (by kernel_rfl) ?_); (repeat' (first | (refine Mix.lex_quiet0 rfl rfl rfl ?_; intro K hK; go_big_quiet_op; go_big_quiet_on) | (refine Mix.lex_quietG rfl rfl rfl (by with_reducible rfl) rfl rfl ?_; intro K hK; go_big_quiet_op; go_big_quiet_on) | ((first | refine Mix.lex_skipT rfl rfl rfl (by with_reducible rfl) ?_ | refine Mix.lex_skipF rfl rfl rfl (by with_reducible rfl) ?_ | refine Mix.lex_skipU rfl rfl rfl (by with_reducible rfl) ?_); simp only [Act.put, List.setIfInBounds_toArray, List.set_cons_succ, List.set_cons_zero]) | (refine Mix.lex_part rfl rfl rfl rfl (fun hq => ?_) (fun hq => ?_) <;> (fail_if_success (guard_hyp hq :ₛ true = true)) <;> (fail_if_success (guard_hyp hq :ₛ false = false)) <;> first | (exfalso; cases hq; done) | (exfalso; simp only [decide_eq_true_eq, decide_eq_false_iff_not, beq_iff_eq, beq_eq_false_iff_ne, ne_eq, Int.not_lt, Int.not_le] at hq; omega) | simp only [Act.put, List.setIfInBounds_toArray, List.set_cons_succ, List.set_cons_zero]))); all_goals (refine Mix.lex_nil ?_)))
  refine (HC.out).mono ?_; rintro e uu ⟨rfl, hu⟩; obtain ⟨ξ1, hnew⟩ : ∃ ξ : X w No, ξ.v = uu := ⟨⟨uu, (X.here w No).h.then_ext hu⟩, rfl⟩; subst hnew; have Hξ1 := Lib.hid hu; clear hu
  go_wp2_with (first | ((first | refine Mix.wpList_guarded rfl ?_ | refine Mix.wp_still (by kernel_rfl) (by kernel_rfl) ?_); (repeat' (first | (refine Mix.lex_quiet0 rfl rfl rfl ?_; intro K hK; go_big_quiet_op; go_big_quiet_on) | (refine Mix.lex_quietG rfl rfl rfl (by with_reducible rfl) rfl rfl ?_; intro K hK; go_big_quiet_op; go_big_quiet_on) | ((first | refine Mix.lex_skipT rfl rfl rfl (by with_reducible rfl) ?_ | refine Mix.lex_skipF rfl rfl rfl (by with_reducible rfl) ?_ | refine Mix.lex_skipU rfl rfl rfl (by with_reducible rfl) ?_); simp only [Act.put, List.setIfInBounds_toArray, List.set_cons_succ, List.set_cons_zero]) | (refine Mix.lex_part rfl rfl rfl rfl (fun hq => ?_) (fun hq => ?_) <;> (fail_if_success (guard_hyp hq :ₛ true = true)) <;> (fail_if_success (guard_hyp hq :ₛ false = false)) <;> first | (exfalso; cases hq; done) | (exfalso; simp only [decide_eq_true_eq, decide_eq_false_iff_not, beq_iff_eq, beq_eq_false_iff_ne, ne_eq, Int.not_lt, Int.not_le] at hq; omega) | simp only [Act.put, List.setIfInBounds_toArray, List.set_cons_succ, List.set_cons_zero]))); all_goals (refine Mix.lex_nil ?_)))
  go_ret
  exact ⟨rfl, ξ1.h⟩
set_option maxHeartbeats 1000000 in
theorem Stem_c (pat name : Str) (hp : pat.length ≤ 100000) (hn : name.length ≤ 100000) {w : World} (hm : Ml w) :
    Calls Tryz.prog 87 #[S pat, S name] w fun e w' => e = .returned (.tuple #[S (stemL pat name).1, .bool (stemL pat name).2]) ∧ Ext w w' := by
  have HC := Lib.hid (BCut_c pat 37 (by omega) hm)
  have hl := cutB_len 37 pat
  have HD : Hid (stemL pat name = if (cutB 37 pat).2.2 = true ∧ (cutB 37 pat).1.length + (cutB 37 pat).2.1.length < name.length ∧ preB name (cutB 37 pat).1 = true ∧ sufB name (cutB 37 pat).2.1 = true then ((name.take (name.length - (cutB 37 pat).2.1.length)).drop (cutB 37 pat).1.length, true) else ([], false)) := rfl
  generalize stemL pat name = R at HD ⊢
  generalize cutB 37 pat = q at HC hl HD
  obtain ⟨a, b, is⟩ := q
  dsimp only at HC hl HD
  have HP := Lib.hid (fun v => HasPrefix_c name a (by unfold maxLen; omega) (by unfold maxLen; omega) v)
  have HS := Lib.hid (fun v => HasSuffix_c name b (by unfold maxLen; omega) (by unfold maxLen; omega) v)
  generalize preB name a = pb at HP HD
  generalize sufB name b = sb at HS HD
  clear hm
  go_enter Tryz.func87, Tryz.ntmps87
  go_wp2_with (first | ((first | refine Mix.wpList_guarded rfl ?_ | refine Mix.wp_still (by kernel_rfl) (by kernel_rfl) ?_); (repeat' (first | (refine Mix.lex_quiet0 rfl rfl rfl ?_; intro K hK; go_big_quiet_op; go_big_quiet_on) | (refine Mix.lex_quietG rfl rfl rfl (by with_reducible rfl) rfl rfl ?_; intro K hK; go_big_quiet_op; go_big_quiet_on) | ((first | refine Mix.lex_skipT rfl rfl rfl (by with_reducible rfl) ?_ | refine Mix.lex_skipF rfl rfl rfl (by with_reducible rfl) ?_ | refine Mix.lex_skipU rfl rfl rfl (by with_reducible rfl) ?_); simp only [Act.put, List.setIfInBounds_toArray, List.set_cons_succ, List.set_cons_zero]) | (refine Mix.lex_part rfl rfl rfl rfl (fun hq => ?_) (fun hq => ?_) <;> (fail_if_success (guard_hyp hq :ₛ true = true)) <;> (fail_if_success (guard_hyp hq :ₛ false = false)) <;> first | (exfalso; cases hq; done) | (exfalso; simp only [decide_eq_true_eq, decide_eq_false_iff_not, beq_iff_eq, beq_eq_false_iff_ne, ne_eq, Int.not_lt, Int.not_le] at hq; omega) | simp only [Act.put, List.setIfInBounds_toArray, List.set_cons_succ, List.set_cons_zero]))); all_goals (refine Mix.lex_nil ?_)))
  refine (HC.out).mono ?_; rintro e uu ⟨rfl, hu⟩; obtain ⟨ξ1, hnew⟩ : ∃ ξ : X w No, ξ.v = uu := ⟨⟨uu, (X.here w No).h.then_ext hu⟩, rfl⟩; subst hnew; have Hξ1 := Lib.hid hu; clear hu
  clear HC
  cases is with
  | false =>
    have HR : Hid (R = ([], false)) := by rw [Hid, HD.out]; exact if_neg (fun h => by simp at h)
    go_wp2_with (first | ((first | refine Mix.wpList_guarded rfl ?_ | refine Mix.wp_still (by kernel_rfl) (by kernel_rfl) ?_); (repeat' (first | (refine Mix.lex_quiet0 rfl rfl rfl ?_; intro K hK; go_big_quiet_op; go_big_quiet_on) | (refine Mix.lex_quietG rfl rfl rfl (by with_reducible rfl) rfl rfl ?_; intro K hK; go_big_quiet_op; go_big_quiet_on) | ((first | refine Mix.lex_skipT rfl rfl rfl (by with_reducible rfl) ?_ | refine Mix.lex_skipF rfl rfl rfl (by with_reducible rfl) ?_ | refine Mix.lex_skipU rfl rfl rfl (by with_reducible rfl) ?_); simp only [Act.put, List.setIfInBounds_toArray, List.set_cons_succ, List.set_cons_zero]) | (refine Mix.lex_part rfl rfl rfl rfl (fun hq => ?_) (fun hq => ?_) <;> (fail_if_success (guard_hyp hq :ₛ true = true)) <;> (fail_if_success (guard_hyp hq :ₛ false = false)) <;> first | (exfalso; cases hq; done) | (exfalso; simp only [decide_eq_true_eq, decide_eq_false_iff_not, beq_iff_eq, beq_eq_false_iff_ne, ne_eq, Int.not_lt, Int.not_le] at hq; omega) | simp only [Act.put, List.setIfInBounds_toArray, List.set_cons_succ, List.set_cons_zero]))); all_goals (refine Mix.lex_nil ?_)))
    go_ret2
    rw [HR.out]
    exact ⟨rfl, ξ1.h⟩
  | true =>
  by_cases hlt : a.length + b.length < name.length
  · have g1 : decide ((name.length : Int) ≤ (a.length : Int) + (b.length : Int)) = false := by rw [decide_eq_false_iff_not]; omega
    cases pb with
    | false =>
      have HR : Hid (R = ([], false)) := by rw [Hid, HD.out]; exact if_neg (fun h => by simp at h)
      go_upto_region 2 with fail
      refine Mix.wp_plain [15] (Cl w No) (Cl.of ξ1.h) ?_
      (repeat' (first | (refine Mix.lex_quiet0 rfl rfl rfl ?_; intro K hK; go_big_quiet_op; go_big_quiet_on) | (refine Mix.lex_quietG rfl rfl rfl (by with_reducible rfl) rfl rfl ?_; intro K hK; go_big_quiet_op; go_big_quiet_on) | ((first | refine Mix.lex_skipT rfl rfl rfl (by with_reducible rfl) ?_ | refine Mix.lex_skipF rfl rfl rfl (by with_reducible rfl) ?_ | refine Mix.lex_skipU rfl rfl rfl (by with_reducible rfl) ?_); simp only [Act.put, List.setIfInBounds_toArray, List.set_cons_succ, List.set_cons_zero]) | (refine Mix.lex_part rfl rfl rfl rfl (fun hq => ?_) (fun hq => ?_) <;> (fail_if_success (guard_hyp hq :ₛ true = true)) <;> (fail_if_success (guard_hyp hq :ₛ false = false)) <;> first | (exfalso; cases hq; done) | (exfalso; simp only [decide_eq_true_eq, decide_eq_false_iff_not, beq_iff_eq, beq_eq_false_iff_ne, ne_eq, Int.not_lt, Int.not_le] at hq; omega) | simp only [Act.put, List.setIfInBounds_toArray, List.set_cons_succ, List.set_cons_zero])))
      ((first | refine Mix.lex_goes0 rfl rfl ?_ | refine Mix.lex_goesG rfl rfl rfl (by with_reducible rfl) rfl ?_); intro K hK; go_simp); refine (HP.out _).mono ?_; rintro e uu ⟨rfl, hu⟩; obtain ⟨ξ2, hnew⟩ : ∃ ξ : X w No, ξ.v = uu := ⟨⟨uu, ξ1.h.then_ext hu⟩, rfl⟩; subst hnew; have Hξ2 := Lib.hid hu; refine ⟨_, rfl, hK _ _ (fun _ => ⟨ξ2, rfl⟩) ?_⟩; clear hK K hu; simp only [Act.put, List.setIfInBounds_toArray, List.set_cons_succ, List.set_cons_zero]; (repeat' (first | (refine Mix.lex_quiet0 rfl rfl rfl ?_; intro K hK; go_big_quiet_op; go_big_quiet_on) | (refine Mix.lex_quietG rfl rfl rfl (by with_reducible rfl) rfl rfl ?_; intro K hK; go_big_quiet_op; go_big_quiet_on) | ((first | refine Mix.lex_skipT rfl rfl rfl (by with_reducible rfl) ?_ | refine Mix.lex_skipF rfl rfl rfl (by with_reducible rfl) ?_ | refine Mix.lex_skipU rfl rfl rfl (by with_reducible rfl) ?_); simp only [Act.put, List.setIfInBounds_toArray, List.set_cons_succ, List.set_cons_zero]) | (refine Mix.lex_part rfl rfl rfl rfl (fun hq => ?_) (fun hq => ?_) <;> (fail_if_success (guard_hyp hq :ₛ true = true)) <;> (fail_if_success (guard_hyp hq :ₛ false = false)) <;> first | (exfalso; cases hq; done) | (exfalso; simp only [decide_eq_true_eq, decide_eq_false_iff_not, beq_iff_eq, beq_eq_false_iff_ne, ne_eq, Int.not_lt, Int.not_le] at hq; omega) | simp only [Act.put, List.setIfInBounds_toArray, List.set_cons_succ, List.set_cons_zero])))
      refine Mix.lex_nil ?_
      go_wp2_with (first | ((first | refine Mix.wpList_guarded rfl ?_ | refine Mix.wp_still (by kernel_rfl) (by kernel_rfl) ?_); (repeat' (first | (refine Mix.lex_quiet0 rfl rfl rfl ?_; intro K hK; go_big_quiet_op; go_big_quiet_on) | (refine Mix.lex_quietG rfl rfl rfl (by with_reducible rfl) rfl rfl ?_; intro K hK; go_big_quiet_op; go_big_quiet_on) | ((first | refine Mix.lex_skipT rfl rfl rfl (by with_reducible rfl) ?_ | refine Mix.lex_skipF rfl rfl rfl (by with_reducible rfl) ?_ | refine Mix.lex_skipU rfl rfl rfl (by with_reducible rfl) ?_); simp only [Act.put, List.setIfInBounds_toArray, List.set_cons_succ, List.set_cons_zero]) | (refine Mix.lex_part rfl rfl rfl rfl (fun hq => ?_) (fun hq => ?_) <;> (fail_if_success (guard_hyp hq :ₛ true = true)) <;> (fail_if_success (guard_hyp hq :ₛ false = false)) <;> first | (exfalso; cases hq; done) | (exfalso; simp only [decide_eq_true_eq, decide_eq_false_iff_not, beq_iff_eq, beq_eq_false_iff_ne, ne_eq, Int.not_lt, Int.not_le] at hq; omega) | simp only [Act.put, List.setIfInBounds_toArray, List.set_cons_succ, List.set_cons_zero]))); all_goals (refine Mix.lex_nil ?_)))
      go_ret2
      rw [HR.out]
      exact ⟨rfl, ξ2.h⟩
    | true =>
      cases sb with
      | false =>
        have HR : Hid (R = ([], false)) := by rw [Hid, HD.out]; exact if_neg (fun h => by simp at h)
        go_upto_region 2 with fail
        refine Mix.wp_plain [15, 21] (Cl w No) (Cl.of ξ1.h) ?_
        (repeat' (first | (refine Mix.lex_quiet0 rfl rfl rfl ?_; intro K hK; go_big_quiet_op; go_big_quiet_on) | (refine Mix.lex_quietG rfl rfl rfl (by with_reducible rfl) rfl rfl ?_; intro K hK; go_big_quiet_op; go_big_quiet_on) | ((first | refine Mix.lex_skipT rfl rfl rfl (by with_reducible rfl) ?_ | refine Mix.lex_skipF rfl rfl rfl (by with_reducible rfl) ?_ | refine Mix.lex_skipU rfl rfl rfl (by with_reducible rfl) ?_); simp only [Act.put, List.setIfInBounds_toArray, List.set_cons_succ, List.set_cons_zero]) | (refine Mix.lex_part rfl rfl rfl rfl (fun hq => ?_) (fun hq => ?_) <;> (fail_if_success (guard_hyp hq :ₛ true = true)) <;> (fail_if_success (guard_hyp hq :ₛ false = false)) <;> first | (exfalso; cases hq; done) | (exfalso; simp only [decide_eq_true_eq, decide_eq_false_iff_not, beq_iff_eq, beq_eq_false_iff_ne, ne_eq, Int.not_lt, Int.not_le] at hq; omega) | simp only [Act.put, List.setIfInBounds_toArray, List.set_cons_succ, List.set_cons_zero])))
        ((first | refine Mix.lex_goes0 rfl rfl ?_ | refine Mix.lex_goesG rfl rfl rfl (by with_reducible rfl) rfl ?_); intro K hK; go_simp); refine (HP.out _).mono ?_; rintro e uu ⟨rfl, hu⟩; obtain ⟨ξ2, hnew⟩ : ∃ ξ : X w No, ξ.v = uu := ⟨⟨uu, ξ1.h.then_ext hu⟩, rfl⟩; subst hnew; have Hξ2 := Lib.hid hu; refine ⟨_, rfl, hK _ _ (fun _ => ⟨ξ2, rfl⟩) ?_⟩; clear hK K hu; simp only [Act.put, List.setIfInBounds_toArray, List.set_cons_succ, List.set_cons_zero]; (repeat' (first | (refine Mix.lex_quiet0 rfl rfl rfl ?_; intro K hK; go_big_quiet_op; go_big_quiet_on) | (refine Mix.lex_quietG rfl rfl rfl (by with_reducible rfl) rfl rfl ?_; intro K hK; go_big_quiet_op; go_big_quiet_on) | ((first | refine Mix.lex_skipT rfl rfl rfl (by with_reducible rfl) ?_ | refine Mix.lex_skipF rfl rfl rfl (by with_reducible rfl) ?_ | refine Mix.lex_skipU rfl rfl rfl (by with_reducible rfl) ?_); simp only [Act.put, List.setIfInBounds_toArray, List.set_cons_succ, List.set_cons_zero]) | (refine Mix.lex_part rfl rfl rfl rfl (fun hq => ?_) (fun hq => ?_) <;> (fail_if_success (guard_hyp hq :ₛ true = true)) <;> (fail_if_success (guard_hyp hq :ₛ false = false)) <;> first | (exfalso; cases hq; done) | (exfalso; simp only [decide_eq_true_eq, decide_eq_false_iff_not, beq_iff_eq, beq_eq_false_iff_ne, ne_eq, Int.not_lt, Int.not_le] at hq; omega) | simp only [Act.put, List.setIfInBounds_toArray, List.set_cons_succ, List.set_cons_zero])))
        ((first | refine Mix.lex_goes0 rfl rfl ?_ | refine Mix.lex_goesG rfl rfl rfl (by with_reducible rfl) rfl ?_); intro K hK; go_simp); refine (HS.out _).mono ?_; rintro e uu ⟨rfl, hu⟩; obtain ⟨ξ3, hnew⟩ : ∃ ξ : X w No, ξ.v = uu := ⟨⟨uu, ξ2.h.then_ext hu⟩, rfl⟩; subst hnew; have Hξ3 := Lib.hid hu; refine ⟨_, rfl, hK _ _ (fun _ => ⟨ξ3, rfl⟩) ?_⟩; clear hK K hu; simp only [Act.put, List.setIfInBounds_toArray, List.set_cons_succ, List.set_cons_zero]; (repeat' (first | (refine Mix.lex_quiet0 rfl rfl rfl ?_; intro K hK; go_big_quiet_op; go_big_quiet_on) | (refine Mix.lex_quietG rfl rfl rfl (by with_reducible rfl) rfl rfl ?_; intro K hK; go_big_quiet_op; go_big_quiet_on) | ((first | refine Mix.lex_skipT rfl rfl rfl (by with_reducible rfl) ?_ | refine Mix.lex_skipF rfl rfl rfl (by with_reducible rfl) ?_ | refine Mix.lex_skipU rfl rfl rfl (by with_reducible rfl) ?_); simp only [Act.put, List.setIfInBounds_toArray, List.set_cons_succ, List.set_cons_zero]) | (refine Mix.lex_part rfl rfl rfl rfl (fun hq => ?_) (fun hq => ?_) <;> (fail_if_success (guard_hyp hq :ₛ true = true)) <;> (fail_if_success (guard_hyp hq :ₛ false = false)) <;> first | (exfalso; cases hq; done) | (exfalso; simp only [decide_eq_true_eq, decide_eq_false_iff_not, beq_iff_eq, beq_eq_false_iff_ne, ne_eq, Int.not_lt, Int.not_le] at hq; omega) | simp only [Act.put, List.setIfInBounds_toArray, List.set_cons_succ, List.set_cons_zero])))
        refine Mix.lex_nil ?_
        go_wp2_with (first | ((first | refine Mix.wpList_guarded rfl ?_ | refine Mix.wp_still (by kernel_rfl) (by kernel_rfl) ?_); (repeat' (first | (refine Mix.lex_quiet0 rfl rfl rfl ?_; intro K hK; go_big_quiet_op; go_big_quiet_on) | (refine Mix.lex_quietG rfl rfl rfl (by with_reducible rfl) rfl rfl ?_; intro K hK; go_big_quiet_op; go_big_quiet_on) | ((first | refine Mix.lex_skipT rfl rfl rfl (by with_reducible rfl) ?_ | refine Mix.lex_skipF rfl rfl rfl (by with_reducible rfl) ?_ | refine Mix.lex_skipU rfl rfl rfl (by with_reducible rfl) ?_); simp only [Act.put, List.setIfInBounds_toArray, List.set_cons_succ, List.set_cons_zero]) | (refine Mix.lex_part rfl rfl rfl rfl (fun hq => ?_) (fun hq => ?_) <;> (fail_if_success (guard_hyp hq :ₛ true = true)) <;> (fail_if_success (guard_hyp hq :ₛ false = false)) <;> first | (exfalso; cases hq; done) | (exfalso; simp only [decide_eq_true_eq, decide_eq_false_iff_not, beq_iff_eq, beq_eq_false_iff_ne, ne_eq, Int.not_lt, Int.not_le] at hq; omega) | simp only [Act.put, List.setIfInBounds_toArray, List.set_cons_succ, List.set_cons_zero]))); all_goals (refine Mix.lex_nil ?_)))
        go_ret2
        rw [HR.out]
        exact ⟨rfl, ξ3.h⟩
      | true =>
        have HR : Hid (R = ((name.take (name.length - b.length)).drop a.length, true)) := by rw [Hid, HD.out]; exact if_pos ⟨rfl, hlt, rfl, rfl⟩
        go_upto_region 2 with fail
        refine Mix.wp_plain [15, 21] (Cl w No) (Cl.of ξ1.h) ?_
        (repeat' (first | (refine Mix.lex_quiet0 rfl rfl rfl ?_; intro K hK; go_big_quiet_op; go_big_quiet_on) | (refine Mix.lex_quietG rfl rfl rfl (by with_reducible rfl) rfl rfl ?_; intro K hK; go_big_quiet_op; go_big_quiet_on) | ((first | refine Mix.lex_skipT rfl rfl rfl (by with_reducible rfl) ?_ | refine Mix.lex_skipF rfl rfl rfl (by with_reducible rfl) ?_ | refine Mix.lex_skipU rfl rfl rfl (by with_reducible rfl) ?_); simp only [Act.put, List.setIfInBounds_toArray, List.set_cons_succ, List.set_cons_zero]) | (refine Mix.lex_part rfl rfl rfl rfl (fun hq => ?_) (fun hq => ?_) <;> (fail_if_success (guard_hyp hq :ₛ true = true)) <;> (fail_if_success (guard_hyp hq :ₛ false = false)) <;> first | (exfalso; cases hq; done) | (exfalso; simp only [decide_eq_true_eq, decide_eq_false_iff_not, beq_iff_eq, beq_eq_false_iff_ne, ne_eq, Int.not_lt, Int.not_le] at hq; omega) | simp only [Act.put, List.setIfInBounds_toArray, List.set_cons_succ, List.set_cons_zero])))
        ((first | refine Mix.lex_goes0 rfl rfl ?_ | refine Mix.lex_goesG rfl rfl rfl (by with_reducible rfl) rfl ?_); intro K hK; go_simp); refine (HP.out _).mono ?_; rintro e uu ⟨rfl, hu⟩; obtain ⟨ξ2, hnew⟩ : ∃ ξ : X w No, ξ.v = uu := ⟨⟨uu, ξ1.h.then_ext hu⟩, rfl⟩; subst hnew; have Hξ2 := Lib.hid hu; refine ⟨_, rfl, hK _ _ (fun _ => ⟨ξ2, rfl⟩) ?_⟩; clear hK K hu; simp only [Act.put, List.setIfInBounds_toArray, List.set_cons_succ, List.set_cons_zero]; (repeat' (first | (refine Mix.lex_quiet0 rfl rfl rfl ?_; intro K hK; go_big_quiet_op; go_big_quiet_on) | (refine Mix.lex_quietG rfl rfl rfl (by with_reducible rfl) rfl rfl ?_; intro K hK; go_big_quiet_op; go_big_quiet_on) | ((first | refine Mix.lex_skipT rfl rfl rfl (by with_reducible rfl) ?_ | refine Mix.lex_skipF rfl rfl rfl (by with_reducible rfl) ?_ | refine Mix.lex_skipU rfl rfl rfl (by with_reducible rfl) ?_); simp only [Act.put, List.setIfInBounds_toArray, List.set_cons_succ, List.set_cons_zero]) | (refine Mix.lex_part rfl rfl rfl rfl (fun hq => ?_) (fun hq => ?_) <;> (fail_if_success (guard_hyp hq :ₛ true = true)) <;> (fail_if_success (guard_hyp hq :ₛ false = false)) <;> first | (exfalso; cases hq; done) | (exfalso; simp only [decide_eq_true_eq, decide_eq_false_iff_not, beq_iff_eq, beq_eq_false_iff_ne, ne_eq, Int.not_lt, Int.not_le] at hq; omega) | simp only [Act.put, List.setIfInBounds_toArray, List.set_cons_succ, List.set_cons_zero])))
        ((first | refine Mix.lex_goes0 rfl rfl ?_ | refine Mix.lex_goesG rfl rfl rfl (by with_reducible rfl) rfl ?_); intro K hK; go_simp); refine (HS.out _).mono ?_; rintro e uu ⟨rfl, hu⟩; obtain ⟨ξ3, hnew⟩ : ∃ ξ : X w No, ξ.v = uu := ⟨⟨uu, ξ2.h.then_ext hu⟩, rfl⟩; subst hnew; have Hξ3 := Lib.hid hu; refine ⟨_, rfl, hK _ _ (fun _ => ⟨ξ3, rfl⟩) ?_⟩; clear hK K hu; simp only [Act.put, List.setIfInBounds_toArray, List.set_cons_succ, List.set_cons_zero]; (repeat' (first | (refine Mix.lex_quiet0 rfl rfl rfl ?_; intro K hK; go_big_quiet_op; go_big_quiet_on) | (refine Mix.lex_quietG rfl rfl rfl (by with_reducible rfl) rfl rfl ?_; intro K hK; go_big_quiet_op; go_big_quiet_on) | ((first | refine Mix.lex_skipT rfl rfl rfl (by with_reducible rfl) ?_ | refine Mix.lex_skipF rfl rfl rfl (by with_reducible rfl) ?_ | refine Mix.lex_skipU rfl rfl rfl (by with_reducible rfl) ?_); simp only [Act.put, List.setIfInBounds_toArray, List.set_cons_succ, List.set_cons_zero]) | (refine Mix.lex_part rfl rfl rfl rfl (fun hq => ?_) (fun hq => ?_) <;> (fail_if_success (guard_hyp hq :ₛ true = true)) <;> (fail_if_success (guard_hyp hq :ₛ false = false)) <;> first | (exfalso; cases hq; done) | (exfalso; simp only [decide_eq_true_eq, decide_eq_false_iff_not, beq_iff_eq, beq_eq_false_iff_ne, ne_eq, Int.not_lt, Int.not_le] at hq; omega) | simp only [Act.put, List.setIfInBounds_toArray, List.set_cons_succ, List.set_cons_zero])))
        refine Mix.lex_nil ?_
        go_wp2_with (first | ((first | refine Mix.wpList_guarded rfl ?_ | refine Mix.wp_still (by kernel_rfl) (by kernel_rfl) ?_); (repeat' (first | (refine Mix.lex_quiet0 rfl rfl rfl ?_; intro K hK; go_big_quiet_op; go_big_quiet_on) | (refine Mix.lex_quietG rfl rfl rfl (by with_reducible rfl) rfl rfl ?_; intro K hK; go_big_quiet_op; go_big_quiet_on) | ((first | refine Mix.lex_skipT rfl rfl rfl (by with_reducible rfl) ?_ | refine Mix.lex_skipF rfl rfl rfl (by with_reducible rfl) ?_ | refine Mix.lex_skipU rfl rfl rfl (by with_reducible rfl) ?_); simp only [Act.put, List.setIfInBounds_toArray, List.set_cons_succ, List.set_cons_zero]) | (refine Mix.lex_part rfl rfl rfl rfl (fun hq => ?_) (fun hq => ?_) <;> (fail_if_success (guard_hyp hq :ₛ true = true)) <;> (fail_if_success (guard_hyp hq :ₛ false = false)) <;> first | (exfalso; cases hq; done) | (exfalso; simp only [decide_eq_true_eq, decide_eq_false_iff_not, beq_iff_eq, beq_eq_false_iff_ne, ne_eq, Int.not_lt, Int.not_le] at hq; omega) | simp only [Act.put, List.setIfInBounds_toArray, List.set_cons_succ, List.set_cons_zero]))); all_goals (refine Mix.lex_nil ?_)))
        go_ret2
        rw [HR.out]
        exact ⟨rfl, ξ3.h⟩
  · have HR : Hid (R = ([], false)) := by rw [Hid, HD.out]; exact if_neg (fun h => hlt h.2.1)
    have g1 : decide ((name.length : Int) ≤ (a.length : Int) + (b.length : Int)) = true := by rw [decide_eq_true_iff]; omega
    go_wp2_with (first | ((first | refine Mix.wpList_guarded rfl ?_ | refine Mix.wp_still (by kernel_rfl) (by kernel_rfl) ?_); (repeat' (first | (refine Mix.lex_quiet0 rfl rfl rfl ?_; intro K hK; go_big_quiet_op; go_big_quiet_on) | (refine Mix.lex_quietG rfl rfl rfl (by with_reducible rfl) rfl rfl ?_; intro K hK; go_big_quiet_op; go_big_quiet_on) | ((first | refine Mix.lex_skipT rfl rfl rfl (by with_reducible rfl) ?_ | refine Mix.lex_skipF rfl rfl rfl (by with_reducible rfl) ?_ | refine Mix.lex_skipU rfl rfl rfl (by with_reducible rfl) ?_); simp only [Act.put, List.setIfInBounds_toArray, List.set_cons_succ, List.set_cons_zero]) | (refine Mix.lex_part rfl rfl rfl rfl (fun hq => ?_) (fun hq => ?_) <;> (fail_if_success (guard_hyp hq :ₛ true = true)) <;> (fail_if_success (guard_hyp hq :ₛ false = false)) <;> first | (exfalso; cases hq; done) | (exfalso; simp only [decide_eq_true_eq, decide_eq_false_iff_not, beq_iff_eq, beq_eq_false_iff_ne, ne_eq, Int.not_lt, Int.not_le] at hq; omega) | simp only [Act.put, List.setIfInBounds_toArray, List.set_cons_succ, List.set_cons_zero]))); all_goals (refine Mix.lex_nil ?_)))
    go_ret2
    rw [HR.out]
    exact ⟨rfl, ξ1.h⟩
theorem cut_plain {a b : Str} (h : a.all (fun c => c ≠ 37) = true) : cutB 37 (a ++ 37 :: b) = (a, b, true) := by
  induction a with
  | nil => simp [cutB]
  | cons x a ih =>
    simp only [List.all_cons, Bool.and_eq_true] at h
    show cutB 37 (x :: (a ++ 37 :: b)) = _
    unfold cutB
    rw [if_neg (by simpa using h.1), ih h.2]
theorem preB_app (a s : Str) : preB (a ++ s) a = true := by
  unfold preB
  rw [List.take_left, decide_eq_true (by simp)]
  simp
theorem sufB_app (s b : Str) : sufB (s ++ b) b = true := by
  unfold sufB
  have : (s ++ b).length - b.length = s.length := by simp only [List.length_append]; omega
  rw [this, List.drop_left, decide_eq_true (by simp)]
  simp
theorem stem_back {a b name : Str} (h : a.all (fun c => c ≠ 37) = true) (h2 : (stemL (a ++ 37 :: b) name).2 = true) : (stemL (a ++ 37 :: b) name).1 ≠ [] ∧ a ++ (stemL (a ++ 37 :: b) name).1 ++ b = name := by
  unfold stemL at h2 ⊢
  rw [cut_plain h] at h2 ⊢
  dsimp only at h2 ⊢
  split at h2
  · rename_i hc
    rw [if_pos hc]
    obtain ⟨_, hl, hp, hs⟩ := hc
    dsimp only
    unfold preB at hp
    unfold sufB at hs
    simp only [Bool.and_eq_true, decide_eq_true_eq, beq_iff_eq] at hp hs
    constructor
    · intro he
      have := congrArg List.length he
      rw [List.length_drop, List.length_take] at this
      simp at this
      omega
    · have e1 : a = (name.take (name.length - b.length)).take a.length := by
        rw [List.take_take, Nat.min_eq_left (by omega), hp.2]
      have e2 : b = name.drop (name.length - b.length) := hs.2.symm
      calc a ++ (name.take (name.length - b.length)).drop a.length ++ b
          = (name.take (name.length - b.length)).take a.length ++ (name.take (name.length - b.length)).drop a.length ++ name.drop (name.length - b.length) := by rw [← e1, ← e2]
        _ = name := by rw [List.take_append_drop, List.take_append_drop]
  · cases h2
theorem stem_there {a b s : Str} (h : a.all (fun c => c ≠ 37) = true) : stemL (a ++ 37 :: b) (a ++ s ++ b) = if s = [] then ([], false) else (s, true) := by
  unfold stemL
  rw [cut_plain h]
  dsimp only
  by_cases hs : s = []
  · subst hs
    rw [if_neg (fun h => by have := h.2.1; simp at this), if_pos rfl]
  · have hsl : 0 < s.length := List.length_pos_iff.2 hs
    rw [if_pos ⟨rfl, by simp; omega, by rw [List.append_assoc]; exact preB_app _ _, sufB_app _ _⟩, if_neg hs]
    have e : (a ++ s ++ b).length - b.length = (a ++ s).length := by simp only [List.length_append]; omega
    rw [e, List.take_left, List.drop_left]
end Go.Proofs.YtnhaekifcieeoaaGreatDoor
