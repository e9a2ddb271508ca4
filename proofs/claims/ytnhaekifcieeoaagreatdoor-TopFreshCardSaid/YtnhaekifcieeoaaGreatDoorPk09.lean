/- Put together: Mks, Aut, Stem, Grf, MkM. -/
import Derived.Test.YtnhaekifcieeoaaGreatDoorPk08
import Derived.Test.YtnhaekifcieeoaaGreatDoorPk01
import Derived.Test.YtnhaekifcieeoaaGreatDoorPk04
import Derived.Test.YtnhaekifcieeoaaGreatDoorPk06
import Derived.Test.YtnhaekifcieeoaaGreatDoorPk02
import Derived.Test.YtnhaekifcieeoaaGreatDoorPk03
namespace Go.Proofs.YtnhaekifcieeoaaGreatDoor
open Go Go.RowKit
structure Rul where
  targets : List Str
  needs : List Str
  cmds : List Str
  deriving DecidableEq
structure Mk where
  vars : List File
  rules : List Rul
  phony : List Str
  deriving DecidableEq
def mk0 : Mk := ⟨[], [], []⟩
def okFrom (p : Bool) : List Str → List Str → Bool
  | _, [] => true
  | seen, w :: r => wordB w && !inS seen w && (p || !patB w) && okFrom p (seen ++ [w]) r
def allOk (t n : List Str) : Bool := okFrom (t.any patB) [] (t ++ n) && !(t.any patB && decide (1 < t.length))
def headF (m : Mk) (s : Str) : Mk × Int :=
  if (exp m.vars 6 s).2 ≠ 0 then (m, (exp m.vars 6 s).2)
  else if (cutB 58 (exp m.vars 6 s).1).2.2 = false ∨ fieldsF (cutB 58 (exp m.vars 6 s).1).1 = [] then (m, 4)
  else if 2 < (fieldsF (cutB 58 (exp m.vars 6 s).1).1).length ∨ 3 < (fieldsF (cutB 58 (exp m.vars 6 s).1).2.1).length ∨ m.rules.length = 10 then (m, 2)
  else if allOk (fieldsF (cutB 58 (exp m.vars 6 s).1).1) (fieldsF (cutB 58 (exp m.vars 6 s).1).2.1) = true then (⟨m.vars, m.rules ++ [⟨fieldsF (cutB 58 (exp m.vars 6 s).1).1, fieldsF (cutB 58 (exp m.vars 6 s).1).2.1, []⟩], m.phony⟩, 0)
  else (m, 3)
def cmdF (m : Mk) (s : Str) : Mk × Int :=
  match m.rules.getLast? with
  | none => (m, 4)
  | some r =>
    if (exp m.vars 6 s).2 ≠ 0 then (m, (exp m.vars 6 s).2)
    else if r.cmds.length = 3 ∨ 28 < (exp m.vars 6 s).1.length then (m, 2)
    else (⟨m.vars, m.rules.dropLast ++ [⟨r.targets, r.needs, r.cmds ++ [(exp m.vars 6 s).1]⟩], m.phony⟩, 0)
abbrev phonyT : Str := [112, 104, 111, 110, 121, 32]
abbrev eqT : Str := [32, 61, 32]
def phoF (m : Mk) (n : Str) : Mk × Int := if nameB n = false ∨ inS m.phony n = true then (m, 3) else (⟨m.vars, m.rules, m.phony ++ [n]⟩, 0)
def varF (m : Mk) (a b : Str) : Mk × Int := if varB a = false then (m, 3) else if m.vars.length = 6 then (m, 2) else (⟨m.vars ++ [(a, b)], m.rules, m.phony⟩, 0)
def lineF (m : Mk) : Str → Mk × Int
  | [] => (m, 0)
  | x :: r =>
    if x = 35 then (m, 0)
    else if x = 9 then cmdF m r
    else if Lib.hasPrefix (x :: r) phonyT = true then phoF m ((x :: r).drop 6)
    else if (Lib.cut (x :: r) eqT).2.2 = true then varF m (Lib.cut (x :: r) eqT).1 (Lib.cut (x :: r) eqT).2.1
    else headF m (x :: r)
theorem lineF_cons (m : Mk) (x : UInt8) (r : Str) : lineF m (x :: r) =
    if x = 35 then (m, 0)
    else if x = 9 then cmdF m r
    else if Lib.hasPrefix (x :: r) phonyT = true then phoF m ((x :: r).drop 6)
    else if (Lib.cut (x :: r) eqT).2.2 = true then varF m (Lib.cut (x :: r) eqT).1 (Lib.cut (x :: r) eqT).2.1
    else headF m (x :: r) := rfl
def foldF : List Str → Mk → Mk × Int
  | [], m => (m, 0)
  | l :: ls, m => if (lineF m l).2 = 0 then foldF ls (lineF m l).1 else (mk0, (lineF m l).2)
def dupF : List Str → List Str → Bool
  | _, [] => false
  | made, t :: ts => inS made t || dupF (made ++ [t]) ts
def ruleOk (ph : List Str) (r : Rul) : Bool := (inS ph (r.targets.headD []) == decide (r.cmds.length = 0)) && !(decide (1 < r.targets.length) && inS ph (r.targets.getD 1 []))
def chkR (ph : List Str) : List Rul → List Str → Option (List Str)
  | [], made => some made
  | r :: rs, made => if dupF made r.targets = true then none else if ruleOk ph r = true then chkR ph rs (made ++ r.targets) else none
def chkF (m : Mk) : Int :=
  match chkR m.phony m.rules [] with
  | none => 3
  | some made => if m.phony.all (inS made) = true then 0 else 3
def parseF (s : Str) : Mk × Int :=
  if 600 < s.length then (mk0, 2)
  else if (foldF (splB 10 s) mk0).2 ≠ 0 then (mk0, (foldF (splB 10 s) mk0).2)
  else if chkF (foldF (splB 10 s) mk0).1 = 0 then ((foldF (splB 10 s) mk0).1, 0)
  else (mk0, chkF (foldF (splB 10 s) mk0).1)
structure Mk.Fit (m : Mk) (k : Nat) : Prop where
  v : m.vars.length ≤ 6
  vt : ∀ x ∈ m.vars, x.1.length ≤ 600 ∧ x.2.length ≤ 600
  r : m.rules.length ≤ 10
  rt : ∀ x ∈ m.rules, 1 ≤ x.targets.length ∧ x.targets.length ≤ 2 ∧ x.needs.length ≤ 3 ∧ x.cmds.length ≤ 3
  p : m.phony.length ≤ k
theorem mk0_fit : mk0.Fit 0 := ⟨Nat.zero_le _, (fun x hx => by cases hx), Nat.zero_le _, (fun x hx => by cases hx), Nat.le_refl _⟩
theorem Mk.Fit.more {m : Mk} {k : Nat} (h : m.Fit k) : m.Fit (k + 1) := ⟨h.v, h.vt, h.r, h.rt, Nat.le_succ_of_le h.p⟩
theorem headF_fit {m : Mk} {k : Nat} (h : m.Fit k) (s : Str) : (headF m s).1.Fit (k + 1) := by
  unfold headF
  split
  · exact h.more
  · split
    · exact h.more
    · rename_i h2
      split
      · exact h.more
      · rename_i h3
        split
        · refine ⟨h.v, h.vt, ?_, ?_, Nat.le_succ_of_le h.p⟩
          · have := h.r
            show (m.rules ++ [_]).length ≤ 10
            rw [List.length_append, List.length_singleton]
            omega
          · intro x hx
            rcases List.mem_append.1 hx with hx | hx
            · exact h.rt x hx
            · obtain rfl := List.mem_singleton.1 hx
              refine ⟨?_, by show (fieldsF _).length ≤ 2; omega, by show (fieldsF _).length ≤ 3; omega, Nat.zero_le _⟩
              show 1 ≤ (fieldsF (cutB 58 (exp m.vars 6 s).1).1).length
              cases hf : fieldsF (cutB 58 (exp m.vars 6 s).1).1 with
              | nil => exact absurd (.inr hf) h2
              | cons a l => simp
        · exact h.more
theorem cmdF_fit {m : Mk} {k : Nat} (h : m.Fit k) (s : Str) : (cmdF m s).1.Fit (k + 1) := by
  unfold cmdF
  split
  · exact h.more
  · rename_i r hr
    split
    · exact h.more
    · split
      · exact h.more
      · rename_i h3
        have hm := List.mem_of_getLast? hr
        obtain ⟨q1, q2, q3, q4⟩ := h.rt r hm
        refine ⟨h.v, h.vt, ?_, ?_, Nat.le_succ_of_le h.p⟩
        · have := h.r
          have hpos : 0 < m.rules.length := List.length_pos_of_mem hm
          show (m.rules.dropLast ++ [_]).length ≤ 10
          rw [List.length_append, List.length_singleton, List.length_dropLast]
          omega
        · intro x hx
          rcases List.mem_append.1 hx with hx | hx
          · exact h.rt x (List.dropLast_subset _ hx)
          · obtain rfl := List.mem_singleton.1 hx
            refine ⟨q1, q2, q3, ?_⟩
            show (r.cmds ++ [_]).length ≤ 3
            rw [List.length_append, List.length_singleton]
            omega
theorem lineF_fit {m : Mk} {k : Nat} (h : m.Fit k) {s : Str} (hs : s.length ≤ 600) : (lineF m s).1.Fit (k + 1) := by
  cases s with
  | nil => exact h.more
  | cons x r =>
    rw [lineF_cons]
    split
    · exact h.more
    · split
      · exact cmdF_fit h r
      · split
        · unfold phoF
          split
          · exact h.more
          · refine ⟨h.v, h.vt, h.r, h.rt, ?_⟩
            have := h.p
            show (m.phony ++ [_]).length ≤ k + 1
            rw [List.length_append, List.length_singleton]
            omega
        · split
          · unfold varF
            split
            · exact h.more
            · split
              · exact h.more
              · rename_i h6
                have hc := cut_len (x :: r) eqT
                refine ⟨?_, ?_, h.r, h.rt, Nat.le_succ_of_le h.p⟩
                · have := h.v
                  show (m.vars ++ [_]).length ≤ 6
                  rw [List.length_append, List.length_singleton]
                  omega
                · intro y hy
                  rcases List.mem_append.1 hy with hy | hy
                  · exact h.vt y hy
                  · obtain rfl := List.mem_singleton.1 hy
                    exact ⟨by show (Lib.cut (x :: r) eqT).1.length ≤ 600; omega, by show (Lib.cut (x :: r) eqT).2.1.length ≤ 600; omega⟩
          · exact headF_fit h _
theorem foldF_fit : ∀ (ls : List Str) (m : Mk) (k : Nat), m.Fit k → (∀ l ∈ ls, l.length ≤ 600) → (foldF ls m).1.Fit (k + ls.length)
  | [], m, k, h, _ => h
  | l :: ls, m, k, h, hl => by
    unfold foldF
    split
    · have := foldF_fit ls _ (k + 1) (lineF_fit h (hl l (by simp))) (fun x hx => hl x (List.mem_cons_of_mem _ hx))
      rw [List.length_cons, show k + (ls.length + 1) = k + 1 + ls.length by omega]
      exact this
    · exact ⟨mk0_fit.v, mk0_fit.vt, mk0_fit.r, mk0_fit.rt, Nat.zero_le _⟩
abbrev KeyV := UInt8 → Option Str
def keyV (t f n k : Str) : KeyV := fun c => if c = 64 then some t else if c = 60 then some f else if c = 94 then some n else if c = 42 then some k else none
def autoF (v : KeyV) : Str → Str
  | [] => []
  | [x] => [x]
  | x :: y :: r => if x = 36 then (match v y with | some t => t ++ autoF v r | none => x :: autoF v (y :: r)) else x :: autoF v (y :: r)
def lookF (v : KeyV) : Str → Option Str
  | x :: y :: _ => if x = 36 then v y else none
  | _ => none
def joinSp : List Str → Str
  | [] => []
  | [x] => x
  | x :: y :: r => x ++ 32 :: joinSp (y :: r)
theorem autoF_look (v : KeyV) (x : UInt8) (r : Str) : autoF v (x :: r) = match lookF v (x :: r) with | some t => t ++ autoF v (r.drop 1) | none => x :: autoF v r := by
  cases r with
  | nil => rfl
  | cons y r =>
    by_cases hx : x = 36
    · cases h : v y <;> simp [autoF, lookF, hx, h]
    · simp [autoF, lookF, hx]
theorem autoF_drop_hit {v : KeyV} {s t : Str} {i : Nat} (h : lookF v (s.drop i) = some t) : autoF v (s.drop i) = t ++ autoF v (s.drop (i + 2)) ∧ i + 2 ≤ s.length := by
  cases hs : s.drop i with
  | nil => rw [hs] at h; cases h
  | cons x r =>
    rw [hs] at h
    have hl : r ≠ [] := by
      rintro rfl
      cases h
    have h2 : s.drop (i + 2) = r.drop 1 := by
      rw [Nat.add_comm i 2, ← List.drop_drop, List.drop_drop, Nat.add_comm 2 i, ← List.drop_drop, hs]
      rfl
    rw [autoF_look, h, h2]
    refine ⟨rfl, ?_⟩
    have := congrArg List.length hs
    have hr := List.length_pos_iff.2 hl
    simp only [List.length_drop, List.length_cons] at this
    omega
theorem autoF_drop_miss {v : KeyV} {s : Str} {i : Nat} (h : lookF v (s.drop i) = none) (hi : i < s.length) : autoF v (s.drop i) = s[i] :: autoF v (s.drop (i + 1)) := by
  rw [List.drop_eq_getElem_cons hi] at h ⊢
  rw [autoF_look, h]
theorem autoF_len {v : KeyV} {K : Nat} (hv : ∀ c t, v c = some t → t.length ≤ K) : ∀ s : Str, (autoF v s).length ≤ s.length * (K + 1)
  | [] => by simp [autoF]
  | [x] => by simp [autoF]
  | x :: y :: r => by
    have h1 := autoF_len hv (y :: r)
    have h2 := autoF_len hv r
    rw [autoF_look]
    have e1 : (x :: y :: r).length * (K + 1) = r.length * (K + 1) + (K + 1) + (K + 1) := by simp only [List.length_cons, Nat.succ_mul]
    have e2 : (y :: r).length * (K + 1) = r.length * (K + 1) + (K + 1) := by simp only [List.length_cons, Nat.succ_mul]
    rw [e2] at h1
    rw [e1]
    cases h : lookF v (x :: y :: r) with
    | none => simp only [List.length_cons]; omega
    | some t =>
      have : t.length ≤ K := by
        by_cases hx : x = 36
        · simp only [lookF, hx, if_true] at h
          exact hv _ _ h
        · simp [lookF, hx] at h
      simp only [List.length_append, List.drop_succ_cons, List.drop_zero]
      omega
theorem keyV_len {t f n k : Str} {K : Nat} (h1 : t.length ≤ K) (h2 : f.length ≤ K) (h3 : n.length ≤ K) (h4 : k.length ≤ K) : ∀ c u, keyV t f n k c = some u → u.length ≤ K := by
  intro c u h
  unfold keyV at h
  split at h
  · cases h; exact h1
  · split at h
    · cases h; exact h2
    · split at h
      · cases h; exact h3
      · split at h
        · cases h; exact h4
        · cases h
theorem joinSp_len {K : Nat} : ∀ {l : List Str}, (∀ x ∈ l, x.length ≤ K) → (joinSp l).length ≤ l.length * (K + 1)
  | [], _ => by simp [joinSp]
  | [x], h => by have := h x (by simp); simp [joinSp]; omega
  | x :: y :: r, h => by
    have h1 := joinSp_len (l := y :: r) (fun z hz => h z (List.mem_cons_of_mem _ hz))
    have h2 := h x (by simp)
    have e1 : (x :: y :: r).length * (K + 1) = (y :: r).length * (K + 1) + (K + 1) := by rw [List.length_cons, Nat.succ_mul]
    rw [e1]
    simp only [joinSp, List.length_append, List.length_cons] at h1 ⊢
    omega
theorem joinSp_snoc : ∀ (l : List Str) (x : Str), l ≠ [] → joinSp (l ++ [x]) = joinSp l ++ 32 :: x
  | [], _, h => absurd rfl h
  | [y], x, _ => rfl
  | y :: z :: r, x, _ => by
    have := joinSp_snoc (z :: r) x (by simp)
    show y ++ 32 :: joinSp (z :: r ++ [x]) = (y ++ 32 :: joinSp (z :: r)) ++ 32 :: x
    rw [this]
    simp
def preB (s p : Str) : Bool := decide (p.length ≤ s.length) && (s.take p.length == p)
def sufB (s p : Str) : Bool := decide (p.length ≤ s.length) && (s.drop (s.length - p.length) == p)
def stemL (pat name : Str) : Str × Bool :=
  if (cutB 37 pat).2.2 = true ∧ (cutB 37 pat).1.length + (cutB 37 pat).2.1.length < name.length ∧ preB name (cutB 37 pat).1 = true ∧ sufB name (cutB 37 pat).2.1 = true
  then ((name.take (name.length - (cutB 37 pat).2.1.length)).drop (cutB 37 pat).1.length, true) else ([], false)
theorem SLHasPrefix_c (s p : Str) (hs : s.length ≤ maxLen) (hp : p.length ≤ maxLen) (w : World) :
    Calls Tryz.prog 128 #[S s, S p] w fun e w' => e = .returned (.bool (preB s p)) ∧ Ext w w' := by
  unfold maxLen at hs hp
  have HB : Hid (preB s p = (decide (p.length ≤ s.length) && (s.take p.length == p))) := rfl
  by_cases hl : p.length ≤ s.length
  · rw [decide_eq_true hl] at HB
    have HT : Hid ((s.take p.length == p) = preB s p) := by rw [Hid, HB.out]; rfl
    have g1 : decide ((p.length : Int) ≤ (s.length : Int)) = true := by rw [decide_eq_true_iff]; omega
    generalize preB s p = b at HT ⊢
    clear HB
    go_enter Tryz.func128, Tryz.ntmps128
    go_wp2_with fail
    all_goals (go_ret; exact ⟨by rw [← HT.out]; try rfl, Only.refl _ _⟩)
  · have HT : Hid (preB s p = false) := by rw [Hid, HB.out, decide_eq_false hl]; rfl
    have g1 : decide ((p.length : Int) ≤ (s.length : Int)) = false := by rw [decide_eq_false_iff_not]; omega
    rw [HT.out]
    go_enter Tryz.func128, Tryz.ntmps128
    go_wp2_with fail
    all_goals (go_ret; exact ⟨rfl, Only.refl _ _⟩)
theorem HasPrefix_c (s p : Str) (hs : s.length ≤ maxLen) (hp : p.length ≤ maxLen) (w : World) :
    Calls Tryz.prog 119 #[S s, S p] w fun e w' => e = .returned (.bool (preB s p)) ∧ Ext w w' := by
  have HC := Lib.hid (SLHasPrefix_c s p hs hp w)
  go_enter Tryz.func119, Tryz.ntmps119
  go_wp2_with fail
  refine (HC.out).mono ?_; rintro e uu ⟨rfl, hu⟩; obtain ⟨ξ1, hnew⟩ : ∃ ξ : X w No, ξ.v = uu := ⟨⟨uu, (X.here w No).h.then_ext hu⟩, rfl⟩; subst hnew; have Hξ1 := Lib.hid hu; clear hu
  go_wp2_with fail
  go_ret
  exact ⟨rfl, ξ1.h⟩
theorem SLHasSuffix_c (s p : Str) (hs : s.length ≤ maxLen) (hp : p.length ≤ maxLen) (w : World) :
    Calls Tryz.prog 151 #[S s, S p] w fun e w' => e = .returned (.bool (sufB s p)) ∧ Ext w w' := by
  unfold maxLen at hs hp
  have HB : Hid (sufB s p = (decide (p.length ≤ s.length) && (s.drop (s.length - p.length) == p))) := rfl
  by_cases hl : p.length ≤ s.length
  · rw [decide_eq_true hl] at HB
    have HT : Hid ((s.drop (s.length - p.length) == p) = sufB s p) := by rw [Hid, HB.out]; rfl
    have g1 : decide ((p.length : Int) ≤ (s.length : Int)) = true := by rw [decide_eq_true_iff]; omega
    generalize sufB s p = b at HT ⊢
    clear HB
    go_enter Tryz.func151, Tryz.ntmps151
    go_wp2_with fail
    all_goals (go_ret; exact ⟨by rw [← HT.out]; try rfl, Only.refl _ _⟩)
  · have HT : Hid (sufB s p = false) := by rw [Hid, HB.out, decide_eq_false hl]; rfl
    have g1 : decide ((p.length : Int) ≤ (s.length : Int)) = false := by rw [decide_eq_false_iff_not]; omega
    rw [HT.out]
    go_enter Tryz.func151, Tryz.ntmps151
    go_wp2_with fail
    all_goals (go_ret; exact ⟨rfl, Only.refl _ _⟩)
theorem HasSuffix_c (s p : Str) (hs : s.length ≤ maxLen) (hp : p.length ≤ maxLen) (w : World) :
    Calls Tryz.prog 120 #[S s, S p] w fun e w' => e = .returned (.bool (sufB s p)) ∧ Ext w w' := by
  have HC := Lib.hid (SLHasSuffix_c s p hs hp w)
  go_enter Tryz.func120, Tryz.ntmps120
  go_wp2_with fail
  refine (HC.out).mono ?_; rintro e uu ⟨rfl, hu⟩; obtain ⟨ξ1, hnew⟩ : ∃ ξ : X w No, ξ.v = uu := ⟨⟨uu, (X.here w No).h.then_ext hu⟩, rfl⟩; subst hnew; have Hξ1 := Lib.hid hu; clear hu
  go_wp2_with fail
  go_ret
  exact ⟨rfl, ξ1.h⟩
set_option maxHeartbeats 1000000 in
theorem Stem_c (pat name : Str) (hp : pat.length ≤ 100000) (hn : name.length ≤ 100000) {w : World} (hm : Ml w) :
    Calls Tryz.prog 87 #[S pat, S name] w fun e w' => e = .returned (.tuple #[S (stemL pat name).1, .bool (stemL pat name).2]) ∧ Ext w w' := by
  have HC := Lib.hid (BCut_c pat 37 (by omega) hm)
  have hl := cutB_len 37 pat
  have HD : Hid (stemL pat name = if (cutB 37 pat).2.2 = true ∧ (cutB 37 pat).1.length + (cutB 37 pat).2.1.length < name.length ∧ preB name (cutB 37 pat).1 = true ∧ sufB name (cutB 37 pat).2.1 = true then ((name.take (name.length - (cutB 37 pat).2.1.length)).drop (cutB 37 pat).1.length, true) else ([], false)) := rfl
  generalize stemL pat name = R at HD ⊢
  generalize cutB 37 pat = q at HC hl HD
  obtain ⟨a, b, is⟩ := q
  dsimp only at HC hl HD
  have HP := Lib.hid (fun v => HasPrefix_c name a (by unfold maxLen; omega) (by unfold maxLen; omega) v)
  have HS := Lib.hid (fun v => HasSuffix_c name b (by unfold maxLen; omega) (by unfold maxLen; omega) v)
  generalize preB name a = pb at HP HD
  generalize sufB name b = sb at HS HD
  clear hm
  go_enter Tryz.func87, Tryz.ntmps87
  go_wp2_with fail
  refine (HC.out).mono ?_; rintro e uu ⟨rfl, hu⟩; obtain ⟨ξ1, hnew⟩ : ∃ ξ : X w No, ξ.v = uu := ⟨⟨uu, (X.here w No).h.then_ext hu⟩, rfl⟩; subst hnew; have Hξ1 := Lib.hid hu; clear hu
  clear HC
  cases is with
  | false =>
    have HR : Hid (R = ([], false)) := by rw [Hid, HD.out]; exact if_neg (fun h => by simp at h)
    go_wp2_with fail
    go_ret2
    rw [HR.out]
    exact ⟨rfl, ξ1.h⟩
  | true =>
  by_cases hlt : a.length + b.length < name.length
  · have g1 : decide ((name.length : Int) ≤ (a.length : Int) + (b.length : Int)) = false := by rw [decide_eq_false_iff_not]; omega
    cases pb with
    | false =>
      have HR : Hid (R = ([], false)) := by rw [Hid, HD.out]; exact if_neg (fun h => by simp at h)
      go_upto_region 2 with fail
      refine Mix.wp_plain [15] (Cl w No) (Cl.of ξ1.h) ?_
      (repeat' (first | (refine Mix.lex_quiet0 rfl rfl rfl ?_; intro K hK; go_big_quiet_op; go_big_quiet_on) | (refine Mix.lex_quietG rfl rfl rfl (by with_reducible rfl) rfl rfl ?_; intro K hK; go_big_quiet_op; go_big_quiet_on) | ((first | refine Mix.lex_skipT rfl rfl rfl (by with_reducible rfl) ?_ | refine Mix.lex_skipF rfl rfl rfl (by with_reducible rfl) ?_ | refine Mix.lex_skipU rfl rfl rfl (by with_reducible rfl) ?_); simp only [Act.put, List.setIfInBounds_toArray, List.set_cons_succ, List.set_cons_zero]) | (refine Mix.lex_part rfl rfl rfl rfl (fun hq => ?_) (fun hq => ?_) <;> (fail_if_success (guard_hyp hq :ₛ true = true)) <;> (fail_if_success (guard_hyp hq :ₛ false = false)) <;> first | (exfalso; cases hq; done) | (exfalso; simp only [decide_eq_true_eq, decide_eq_false_iff_not, beq_iff_eq, beq_eq_false_iff_ne, ne_eq, Int.not_lt, Int.not_le] at hq; omega) | simp only [Act.put, List.setIfInBounds_toArray, List.set_cons_succ, List.set_cons_zero])))
      ((first | refine Mix.lex_goes0 rfl rfl ?_ | refine Mix.lex_goesG rfl rfl rfl (by with_reducible rfl) rfl ?_); intro K hK; go_simp); refine (HP.out _).mono ?_; rintro e uu ⟨rfl, hu⟩; obtain ⟨ξ2, hnew⟩ : ∃ ξ : X w No, ξ.v = uu := ⟨⟨uu, ξ1.h.then_ext hu⟩, rfl⟩; subst hnew; have Hξ2 := Lib.hid hu; refine ⟨_, rfl, hK _ _ (fun _ => ⟨ξ2, rfl⟩) ?_⟩; clear hK K hu; simp only [Act.put, List.setIfInBounds_toArray, List.set_cons_succ, List.set_cons_zero]; (repeat' (first | (refine Mix.lex_quiet0 rfl rfl rfl ?_; intro K hK; go_big_quiet_op; go_big_quiet_on) | (refine Mix.lex_quietG rfl rfl rfl (by with_reducible rfl) rfl rfl ?_; intro K hK; go_big_quiet_op; go_big_quiet_on) | ((first | refine Mix.lex_skipT rfl rfl rfl (by with_reducible rfl) ?_ | refine Mix.lex_skipF rfl rfl rfl (by with_reducible rfl) ?_ | refine Mix.lex_skipU rfl rfl rfl (by with_reducible rfl) ?_); simp only [Act.put, List.setIfInBounds_toArray, List.set_cons_succ, List.set_cons_zero]) | (refine Mix.lex_part rfl rfl rfl rfl (fun hq => ?_) (fun hq => ?_) <;> (fail_if_success (guard_hyp hq :ₛ true = true)) <;> (fail_if_success (guard_hyp hq :ₛ false = false)) <;> first | (exfalso; cases hq; done) | (exfalso; simp only [decide_eq_true_eq, decide_eq_false_iff_not, beq_iff_eq, beq_eq_false_iff_ne, ne_eq, Int.not_lt, Int.not_le] at hq; omega) | simp only [Act.put, List.setIfInBounds_toArray, List.set_cons_succ, List.set_cons_zero])))
      refine Mix.lex_nil ?_
      go_wp2_with fail
      go_ret2
      rw [HR.out]
      exact ⟨rfl, ξ2.h⟩
    | true =>
      cases sb with
      | false =>
        have HR : Hid (R = ([], false)) := by rw [Hid, HD.out]; exact if_neg (fun h => by simp at h)
        go_upto_region 2 with fail
        refine Mix.wp_plain [15, 21] (Cl w No) (Cl.of ξ1.h) ?_
        (repeat' (first | (refine Mix.lex_quiet0 rfl rfl rfl ?_; intro K hK; go_big_quiet_op; go_big_quiet_on) | (refine Mix.lex_quietG rfl rfl rfl (by with_reducible rfl) rfl rfl ?_; intro K hK; go_big_quiet_op; go_big_quiet_on) | ((first | refine Mix.lex_skipT rfl rfl rfl (by with_reducible rfl) ?_ | refine Mix.lex_skipF rfl rfl rfl (by with_reducible rfl) ?_ | refine Mix.lex_skipU rfl rfl rfl (by with_reducible rfl) ?_); simp only [Act.put, List.setIfInBounds_toArray, List.set_cons_succ, List.set_cons_zero]) | (refine Mix.lex_part rfl rfl rfl rfl (fun hq => ?_) (fun hq => ?_) <;> (fail_if_success (guard_hyp hq :ₛ true = true)) <;> (fail_if_success (guard_hyp hq :ₛ false = false)) <;> first | (exfalso; cases hq; done) | (exfalso; simp only [decide_eq_true_eq, decide_eq_false_iff_not, beq_iff_eq, beq_eq_false_iff_ne, ne_eq, Int.not_lt, Int.not_le] at hq; omega) | simp only [Act.put, List.setIfInBounds_toArray, List.set_cons_succ, List.set_cons_zero])))
        ((first | refine Mix.lex_goes0 rfl rfl ?_ | refine Mix.lex_goesG rfl rfl rfl (by with_reducible rfl) rfl ?_); intro K hK; go_simp); refine (HP.out _).mono ?_; rintro e uu ⟨rfl, hu⟩; obtain ⟨ξ2, hnew⟩ : ∃ ξ : X w No, ξ.v = uu := ⟨⟨uu, ξ1.h.then_ext hu⟩, rfl⟩; subst hnew; have Hξ2 := Lib.hid hu; refine ⟨_, rfl, hK _ _ (fun _ => ⟨ξ2, rfl⟩) ?_⟩; clear hK K hu; simp only [Act.put, List.setIfInBounds_toArray, List.set_cons_succ, List.set_cons_zero]; (repeat' (first | (refine Mix.lex_quiet0 rfl rfl rfl ?_; intro K hK; go_big_quiet_op; go_big_quiet_on) | (refine Mix.lex_quietG rfl rfl rfl (by with_reducible rfl) rfl rfl ?_; intro K hK; go_big_quiet_op; go_big_quiet_on) | ((first | refine Mix.lex_skipT rfl rfl rfl (by with_reducible rfl) ?_ | refine Mix.lex_skipF rfl rfl rfl (by with_reducible rfl) ?_ | refine Mix.lex_skipU rfl rfl rfl (by with_reducible rfl) ?_); simp only [Act.put, List.setIfInBounds_toArray, List.set_cons_succ, List.set_cons_zero]) | (refine Mix.lex_part rfl rfl rfl rfl (fun hq => ?_) (fun hq => ?_) <;> (fail_if_success (guard_hyp hq :ₛ true = true)) <;> (fail_if_success (guard_hyp hq :ₛ false = false)) <;> first | (exfalso; cases hq; done) | (exfalso; simp only [decide_eq_true_eq, decide_eq_false_iff_not, beq_iff_eq, beq_eq_false_iff_ne, ne_eq, Int.not_lt, Int.not_le] at hq; omega) | simp only [Act.put, List.setIfInBounds_toArray, List.set_cons_succ, List.set_cons_zero])))
        ((first | refine Mix.lex_goes0 rfl rfl ?_ | refine Mix.lex_goesG rfl rfl rfl (by with_reducible rfl) rfl ?_); intro K hK; go_simp); refine (HS.out _).mono ?_; rintro e uu ⟨rfl, hu⟩; obtain ⟨ξ3, hnew⟩ : ∃ ξ : X w No, ξ.v = uu := ⟨⟨uu, ξ2.h.then_ext hu⟩, rfl⟩; subst hnew; have Hξ3 := Lib.hid hu; refine ⟨_, rfl, hK _ _ (fun _ => ⟨ξ3, rfl⟩) ?_⟩; clear hK K hu; simp only [Act.put, List.setIfInBounds_toArray, List.set_cons_succ, List.set_cons_zero]; (repeat' (first | (refine Mix.lex_quiet0 rfl rfl rfl ?_; intro K hK; go_big_quiet_op; go_big_quiet_on) | (refine Mix.lex_quietG rfl rfl rfl (by with_reducible rfl) rfl rfl ?_; intro K hK; go_big_quiet_op; go_big_quiet_on) | ((first | refine Mix.lex_skipT rfl rfl rfl (by with_reducible rfl) ?_ | refine Mix.lex_skipF rfl rfl rfl (by with_reducible rfl) ?_ | refine Mix.lex_skipU rfl rfl rfl (by with_reducible rfl) ?_); simp only [Act.put, List.setIfInBounds_toArray, List.set_cons_succ, List.set_cons_zero]) | (refine Mix.lex_part rfl rfl rfl rfl (fun hq => ?_) (fun hq => ?_) <;> (fail_if_success (guard_hyp hq :ₛ true = true)) <;> (fail_if_success (guard_hyp hq :ₛ false = false)) <;> first | (exfalso; cases hq; done) | (exfalso; simp only [decide_eq_true_eq, decide_eq_false_iff_not, beq_iff_eq, beq_eq_false_iff_ne, ne_eq, Int.not_lt, Int.not_le] at hq; omega) | simp only [Act.put, List.setIfInBounds_toArray, List.set_cons_succ, List.set_cons_zero])))
        refine Mix.lex_nil ?_
        go_wp2_with fail
        go_ret2
        rw [HR.out]
        exact ⟨rfl, ξ3.h⟩
      | true =>
        have HR : Hid (R = ((name.take (name.length - b.length)).drop a.length, true)) := by rw [Hid, HD.out]; exact if_pos ⟨rfl, hlt, rfl, rfl⟩
        go_upto_region 2 with fail
        refine Mix.wp_plain [15, 21] (Cl w No) (Cl.of ξ1.h) ?_
        (repeat' (first | (refine Mix.lex_quiet0 rfl rfl rfl ?_; intro K hK; go_big_quiet_op; go_big_quiet_on) | (refine Mix.lex_quietG rfl rfl rfl (by with_reducible rfl) rfl rfl ?_; intro K hK; go_big_quiet_op; go_big_quiet_on) | ((first | refine Mix.lex_skipT rfl rfl rfl (by with_reducible rfl) ?_ | refine Mix.lex_skipF rfl rfl rfl (by with_reducible rfl) ?_ | refine Mix.lex_skipU rfl rfl rfl (by with_reducible rfl) ?_); simp only [Act.put, List.setIfInBounds_toArray, List.set_cons_succ, List.set_cons_zero]) | (refine Mix.lex_part rfl rfl rfl rfl (fun hq => ?_) (fun hq => ?_) <;> (fail_if_success (guard_hyp hq :ₛ true = true)) <;> (fail_if_success (guard_hyp hq :ₛ false = false)) <;> first | (exfalso; cases hq; done) | (exfalso; simp only [decide_eq_true_eq, decide_eq_false_iff_not, beq_iff_eq, beq_eq_false_iff_ne, ne_eq, Int.not_lt, Int.not_le] at hq; omega) | simp only [Act.put, List.setIfInBounds_toArray, List.set_cons_succ, List.set_cons_zero])))
        ((first | refine Mix.lex_goes0 rfl rfl ?_ | refine Mix.lex_goesG rfl rfl rfl (by with_reducible rfl) rfl ?_); intro K hK; go_simp); refine (HP.out _).mono ?_; rintro e uu ⟨rfl, hu⟩; obtain ⟨ξ2, hnew⟩ : ∃ ξ : X w No, ξ.v = uu := ⟨⟨uu, ξ1.h.then_ext hu⟩, rfl⟩; subst hnew; have Hξ2 := Lib.hid hu; refine ⟨_, rfl, hK _ _ (fun _ => ⟨ξ2, rfl⟩) ?_⟩; clear hK K hu; simp only [Act.put, List.setIfInBounds_toArray, List.set_cons_succ, List.set_cons_zero]; (repeat' (first | (refine Mix.lex_quiet0 rfl rfl rfl ?_; intro K hK; go_big_quiet_op; go_big_quiet_on) | (refine Mix.lex_quietG rfl rfl rfl (by with_reducible rfl) rfl rfl ?_; intro K hK; go_big_quiet_op; go_big_quiet_on) | ((first | refine Mix.lex_skipT rfl rfl rfl (by with_reducible rfl) ?_ | refine Mix.lex_skipF rfl rfl rfl (by with_reducible rfl) ?_ | refine Mix.lex_skipU rfl rfl rfl (by with_reducible rfl) ?_); simp only [Act.put, List.setIfInBounds_toArray, List.set_cons_succ, List.set_cons_zero]) | (refine Mix.lex_part rfl rfl rfl rfl (fun hq => ?_) (fun hq => ?_) <;> (fail_if_success (guard_hyp hq :ₛ true = true)) <;> (fail_if_success (guard_hyp hq :ₛ false = false)) <;> first | (exfalso; cases hq; done) | (exfalso; simp only [decide_eq_true_eq, decide_eq_false_iff_not, beq_iff_eq, beq_eq_false_iff_ne, ne_eq, Int.not_lt, Int.not_le] at hq; omega) | simp only [Act.put, List.setIfInBounds_toArray, List.set_cons_succ, List.set_cons_zero])))
        ((first | refine Mix.lex_goes0 rfl rfl ?_ | refine Mix.lex_goesG rfl rfl rfl (by with_reducible rfl) rfl ?_); intro K hK; go_simp); refine (HS.out _).mono ?_; rintro e uu ⟨rfl, hu⟩; obtain ⟨ξ3, hnew⟩ : ∃ ξ : X w No, ξ.v = uu := ⟨⟨uu, ξ2.h.then_ext hu⟩, rfl⟩; subst hnew; have Hξ3 := Lib.hid hu; refine ⟨_, rfl, hK _ _ (fun _ => ⟨ξ3, rfl⟩) ?_⟩; clear hK K hu; simp only [Act.put, List.setIfInBounds_toArray, List.set_cons_succ, List.set_cons_zero]; (repeat' (first | (refine Mix.lex_quiet0 rfl rfl rfl ?_; intro K hK; go_big_quiet_op; go_big_quiet_on) | (refine Mix.lex_quietG rfl rfl rfl (by with_reducible rfl) rfl rfl ?_; intro K hK; go_big_quiet_op; go_big_quiet_on) | ((first | refine Mix.lex_skipT rfl rfl rfl (by with_reducible rfl) ?_ | refine Mix.lex_skipF rfl rfl rfl (by with_reducible rfl) ?_ | refine Mix.lex_skipU rfl rfl rfl (by with_reducible rfl) ?_); simp only [Act.put, List.setIfInBounds_toArray, List.set_cons_succ, List.set_cons_zero]) | (refine Mix.lex_part rfl rfl rfl rfl (fun hq => ?_) (fun hq => ?_) <;> (fail_if_success (guard_hyp hq :ₛ true = true)) <;> (fail_if_success (guard_hyp hq :ₛ false = false)) <;> first | (exfalso; cases hq; done) | (exfalso; simp only [decide_eq_true_eq, decide_eq_false_iff_not, beq_iff_eq, beq_eq_false_iff_ne, ne_eq, Int.not_lt, Int.not_le] at hq; omega) | simp only [Act.put, List.setIfInBounds_toArray, List.set_cons_succ, List.set_cons_zero])))
        refine Mix.lex_nil ?_
        go_wp2_with fail
        go_ret2
        rw [HR.out]
        exact ⟨rfl, ξ3.h⟩
  · have HR : Hid (R = ([], false)) := by rw [Hid, HD.out]; exact if_neg (fun h => hlt h.2.1)
    have g1 : decide ((name.length : Int) ≤ (a.length : Int) + (b.length : Int)) = true := by rw [decide_eq_true_iff]; omega
    go_wp2_with fail
    go_ret2
    rw [HR.out]
    exact ⟨rfl, ξ1.h⟩
def cmdOf (ts ns : List Str) (stem c : Str) : Str := autoF (keyV (ts.headD []) (ns.headD []) (joinSp ns) stem) c
def tgtOf (r : Rul) (name stem : Str) : List Str := if stem = [] then r.targets else [name]
def ndsOf (r : Rul) (stem : Str) : List Str := r.needs.map fun n => onceF n stem
def groupF (m : Mk) (r : Rul) (name stem : Str) : Grp :=
  ⟨tgtOf r name stem, ndsOf r stem, r.cmds.map (cmdOf (tgtOf r name stem) (ndsOf r stem) stem), inS m.phony (r.targets.headD [])⟩
def explF (rs : List Rul) (name : Str) : Option Rul := rs.find? fun r => inS r.targets name
abbrev isF (l : List File) (n : Str) : Bool := getB n l
def hereB (m : Mk) (l : List File) (n : Str) : Bool := isF l n || (explF m.rules n).isSome
def patF (m : Mk) (l : List File) (name : Str) : List Rul → Option Grp
  | [] => none
  | r :: rs =>
    if (stemL (r.targets.headD []) name).2 = false then patF m l name rs
    else if (groupF m r name (stemL (r.targets.headD []) name).1).needs.all (hereB m l) = true then some (groupF m r name (stemL (r.targets.headD []) name).1)
    else patF m l name rs
def ruleF (m : Mk) (l : List File) (name : Str) : Option Grp :=
  match explF m.rules name with
  | some r => some (groupF m r name [])
  | none => patF m l name m.rules
def makerF (out : List Grp) (n : Str) : Option Nat := out.findIdx? fun g => inS g.targets n
def needsF (rec : List Grp → Str → List Grp × Int) : List Grp → List Str → List Grp × Int
  | out, [] => (out, 0)
  | out, n :: ns => if (rec out n).2 ≠ 0 then rec out n else needsF rec (rec out n).1 ns
def visitF (m : Mk) (l : List File) : Nat → List Str → List Grp → Str → List Grp × Int
  | 0, _, out, _ => (out, 8)
  | f + 1, way, out, name =>
    if inS way name = true then (out, 8)
    else if (makerF out name).isSome = true then (out, 0)
    else match ruleF m l name with
      | none => if isF l name = true then (out, 0) else (out, 5)
      | some g =>
        if (needsF (visitF m l f (way ++ g.targets)) out g.needs).2 ≠ 0 then needsF (visitF m l f (way ++ g.targets)) out g.needs
        else if (needsF (visitF m l f (way ++ g.targets)) out g.needs).1.length = 10 then ((needsF (visitF m l f (way ++ g.targets)) out g.needs).1, 2)
        else ((needsF (visitF m l f (way ++ g.targets)) out g.needs).1 ++ [g], 0)
def groupsF (m : Mk) (l : List File) (goal : Str) : List Grp × Int :=
  if nameB goal = false then ([], 3)
  else if (visitF m l 100 [] [] goal).2 ≠ 0 then ([], (visitF m l 100 [] [] goal).2)
  else ((visitF m l 100 [] [] goal).1, 0)
def candF (m : Mk) (l : List File) (goal : Str) : List Str := goal :: l.map (·.1) ++ m.rules.flatMap (·.targets) ++ m.rules.flatMap (fun r => ndsOf r [])
def leftF (c way : List Str) : Nat := (c.filter fun n => !inS way n).length
theorem leftF_lt {c way ts : List Str} {n : Str} (hn : n ∈ c) (hw : inS way n = false) (ht : n ∈ ts) : leftF c (way ++ ts) < leftF c way := by
  unfold leftF
  have hsub : ∀ x, (!inS (way ++ ts) x) = true → (!inS way x) = true := by
    intro x hx
    simp only [inS, Bool.not_eq_true', decide_eq_false_iff_not, List.mem_append, not_or] at hx ⊢
    exact hx.1
  have hs : inS (way ++ ts) n = true := by simp [inS, ht]
  induction c with
  | nil => cases hn
  | cons x xs ih =>
    have hle : ((xs.filter fun n => !inS (way ++ ts) n)).length ≤ (xs.filter fun n => !inS way n).length := by
      clear ih hn
      induction xs with
      | nil => simp
      | cons y ys ih =>
        simp only [List.filter_cons]
        by_cases h1 : (!inS (way ++ ts) y) = true
        · rw [if_pos h1, if_pos (hsub y h1)]; simp only [List.length_cons]; omega
        · rw [if_neg h1]; split <;> (try simp only [List.length_cons]) <;> omega
    simp only [List.filter_cons]
    by_cases hx : x = n
    · subst hx
      rw [if_neg (by rw [hs]; decide), if_pos (by rw [hw]; rfl)]
      simp only [List.length_cons]; omega
    · have hn' : n ∈ xs := by
        rcases List.mem_cons.1 hn with h | h
        · exact absurd h.symm hx
        · exact h
      have := ih hn'
      by_cases h1 : (!inS (way ++ ts) x) = true
      · rw [if_pos h1, if_pos (hsub x h1)]; simp only [List.length_cons]; omega
      · rw [if_neg h1]; split <;> (try simp only [List.length_cons]) <;> omega
theorem explF_some {rs : List Rul} {n : Str} {r : Rul} (h : explF rs n = some r) : r ∈ rs ∧ n ∈ r.targets := by
  unfold explF at h
  have h2 := List.find?_some h
  exact ⟨List.mem_of_find?_eq_some h, by simpa [inS] using h2⟩
theorem patF_some {m : Mk} {l : List File} {n : Str} {g : Grp} : ∀ {rs : List Rul}, patF m l n rs = some g → ∃ r ∈ rs, (stemL (r.targets.headD []) n).2 = true ∧ g = groupF m r n (stemL (r.targets.headD []) n).1 ∧ g.needs.all (hereB m l) = true
  | [], h => by cases h
  | r :: rs, h => by
    unfold patF at h
    split at h
    · obtain ⟨r', h1, h2⟩ := patF_some h
      exact ⟨r', List.mem_cons_of_mem _ h1, h2⟩
    · rename_i h1
      split at h
      · rename_i h2
        cases h
        exact ⟨r, by simp, by simpa using h1, rfl, h2⟩
      · obtain ⟨r', h1, h2⟩ := patF_some h
        exact ⟨r', List.mem_cons_of_mem _ h1, h2⟩
theorem stemL_ne {p n : Str} (h : (stemL p n).2 = true) : (stemL p n).1 ≠ [] := by
  unfold stemL at h ⊢
  split
  · rename_i h1
    rw [if_pos h1] at h
    intro e
    have := congrArg List.length e
    simp only [List.length_drop, List.length_take, List.length_nil] at this
    omega
  · rename_i h1
    rw [if_neg h1] at h
    cases h
theorem ruleF_some {m : Mk} {l : List File} {n : Str} {g : Grp} (h : ruleF m l n = some g) :
    (∃ r, explF m.rules n = some r ∧ g = groupF m r n []) ∨ (explF m.rules n = none ∧ ∃ r ∈ m.rules, (stemL (r.targets.headD []) n).2 = true ∧ g = groupF m r n (stemL (r.targets.headD []) n).1 ∧ g.needs.all (hereB m l) = true) := by
  unfold ruleF at h
  split at h
  · rename_i r hr; cases h; exact .inl ⟨r, hr, rfl⟩
  · rename_i hr; exact .inr ⟨hr, patF_some h⟩
theorem ruleF_own {m : Mk} {l : List File} {n : Str} {g : Grp} (h : ruleF m l n = some g) : n ∈ g.targets := by
  rcases ruleF_some h with ⟨r, hr, rfl⟩ | ⟨_, r, _, hs, rfl, _⟩
  · exact (explF_some hr).2
  · show n ∈ tgtOf r n _
    unfold tgtOf
    rw [if_neg (stemL_ne hs)]
    simp
theorem ruleF_cand {m : Mk} {l : List File} {goal n : Str} {g : Grp} (h : ruleF m l n = some g) : ∀ k ∈ g.needs, k ∈ candF m l goal := by
  intro k hk
  unfold candF
  rcases ruleF_some h with ⟨r, hr, rfl⟩ | ⟨_, r, _, hs, rfl, ha⟩
  · exact List.mem_append_right _ (List.mem_flatMap.2 ⟨r, (explF_some hr).1, hk⟩)
  · have := List.all_eq_true.1 ha k hk
    simp only [hereB, Bool.or_eq_true] at this
    rcases this with h1 | h1
    · have hm : k ∈ l.map (·.1) := by
        obtain ⟨x, hx⟩ := Option.isSome_iff_exists.1 h1
        unfold getL at hx
        have e := List.find?_some hx
        simp only [decide_eq_true_eq] at e
        exact e ▸ List.mem_map_of_mem (List.mem_of_find?_eq_some hx)
      exact List.mem_append_left _ (List.mem_append_left _ (List.mem_cons_of_mem _ hm))
    · obtain ⟨r', hr'⟩ := Option.isSome_iff_exists.1 h1
      have := explF_some hr'
      exact List.mem_append_left _ (List.mem_append_right _ (List.mem_flatMap.2 ⟨r', this.1, this.2⟩))
abbrev ptr (g : Nat) : Value := .pointer (some ⟨g, 0, none⟩)
abbrev makeT : TypeId := 29
abbrev ruleT : TypeId := 108
abbrev varT : TypeId := 110
structure RulA where
  tA : Option Addr
  tc : Nat
  nA : Option Addr
  nc : Nat
  cA : Option Addr
  cc : Nat
def rulF : Flat (RulA × Rul) := ⟨3, fun x => [.slice x.1.tA x.2.targets.length x.1.tc, .slice x.1.nA x.2.needs.length x.1.nc, .slice x.1.cA x.2.cmds.length x.1.cc], fun _ => rfl⟩
structure SRow where
  A : Option Addr
  c : Nat
  xs : List Str
abbrev SRow.own (x : SRow) : Option Nat := (Value.slice x.A x.xs.length x.c).ownBlock
abbrev SRow.F (w wr : World) (x : SRow) : Prop := Fresh strF 9 w wr x.A x.c x.xs
def SRow.off (x y : SRow) : Prop := ∀ g, x.own = some g → y.own ≠ some g
theorem SRow.off_symm {x y : SRow} (h : x.off y) : y.off x := fun g h1 h2 => h g h2 h1
structure SRows (w wr : World) (L : List SRow) : Prop where
  f : ∀ x ∈ L, x.F w wr
  p : L.Pairwise SRow.off
section
variable {w wr u : World} {L L1 L2 : List SRow} {x : SRow}
theorem SRows.ext (h : SRows w wr L) (hx : Ext wr u) : SRows w u L := ⟨fun x hm => (h.f x hm).on hx, h.p⟩
theorem SRows.lt (h : SRows w wr L) (hm : x ∈ L) : ∀ g, x.own = some g → g < wr.heap.size := fun g hg => by
  obtain ⟨_, hc⟩ := own_cs (h.f x hm).own hg
  exact hc.lt
theorem SRows.keep (h : SRows w wr L) {F : Nat → Prop} (hx : Only F wr u) (hE : Ext w u) (hn : ∀ x ∈ L, ∀ g, x.own = some g → ¬ F g) : SRows w u L := ⟨fun x hm => (h.f x hm).keep hx hE (hn x hm), h.p⟩
theorem SRows.add (h : SRows w wr L) (hw : Ext w wr) (hx : x.F wr u) : SRows w u (L ++ [x]) := by
  refine ⟨fun y hy => ?_, ?_⟩
  · rcases List.mem_append.1 hy with hy | hy
    · exact (h.f y hy).on hx.ext
    · obtain rfl := List.mem_singleton.1 hy
      exact Fresh.from hx hw
  · rw [List.pairwise_append]
    refine ⟨h.p, List.pairwise_singleton _ _, fun a ha b hb => ?_⟩
    obtain rfl := List.mem_singleton.1 hb
    intro g h1 h2
    have := h.lt ha g h1
    have := hx.new g h2
    omega
theorem SRows.grow (h : SRows w u (L1 ++ x :: L2)) {A' : Option Addr} {c' : Nat} {w5 : World} {t : Str}
    (hown : w5.ownsRow 0 9 1 (.slice A' (x.xs.length + 1 : Nat) c') (x.xs.length + 1) (x.xs.flatMap strF.enc ++ [t].flatMap strF.enc)) (hg : u.grownBy w5 (Value.slice x.A x.xs.length x.c).ownBlock)
    (hb : (Value.slice A' (x.xs.length + 1 : Nat) c').ownBlock = (Value.slice x.A x.xs.length x.c).ownBlock ∨ (Value.slice A' (x.xs.length + 1 : Nat) c').ownBlock = some u.heap.size) :
    SRows w w5 (L1 ++ ⟨A', c', x.xs ++ [t]⟩ :: L2) := by
  have O5 : Only (fun b => (Value.slice x.A x.xs.length x.c).ownBlock = some b) u w5 := (Only.refl _ _).grown hg fun g e => .inr e
  have F5 := (h.f x (by simp)).grow (ys := [t]) rfl hown hg hb
  have hp := h.p
  rw [List.pairwise_append, List.pairwise_cons] at hp
  obtain ⟨p1, ⟨p2, p3⟩, p4⟩ := hp
  have q1 : ∀ y ∈ L1, y.off x := fun y hy => p4 y hy x (by simp)
  have new : ∀ y ∈ L1 ++ L2, y.off x → y.off ⟨A', c', x.xs ++ [t]⟩ := fun y hy ho g h1 h2 => by
    have hlt := h.lt (x := y) (by rcases List.mem_append.1 hy with hy | hy <;> simp [hy]) g h1
    have h2' : (Value.slice A' (x.xs.length + 1 : Nat) c').ownBlock = some g := by rw [← h2]; unfold SRow.own; rw [List.length_append]; rfl
    rcases hb with hb | hb
    · exact ho g h1 (hb.symm.trans h2')
    · rw [hb] at h2'
      injection h2' with h2'
      omega
  refine ⟨fun y hy => ?_, ?_⟩
  · rcases List.mem_append.1 hy with hy | hy
    · exact (h.f y (by simp [hy])).keep O5 F5.ext (fun g h1 h2 => q1 y hy g h1 h2)
    · rcases List.mem_cons.1 hy with rfl | hy
      · exact F5
      · exact (h.f y (by simp [hy])).keep O5 F5.ext (fun g h1 h2 => p2 y hy g h2 h1)
  · rw [List.pairwise_append, List.pairwise_cons]
    refine ⟨p1, ⟨fun y hy => SRow.off_symm (new y (by simp [hy]) (SRow.off_symm (p2 y hy))), p3⟩, fun a ha b hb' => ?_⟩
    rcases List.mem_cons.1 hb' with rfl | hb'
    · exact new a (by simp [ha]) (q1 a ha)
    · exact p4 a ha b (by simp [hb'])
end
abbrev rowsOf (x : RulA × Rul) : List SRow := [⟨x.1.tA, x.1.tc, x.2.targets⟩, ⟨x.1.nA, x.1.nc, x.2.needs⟩, ⟨x.1.cA, x.1.cc, x.2.cmds⟩]
structure MkV where
  vA : Option Addr
  vc : Nat
  rA : Option Addr
  rc : Nat
  pA : Option Addr
  pc : Nat
abbrev mkV0 : MkV := ⟨none, 0, none, 0, none, 0⟩
abbrev mkV (v : MkV) (m : Mk) : Value := .agg #[.slice v.vA m.vars.length v.vc, .slice v.rA m.rules.length v.rc, .slice v.pA m.phony.length v.pc]
structure MAt (Q : List SRow) (w wr : World) (g : Nat) (v : MkV) (rs : List (RulA × Rul)) (m : Mk) : Prop where
  rc : Cs wr g makeT #[.slice v.vA m.vars.length v.vc, .slice v.rA rs.length v.rc, .slice v.pA m.phony.length v.pc]
  fv : Fresh fileF varT w wr v.vA v.vc m.vars
  fr : Fresh rulF ruleT w wr v.rA v.rc rs
  ss : SRows w wr (Q ++ ⟨v.pA, v.pc, m.phony⟩ :: rs.flatMap rowsOf)
  rm : rs.map (·.2) = m.rules
  ng : w.heap.size ≤ g
structure MakeR (w : World) (v : MkV) (rs : List (RulA × Rul)) (m : Mk) : Prop where
  fv : SlR fileF w v.vA m.vars.length m.vars
  fr : SlR rulF w v.rA m.rules.length rs
  fp : SlR strF w v.pA m.phony.length m.phony
  rr : ∀ x ∈ rs, SlR strF w x.1.tA x.2.targets.length x.2.targets ∧ SlR strF w x.1.nA x.2.needs.length x.2.needs ∧ SlR strF w x.1.cA x.2.cmds.length x.2.cmds
  rm : rs.map (·.2) = m.rules
theorem makeR0 (w : World) : MakeR w mkV0 [] mk0 := ⟨SlR.none_, SlR.none_, SlR.none_, (fun x hx => by cases hx), rfl⟩
theorem MakeR.ext {w u : World} {v : MkV} {rs : List (RulA × Rul)} {m : Mk} (h : MakeR w v rs m) (hx : Ext w u) : MakeR u v rs m :=
  ⟨h.fv.ext hx, h.fr.ext hx, h.fp.ext hx, fun x hm => ⟨(h.rr x hm).1.ext hx, (h.rr x hm).2.1.ext hx, (h.rr x hm).2.2.ext hx⟩, h.rm⟩
theorem rules_get {w : World} {A : Option Addr} {n : Nat} {rs : List (RulA × Rul)} (h : SlR rulF w A n rs) {k : Nat} (hk : k < n) :
    ∃ b o x, A = some ⟨b, o, none⟩ ∧ rs[k]? = some x ∧ b < w.heap.size ∧ (∀ u, Ext w u → u.cell? ⟨b, o + k * 3, none⟩ = some (.slice x.1.tA x.2.targets.length x.1.tc)) ∧ (∀ u, Ext w u → u.cell? ⟨b, o + k * 3 + 1, none⟩ = some (.slice x.1.nA x.2.needs.length x.1.nc)) ∧ (∀ u, Ext w u → u.cell? ⟨b, o + k * 3 + 2, none⟩ = some (.slice x.1.cA x.2.cmds.length x.1.cc)) := by
  obtain ⟨b, o, x, e, hb, hx, hc⟩ := h.get hk
  exact ⟨b, o, x, e, hx, hb, fun u hu => (hu.cell hb id).trans (hc 0 _ rfl), fun u hu => (hu.cell hb id).trans (hc 1 _ rfl), fun u hu => (hu.cell hb id).trans (hc 2 _ rfl)⟩
section
variable {Q : List SRow} {w wr u : World} {g : Nat} {v : MkV} {rs : List (RulA × Rul)} {m : Mk}
theorem MAt.x (h : MAt Q w wr g v rs m) : Ext w wr := h.fv.ext
theorem MAt.rl (h : MAt Q w wr g v rs m) : rs.length = m.rules.length := by rw [← h.rm, List.length_map]
theorem MAt.ext (h : MAt Q w wr g v rs m) (hx : Ext wr u) : MAt Q w u g v rs m := ⟨h.rc.keep hx id, h.fv.on hx, h.fr.on hx, h.ss.ext hx, h.rm, h.ng⟩
theorem MAt.made (h : MAt Q w wr g v rs m) : MakeR wr v rs m := by
  refine ⟨h.fv.row (by decide), ?_, (h.ss.f ⟨v.pA, v.pc, m.phony⟩ (by simp)).row (by decide), fun x hx => ?_, h.rm⟩
  · have := h.fr.row (by decide)
    rw [h.rl] at this
    exact this
  · have q : ∀ y ∈ rowsOf x, y ∈ Q ++ (⟨v.pA, v.pc, m.phony⟩ : SRow) :: rs.flatMap rowsOf := fun y hy => List.mem_append_right _ (List.mem_cons_of_mem _ (List.mem_flatMap.2 ⟨x, hx, hy⟩))
    exact ⟨(h.ss.f _ (q ⟨x.1.tA, x.1.tc, x.2.targets⟩ (by simp))).row (by decide), (h.ss.f _ (q ⟨x.1.nA, x.1.nc, x.2.needs⟩ (by simp))).row (by decide), (h.ss.f _ (q ⟨x.1.cA, x.1.cc, x.2.cmds⟩ (by simp))).row (by decide)⟩
theorem MAt.at_ (h : MAt Q w wr g v rs m) (i : Nat) (x : Value) : Ext w (wr.setCell ⟨g, i, none⟩ x) :=
  h.x.trans ((Only.refl (fun b => b = g) wr).at_ i x) fun b hb e => by have e : b = g := e; have := h.ng; omega
theorem MAt.growV (h : MAt Q w u g v rs m) {A' : Option Addr} {c' : Nat} {w5 : World} {t : File}
    (hown : w5.ownsRow 0 varT 2 (.slice A' (m.vars.length + 1 : Nat) c') (m.vars.length + 1) (m.vars.flatMap fileF.enc ++ [t].flatMap fileF.enc)) (hg : u.grownBy w5 (Value.slice v.vA m.vars.length v.vc).ownBlock)
    (hb : (Value.slice A' (m.vars.length + 1 : Nat) c').ownBlock = (Value.slice v.vA m.vars.length v.vc).ownBlock ∨ (Value.slice A' (m.vars.length + 1 : Nat) c').ownBlock = some u.heap.size) :
    MAt Q w (w5.setCell ⟨g, 0, none⟩ (.slice A' (m.vars.length + 1 : Nat) c')) g { v with vA := A', vc := c' } rs ⟨m.vars ++ [t], m.rules, m.phony⟩ := by
  have O5 : Only (fun b => (Value.slice v.vA m.vars.length v.vc).ownBlock = some b) u w5 := (Only.refl _ _).grown hg fun g e => .inr e
  have F5 := h.fv.grow (ys := [t]) rfl hown hg hb
  have N5 := h.fr.keep O5 F5.ext (fun g h1 h2 => own_ne_own h.fr.own h.fv.own (by decide) g h1 h2)
  have P5 := h.ss.keep O5 F5.ext (fun x hx g h1 h2 => own_ne_own (h.ss.f x hx).own h.fv.own (by decide) g h1 h2)
  have c5 := h.rc.keep O5 (fun e => own_ne_cs h.fv.own h.rc (by decide) _ e rfl)
  have O6 : Only (fun b => b = g) w5 (w5.setCell ⟨g, 0, none⟩ (.slice A' (m.vars.length + 1 : Nat) c')) := (Only.refl _ _).at_ 0 _
  have E6 : Ext w (w5.setCell ⟨g, 0, none⟩ (.slice A' (m.vars.length + 1 : Nat) c')) := F5.ext.trans O6 fun b hb e => by have e : b = g := e; have := h.ng; omega
  refine ⟨?_, F5.keep O6 E6 (own_ne_cs F5.own c5 (by decide)), N5.keep O6 E6 (own_ne_cs N5.own c5 (by decide)), P5.keep O6 E6 (fun x hx => own_ne_cs (P5.f x hx).own c5 (by decide)), h.rm, h.ng⟩
  have := c5.set_ 0 (.slice A' (m.vars.length + 1 : Nat) c')
  show Cs _ _ _ #[.slice A' (m.vars ++ [t]).length c', _, _]
  rw [List.length_append]
  exact this
theorem MAt.growP (h : MAt Q w u g v rs m) {A' : Option Addr} {c' : Nat} {w5 : World} {t : Str}
    (hown : w5.ownsRow 0 9 1 (.slice A' (m.phony.length + 1 : Nat) c') (m.phony.length + 1) (m.phony.flatMap strF.enc ++ [t].flatMap strF.enc)) (hg : u.grownBy w5 (Value.slice v.pA m.phony.length v.pc).ownBlock)
    (hb : (Value.slice A' (m.phony.length + 1 : Nat) c').ownBlock = (Value.slice v.pA m.phony.length v.pc).ownBlock ∨ (Value.slice A' (m.phony.length + 1 : Nat) c').ownBlock = some u.heap.size) :
    MAt Q w (w5.setCell ⟨g, 2, none⟩ (.slice A' (m.phony.length + 1 : Nat) c')) g { v with pA := A', pc := c' } rs ⟨m.vars, m.rules, m.phony ++ [t]⟩ := by
  have O5 : Only (fun b => (Value.slice v.pA m.phony.length v.pc).ownBlock = some b) u w5 := (Only.refl _ _).grown hg fun g e => .inr e
  have hP := (h.ss.f ⟨v.pA, v.pc, m.phony⟩ (by simp))
  have P5 := h.ss.grow (L1 := Q) (x := ⟨v.pA, v.pc, m.phony⟩) (t := t) hown hg hb
  have E5 : Ext w w5 := (P5.f ⟨A', c', m.phony ++ [t]⟩ (by simp)).ext
  have N5 := h.fr.keep O5 E5 (fun g h1 h2 => own_ne_own h.fr.own hP.own (by decide) g h1 h2)
  have F5 := h.fv.keep O5 E5 (fun g h1 h2 => own_ne_own h.fv.own hP.own (by decide) g h1 h2)
  have c5 := h.rc.keep O5 (fun e => own_ne_cs hP.own h.rc (by decide) _ e rfl)
  have O6 : Only (fun b => b = g) w5 (w5.setCell ⟨g, 2, none⟩ (.slice A' (m.phony.length + 1 : Nat) c')) := (Only.refl _ _).at_ 2 _
  have E6 : Ext w (w5.setCell ⟨g, 2, none⟩ (.slice A' (m.phony.length + 1 : Nat) c')) := E5.trans O6 fun b hb e => by have e : b = g := e; have := h.ng; omega
  refine ⟨?_, F5.keep O6 E6 (own_ne_cs F5.own c5 (by decide)), N5.keep O6 E6 (own_ne_cs N5.own c5 (by decide)), P5.keep O6 E6 (fun x hx => own_ne_cs (P5.f x hx).own c5 (by decide)), h.rm, h.ng⟩
  have := c5.set_ 2 (.slice A' (m.phony.length + 1 : Nat) c')
  show Cs _ _ _ #[_, _, .slice A' (m.phony ++ [t]).length c']
  rw [List.length_append]
  exact this
theorem MAt.growR {a : RulA} {r : Rul} (h : MAt Q w u g v rs m) (hs : SRows w u (Q ++ ⟨v.pA, v.pc, m.phony⟩ :: (rs ++ [(a, r)]).flatMap rowsOf)) {A' : Option Addr} {c' : Nat} {w5 : World}
    (hown : w5.ownsRow 0 ruleT 3 (.slice A' (rs.length + 1 : Nat) c') (rs.length + 1) (rs.flatMap rulF.enc ++ [(a, r)].flatMap rulF.enc)) (hg : u.grownBy w5 (Value.slice v.rA rs.length v.rc).ownBlock)
    (hb : (Value.slice A' (rs.length + 1 : Nat) c').ownBlock = (Value.slice v.rA rs.length v.rc).ownBlock ∨ (Value.slice A' (rs.length + 1 : Nat) c').ownBlock = some u.heap.size) :
    MAt Q w (w5.setCell ⟨g, 1, none⟩ (.slice A' (rs.length + 1 : Nat) c')) g { v with rA := A', rc := c' } (rs ++ [(a, r)]) ⟨m.vars, m.rules ++ [r], m.phony⟩ := by
  have O5 : Only (fun b => (Value.slice v.rA rs.length v.rc).ownBlock = some b) u w5 := (Only.refl _ _).grown hg fun g e => .inr e
  have F5 := h.fr.grow (ys := [(a, r)]) rfl hown hg hb
  have N5 := h.fv.keep O5 F5.ext (fun g h1 h2 => own_ne_own h.fv.own h.fr.own (by decide) g h1 h2)
  have P5 := hs.keep O5 F5.ext (fun x hx g h1 h2 => own_ne_own (hs.f x hx).own h.fr.own (by decide) g h1 h2)
  have c5 := h.rc.keep O5 (fun e => own_ne_cs h.fr.own h.rc (by decide) _ e rfl)
  have O6 : Only (fun b => b = g) w5 (w5.setCell ⟨g, 1, none⟩ (.slice A' (rs.length + 1 : Nat) c')) := (Only.refl _ _).at_ 1 _
  have E6 : Ext w (w5.setCell ⟨g, 1, none⟩ (.slice A' (rs.length + 1 : Nat) c')) := F5.ext.trans O6 fun b hb e => by have e : b = g := e; have := h.ng; omega
  refine ⟨?_, N5.keep O6 E6 (own_ne_cs N5.own c5 (by decide)), F5.keep O6 E6 (own_ne_cs F5.own c5 (by decide)), P5.keep O6 E6 (fun x hx => own_ne_cs (P5.f x hx).own c5 (by decide)), by rw [List.map_append, h.rm]; rfl, h.ng⟩
  have := c5.set_ 1 (.slice A' (rs.length + 1 : Nat) c')
  rw [List.length_append]
  exact this
theorem enc_last (rs : List (RulA × Rul)) (a : RulA) (r : Rul) (rest : List Value) : ((rs ++ [(a, r)]).flatMap rulF.enc ++ rest).toArray[rs.length * 3 + 2]? = some (.slice a.cA r.cmds.length a.cc) := by
  rw [List.getElem?_toArray, List.flatMap_append, List.append_assoc, List.getElem?_append_right (by rw [length_flatMap_enc]; show rs.length * 3 ≤ _; omega), length_flatMap_enc]
  show ([_, _, _] ++ rest)[rs.length * 3 + 2 - rs.length * 3]? = _
  rw [show rs.length * 3 + 2 - rs.length * 3 = 2 by omega]
  rfl
theorem MAt.last {a : RulA} {r : Rul} (h : MAt Q w u g v (rs ++ [(a, r)]) m) : ∃ gR cur, v.rA = some ⟨gR, 0, none⟩ ∧ Cs u gR ruleT cur ∧ cur[rs.length * 3 + 2]? = some (.slice a.cA r.cmds.length a.cc) := by
  have hown5 := h.fr.own
  rw [show (rs ++ [(a, r)]).length = rs.length + 1 by simp] at hown5
  obtain ⟨gR, rest, hA, hC, hl, hlc, hnc, hm⟩ := own_block hown5 (by omega) (by decide)
  exact ⟨gR, _, hA, hC, enc_last rs a r rest⟩
theorem MAt.crow {a : RulA} {r : Rul} (h : MAt Q w u g v (rs ++ [(a, r)]) m) : Fresh strF 9 w u a.cA a.cc r.cmds := h.ss.f ⟨a.cA, a.cc, r.cmds⟩ (by simp [List.flatMap_append])
theorem MAt.growC {a : RulA} {r : Rul} (h : MAt Q w u g v (rs ++ [(a, r)]) m) {A' : Option Addr} {c' : Nat} {w5 : World} {t : Str}
    (hown : w5.ownsRow 0 9 1 (.slice A' (r.cmds.length + 1 : Nat) c') (r.cmds.length + 1) (r.cmds.flatMap strF.enc ++ [t].flatMap strF.enc)) (hg : u.grownBy w5 (Value.slice a.cA r.cmds.length a.cc).ownBlock)
    (hb : (Value.slice A' (r.cmds.length + 1 : Nat) c').ownBlock = (Value.slice a.cA r.cmds.length a.cc).ownBlock ∨ (Value.slice A' (r.cmds.length + 1 : Nat) c').ownBlock = some u.heap.size) :
    ∃ gR cur, v.rA = some ⟨gR, 0, none⟩ ∧ Cs w5 gR ruleT cur ∧ cur[rs.length * 3 + 2]? = some (.slice a.cA r.cmds.length a.cc) ∧ MAt Q w (w5.setCell ⟨gR, rs.length * 3 + 2, none⟩ (.slice A' (r.cmds.length + 1 : Nat) c')) g v (rs ++ [({ a with cA := A', cc := c' }, ⟨r.targets, r.needs, r.cmds ++ [t]⟩)]) ⟨m.vars, rs.map (·.2) ++ [⟨r.targets, r.needs, r.cmds ++ [t]⟩], m.phony⟩ := by
  have O5 : Only (fun b => (Value.slice a.cA r.cmds.length a.cc).ownBlock = some b) u w5 := (Only.refl _ _).grown hg fun g e => .inr e
  have hmem : (⟨a.cA, a.cc, r.cmds⟩ : SRow) ∈ Q ++ (⟨v.pA, v.pc, m.phony⟩ : SRow) :: (rs ++ [(a, r)]).flatMap rowsOf := by simp [List.flatMap_append]
  have hP := h.ss.f _ hmem
  have eL : ∀ (b : RulA) (q : Rul), Q ++ (⟨v.pA, v.pc, m.phony⟩ : SRow) :: (rs ++ [(b, q)]).flatMap rowsOf = (Q ++ (⟨v.pA, v.pc, m.phony⟩ : SRow) :: rs.flatMap rowsOf ++ [⟨b.tA, b.tc, q.targets⟩, ⟨b.nA, b.nc, q.needs⟩]) ++ (⟨b.cA, b.cc, q.cmds⟩ : SRow) :: [] := by
    intro b q
    simp [List.flatMap_append, List.append_assoc]
  have hss := h.ss
  rw [eL] at hss
  have P5 := hss.grow (x := ⟨a.cA, a.cc, r.cmds⟩) (t := t) hown hg hb
  have E5 : Ext w w5 := (P5.f ⟨A', c', r.cmds ++ [t]⟩ (by simp)).ext
  have N5 := h.fr.keep O5 E5 (fun g h1 h2 => own_ne_own h.fr.own hP.own (by decide) g h1 h2)
  have F5 := h.fv.keep O5 E5 (fun g h1 h2 => own_ne_own h.fv.own hP.own (by decide) g h1 h2)
  have c5 := h.rc.keep O5 (fun e => own_ne_cs hP.own h.rc (by decide) _ e rfl)
  have hown5 := N5.own
  rw [show (rs ++ [(a, r)]).length = rs.length + 1 by simp] at hown5
  obtain ⟨gR, rest, hA, hC, hl, hlc, hnc, hm⟩ := own_block hown5 (by omega) (by decide)
  have hB : (Value.slice v.rA (rs ++ [(a, r)]).length v.rc).ownBlock = some gR := by rw [hA]; simp [Value.ownBlock]
  have hRw : w.heap.size ≤ gR := N5.new gR hB
  refine ⟨gR, _, hA, hC, enc_last rs a r rest, ?_⟩
  have O6 : Only (fun b => b = gR) w5 (w5.setCell ⟨gR, rs.length * 3 + 2, none⟩ (.slice A' (r.cmds.length + 1 : Nat) c')) := (Only.refl _ _).at_ _ _
  have E6 : Ext w (w5.setCell ⟨gR, rs.length * 3 + 2, none⟩ (.slice A' (r.cmds.length + 1 : Nat) c')) := E5.trans O6 fun b hb e => by have e : b = gR := e; omega
  have hCs := hC.set_ (rs.length * 3 + 2) (.slice A' (r.cmds.length + 1 : Nat) c')
  have e9 : (((rs ++ [(a, r)]).flatMap rulF.enc ++ rest).toArray.setIfInBounds (rs.length * 3 + 2) (.slice A' (r.cmds.length + 1 : Nat) c')) = ((rs ++ [({ a with cA := A', cc := c' }, (⟨r.targets, r.needs, r.cmds ++ [t]⟩ : Rul))]).flatMap rulF.enc ++ rest).toArray := by
    apply Array.ext'
    rw [Array.toList_setIfInBounds]
    have h0 : (rs.flatMap rulF.enc).length = rs.length * 3 := length_flatMap_enc rulF rs
    rw [List.flatMap_append, List.flatMap_append, List.append_assoc, List.append_assoc]
    show (rs.flatMap rulF.enc ++ ([_, _, _] ++ rest)).set (rs.length * 3 + 2) _ = rs.flatMap rulF.enc ++ ([_, _, _] ++ rest)
    rw [List.set_append_right _ _ (by omega), h0, show rs.length * 3 + 2 - rs.length * 3 = 2 by omega]
    simp
  rw [e9] at hCs
  refine ⟨?_, F5.keep O6 E6 (own_ne_cs F5.own hC (by decide)), ⟨?_, E6, ?_⟩, ?_, ?_, h.ng⟩
  · have h8 := c5.keep O6 (fun e => Cs.ne_ c5 hC (by decide) e)
    rw [show (rs ++ [(a, r)]).length = rs.length + 1 by simp] at h8
    rw [List.length_append]
    exact h8
  · rw [hA, show (rs ++ [(({ a with cA := A', cc := c' } : RulA), (⟨r.targets, r.needs, r.cmds ++ [t]⟩ : Rul))]).length = rs.length + 1 by simp]
    refine own_of_block hCs (by omega) ?_ ?_ hnc hm
    · rw [length_flatMap_enc]; simp
    · rw [List.length_append] at hlc ⊢
      rw [← hlc, length_flatMap_enc, length_flatMap_enc]
      simp
  · intro k hk
    rw [hA] at hk
    simp [Value.ownBlock] at hk
    omega
  · have q := P5.keep O6 E6 (fun x hx => own_ne_cs (P5.f x hx).own hC (by decide))
    rw [eL]
    exact q
  · rw [List.map_append]; rfl
end
end Go.Proofs.YtnhaekifcieeoaaGreatDoor
