/- Put together: MkH, Deep, MkC, MkR. -/
import Derived.Test.YtnhaekifcieeoaaGreatDoorPk09
import Derived.Test.YtnhaekifcieeoaaGreatDoorPk03
import Derived.Test.YtnhaekifcieeoaaGreatDoorPk08
import Derived.Test.YtnhaekifcieeoaaGreatDoorPk02
namespace Go.Proofs.YtnhaekifcieeoaaGreatDoor
open Go Go.RowKit
theorem SlR.take {α : Type} {T : Flat α} {w : World} {A : Option Addr} {n k : Nat} {xs : List α} (h : SlR T w A n xs) (hk : k ≤ n) : SlR T w A k (xs.take k) := by
  refine ⟨by rw [List.length_take, h.1]; omega, fun hn => ?_⟩
  obtain ⟨b, o, e, hb, hc⟩ := h.2 (by omega)
  refine ⟨b, o, e, hb, fun i x hx j u hu => ?_⟩
  rw [List.getElem?_take] at hx
  split at hx
  · exact hc i x hx j u hu
  · cases hx
theorem splB_mem (c : UInt8) : ∀ (s : Str), ∀ l ∈ splB c s, l.length ≤ s.length
  | [], l, h => by
    have h2 : l ∈ [([] : Str)] := h
    simp at h2
    subst h2
    exact Nat.le_refl _
  | x :: s, l, h => by
    have ih := splB_mem c s
    rw [splB_app] at h
    split at h
    · rcases List.mem_cons.1 h with rfl | h
      · exact Nat.zero_le _
      · have := ih l h
        simp only [List.length_cons]; omega
    · cases hL : splB c s with
      | nil => exact absurd hL (splB_ne c s)
      | cons a t =>
        rw [hL] at h ih
        simp only [headApp, List.mem_cons] at h
        rcases h with rfl | h
        · have := ih a (by simp)
          simp only [List.length_append, List.length_cons, List.length_nil]; omega
        · have := ih l (List.mem_cons_of_mem _ h)
          simp only [List.length_cons]; omega
theorem fieldsF_mem {s l : Str} (h : l ∈ fieldsF s) : l.length ≤ s.length := splB_mem 32 s l (List.mem_filter.1 h).1
theorem fieldsF_le (s : Str) : (fieldsF s).length ≤ s.length + 1 := Nat.le_trans (List.length_filter_le _ _) (splB_le 32 s)
theorem okFrom_cons (p : Bool) (seen r : List Str) (x : Str) : okFrom p seen (x :: r) = (wordB x && !inS seen x && (p || !patB x) && okFrom p (seen ++ [x]) r) := rfl
theorem take_succ_get {α : Type} {xs : List α} {k : Nat} {x : α} (hx : xs[k]? = some x) : xs.take (k + 1) = xs.take k ++ [x] := by rw [List.take_add_one, hx]; rfl
theorem drop_get {α : Type} {xs : List α} {k : Nat} {x : α} (hx : xs[k]? = some x) : xs.drop k = x :: xs.drop (k + 1) := by
  obtain ⟨hk, rfl⟩ := List.getElem?_eq_some_iff.1 hx
  exact List.drop_eq_getElem_cons hk
theorem any_take_succ {α : Type} (p : α → Bool) {xs : List α} {k : Nat} {x : α} (hx : xs[k]? = some x) : (xs.take (k + 1)).any p = ((xs.take k).any p || p x) := by
  rw [List.take_add_one, List.any_append, hx]
  simp
set_option maxRecDepth 100000 in
theorem IdxP_c {w : World} {A : Option Addr} {n c : Nat} {xs : List Str} (h : SlR strF w A n xs) (hn : n ≤ 100000) :
    Calls Tryz.prog 121 #[.slice A n c, .func (.func 102) #[] #[]] w fun e w' => ∃ i : Int, e = .returned (.int .i64 i) ∧ decide (0 ≤ i) = xs.any patB ∧ Ext w w' := by
  have HS := Lib.hid h
  go_enter Tryz.func121, Tryz.ntmps121
  go_wp2
  go_loopw [8] (fun i wr => ∃ k : Nat, k ≤ n ∧ i = .int .i64 k ∧ (xs.take k).any patB = false ∧ ∃ ξ : X w No, wr = ξ.v) (fun i _ => n - (intOf i).toNat)
  case atStart => exact ⟨0, Nat.zero_le _, rfl, rfl, X.here _ _, rfl⟩
  case round =>
    obtain ⟨k, hk, rfl, hT, ξ, rfl⟩ := hrel
    have HT := Lib.hid hT
    clear hT
    by_cases hlt : k < n
    · obtain ⟨b, o, f, rfl, hx, c0⟩ := strs_get HS.out hlt
      have HX := Lib.hid hx
      have HC := Lib.hid (pattern_c f)
      obtain ⟨p, hp⟩ : ∃ p, patB f = p := ⟨_, rfl⟩
      have HP := Lib.hid hp
      rw [hp] at HC
      clear hx hp h
      go_wp2_with fail
      refine (HC.out _).mono ?_
      rintro e u ⟨rfl, hu⟩
      have HU : Hid (Ext w u) := Lib.hid (ξ.h.then_ext hu)
      clear hu HC
      cases p with
      | true =>
        go_wp2_with fail
        go_ret
        refine ⟨k, rfl, ?_, HU.out⟩
        rw [decide_eq_true (by omega : 0 ≤ (k : Int))]
        exact (List.any_eq_true.2 ⟨f, List.mem_of_getElem? HX.out, HP.out⟩).symm
      | false =>
        go_wp2_with fail
        go_roundw
        case rel => exact ⟨k + 1, by omega, by go_num, by rw [any_take_succ patB HX.out, HT.out, HP.out]; rfl, ⟨_, HU.out⟩, rfl⟩
        case measure => simp [intOf]; omega
    · obtain rfl : k = n := by omega
      go_wp2_with fail
      go_ret
      have e1 := HT.out
      rw [List.take_of_length_le (by rw [HS.out.1]; exact Nat.le_refl _)] at e1
      exact ⟨-1, rfl, by rw [e1]; decide, ξ.h⟩
theorem AnyP_c {w : World} {A : Option Addr} {n c : Nat} {xs : List Str} (h : SlR strF w A n xs) (hn : n ≤ 100000) :
    Calls Tryz.prog 88 #[.slice A n c, .func (.func 102) #[] #[]] w fun e w' => e = .returned (.bool (xs.any patB)) ∧ Ext w w' := by
  have HC := Lib.hid (IdxP_c (c := c) h hn)
  clear h
  go_enter Tryz.func88, Tryz.ntmps88
  go_wp2_with fail
  refine HC.out.mono ?_
  rintro e u ⟨i, rfl, hi, hu⟩
  have HI := Lib.hid hi
  have HU := Lib.hid hu
  clear HC hi hu
  go_wp2_with fail
  go_ret
  exact ⟨by rw [← HI.out]; rfl, HU.out⟩
set_option maxRecDepth 100000 in
theorem Var_c (s : Str) (hs : s.length ≤ 1000000) (w : World) :
    Calls Tryz.prog 68 #[S s] w fun e w' => e = .returned (.bool (varB s)) ∧ Ext w w' := by
  go_enter Tryz.func68, Tryz.ntmps68
  go_wp2_with fail
  go_loopw [6] (fun i wr => ∃ k : Nat, k ≤ s.length ∧ i = .int .i64 k ∧ ((s.take k).all fun c => decide (65 ≤ c.toNat) && decide (c.toNat ≤ 90)) = true ∧ ∃ ξ : X w No, wr = ξ.v) (fun i _ => s.length - (intOf i).toNat)
  case atStart => exact ⟨0, Nat.zero_le _, rfl, rfl, X.here _ _, rfl⟩
  case round =>
    obtain ⟨k, hk, rfl, hT, ξ, rfl⟩ := hrel
    have HT := Lib.hid hT
    clear hT
    by_cases hlt : k < s.length
    · obtain ⟨x, hx⟩ : ∃ x, s[k] = x := ⟨_, rfl⟩
      have hxs : s[k]? = some x := by rw [List.getElem?_eq_getElem hlt, hx]
      have hxl := x.toNat_lt
      by_cases h1 : 65 ≤ x.toNat ∧ x.toNat ≤ 90
      · have HB : Hid (((s.take (k + 1)).all fun c => decide (65 ≤ c.toNat) && decide (c.toNat ≤ 90)) = true) := by
          have hT := HT.out
          unfold Hid
          rw [List.take_add_one, hxs]
          simp only [Option.toList, List.all_append, hT, List.all_cons, List.all_nil, Bool.and_true, Bool.true_and]
          simp [h1.1, h1.2]
        obtain ⟨h1, h2⟩ := h1
        have g1 : decide ((x.toNat : Int) < 65) = false := by rw [decide_eq_false_iff_not]; omega
        have g2 : decide ((90 : Int) < (x.toNat : Int)) = false := by rw [decide_eq_false_iff_not]; omega
        clear hxs
        go_wp2_with fail
        go_roundw
        case rel => exact ⟨k + 1, by omega, by go_num, HB.out, ξ, rfl⟩
        case measure => simp [intOf]; omega
      · have HB : Hid (varB s = false) := by
          have : (s.all fun c => decide (65 ≤ c.toNat) && decide (c.toNat ≤ 90)) = false := by
            rw [List.all_eq_false]
            refine ⟨x, List.mem_of_getElem? hxs, ?_⟩
            simp only [Bool.and_eq_true, decide_eq_true_eq]
            exact h1
          unfold Hid varB
          rw [this]; rfl
        clear hxs
        by_cases h2 : x.toNat < 65
        · have g1 : decide ((x.toNat : Int) < 65) = true := by rw [decide_eq_true_iff]; omega
          go_wp2_with fail
          go_ret
          exact ⟨by rw [HB.out]; rfl, ξ.h⟩
        · have g1 : decide ((x.toNat : Int) < 65) = false := by rw [decide_eq_false_iff_not]; omega
          have g2 : decide ((90 : Int) < (x.toNat : Int)) = true := by rw [decide_eq_true_iff]; omega
          go_wp2_with fail
          go_ret
          exact ⟨by rw [HB.out]; rfl, ξ.h⟩
    · have HB : Hid (varB s = (!(s == []) && decide (s.length ≤ 4))) := by
        have hT := HT.out
        rw [List.take_of_length_le (by omega)] at hT
        unfold Hid varB
        rw [hT]; rfl
      obtain ⟨p, hp⟩ : ∃ p, (s == ([] : Str)) = p := ⟨_, rfl⟩
      rw [hp] at HB
      by_cases h4 : s.length ≤ 4
      · have g1 : decide ((s.length : Int) ≤ 4) = true := by rw [decide_eq_true_iff]; omega
        rw [decide_eq_true h4] at HB
        cases p <;>
        · go_wp2_with fail
          go_ret
          exact ⟨by rw [HB.out]; rfl, ξ.h⟩
      · have g1 : decide ((s.length : Int) ≤ 4) = false := by rw [decide_eq_false_iff_not]; omega
        rw [decide_eq_false h4] at HB
        cases p <;>
        · go_wp2_with fail
          go_ret
          exact ⟨by rw [HB.out]; rfl, ξ.h⟩
def strLen : Value → Nat
  | .string b => b.size
  | _ => 0
theorem fnd_mem {k : Str} {xs : List File} {v : File} (h : fndL k xs = some v) : v ∈ xs := List.mem_reverse.1 (List.mem_of_find?_eq_some h)
set_option maxRecDepth 100000 in
set_option maxHeartbeats 4000000 in
theorem deep_c {w : World} (hm : Ml w) {A : Option Addr} {n c : Nat} {xs : List File} (h : SlR fileF w A n xs) (hn : n ≤ 100000) (hx : ∀ f ∈ xs, f.2.length ≤ 100000) : ∀ (d : Nat), d ≤ 6 → ∀ (s : Str), s.length ≤ 100000 → ∀ v, Ext w v →
    Calls Tryz.prog 127 #[.slice A n c, S s, .int .i64 (6 - d : Int)] v fun e w' => e = .returned (.tuple #[S (exp xs d s).1, errV (exp xs d s).2]) ∧ Ext v w' := by
  have HM := Lib.hid hm
  have H := Lib.hid h
  have HX := Lib.hid hx
  clear hm h hx
  intro d
  induction d with
  | zero =>
    intro _ s hs v hv
    show Calls Tryz.prog 127 #[.slice A n c, S s, .int .i64 6] v fun e w' => e = .returned (.tuple #[S [], errV 9]) ∧ Ext v w'
    go_enter Tryz.func127, Tryz.ntmps127
    go_wp2_with fail
    go_ret2
    exact ⟨rfl, Only.refl _ _⟩
  | succ d ih =>
    intro hd s hs v hv
    have HI := Lib.hid (ih (by omega))
    clear ih
    have hk : ((6 : Int) - ((d + 1 : Nat) : Int)) = ((5 - d : Nat) : Int) := by omega
    obtain ⟨k, hkk⟩ : ∃ k, k = 5 - d := ⟨_, rfl⟩
    have hk5 : k ≤ 5 := by omega
    have hk1 : ((6 : Int) - (d : Int)) = ((k + 1 : Nat) : Int) := by omega
    rw [hk, ← hkk]
    have HI2 : Hid (∀ (t : Str), t.length ≤ 100000 → ∀ v, Ext w v → Calls Tryz.prog 127 #[.slice A n c, S t, .int .i64 ((k : Int) + 1)] v fun e w' => e = .returned (.tuple #[S (exp xs d t).1, errV (exp xs d t).2]) ∧ Ext v w') := fun t ht v hv => by
      have := HI.out t ht v hv
      rw [hk1] at this
      exact this
    have HE : Hid (exp xs (d + 1) s = expL xs (exp xs d) (s.length + 1) s []) := rfl
    have HBd := Lib.hid (exp_bound xs d)
    have HNn := Lib.hid (exp_nonneg xs d)
    generalize exp xs (d + 1) s = R at HE ⊢
    generalize exp xs d = rec at HI2 HE HBd HNn
    obtain ⟨F0, hF0⟩ : ∃ f, f = s.length + 1 := ⟨_, rfl⟩
    have hsF : s.length < F0 := by omega
    rw [← hF0] at HE
    have g5 : decide ((5 : Int) < (k : Int)) = false := by rw [decide_eq_false_iff_not]; omega
    clear HI hk hkk hk1 hF0
    go_enter Tryz.func127, Tryz.ntmps127
    go_wp2_with fail
    go_loopw [1, 8] (fun sv ov wr => ∃ (f : Nat) (t out : Str), sv = S t ∧ ov = S out ∧ t.length < f ∧ t.length ≤ 100000 ∧ out.length ≤ 600 ∧ R = expL xs rec f t out ∧ ∃ ξ : X v No, wr = ξ.v) (fun sv _ _ => strLen sv)
    case atStart => exact ⟨F0, s, [], rfl, rfl, hsF, hs, Nat.zero_le _, HE.out, X.here _ _, rfl⟩
    case round =>
      obtain ⟨f, t, out, rfl, rfl, htf, ht, hout, hR, ξ, rfl⟩ := hrel
      obtain ⟨g, rfl⟩ : ∃ g, f = g + 1 := ⟨f - 1, by omega⟩
      have HR : Hid (R = if (Lib.cut t dlr).2.2 = false then (if 600 < (out ++ (Lib.cut t dlr).1).length then ([], 2) else (out ++ (Lib.cut t dlr).1, 0))
        else if (cutB 41 (Lib.cut t dlr).2.1).2.2 = false ∨ varB (cutB 41 (Lib.cut t dlr).2.1).1 = false then ([], 4)
        else match fndL (cutB 41 (Lib.cut t dlr).2.1).1 xs with
          | none => ([], 5)
          | some v => if (rec v.2).2 ≠ 0 then ([], (rec v.2).2) else if 600 < (out ++ (Lib.cut t dlr).1 ++ (rec v.2).1).length then ([], 2) else expL xs rec g (cutB 41 (Lib.cut t dlr).2.1).2.1 (out ++ (Lib.cut t dlr).1 ++ (rec v.2).1)) := hR
      clear hR HE
      have HC := Lib.hid (SCut_c t dlr (by omega) (HM.out.ext (hv.then_ext ξ.h)))
      have hcl := cut_len t dlr
      have hclt := cut_lt (s := t) (sep := dlr) (by simp)
      generalize Lib.cut t dlr = q at HC hcl hclt HR
      obtain ⟨a, b, is⟩ := q
      dsimp only at HC hcl hclt HR
      go_wp2_with fail
      refine (HC.out).mono ?_; rintro e uu ⟨rfl, hu⟩; obtain ⟨ξ1, hnew⟩ : ∃ ξ : X v No, ξ.v = uu := ⟨⟨uu, ξ.h.then_ext hu⟩, rfl⟩; subst hnew; have Hξ1 := Lib.hid hu; clear hu
      clear HC
      cases is with
      | false =>
        by_cases hl : 600 < (out ++ a).length
        · have HR2 : Hid (R = ([], 2)) := by rw [Hid, HR.out, if_pos rfl, if_pos hl]
          rw [List.length_append] at hl
          have g6 : decide ((600 : Int) < (out.length : Int) + (a.length : Int)) = true := by rw [decide_eq_true_iff]; omega
          clear HR
          go_wp2_with fail
          go_ret2
          rw [HR2.out]
          exact ⟨rfl, ξ1.h⟩
        · have HR2 : Hid (R = (out ++ a, 0)) := by rw [Hid, HR.out, if_pos rfl, if_neg hl]
          rw [List.length_append] at hl
          have g6 : decide ((600 : Int) < (out.length : Int) + (a.length : Int)) = false := by rw [decide_eq_false_iff_not]; omega
          clear HR
          go_wp2_with fail
          go_ret2
          rw [HR2.out]
          exact ⟨rfl, ξ1.h⟩
      | true =>
        have hbt := hclt rfl
        have HB := Lib.hid (BCut_c b 41 (by omega) (HM.out.ext (hv.then_ext ξ1.h)))
        have hbl := cutB_len 41 b
        generalize cutB 41 b = q2 at HB hbl HR
        obtain ⟨nm, rest, is2⟩ := q2
        dsimp only at HB hbl HR
        clear hclt
        go_wp2_with fail
        refine (HB.out).mono ?_; rintro e uu ⟨rfl, hu⟩; obtain ⟨ξ2, hnew⟩ : ∃ ξ : X v No, ξ.v = uu := ⟨⟨uu, ξ1.h.then_ext hu⟩, rfl⟩; subst hnew; have Hξ2 := Lib.hid hu; clear hu
        clear HB
        cases is2 with
        | false =>
          have HR2 : Hid (R = ([], 4)) := by rw [Hid, HR.out]; rfl
          clear HR
          go_wp2_with fail
          go_ret2
          rw [HR2.out]
          exact ⟨rfl, ξ2.h⟩
        | true =>
          have HV := Lib.hid (fun v => Var_c nm (by omega) v)
          have HF := Lib.hid (fun v (hv : Ext w v) => vfind_c (cap := c) (by omega) nm (H.out.ext hv))
          obtain ⟨vb, hvb⟩ : ∃ b, b = varB nm := ⟨_, rfl⟩
          rw [← hvb] at HV HR
          clear hvb
          cases vb with
          | false =>
            have HR2 : Hid (R = ([], 4)) := by rw [Hid, HR.out]; rfl
            clear HR HF
            go_upto_region 8 with fail
            refine Mix.wp_plain [4] (Cl v No) (Cl.of ξ2.h) ?_
            (repeat' (first | (refine Mix.lex_quiet0 rfl rfl rfl ?_; intro K hK; go_big_quiet_op; go_big_quiet_on) | (refine Mix.lex_quietG rfl rfl rfl (by with_reducible rfl) rfl rfl ?_; intro K hK; go_big_quiet_op; go_big_quiet_on) | ((first | refine Mix.lex_skipT rfl rfl rfl (by with_reducible rfl) ?_ | refine Mix.lex_skipF rfl rfl rfl (by with_reducible rfl) ?_ | refine Mix.lex_skipU rfl rfl rfl (by with_reducible rfl) ?_); simp only [Act.put, List.setIfInBounds_toArray, List.set_cons_succ, List.set_cons_zero]) | (refine Mix.lex_part rfl rfl rfl rfl (fun hq => ?_) (fun hq => ?_) <;> (fail_if_success (guard_hyp hq :ₛ true = true)) <;> (fail_if_success (guard_hyp hq :ₛ false = false)) <;> first | (exfalso; cases hq; done) | (exfalso; simp only [decide_eq_true_eq, decide_eq_false_iff_not, beq_iff_eq, beq_eq_false_iff_ne, ne_eq, Int.not_lt, Int.not_le] at hq; omega) | simp only [Act.put, List.setIfInBounds_toArray, List.set_cons_succ, List.set_cons_zero])))
            ((first | refine Mix.lex_goes0 rfl rfl ?_ | refine Mix.lex_goesG rfl rfl rfl (by with_reducible rfl) rfl ?_); intro K hK; go_simp); refine (HV.out _).mono ?_; rintro e uu ⟨rfl, hu⟩; obtain ⟨ξ3, hnew⟩ : ∃ ξ : X v No, ξ.v = uu := ⟨⟨uu, ξ2.h.then_ext hu⟩, rfl⟩; subst hnew; have Hξ3 := Lib.hid hu; refine ⟨_, rfl, hK _ _ (fun _ => ⟨ξ3, rfl⟩) ?_⟩; clear hK K hu; simp only [Act.put, List.setIfInBounds_toArray, List.set_cons_succ, List.set_cons_zero]; (repeat' (first | (refine Mix.lex_quiet0 rfl rfl rfl ?_; intro K hK; go_big_quiet_op; go_big_quiet_on) | (refine Mix.lex_quietG rfl rfl rfl (by with_reducible rfl) rfl rfl ?_; intro K hK; go_big_quiet_op; go_big_quiet_on) | ((first | refine Mix.lex_skipT rfl rfl rfl (by with_reducible rfl) ?_ | refine Mix.lex_skipF rfl rfl rfl (by with_reducible rfl) ?_ | refine Mix.lex_skipU rfl rfl rfl (by with_reducible rfl) ?_); simp only [Act.put, List.setIfInBounds_toArray, List.set_cons_succ, List.set_cons_zero]) | (refine Mix.lex_part rfl rfl rfl rfl (fun hq => ?_) (fun hq => ?_) <;> (fail_if_success (guard_hyp hq :ₛ true = true)) <;> (fail_if_success (guard_hyp hq :ₛ false = false)) <;> first | (exfalso; cases hq; done) | (exfalso; simp only [decide_eq_true_eq, decide_eq_false_iff_not, beq_iff_eq, beq_eq_false_iff_ne, ne_eq, Int.not_lt, Int.not_le] at hq; omega) | simp only [Act.put, List.setIfInBounds_toArray, List.set_cons_succ, List.set_cons_zero])))
            refine Mix.lex_nil ?_
            go_wp2_with fail
            go_ret2
            rw [HR2.out]
            exact ⟨rfl, ξ3.h⟩
          | true =>
            go_upto_region 8 with fail
            refine Mix.wp_plain [4] (Cl v No) (Cl.of ξ2.h) ?_
            (repeat' (first | (refine Mix.lex_quiet0 rfl rfl rfl ?_; intro K hK; go_big_quiet_op; go_big_quiet_on) | (refine Mix.lex_quietG rfl rfl rfl (by with_reducible rfl) rfl rfl ?_; intro K hK; go_big_quiet_op; go_big_quiet_on) | ((first | refine Mix.lex_skipT rfl rfl rfl (by with_reducible rfl) ?_ | refine Mix.lex_skipF rfl rfl rfl (by with_reducible rfl) ?_ | refine Mix.lex_skipU rfl rfl rfl (by with_reducible rfl) ?_); simp only [Act.put, List.setIfInBounds_toArray, List.set_cons_succ, List.set_cons_zero]) | (refine Mix.lex_part rfl rfl rfl rfl (fun hq => ?_) (fun hq => ?_) <;> (fail_if_success (guard_hyp hq :ₛ true = true)) <;> (fail_if_success (guard_hyp hq :ₛ false = false)) <;> first | (exfalso; cases hq; done) | (exfalso; simp only [decide_eq_true_eq, decide_eq_false_iff_not, beq_iff_eq, beq_eq_false_iff_ne, ne_eq, Int.not_lt, Int.not_le] at hq; omega) | simp only [Act.put, List.setIfInBounds_toArray, List.set_cons_succ, List.set_cons_zero])))
            ((first | refine Mix.lex_goes0 rfl rfl ?_ | refine Mix.lex_goesG rfl rfl rfl (by with_reducible rfl) rfl ?_); intro K hK; go_simp); refine (HV.out _).mono ?_; rintro e uu ⟨rfl, hu⟩; obtain ⟨ξ3, hnew⟩ : ∃ ξ : X v No, ξ.v = uu := ⟨⟨uu, ξ2.h.then_ext hu⟩, rfl⟩; subst hnew; have Hξ3 := Lib.hid hu; refine ⟨_, rfl, hK _ _ (fun _ => ⟨ξ3, rfl⟩) ?_⟩; clear hK K hu; simp only [Act.put, List.setIfInBounds_toArray, List.set_cons_succ, List.set_cons_zero]; (repeat' (first | (refine Mix.lex_quiet0 rfl rfl rfl ?_; intro K hK; go_big_quiet_op; go_big_quiet_on) | (refine Mix.lex_quietG rfl rfl rfl (by with_reducible rfl) rfl rfl ?_; intro K hK; go_big_quiet_op; go_big_quiet_on) | ((first | refine Mix.lex_skipT rfl rfl rfl (by with_reducible rfl) ?_ | refine Mix.lex_skipF rfl rfl rfl (by with_reducible rfl) ?_ | refine Mix.lex_skipU rfl rfl rfl (by with_reducible rfl) ?_); simp only [Act.put, List.setIfInBounds_toArray, List.set_cons_succ, List.set_cons_zero]) | (refine Mix.lex_part rfl rfl rfl rfl (fun hq => ?_) (fun hq => ?_) <;> (fail_if_success (guard_hyp hq :ₛ true = true)) <;> (fail_if_success (guard_hyp hq :ₛ false = false)) <;> first | (exfalso; cases hq; done) | (exfalso; simp only [decide_eq_true_eq, decide_eq_false_iff_not, beq_iff_eq, beq_eq_false_iff_ne, ne_eq, Int.not_lt, Int.not_le] at hq; omega) | simp only [Act.put, List.setIfInBounds_toArray, List.set_cons_succ, List.set_cons_zero])))
            refine Mix.lex_nil ?_
            cases hfn : fndL nm xs with
            | none =>
              rw [hfn] at HF HR
              have HF2 : Hid (∀ v, Ext w v → Calls Tryz.prog 157 #[.slice A n c, S nm] v fun e w' => e = .returned (.tuple #[S [], .bool false]) ∧ Ext v w') := HF.out
              have HR2 : Hid (R = ([], 5)) := by rw [Hid, HR.out]; rfl
              clear HR HF hfn
              go_wp2_with fail
              refine (HF2.out _ (hv.then_ext ξ3.h)).mono ?_; rintro e uu ⟨rfl, hu⟩; obtain ⟨ξ4, hnew⟩ : ∃ ξ : X v No, ξ.v = uu := ⟨⟨uu, ξ3.h.then_ext hu⟩, rfl⟩; subst hnew; have Hξ4 := Lib.hid hu; clear hu
              go_wp2_with fail
              go_ret2
              rw [HR2.out]
              exact ⟨rfl, ξ4.h⟩
            | some z =>
              rw [hfn] at HF HR
              have hzl := HX.out z (fnd_mem hfn)
              have HF2 : Hid (∀ v, Ext w v → Calls Tryz.prog 157 #[.slice A n c, S nm] v fun e w' => e = .returned (.tuple #[S z.2, .bool true]) ∧ Ext v w') := HF.out
              have HR1 : Hid (R = if (rec z.2).2 ≠ 0 then ([], (rec z.2).2) else if 600 < (out ++ a ++ (rec z.2).1).length then ([], 2) else expL xs rec g rest (out ++ a ++ (rec z.2).1)) := HR.out
              have HD := Lib.hid (HI2.out z.2 hzl)
              have hbd := HBd.out z.2
              have hnn := HNn.out z.2
              generalize rec z.2 = r at HR1 HD hbd hnn
              obtain ⟨rt, rf⟩ := r
              dsimp only at HR1 HD hbd hnn
              clear HR HF hfn
              go_wp2_with fail
              refine (HF2.out _ (hv.then_ext ξ3.h)).mono ?_; rintro e uu ⟨rfl, hu⟩; obtain ⟨ξ4, hnew⟩ : ∃ ξ : X v No, ξ.v = uu := ⟨⟨uu, ξ3.h.then_ext hu⟩, rfl⟩; subst hnew; have Hξ4 := Lib.hid hu; clear hu
              clear HF2
              go_wp2_with fail
              refine (HD.out _ (hv.then_ext ξ4.h)).mono ?_; rintro e uu ⟨rfl, hu⟩; obtain ⟨ξ5, hnew⟩ : ∃ ξ : X v No, ξ.v = uu := ⟨⟨uu, ξ4.h.then_ext hu⟩, rfl⟩; subst hnew; have Hξ5 := Lib.hid hu; clear hu
              clear HD
              by_cases hrf : rf = 0
              · have HR2 : Hid (R = if 600 < (out ++ a ++ rt).length then ([], 2) else expL xs rec g rest (out ++ a ++ rt)) := by rw [Hid, HR1.out, if_neg (by simpa using hrf)]
                subst hrf
                rw [errV_zero]
                clear HR1
                by_cases hl : 600 < (out ++ a ++ rt).length
                · have HR3 : Hid (R = ([], 2)) := by rw [Hid, HR2.out, if_pos hl]
                  rw [List.length_append, List.length_append] at hl
                  clear HR2
                  go_wp2_with fail
                  go_ret2
                  rw [HR3.out]
                  exact ⟨rfl, ξ5.h⟩
                · have HR3 : Hid (R = expL xs rec g rest (out ++ a ++ rt)) := by rw [Hid, HR2.out, if_neg hl]
                  rw [List.length_append, List.length_append] at hl
                  clear HR2
                  go_wp2_with fail
                  go_roundw
                  case rel => exact ⟨g, rest, out ++ a ++ rt, rfl, (by simp), by omega, by omega, by simp only [List.length_append]; omega, HR3.out, ξ5, rfl⟩
                  case measure => simp [strLen, ByteArray.size]; omega
              · have HR2 : Hid (R = ([], rf)) := by rw [Hid, HR1.out, if_pos (by simpa using hrf)]
                have HE := Lib.hid (errV_pos hrf)
                rw [errV_pos hrf]
                clear HR1 hrf
                go_wp2_with fail
                go_ret2
                rw [HR2.out]
                exact ⟨by rw [HE.out]; rfl, ξ5.h⟩
theorem Text_c {w : World} (hm : Ml w) {A : Option Addr} {n c : Nat} {xs : List File} (h : SlR fileF w A n xs) (hn : n ≤ 100000) (hx : ∀ f ∈ xs, f.2.length ≤ 100000) (s : Str) (hs : s.length ≤ 100000) :
    Calls Tryz.prog 97 #[.slice A n c, S s] w fun e w' => e = .returned (.tuple #[S (exp xs 6 s).1, errV (exp xs 6 s).2]) ∧ Ext w w' := by
  have HC := Lib.hid (deep_c hm h hn hx 6 (Nat.le_refl _) s hs w (Only.refl _ _) (c := c))
  clear hm h hx
  go_enter Tryz.func97, Tryz.ntmps97
  go_wp2_with fail
  refine (HC.out).mono ?_; rintro e uu ⟨rfl, hu⟩; obtain ⟨ξ1, hnew⟩ : ∃ ξ : X w No, ξ.v = uu := ⟨⟨uu, (X.here w No).h.then_ext hu⟩, rfl⟩; subst hnew; have Hξ1 := Lib.hid hu; clear hu
  go_wp2_with fail
  go_ret2
  exact ⟨rfl, ξ1.h⟩
theorem vr_info : (Tryz.prog.info? varT).map (fun i => (i.zero, i.size, i.bytes)) = some (some (.agg #[.string ⟨#[]⟩, .string ⟨#[]⟩]), 2, 32) := by kernel_rfl
theorem vr_ty : Ety Tryz.prog 25 varT 2 := Ety.mk' Tryz.underlying25 vr_info rfl (by omega) (by omega)
theorem ru_info : (Tryz.prog.info? ruleT).map (fun i => (i.zero, i.size, i.bytes)) = some (some (.agg #[.slice none 0 0, .slice none 0 0, .slice none 0 0]), 3, 72) := by kernel_rfl
theorem ru_ty : Ety Tryz.prog 26 ruleT 3 := Ety.mk' Tryz.underlying26 ru_info rfl (by omega) (by omega)
section
variable {Q : List SRow} {w wr : World} {g : Nat} {v : MkV} {rs : List (RulA × Rul)} {m : Mk}
def MkRes (Q : List SRow) (w : World) (g : Nat) (R : Mk × Int) (e : Ending) (w' : World) : Prop := ∃ v rs, e = .returned (errV R.2) ∧ MAt Q w w' g v rs R.1
theorem MAt.text (hm : Ml w) (h : MAt Q w wr g v rs m) (hv : m.vars.length ≤ 6) (ht : ∀ x ∈ m.vars, x.1.length ≤ 600 ∧ x.2.length ≤ 600) (s : Str) (hs : s.length ≤ 600) :
    Calls Tryz.prog 97 #[.slice v.vA m.vars.length v.vc, S s] wr fun e w' => e = .returned (.tuple #[S (exp m.vars 6 s).1, errV (exp m.vars 6 s).2]) ∧ Ext wr w' :=
  Text_c (hm.ext h.x) (h.fv.row (by decide)) (by omega) (fun f hf => by have := (ht f hf).2; omega) s (by omega)
end
set_option maxRecDepth 100000 in
set_option maxHeartbeats 4000000 in
theorem Command_c {Q : List SRow} {w wr : World} {g : Nat} {v : MkV} {rs : List (RulA × Rul)} {m : Mk} {k : Nat} (hm : Ml w) (h : MAt Q w wr g v rs m) (hf : m.Fit k) (s : Str) (hs : s.length ≤ 600) :
    Calls Tryz.prog 65 #[ptr g, S s] wr (MkRes Q w g (cmdF m s)) := by
  have P := Lib.hid h
  have HT := Lib.hid (h.text hm hf.v hf.vt s hs)
  have HB := Lib.hid (exp_bound m.vars 6 s)
  rcases List.eq_nil_or_concat rs with rfl | ⟨ini, ⟨a, r⟩, rfl⟩
  · have HF : Hid (cmdF m s = (m, 4)) := by
      have := h.rm
      unfold cmdF
      rw [← this]
      rfl
    have c1 : wr.cell? ⟨g, 1, none⟩ = some (.slice v.rA 0 v.rc) := h.rc.cell 1
    clear h hf HT HB
    go_enter Tryz.func65, Tryz.ntmps65
    go_wp2_with fail
    go_ret
    exact ⟨v, [], by rw [HF.out]; rfl, by rw [HF.out]; exact P.out⟩
  · rw [List.concat_eq_append] at P h
    have hrm := h.rm
    rw [List.map_append] at hrm
    have HRM : Hid (m.rules = ini.map (·.2) ++ [r]) := hrm.symm
    have hl : (ini ++ [(a, r)]).length = ini.length + 1 := by simp
    have HF : Hid (cmdF m s = if (exp m.vars 6 s).2 ≠ 0 then (m, (exp m.vars 6 s).2) else if r.cmds.length = 3 ∨ 28 < (exp m.vars 6 s).1.length then (m, 2) else (⟨m.vars, m.rules.dropLast ++ [⟨r.targets, r.needs, r.cmds ++ [(exp m.vars 6 s).1]⟩], m.phony⟩, 0)) := by
      unfold Hid cmdF
      rw [HRM.out, List.getLast?_concat]
    have hc3 : r.cmds.length ≤ 3 := (hf.rt r (by rw [HRM.out]; simp)).2.2.2
    have hn10 : ini.length + 1 ≤ 10 := by have := hf.r; rw [HRM.out] at this; simpa using this
    have c0 : wr.cell? ⟨g, 0, none⟩ = some (.slice v.vA m.vars.length v.vc) := h.rc.cell 0
    have c1 : wr.cell? ⟨g, 1, none⟩ = some (.slice v.rA (ini.length + 1 : Nat) v.rc) := by rw [← hl]; exact h.rc.cell 1
    have hne : ini.length + 1 ≠ 0 := by omega
    clear h hf hrm
    generalize exp m.vars 6 s = ex at HF HT HB
    obtain ⟨t, e⟩ := ex
    dsimp only at HF HT HB
    have htl := HB.out
    go_enter Tryz.func65, Tryz.ntmps65
    go_wp2_with fail
    refine HT.out.mono ?_
    rintro e' w1 ⟨rfl, hx⟩
    have P1 := Lib.hid (P.out.ext hx)
    clear hx P HT c0 c1
    by_cases he : e = 0
    · subst he
      rw [errV_zero]
      have HF2 : Hid (cmdF m s = if r.cmds.length = 3 ∨ 28 < t.length then (m, 2) else (⟨m.vars, m.rules.dropLast ++ [⟨r.targets, r.needs, r.cmds ++ [t]⟩], m.phony⟩, 0)) := by
        unfold Hid
        rw [HF.out]
        exact if_neg (fun h => h rfl)
      clear HF
      obtain ⟨gR, cur, hA, hC, hcur⟩ := P1.out.last
      have c1 : w1.cell? ⟨g, 1, none⟩ = some (.slice (some ⟨gR, 0, none⟩) (ini.length + 1 : Nat) v.rc) := by rw [← hl, ← hA]; exact P1.out.rc.cell 1
      have d1 : ∀ ξ : X w1 No, ξ.v.cell? ⟨g, 1, none⟩ = some (.slice (some ⟨gR, 0, none⟩) (ini.length + 1 : Nat) v.rc) := fun ξ => (P1.out.rc.keep ξ.h id).cell 1 |>.trans (by rw [← hl, ← hA]; rfl)
      have d2 : ∀ ξ : X w1 No, ξ.v.cell? ⟨gR, ini.length * 3 + 2, none⟩ = some (.slice a.cA r.cmds.length a.cc) := fun ξ => (hC.x id _ ξ).trans hcur
      clear c1 hC hcur cur
      go_wp2_with fail
      go_upto_region 6 with fail
      (refine Mix.wp_draw [] 100 (Cl (w1) (No)) (by kernel_rfl) (by kernel_rfl) (Cl.drew_ (X.here w1 No)) ?_; (repeat' (first | (refine Mix.lex_quiet0 rfl rfl rfl ?_; intro K hK; go_big_quiet_op; go_big_quiet_on) | (refine Mix.lex_quietG rfl rfl rfl (by with_reducible rfl) rfl rfl ?_; intro K hK; go_big_quiet_op; go_big_quiet_on) | ((first | refine Mix.lex_skipT rfl rfl rfl (by with_reducible rfl) ?_ | refine Mix.lex_skipF rfl rfl rfl (by with_reducible rfl) ?_ | refine Mix.lex_skipU rfl rfl rfl (by with_reducible rfl) ?_); simp only [Act.put, List.setIfInBounds_toArray, List.set_cons_succ, List.set_cons_zero]) | (refine Mix.lex_part rfl rfl rfl rfl (fun hq => ?_) (fun hq => ?_) <;> (fail_if_success (guard_hyp hq :ₛ true = true)) <;> (fail_if_success (guard_hyp hq :ₛ false = false)) <;> first | (exfalso; cases hq; done) | (exfalso; simp only [decide_eq_true_eq, decide_eq_false_iff_not, beq_iff_eq, beq_eq_false_iff_ne, ne_eq, Int.not_lt, Int.not_le] at hq; omega) | simp only [Act.put, List.setIfInBounds_toArray, List.set_cons_succ, List.set_cons_zero]))))
      all_goals (refine Mix.lex_nil ?_)
      obtain ⟨w2, hw2⟩ : ∃ u, u = w1.drew := ⟨_, rfl⟩
      have P2 : Hid (MAt Q w w2 g v (ini ++ [(a, r)]) m) := by rw [hw2]; exact P1.out.ext (Only.refl No _).drew
      have e2 : w2.cell? ⟨gR, ini.length * 3 + 2, none⟩ = some (.slice a.cA r.cmds.length a.cc) := by rw [hw2]; exact d2 ⟨_, (Only.refl No w1).drew⟩
      rw [← hw2]
      clear hw2 d1 d2 P1
      by_cases h3 : r.cmds.length = 3
      · have g3 : decide ((r.cmds.length : Int) = 3) = true := by rw [decide_eq_true_iff]; omega
        go_wp2_with fail
        go_ret
        exact ⟨v, ini ++ [(a, r)], by rw [HF2.out, if_pos (.inl h3)]; rfl, by rw [HF2.out, if_pos (.inl h3)]; exact P2.out⟩
      · have g3 : decide ((r.cmds.length : Int) = 3) = false := by rw [decide_eq_false_iff_not]; omega
        by_cases h28 : 28 < t.length
        · have g4 : decide ((28 : Int) < (t.length : Int)) = true := by rw [decide_eq_true_iff]; omega
          go_wp2_with fail
          go_ret
          exact ⟨v, ini ++ [(a, r)], by rw [HF2.out, if_pos (.inr h28)]; rfl, by rw [HF2.out, if_pos (.inr h28)]; exact P2.out⟩
        · have g4 : decide ((28 : Int) < (t.length : Int)) = false := by rw [decide_eq_false_iff_not]; omega
          have HF3 : Hid (cmdF m s = (⟨m.vars, ini.map (·.2) ++ [⟨r.targets, r.needs, r.cmds ++ [t]⟩], m.phony⟩, 0)) := by
            unfold Hid
            rw [HF2.out, if_neg (by omega), HRM.out, List.dropLast_concat]
          have P3 := Lib.hid (P2.out.ext ((Only.refl No w2).alloc (.cells #[S t] 9)))
          go_wp2_with (first | (at_builtin; go_must (refine wpList_append (v := .slice a.cA r.cmds.length a.cc) (n := r.cmds.length) (xs := r.cmds.flatMap strF.enc) rfl st_ty rfl rfl rfl P3.out.crow.own (rd_one w2 _ [S t]) (by simp [Value.oneCell']) (by omega) ?_); intro A2 c2 w5 hown5 hg5 hb5; obtain ⟨gR', cur', hA', hC', hcur', hP'⟩ := P3.out.growC (t := t) hown5 hg5 hb5; obtain rfl : gR = gR' := (by have hq := hA.symm.trans hA'; simpa using hq); have y1 : w5.cell? ⟨gR, ini.length * 3 + 2, none⟩ = some (.slice a.cA r.cmds.length a.cc) := (hC'.cell _).trans hcur'; have z1 := hC'.frozen (ini.length * 3 + 2); have P9 := Lib.hid hP'; clear hown5 hg5 hb5 hC' hcur' hP' hA') | ((first | refine Mix.wpList_guarded rfl ?_ | refine Mix.wp_still (by kernel_rfl) (by kernel_rfl) ?_); (repeat' (first | (refine Mix.lex_quiet0 rfl rfl rfl ?_; intro K hK; go_big_quiet_op; go_big_quiet_on) | (refine Mix.lex_quietG rfl rfl rfl (by with_reducible rfl) rfl rfl ?_; intro K hK; go_big_quiet_op; go_big_quiet_on) | ((first | refine Mix.lex_skipT rfl rfl rfl (by with_reducible rfl) ?_ | refine Mix.lex_skipF rfl rfl rfl (by with_reducible rfl) ?_ | refine Mix.lex_skipU rfl rfl rfl (by with_reducible rfl) ?_); simp only [Act.put, List.setIfInBounds_toArray, List.set_cons_succ, List.set_cons_zero]) | (refine Mix.lex_part rfl rfl rfl rfl (fun hq => ?_) (fun hq => ?_) <;> (fail_if_success (guard_hyp hq :ₛ true = true)) <;> (fail_if_success (guard_hyp hq :ₛ false = false)) <;> first | (exfalso; cases hq; done) | (exfalso; simp only [decide_eq_true_eq, decide_eq_false_iff_not, beq_iff_eq, beq_eq_false_iff_ne, ne_eq, Int.not_lt, Int.not_le] at hq; omega) | simp only [Act.put, List.setIfInBounds_toArray, List.set_cons_succ, List.set_cons_zero]))); all_goals (refine Mix.lex_nil ?_)))
          go_ret
          exact ⟨v, _, by rw [HF3.out]; rfl, by rw [HF3.out]; exact P9.out⟩
    · have HF2 : Hid (cmdF m s = (m, e)) := by
        unfold Hid
        rw [HF.out]
        exact if_pos he
      rw [errV_pos he]
      go_wp2_with fail
      go_ret
      exact ⟨v, ini ++ [(a, r)], by rw [HF2.out, errV_pos he]; rfl, by rw [HF2.out]; exact P1.out⟩
@[go_sem] theorem rule_build (A B : Option Addr) (n c m d : Nat) (w : World) : (Instr.build ruleT #[(0, .slice A n c), (1, .slice B m d)]).run Tryz.prog w = .ok (.agg #[.slice A n c, .slice B m d, .slice none 0 0]) w := run_build w ruleT _ _ (by kernel_rfl)
set_option maxRecDepth 100000 in
set_option maxHeartbeats 4000000 in
theorem Header_c {Q : List SRow} {w wr : World} {g : Nat} {v : MkV} {rs : List (RulA × Rul)} {m : Mk} {k : Nat} (hm : Ml w) (h : MAt Q w wr g v rs m) (hf : m.Fit k) (s : Str) (hs : s.length ≤ 600) :
    Calls Tryz.prog 69 #[ptr g, S s] wr (MkRes Q w g (headF m s)) := by
  have P := Lib.hid h
  have HM := Lib.hid hm
  have HT := Lib.hid (h.text hm hf.v hf.vt s hs)
  have HB := Lib.hid (exp_bound m.vars 6 s)
  have hr10 : m.rules.length ≤ 10 := hf.r
  have HF : Hid (headF m s = if (exp m.vars 6 s).2 ≠ 0 then (m, (exp m.vars 6 s).2)
      else if (cutB 58 (exp m.vars 6 s).1).2.2 = false ∨ fieldsF (cutB 58 (exp m.vars 6 s).1).1 = [] then (m, 4)
      else if 2 < (fieldsF (cutB 58 (exp m.vars 6 s).1).1).length ∨ 3 < (fieldsF (cutB 58 (exp m.vars 6 s).1).2.1).length ∨ m.rules.length = 10 then (m, 2)
      else if allOk (fieldsF (cutB 58 (exp m.vars 6 s).1).1) (fieldsF (cutB 58 (exp m.vars 6 s).1).2.1) = true then (⟨m.vars, m.rules ++ [⟨fieldsF (cutB 58 (exp m.vars 6 s).1).1, fieldsF (cutB 58 (exp m.vars 6 s).1).2.1, []⟩], m.phony⟩, 0)
      else (m, 3)) := rfl
  have c0 : wr.cell? ⟨g, 0, none⟩ = some (.slice v.vA m.vars.length v.vc) := h.rc.cell 0
  clear h hf hm
  generalize exp m.vars 6 s = ex at HF HT HB
  obtain ⟨t, e⟩ := ex
  dsimp only at HF HT HB
  have htl := HB.out
  go_enter Tryz.func69, Tryz.ntmps69
  go_wp2_with fail
  refine HT.out.mono ?_
  rintro e' w1 ⟨rfl, hx⟩
  have P1 := Lib.hid (P.out.ext hx)
  clear hx P HT c0
  by_cases he : e = 0
  · subst he
    rw [errV_zero]
    have HC := Lib.hid (BCut_c t 58 (by omega) (HM.out.ext P1.out.x))
    have HCl := Lib.hid (cutB_len 58 t)
    have HF2 := Lib.hid (HF.out.trans (if_neg (fun h => h rfl)))
    clear HF
    generalize cutB 58 t = q at HC HF2 HCl
    obtain ⟨ta, tb, is⟩ := q
    dsimp only at HC HF2 HCl
    have hal : ta.length ≤ 600 := by have := HCl.out; omega
    have hbl : tb.length ≤ 600 := by have := HCl.out; omega
    have HW1 := Lib.hid (fun v => words_c ta (by omega) v)
    have HW2 := Lib.hid (fun v => words_c tb (by omega) v)
    have HL1 := Lib.hid (fun l (hl : l ∈ fieldsF ta) => fieldsF_mem hl)
    have HL2 := Lib.hid (fun l (hl : l ∈ fieldsF tb) => fieldsF_mem hl)
    have hn1 := fieldsF_le ta
    have hn2 := fieldsF_le tb
    generalize fieldsF ta = T at HW1 HF2 HL1 hn1
    generalize fieldsF tb = N at HW2 HF2 HL2 hn2
    go_wp2_with fail
    refine HC.out.mono ?_
    rintro e' w2 ⟨rfl, hx⟩
    have P2 := Lib.hid (P1.out.ext hx)
    clear hx P1 HC
    go_wp2_with fail
    refine (HW1.out _).mono ?_
    rintro e' w3 ⟨tA, tc, rfl, hT⟩
    have P3 := Lib.hid (P2.out.ext hT.ext)
    have S3 := Lib.hid (P2.out.ss.add P2.out.x (x := ⟨tA, tc, T⟩) hT)
    have T3 := Lib.hid hT
    clear hT HW1 P2
    go_wp2_with fail
    refine (HW2.out _).mono ?_
    rintro e' w4 ⟨nA, nc, rfl, hN⟩
    have P4 := Lib.hid (P3.out.ext hN.ext)
    have S4 := Lib.hid (S3.out.add P3.out.x (x := ⟨nA, nc, N⟩) hN)
    have T4 := Lib.hid (T3.out.on hN.ext)
    have N4 := Lib.hid hN
    clear hN HW2 P3 S3 T3
    obtain ⟨g9, hg9⟩ : ∃ g, g = w4.heap.size := ⟨_, rfl⟩
    obtain ⟨w5, hw5⟩ : ∃ u, u = w4.alloc (.cells #[.slice tA T.length tc, .slice nA N.length nc, .slice none 0 0] ruleT) := ⟨_, rfl⟩
    have x5 : Ext w4 w5 := by rw [hw5]; exact (Only.refl No w4).alloc _
    have C5 : Hid (Cs w5 g9 ruleT #[.slice tA T.length tc, .slice nA N.length nc, .slice none 0 0]) := by rw [hw5, hg9]; exact Cs.new _ _ _
    have P5 := Lib.hid (P4.out.ext x5)
    have S5 : Hid (SRows w w5 (Q ++ ⟨v.pA, v.pc, m.phony⟩ :: (rs ++ [((⟨tA, tc, nA, nc, none, 0⟩ : RulA), (⟨T, N, []⟩ : Rul))]).flatMap rowsOf)) := by
      have := S4.out.add P4.out.x (x := ⟨none, 0, []⟩) (Fresh.nil strF 9 w4 w5 x5)
      have e : Q ++ (⟨v.pA, v.pc, m.phony⟩ : SRow) :: (rs ++ [((⟨tA, tc, nA, nc, none, 0⟩ : RulA), (⟨T, N, []⟩ : Rul))]).flatMap rowsOf = Q ++ (⟨v.pA, v.pc, m.phony⟩ : SRow) :: rs.flatMap rowsOf ++ [⟨tA, tc, T⟩] ++ [⟨nA, nc, N⟩] ++ [⟨none, 0, []⟩] := by
        simp [List.flatMap_append]
      rw [Hid, e]
      exact this
    have T5 := Lib.hid ((T4.out.on x5).row (by decide))
    have N5 := Lib.hid ((N4.out.on x5).row (by decide))
    have HG9 : Hid (∀ b, (Value.slice v.rA rs.length v.rc).ownBlock = some b → b ≠ g9) := fun b hb e => by
      obtain ⟨_, hc⟩ := own_cs P4.out.fr.own hb
      have := hc.lt
      omega
    clear x5 P4 S4 T4 N4
    go_upto_region 6 with fail
    rw [← hw5, ← hg9]
    clear hw5 hg9
    have d0 : w5.cell? ⟨g9, 0, none⟩ = some (.slice tA T.length tc) := C5.out.cell 0
    have d1 : w5.cell? ⟨g9, 1, none⟩ = some (.slice nA N.length nc) := C5.out.cell 1
    have c1 : w5.cell? ⟨g, 1, none⟩ = some (.slice v.rA m.rules.length v.rc) := by rw [← P5.out.rl]; exact P5.out.rc.cell 1
    cases is with
    | false =>
      have HF3 : Hid (headF m s = (m, 4)) := HF2.out.trans (if_pos (.inl rfl))
      go_wp2_with fail
      go_ret
      exact ⟨v, rs, by rw [HF3.out]; rfl, by rw [HF3.out]; exact P5.out⟩
    | true =>
      by_cases h0 : T.length = 0
      · have g0 : decide ((T.length : Int) = 0) = true := by rw [decide_eq_true_iff]; omega
        have HF3 : Hid (headF m s = (m, 4)) := HF2.out.trans (if_pos (.inr (List.eq_nil_of_length_eq_zero h0)))
        go_wp2_with fail
        go_ret
        exact ⟨v, rs, by rw [HF3.out]; rfl, by rw [HF3.out]; exact P5.out⟩
      · have g0 : decide ((T.length : Int) = 0) = false := by rw [decide_eq_false_iff_not]; omega
        have HF3 := Lib.hid (HF2.out.trans (if_neg (by rintro (h | h); exact absurd h (by decide); exact h0 (by rw [h]; rfl))))
        clear HF2
        have HFm : Hid ((2 < T.length ∨ 3 < N.length ∨ m.rules.length = 10) → headF m s = (m, 2)) := fun h => HF3.out.trans (if_pos h)
        by_cases h2 : 2 < T.length
        · have g2 : decide ((2 : Int) < (T.length : Int)) = true := by rw [decide_eq_true_iff]; omega
          have HF4 := Lib.hid (HFm.out (.inl h2))
          go_wp2_with fail
          go_ret
          exact ⟨v, rs, by rw [HF4.out]; rfl, by rw [HF4.out]; exact P5.out⟩
        · have g2 : decide ((2 : Int) < (T.length : Int)) = false := by rw [decide_eq_false_iff_not]; omega
          by_cases h3 : 3 < N.length
          · have g3 : decide ((3 : Int) < (N.length : Int)) = true := by rw [decide_eq_true_iff]; omega
            have HF4 := Lib.hid (HFm.out (.inr (.inl h3)))
            go_wp2_with fail
            go_ret
            exact ⟨v, rs, by rw [HF4.out]; rfl, by rw [HF4.out]; exact P5.out⟩
          · have g3 : decide ((3 : Int) < (N.length : Int)) = false := by rw [decide_eq_false_iff_not]; omega
            by_cases h4 : m.rules.length = 10
            · have g4 : decide ((m.rules.length : Int) = 10) = true := by rw [decide_eq_true_iff]; omega
              have HF4 := Lib.hid (HFm.out (.inr (.inr h4)))
              go_wp2_with fail
              go_ret
              exact ⟨v, rs, by rw [HF4.out]; rfl, by rw [HF4.out]; exact P5.out⟩
            · have g4 : decide ((m.rules.length : Int) = 10) = false := by rw [decide_eq_false_iff_not]; omega
              have HF4 := Lib.hid (HF3.out.trans (if_neg (by omega)))
              clear HF3 HFm
              have D0 : ∀ ξ : X w5 No, ξ.v.cell? ⟨g9, 0, none⟩ = some (.slice tA T.length tc) := C5.out.x id 0
              have D1 : ∀ ξ : X w5 No, ξ.v.cell? ⟨g9, 1, none⟩ = some (.slice nA N.length nc) := C5.out.x id 1
              go_upto_region 10 with fail
              refine Mix.wp_draw [2, 5] 100 (Cl w5 No) (by kernel_rfl) (by kernel_rfl) (Cl.drew_ (X.here w5 No)) ?_
              (repeat' (refine Mix.lex_quiet0 rfl rfl rfl ?_; intro K hK; go_big_quiet_op; go_big_quiet_on))
              have hA : tA = none → T.length = 0 := fun e => by
                obtain ⟨b, o, e2, _⟩ := T5.out.2 (by omega)
                rw [e] at e2
                cases e2
              have TD := Lib.hid (T5.out.ext ((Only.refl No w5).drew))
              ((first | refine Mix.lex_goes0 rfl rfl ?_ | refine Mix.lex_goesG rfl rfl rfl (by with_reducible rfl) rfl ?_); intro K hK; go_simp)
              refine (CloneStrs_f (c := tc) TD.out hA (by omega)).mono ?_
              rintro e6 w6 ⟨A6, c6, rfl, hF6⟩
              have F6 := Lib.hid (hF6.from (Only.refl No w5).drew)
              refine ⟨_, rfl, hK _ _ (fun _ => Cl.of F6.out.ext) ?_⟩
              clear hK K hF6 TD hA
              simp only [Act.put, List.setIfInBounds_toArray, List.set_cons_succ, List.set_cons_zero]
              (repeat' (refine Mix.lex_quiet0 rfl rfl rfl ?_; intro K hK; go_big_quiet_op; go_big_quiet_on))
              have N6 := Lib.hid (N5.out.ext F6.out.ext)
              refine Mix.lex_goes0 rfl rfl ?_
              intro K hK
              refine goes_append (v := .slice A6 T.length c6) (n := T.length) (xs := T.flatMap strF.enc) st_ty rfl rfl rfl F6.out.own (N6.out.rd (by decide)) (str_enc1 N) (by omega) ?_
              intro A7 c7 w7 hown7 hg7 hb7
              have F7 := Lib.hid (F6.out.grow (ys := N) rfl hown7 hg7 hb7)
              refine hK _ _ (fun _ => Cl.of F7.out.ext) ?_
              clear hK K hown7 hg7 hb7 F6 N6 D0 D1 d0 d1 c1
              simp only [Act.put, List.setIfInBounds_toArray, List.set_cons_succ, List.set_cons_zero]
              (repeat' (refine Mix.lex_quiet0 rfl rfl rfl ?_; intro K hK; go_big_quiet_op; go_big_quiet_on))
              refine Mix.lex_nil ?_
              have P7 := Lib.hid (P5.out.ext F7.out.ext)
              have S7 := Lib.hid (S5.out.ext F7.out.ext)
              have C7 := Lib.hid (C5.out.keep F7.out.ext id)
              have T7 := Lib.hid (T5.out.ext F7.out.ext)
              have R7 : Hid (SlR strF w7 A7 (T.length + N.length) (T ++ N)) := by
                have := F7.out.row (by decide)
                rw [List.length_append] at this
                exact this
              have hc7 : T.length + N.length ≤ c7 := by
                have q := F7.out.own
                rw [List.length_append] at q
                obtain ⟨_, _, _, _, _, _, q, _⟩ := own_block q (by omega) (by decide)
                exact q
              have hAll : ∀ x ∈ T ++ N, x.length ≤ 600 := fun x hx => by
                rcases List.mem_append.1 hx with hx | hx
                · exact Nat.le_trans (HL1.out x hx) hal
                · exact Nat.le_trans (HL2.out x hx) hbl
              have HAll := Lib.hid hAll
              have M7 := Lib.hid (HM.out.ext P7.out.x)
              have HAp := Lib.hid (AnyP_c (c := tc) T7.out (by omega))
              have d0 : w7.cell? ⟨g9, 0, none⟩ = some (.slice tA T.length tc) := C7.out.cell 0
              clear F7 P5 S5 C5 T5 N5 hAll HL1 HL2
              have HOK : Hid (allOk T N = (okFrom (T.any patB) [] (T ++ N) && !(T.any patB && decide (1 < T.length)))) := rfl
              generalize T.any patB = p at HAp HOK
              go_wp2_with fail
              refine HAp.out.mono ?_
              rintro e8 w8 ⟨rfl, hx⟩
              have X8 := Lib.hid hx
              clear hx HAp d0
              go_wp2_with fail
              go_loopw [76] (fun i wr => ∃ j : Nat, j ≤ T.length + N.length ∧ i = .int .i64 j ∧ okFrom p [] (T ++ N) = okFrom p ((T ++ N).take j) ((T ++ N).drop j) ∧ ∃ ξ : X w7 No, wr = ξ.v) (fun i _ => T.length + N.length - (intOf i).toNat)
              case atStart => exact ⟨0, Nat.zero_le _, rfl, rfl, ⟨w8, X8.out⟩, rfl⟩
              case round =>
                obtain ⟨j, hj, rfl, hO, ξ, rfl⟩ := hrel
                have HO := Lib.hid hO
                clear hO
                by_cases hlt : j < T.length + N.length
                · obtain ⟨b, o, x, rfl, hx, cx⟩ := strs_get (w := w7) R7.out hlt
                  have HX := Lib.hid hx
                  have HO2 : Hid (okFrom p [] (T ++ N) = (wordB x && !inS ((T ++ N).take j) x && (p || !patB x) && okFrom p ((T ++ N).take (j + 1)) ((T ++ N).drop (j + 1)))) := by
                    rw [Hid, HO.out, drop_get HX.out, okFrom_cons, take_succ_get HX.out]
                  have hjc : j < c7 := by omega
                  have hjc' : ((j : Nat) : Int) ≤ (c7 : Int) := by omega
                  have hxl : x.length ≤ 600 := HAll.out x (List.mem_of_getElem? HX.out)
                  have HWd := Lib.hid (fun v (hv : Ext w7 v) => word_c x (by omega) (M7.out.ext hv))
                  have HIn := Lib.hid (fun v (hv : Ext w7 v) => Contains_c (c := c7) ((R7.out.take (Nat.le_of_lt hlt)).ext hv) (by omega) x)
                  have HPt := Lib.hid (fun v => pattern_c x v)
                  clear hx HO
                  generalize wordB x = b1 at HWd HO2
                  generalize inS ((T ++ N).take j) x = b2 at HIn HO2
                  generalize patB x = b3 at HPt HO2
                  cases b1 with
                  | false =>
                    go_wp2_with fail
                    refine (HWd.out _ ξ.h).mono ?_
                    rintro e9 u ⟨rfl, hu⟩
                    have U := Lib.hid (ξ.h.then_ext hu)
                    clear hu
                    have HF5 : Hid (headF m s = (m, 3)) := HF4.out.trans (if_neg (by rw [HOK.out, HO2.out]; simp))
                    go_wp2_with fail
                    go_ret
                    exact ⟨v, rs, by rw [HF5.out]; rfl, by rw [HF5.out]; exact P7.out.ext U.out⟩
                  | true =>
                    go_wp2_with fail
                    refine (HWd.out _ ξ.h).mono ?_
                    rintro e9 u ⟨rfl, hu⟩
                    have U := Lib.hid (ξ.h.then_ext hu)
                    clear hu HWd
                    go_wp2_with fail
                    refine (HIn.out _ U.out).mono ?_
                    rintro e9 u2 ⟨rfl, hu⟩
                    have U2 := Lib.hid (U.out.then_ext hu)
                    clear hu HIn U
                    cases b2 with
                    | true =>
                      have HF5 : Hid (headF m s = (m, 3)) := HF4.out.trans (if_neg (by rw [HOK.out, HO2.out]; simp))
                      go_wp2_with fail
                      go_ret
                      exact ⟨v, rs, by rw [HF5.out]; rfl, by rw [HF5.out]; exact P7.out.ext U2.out⟩
                    | false =>
                      cases p with
                      | true =>
                        go_wp2_with fail
                        go_roundw
                        case rel => exact ⟨j + 1, by omega, by go_num, by rw [HO2.out]; rfl, ⟨_, U2.out⟩, rfl⟩
                        case measure => simp [intOf]; omega
                      | false =>
                        go_wp2_with fail
                        refine (HPt.out _).mono ?_
                        rintro e9 u3 ⟨rfl, hu⟩
                        have U3 := Lib.hid (U2.out.then_ext hu)
                        clear hu HPt U2
                        cases b3 with
                        | true =>
                          have HF5 : Hid (headF m s = (m, 3)) := HF4.out.trans (if_neg (by rw [HOK.out, HO2.out]; simp))
                          go_wp2_with fail
                          go_ret
                          exact ⟨v, rs, by rw [HF5.out]; rfl, by rw [HF5.out]; exact P7.out.ext U3.out⟩
                        | false =>
                          go_wp2_with fail
                          go_roundw
                          case rel => exact ⟨j + 1, by omega, by go_num, by rw [HO2.out]; rfl, ⟨_, U3.out⟩, rfl⟩
                          case measure => simp [intOf]; omega
                · obtain rfl : j = T.length + N.length := by omega
                  have HO2 : Hid (okFrom p [] (T ++ N) = true) := by
                    rw [Hid, HO.out, List.drop_of_length_le (by rw [List.length_append]; exact Nat.le_refl _)]
                    rfl
                  have P9 := Lib.hid (P7.out.ext ξ.h)
                  have S9 := Lib.hid (S7.out.ext ξ.h)
                  have C9 := Lib.hid (C7.out.keep ξ.h id)
                  have d0 : ξ.v.cell? ⟨g9, 0, none⟩ = some (.slice tA T.length tc) := C9.out.cell 0
                  clear HO X8 P7 S7 C7
                  by_cases hpp : p = true ∧ 1 < T.length
                  · obtain ⟨rfl, h1⟩ := hpp
                    have g1 : decide ((1 : Int) < (T.length : Int)) = true := by rw [decide_eq_true_iff]; omega
                    have HF5 : Hid (headF m s = (m, 3)) := HF4.out.trans (if_neg (by rw [HOK.out, HO2.out, decide_eq_true h1]; simp))
                    go_wp2_with fail
                    go_ret
                    exact ⟨v, rs, by rw [HF5.out]; rfl, by rw [HF5.out]; exact P9.out⟩
                  · have hpp2 : p = false ∨ (p = true ∧ ¬ 1 < T.length) := by
                      cases p with
                      | false => exact .inl rfl
                      | true => exact .inr ⟨rfl, fun h => hpp ⟨rfl, h⟩⟩
                    have HF5 : Hid (headF m s = (⟨m.vars, m.rules ++ [⟨T, N, []⟩], m.phony⟩, 0)) := HF4.out.trans (if_pos (by
                      rw [HOK.out, HO2.out]
                      rcases hpp2 with e | ⟨e, h1⟩
                      · rw [e]; rfl
                      · rw [decide_eq_false h1]; simp))
                    obtain ⟨F, hF⟩ : ∃ F : Nat → Prop, F = fun b => (Value.slice v.rA rs.length v.rc).ownBlock = some b := ⟨_, rfl⟩
                    have hFg : ¬ F g9 := by
                      rw [hF]
                      exact fun e => HG9.out _ e rfl
                    have hFm : ¬ F g := by
                      rw [hF]
                      exact fun e => own_ne_cs P9.out.fr.own P9.out.rc (by decide) _ e rfl
                    obtain ⟨wd, hwd⟩ : ∃ u, u = ξ.v.drew := ⟨_, rfl⟩
                    have xd : Ext ξ.v wd := by rw [hwd]; exact (Only.refl No _).drew
                    have PD := Lib.hid (P9.out.ext xd)
                    have SD := Lib.hid (S9.out.ext xd)
                    have CD := Lib.hid (C9.out.keep xd id)
                    have hrl : rs.length ≤ 10 := by rw [P9.out.rl]; exact hr10
                    have HFq := Lib.hid hF
                    clear hF P9 S9 C9 xd HO2 HF4 HOK hpp HAll R7 M7
                    rcases hpp2 with rfl | ⟨rfl, h1⟩ <;>
                    · try have g1 : decide ((1 : Int) < (T.length : Int)) = false := by rw [decide_eq_false_iff_not]; omega
                      have D0 : ∀ η : X wd F, η.v.cell? ⟨g9, 0, none⟩ = some (.slice tA T.length tc) := CD.out.x hFg 0
                      have D1 : ∀ η : X wd F, η.v.cell? ⟨g9, 1, none⟩ = some (.slice nA N.length nc) := CD.out.x hFg 1
                      have D2 : ∀ η : X wd F, η.v.cell? ⟨g9, 2, none⟩ = some (.slice none 0 0) := CD.out.x hFg 2
                      have c1 : ∀ η : X wd F, η.v.cell? ⟨g, 1, none⟩ = some (.slice v.rA rs.length v.rc) := PD.out.rc.x hFm 1
                      go_upto_region 22 with fail
                      refine Mix.wp_draw [6, 7, 10] 10 (Cl wd F) (by kernel_rfl) (by kernel_rfl) (by rw [hwd]; exact Cl.of (Only.refl _ _)) ?_
                      rw [← hwd]
                      clear hwd
                      (repeat' (refine Mix.lex_quiet0 rfl rfl rfl ?_; intro K hK; go_big_quiet_op; go_big_quiet_on))
                      ((first | refine Mix.lex_goes0 rfl rfl ?_ | refine Mix.lex_goesG rfl rfl rfl (by with_reducible rfl) rfl ?_); intro K hK; go_simp)
                      have P6 := Lib.hid (PD.out.ext ((Only.refl No wd).alloc (.cells #[.slice tA T.length tc, .slice nA N.length nc, .slice none 0 0] ruleT)))
                      have S6 := Lib.hid (SD.out.ext ((Only.refl No wd).alloc (.cells #[.slice tA T.length tc, .slice nA N.length nc, .slice none 0 0] ruleT)))
                      refine hK _ _ (fun _ => Cl.of ((Only.refl _ wd).alloc _)) ?_
                      clear hK K
                      simp only [Act.put, List.setIfInBounds_toArray, List.set_cons_succ, List.set_cons_zero]
                      refine Mix.lex_goes0 rfl rfl ?_
                      intro K hK
                      refine goes_append (v := .slice v.rA rs.length v.rc) (n := rs.length) (xs := rs.flatMap rulF.enc) ru_ty rfl rfl rfl P6.out.fr.own (rd_one wd _ [.slice tA T.length tc, .slice nA N.length nc, .slice none 0 0]) (by simp [Value.oneCell']) (by omega) ?_
                      intro A9 c9 w9 hown9 hg9' hb9
                      have P8 := Lib.hid (P6.out.growR (a := ⟨tA, tc, nA, nc, none, 0⟩) (r := ⟨T, N, []⟩) S6.out hown9 hg9' hb9)
                      have O8 : Hid (Only F wd w9) := ((Only.refl F wd).alloc (.cells #[.slice tA T.length tc, .slice nA N.length nc, .slice none 0 0] ruleT)).grown hg9' fun g hg => .inr (by rw [HFq.out]; exact hg)
                      refine hK _ _ (fun _ => Cl.of O8.out) ?_
                      clear hK K
                      simp only [Act.put, List.setIfInBounds_toArray, List.set_cons_succ, List.set_cons_zero]
                      have C8 : Cs w9 g makeT #[.slice v.vA m.vars.length v.vc, .slice v.rA rs.length v.rc, .slice v.pA m.phony.length v.pc] := PD.out.rc.keep O8.out hFm
                      have y0 : w9.cell? ⟨g, 1, none⟩ = some (.slice v.rA rs.length v.rc) := C8.cell 1
                      have z0 := C8.frozen 1
                      clear C8 hown9 hg9' hb9 P6 S6
                      (repeat' (refine Mix.lex_quiet0 rfl rfl rfl ?_; intro K hK; go_big_quiet_op; go_big_quiet_on))
                      ((first | refine Mix.lex_goes0 rfl rfl ?_ | refine Mix.lex_goesG rfl rfl rfl (by with_reducible rfl) rfl ?_); intro K hK; go_simp)
                      refine hK _ _ (fun hne => absurd rfl hne) ?_
                      clear hK K y0 z0
                      simp only [Act.put, List.setIfInBounds_toArray, List.set_cons_succ, List.set_cons_zero]
                      refine Mix.lex_nil ?_
                      go_wp2_with fail
                      go_ret
                      exact ⟨_, _, by rw [HF5.out]; rfl, by rw [HF5.out]; exact P8.out⟩
  · have HF2 : Hid (headF m s = (m, e)) := HF.out.trans (if_pos he)
    rw [errV_pos he]
    go_wp2_with fail
    go_ret
    exact ⟨v, rs, by rw [HF2.out, errV_pos he]; rfl, by rw [HF2.out]; exact P1.out⟩
end Go.Proofs.YtnhaekifcieeoaaGreatDoor
