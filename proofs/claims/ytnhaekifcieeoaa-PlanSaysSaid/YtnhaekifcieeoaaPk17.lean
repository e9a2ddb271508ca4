/- Put together: Rex. -/
import Derived.Test.YtnhaekifcieeoaaPk10
import Derived.Test.YtnhaekifcieeoaaPk04
namespace Go.Proofs.Ytnhaekifcieeoaa
open Go Go.RowKit
theorem fndL_succ {k : Str} {xs : List File} {j : Nat} {f : File} (h : xs[j]? = some f) : fndL k (xs.take (j + 1)) = if f.1 = k then some f else fndL k (xs.take j) := by
  unfold fndL
  rw [take_succ_get h, List.reverse_append]
  show List.find? _ (f :: _) = _
  rw [List.find?_cons]
  by_cases hk : f.1 = k
  · rw [decide_eq_true hk, if_pos hk]
  · rw [decide_eq_false hk, if_neg hk]
    rfl
def fT (o : Option File) : Str := (o.map (·.2)).getD []
theorem cutB_from (s : Str) (c : UInt8) (f : Nat) : (cutB c (s.drop f) = (s.drop f, [], false) ∧ fndI s [c] f = -1) ∨ ∃ i : Nat, fndI s [c] f = ((f + i : Nat) : Int) ∧ i + 1 ≤ (s.drop f).length ∧ cutB c (s.drop f) = ((s.drop f).take i, (s.drop f).drop (i + 1), true) := by
  have := fndI_from s [c] f
  rw [cut_byte] at this
  exact this
set_option maxRecDepth 100000 in
set_option maxHeartbeats 4000000 in
theorem RExp_c {w : World} {A : Option Addr} {n c : Nat} {xs : List File} (h : SlR fileF w A n xs) (hn : n ≤ 100000) (hx : ∀ f ∈ xs, f.2.length ≤ 100000) : ∀ (d : Nat), d ≤ 6 → ∀ (s : Str), s.length ≤ 100000 → ∀ v, Ext w v →
    Calls Try.prog 8 #[.slice A n c, S s, .int .i64 (6 - d : Int)] v fun e w' => e = .returned (.tuple #[S (exp xs d s).1, .int .i64 (exp xs d s).2]) ∧ Ext v w' := by
  have H := Lib.hid h
  have HX := Lib.hid hx
  have hxl := h.1
  clear h hx
  intro d
  induction d with
  | zero =>
    intro _ s hs v hv
    show Calls Try.prog 8 #[.slice A n c, S s, .int .i64 6] v fun e w' => e = .returned (.tuple #[S [], .int .i64 9]) ∧ Ext v w'
    go_enter Try.func8, Try.ntmps8
    go_wp2_with fail
    go_ret2
    exact ⟨rfl, Only.refl _ _⟩
  | succ d ih =>
    intro hd s hs v hv
    have HI := Lib.hid (ih (by omega))
    clear ih
    have hk : ((6 : Int) - ((d + 1 : Nat) : Int)) = ((5 - d : Nat) : Int) := by omega
    obtain ⟨k, hkk⟩ : ∃ k, k = 5 - d := ⟨_, rfl⟩
    have hk5 : k ≤ 5 := by omega
    have hk1 : ((6 : Int) - (d : Int)) = ((k + 1 : Nat) : Int) := by omega
    rw [hk, ← hkk]
    have HI2 : Hid (∀ (t : Str), t.length ≤ 100000 → ∀ v, Ext w v → Calls Try.prog 8 #[.slice A n c, S t, .int .i64 ((k : Int) + 1)] v fun e w' => e = .returned (.tuple #[S (exp xs d t).1, .int .i64 (exp xs d t).2]) ∧ Ext v w') := fun t ht v hv => by
      have := HI.out t ht v hv
      rw [hk1] at this
      exact this
    have HE : Hid (exp xs (d + 1) s = expL xs (exp xs d) (s.length + 1) s []) := rfl
    have HBd := Lib.hid (exp_bound xs d)
    have HNn := Lib.hid (exp_nonneg xs d)
    generalize exp xs (d + 1) s = R at HE ⊢
    generalize exp xs d = rec at HI2 HE HBd HNn
    obtain ⟨F0, hF0⟩ : ∃ f, f = s.length + 1 := ⟨_, rfl⟩
    have hsF : s.length < F0 := by omega
    rw [← hF0] at HE
    have g5 : decide ((5 : Int) < (k : Int)) = false := by rw [decide_eq_false_iff_not]; omega
    clear HI hk hkk hk1 hF0
    go_enter Try.func8, Try.ntmps8
    go_wp2_with fail
    go_loopw [8, 9] (fun ov pv wr => ∃ (f p : Nat) (out : Str), ov = S out ∧ pv = .int .i64 p ∧ p ≤ s.length ∧ s.length - p < f ∧ out.length ≤ 600 ∧ R = expL xs rec f (s.drop p) out ∧ ∃ ξ : X v No, wr = ξ.v) (fun _ pv _ => s.length - (intOf pv).toNat)
    case atStart => exact ⟨F0, 0, [], rfl, rfl, Nat.zero_le _, by omega, Nat.zero_le _, HE.out, X.here _ _, rfl⟩
    case round =>
      obtain ⟨f, p, out, rfl, rfl, hps, hpf, hout, hR, ξ, rfl⟩ := hrel
      obtain ⟨g, rfl⟩ : ∃ g, f = g + 1 := ⟨f - 1, by omega⟩
      have hdl : (s.drop p).length = s.length - p := List.length_drop
      have HR : Hid (R = if (Lib.cut (s.drop p) dlr).2.2 = false then (if 600 < (out ++ (Lib.cut (s.drop p) dlr).1).length then ([], 2) else (out ++ (Lib.cut (s.drop p) dlr).1, 0))
        else if (cutB 41 (Lib.cut (s.drop p) dlr).2.1).2.2 = false ∨ varB (cutB 41 (Lib.cut (s.drop p) dlr).2.1).1 = false then ([], 4)
        else match fndL (cutB 41 (Lib.cut (s.drop p) dlr).2.1).1 xs with
          | none => ([], 5)
          | some v => if (rec v.2).2 ≠ 0 then ([], (rec v.2).2) else if 600 < (out ++ (Lib.cut (s.drop p) dlr).1 ++ (rec v.2).1).length then ([], 2) else expL xs rec g (cutB 41 (Lib.cut (s.drop p) dlr).2.1).2.1 (out ++ (Lib.cut (s.drop p) dlr).1 ++ (rec v.2).1)) := hR
      clear hR HE
      have HC := Lib.hid (rfind2_c s (by omega) 36 40 p hps ξ.v)
      rcases fndI_from s dlr p with ⟨h1, h2⟩ | ⟨i, h1, h2, h3⟩
      · rw [h2] at HC
        rw [h1] at HR
        dsimp only at HR
        obtain ⟨t, ht⟩ : ∃ t, s.drop p = t := ⟨_, rfl⟩
        rw [ht] at HR hdl
        clear h1 h2
        by_cases hl : 600 < (out ++ t).length
        · have HR2 : Hid (R = ([], 2)) := by rw [Hid, HR.out, if_pos rfl, if_pos hl]
          rw [List.length_append] at hl
          have g6 : decide ((600 : Int) < (out.length : Int) + (t.length : Int)) = true := by rw [decide_eq_true_iff]; omega
          clear HR
          go_wp2_with fail
          refine (HC.out).mono ?_; rintro e uu ⟨rfl, hu⟩; obtain ⟨ξ1, hnew⟩ : ∃ ξ : X v No, ξ.v = uu := ⟨⟨uu, ξ.h.then_ext hu⟩, rfl⟩; subst hnew; have Hξ1 := Lib.hid hu; clear hu
          go_wp2_with fail
          go_ret2
          rw [HR2.out]
          exact ⟨rfl, ξ1.h⟩
        · have HR2 : Hid (R = (out ++ t, 0)) := by rw [Hid, HR.out, if_pos rfl, if_neg hl]
          rw [List.length_append] at hl
          have g6 : decide ((600 : Int) < (out.length : Int) + (t.length : Int)) = false := by rw [decide_eq_false_iff_not]; omega
          clear HR
          go_wp2_with fail
          refine (HC.out).mono ?_; rintro e uu ⟨rfl, hu⟩; obtain ⟨ξ1, hnew⟩ : ∃ ξ : X v No, ξ.v = uu := ⟨⟨uu, ξ.h.then_ext hu⟩, rfl⟩; subst hnew; have Hξ1 := Lib.hid hu; clear hu
          go_wp2_with fail
          go_ret2
          rw [HR2.out]
          exact ⟨rfl, ξ1.h⟩
      · rw [h3] at HR
        dsimp only at HR
        rw [h1] at HC
        obtain ⟨I, hI⟩ : ∃ I, I = p + i := ⟨_, rfl⟩
        rw [← hI] at HC
        have hb : (s.drop p).drop (i + dlr.length) = s.drop (I + 2) := by rw [List.drop_drop, hI]; rfl
        have ha : (s.take I).drop p = (s.drop p).take i := by
          rw [List.drop_take, hI, show p + i - p = i by omega]
        rw [hb] at HR
        have hI2 : I + 2 ≤ s.length := by
          have : dlr.length = 2 := rfl
          omega
        obtain ⟨a, haa⟩ : ∃ a, a = (s.drop p).take i := ⟨_, rfl⟩
        rw [← haa] at HR ha
        have hal : a.length ≤ s.length := by rw [haa, List.length_take]; omega
        have hd2 : (s.drop (I + 2)).length = s.length - (I + 2) := List.length_drop
        have HR1 : Hid (R = if (cutB 41 (s.drop (I + 2))).2.2 = false ∨ varB (cutB 41 (s.drop (I + 2))).1 = false then ([], 4)
          else match fndL (cutB 41 (s.drop (I + 2))).1 xs with
            | none => ([], 5)
            | some v => if (rec v.2).2 ≠ 0 then ([], (rec v.2).2) else if 600 < (out ++ a ++ (rec v.2).1).length then ([], 2) else expL xs rec g (cutB 41 (s.drop (I + 2))).2.1 (out ++ a ++ (rec v.2).1)) := HR.out.trans (if_neg (by decide))
        have HC2 := Lib.hid (fun v => rfind1_c s (by omega) 41 (I + 2) hI2 v)
        have hpI : p ≤ I := by omega
        clear h1 h2 h3 hI hb haa HR
        go_wp2_with fail
        refine (HC.out).mono ?_; rintro e uu ⟨rfl, hu⟩; obtain ⟨ξ1, hnew⟩ : ∃ ξ : X v No, ξ.v = uu := ⟨⟨uu, ξ.h.then_ext hu⟩, rfl⟩; subst hnew; have Hξ1 := Lib.hid hu; clear hu
        clear HC
        rcases cutB_from s 41 (I + 2) with ⟨h1, h2⟩ | ⟨j, h1, h2, h3⟩
        · rw [h2] at HC2
          have HR2 : Hid (R = ([], 4)) := by rw [Hid, HR1.out, h1]; exact if_pos (.inl rfl)
          clear HR1 h1 h2
          go_wp2_with fail
          refine (HC2.out _).mono ?_; rintro e uu ⟨rfl, hu⟩; obtain ⟨ξ2, hnew⟩ : ∃ ξ : X v No, ξ.v = uu := ⟨⟨uu, ξ1.h.then_ext hu⟩, rfl⟩; subst hnew; have Hξ2 := Lib.hid hu; clear hu
          go_wp2_with fail
          go_ret2
          rw [HR2.out]
          exact ⟨rfl, ξ2.h⟩
        · rw [h1] at HC2
          obtain ⟨N, hN⟩ : ∃ N, N = I + 2 + j := ⟨_, rfl⟩
          rw [← hN] at HC2
          have hnm : (s.take N).drop (I + 2) = (s.drop (I + 2)).take j := by
            rw [List.drop_take, hN, show I + 2 + j - (I + 2) = j by omega]
          have hrest : (s.drop (I + 2)).drop (j + 1) = s.drop (N + 1) := by rw [List.drop_drop, hN]; rfl
          rw [h3, hrest] at HR1
          dsimp only at HR1
          have hN1 : N + 1 ≤ s.length := by omega
          have hNI : I + 2 ≤ N := by omega
          obtain ⟨nm, hnn0⟩ : ∃ nm, nm = (s.drop (I + 2)).take j := ⟨_, rfl⟩
          rw [← hnn0] at hnm HR1
          have hnml : nm.length ≤ s.length := by rw [hnn0, List.length_take]; omega
          have HV := Lib.hid (fun v => RVar_c nm (by omega) v)
          clear h1 h2 h3 hN hrest hnn0
          go_wp2_with fail
          refine (HC2.out _).mono ?_; rintro e uu ⟨rfl, hu⟩; obtain ⟨ξ2, hnew⟩ : ∃ ξ : X v No, ξ.v = uu := ⟨⟨uu, ξ1.h.then_ext hu⟩, rfl⟩; subst hnew; have Hξ2 := Lib.hid hu; clear hu
          clear HC2
          obtain ⟨vb, hvb⟩ : ∃ b, b = varB nm := ⟨_, rfl⟩
          rw [← hvb] at HV HR1
          clear hvb
          cases vb with
          | false =>
            have HR2 : Hid (R = ([], 4)) := by rw [Hid, HR1.out]; exact if_pos (.inr rfl)
            clear HR1
            go_wp2_with fail
            refine (HV.out _).mono ?_; rintro e uu ⟨rfl, hu⟩; obtain ⟨ξ3, hnew⟩ : ∃ ξ : X v No, ξ.v = uu := ⟨⟨uu, ξ2.h.then_ext hu⟩, rfl⟩; subst hnew; have Hξ3 := Lib.hid hu; clear hu
            go_wp2_with fail
            go_ret2
            rw [HR2.out]
            exact ⟨rfl, ξ3.h⟩
          | true =>
            have HR2 : Hid (R = match fndL nm xs with
              | none => ([], 5)
              | some v => if (rec v.2).2 ≠ 0 then ([], (rec v.2).2) else if 600 < (out ++ a ++ (rec v.2).1).length then ([], 2) else expL xs rec g (s.drop (N + 1)) (out ++ a ++ (rec v.2).1)) := HR1.out.trans (if_neg (by simp))
            clear HR1
            go_wp2_with fail
            refine (HV.out _).mono ?_; rintro e uu ⟨rfl, hu⟩; obtain ⟨ξ3, hnew⟩ : ∃ ξ : X v No, ξ.v = uu := ⟨⟨uu, ξ2.h.then_ext hu⟩, rfl⟩; subst hnew; have Hξ3 := Lib.hid hu; clear hu
            clear HV
            go_wp2_with fail
            go_loopw [14, 15, 16] (fun tv bv kv wr => ∃ q : Nat, q ≤ n ∧ kv = .int .i64 q ∧ tv = S (fT (fndL nm (xs.take q))) ∧ bv = .bool (fndL nm (xs.take q)).isSome ∧ ∃ ξ : X v No, wr = ξ.v) (fun _ _ kv _ => n - (intOf kv).toNat)
            case atStart => exact ⟨0, Nat.zero_le _, rfl, rfl, rfl, ξ3, rfl⟩
            case round =>
              obtain ⟨q, hq, rfl, rfl, rfl, ξ4, rfl⟩ := hrel
              by_cases hqn : q < n
              · have HS := Lib.hid (H.out.ext hv)
                obtain ⟨b, o, f, rfl, hfx, cx0, cx1⟩ := files_get HS.out hqn
                have HFx := Lib.hid (fndL_succ (k := nm) hfx)
                clear hfx
                generalize fndL nm (xs.take q) = fo at HFx
                by_cases hfn : f.1 = nm
                · have e1 : (f.1 == nm) = true := by simpa using hfn
                  have HF2 := Lib.hid (HFx.out.trans (if_pos hfn))
                  clear HFx hfn
                  go_wp2_with fail
                  go_roundw
                  case rel => exact ⟨q + 1, by omega, by go_num, by rw [HF2.out]; rfl, by rw [HF2.out]; rfl, ξ4, rfl⟩
                  case measure => simp [intOf]; omega
                · have e1 : (f.1 == nm) = false := by simpa using hfn
                  have HF2 := Lib.hid (HFx.out.trans (if_neg hfn))
                  clear HFx hfn
                  go_wp2_with fail
                  go_roundw
                  case rel => exact ⟨q + 1, by omega, by go_num, by rw [HF2.out], by rw [HF2.out], ξ4, rfl⟩
                  case measure => simp [intOf]; omega
              · have eq1 : xs.take q = xs := List.take_of_length_le (by omega)
                rw [eq1]
                clear eq1
                cases hfn : fndL nm xs with
                | none =>
                  rw [hfn] at HR2
                  have HR3 : Hid (R = ([], 5)) := HR2.out
                  clear HR2 hfn
                  go_wp2_with fail
                  go_ret2
                  rw [HR3.out]
                  exact ⟨rfl, ξ4.h⟩
                | some z =>
                  rw [hfn] at HR2
                  have hzl := HX.out z (fnd_mem hfn)
                  have HR3 : Hid (R = if (rec z.2).2 ≠ 0 then ([], (rec z.2).2) else if 600 < (out ++ a ++ (rec z.2).1).length then ([], 2) else expL xs rec g (s.drop (N + 1)) (out ++ a ++ (rec z.2).1)) := HR2.out
                  have HD := Lib.hid (HI2.out z.2 hzl)
                  have hbd := HBd.out z.2
                  have hnn := HNn.out z.2
                  generalize rec z.2 = r at HR3 HD hbd hnn
                  obtain ⟨rt, rf⟩ := r
                  dsimp only at HR3 HD hbd hnn
                  clear HR2 hfn
                  rw [show fT (some z) = z.2 from rfl]
                  go_wp2_with fail
                  refine (HD.out _ (hv.then_ext ξ4.h)).mono ?_; rintro e uu ⟨rfl, hu⟩; obtain ⟨ξ5, hnew⟩ : ∃ ξ : X v No, ξ.v = uu := ⟨⟨uu, ξ4.h.then_ext hu⟩, rfl⟩; subst hnew; have Hξ5 := Lib.hid hu; clear hu
                  clear HD
                  by_cases hrf : rf = 0
                  · have HR4 : Hid (R = if 600 < (out ++ a ++ rt).length then ([], 2) else expL xs rec g (s.drop (N + 1)) (out ++ a ++ rt)) := by rw [Hid, HR3.out, if_neg (by simpa using hrf)]
                    subst hrf
                    clear HR3
                    by_cases hl : 600 < (out ++ a ++ rt).length
                    · have HR5 : Hid (R = ([], 2)) := by rw [Hid, HR4.out, if_pos hl]
                      rw [List.length_append, List.length_append] at hl
                      clear HR4
                      go_wp2_with fail
                      go_ret2
                      rw [HR5.out]
                      exact ⟨rfl, ξ5.h⟩
                    · have HR5 : Hid (R = expL xs rec g (s.drop (N + 1)) (out ++ a ++ rt)) := by rw [Hid, HR4.out, if_neg hl]
                      rw [List.length_append, List.length_append] at hl
                      clear HR4
                      go_wp2_with fail
                      go_roundw
                      case rel => exact ⟨g, N + 1, out ++ a ++ rt, by simp, by go_num, by omega, by omega, by simp only [List.length_append]; omega, HR5.out, ξ5, rfl⟩
                      case measure => simp [intOf]; omega
                  · have HR4 : Hid (R = ([], rf)) := by rw [Hid, HR3.out, if_pos (by simpa using hrf)]
                    have g7 : decide ((0 : Int) < rf) = true := by rw [decide_eq_true_iff]; omega
                    clear HR3
                    go_wp2_with fail
                    go_ret2
                    rw [HR4.out]
                    exact ⟨rfl, ξ5.h⟩
end Go.Proofs.Ytnhaekifcieeoaa
