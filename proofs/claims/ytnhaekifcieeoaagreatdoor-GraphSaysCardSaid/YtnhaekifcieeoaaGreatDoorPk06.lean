/- Put together: MkR, MkN, MkK. -/
import Derived.Test.YtnhaekifcieeoaaGreatDoorPk05
import Derived.Test.YtnhaekifcieeoaaGreatDoorPk03
import Derived.Test.YtnhaekifcieeoaaGreatDoorPk02
namespace Go.Proofs.YtnhaekifcieeoaaGreatDoor
open Go Go.RowKit
@[go_sem] theorem rule_build (A B : Option Addr) (n c m d : Nat) (w : World) : (Instr.build ruleT #[(0, .slice A n c), (1, .slice B m d)]).run Tryz.prog w = .ok (.agg #[.slice A n c, .slice B m d, .slice none 0 0]) w := run_build w ruleT _ _ (by kernel_rfl)
set_option maxRecDepth 100000 in
set_option maxHeartbeats 4000000 in
theorem Header_c {Q : List SRow} {w wr : World} {g : Nat} {v : MkV} {rs : List (RulA × Rul)} {m : Mk} {k : Nat} (hm : Ml w) (h : MAt Q w wr g v rs m) (hf : m.Fit k) (s : Str) (hs : s.length ≤ 600) :
    Calls Tryz.prog 69 #[ptr g, S s] wr (MkRes Q w g (headF m s)) := by
  have P := Lib.hid h
  have HM := Lib.hid hm
  have HT := Lib.hid (h.text hm hf.v hf.vt s hs)
  have HB := Lib.hid (exp_bound m.vars 6 s)
  have hr10 : m.rules.length ≤ 10 := hf.r
  have HF : Hid (headF m s = if (exp m.vars 6 s).2 ≠ 0 then (m, (exp m.vars 6 s).2)
      else if (cutB 58 (exp m.vars 6 s).1).2.2 = false ∨ fieldsF (cutB 58 (exp m.vars 6 s).1).1 = [] then (m, 4)
      else if 2 < (fieldsF (cutB 58 (exp m.vars 6 s).1).1).length ∨ 3 < (fieldsF (cutB 58 (exp m.vars 6 s).1).2.1).length ∨ m.rules.length = 10 then (m, 2)
      else if allOk (fieldsF (cutB 58 (exp m.vars 6 s).1).1) (fieldsF (cutB 58 (exp m.vars 6 s).1).2.1) = true then (⟨m.vars, m.rules ++ [⟨fieldsF (cutB 58 (exp m.vars 6 s).1).1, fieldsF (cutB 58 (exp m.vars 6 s).1).2.1, []⟩], m.phony⟩, 0)
      else (m, 3)) := rfl
  have c0 : wr.cell? ⟨g, 0, none⟩ = some (.slice v.vA m.vars.length v.vc) := h.rc.cell 0
  clear h hf hm
  generalize exp m.vars 6 s = ex at HF HT HB
  obtain ⟨t, e⟩ := ex
  dsimp only at HF HT HB
  have htl := HB.out
  go_enter Tryz.func69, Tryz.ntmps69
  go_wp2_with fail
  refine HT.out.mono ?_
  rintro e' w1 ⟨rfl, hx⟩
  have P1 := Lib.hid (P.out.ext hx)
  clear hx P HT c0
  by_cases he : e = 0
  · subst he
    rw [errV_zero]
    have HC := Lib.hid (BCut_c t 58 (by omega) (HM.out.ext P1.out.x))
    have HCl := Lib.hid (cutB_len 58 t)
    have HF2 := Lib.hid (HF.out.trans (if_neg (fun h => h rfl)))
    clear HF
    generalize cutB 58 t = q at HC HF2 HCl
    obtain ⟨ta, tb, is⟩ := q
    dsimp only at HC HF2 HCl
    have hal : ta.length ≤ 600 := by have := HCl.out; omega
    have hbl : tb.length ≤ 600 := by have := HCl.out; omega
    have HW1 := Lib.hid (fun v => words_c ta (by omega) v)
    have HW2 := Lib.hid (fun v => words_c tb (by omega) v)
    have HL1 := Lib.hid (fun l (hl : l ∈ fieldsF ta) => fieldsF_mem hl)
    have HL2 := Lib.hid (fun l (hl : l ∈ fieldsF tb) => fieldsF_mem hl)
    have hn1 := fieldsF_le ta
    have hn2 := fieldsF_le tb
    generalize fieldsF ta = T at HW1 HF2 HL1 hn1
    generalize fieldsF tb = N at HW2 HF2 HL2 hn2
    go_wp2_with fail
    refine HC.out.mono ?_
    rintro e' w2 ⟨rfl, hx⟩
    have P2 := Lib.hid (P1.out.ext hx)
    clear hx P1 HC
    go_wp2_with fail
    refine (HW1.out _).mono ?_
    rintro e' w3 ⟨tA, tc, rfl, hT⟩
    have P3 := Lib.hid (P2.out.ext hT.ext)
    have S3 := Lib.hid (P2.out.ss.add P2.out.x (x := ⟨tA, tc, T⟩) hT)
    have T3 := Lib.hid hT
    clear hT HW1 P2
    go_wp2_with fail
    refine (HW2.out _).mono ?_
    rintro e' w4 ⟨nA, nc, rfl, hN⟩
    have P4 := Lib.hid (P3.out.ext hN.ext)
    have S4 := Lib.hid (S3.out.add P3.out.x (x := ⟨nA, nc, N⟩) hN)
    have T4 := Lib.hid (T3.out.on hN.ext)
    have N4 := Lib.hid hN
    clear hN HW2 P3 S3 T3
    obtain ⟨g9, hg9⟩ : ∃ g, g = w4.heap.size := ⟨_, rfl⟩
    obtain ⟨w5, hw5⟩ : ∃ u, u = w4.alloc (.cells #[.slice tA T.length tc, .slice nA N.length nc, .slice none 0 0] ruleT) := ⟨_, rfl⟩
    have x5 : Ext w4 w5 := by rw [hw5]; exact (Only.refl No w4).alloc _
    have C5 : Hid (Cs w5 g9 ruleT #[.slice tA T.length tc, .slice nA N.length nc, .slice none 0 0]) := by rw [hw5, hg9]; exact Cs.new _ _ _
    have P5 := Lib.hid (P4.out.ext x5)
    have S5 : Hid (SRows w w5 (Q ++ ⟨v.pA, v.pc, m.phony⟩ :: (rs ++ [((⟨tA, tc, nA, nc, none, 0⟩ : RulA), (⟨T, N, []⟩ : Rul))]).flatMap rowsOf)) := by
      have := S4.out.add P4.out.x (x := ⟨none, 0, []⟩) (Fresh.nil strF 9 w4 w5 x5)
      have e : Q ++ (⟨v.pA, v.pc, m.phony⟩ : SRow) :: (rs ++ [((⟨tA, tc, nA, nc, none, 0⟩ : RulA), (⟨T, N, []⟩ : Rul))]).flatMap rowsOf = Q ++ (⟨v.pA, v.pc, m.phony⟩ : SRow) :: rs.flatMap rowsOf ++ [⟨tA, tc, T⟩] ++ [⟨nA, nc, N⟩] ++ [⟨none, 0, []⟩] := by
        simp [List.flatMap_append]
      rw [Hid, e]
      exact this
    have T5 := Lib.hid ((T4.out.on x5).row (by decide))
    have N5 := Lib.hid ((N4.out.on x5).row (by decide))
    have HG9 : Hid (∀ b, (Value.slice v.rA rs.length v.rc).ownBlock = some b → b ≠ g9) := fun b hb e => by
      obtain ⟨_, hc⟩ := own_cs P4.out.fr.own hb
      have := hc.lt
      omega
    clear x5 P4 S4 T4 N4
    go_upto_region 6 with fail
    rw [← hw5, ← hg9]
    clear hw5 hg9
    have d0 : w5.cell? ⟨g9, 0, none⟩ = some (.slice tA T.length tc) := C5.out.cell 0
    have d1 : w5.cell? ⟨g9, 1, none⟩ = some (.slice nA N.length nc) := C5.out.cell 1
    have c1 : w5.cell? ⟨g, 1, none⟩ = some (.slice v.rA m.rules.length v.rc) := by rw [← P5.out.rl]; exact P5.out.rc.cell 1
    cases is with
    | false =>
      have HF3 : Hid (headF m s = (m, 4)) := HF2.out.trans (if_pos (.inl rfl))
      go_wp2_with fail
      go_ret
      exact ⟨v, rs, by rw [HF3.out]; rfl, by rw [HF3.out]; exact P5.out⟩
    | true =>
      by_cases h0 : T.length = 0
      · have g0 : decide ((T.length : Int) = 0) = true := by rw [decide_eq_true_iff]; omega
        have HF3 : Hid (headF m s = (m, 4)) := HF2.out.trans (if_pos (.inr (List.eq_nil_of_length_eq_zero h0)))
        go_wp2_with fail
        go_ret
        exact ⟨v, rs, by rw [HF3.out]; rfl, by rw [HF3.out]; exact P5.out⟩
      · have g0 : decide ((T.length : Int) = 0) = false := by rw [decide_eq_false_iff_not]; omega
        have HF3 := Lib.hid (HF2.out.trans (if_neg (by rintro (h | h); exact absurd h (by decide); exact h0 (by rw [h]; rfl))))
        clear HF2
        have HFm : Hid ((2 < T.length ∨ 3 < N.length ∨ m.rules.length = 10) → headF m s = (m, 2)) := fun h => HF3.out.trans (if_pos h)
        by_cases h2 : 2 < T.length
        · have g2 : decide ((2 : Int) < (T.length : Int)) = true := by rw [decide_eq_true_iff]; omega
          have HF4 := Lib.hid (HFm.out (.inl h2))
          go_wp2_with fail
          go_ret
          exact ⟨v, rs, by rw [HF4.out]; rfl, by rw [HF4.out]; exact P5.out⟩
        · have g2 : decide ((2 : Int) < (T.length : Int)) = false := by rw [decide_eq_false_iff_not]; omega
          by_cases h3 : 3 < N.length
          · have g3 : decide ((3 : Int) < (N.length : Int)) = true := by rw [decide_eq_true_iff]; omega
            have HF4 := Lib.hid (HFm.out (.inr (.inl h3)))
            go_wp2_with fail
            go_ret
            exact ⟨v, rs, by rw [HF4.out]; rfl, by rw [HF4.out]; exact P5.out⟩
          · have g3 : decide ((3 : Int) < (N.length : Int)) = false := by rw [decide_eq_false_iff_not]; omega
            by_cases h4 : m.rules.length = 10
            · have g4 : decide ((m.rules.length : Int) = 10) = true := by rw [decide_eq_true_iff]; omega
              have HF4 := Lib.hid (HFm.out (.inr (.inr h4)))
              go_wp2_with fail
              go_ret
              exact ⟨v, rs, by rw [HF4.out]; rfl, by rw [HF4.out]; exact P5.out⟩
            · have g4 : decide ((m.rules.length : Int) = 10) = false := by rw [decide_eq_false_iff_not]; omega
              have HF4 := Lib.hid (HF3.out.trans (if_neg (by omega)))
              clear HF3 HFm
              have D0 : ∀ ξ : X w5 No, ξ.v.cell? ⟨g9, 0, none⟩ = some (.slice tA T.length tc) := C5.out.x id 0
              have D1 : ∀ ξ : X w5 No, ξ.v.cell? ⟨g9, 1, none⟩ = some (.slice nA N.length nc) := C5.out.x id 1
              go_upto_region 10 with fail
              refine Mix.wp_draw [2, 5] 100 (Cl w5 No) (by kernel_rfl) (by kernel_rfl) (Cl.drew_ (X.here w5 No)) ?_
              (repeat' (refine Mix.lex_quiet0 rfl rfl rfl ?_; intro K hK; go_big_quiet_op; go_big_quiet_on))
              have hA : tA = none → T.length = 0 := fun e => by
                obtain ⟨b, o, e2, _⟩ := T5.out.2 (by omega)
                rw [e] at e2
                cases e2
              have TD := Lib.hid (T5.out.ext ((Only.refl No w5).drew))
              ((first | refine Mix.lex_goes0 rfl rfl ?_ | refine Mix.lex_goesG rfl rfl rfl (by with_reducible rfl) rfl ?_); intro K hK; go_simp)
              refine (CloneStrs_f (c := tc) TD.out hA (by omega)).mono ?_
              rintro e6 w6 ⟨A6, c6, rfl, hF6⟩
              have F6 := Lib.hid (hF6.from (Only.refl No w5).drew)
              refine ⟨_, rfl, hK _ _ (fun _ => Cl.of F6.out.ext) ?_⟩
              clear hK K hF6 TD hA
              simp only [Act.put, List.setIfInBounds_toArray, List.set_cons_succ, List.set_cons_zero]
              (repeat' (refine Mix.lex_quiet0 rfl rfl rfl ?_; intro K hK; go_big_quiet_op; go_big_quiet_on))
              have N6 := Lib.hid (N5.out.ext F6.out.ext)
              refine Mix.lex_goes0 rfl rfl ?_
              intro K hK
              refine goes_append (v := .slice A6 T.length c6) (n := T.length) (xs := T.flatMap strF.enc) st_ty rfl rfl rfl F6.out.own (N6.out.rd (by decide)) (str_enc1 N) (by omega) ?_
              intro A7 c7 w7 hown7 hg7 hb7
              have F7 := Lib.hid (F6.out.grow (ys := N) rfl hown7 hg7 hb7)
              refine hK _ _ (fun _ => Cl.of F7.out.ext) ?_
              clear hK K hown7 hg7 hb7 F6 N6 D0 D1 d0 d1 c1
              simp only [Act.put, List.setIfInBounds_toArray, List.set_cons_succ, List.set_cons_zero]
              (repeat' (refine Mix.lex_quiet0 rfl rfl rfl ?_; intro K hK; go_big_quiet_op; go_big_quiet_on))
              refine Mix.lex_nil ?_
              have P7 := Lib.hid (P5.out.ext F7.out.ext)
              have S7 := Lib.hid (S5.out.ext F7.out.ext)
              have C7 := Lib.hid (C5.out.keep F7.out.ext id)
              have T7 := Lib.hid (T5.out.ext F7.out.ext)
              have R7 : Hid (SlR strF w7 A7 (T.length + N.length) (T ++ N)) := by
                have := F7.out.row (by decide)
                rw [List.length_append] at this
                exact this
              have hc7 : T.length + N.length ≤ c7 := by
                have q := F7.out.own
                rw [List.length_append] at q
                obtain ⟨_, _, _, _, _, _, q, _⟩ := own_block q (by omega) (by decide)
                exact q
              have hAll : ∀ x ∈ T ++ N, x.length ≤ 600 := fun x hx => by
                rcases List.mem_append.1 hx with hx | hx
                · exact Nat.le_trans (HL1.out x hx) hal
                · exact Nat.le_trans (HL2.out x hx) hbl
              have HAll := Lib.hid hAll
              have M7 := Lib.hid (HM.out.ext P7.out.x)
              have HAp := Lib.hid (AnyP_c (c := tc) T7.out (by omega))
              have d0 : w7.cell? ⟨g9, 0, none⟩ = some (.slice tA T.length tc) := C7.out.cell 0
              clear F7 P5 S5 C5 T5 N5 hAll HL1 HL2
              have HOK : Hid (allOk T N = (okFrom (T.any patB) [] (T ++ N) && !(T.any patB && decide (1 < T.length)))) := rfl
              generalize T.any patB = p at HAp HOK
              go_wp2_with fail
              refine HAp.out.mono ?_
              rintro e8 w8 ⟨rfl, hx⟩
              have X8 := Lib.hid hx
              clear hx HAp d0
              go_wp2_with fail
              go_loopw [76] (fun i wr => ∃ j : Nat, j ≤ T.length + N.length ∧ i = .int .i64 j ∧ okFrom p [] (T ++ N) = okFrom p ((T ++ N).take j) ((T ++ N).drop j) ∧ ∃ ξ : X w7 No, wr = ξ.v) (fun i _ => T.length + N.length - (intOf i).toNat)
              case atStart => exact ⟨0, Nat.zero_le _, rfl, rfl, ⟨w8, X8.out⟩, rfl⟩
              case round =>
                obtain ⟨j, hj, rfl, hO, ξ, rfl⟩ := hrel
                have HO := Lib.hid hO
                clear hO
                by_cases hlt : j < T.length + N.length
                · obtain ⟨b, o, x, rfl, hx, cx⟩ := strs_get (w := w7) R7.out hlt
                  have HX := Lib.hid hx
                  have HO2 : Hid (okFrom p [] (T ++ N) = (wordB x && !inS ((T ++ N).take j) x && (p || !patB x) && okFrom p ((T ++ N).take (j + 1)) ((T ++ N).drop (j + 1)))) := by
                    rw [Hid, HO.out, drop_get HX.out, okFrom_cons, take_succ_get HX.out]
                  have hjc : j < c7 := by omega
                  have hjc' : ((j : Nat) : Int) ≤ (c7 : Int) := by omega
                  have hxl : x.length ≤ 600 := HAll.out x (List.mem_of_getElem? HX.out)
                  have HWd := Lib.hid (fun v (hv : Ext w7 v) => word_c x (by omega) (M7.out.ext hv))
                  have HIn := Lib.hid (fun v (hv : Ext w7 v) => Contains_c (c := c7) ((R7.out.take (Nat.le_of_lt hlt)).ext hv) (by omega) x)
                  have HPt := Lib.hid (fun v => pattern_c x v)
                  clear hx HO
                  generalize wordB x = b1 at HWd HO2
                  generalize inS ((T ++ N).take j) x = b2 at HIn HO2
                  generalize patB x = b3 at HPt HO2
                  cases b1 with
                  | false =>
                    go_wp2_with fail
                    refine (HWd.out _ ξ.h).mono ?_
                    rintro e9 u ⟨rfl, hu⟩
                    have U := Lib.hid (ξ.h.then_ext hu)
                    clear hu
                    have HF5 : Hid (headF m s = (m, 3)) := HF4.out.trans (if_neg (by rw [HOK.out, HO2.out]; simp))
                    go_wp2_with fail
                    go_ret
                    exact ⟨v, rs, by rw [HF5.out]; rfl, by rw [HF5.out]; exact P7.out.ext U.out⟩
                  | true =>
                    go_wp2_with fail
                    refine (HWd.out _ ξ.h).mono ?_
                    rintro e9 u ⟨rfl, hu⟩
                    have U := Lib.hid (ξ.h.then_ext hu)
                    clear hu HWd
                    go_wp2_with fail
                    refine (HIn.out _ U.out).mono ?_
                    rintro e9 u2 ⟨rfl, hu⟩
                    have U2 := Lib.hid (U.out.then_ext hu)
                    clear hu HIn U
                    cases b2 with
                    | true =>
                      have HF5 : Hid (headF m s = (m, 3)) := HF4.out.trans (if_neg (by rw [HOK.out, HO2.out]; simp))
                      go_wp2_with fail
                      go_ret
                      exact ⟨v, rs, by rw [HF5.out]; rfl, by rw [HF5.out]; exact P7.out.ext U2.out⟩
                    | false =>
                      cases p with
                      | true =>
                        go_wp2_with fail
                        go_roundw
                        case rel => exact ⟨j + 1, by omega, by go_num, by rw [HO2.out]; rfl, ⟨_, U2.out⟩, rfl⟩
                        case measure => simp [intOf]; omega
                      | false =>
                        go_wp2_with fail
                        refine (HPt.out _).mono ?_
                        rintro e9 u3 ⟨rfl, hu⟩
                        have U3 := Lib.hid (U2.out.then_ext hu)
                        clear hu HPt U2
                        cases b3 with
                        | true =>
                          have HF5 : Hid (headF m s = (m, 3)) := HF4.out.trans (if_neg (by rw [HOK.out, HO2.out]; simp))
                          go_wp2_with fail
                          go_ret
                          exact ⟨v, rs, by rw [HF5.out]; rfl, by rw [HF5.out]; exact P7.out.ext U3.out⟩
                        | false =>
                          go_wp2_with fail
                          go_roundw
                          case rel => exact ⟨j + 1, by omega, by go_num, by rw [HO2.out]; rfl, ⟨_, U3.out⟩, rfl⟩
                          case measure => simp [intOf]; omega
                · obtain rfl : j = T.length + N.length := by omega
                  have HO2 : Hid (okFrom p [] (T ++ N) = true) := by
                    rw [Hid, HO.out, List.drop_of_length_le (by rw [List.length_append]; exact Nat.le_refl _)]
                    rfl
                  have P9 := Lib.hid (P7.out.ext ξ.h)
                  have S9 := Lib.hid (S7.out.ext ξ.h)
                  have C9 := Lib.hid (C7.out.keep ξ.h id)
                  have d0 : ξ.v.cell? ⟨g9, 0, none⟩ = some (.slice tA T.length tc) := C9.out.cell 0
                  clear HO X8 P7 S7 C7
                  by_cases hpp : p = true ∧ 1 < T.length
                  · obtain ⟨rfl, h1⟩ := hpp
                    have g1 : decide ((1 : Int) < (T.length : Int)) = true := by rw [decide_eq_true_iff]; omega
                    have HF5 : Hid (headF m s = (m, 3)) := HF4.out.trans (if_neg (by rw [HOK.out, HO2.out, decide_eq_true h1]; simp))
                    go_wp2_with fail
                    go_ret
                    exact ⟨v, rs, by rw [HF5.out]; rfl, by rw [HF5.out]; exact P9.out⟩
                  · have hpp2 : p = false ∨ (p = true ∧ ¬ 1 < T.length) := by
                      cases p with
                      | false => exact .inl rfl
                      | true => exact .inr ⟨rfl, fun h => hpp ⟨rfl, h⟩⟩
                    have HF5 : Hid (headF m s = (⟨m.vars, m.rules ++ [⟨T, N, []⟩], m.phony⟩, 0)) := HF4.out.trans (if_pos (by
                      rw [HOK.out, HO2.out]
                      rcases hpp2 with e | ⟨e, h1⟩
                      · rw [e]; rfl
                      · rw [decide_eq_false h1]; simp))
                    obtain ⟨F, hF⟩ : ∃ F : Nat → Prop, F = fun b => (Value.slice v.rA rs.length v.rc).ownBlock = some b := ⟨_, rfl⟩
                    have hFg : ¬ F g9 := by
                      rw [hF]
                      exact fun e => HG9.out _ e rfl
                    have hFm : ¬ F g := by
                      rw [hF]
                      exact fun e => own_ne_cs P9.out.fr.own P9.out.rc (by decide) _ e rfl
                    obtain ⟨wd, hwd⟩ : ∃ u, u = ξ.v.drew := ⟨_, rfl⟩
                    have xd : Ext ξ.v wd := by rw [hwd]; exact (Only.refl No _).drew
                    have PD := Lib.hid (P9.out.ext xd)
                    have SD := Lib.hid (S9.out.ext xd)
                    have CD := Lib.hid (C9.out.keep xd id)
                    have hrl : rs.length ≤ 10 := by rw [P9.out.rl]; exact hr10
                    have HFq := Lib.hid hF
                    clear hF P9 S9 C9 xd HO2 HF4 HOK hpp HAll R7 M7
                    rcases hpp2 with rfl | ⟨rfl, h1⟩ <;>
                    · try have g1 : decide ((1 : Int) < (T.length : Int)) = false := by rw [decide_eq_false_iff_not]; omega
                      have D0 : ∀ η : X wd F, η.v.cell? ⟨g9, 0, none⟩ = some (.slice tA T.length tc) := CD.out.x hFg 0
                      have D1 : ∀ η : X wd F, η.v.cell? ⟨g9, 1, none⟩ = some (.slice nA N.length nc) := CD.out.x hFg 1
                      have D2 : ∀ η : X wd F, η.v.cell? ⟨g9, 2, none⟩ = some (.slice none 0 0) := CD.out.x hFg 2
                      have c1 : ∀ η : X wd F, η.v.cell? ⟨g, 1, none⟩ = some (.slice v.rA rs.length v.rc) := PD.out.rc.x hFm 1
                      go_upto_region 22 with fail
                      refine Mix.wp_draw [6, 7, 10] 10 (Cl wd F) (by kernel_rfl) (by kernel_rfl) (by rw [hwd]; exact Cl.of (Only.refl _ _)) ?_
                      rw [← hwd]
                      clear hwd
                      (repeat' (refine Mix.lex_quiet0 rfl rfl rfl ?_; intro K hK; go_big_quiet_op; go_big_quiet_on))
                      ((first | refine Mix.lex_goes0 rfl rfl ?_ | refine Mix.lex_goesG rfl rfl rfl (by with_reducible rfl) rfl ?_); intro K hK; go_simp)
                      have P6 := Lib.hid (PD.out.ext ((Only.refl No wd).alloc (.cells #[.slice tA T.length tc, .slice nA N.length nc, .slice none 0 0] ruleT)))
                      have S6 := Lib.hid (SD.out.ext ((Only.refl No wd).alloc (.cells #[.slice tA T.length tc, .slice nA N.length nc, .slice none 0 0] ruleT)))
                      refine hK _ _ (fun _ => Cl.of ((Only.refl _ wd).alloc _)) ?_
                      clear hK K
                      simp only [Act.put, List.setIfInBounds_toArray, List.set_cons_succ, List.set_cons_zero]
                      refine Mix.lex_goes0 rfl rfl ?_
                      intro K hK
                      refine goes_append (v := .slice v.rA rs.length v.rc) (n := rs.length) (xs := rs.flatMap rulF.enc) ru_ty rfl rfl rfl P6.out.fr.own (rd_one wd _ [.slice tA T.length tc, .slice nA N.length nc, .slice none 0 0]) (by simp [Value.oneCell']) (by omega) ?_
                      intro A9 c9 w9 hown9 hg9' hb9
                      have P8 := Lib.hid (P6.out.growR (a := ⟨tA, tc, nA, nc, none, 0⟩) (r := ⟨T, N, []⟩) S6.out hown9 hg9' hb9)
                      have O8 : Hid (Only F wd w9) := ((Only.refl F wd).alloc (.cells #[.slice tA T.length tc, .slice nA N.length nc, .slice none 0 0] ruleT)).grown hg9' fun g hg => .inr (by rw [HFq.out]; exact hg)
                      refine hK _ _ (fun _ => Cl.of O8.out) ?_
                      clear hK K
                      simp only [Act.put, List.setIfInBounds_toArray, List.set_cons_succ, List.set_cons_zero]
                      have C8 : Cs w9 g makeT #[.slice v.vA m.vars.length v.vc, .slice v.rA rs.length v.rc, .slice v.pA m.phony.length v.pc] := PD.out.rc.keep O8.out hFm
                      have y0 : w9.cell? ⟨g, 1, none⟩ = some (.slice v.rA rs.length v.rc) := C8.cell 1
                      have z0 := C8.frozen 1
                      clear C8 hown9 hg9' hb9 P6 S6
                      (repeat' (refine Mix.lex_quiet0 rfl rfl rfl ?_; intro K hK; go_big_quiet_op; go_big_quiet_on))
                      ((first | refine Mix.lex_goes0 rfl rfl ?_ | refine Mix.lex_goesG rfl rfl rfl (by with_reducible rfl) rfl ?_); intro K hK; go_simp)
                      refine hK _ _ (fun hne => absurd rfl hne) ?_
                      clear hK K y0 z0
                      simp only [Act.put, List.setIfInBounds_toArray, List.set_cons_succ, List.set_cons_zero]
                      refine Mix.lex_nil ?_
                      go_wp2_with fail
                      go_ret
                      exact ⟨_, _, by rw [HF5.out]; rfl, by rw [HF5.out]; exact P8.out⟩
  · have HF2 : Hid (headF m s = (m, e)) := HF.out.trans (if_pos he)
    rw [errV_pos he]
    go_wp2_with fail
    go_ret
    exact ⟨v, rs, by rw [HF2.out, errV_pos he]; rfl, by rw [HF2.out]; exact P1.out⟩
theorem CutPre_c (s p : Str) (w : World) : Calls Tryz.prog 66 #[S s, S p] w fun e w' => e = .returned (.tuple #[S (Lib.trimPrefix s p), .bool (Lib.hasPrefix s p)]) ∧ Ext w w' := by
  refine (Tryz.strings_CutPrefix ⟨s.toArray⟩ ⟨p.toArray⟩ w).mono ?_
  rintro e w' ⟨rfl, rfl⟩
  exact ⟨rfl, Only.refl _ _⟩
theorem byte_eq (x c : UInt8) : (((x.toNat : Int)) == ((c.toNat : Int))) = decide (x = c) := by
  rw [Bool.eq_iff_iff, beq_iff_eq, decide_eq_true_iff]
  exact ⟨fun h => UInt8.toNat_inj.1 (by omega), fun h => by rw [h]⟩
set_option maxRecDepth 100000 in
set_option maxHeartbeats 4000000 in
theorem Line_c {Q : List SRow} {w wr : World} {g : Nat} {v : MkV} {rs : List (RulA × Rul)} {m : Mk} {k : Nat} (hm : Ml w) (h : MAt Q w wr g v rs m) (hf : m.Fit k) (hk : k ≤ 100000) (s : Str) (hs : s.length ≤ 600) :
    Calls Tryz.prog 44 #[ptr g, S s] wr (MkRes Q w g (lineF m s)) := by
  have P := Lib.hid h
  cases s with
  | nil =>
    go_enter Tryz.func44, Tryz.ntmps44
    go_wp2_with fail
    go_ret
    exact ⟨v, rs, rfl, P.out⟩
  | cons x r =>
    have HF := Lib.hid (lineF_cons m x r)
    have HCm := Lib.hid (Command_c hm h hf r (by simp at hs; omega))
    have HHd := Lib.hid (fun u (hu : MAt Q w u g v rs m) => Header_c hm hu hf (x :: r) hs)
    have HPr := Lib.hid (fun v => CutPre_c (x :: r) phonyT v)
    have HCt := Lib.hid (fun v (hv : Ext w v) => SCut_c (x :: r) eqT (by omega) (hm.ext hv))
    have hp := hf.p
    have hv := hf.v
    clear h hf
    by_cases h35 : x = 35
    · have q1 : (((x.toNat : Int)) == 35) = true := (byte_eq x 35).trans (decide_eq_true h35)
      have HF2 := Lib.hid (HF.out.trans (if_pos h35))
      go_enter Tryz.func44, Tryz.ntmps44
      go_wp2_with fail
      go_ret
      exact ⟨v, rs, by rw [HF2.out]; rfl, by rw [HF2.out]; exact P.out⟩
    · have q1 : (((x.toNat : Int)) == 35) = false := (byte_eq x 35).trans (decide_eq_false h35)
      have HF2 := Lib.hid (HF.out.trans (if_neg h35))
      clear HF
      by_cases h9 : x = 9
      · have q2 : (((x.toNat : Int)) == 9) = true := (byte_eq x 9).trans (decide_eq_true h9)
        have HF3 := Lib.hid (HF2.out.trans (if_pos h9))
        subst h9
        go_enter Tryz.func44, Tryz.ntmps44
        go_wp2_with fail
        refine HCm.out.mono ?_
        rintro e u ⟨v', rs', rfl, hM⟩
        have M2 := Lib.hid hM
        clear hM HCm
        go_wp2_with fail
        go_ret
        exact ⟨v', rs', by rw [HF3.out]; rfl, by rw [HF3.out]; exact M2.out⟩
      · have q2 : (((x.toNat : Int)) == 9) = false := (byte_eq x 9).trans (decide_eq_false h9)
        have HF3 := Lib.hid (HF2.out.trans (if_neg h9))
        clear HF2 HCm
        have HTr : Hid (Lib.hasPrefix (x :: r) phonyT = true → Lib.trimPrefix (x :: r) phonyT = (x :: r).drop 6) := fun h => by
          unfold Lib.trimPrefix
          rw [if_pos h]
          rfl
        generalize Lib.hasPrefix (x :: r) phonyT = hp6 at HPr HF3 HTr
        generalize Lib.trimPrefix (x :: r) phonyT = name at HPr HTr
        go_enter Tryz.func44, Tryz.ntmps44
        go_wp2_with fail
        refine (HPr.out _).mono ?_
        rintro e u ⟨rfl, hu⟩
        have P1 := Lib.hid (P.out.ext hu)
        clear hu HPr P
        cases hp6 with
        | true =>
          have hn : name = (x :: r).drop 6 := HTr.out rfl
          have HF4 := Lib.hid (HF3.out.trans (if_pos rfl))
          rw [← hn] at HF4
          have hnl : name.length ≤ 600 := by rw [hn, List.length_drop]; omega
          clear hn HTr HF3 HCt HHd
          have HNm := Lib.hid (fun v => Name_c name v (by omega))
          have HIn := Lib.hid (fun z (hv : Ext u z) => Contains_c (c := v.pc) (((P1.out.ss.f ⟨v.pA, v.pc, m.phony⟩ (by simp)).row (by decide)).ext hv) (by show m.phony.length ≤ _; omega) name)
          have HF5 : Hid (lineF m (x :: r) = if nameB name = false ∨ inS m.phony name = true then (m, 3) else (⟨m.vars, m.rules, m.phony ++ [name]⟩, 0)) := HF4.out
          clear HF4
          generalize nameB name = b1 at HNm HF5
          generalize inS m.phony name = b2 at HIn HF5
          cases b1 with
          | false =>
            have HF6 := Lib.hid (HF5.out.trans (if_pos (.inl rfl)))
            go_wp2_with fail
            refine (HNm.out _).mono ?_
            rintro e u2 ⟨rfl, hu⟩
            have P2 := Lib.hid (P1.out.ext hu)
            clear hu HNm P1
            go_wp2_with fail
            go_ret
            exact ⟨v, rs, by rw [HF6.out]; rfl, by rw [HF6.out]; exact P2.out⟩
          | true =>
            go_wp2_with fail
            refine (HNm.out _).mono ?_
            rintro e u2 ⟨rfl, hu⟩
            have P2 := Lib.hid (P1.out.ext hu)
            have U2 := Lib.hid hu
            have c2 : u2.cell? ⟨g, 2, none⟩ = some (.slice v.pA m.phony.length v.pc) := P2.out.rc.cell 2
            clear hu HNm P1
            go_wp2_with fail
            refine (HIn.out _ U2.out).mono ?_
            rintro e u3 ⟨rfl, hu⟩
            have P3 := Lib.hid (P2.out.ext hu)
            clear hu HIn P2 U2 c2
            cases b2 with
            | true =>
              have HF6 := Lib.hid (HF5.out.trans (if_pos (.inr rfl)))
              go_wp2_with fail
              go_ret
              exact ⟨v, rs, by rw [HF6.out]; rfl, by rw [HF6.out]; exact P3.out⟩
            | false =>
              have HF6 := Lib.hid (HF5.out.trans (if_neg (by simp)))
              clear HF5
              have c3 : u3.cell? ⟨g, 2, none⟩ = some (.slice v.pA m.phony.length v.pc) := P3.out.rc.cell 2
              have P4 := Lib.hid (P3.out.ext ((Only.refl No u3).alloc (.cells #[S name] 9)))
              go_wp2_with (first | (at_builtin; go_must (refine wpList_append (v := .slice v.pA m.phony.length v.pc) (n := m.phony.length) (xs := m.phony.flatMap strF.enc) rfl st_ty rfl rfl rfl (P4.out.ss.f ⟨v.pA, v.pc, m.phony⟩ (by simp)).own (rd_one u3 _ [S name]) (by simp [Value.oneCell']) (by omega) ?_); intro A2 c2 w5 hown5 hg5 hb5; have P9 := Lib.hid (P4.out.growP (t := name) hown5 hg5 hb5); have C9 := P4.out.rc.keep ((Only.refl (fun b => (Value.slice v.pA m.phony.length v.pc).ownBlock = some b) _).grown hg5 fun g hg => .inr hg) (fun e => own_ne_cs (P4.out.ss.f ⟨v.pA, v.pc, m.phony⟩ (by simp)).own P4.out.rc (by decide) _ e rfl); have z1 := C9.frozen 2; have y1 : w5.cell? ⟨g, 2, none⟩ = some (.slice v.pA m.phony.length v.pc) := C9.cell 2; clear hown5 hg5 hb5 C9) | ((first | refine Mix.wpList_guarded rfl ?_ | refine Mix.wp_still (by kernel_rfl) (by kernel_rfl) ?_); (repeat' (first | (refine Mix.lex_quiet0 rfl rfl rfl ?_; intro K hK; go_big_quiet_op; go_big_quiet_on) | (refine Mix.lex_quietG rfl rfl rfl (by with_reducible rfl) rfl rfl ?_; intro K hK; go_big_quiet_op; go_big_quiet_on) | ((first | refine Mix.lex_skipT rfl rfl rfl (by with_reducible rfl) ?_ | refine Mix.lex_skipF rfl rfl rfl (by with_reducible rfl) ?_ | refine Mix.lex_skipU rfl rfl rfl (by with_reducible rfl) ?_); simp only [Act.put, List.setIfInBounds_toArray, List.set_cons_succ, List.set_cons_zero]) | (refine Mix.lex_part rfl rfl rfl rfl (fun hq => ?_) (fun hq => ?_) <;> (fail_if_success (guard_hyp hq :ₛ true = true)) <;> (fail_if_success (guard_hyp hq :ₛ false = false)) <;> first | (exfalso; cases hq; done) | (exfalso; simp only [decide_eq_true_eq, decide_eq_false_iff_not, beq_iff_eq, beq_eq_false_iff_ne, ne_eq, Int.not_lt, Int.not_le] at hq; omega) | simp only [Act.put, List.setIfInBounds_toArray, List.set_cons_succ, List.set_cons_zero]))); all_goals (refine Mix.lex_nil ?_)))
              go_ret
              exact ⟨_, _, by rw [HF6.out]; rfl, by rw [HF6.out]; exact P9.out⟩
        | false =>
          have HF4 := Lib.hid (HF3.out.trans (if_neg (by decide)))
          have hcl := cut_len (x :: r) eqT
          have hcl2 : (x :: r).length ≤ 600 := hs
          have hM1 := hm.ext P1.out.x
          have HCt1 := Lib.hid (HCt.out u P1.out.x)
          clear HF3 HTr HCt
          generalize Lib.cut (x :: r) eqT = q at HCt1 HF4 hcl
          obtain ⟨a, b, is⟩ := q
          dsimp only at HCt1 HF4 hcl
          go_wp2_with fail
          refine HCt1.out.mono ?_
          rintro e u1 ⟨rfl, hu⟩
          have P2 := Lib.hid (P1.out.ext hu)
          clear hu HCt1 P1
          cases is with
          | true =>
            have HF5 : Hid (lineF m (x :: r) = if varB a = false then (m, 3) else if m.vars.length = 6 then (m, 2) else (⟨m.vars ++ [(a, b)], m.rules, m.phony⟩, 0)) := HF4.out.trans (if_pos rfl)
            have HVr := Lib.hid (fun v => Var_c a (by omega) v)
            clear HF4 HHd
            generalize varB a = b1 at HVr HF5
            go_wp2_with fail
            refine (HVr.out _).mono ?_
            rintro e u2 ⟨rfl, hu⟩
            have P3 := Lib.hid (P2.out.ext hu)
            clear hu HVr P2
            cases b1 with
            | false =>
              have HF6 := Lib.hid (HF5.out.trans (if_pos rfl))
              go_wp2_with fail
              go_ret
              exact ⟨v, rs, by rw [HF6.out]; rfl, by rw [HF6.out]; exact P3.out⟩
            | true =>
              have HF6 := Lib.hid (HF5.out.trans (if_neg (by decide)))
              have c3 : u2.cell? ⟨g, 0, none⟩ = some (.slice v.vA m.vars.length v.vc) := P3.out.rc.cell 0
              clear HF5
              by_cases h6 : m.vars.length = 6
              · have g6 : decide ((m.vars.length : Int) = 6) = true := by rw [decide_eq_true_iff]; omega
                have HF7 := Lib.hid (HF6.out.trans (if_pos h6))
                go_wp2_with fail
                go_ret
                exact ⟨v, rs, by rw [HF7.out]; rfl, by rw [HF7.out]; exact P3.out⟩
              · have g6 : decide ((m.vars.length : Int) = 6) = false := by rw [decide_eq_false_iff_not]; omega
                have HF7 := Lib.hid (HF6.out.trans (if_neg h6))
                have P4 := Lib.hid (P3.out.ext ((Only.refl No u2).alloc (.cells #[S a, S b] varT)))
                go_wp2_with (first | (at_builtin; go_must (refine wpList_append (v := .slice v.vA m.vars.length v.vc) (n := m.vars.length) (xs := m.vars.flatMap fileF.enc) rfl vr_ty rfl rfl rfl P4.out.fv.own (rd_one u2 _ [S a, S b]) (by simp [Value.oneCell']) (by omega) ?_); intro A2 c2 w5 hown5 hg5 hb5; have P9 := Lib.hid (P4.out.growV (t := (a, b)) hown5 hg5 hb5); have C9 := P4.out.rc.keep ((Only.refl (fun b => (Value.slice v.vA m.vars.length v.vc).ownBlock = some b) _).grown hg5 fun g hg => .inr hg) (fun e => own_ne_cs P4.out.fv.own P4.out.rc (by decide) _ e rfl); have z1 := C9.frozen 0; have y1 : w5.cell? ⟨g, 0, none⟩ = some (.slice v.vA m.vars.length v.vc) := C9.cell 0; clear hown5 hg5 hb5 C9) | ((first | refine Mix.wpList_guarded rfl ?_ | refine Mix.wp_still (by kernel_rfl) (by kernel_rfl) ?_); (repeat' (first | (refine Mix.lex_quiet0 rfl rfl rfl ?_; intro K hK; go_big_quiet_op; go_big_quiet_on) | (refine Mix.lex_quietG rfl rfl rfl (by with_reducible rfl) rfl rfl ?_; intro K hK; go_big_quiet_op; go_big_quiet_on) | ((first | refine Mix.lex_skipT rfl rfl rfl (by with_reducible rfl) ?_ | refine Mix.lex_skipF rfl rfl rfl (by with_reducible rfl) ?_ | refine Mix.lex_skipU rfl rfl rfl (by with_reducible rfl) ?_); simp only [Act.put, List.setIfInBounds_toArray, List.set_cons_succ, List.set_cons_zero]) | (refine Mix.lex_part rfl rfl rfl rfl (fun hq => ?_) (fun hq => ?_) <;> (fail_if_success (guard_hyp hq :ₛ true = true)) <;> (fail_if_success (guard_hyp hq :ₛ false = false)) <;> first | (exfalso; cases hq; done) | (exfalso; simp only [decide_eq_true_eq, decide_eq_false_iff_not, beq_iff_eq, beq_eq_false_iff_ne, ne_eq, Int.not_lt, Int.not_le] at hq; omega) | simp only [Act.put, List.setIfInBounds_toArray, List.set_cons_succ, List.set_cons_zero]))); all_goals (refine Mix.lex_nil ?_)))
                go_ret
                exact ⟨_, _, by rw [HF7.out]; rfl, by rw [HF7.out]; exact P9.out⟩
          | false =>
            have HF5 := Lib.hid (HF4.out.trans (if_neg (by decide)))
            go_wp2_with fail
            refine (HHd.out _ P2.out).mono ?_
            rintro e u2 ⟨v', rs', rfl, hM⟩
            have M2 := Lib.hid hM
            clear hM HHd
            go_wp2_with fail
            go_ret
            exact ⟨v', rs', by rw [HF5.out]; rfl, by rw [HF5.out]; exact M2.out⟩
theorem chkR_cons (ph : List Str) (r : Rul) (rs : List Rul) (made : List Str) : chkR ph (r :: rs) made = if dupF made r.targets = true then none else if ruleOk ph r = true then chkR ph rs (made ++ r.targets) else none := rfl
theorem dupF_cons (made ts : List Str) (t : Str) : dupF made (t :: ts) = (inS made t || dupF (made ++ [t]) ts) := rfl
def ChkRes (w : World) (r : Int) (e : Ending) (w' : World) : Prop := e = .returned (errV r) ∧ Ext w w'
set_option maxRecDepth 100000 in
set_option maxHeartbeats 4000000 in
theorem Check_c {w : World} {v : MkV} {rs : List (RulA × Rul)} {m : Mk} (h : MakeR w v rs m) (hr : m.rules.length ≤ 10) (ht : ∀ x ∈ m.rules, 1 ≤ x.targets.length ∧ x.targets.length ≤ 2) (hp : m.phony.length ≤ 100000) :
    Calls Tryz.prog 45 #[mkV v m] w (ChkRes w (chkF m)) := by
  obtain ⟨vA, vc, rA, rc, pA, pc⟩ := v
  obtain ⟨g1, hg1⟩ : ∃ g, g = w.heap.size := ⟨_, rfl⟩
  obtain ⟨w0, hw0⟩ : ∃ u, u = w.alloc (.cells #[.slice vA m.vars.length vc, .slice rA m.rules.length rc, .slice pA m.phony.length pc] makeT) := ⟨_, rfl⟩
  have x0 : Ext w w0 := by rw [hw0]; exact (Only.refl No w).alloc _
  have C0 : Hid (Cs w0 g1 makeT #[.slice vA m.vars.length vc, .slice rA m.rules.length rc, .slice pA m.phony.length pc]) := by rw [hw0, hg1]; exact Cs.new _ _ _
  have R0 := Lib.hid (h.ext x0)
  have X0 := Lib.hid x0
  have c1 : w0.cell? ⟨g1, 1, none⟩ = some (.slice rA m.rules.length rc) := C0.out.cell 1
  have HTg := Lib.hid ht
  have hrl : rs.length = m.rules.length := by rw [← h.rm, List.length_map]
  have HF : Hid (chkF m = match chkR m.phony m.rules [] with | none => 3 | some made => if m.phony.all (inS made) = true then 0 else 3) := rfl
  clear x0 h ht
  show Calls _ _ #[.agg #[.slice vA m.vars.length vc, .slice rA m.rules.length rc, .slice pA m.phony.length pc]] _ _
  go_enter Tryz.func45, Tryz.ntmps45
  go_upto_region 1 with fail
  rw [← hw0, ← hg1]
  clear hw0 hg1
  go_wp2_with fail
  go_loopw [3, 13] (fun z i wr => ∃ j : Nat, j ≤ m.rules.length ∧ i = .int .i64 j ∧ ∃ L A' c', z = .slice A' L.length c' ∧ Fresh strF 9 w0 wr A' c' L ∧ L.length ≤ 2 * j ∧ chkR m.phony m.rules [] = chkR m.phony (m.rules.drop j) L) (fun _ i _ => m.rules.length - (intOf i).toNat)
  case atStart => exact ⟨0, Nat.zero_le _, rfl, [], none, 0, rfl, Fresh.nil _ _ _ _ (Only.refl _ _), Nat.le_refl _, rfl⟩
  case round =>
    obtain ⟨j, hj, rfl, L, A', c', rfl, hL, hLl, hO⟩ := hrel
    have FL := Lib.hid hL
    have HO := Lib.hid hO
    clear hL hO c1
    by_cases hlt : j < m.rules.length
    · obtain ⟨b, o, x, rfl, hx, hb, k0, k1, k2⟩ := rules_get R0.out.fr hlt
      obtain ⟨⟨tA, tc, nA, nc, cA, cc⟩, r⟩ := x
      have hrx : m.rules[j]? = some r := by rw [← R0.out.rm, List.getElem?_map, hx]; rfl
      have HX := Lib.hid hrx
      have HRR := Lib.hid (R0.out.rr _ (List.mem_of_getElem? hx))
      have HT12 := HTg.out r (List.mem_of_getElem? hrx)
      have q0 := k0 _ FL.out.ext
      have q1 := k1 _ FL.out.ext
      have q2 := k2 _ FL.out.ext
      dsimp only at q0 q1 q2 HRR
      clear hx hrx k0 k1 k2
      obtain ⟨g5, hg5⟩ : ∃ g, g = wr.heap.size := ⟨_, rfl⟩
      obtain ⟨w1, hw1⟩ : ∃ u, u = wr.alloc (.cells #[.slice tA r.targets.length tc, .slice nA r.needs.length nc, .slice cA r.cmds.length cc] ruleT) := ⟨_, rfl⟩
      have x1 : Ext wr w1 := by rw [hw1]; exact (Only.refl No wr).alloc _
      have C5 : Hid (Cs w1 g5 ruleT #[.slice tA r.targets.length tc, .slice nA r.needs.length nc, .slice cA r.cmds.length cc]) := by rw [hw1, hg5]; exact Cs.new _ _ _
      have F1 := Lib.hid (FL.out.on x1)
      have d0 : w1.cell? ⟨g5, 0, none⟩ = some (.slice tA r.targets.length tc) := C5.out.cell 0
      have HG5 : Hid (w0.heap.size ≤ g5) := by rw [Hid, hg5]; exact FL.out.ext.size
      go_upto_region 5 with fail
      rw [← hw1, ← hg5]
      clear hw1 hg5 q0 q1 q2
      have HO2 : Hid (chkR m.phony m.rules [] = if dupF L r.targets = true then none else if ruleOk m.phony r = true then chkR m.phony (m.rules.drop (j + 1)) (L ++ r.targets) else none) := by
        rw [Hid, HO.out, drop_get HX.out, chkR_cons]
      clear HO
      go_wp2_with fail
      go_loopw [3, 20] (fun z i wr => ∃ k : Nat, k ≤ r.targets.length ∧ i = .int .i64 k ∧ ∃ A'' c'', z = .slice A'' (L ++ r.targets.take k).length c'' ∧ Fresh strF 9 w0 wr A'' c'' (L ++ r.targets.take k) ∧ Cs wr g5 ruleT #[.slice tA r.targets.length tc, .slice nA r.needs.length nc, .slice cA r.cmds.length cc] ∧ dupF L r.targets = dupF (L ++ r.targets.take k) (r.targets.drop k)) (fun _ i _ => r.targets.length - (intOf i).toNat)
      case atStart => exact ⟨0, Nat.zero_le _, rfl, A', c', by simp, by simpa using F1.out, C5.out, by simp⟩
      case round =>
        clear F1 C5 d0
        obtain ⟨k, hk, rfl, A2, c2, rfl, hF2, hC2, hD⟩ := hrel
        have F2 := Lib.hid hF2
        have C2 := Lib.hid hC2
        have HD := Lib.hid hD
        clear hF2 hC2 hD
        obtain ⟨L2, hL2⟩ : ∃ l, l = L ++ r.targets.take k := ⟨_, rfl⟩
        rw [← hL2] at F2 HD ⊢
        have HL2 := Lib.hid hL2
        have hL2l : L2.length ≤ 2 * j + 2 := by
          rw [hL2, List.length_append, List.length_take]
          have := HT12.2
          omega
        clear hL2
        by_cases hlk : k < r.targets.length
        · have HS := Lib.hid (HRR.out.1.ext F2.out.ext)
          obtain ⟨b2, o2, t, rfl, htk, cx⟩ := strs_get HS.out hlk
          have HTk := Lib.hid htk
          have HD2 : Hid (dupF L r.targets = (inS L2 t || dupF (L ++ r.targets.take (k + 1)) (r.targets.drop (k + 1)))) := by
            rw [Hid, HD.out, drop_get HTk.out, dupF_cons, take_succ_get HTk.out, ← List.append_assoc, HL2.out]
          have HIn := Lib.hid (Contains_c (c := c2) (F2.out.row (by decide)) (by omega) t)
          clear htk HD
          generalize inS L2 t = b1 at HIn HD2
          have cx' : wr.cell? ⟨b2, o2 + k, none⟩ = some (S t) := cx (X.here _ _)
          have hA9 : (L2 ++ [t]) = L ++ r.targets.take (k + 1) := by rw [HL2.out, take_succ_get HTk.out, List.append_assoc]
          have HA9 := Lib.hid hA9
          clear cx hA9
          go_wp2_with fail
          refine HIn.out.mono ?_
          rintro e u ⟨rfl, hu⟩
          have F3 := Lib.hid (F2.out.on hu)
          have C3 := Lib.hid (C2.out.keep hu id)
          clear hu HIn F2 C2 cx'
          cases b1 with
          | true =>
            have HF2 : Hid (chkF m = 3) := by rw [Hid, HF.out, HO2.out, HD2.out]; rfl
            go_wp2_with fail
            go_ret
            exact ⟨by rw [HF2.out]; rfl, X0.out.then_ext F3.out.ext⟩
          | false =>
            have F4 := Lib.hid (F3.out.on ((Only.refl No u).alloc (.cells #[S t] 9)))
            go_wp2_with (first | (at_builtin; go_must (refine wpList_append (v := .slice A2 L2.length c2) (n := L2.length) (xs := L2.flatMap strF.enc) rfl st_ty rfl rfl rfl F4.out.own (rd_one u _ [S t]) (by simp [Value.oneCell']) (by omega) ?_); intro A4 c4 w5 hown5 hg5 hb5; have F5 := Lib.hid (F4.out.grow (ys := [t]) rfl hown5 hg5 hb5); have C5 := Lib.hid ((C3.out.alloc (.cells #[S t] 9)).keep ((Only.refl (fun b => (Value.slice A2 L2.length c2).ownBlock = some b) _).grown hg5 fun g hg => .inr hg) (fun e => own_ne_cs F4.out.own (C3.out.alloc (.cells #[S t] 9)) (by decide) _ e rfl)); clear hown5 hg5 hb5) | ((first | refine Mix.wpList_guarded rfl ?_ | refine Mix.wp_still (by kernel_rfl) (by kernel_rfl) ?_); (repeat' (first | (refine Mix.lex_quiet0 rfl rfl rfl ?_; intro K hK; go_big_quiet_op; go_big_quiet_on) | (refine Mix.lex_quietG rfl rfl rfl (by with_reducible rfl) rfl rfl ?_; intro K hK; go_big_quiet_op; go_big_quiet_on) | ((first | refine Mix.lex_skipT rfl rfl rfl (by with_reducible rfl) ?_ | refine Mix.lex_skipF rfl rfl rfl (by with_reducible rfl) ?_ | refine Mix.lex_skipU rfl rfl rfl (by with_reducible rfl) ?_); simp only [Act.put, List.setIfInBounds_toArray, List.set_cons_succ, List.set_cons_zero]) | (refine Mix.lex_part rfl rfl rfl rfl (fun hq => ?_) (fun hq => ?_) <;> (fail_if_success (guard_hyp hq :ₛ true = true)) <;> (fail_if_success (guard_hyp hq :ₛ false = false)) <;> first | (exfalso; cases hq; done) | (exfalso; simp only [decide_eq_true_eq, decide_eq_false_iff_not, beq_iff_eq, beq_eq_false_iff_ne, ne_eq, Int.not_lt, Int.not_le] at hq; omega) | simp only [Act.put, List.setIfInBounds_toArray, List.set_cons_succ, List.set_cons_zero]))); all_goals (refine Mix.lex_nil ?_)))
            go_roundw
            case rel => exact ⟨k + 1, by omega, by go_num, A4, c4, by rw [← HA9.out]; simp, by rw [← HA9.out]; exact F5.out, C5.out, by rw [HD2.out]; rfl⟩
            case measure => simp [intOf]; omega
        · obtain rfl : k = r.targets.length := by omega
          have hL3 : L2 = L ++ r.targets := by rw [HL2.out, List.take_of_length_le (Nat.le_refl _)]
          have HO3 : Hid (chkR m.phony m.rules [] = if ruleOk m.phony r = true then chkR m.phony (m.rules.drop (j + 1)) L2 else none) := by
            rw [Hid, HO2.out, HD.out, List.drop_of_length_le (Nat.le_refl _), hL3]
            rfl
          have HL3 := Lib.hid hL3
          clear HD HO2 hL3
          have hl1 : 0 < r.targets.length := HT12.1
          have HS := Lib.hid (HRR.out.1.ext F2.out.ext)
          obtain ⟨b2, o2, t0, rfl, ht0, ca⟩ := strs_get HS.out hl1
          rw [Nat.add_zero] at ca
          have CW := Lib.hid (C0.out.keep F2.out.ext id)
          have D1 : ∀ ξ : X wr No, ξ.v.cell? ⟨g1, 2, none⟩ = some (.slice pA m.phony.length pc) := CW.out.x id 2
          have D2 : ∀ ξ : X wr No, ξ.v.cell? ⟨g5, 0, none⟩ = some (.slice (some ⟨b2, o2, none⟩) r.targets.length tc) := C2.out.x id 0
          have D3 : ∀ ξ : X wr No, ξ.v.cell? ⟨g5, 2, none⟩ = some (.slice cA r.cmds.length cc) := C2.out.x id 2
          have HIn := Lib.hid (fun v (hv : Ext wr v) k => Contains_c (c := pc) ((R0.out.fp.ext F2.out.ext).ext hv) (by omega) k)
          have HRu : Hid (ruleOk m.phony r = ((inS m.phony t0 == decide (r.cmds.length = 0)) && !(decide (1 < r.targets.length) && inS m.phony (r.targets.getD 1 [])))) := by
            have : r.targets.headD [] = t0 := by
              rw [List.headD_eq_head?_getD, List.head?_eq_getElem?, ht0]
              rfl
            rw [Hid, ruleOk, this]
          have HI0 := Lib.hid (fun v hv => HIn.out v hv t0)
          clear ht0
          generalize inS m.phony t0 = b1 at HI0 HRu
          have hd2 : ((r.cmds.length : Int) == 0) = decide (r.cmds.length = 0) := by
            rw [Bool.eq_iff_iff, beq_iff_eq, decide_eq_true_iff]
            omega
          obtain ⟨q2, hq2⟩ : ∃ q, q = decide (r.cmds.length = 0) := ⟨_, rfl⟩
          rw [← hq2] at hd2 HRu
          clear hq2
          by_cases hb : b1 = q2
          · subst hb
            have hbb : (b1 != b1) = false := by simp
            by_cases h1 : 1 < r.targets.length
            · have g1' : decide ((1 : Int) < (r.targets.length : Int)) = true := by rw [decide_eq_true_iff]; omega
              obtain ⟨b3, o3, t1, hA3, ht1, cb⟩ := strs_get HS.out h1
              injection hA3 with hA3
              injection hA3 with hA31 hA32
              subst hA31
              subst hA32
              have HRu2 : Hid (ruleOk m.phony r = !(inS m.phony t1)) := by
                have : r.targets.getD 1 [] = t1 := by rw [List.getD_eq_getElem?_getD, ht1]; rfl
                rw [Hid, HRu.out, this, decide_eq_true h1]
                simp
              have HI1 := Lib.hid (fun v hv => HIn.out v hv t1)
              clear ht1
              generalize inS m.phony t1 = b3 at HI1 HRu2
              go_upto_region 12 with fail
              refine Mix.wp_draw [6, 24] 100 (Cl wr No) (by kernel_rfl) (by kernel_rfl) (Cl.drew_ (X.here wr No)) ?_
              (repeat' (refine Mix.lex_quiet0 rfl rfl rfl ?_; intro K hK; go_big_quiet_op; go_big_quiet_on))
              ((first | refine Mix.lex_goes0 rfl rfl ?_ | refine Mix.lex_goesG rfl rfl rfl (by with_reducible rfl) rfl ?_); intro K hK; go_simp)
              refine (HI0.out _ ((Only.refl No wr).drew)).mono ?_
              rintro e u ⟨rfl, hu⟩
              have U := Lib.hid (((Only.refl No wr).drew).then_ext hu)
              refine ⟨_, rfl, hK _ _ (fun _ => Cl.of U.out) ?_⟩
              clear hK K hu
              simp only [Act.put, List.setIfInBounds_toArray, List.set_cons_succ, List.set_cons_zero]
              (repeat' (first | (refine Mix.lex_quiet0 rfl rfl rfl ?_; intro K hK; go_big_quiet_op; go_big_quiet_on) | (refine Mix.lex_quietG rfl rfl rfl (by with_reducible rfl) rfl rfl ?_; intro K hK; go_big_quiet_op; go_big_quiet_on) | ((first | refine Mix.lex_skipT rfl rfl rfl (by with_reducible rfl) ?_ | refine Mix.lex_skipF rfl rfl rfl (by with_reducible rfl) ?_ | refine Mix.lex_skipU rfl rfl rfl (by with_reducible rfl) ?_); simp only [Act.put, List.setIfInBounds_toArray, List.set_cons_succ, List.set_cons_zero]) | (refine Mix.lex_part rfl rfl rfl rfl (fun hq => ?_) (fun hq => ?_) <;> (fail_if_success (guard_hyp hq :ₛ true = true)) <;> (fail_if_success (guard_hyp hq :ₛ false = false)) <;> first | (exfalso; cases hq; done) | (exfalso; simp only [decide_eq_true_eq, decide_eq_false_iff_not, beq_iff_eq, beq_eq_false_iff_ne, ne_eq, Int.not_lt, Int.not_le] at hq; omega) | simp only [Act.put, List.setIfInBounds_toArray, List.set_cons_succ, List.set_cons_zero])))
              ((first | refine Mix.lex_goes0 rfl rfl ?_ | refine Mix.lex_goesG rfl rfl rfl (by with_reducible rfl) rfl ?_); intro K hK; go_simp)
              refine (HI1.out _ U.out).mono ?_
              rintro e u2 ⟨rfl, hu⟩
              have U2 := Lib.hid (U.out.then_ext hu)
              refine ⟨_, rfl, hK _ _ (fun _ => Cl.of U2.out) ?_⟩
              clear hK K hu
              simp only [Act.put, List.setIfInBounds_toArray, List.set_cons_succ, List.set_cons_zero]
              (repeat' (first | (refine Mix.lex_quiet0 rfl rfl rfl ?_; intro K hK; go_big_quiet_op; go_big_quiet_on) | (refine Mix.lex_quietG rfl rfl rfl (by with_reducible rfl) rfl rfl ?_; intro K hK; go_big_quiet_op; go_big_quiet_on) | ((first | refine Mix.lex_skipT rfl rfl rfl (by with_reducible rfl) ?_ | refine Mix.lex_skipF rfl rfl rfl (by with_reducible rfl) ?_ | refine Mix.lex_skipU rfl rfl rfl (by with_reducible rfl) ?_); simp only [Act.put, List.setIfInBounds_toArray, List.set_cons_succ, List.set_cons_zero]) | (refine Mix.lex_part rfl rfl rfl rfl (fun hq => ?_) (fun hq => ?_) <;> (fail_if_success (guard_hyp hq :ₛ true = true)) <;> (fail_if_success (guard_hyp hq :ₛ false = false)) <;> first | (exfalso; cases hq; done) | (exfalso; simp only [decide_eq_true_eq, decide_eq_false_iff_not, beq_iff_eq, beq_eq_false_iff_ne, ne_eq, Int.not_lt, Int.not_le] at hq; omega) | simp only [Act.put, List.setIfInBounds_toArray, List.set_cons_succ, List.set_cons_zero])))
              refine Mix.lex_nil ?_
              cases b3 with
              | true =>
                have HF2 : Hid (chkF m = 3) := by rw [Hid, HF.out, HO3.out, HRu2.out]; rfl
                go_wp2_with fail
                go_ret
                exact ⟨by rw [HF2.out]; rfl, X0.out.then_ext (F2.out.ext.then_ext U2.out)⟩
              | false =>
                go_wp2_with fail
                go_roundw
                case rel => exact ⟨j + 1, by omega, by go_num, L2, A2, c2, rfl, F2.out.on U2.out, by omega, by rw [HO3.out, HRu2.out, HL3.out]; rfl⟩
                case measure => simp [intOf]; omega
            · have g1' : decide ((1 : Int) < (r.targets.length : Int)) = false := by rw [decide_eq_false_iff_not]; omega
              have HRu2 : Hid (ruleOk m.phony r = true) := by
                rw [Hid, HRu.out, decide_eq_false h1]
                simp
              go_upto_region 12 with fail
              refine Mix.wp_draw [6, 24] 100 (Cl wr No) (by kernel_rfl) (by kernel_rfl) (Cl.drew_ (X.here wr No)) ?_
              (repeat' (refine Mix.lex_quiet0 rfl rfl rfl ?_; intro K hK; go_big_quiet_op; go_big_quiet_on))
              ((first | refine Mix.lex_goes0 rfl rfl ?_ | refine Mix.lex_goesG rfl rfl rfl (by with_reducible rfl) rfl ?_); intro K hK; go_simp)
              refine (HI0.out _ ((Only.refl No wr).drew)).mono ?_
              rintro e u ⟨rfl, hu⟩
              have U := Lib.hid (((Only.refl No wr).drew).then_ext hu)
              refine ⟨_, rfl, hK _ _ (fun _ => Cl.of U.out) ?_⟩
              clear hK K hu
              simp only [Act.put, List.setIfInBounds_toArray, List.set_cons_succ, List.set_cons_zero]
              (repeat' (first | (refine Mix.lex_quiet0 rfl rfl rfl ?_; intro K hK; go_big_quiet_op; go_big_quiet_on) | (refine Mix.lex_quietG rfl rfl rfl (by with_reducible rfl) rfl rfl ?_; intro K hK; go_big_quiet_op; go_big_quiet_on) | ((first | refine Mix.lex_skipT rfl rfl rfl (by with_reducible rfl) ?_ | refine Mix.lex_skipF rfl rfl rfl (by with_reducible rfl) ?_ | refine Mix.lex_skipU rfl rfl rfl (by with_reducible rfl) ?_); simp only [Act.put, List.setIfInBounds_toArray, List.set_cons_succ, List.set_cons_zero]) | (refine Mix.lex_part rfl rfl rfl rfl (fun hq => ?_) (fun hq => ?_) <;> (fail_if_success (guard_hyp hq :ₛ true = true)) <;> (fail_if_success (guard_hyp hq :ₛ false = false)) <;> first | (exfalso; cases hq; done) | (exfalso; simp only [decide_eq_true_eq, decide_eq_false_iff_not, beq_iff_eq, beq_eq_false_iff_ne, ne_eq, Int.not_lt, Int.not_le] at hq; omega) | simp only [Act.put, List.setIfInBounds_toArray, List.set_cons_succ, List.set_cons_zero])))
              refine Mix.lex_nil ?_
              go_wp2_with fail
              go_roundw
              case rel => exact ⟨j + 1, by omega, by go_num, L2, A2, c2, rfl, F2.out.on U.out, by omega, by rw [HO3.out, HRu2.out, HL3.out]; rfl⟩
              case measure => simp [intOf]; omega
          · have hbq : (b1 = true ∧ q2 = false) ∨ (b1 = false ∧ q2 = true) := by
              clear HI0 HRu hd2
              revert hb
              cases b1 <;> cases q2 <;> simp
            rcases hbq with ⟨rfl, rfl⟩ | ⟨rfl, rfl⟩ <;>
            · have HRu2 : Hid (ruleOk m.phony r = false) := by
                rw [Hid, HRu.out]
                rfl
              go_upto_region 12 with fail
              refine Mix.wp_draw [6, 24] 100 (Cl wr No) (by kernel_rfl) (by kernel_rfl) (Cl.drew_ (X.here wr No)) ?_
              (repeat' (first | (refine Mix.lex_quiet0 rfl rfl rfl ?_; intro K hK; go_big_quiet_op; go_big_quiet_on) | (refine Mix.lex_quietG rfl rfl rfl (by with_reducible rfl) rfl rfl ?_; intro K hK; go_big_quiet_op; go_big_quiet_on) | ((first | refine Mix.lex_skipT rfl rfl rfl (by with_reducible rfl) ?_ | refine Mix.lex_skipF rfl rfl rfl (by with_reducible rfl) ?_ | refine Mix.lex_skipU rfl rfl rfl (by with_reducible rfl) ?_); simp only [Act.put, List.setIfInBounds_toArray, List.set_cons_succ, List.set_cons_zero]) | (refine Mix.lex_part rfl rfl rfl rfl (fun hq => ?_) (fun hq => ?_) <;> (fail_if_success (guard_hyp hq :ₛ true = true)) <;> (fail_if_success (guard_hyp hq :ₛ false = false)) <;> first | (exfalso; cases hq; done) | (exfalso; simp only [decide_eq_true_eq, decide_eq_false_iff_not, beq_iff_eq, beq_eq_false_iff_ne, ne_eq, Int.not_lt, Int.not_le] at hq; omega) | simp only [Act.put, List.setIfInBounds_toArray, List.set_cons_succ, List.set_cons_zero])))
              ((first | refine Mix.lex_goes0 rfl rfl ?_ | refine Mix.lex_goesG rfl rfl rfl (by with_reducible rfl) rfl ?_); intro K hK; go_simp)
              refine (HI0.out _ ((Only.refl No wr).drew)).mono ?_
              rintro e u ⟨rfl, hu⟩
              have U := Lib.hid (((Only.refl No wr).drew).then_ext hu)
              refine ⟨_, rfl, hK _ _ (fun _ => Cl.of U.out) ?_⟩
              clear hK K hu
              simp only [Act.put, List.setIfInBounds_toArray, List.set_cons_succ, List.set_cons_zero]
              (repeat' (first | (refine Mix.lex_quiet0 rfl rfl rfl ?_; intro K hK; go_big_quiet_op; go_big_quiet_on) | (refine Mix.lex_quietG rfl rfl rfl (by with_reducible rfl) rfl rfl ?_; intro K hK; go_big_quiet_op; go_big_quiet_on) | ((first | refine Mix.lex_skipT rfl rfl rfl (by with_reducible rfl) ?_ | refine Mix.lex_skipF rfl rfl rfl (by with_reducible rfl) ?_ | refine Mix.lex_skipU rfl rfl rfl (by with_reducible rfl) ?_); simp only [Act.put, List.setIfInBounds_toArray, List.set_cons_succ, List.set_cons_zero]) | (refine Mix.lex_part rfl rfl rfl rfl (fun hq => ?_) (fun hq => ?_) <;> (fail_if_success (guard_hyp hq :ₛ true = true)) <;> (fail_if_success (guard_hyp hq :ₛ false = false)) <;> first | (exfalso; cases hq; done) | (exfalso; simp only [decide_eq_true_eq, decide_eq_false_iff_not, beq_iff_eq, beq_eq_false_iff_ne, ne_eq, Int.not_lt, Int.not_le] at hq; omega) | simp only [Act.put, List.setIfInBounds_toArray, List.set_cons_succ, List.set_cons_zero])))
              refine Mix.lex_nil ?_
              have HF2 : Hid (chkF m = 3) := by rw [Hid, HF.out, HO3.out, HRu2.out]; rfl
              go_wp2_with fail
              go_ret
              exact ⟨by rw [HF2.out]; rfl, X0.out.then_ext (F2.out.ext.then_ext U.out)⟩
    · obtain rfl : j = m.rules.length := by omega
      have HC : Hid (chkF m = if m.phony.all (inS L) = true then 0 else 3) := by
        rw [Hid, HF.out, HO.out, List.drop_of_length_le (Nat.le_refl _)]
        rfl
      have CW := Lib.hid (C0.out.keep FL.out.ext id)
      have c2 : wr.cell? ⟨g1, 2, none⟩ = some (.slice pA m.phony.length pc) := CW.out.cell 2
      have XW := Lib.hid FL.out.ext
      have SL := Lib.hid (FL.out.row (by decide))
      have SP := Lib.hid (R0.out.fp.ext FL.out.ext)
      dsimp only at SP
      clear HO CW FL HF
      go_wp2_with fail
      go_loopw [65] (fun i wq => ∃ k : Nat, k ≤ m.phony.length ∧ i = .int .i64 k ∧ (m.phony.take k).all (inS L) = true ∧ ∃ ξ : X wr No, wq = ξ.v) (fun i _ => m.phony.length - (intOf i).toNat)
      case atStart => exact ⟨0, Nat.zero_le _, rfl, rfl, X.here _ _, rfl⟩
      case round =>
        obtain ⟨k, hk, rfl, hT, ξ, rfl⟩ := hrel
        have HT := Lib.hid hT
        clear hT c2
        by_cases hlk : k < m.phony.length
        · obtain ⟨b, o, f, rfl, hx, c0⟩ := strs_get (w := wr) SP.out hlk
          have HX := Lib.hid hx
          have HIn := Lib.hid (fun v (hv : Ext wr v) => Contains_c (c := c') (SL.out.ext hv) (by omega) f)
          obtain ⟨p, hp⟩ : ∃ p, inS L f = p := ⟨_, rfl⟩
          rw [hp] at HIn
          have HP := Lib.hid hp
          clear hx hp
          go_wp2_with fail
          refine (HIn.out _ ξ.h).mono ?_
          rintro e u ⟨rfl, hu⟩
          have U := Lib.hid (ξ.h.then_ext hu)
          clear hu HIn
          cases p with
          | true =>
            go_wp2_with fail
            go_roundw
            case rel => exact ⟨k + 1, by omega, by go_num, by rw [take_succ_get HX.out, List.all_append, HT.out]; simp [HP.out], ⟨_, U.out⟩, rfl⟩
            case measure => simp [intOf]; omega
          | false =>
            have HF2 : Hid (chkF m = 3) := HC.out.trans (if_neg (fun h => by
              have := List.all_eq_true.1 h f (List.mem_of_getElem? HX.out)
              rw [HP.out] at this
              cases this))
            go_wp2_with fail
            go_ret
            exact ⟨by rw [HF2.out]; rfl, X0.out.then_ext (XW.out.then_ext U.out)⟩
        · obtain rfl : k = m.phony.length := by omega
          have HF2 : Hid (chkF m = 0) := HC.out.trans (if_pos (by
            have := HT.out
            rwa [List.take_of_length_le (Nat.le_refl _)] at this))
          go_wp2_with fail
          go_ret
          exact ⟨by rw [HF2.out]; rfl, X0.out.then_ext (XW.out.then_ext ξ.h)⟩
end Go.Proofs.YtnhaekifcieeoaaGreatDoor
