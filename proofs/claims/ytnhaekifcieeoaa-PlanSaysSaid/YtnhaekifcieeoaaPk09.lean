/- Put together: Frs, Rfr, OpenK, OpenBl. -/
import Derived.Test.YtnhaekifcieeoaaPk05
import Derived.Test.YtnhaekifcieeoaaPk08
import Derived.Test.YtnhaekifcieeoaaPk07
import Derived.Test.YtnhaekifcieeoaaPk06
import Derived.Test.YtnhaekifcieeoaaPk02
import Derived.Test.YtnhaekifcieeoaaPk01
namespace Go.Proofs.Ytnhaekifcieeoaa
open Go Go.RowKit
theorem outsF_len {l : List File} : ∀ {ts : List Str} {out o : List File}, outsF l ts out = some o → o.length ≤ out.length + ts.length
  | [], out, o, h => by cases h; simp
  | t :: ts, out, o, h => by
    rw [outsF] at h
    by_cases hb : getB t l = true
    · rw [if_pos hb] at h
      have := outsF_len h
      have := length_putL (key := fk) (t, getT t l) out
      rw [List.length_cons]
      omega
    · rw [if_neg hb] at h; cases h
abbrev kpF (F : Str → Option (RcdV × Rcd)) : Str → Option Value := fun s => (F s).map fun p => rcdV p.1 p.2
def KpR (w : World) (F : Str → Option (RcdV × Rcd)) : Prop := ∀ s p, F s = some p → RcdR w p.1 p.2 ∧ p.2.cmds.length ≤ 10000 ∧ p.2.needs.length ≤ 10000 ∧ p.2.out.length ≤ 10000
theorem KpR.ext {w v : World} {F : Str → Option (RcdV × Rcd)} (h : KpR w F) (hx : Ext w v) : KpR v F := fun s p e => ⟨(h s p e).1.ext hx, (h s p e).2⟩
def freshF (l : List File) (F : Str → Option (RcdV × Rcd)) (g : Grp) : Bool := match F (g.targets.headD []), outsF l g.targets [] with
  | some p, some o => sameR p.2 (recOf g l o)
  | _, _ => false
set_option maxRecDepth 100000 in
set_option maxHeartbeats 4000000 in
theorem fresh_c {w : World} {m : Option Nat} {F : Str → Option (RcdV × Rcd)} (hM : KpM w m (kpF F)) (hF : KpR w F) {a : RulA} {G : Grp} (ht : SlR strF w a.tA G.targets.length G.targets) (hn : SlR strF w a.nA G.needs.length G.needs) (hc : SlR strF w a.cA G.cmds.length G.cmds)
    (h1 : 1 ≤ G.targets.length) (h2 : G.targets.length ≤ 100) (h3 : G.needs.length ≤ 1000) (h4 : G.cmds.length ≤ 1000) (h5 : (G.targets.headD []).length ≤ 1000000)
    {lA : Option Addr} {lc : Nat} {l : List File} (hl : SlR fileF w lA l.length l) (hln : l.length ≤ 1000) (hr : Rise fk l) :
    Calls Try.prog 42 #[grpW (a, G), .slice lA l.length lc, .map m] w fun e w' => e = .returned (.bool (freshF l F G)) ∧ Ext w w' := by
  obtain ⟨w1, hw1⟩ : ∃ u, u = w.alloc (.cells #[.slice a.tA G.targets.length a.tc, .slice a.nA G.needs.length a.nc, .slice a.cA G.cmds.length a.cc, .bool G.phony] grpT) := ⟨_, rfl⟩
  obtain ⟨b2, hb2⟩ : ∃ b, b = w.heap.size := ⟨_, rfl⟩
  have x1 : Ext w w1 := by rw [hw1]; exact (Only.refl No w).alloc _
  have X1 := Lib.hid x1
  have C2 : Hid (Cs w1 b2 grpT #[.slice a.tA G.targets.length a.tc, .slice a.nA G.needs.length a.nc, .slice a.cA G.cmds.length a.cc, .bool G.phony]) := by rw [hw1, hb2]; exact Cs.new _ _ _
  obtain ⟨p1, n1, c1, p2, n2, c2, p3, n3, c3, hv⟩ : ∃ p1 n1 c1 p2 n2 c2 p3 n3 c3, (kpF F (G.targets.headD [])).getD zeroR = .agg #[.slice p1 n1 c1, .slice p2 n2 c2, .slice p3 n3 c3] := by
    cases hq : F (G.targets.headD []) with
    | none => exact ⟨_, _, _, _, _, _, _, _, _, by show (Option.map _ (F (G.targets.headD []))).getD _ = _; rw [hq]; rfl⟩
    | some p => exact ⟨_, _, _, _, _, _, _, _, _, by show (Option.map _ (F (G.targets.headD []))).getD _ = _; rw [hq]; rfl⟩
  have hiS : (kpF F (G.targets.headD [])).isSome = (F (G.targets.headD [])).isSome := by
    show (Option.map _ (F (G.targets.headD []))).isSome = _
    cases F (G.targets.headD []) <;> rfl
  have hv2 : Option.getD (Option.map (fun p : RcdV × Rcd => rcdV p.1 p.2) (F (G.targets.headD []))) zeroR = .agg #[.slice p1 n1 c1, .slice p2 n2 c2, .slice p3 n3 c3] := hv
  have HFi := Lib.hid (Find_c (hM.ext x1) (a := a) (ht.ext x1) h1 h5 hv)
  rw [hiS] at HFi
  have HO := Lib.hid (fun u (hu : Ext w1 u) => outs_c (a := a) (lc := lc) ((ht.ext x1).ext hu) h2 ((hl.ext x1).ext hu) (by omega) hr)
  have HOf := Lib.hid (fun u (hu : Ext w1 u) (B : Option Addr) (d : Nat) (o : List File) (ho : SlR fileF u B o.length o) (ho2 : o.length ≤ 1000) => Of_c (gv := ⟨a.tA, a.tc, a.nA, a.nc, a.cA, a.cc⟩) (c := lc) (d := d) (⟨(ht.ext x1).ext hu, (hn.ext x1).ext hu, (hc.ext x1).ext hu⟩ : GrpR u ⟨a.tA, a.tc, a.nA, a.nc, a.cA, a.cc⟩ G) ((hl.ext x1).ext hu) ho hr h4 h3 hln ho2)
  have HKR := Lib.hid (hF.ext x1)
  have HN3 := Lib.hid h3
  have HN4 := Lib.hid h4
  have HN2 := Lib.hid h2
  have HFF : Hid (freshF l F G = match F (G.targets.headD []), outsF l G.targets [] with
    | some p, some o => sameR p.2 (recOf G l o)
    | _, _ => false) := rfl
  have HLo := Lib.hid (fun o (e : outsF l G.targets [] = some o) => outsF_len e)
  generalize outsF l G.targets [] = OO at HFF HO HLo
  have HKh := Lib.hid (HKR.out (G.targets.headD []))
  generalize F (G.targets.headD []) = FF at HFF HFi hv2 HKh
  have HV := Lib.hid hv2
  have k0 : w1.cell? ⟨b2, 0, none⟩ = some (.slice a.tA G.targets.length a.tc) := C2.out.cell 0
  have k1 : w1.cell? ⟨b2, 1, none⟩ = some (.slice a.nA G.needs.length a.nc) := C2.out.cell 1
  have k2 : w1.cell? ⟨b2, 2, none⟩ = some (.slice a.cA G.cmds.length a.cc) := C2.out.cell 2
  have k3 : w1.cell? ⟨b2, 3, none⟩ = some (.bool G.phony) := C2.out.cell 3
  clear hM hF ht hn hc h1 h2 h3 h4 h5 hl hln hr hiS x1 hv hv2 HKR
  go_enter Try.func42, Try.ntmps42
  go_upto_region 1 with fail
  rw [← hw1, ← hb2]
  clear hw1 hb2
  go_wp2_with fail
  refine HFi.out.mono ?_
  rintro e u1 ⟨rfl, hu⟩
  have U1 := Lib.hid hu
  clear hu HFi
  obtain ⟨u2, hu2⟩ : ∃ u, u = u1.alloc (.cells #[.slice p1 n1 c1, .slice p2 n2 c2, .slice p3 n3 c3] rcT) := ⟨_, rfl⟩
  obtain ⟨b7, hb7⟩ : ∃ b, b = u1.heap.size := ⟨_, rfl⟩
  have x2 : Ext u1 u2 := by rw [hu2]; exact (Only.refl No u1).alloc _
  have C7 : Hid (Cs u2 b7 rcT #[.slice p1 n1 c1, .slice p2 n2 c2, .slice p3 n3 c3]) := by rw [hu2, hb7]; exact Cs.new _ _ _
  have U2 := Lib.hid (U1.out.then_ext x2)
  have HO2 := Lib.hid (HO.out u2 U2.out)
  have C22 := Lib.hid (C2.out.keep U2.out id)
  have j0 : u2.cell? ⟨b2, 0, none⟩ = some (.slice a.tA G.targets.length a.tc) := C22.out.cell 0
  have j1 : u2.cell? ⟨b2, 1, none⟩ = some (.slice a.nA G.needs.length a.nc) := C22.out.cell 1
  have j2 : u2.cell? ⟨b2, 2, none⟩ = some (.slice a.cA G.cmds.length a.cc) := C22.out.cell 2
  have j3 : u2.cell? ⟨b2, 3, none⟩ = some (.bool G.phony) := C22.out.cell 3
  clear x2 k0 k1 k2 k3 HO
  go_upto_region 2 with fail
  rw [← hu2, ← hb7]
  clear hu2 hb7
  go_wp2_with fail
  refine HO2.out.mono ?_
  rintro e u3 ⟨hres, hu⟩
  have U3 := Lib.hid hu
  have HRes := Lib.hid hres
  clear hu hres HO2
  cases FF with
  | none =>
    have HB : Hid (freshF l F G = false) := HFF.out
    cases OO with
    | none =>
      obtain rfl := HRes.out
      go_upto_region 3 with fail
      refine Mix.wp_draw [9, 10] 100 (Cl u3 No) (by kernel_rfl) (by kernel_rfl) (Cl.of (Only.refl _ _).drew) ?_
      (repeat' (first | (refine Mix.lex_quiet0 rfl rfl rfl ?_; intro K hK; go_big_quiet_op; go_big_quiet_on) | (refine Mix.lex_quietG rfl rfl rfl (by with_reducible rfl) rfl rfl ?_; intro K hK; go_big_quiet_op; go_big_quiet_on) | ((first | refine Mix.lex_skipT rfl rfl rfl (by with_reducible rfl) ?_ | refine Mix.lex_skipF rfl rfl rfl (by with_reducible rfl) ?_ | refine Mix.lex_skipU rfl rfl rfl (by with_reducible rfl) ?_); simp only [Act.put, List.setIfInBounds_toArray, List.set_cons_succ, List.set_cons_zero]) | (refine Mix.lex_part rfl rfl rfl rfl (fun hq => ?_) (fun hq => ?_) <;> (fail_if_success (guard_hyp hq :ₛ true = true)) <;> (fail_if_success (guard_hyp hq :ₛ false = false)) <;> first | (exfalso; cases hq; done) | (exfalso; simp only [decide_eq_true_eq, decide_eq_false_iff_not, beq_iff_eq, beq_eq_false_iff_ne, ne_eq, Int.not_lt, Int.not_le] at hq; omega) | simp only [Act.put, List.setIfInBounds_toArray, List.set_cons_succ, List.set_cons_zero])))
      refine Mix.lex_nil ?_
      go_wp2_with fail
      go_ret
      exact ⟨by rw [HB.out]; rfl, ((X1.out.then_ext U2.out).then_ext U3.out).drew⟩
    | some o =>
      obtain ⟨A, c, rfl, _⟩ := HRes.out
      go_upto_region 3 with fail
      refine Mix.wp_draw [9, 10] 100 (Cl u3 No) (by kernel_rfl) (by kernel_rfl) (Cl.of (Only.refl _ _).drew) ?_
      (repeat' (first | (refine Mix.lex_quiet0 rfl rfl rfl ?_; intro K hK; go_big_quiet_op; go_big_quiet_on) | (refine Mix.lex_quietG rfl rfl rfl (by with_reducible rfl) rfl rfl ?_; intro K hK; go_big_quiet_op; go_big_quiet_on) | ((first | refine Mix.lex_skipT rfl rfl rfl (by with_reducible rfl) ?_ | refine Mix.lex_skipF rfl rfl rfl (by with_reducible rfl) ?_ | refine Mix.lex_skipU rfl rfl rfl (by with_reducible rfl) ?_); simp only [Act.put, List.setIfInBounds_toArray, List.set_cons_succ, List.set_cons_zero]) | (refine Mix.lex_part rfl rfl rfl rfl (fun hq => ?_) (fun hq => ?_) <;> (fail_if_success (guard_hyp hq :ₛ true = true)) <;> (fail_if_success (guard_hyp hq :ₛ false = false)) <;> first | (exfalso; cases hq; done) | (exfalso; simp only [decide_eq_true_eq, decide_eq_false_iff_not, beq_iff_eq, beq_eq_false_iff_ne, ne_eq, Int.not_lt, Int.not_le] at hq; omega) | simp only [Act.put, List.setIfInBounds_toArray, List.set_cons_succ, List.set_cons_zero])))
      refine Mix.lex_nil ?_
      go_wp2_with fail
      go_ret
      exact ⟨by rw [HB.out]; rfl, ((X1.out.then_ext U2.out).then_ext U3.out).drew⟩
  | some p =>
    cases OO with
    | none =>
      have HB : Hid (freshF l F G = false) := HFF.out
      obtain rfl := HRes.out
      go_upto_region 3 with fail
      refine Mix.wp_draw [9, 10] 100 (Cl u3 No) (by kernel_rfl) (by kernel_rfl) (Cl.of (Only.refl _ _).drew) ?_
      (repeat' (first | (refine Mix.lex_quiet0 rfl rfl rfl ?_; intro K hK; go_big_quiet_op; go_big_quiet_on) | (refine Mix.lex_quietG rfl rfl rfl (by with_reducible rfl) rfl rfl ?_; intro K hK; go_big_quiet_op; go_big_quiet_on) | ((first | refine Mix.lex_skipT rfl rfl rfl (by with_reducible rfl) ?_ | refine Mix.lex_skipF rfl rfl rfl (by with_reducible rfl) ?_ | refine Mix.lex_skipU rfl rfl rfl (by with_reducible rfl) ?_); simp only [Act.put, List.setIfInBounds_toArray, List.set_cons_succ, List.set_cons_zero]) | (refine Mix.lex_part rfl rfl rfl rfl (fun hq => ?_) (fun hq => ?_) <;> (fail_if_success (guard_hyp hq :ₛ true = true)) <;> (fail_if_success (guard_hyp hq :ₛ false = false)) <;> first | (exfalso; cases hq; done) | (exfalso; simp only [decide_eq_true_eq, decide_eq_false_iff_not, beq_iff_eq, beq_eq_false_iff_ne, ne_eq, Int.not_lt, Int.not_le] at hq; omega) | simp only [Act.put, List.setIfInBounds_toArray, List.set_cons_succ, List.set_cons_zero])))
      refine Mix.lex_nil ?_
      go_wp2_with fail
      go_ret
      exact ⟨by rw [HB.out]; rfl, ((X1.out.then_ext U2.out).then_ext U3.out).drew⟩
    | some o =>
      obtain ⟨⟨cA, cc, nA, nc, oA, oc⟩, r⟩ := p
      have HB : Hid (freshF l F G = sameR r (recOf G l o)) := HFF.out
      obtain ⟨A, c, rfl, hrow⟩ := HRes.out
      have HV2 : (Value.agg #[.slice cA r.cmds.length cc, .slice nA r.needs.length nc, .slice oA r.out.length oc]) = .agg #[.slice p1 n1 c1, .slice p2 n2 c2, .slice p3 n3 c3] := HV.out
      injection HV2 with HV2
      simp only [Array.mk.injEq, List.cons.injEq, Value.slice.injEq, and_true] at HV2
      obtain ⟨⟨rfl, rfl, rfl⟩, ⟨rfl, rfl, rfl⟩, rfl, rfl, rfl⟩ := HV2
      have hol := HLo.out o rfl
      obtain ⟨ud, hud⟩ : ∃ v, v = u3.drew := ⟨_, rfl⟩
      have XD : Ext u3 ud := by rw [hud]; exact (Only.refl No u3).drew
      have UD := Lib.hid (U3.out.then_ext XD)
      have HRow := Lib.hid (hrow.ext XD)
      have C7D := Lib.hid (C7.out.keep UD.out id)
      have C2D := Lib.hid (C22.out.keep UD.out id)
      have hlen : o.length ≤ 100 := by have := HN2.out; simp only [List.length_nil] at hol; omega
      have HOf2 := Lib.hid (HOf.out ud (U2.out.then_ext UD.out) A c o HRow.out (by omega))
      obtain ⟨R, hR⟩ : ∃ R, R = recOf G l o := ⟨_, rfl⟩
      have hRc : R.cmds.length ≤ 10000 ∧ R.needs.length ≤ 10000 ∧ R.out.length ≤ 10000 := by
        rw [hR]
        have h1 := HN4.out
        have h2 := HN3.out
        have h3 := nedF_len l G.needs
        exact ⟨by show G.cmds.length ≤ _; omega, by show (nedF l G.needs).length ≤ _; omega, by show o.length ≤ _; omega⟩
      have HRc := Lib.hid hRc
      have HK := Lib.hid (HKh.out _ rfl)
      rw [← hR] at HOf2 HB
      have d0 : ∀ ξ : X ud No, ξ.v.cell? ⟨b7, 0, none⟩ = some (.slice cA r.cmds.length cc) := C7D.out.x id 0
      have d1 : ∀ ξ : X ud No, ξ.v.cell? ⟨b7, 1, none⟩ = some (.slice nA r.needs.length nc) := C7D.out.x id 1
      have d2 : ∀ ξ : X ud No, ξ.v.cell? ⟨b7, 2, none⟩ = some (.slice oA r.out.length oc) := C7D.out.x id 2
      have e0 : ∀ ξ : X ud No, ξ.v.cell? ⟨b2, 0, none⟩ = some (.slice a.tA G.targets.length a.tc) := C2D.out.x id 0
      have e1 : ∀ ξ : X ud No, ξ.v.cell? ⟨b2, 1, none⟩ = some (.slice a.nA G.needs.length a.nc) := C2D.out.x id 1
      have e2 : ∀ ξ : X ud No, ξ.v.cell? ⟨b2, 2, none⟩ = some (.slice a.cA G.cmds.length a.cc) := C2D.out.x id 2
      have e3 : ∀ ξ : X ud No, ξ.v.cell? ⟨b2, 3, none⟩ = some (.bool G.phony) := C2D.out.x id 3
      clear hol hR hrow XD hRc j0 j1 j2 j3 HLo HOf HFF HKh
      go_upto_region 3 with fail
      refine Mix.wp_draw [9, 10] 100 (Cl ud No) (by kernel_rfl) (by kernel_rfl) (by rw [hud]; exact Cl.of (Only.refl _ _)) ?_
      rw [← hud]
      clear hud
      (repeat' (first | (refine Mix.lex_quiet0 rfl rfl rfl ?_; intro K hK; go_big_quiet_op; go_big_quiet_on) | (refine Mix.lex_quietG rfl rfl rfl (by with_reducible rfl) rfl rfl ?_; intro K hK; go_big_quiet_op; go_big_quiet_on) | ((first | refine Mix.lex_skipT rfl rfl rfl (by with_reducible rfl) ?_ | refine Mix.lex_skipF rfl rfl rfl (by with_reducible rfl) ?_ | refine Mix.lex_skipU rfl rfl rfl (by with_reducible rfl) ?_); simp only [Act.put, List.setIfInBounds_toArray, List.set_cons_succ, List.set_cons_zero]) | (refine Mix.lex_part rfl rfl rfl rfl (fun hq => ?_) (fun hq => ?_) <;> (fail_if_success (guard_hyp hq :ₛ true = true)) <;> (fail_if_success (guard_hyp hq :ₛ false = false)) <;> first | (exfalso; cases hq; done) | (exfalso; simp only [decide_eq_true_eq, decide_eq_false_iff_not, beq_iff_eq, beq_eq_false_iff_ne, ne_eq, Int.not_lt, Int.not_le] at hq; omega) | simp only [Act.put, List.setIfInBounds_toArray, List.set_cons_succ, List.set_cons_zero])))
      ((first | refine Mix.lex_goes0 rfl rfl ?_ | refine Mix.lex_goesG rfl rfl rfl (by with_reducible rfl) rfl ?_); intro K hK; go_simp)
      refine HOf2.out.mono ?_
      rintro e u4 ⟨V, rfl, hq, hu⟩
      have U4 := Lib.hid hu
      have HS := Lib.hid (Same_c (HK.out.1.ext ((U2.out.then_ext UD.out).then_ext U4.out)) hq HK.out.2 HRc.out)
      refine ⟨_, rfl, hK _ _ (fun _ => Cl.of U4.out) ?_⟩
      clear hK K hu hq
      simp only [Act.put, List.setIfInBounds_toArray, List.set_cons_succ, List.set_cons_zero]
      obtain ⟨ξ4, rfl⟩ : ∃ ξ : X ud No, u4 = ξ.v := ⟨⟨u4, U4.out⟩, rfl⟩
      (repeat' (refine Mix.lex_quiet0 rfl rfl rfl ?_; intro K hK; go_big_quiet_op; go_big_quiet_on))
      ((first | refine Mix.lex_goes0 rfl rfl ?_ | refine Mix.lex_goesG rfl rfl rfl (by with_reducible rfl) rfl ?_); intro K hK; go_simp)
      refine HS.out.mono ?_
      rintro e u5 ⟨rfl, hu⟩
      have U5 := Lib.hid (ξ4.h.then_ext hu)
      refine ⟨_, rfl, hK _ _ (fun _ => Cl.of U5.out) ?_⟩
      clear hK K hu
      simp only [Act.put, List.setIfInBounds_toArray, List.set_cons_succ, List.set_cons_zero]
      obtain ⟨sb, hsb⟩ : ∃ b, b = sameR r R := ⟨_, rfl⟩
      rw [← hsb] at HB ⊢
      clear hsb d0 d1 d2 e0 e1 e2 e3
      (repeat' (refine Mix.lex_quiet0 rfl rfl rfl ?_; intro K hK; go_big_quiet_op; go_big_quiet_on))
      refine Mix.lex_nil ?_
      go_wp2_with fail
      go_ret
      exact ⟨by rw [HB.out]; rfl, (X1.out.then_ext (U2.out.then_ext UD.out)).then_ext U5.out⟩
theorem ktL_at {ks : List (RcdV × Str × Rcd)} {s : Str} {k : Nat} {x : RcdV × Str × Rcd} (hx : ks[k]? = some x) : ktL (ks.drop k) s = if x.2.1 = s then some (x.1, x.2.2) else ktL (ks.drop (k + 1)) s := by
  obtain ⟨h1, h2⟩ := List.getElem?_eq_some_iff.1 hx
  rw [List.drop_eq_getElem_cons h1, h2, ktL, List.find?_cons]
  by_cases h : x.2.1 = s
  · rw [if_pos h]; simp [h]
  · rw [if_neg h]; simp [show ¬ s = x.2.1 from fun e => h e.symm, ktL]
def KtsR (w : World) (A : Option Addr) (ks : List (RcdV × Str × Rcd)) : Prop := SlR ktF w A ks.length ks ∧ ∀ x ∈ ks, RcdR w x.1 x.2.2 ∧ x.2.2.cmds.length ≤ 10000 ∧ x.2.2.needs.length ≤ 10000 ∧ x.2.2.out.length ≤ 10000
theorem KtsR.ext {w v : World} {A : Option Addr} {ks : List (RcdV × Str × Rcd)} (h : KtsR w A ks) (hx : Ext w v) : KtsR v A ks := ⟨h.1.ext hx, fun x e => ⟨(h.2 x e).1.ext hx, (h.2 x e).2⟩⟩
theorem KtsR.kp {w : World} {A : Option Addr} {ks : List (RcdV × Str × Rcd)} (h : KtsR w A ks) : KpR w (ktL ks) := fun s p e => by
  unfold ktL at e
  obtain ⟨x, hx, rfl⟩ := Option.map_eq_some_iff.1 e
  exact h.2 x (List.mem_of_find?_eq_some hx)
set_option maxRecDepth 100000 in
set_option maxHeartbeats 4000000 in
theorem RFresh_c {w : World} {kA : Option Addr} {kc : Nat} {ks : List (RcdV × Str × Rcd)} (hK : KtsR w kA ks) (hkn : ks.length ≤ 1000) {a : RulA} {G : Grp} (ht : SlR strF w a.tA G.targets.length G.targets) (hn : SlR strF w a.nA G.needs.length G.needs) (hc : SlR strF w a.cA G.cmds.length G.cmds)
    (h1 : 1 ≤ G.targets.length) (h2 : G.targets.length ≤ 100) (h3 : G.needs.length ≤ 1000) (h4 : G.cmds.length ≤ 1000)
    {lA : Option Addr} {lc : Nat} {l : List File} (hl : SlR fileF w lA l.length l) (hln : l.length ≤ 1000) :
    Calls Try.prog 44 #[grpW (a, G), .slice lA l.length lc, .slice kA ks.length kc] w fun e w' => e = .returned (.bool (freshF l (ktL ks) G)) ∧ Ext w w' := by
  obtain ⟨tA, tc, nA, nc, cA, cc⟩ := a
  obtain ⟨w1, hw1⟩ : ∃ u, u = w.alloc (.cells #[.slice tA G.targets.length tc, .slice nA G.needs.length nc, .slice cA G.cmds.length cc, .bool G.phony] grpT) := ⟨_, rfl⟩
  obtain ⟨b3, hb3⟩ : ∃ b, b = w.heap.size := ⟨_, rfl⟩
  have x1 : Ext w w1 := by rw [hw1]; exact (Only.refl No w).alloc _
  have X1 := Lib.hid x1
  have C3 : Hid (Cs w1 b3 grpT #[.slice tA G.targets.length tc, .slice nA G.needs.length nc, .slice cA G.cmds.length cc, .bool G.phony]) := by rw [hw1, hb3]; exact Cs.new _ _ _
  have HT : Hid (SlR strF w1 tA G.targets.length G.targets) := SlR.ext ht x1
  have HL := Lib.hid (hl.ext x1)
  have HKS := Lib.hid (hK.ext x1)
  have HOf := Lib.hid (fun u (hu : Ext w1 u) (B : Option Addr) (d : Nat) (o : List File) (ho : SlR fileF u B o.length o) (ho2 : o.length ≤ 1000) => RecordOf_c (gv := ⟨tA, tc, nA, nc, cA, cc⟩) (c := lc) (d := d) (⟨(SlR.ext ht x1).ext hu, (SlR.ext hn x1).ext hu, (SlR.ext hc x1).ext hu⟩ : GrpR u ⟨tA, tc, nA, nc, cA, cc⟩ G) ((hl.ext x1).ext hu) ho h4 h3 hln ho2)
  have HFF : Hid (freshF l (ktL ks) G = match ktL ks (G.targets.headD []), outsF l G.targets [] with
    | some p, some o => sameR p.2 (recOf G l o)
    | _, _ => false) := rfl
  have HLo := Lib.hid (fun o (e : outsF l G.targets [] = some o) => outsF_len e)
  have HN2 := Lib.hid h2
  have HN3 := Lib.hid h3
  have HN4 := Lib.hid h4
  have Hln := Lib.hid hln
  have Hkn := Lib.hid hkn
  have H1 := Lib.hid h1
  clear hK ht hn hc h1 h3 h4 hl x1
  go_enter Try.func44, Try.ntmps44
  go_upto_region 1 with fail
  rw [← hw1, ← hb3]
  clear hw1 hb3
  go_wp2_with fail
  go_loopw [7, 8] (fun ov i wr => ∃ k : Nat, k ≤ G.targets.length ∧ i = .int .i64 k ∧ ∃ (A : Option Addr) (c : Nat) (o : List File), ov = .slice A o.length c ∧ SlR fileF wr A o.length o ∧ o.length ≤ k ∧ outsF l (G.targets.drop k) o = outsF l G.targets [] ∧ Ext w1 wr) (fun _ i _ => G.targets.length - (intOf i).toNat)
  case atStart => exact ⟨0, Nat.zero_le _, rfl, none, 0, [], rfl, SlR.none_, Nat.le_refl _, rfl, Only.refl _ _⟩
  case round =>
    obtain ⟨k, hk, rfl, A, c, o, rfl, hO, hol, hE, hx⟩ := hrel
    have HO := Lib.hid hO
    have HE := Lib.hid hE
    have XR := Lib.hid hx
    have k0 : wr.cell? ⟨b3, 0, none⟩ = some (.slice tA G.targets.length tc) := (C3.out.keep hx id).cell 0
    clear hO hE hx
    by_cases hlt : k < G.targets.length
    · obtain ⟨bt, ot, t, rfl, hti, ct⟩ := strs_get HT.out hlt
      have e0 : wr.cell? ⟨bt, ot + k, none⟩ = some (S t) := ct ⟨wr, XR.out⟩
      have HS := Lib.hid (outsF_step (l := l) (out := o) hti)
      have HG := Lib.hid (RGet_c (c := lc) (HL.out.ext XR.out) (by have := Hln.out; omega) t)
      obtain ⟨gt, hgt⟩ : ∃ g, g = getT t l := ⟨_, rfl⟩
      obtain ⟨gb, hgb⟩ : ∃ g, g = getB t l := ⟨_, rfl⟩
      rw [← hgt, ← hgb] at HG HS
      have CT := Lib.hid ct
      clear hti ct hgt hgb
      go_wp2_with fail
      refine HG.out.mono ?_
      rintro e u ⟨rfl, hu⟩
      have XU := Lib.hid (XR.out.then_ext hu)
      have HO2 := Lib.hid (HO.out.ext hu)
      have k0 : u.cell? ⟨b3, 0, none⟩ = some (.slice (some ⟨bt, ot, none⟩) G.targets.length tc) := (C3.out.keep XU.out id).cell 0
      have e0 : u.cell? ⟨bt, ot + k, none⟩ = some (S t) := CT.out ⟨u, XU.out⟩
      clear hu HG
      cases gb with
      | false =>
        have HN : Hid (outsF l G.targets [] = none) := by rw [Hid, ← HE.out, HS.out]; rfl
        have HR : Hid (freshF l (ktL ks) G = false) := by rw [Hid, HFF.out, HN.out]; cases ktL ks (G.targets.headD []) <;> rfl
        go_wp2_with fail
        go_ret
        rw [HR.out]
        exact ⟨rfl, X1.out.then_ext XU.out⟩
      | true =>
        have HP := Lib.hid (RPut_c (c := c) HO2.out (by omega) (t, gt))
        have hpl := length_putL (key := fk) (t, gt) o
        have HE2 : Hid (outsF l (G.targets.drop (k + 1)) (putL fk (t, gt) o) = outsF l G.targets []) := by rw [Hid, ← HE.out, HS.out]; rfl
        obtain ⟨P, hP⟩ : ∃ P, P = putL fk (t, gt) o := ⟨_, rfl⟩
        rw [← hP] at HP hpl HE2
        clear hP
        go_wp2_with fail
        refine HP.out.mono ?_
        rintro e z ⟨A', c', rfl, hF⟩
        have HF := Lib.hid hF
        clear hF HP
        have hpl2 : P.length ≤ k + 1 := by omega
        clear hpl
        go_wp2_with fail
        go_roundw
        case rel => exact ⟨k + 1, by omega, by go_num, A', c', P, rfl, HF.out.row (by decide), hpl2, HE2.out, XU.out.then_ext HF.out.ext⟩
        case measure => simp [intOf]; omega
    · obtain rfl : k = G.targets.length := by omega
      have HN : Hid (outsF l G.targets [] = some o) := by rw [Hid, ← HE.out, List.drop_of_length_le (Nat.le_refl _)]; rfl
      have hol2 : o.length ≤ 100 := by omega
      have Hol := Lib.hid hol2
      obtain ⟨bt, ot, t, rfl, hti, ct⟩ := strs_get HT.out (show 0 < G.targets.length by have := H1.out; omega)
      have hhd : G.targets.headD [] = t := by
        cases htl : G.targets with
        | nil => rw [htl] at hti; cases hti
        | cons p r => rw [htl] at hti; exact Option.some.inj hti
      have HFG : Hid (freshF l (ktL ks) G = match ktL ks t with
        | some p => sameR p.2 (recOf G l o)
        | none => false) := by rw [Hid, HFF.out, HN.out, hhd]; cases ktL ks t <;> rfl
      have CT := Lib.hid ct
      clear hti ct hhd hol2 HFF HE HLo
      rename World => wl
      go_wp2_with fail
      go_loopw [11] (fun i wr => ∃ k : Nat, k ≤ ks.length ∧ i = .int .i64 k ∧ ktL (ks.drop k) t = ktL ks t ∧ Ext wl wr) (fun i _ => ks.length - (intOf i).toNat)
      case atStart => exact ⟨0, Nat.zero_le _, rfl, rfl, Only.refl _ _⟩
      case round =>
        clear k0
        obtain ⟨k, hk, rfl, hE, hx⟩ := hrel
        have HE := Lib.hid hE
        have XK := Lib.hid (XR.out.then_ext hx)
        have XL := Lib.hid hx
        have HO2 := Lib.hid (HO.out.ext hx)
        clear hE hx
        by_cases hlk : k < ks.length
        · obtain ⟨bs, so, ⟨⟨dA, dc, mA, mc, pA, pc⟩, nm, r⟩, rfl, hks, d0, d1, d2, d3⟩ := kts_get HKS.out.1 hlk
          have f0 : ∀ ξ : X wr No, ξ.v.cell? ⟨bs, so + k * 4, none⟩ = some (S nm) := fun ξ => d0 ⟨ξ.v, XK.out.then_ext ξ.h⟩
          have f1 : ∀ ξ : X wr No, ξ.v.cell? ⟨b3, 0, none⟩ = some (.slice (some ⟨bt, ot, none⟩) G.targets.length tc) := (C3.out.keep XK.out id).x id 0
          have f2 : ∀ ξ : X wr No, ξ.v.cell? ⟨bt, ot, none⟩ = some (S t) := fun ξ => CT.out ⟨ξ.v, XK.out.then_ext ξ.h⟩
          have HKA := Lib.hid (ktL_at (s := t) hks)
          have HD1 := Lib.hid d1
          have HD2 := Lib.hid d2
          have HD3 := Lib.hid d3
          have HRr := Lib.hid (HKS.out.2 _ (List.mem_of_getElem? hks))
          have hlt0 : 0 < G.targets.length := by have := H1.out; omega
          clear d0 d1 d2 d3 hks
          by_cases hnm : nm = t
          · have t1 : (nm == t) = true := by rw [beq_iff_eq]; exact hnm
            have HV : Hid (freshF l (ktL ks) G = sameR r (recOf G l o)) := by rw [Hid, HFG.out, ← HE.out, HKA.out, if_pos hnm]
            go_upto_region 12 with fail
            (refine Mix.wp_draw [] 100 (Cl (wr) (No)) (by kernel_rfl) (by kernel_rfl) (Cl.drew_ (X.here wr No)) ?_; (repeat' (first | (refine Mix.lex_quiet0 rfl rfl rfl ?_; intro K hK; go_big_quiet_op; go_big_quiet_on) | (refine Mix.lex_quietG rfl rfl rfl (by with_reducible rfl) rfl rfl ?_; intro K hK; go_big_quiet_op; go_big_quiet_on) | ((first | refine Mix.lex_skipT rfl rfl rfl (by with_reducible rfl) ?_ | refine Mix.lex_skipF rfl rfl rfl (by with_reducible rfl) ?_ | refine Mix.lex_skipU rfl rfl rfl (by with_reducible rfl) ?_); simp only [Act.put, List.setIfInBounds_toArray, List.set_cons_succ, List.set_cons_zero]) | (refine Mix.lex_part rfl rfl rfl rfl (fun hq => ?_) (fun hq => ?_) <;> (fail_if_success (guard_hyp hq :ₛ true = true)) <;> (fail_if_success (guard_hyp hq :ₛ false = false)) <;> first | (exfalso; cases hq; done) | (exfalso; simp only [decide_eq_true_eq, decide_eq_false_iff_not, beq_iff_eq, beq_eq_false_iff_ne, ne_eq, Int.not_lt, Int.not_le] at hq; omega) | simp only [Act.put, List.setIfInBounds_toArray, List.set_cons_succ, List.set_cons_zero]))))
            all_goals (refine Mix.lex_nil ?_)
            obtain ⟨ud, hud⟩ : ∃ v, v = wr.drew.drew := ⟨_, rfl⟩
            have XD : Ext wr ud := by rw [hud]; exact (Only.refl No wr).drew.drew
            have UD := Lib.hid (XK.out.then_ext XD)
            have HO3 := Lib.hid (HO2.out.ext XD)
            have HOf2 := Lib.hid (HOf.out ud UD.out A c o HO3.out (by have := Hol.out; omega))
            obtain ⟨R, hR⟩ : ∃ R, R = recOf G l o := ⟨_, rfl⟩
            have hRc : R.cmds.length ≤ 10000 ∧ R.needs.length ≤ 10000 ∧ R.out.length ≤ 10000 := by
              rw [hR]
              have h1 := HN4.out
              have h2 := HN3.out
              have h3 := nedF_len l G.needs
              have h4 := Hol.out
              exact ⟨by show G.cmds.length ≤ _; omega, by show (nedF l G.needs).length ≤ _; omega, by show o.length ≤ _; omega⟩
            have HRc := Lib.hid hRc
            rw [← hR] at HOf2 HV
            have g1 : ∀ ξ : X ud No, ξ.v.cell? ⟨bs, so + k * 4 + 1, none⟩ = some (.slice dA r.cmds.length dc) := fun ξ => HD1.out ⟨ξ.v, UD.out.then_ext ξ.h⟩
            have g2 : ∀ ξ : X ud No, ξ.v.cell? ⟨bs, so + k * 4 + 2, none⟩ = some (.slice mA r.needs.length mc) := fun ξ => HD2.out ⟨ξ.v, UD.out.then_ext ξ.h⟩
            have g3 : ∀ ξ : X ud No, ξ.v.cell? ⟨bs, so + k * 4 + 3, none⟩ = some (.slice pA r.out.length pc) := fun ξ => HD3.out ⟨ξ.v, UD.out.then_ext ξ.h⟩
            have C3D := Lib.hid (C3.out.keep UD.out id)
            have e0 : ∀ ξ : X ud No, ξ.v.cell? ⟨b3, 0, none⟩ = some (.slice (some ⟨bt, ot, none⟩) G.targets.length tc) := C3D.out.x id 0
            have e1 : ∀ ξ : X ud No, ξ.v.cell? ⟨b3, 1, none⟩ = some (.slice nA G.needs.length nc) := C3D.out.x id 1
            have e2 : ∀ ξ : X ud No, ξ.v.cell? ⟨b3, 2, none⟩ = some (.slice cA G.cmds.length cc) := C3D.out.x id 2
            have e3 : ∀ ξ : X ud No, ξ.v.cell? ⟨b3, 3, none⟩ = some (.bool G.phony) := C3D.out.x id 3
            clear hR hRc XD f0 f1 f2
            go_upto_region 13 with fail
            refine Mix.wp_draw [8, 9] 100 (Cl ud No) (by kernel_rfl) (by kernel_rfl) (by rw [hud]; exact Cl.of (Only.refl _ _)) ?_
            rw [← hud]
            clear hud
            (repeat' (refine Mix.lex_quiet0 rfl rfl rfl ?_; intro K hK; go_big_quiet_op; go_big_quiet_on))
            ((first | refine Mix.lex_goes0 rfl rfl ?_ | refine Mix.lex_goesG rfl rfl rfl (by with_reducible rfl) rfl ?_); intro K hK; go_simp)
            refine HOf2.out.mono ?_
            rintro e u4 ⟨V, rfl, hq, hu⟩
            have U4 := Lib.hid hu
            have HS := Lib.hid (SameRecord_c (HRr.out.1.ext (UD.out.then_ext U4.out)) hq HRr.out.2 HRc.out)
            refine ⟨_, rfl, hK _ _ (fun _ => Cl.of U4.out) ?_⟩
            clear hK K hu hq
            simp only [Act.put, List.setIfInBounds_toArray, List.set_cons_succ, List.set_cons_zero]
            obtain ⟨ξ4, rfl⟩ : ∃ ξ : X ud No, u4 = ξ.v := ⟨⟨u4, U4.out⟩, rfl⟩
            (repeat' (refine Mix.lex_quiet0 rfl rfl rfl ?_; intro K hK; go_big_quiet_op; go_big_quiet_on))
            ((first | refine Mix.lex_goes0 rfl rfl ?_ | refine Mix.lex_goesG rfl rfl rfl (by with_reducible rfl) rfl ?_); intro K hK; go_simp)
            refine HS.out.mono ?_
            rintro e u5 ⟨rfl, hu⟩
            have U5 := Lib.hid (ξ4.h.then_ext hu)
            refine ⟨_, rfl, hK _ _ (fun _ => Cl.of U5.out) ?_⟩
            clear hK K hu
            simp only [Act.put, List.setIfInBounds_toArray, List.set_cons_succ, List.set_cons_zero]
            obtain ⟨sb, hsb⟩ : ∃ b, b = sameR r R := ⟨_, rfl⟩
            rw [← hsb] at HV ⊢
            clear hsb g1 g2 g3 e0 e1 e2 e3
            (repeat' (refine Mix.lex_quiet0 rfl rfl rfl ?_; intro K hK; go_big_quiet_op; go_big_quiet_on))
            refine Mix.lex_nil ?_
            go_wp2_with fail
            go_ret
            exact ⟨by rw [HV.out]; rfl, X1.out.then_ext (UD.out.then_ext U5.out)⟩
          · have t1 : (nm == t) = false := by rw [beq_eq_false_iff_ne]; exact hnm
            have HE2 : Hid (ktL (ks.drop (k + 1)) t = ktL ks t) := by rw [Hid, ← HE.out, HKA.out, if_neg hnm]
            go_upto_region 12 with fail
            (refine Mix.wp_draw [] 100 (Cl (wr) (No)) (by kernel_rfl) (by kernel_rfl) (Cl.drew_ (X.here wr No)) ?_; (repeat' (first | (refine Mix.lex_quiet0 rfl rfl rfl ?_; intro K hK; go_big_quiet_op; go_big_quiet_on) | (refine Mix.lex_quietG rfl rfl rfl (by with_reducible rfl) rfl rfl ?_; intro K hK; go_big_quiet_op; go_big_quiet_on) | ((first | refine Mix.lex_skipT rfl rfl rfl (by with_reducible rfl) ?_ | refine Mix.lex_skipF rfl rfl rfl (by with_reducible rfl) ?_ | refine Mix.lex_skipU rfl rfl rfl (by with_reducible rfl) ?_); simp only [Act.put, List.setIfInBounds_toArray, List.set_cons_succ, List.set_cons_zero]) | (refine Mix.lex_part rfl rfl rfl rfl (fun hq => ?_) (fun hq => ?_) <;> (fail_if_success (guard_hyp hq :ₛ true = true)) <;> (fail_if_success (guard_hyp hq :ₛ false = false)) <;> first | (exfalso; cases hq; done) | (exfalso; simp only [decide_eq_true_eq, decide_eq_false_iff_not, beq_iff_eq, beq_eq_false_iff_ne, ne_eq, Int.not_lt, Int.not_le] at hq; omega) | simp only [Act.put, List.setIfInBounds_toArray, List.set_cons_succ, List.set_cons_zero]))))
            all_goals (refine Mix.lex_nil ?_)
            go_wp2_with fail
            go_roundw
            case rel => exact ⟨k + 1, by omega, by go_num, HE2.out, XL.out.drew⟩
            case measure => simp [intOf]; omega
        · obtain rfl : k = ks.length := by omega
          have HR : Hid (freshF l (ktL ks) G = false) := by
            rw [Hid, HFG.out, ← HE.out, List.drop_of_length_le (Nat.le_refl _)]
            rfl
          go_wp2_with fail
          go_ret
          rw [HR.out]
          exact ⟨rfl, X1.out.then_ext XK.out⟩
open Go Go.RowKit Go.ChangeShapes Go.WideShapes Go.Deep
section
variable {H : Type} {enc : TypeId × Value → H} {w : World} {base : Nat} {held : Bool}
set_option maxRecDepth 100000 in
theorem open_kept1 {fuel : Nat} {cs : List Value} {x : DataW H × List MemPlace} (h : DataW.trod enc Try.prog w base allP held fuel ktT cs = some x) :
    ∃ x : RcdV × Str × Rcd, cs = ktF.enc x ∧ RcdR w x.1 x.2.2 ∧ x.2.1.length ≤ maxLen ∧ x.2.2.cmds.length ≤ maxLen ∧ x.2.2.needs.length ≤ maxLen ∧ x.2.2.out.length ≤ maxLen := by
  obtain ⟨y0, y1, n, _, hl, h0, h1⟩ := trod_struct2 Try.underlying47 h
  have hC : Try.prog.cellsOf ktT = 4 := by kernel_rfl
  have hC0 : Try.prog.cellsOf 9 = 1 := by kernel_rfl
  have hC1 : Try.prog.cellsOf rcT = 3 := by kernel_rfl
  rw [hC] at hl
  obtain ⟨u0, u1, u2, u3, rfl⟩ : ∃ u0 u1 u2 u3, cs = [u0, u1, u2, u3] := by
    match cs, hl with
    | [u0, u1, u2, u3], _ => exact ⟨_, _, _, _, rfl⟩
  have h0 : DataW.trod enc Try.prog w base allP held n 9 (([u0, u1, u2, u3].drop 0).take (Try.prog.cellsOf 9)) = some y0 := h0
  have h1 : DataW.trod enc Try.prog w base allP held n rcT (([u0, u1, u2, u3].drop 1).take (Try.prog.cellsOf rcT)) = some y1 := h1
  rw [hC0] at h0
  rw [hC1] at h1
  have h0 : DataW.trod enc Try.prog w base allP held n 9 [u0] = some y0 := h0
  have h1 : DataW.trod enc Try.prog w base allP held n rcT [u1, u2, u3] = some y1 := h1
  obtain ⟨s, rfl, l0⟩ := open_str Try.underlying9 h0
  obtain ⟨xs, m, _, _, _, hlen, hf⟩ := DataW.trod_struct Try.underlying45 h1
  have f0 := hf 0 _ rfl
  have f1 := hf 1 _ rfl
  have f2 := hf 2 _ rfl
  have hS0 : Try.prog.cellsOf 23 = 1 := by kernel_rfl
  have hS1 : Try.prog.cellsOf 40 = 1 := by kernel_rfl
  obtain ⟨x0, x1, x2, rfl⟩ : ∃ u0 u1 u2, xs = [u0, u1, u2] := by
    match xs, hlen with
    | [u0, u1, u2], _ => exact ⟨_, _, _, rfl⟩
  have f0 : DataW.trod enc Try.prog w base allP held m 23 (([u1, u2, u3].drop 0).take (Try.prog.cellsOf 23)) = some x0 := f0
  have f1 : DataW.trod enc Try.prog w base allP held m 40 (([u1, u2, u3].drop 1).take (Try.prog.cellsOf 40)) = some x1 := f1
  have f2 : DataW.trod enc Try.prog w base allP held m 40 (([u1, u2, u3].drop 2).take (Try.prog.cellsOf 40)) = some x2 := f2
  rw [hS0] at f0
  rw [hS1] at f1 f2
  obtain ⟨tA, tn, tc, ts, rfl, s1, l1⟩ := open_strs_ f0
  obtain ⟨nA, nn, nc, ns, rfl, s2, l2⟩ := open_files f1
  obtain ⟨oA, on_, oc, os, rfl, s3, l3⟩ := open_files f2
  have e1 := s1.1; have e2 := s2.1; have e3 := s3.1
  subst e1; subst e2; subst e3
  exact ⟨(⟨tA, tc, nA, nc, oA, oc⟩, s, ⟨ts, ns, os⟩), rfl, ⟨s1, s2, s3⟩, l0, l1, l2, l3⟩
set_option maxRecDepth 100000 in
theorem arg_kept {r : Reach} {b0 : Nat} {v : Value} {d : DataW H} {p : List MemPlace} (hv : Value.okWide Try.prog w r b0 41 v) (h : DataW.Trod enc Try.prog w base allP held 41 v d p) :
    ∃ A c ks, v = .slice A ks.length c ∧ SlR ktF w A ks.length ks ∧ (∀ x ∈ ks, RcdR w x.1 x.2.2 ∧ x.2.1.length ≤ maxLen ∧ x.2.2.cmds.length ≤ maxLen ∧ x.2.2.needs.length ≤ maxLen ∧ x.2.2.out.length ≤ maxLen) ∧ ks.length ≤ maxLen := by
  obtain ⟨A, n, c, rfl⟩ := okWide_slice Try.underlying41 hv
  obtain ⟨fuel, hf⟩ := h
  have hf : DataW.trod enc Try.prog w base allP held fuel 41 [.slice A n c] = some (d, p) := hf
  rcases open_slice Try.underlying41 hf with ⟨h0, _⟩ | ⟨a, len, cap, m, n', D, Pl, hcs, _, hl, hm, hmm, _, hi⟩
  · injection h0 with h0
    injection h0 with h1 h2 h3
    subst h1; subst h2; subst h3
    exact ⟨none, 0, [], rfl, SlR.none_, (fun x hx => by cases hx), Nat.zero_le _⟩
  · injection hcs with hcs
    injection hcs with h1 h2 h3
    subst h1; subst h2; subst h3
    obtain ⟨ks, hkl, hk⟩ := list_of n (fun i (x : RcdV × Str × Rcd) => (RcdR w x.1 x.2.2 ∧ x.2.1.length ≤ maxLen ∧ x.2.2.cmds.length ≤ maxLen ∧ x.2.2.needs.length ≤ maxLen ∧ x.2.2.out.length ≤ maxLen) ∧ ∀ j u, (ktF.enc x)[j]? = some u → w.cell? (a.add (i * 4 + j)) = some u) fun i hi' => by
      obtain ⟨cs', hc, ht'⟩ := hi i (by rw [hmm]; simp only [allP, if_true]; omega)
      have hC : Try.prog.cellsOf 47 = 4 := by kernel_rfl
      rw [hC] at hc
      obtain ⟨x, rfl, hx⟩ := open_kept1 ht'
      obtain ⟨_, hcl, hat⟩ := World.cells?_some hc
      refine ⟨x, hx, fun j u hu => ?_⟩
      have hj : j < 4 := by have := (List.getElem?_eq_some_iff.1 hu).1; rwa [ktF.len x] at this
      rw [← Go.Deep.add_add, hat j hj]
      exact hu
    subst hkl
    refine ⟨some a, _, ks, rfl, ⟨rfl, fun h0 => ?_⟩, fun x hx' => ?_, by omega⟩
    · have hx0 := (hk 0 (ks[0]'h0) (List.getElem?_eq_getElem h0)).2 0 _ rfl
      obtain ⟨b, o, s⟩ := a
      have hs : s = none := by simpa [Addr.add] using World.cell?_spot hx0
      subst hs
      refine ⟨b, o, rfl, by simpa [Addr.add] using World.block_lt_of_cell? _ _ hx0, fun k x hk' j u hu => ?_⟩
      have := (hk k x hk').2 j u hu
      rw [Nat.add_assoc]
      show w.cell? ⟨b, o + (k * 4 + j), none⟩ = some u
      by_cases hz : k * 4 + j = 0
      · rw [hz] at this ⊢
        simpa [Addr.add] using this
      · unfold Addr.add at this
        rw [if_neg hz] at this
        exact this
    · obtain ⟨k, hk'⟩ := List.getElem?_of_mem hx'
      exact (hk k x hk').1
end
open Go Go.RowKit Go.ChangeShapes Go.WideShapes Go.Deep
def boolF : Flat Bool := ⟨1, fun b => [.bool b], fun _ => rfl⟩
section
variable {H : Type} {enc : TypeId × Value → H} {w : World} {base : Nat} {held : Bool}
set_option maxRecDepth 100000 in
theorem open_bools_ {fuel : Nat} {v0 : Value} {x : DataW H × List MemPlace} (h : DataW.trod enc Try.prog w base allP held fuel 42 [v0] = some x) :
    ∃ A n c xs, v0 = .slice A n c ∧ SlR boolF w A n xs ∧ n ≤ maxLen := by
  rcases open_slice Try.underlying42 h with ⟨h0, _⟩ | ⟨a, len, cap, m, n, D, Pl, hcs, _, hl, hm, hmm, _, hi⟩
  · injection h0 with h0; exact ⟨none, 0, 0, [], h0, SlR.none_, Nat.zero_le _⟩
  · injection hcs with hcs
    obtain ⟨xs, hxl, hx⟩ := list_of len (fun i (s : Bool) => w.cell? (a.add i) = some (.bool s)) fun i hi' => by
      obtain ⟨cs', hc, ht'⟩ := hi i (by rw [hmm]; simp only [allP, if_true]; omega)
      have hC : Try.prog.cellsOf 4 = 1 := by kernel_rfl
      rw [hC] at hc
      obtain ⟨_, hcl, hat⟩ := World.cells?_some hc
      have h0 := hat 0 (by omega)
      obtain ⟨v0, rfl⟩ : ∃ v0, cs' = [v0] := by
        match cs', hcl with
        | [v0], _ => exact ⟨v0, rfl⟩
      obtain ⟨s, hs⟩ := open_b Try.underlying4 ht'
      refine ⟨s, ?_⟩
      rw [hs] at h0
      simpa [add_add] using h0
    refine ⟨some a, len, cap, xs, hcs, ⟨hxl, fun h0 => ?_⟩, by omega⟩
    have hx0 := hx 0 (xs[0]'(by omega)) (List.getElem?_eq_getElem (by omega))
    obtain ⟨b, o, s⟩ := a
    have hs : s = none := by simpa [Addr.add] using World.cell?_spot hx0
    subst hs
    refine ⟨b, o, rfl, by simpa [Addr.add] using World.block_lt_of_cell? _ _ hx0, fun k x hk j u hu => ?_⟩
    have := hx k x hk
    match j, hu with
    | 0, hu =>
      injection hu with hu
      rw [← hu, Nat.add_zero, show boolF.size = 1 from rfl, Nat.mul_one]
      unfold Addr.add at this
      split at this
      · rename_i e; subst e; simpa using this
      · exact this
set_option maxRecDepth 100000 in
theorem arg_bools {r : Reach} {b0 : Nat} {v : Value} {d : DataW H} {p : List MemPlace} (hv : Value.okWide Try.prog w r b0 42 v) (h : DataW.Trod enc Try.prog w base allP held 42 v d p) :
    ∃ A n c xs, v = .slice A n c ∧ SlR boolF w A n xs ∧ n ≤ maxLen := by
  obtain ⟨A, n, c, rfl⟩ := okWide_slice Try.underlying42 hv
  obtain ⟨fuel, hf⟩ := h
  exact open_bools_ (v0 := .slice A n c) hf
end
end Go.Proofs.Ytnhaekifcieeoaa
