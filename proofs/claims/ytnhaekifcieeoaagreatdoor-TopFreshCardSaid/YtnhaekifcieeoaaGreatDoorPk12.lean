/- Put together: Un1, Mp, Kp, Gx2, Rp1. -/
import Derived.Test.YtnhaekifcieeoaaGreatDoorPk08
import Derived.Test.YtnhaekifcieeoaaGreatDoorPk11
import Derived.Test.YtnhaekifcieeoaaGreatDoorPk02
import Derived.Test.YtnhaekifcieeoaaGreatDoorPkS
import Derived.Maps.OwnSet
import Derived.Maps.Views
import Derived.Carry
import Derived.Test.YtnhaekifcieeoaaGreatDoorPk06
import Derived.Test.YtnhaekifcieeoaaGreatDoorPk10
import Derived.Test.YtnhaekifcieeoaaGreatDoorProg
import Derived.Test.YtnhaekifcieeoaaGreatDoorPk04
import Derived.Laws.MakeOwn
import Derived.Test.YtnhaekifcieeoaaGreatDoorPk09
namespace Go.Proofs.YtnhaekifcieeoaaGreatDoor
open Go Go.RowKit
structure GBu (G : Grp) : Prop where
  c : G.cmds.length ≤ 100
  n : G.needs.length ≤ 100
  t : G.targets.length ≤ 100
  lc : ∀ x ∈ G.cmds, x.length ≤ 1000
  ln : ∀ x ∈ G.needs, x.length ≤ 10000
  lt : ∀ x ∈ G.targets, x.length ≤ 10000
theorem GBu.lim {G : Grp} (h : GBu G) : G.Lim := ⟨by have := h.t; omega, by have := h.n; omega, by have := h.c; omega, h.lc⟩
structure FBu (l : List File) : Prop where
  n : l.length ≤ 1000
  r : Rise fk l
  x : ∀ f ∈ l, f.1.length ≤ 10000 ∧ f.2.length ≤ 1000
def OneRes (w : World) (l : List File) (G : Grp) (e : Ending) (w' : World) : Prop :=
  ∃ (A : Option Addr) (c : Nat) (V : RcdV), e = .returned (.tuple #[.slice A (oneF l G).1.1.length c, rcdV V (oneF l G).1.2, errV (oneF l G).2]) ∧ SlR fileF w' A (oneF l G).1.1.length (oneF l G).1.1 ∧ RcdR w' V (oneF l G).1.2 ∧ Ext w w'
theorem RcdR.zero (w : World) : RcdR w ⟨none, 0, none, 0, none, 0⟩ rcd0 := ⟨SlR.none_, SlR.none_, SlR.none_⟩
theorem SlR.off3 {α : Type} {T : Flat α} (hT : ∀ x : α, ∃ s l, T.enc x = S s :: l) {w v : World} {A : Option Addr} {n g : Nat} {t : TypeId} {xs : List α} (h : SlR T w A n xs) {a1 a2 a3 : Option Addr} {n1 n2 n3 c1 c2 c3 : Nat} (hc : Cs w g t #[.slice a1 n1 c1, .slice a2 n2 c2, .slice a3 n3 c3]) (hx : Only (fun q => q = g) w v) : SlR T v A n xs :=
  h.keep_far hx fun b o e hp hb => h.far3 hT hc b o e hp hb
theorem RcdR.off3 {w v : World} {V : RcdV} {r : Rcd} {g : Nat} {t : TypeId} (h : RcdR w V r) {a1 a2 a3 : Option Addr} {n1 n2 n3 c1 c2 c3 : Nat} (hc : Cs w g t #[.slice a1 n1 c1, .slice a2 n2 c2, .slice a3 n3 c3]) (hx : Only (fun q => q = g) w v) : RcdR v V r :=
  ⟨h.c.off3 strF_head hc hx, h.n.off3 fileF_head hc hx, h.o.off3 fileF_head hc hx⟩
set_option maxRecDepth 100000 in
set_option maxHeartbeats 4000000 in
theorem One_c {w : World} (hE : EnvT w) {a : RulA} {G : Grp} (ht : SlR strF w a.tA G.targets.length G.targets) (hn : SlR strF w a.nA G.needs.length G.needs) (hc : SlR strF w a.cA G.cmds.length G.cmds) (hb : GBu G)
    {lA : Option Addr} {lc : Nat} {l : List File} (hl : SlR fileF w lA l.length l) (hf : FBu l) :
    Calls Tryz.prog 48 #[grpW (a, G), .slice lA l.length lc] w (OneRes w l G) := by
  obtain ⟨tA, tc, nA, nc, cA, cc⟩ := a
  obtain ⟨w1, hw1⟩ : ∃ u, u = w.alloc (.cells #[.slice tA G.targets.length tc, .slice nA G.needs.length nc, .slice cA G.cmds.length cc, .bool G.phony] grpT) := ⟨_, rfl⟩
  obtain ⟨w2, hw2⟩ : ∃ u, u = w1.alloc (.cells #[.slice none 0 0, .slice none 0 0, .slice none 0 0] rcT) := ⟨_, rfl⟩
  obtain ⟨b2, hb2⟩ : ∃ b, b = w.heap.size := ⟨_, rfl⟩
  obtain ⟨b5, hb5⟩ : ∃ b, b = w.heap.size + 1 := ⟨_, rfl⟩
  have s1 : w1.heap.size = w.heap.size + 1 := by rw [hw1]; simp
  have x1 : Ext w w1 := by rw [hw1]; exact (Only.refl No w).alloc _
  have x2 : Ext w1 w2 := by rw [hw2]; exact (Only.refl No w1).alloc _
  have x12 := x1.then_ext x2
  have C2 : Hid (Cs w2 b2 grpT #[.slice tA G.targets.length tc, .slice nA G.needs.length nc, .slice cA G.cmds.length cc, .bool G.phony]) := (show Cs w1 b2 grpT _ by rw [hw1, hb2]; exact Cs.new _ _ _).keep x2 id
  have C5 : Hid (Cs w2 b5 rcT #[.slice none 0 0, .slice none 0 0, .slice none 0 0]) := by rw [hw2, hb5, ← s1]; exact Cs.new _ _ _
  have X2 := Lib.hid x12
  have HB5 : Hid (w.heap.size ≤ b5) := by rw [hb5]; exact Nat.le_succ _
  have HE := Lib.hid (hE.ext x12)
  have HA := Lib.hid (All_c (c := lc) (hE.ext x12).ml (hl.ext x12) (by have := hf.n; omega) hf.r (fun f h => (hf.x f h).2) (v := ⟨tA, tc, nA, nc, cA, cc⟩) (g := G) ⟨SlR.ext ht x12, SlR.ext hn x12, SlR.ext hc x12⟩ hb.lim)
  have HOf := Lib.hid (fun u (hu : Ext w2 u) (B : Option Addr) (d : Nat) (o : List File) (ho : SlR fileF u B o.length o) (ho2 : o.length ≤ 1000) => Of_c (gv := ⟨tA, tc, nA, nc, cA, cc⟩) (c := lc) (d := d) (⟨(SlR.ext ht x12).ext hu, (SlR.ext hn x12).ext hu, (SlR.ext hc x12).ext hu⟩ : GrpR u ⟨tA, tc, nA, nc, cA, cc⟩ G) ((hl.ext x12).ext hu) ho hf.r (by have := hb.c; omega) (by have := hb.n; omega) hf.n ho2)
  have HFit := Lib.hid (allF_fit l G)
  have HNm := Lib.hid (allF_names (xs := l) hb.lt)
  have HO : Hid (∀ o f, allF l G = (o, f) → oneF l G = if f ≠ 0 then (([], rcd0), f) else if 300 < (recT (recOf G l o)).length then (([], rcd0), 10) else ((o, recOf G l o), 0)) := fun o f e => by unfold oneF; rw [e]
  obtain ⟨⟨o, f⟩, hof⟩ : ∃ R, R = allF l G := ⟨_, rfl⟩
  rw [← hof] at HA HFit HNm
  have HO2 := Lib.hid (HO.out o f hof.symm)
  have HBu := Lib.hid hb
  have HFu := Lib.hid hf
  have k0 : w2.cell? ⟨b2, 0, none⟩ = some (.slice tA G.targets.length tc) := C2.out.cell 0
  have k1 : w2.cell? ⟨b2, 1, none⟩ = some (.slice nA G.needs.length nc) := C2.out.cell 1
  have k2 : w2.cell? ⟨b2, 2, none⟩ = some (.slice cA G.cmds.length cc) := C2.out.cell 2
  have k3 : w2.cell? ⟨b2, 3, none⟩ = some (.bool G.phony) := C2.out.cell 3
  clear hE ht hn hc hb hl hf x1 x2 x12 s1 hof HO
  go_enter Tryz.func48, Tryz.ntmps48
  go_upto_region 1 with fail
  rw [← hw1, ← hw2, ← hb5, ← hb2]
  clear hw1 hw2 hb2 hb5
  go_wp2_with fail
  refine HA.out.mono ?_
  rintro e u3 ⟨A, c, he, hF⟩
  have he : e = .returned (.tuple #[.slice A o.length c, errV f]) := he
  subst he
  have U3 := Lib.hid hF.ext
  have HR : Hid (SlR fileF u3 A o.length o) := hF.row (by decide)
  have D5 := Lib.hid (C5.out.keep hF.ext id)
  have D2 := Lib.hid (C2.out.keep hF.ext id)
  clear hF HA k0 k1 k2 k3 C5 C2
  have y0 : u3.cell? ⟨b5, 0, none⟩ = some (.slice none 0 0) := D5.out.cell 0
  have y1 : u3.cell? ⟨b5, 1, none⟩ = some (.slice none 0 0) := D5.out.cell 1
  have y2 : u3.cell? ⟨b5, 2, none⟩ = some (.slice none 0 0) := D5.out.cell 2
  have z0 := D5.out.frozen 0
  have z1 := D5.out.frozen 1
  have z2 := D5.out.frozen 2
  have HOn : Hid (∀ u, Ext u3 u → ∀ a b c, Ext w (((u.setCell ⟨b5, 0, none⟩ a).setCell ⟨b5, 1, none⟩ b).setCell ⟨b5, 2, none⟩ c)) := fun u hu a b c => ((X2.out.then_ext U3.out).then_ext hu).trans ((((Only.refl (fun q => q = b5) u).at_ 0 a).at_ 1 b).at_ 2 c) fun q hq e => by have e : q = b5 := e; have := HB5.out; omega
  have HCs : Hid (∀ u, Ext u3 u → ∀ a b c, Cs (((u.setCell ⟨b5, 0, none⟩ a).setCell ⟨b5, 1, none⟩ b).setCell ⟨b5, 2, none⟩ c) b5 rcT #[a, b, c]) := fun u hu a b c => (((D5.out.keep hu id).set_ 0 a).set_ 1 b).set_ 2 c
  by_cases hf : f = 0
  case neg =>
    have HV : Hid (oneF l G = (([], rcd0), f)) := by rw [Hid, HO2.out, if_pos hf]
    rw [errV_pos hf]
    go_wp2_with fail
    refine bodyPost_tct (t := 4) (p := 5) (u := 6) (ty := rcT) (ad := ⟨b5, 0, none⟩) rfl rfl rfl (load_rc (HCs.out _ (Only.refl _ _) _ _ _)) ?_
    refine ⟨none, 0, ⟨none, 0, none, 0, none, 0⟩, ?_, ?_, ?_, HOn.out _ (Only.refl _ _) _ _ _⟩
    · rw [HV.out, show errV (([], rcd0), f).2 = E f from errV_pos hf]
      rfl
    · rw [HV.out]; exact SlR.none_
    · rw [HV.out]; exact RcdR.zero _
  subst hf
  rw [errV_zero]
  have hol : o.length ≤ 100 := Nat.le_trans HFit.out.2.1 HBu.out.c
  obtain ⟨R, hR⟩ : ∃ R, R = recOf G l o := ⟨_, rfl⟩
  have HOf3 := Lib.hid (HOf.out u3 U3.out A c o HR.out (by omega))
  have hlim : R.Lim := by rw [hR]; exact recOf_lim HFu.out.x HNm.out HBu.out.c HBu.out.n hol (fun x hx => by have := HBu.out.lc x hx; omega) HBu.out.ln
  have HLim := Lib.hid hlim
  rw [← hR] at HOf3 HO2
  have k0 : u3.cell? ⟨b2, 0, none⟩ = some (.slice tA G.targets.length tc) := D2.out.cell 0
  have k1 : u3.cell? ⟨b2, 1, none⟩ = some (.slice nA G.needs.length nc) := D2.out.cell 1
  have k2 : u3.cell? ⟨b2, 2, none⟩ = some (.slice cA G.cmds.length cc) := D2.out.cell 2
  have k3 : u3.cell? ⟨b2, 3, none⟩ = some (.bool G.phony) := D2.out.cell 3
  clear hR hlim HOf HFit HNm
  go_wp2_with fail
  refine HOf3.out.mono ?_
  rintro e u4 ⟨⟨p1, e1, p2, e2, p3, e3⟩, he, hq, hu⟩
  have he : e = .returned (.agg #[.slice p1 R.cmds.length e1, .slice p2 R.needs.length e2, .slice p3 R.out.length e3]) := he
  subst he
  have U4 := Lib.hid hu
  have HQ := Lib.hid hq
  clear hq hu HOf3 k0 k1 k2 k3
  obtain ⟨w5, hw5⟩ : ∃ u, u = u4.alloc (.cells #[.slice p1 R.cmds.length e1, .slice p2 R.needs.length e2, .slice p3 R.out.length e3] rcT) := ⟨_, rfl⟩
  obtain ⟨b9, hb9⟩ : ∃ b, b = u4.heap.size := ⟨_, rfl⟩
  have x5 : Ext u4 w5 := by rw [hw5]; exact (Only.refl No u4).alloc _
  have C9 : Hid (Cs w5 b9 rcT #[.slice p1 R.cmds.length e1, .slice p2 R.needs.length e2, .slice p3 R.out.length e3]) := by rw [hw5, hb9]; exact Cs.new _ _ _
  have U5 := Lib.hid (U4.out.then_ext x5)
  have HB9 : Hid (u4.heap.size ≤ b9) := Nat.le_of_eq hb9.symm
  have HS4 := Lib.hid U4.out.size
  have HQ5 := Lib.hid (HQ.out.ext x5)
  have HTx : Hid (Calls Tryz.prog 75 #[.agg #[.slice p1 R.cmds.length e1, .slice p2 R.needs.length e2, .slice p3 R.out.length e3]] w5 fun e w' => e = .returned (S (recT R)) ∧ Ext w5 w') := RText_c (v := ⟨p1, e1, p2, e2, p3, e3⟩) (r := R) (HE.out.ext (U3.out.then_ext U5.out)) HQ5.out HLim.out
  have j0 : w5.cell? ⟨b9, 0, none⟩ = some (.slice p1 R.cmds.length e1) := C9.out.cell 0
  have j1 : w5.cell? ⟨b9, 1, none⟩ = some (.slice p2 R.needs.length e2) := C9.out.cell 1
  have j2 : w5.cell? ⟨b9, 2, none⟩ = some (.slice p3 R.out.length e3) := C9.out.cell 2
  clear x5
  go_upto_region 5 with fail
  rw [← hw5, ← hb9]
  clear hw5 hb9
  go_wp2_with fail
  refine HTx.out.mono ?_
  rintro e u6 ⟨rfl, hu⟩
  have U6 := Lib.hid (U5.out.then_ext hu)
  have C96 := Lib.hid (C9.out.keep hu id)
  have HQ6 := Lib.hid (HQ5.out.ext hu)
  have E5 := Lib.hid (D5.out.keep U6.out id)
  clear hu HTx j0 j1 j2 y0 y1 y2 z0 z1 z2 C9
  have y0 : u6.cell? ⟨b5, 0, none⟩ = some (.slice none 0 0) := E5.out.cell 0
  have y1 : u6.cell? ⟨b5, 1, none⟩ = some (.slice none 0 0) := E5.out.cell 1
  have y2 : u6.cell? ⟨b5, 2, none⟩ = some (.slice none 0 0) := E5.out.cell 2
  have z0 := E5.out.frozen 0
  have z1 := E5.out.frozen 1
  have z2 := E5.out.frozen 2
  obtain ⟨T, hT⟩ : ∃ T, T = recT R := ⟨_, rfl⟩
  rw [← hT] at HO2 ⊢
  clear hT
  rcases Nat.lt_or_ge 300 T.length with h3 | h3
  · have HV : Hid (oneF l G = (([], rcd0), 10)) := by rw [Hid, HO2.out, if_neg (fun h => h rfl), if_pos h3]
    have g3 : decide ((300 : Int) < (T.length : Int)) = true := by rw [decide_eq_true_iff]; omega
    go_wp2_with fail
    refine bodyPost_tct (t := 4) (p := 5) (u := 6) (ty := rcT) (ad := ⟨b5, 0, none⟩) rfl rfl rfl (load_rc (HCs.out _ U6.out _ _ _)) ?_
    refine ⟨none, 0, ⟨none, 0, none, 0, none, 0⟩, ?_, ?_, ?_, HOn.out _ U6.out _ _ _⟩
    · rw [HV.out]
      rfl
    · rw [HV.out]; exact SlR.none_
    · rw [HV.out]; exact RcdR.zero _
  · have HV : Hid (oneF l G = ((o, R), 0)) := by rw [Hid, HO2.out, if_neg (fun h => h rfl), if_neg (by omega)]
    have g3 : decide ((300 : Int) < (T.length : Int)) = false := by rw [decide_eq_false_iff_not]; omega
    have hne : ¬ (fun q => q = b5) b9 := fun e => by
      have e : b9 = b5 := e
      have h1 := HB9.out
      have h2 := D5.out.lt
      have h3 := HS4.out
      omega
    obtain ⟨F, hF⟩ : ∃ F : Nat → Prop, F = fun q => q = b5 := ⟨_, rfl⟩
    rw [← hF] at hne
    have HF := Lib.hid hF
    have j0 : ∀ ξ : X u6 F, ξ.v.cell? ⟨b9, 0, none⟩ = some (.slice p1 R.cmds.length e1) := C96.out.x hne 0
    have j1 : ∀ ξ : X u6 F, ξ.v.cell? ⟨b9, 1, none⟩ = some (.slice p2 R.needs.length e2) := C96.out.x hne 1
    have j2 : ∀ ξ : X u6 F, ξ.v.cell? ⟨b9, 2, none⟩ = some (.slice p3 R.out.length e3) := C96.out.x hne 2
    clear hF
    go_upto_region 7 with fail
    refine Mix.wp_draw [3] 100 (Cl u6 F) (by kernel_rfl) (by kernel_rfl) (Cl.of (Only.refl _ _).drew) ?_
    (repeat' (refine Mix.lex_quiet0 rfl rfl rfl ?_; intro K hK; go_big_quiet_op; go_big_quiet_on))
    ((first | refine Mix.lex_goes0 rfl rfl ?_ | refine Mix.lex_goesG rfl rfl rfl (by with_reducible rfl) rfl ?_); intro K hK; go_simp)
    have HO9 := Lib.hid (HOn.out _ U6.out (.slice p1 R.cmds.length e1) (.slice p2 R.needs.length e2) (.slice p3 R.out.length e3))
    have HC9 := Lib.hid (HCs.out _ U6.out (.slice p1 R.cmds.length e1) (.slice p2 R.needs.length e2) (.slice p3 R.out.length e3))
    have HF9 : Hid (Only F u6 (((u6.setCell ⟨b5, 0, none⟩ (.slice p1 R.cmds.length e1)).setCell ⟨b5, 1, none⟩ (.slice p2 R.needs.length e2)).setCell ⟨b5, 2, none⟩ (.slice p3 R.out.length e3))) := by rw [HF.out]; exact (((Only.refl (fun q => q = b5) u6).at_ 0 _).at_ 1 _).at_ 2 _
    obtain ⟨v9, hv9⟩ : ∃ v, v = ((u6.setCell ⟨b5, 0, none⟩ (.slice p1 R.cmds.length e1)).setCell ⟨b5, 1, none⟩ (.slice p2 R.needs.length e2)).setCell ⟨b5, 2, none⟩ (.slice p3 R.out.length e3) := ⟨_, rfl⟩
    rw [← hv9] at HO9 HC9 HF9 ⊢
    clear hv9
    refine hK _ _ (fun _ => Cl.of HF9.out.drew) ?_
    clear hK K j0 j1 j2 y0 y1 y2
    simp only [Act.put, List.setIfInBounds_toArray, List.set_cons_succ, List.set_cons_zero]
    (repeat' (refine Mix.lex_quiet0 rfl rfl rfl ?_; intro K hK; go_big_quiet_op; go_big_quiet_on))
    refine Mix.lex_nil ?_
    go_wp2_with fail
    refine bodyPost_tct (t := 4) (p := 5) (u := 6) (ty := rcT) (ad := ⟨b5, 0, none⟩) rfl rfl rfl (load_rc (HC9.out.drew)) ?_
    refine ⟨A, c, ⟨p1, e1, p2, e2, p3, e3⟩, ?_, ?_, ?_, HO9.out.drew⟩
    · rw [HV.out]
      rfl
    · rw [HV.out]
      exact ((HR.out.ext U6.out).off3 fileF_head E5.out (by rw [← HF.out]; exact HF9.out)).ext ((Only.refl _ _).drew)
    · rw [HV.out]
      exact (HQ6.out.off3 E5.out (by rw [← HF.out]; exact HF9.out)).ext ((Only.refl _ _).drew)
abbrev rcdT : TypeId := 66
abbrev rmapT : TypeId := 56
abbrev rdV (v : Value) : Option (DataW Value × List MemPlace) := some (.held v, [])
abbrev zeroR : Value := .agg #[.slice none 0 0, .slice none 0 0, .slice none 0 0]
theorem str_keyed : Go.Maps.Keyed Tryz.prog 9 := Go.Maps.string_keyed Tryz.underlying9
theorem rmap_ty : Tryz.prog.underlying rmapT = some (.map 9 rcdT) := Tryz.underlying56
theorem rcd_zero (w : World) : (zeroValue rcdT).run Tryz.prog w = .ok zeroR w := Tryz.zeroValue66 w
def MapR (w : World) (b n : Nat) (f : Str → Option Value) : Prop :=
  ∃ D : DataW Value, w.ownsMap Tryz.prog 9 rdV b n D ∧ (∀ s, Go.Maps.has D (.string s) = (f s).isSome ∧ ∀ z, D.atKey (.string s) (.held z) = .held ((f s).getD z)) ∧ ∃ L : List Str, L.Nodup ∧ (∀ s, s ∈ L ↔ (f s).isSome = true) ∧ Go.Maps.size D = L.length
set_option maxRecDepth 100000 in
theorem key_str (s : Str) (hs : s.length ≤ maxLen) : keyOf Tryz.prog 9 (S s) = some (.string s) := by
  have hz : (⟨s.toArray⟩ : ByteArray).size ≤ maxLen := by simpa [ByteArray.size] using hs
  simp [keyOf, mapKey, Tryz.underlying9, hz]
theorem MapR.made (w : World) : MapR (w.alloc (.map #[] 0)) w.heap.size 0 (fun _ => none) :=
  ⟨.map [], World.ownsMap_made w _ _ _, fun s => ⟨rfl, fun z => rfl⟩, [], List.nodup_nil, fun s => by simp, rfl⟩
theorem MapR.keep {F : Nat → Prop} {w v : World} {b n : Nat} {f : Str → Option Value} (h : MapR w b n f) (hx : Only F w v) (hb : ¬ F b) : MapR v b n f := by
  obtain ⟨D, ⟨es, clock, h1, h2, h3, h4⟩, h5⟩ := h
  have hlt : b < w.heap.size := (Array.getElem?_eq_some_iff.1 h1).1
  exact ⟨D, ⟨es, clock, (hx.block b hlt hb).trans h1, h2, h3, h4⟩, h5⟩
theorem MapR.lt {w : World} {b n : Nat} {f : Str → Option Value} (h : MapR w b n f) : b < w.heap.size := by
  obtain ⟨D, h1, _⟩ := h
  exact h1.lt
theorem MapR.put {w : World} {b n : Nat} {f : Str → Option Value} (h : MapR w b n f) (hn : n < maxLen) (s : Str) (hs : s.length ≤ maxLen) (v : Value) :
    ∃ w', (Instr.mapUpdate rmapT (.map (some b)) (S s) v).run Tryz.prog w = .ok () w' ∧ MapR w' b (n + 1) (fun k => if k = s then some v else f k) ∧ Only (fun q => q = b) w w' := by
  obtain ⟨D, h1, h2, L, hL1, hL2, hL3⟩ := h
  have hm : Go.Maps.IsMap D := h1.isMap
  have ht : Go.Maps.Tidy D := by
    obtain ⟨es, e1, e2, _⟩ := h1.entries str_keyed
    exact ⟨es, e1, e2⟩
  obtain ⟨w', r1, r2, r3⟩ := h1.update str_keyed rmap_ty hn (key_str s hs) (show rdV v = some (.held v, []) from rfl)
  refine ⟨w', r1, ⟨_, r2, fun k => ?_, if s ∈ L then L else s :: L, ?_, fun k => ?_, ?_⟩, ⟨r3.os, r3.tape, r3.output, r3.size, fun q hq hne => r3.block q hq (fun e => hne (Option.some.inj e))⟩⟩
  rotate_left
  · split
    · exact hL1
    · rename_i h; exact List.nodup_cons.2 ⟨h, hL1⟩
  · show (k ∈ if s ∈ L then L else s :: L) ↔ (if k = s then some v else f k).isSome = true
    by_cases hk : k = s
    · rw [if_pos hk, hk]
      split
      · rename_i h; simp [h]
      · simp
    · rw [if_neg hk, ← hL2 k]
      split
      · exact Iff.rfl
      · simp [hk]
  · rw [Go.Maps.size_put ht, (h2 s).1, hL3]
    by_cases h : s ∈ L
    · rw [if_pos h, if_pos ((hL2 s).1 h)]
    · rw [if_neg h, if_neg (fun e => h ((hL2 s).2 e))]
      rfl
  show Go.Maps.has (D.put (.string s) (.held v)) (.string k) = (if k = s then some v else f k).isSome ∧ ∀ z, (D.put (.string s) (.held v)).atKey (.string k) (.held z) = .held ((if k = s then some v else f k).getD z)
  by_cases hk : k = s
  · rw [if_pos hk, hk]
    exact ⟨Go.Maps.has_put_same hm (str_keyed.key (key_str s hs)) _, fun z => Go.Maps.atKey_put_same hm (str_keyed.key (key_str s hs)) _ _⟩
  · rw [if_neg hk]
    have hne : (Lit.string k) ≠ Lit.string s := fun e => hk (by injection e)
    refine ⟨?_, fun z => ?_⟩
    · rw [Go.Maps.has_put_other hne]; exact (h2 k).1
    · rw [Go.Maps.atKey_put_other hne]; exact (h2 k).2 z
theorem MapR.look {w : World} {b n : Nat} {f : Str → Option Value} (h : MapR w b n f) (s : Str) (hs : s.length ≤ maxLen) :
    (Instr.lookup rmapT (.map (some b)) (S s) true).run Tryz.prog w = .ok (.tuple #[(f s).getD zeroR, .bool (f s).isSome]) w := by
  obtain ⟨D, h1, h2, _⟩ := h
  obtain ⟨v, ps, r1, r2⟩ := h1.look_ok str_keyed rmap_ty (rcd_zero w) (show rdV zeroR = some (.held zeroR, []) from rfl) (key_str s hs)
  rw [(h2 s).1] at r1
  rw [(h2 s).2 zeroR] at r2
  have e : v = (f s).getD zeroR := by
    have := congrArg (Option.map Prod.fst) r2
    simp only [Option.map_some, Option.some.injEq] at this
    injection this
  rw [r1, e]
theorem MapR.len {w : World} {b n : Nat} {f : Str → Option Value} (h : MapR w b n f) {L : List Str} (hn : L.Nodup) (hL : ∀ s, s ∈ L ↔ (f s).isSome = true) (ty : TypeId) :
    (Builtin.len_ #[rmapT] ty #[.map (some b)]).run Tryz.prog w = .ok (.int .i64 (L.length : Int)) w := by
  obtain ⟨D, h1, _, M, hM1, hM2, hM3⟩ := h
  rw [h1.len rmap_ty ty, hM3, ((List.perm_ext_iff_of_nodup hM1 hn).2 fun s => (hM2 s).trans (hL s).symm).length_eq]
theorem MapR.cell {w v : World} {b n : Nat} {f : Str → Option Value} (h : MapR w b n f) (hx : Only (fun q => q = b) w v) {p : Addr} (hp : p.block < w.heap.size) {u : Value} (hc : w.cell? p = some u) : v.cell? p = some u := by
  obtain ⟨D, ⟨es, clock, h1, _⟩, _⟩ := h
  refine (hx.cell hp fun e => ?_).trans hc
  have e : p.block = b := e
  unfold World.cell? at hc
  rw [e, h1] at hc
  simp at hc
set_option maxRecDepth 100000 in
theorem look_nil (w : World) (s : Str) (hs : s.length ≤ maxLen) : (Instr.lookup rmapT (.map none) (S s) true).run Tryz.prog w = .ok (.tuple #[zeroR, .bool false]) w := by
  have hc := str_keyed.check w true (key_str s hs)
  have hf : (Instr.findKey 9 (S s) []).run Tryz.prog w = .ok none w := by
    rcases str_keyed.find w (key_str s hs) [] (fun e he => by cases he) with h | ⟨j, e, _, h, _⟩
    · exact h.1
    · cases h
  simp [Instr.lookup, rcd_zero, hc, hf]
set_option maxRecDepth 100000 in
theorem ex1_c {w : World} {x : RulA × Rul} {b : Nat} {name : Str} (ht : SlR strF w x.1.tA x.2.targets.length x.2.targets) (hl : x.2.targets.length ≤ 1000000) (cn : w.cell? ⟨b, 0, none⟩ = some (S name)) :
    Calls Tryz.prog 116 #[ruleV x, .pointer (some ⟨b, 0, none⟩)] w fun e w' => e = .returned (.bool (inS x.2.targets name)) ∧ Ext w w' := by
  have hb := World.block_lt_of_cell? _ _ cn
  obtain ⟨w1, hw1⟩ : ∃ u, u = w.alloc (.cells #[.slice x.1.tA x.2.targets.length x.1.tc, .slice x.1.nA x.2.needs.length x.1.nc, .slice x.1.cA x.2.cmds.length x.1.cc] ruleT) := ⟨_, rfl⟩
  have X1 : Hid (Ext w w1) := by rw [hw1]; exact (Only.refl No w).alloc _
  have HC := Lib.hid (Contains_c (c := x.1.tc) (ht.ext X1.out) hl name)
  have c1 : w1.cell? ⟨b, 0, none⟩ = some (S name) := (X1.out.cell hb id).trans cn
  have c2 : w1.cell? ⟨w.heap.size, 0, none⟩ = some (.slice x.1.tA x.2.targets.length x.1.tc) := by rw [hw1]; exact (Cs.new w ruleT _).cell 0
  clear ht cn
  go_enter Tryz.func116, Tryz.ntmps116
  go_upto_region 1 with fail
  rw [← hw1]
  clear hw1
  go_wp2_with fail
  refine HC.out.mono ?_
  rintro e u ⟨rfl, hu⟩
  have X2 := Lib.hid (X1.out.then_ext hu)
  clear hu HC
  go_wp2_with fail
  go_ret
  exact ⟨rfl, X2.out⟩
theorem rules_idx {rs : List (RulA × Rul)} {m : Mk} (h : rs.map (·.2) = m.rules) (name : Str) : rs.findIdx? (fun x => inS x.2.targets name) = m.rules.findIdx? (fun r => inS r.targets name) := by
  rw [← h, List.findIdx?_map]
  rfl
set_option maxRecDepth 100000 in
theorem explicit_c {w : World} {v : MkV} {rs : List (RulA × Rul)} {m : Mk} (h : MakeR w v rs m) (hr : m.rules.length ≤ 100) (ht : ∀ r ∈ m.rules, r.targets.length ≤ 1000) (name : Str) :
    Calls Tryz.prog 85 #[mkV v m, S name] w fun e w' => e = .returned (.int .i64 (idxI (m.rules.findIdx? fun r => inS r.targets name))) ∧ Ext w w' := by
  obtain ⟨w1, hw1⟩ : ∃ u, u = w.alloc (.cells #[.slice v.vA m.vars.length v.vc, .slice v.rA m.rules.length v.rc, .slice v.pA m.phony.length v.pc] makeT) := ⟨_, rfl⟩
  obtain ⟨w2, hw2⟩ : ∃ u, u = w1.alloc (.cells #[S name] 9) := ⟨_, rfl⟩
  obtain ⟨b, hb⟩ : ∃ b, b = w1.heap.size := ⟨_, rfl⟩
  have x1 : Ext w w1 := by rw [hw1]; exact (Only.refl No w).alloc _
  have x2 : Ext w1 w2 := by rw [hw2]; exact (Only.refl No w1).alloc _
  have X2 : Hid (Ext w w2) := x1.then_ext x2
  have C2 : Cs w2 b 9 #[S name] := by rw [hw2, hb]; exact Cs.new _ _ _
  have c0 : w2.cell? ⟨w.heap.size, 1, none⟩ = some (.slice v.rA m.rules.length v.rc) := by
    have : Cs w1 w.heap.size makeT #[.slice v.vA m.vars.length v.vc, .slice v.rA m.rules.length v.rc, .slice v.pA m.phony.length v.pc] := by rw [hw1]; exact Cs.new _ _ _
    exact (this.keep x2 id).cell 1
  have HI : Hid (Calls Tryz.prog 115 #[.slice v.rA m.rules.length v.rc, .func (.func 116) #[] #[.pointer (some ⟨b, 0, none⟩)]] w2 fun e w' => e = .returned (.int .i64 (idxI (m.rules.findIdx? fun r => inS r.targets name))) ∧ Ext w2 w') := by
    rw [← rules_idx h.rm name]
    refine IdxRul_c (c := v.rc) (h.fr.ext X2.out) (by omega) (fun x => inS x.2.targets name) #[.pointer (some ⟨b, 0, none⟩)] fun x hx u hu => ?_
    exact ex1_c ((h.rr x hx).1.ext (X2.out.then_ext hu)) (by have := ht x.2 (by rw [← h.rm]; exact List.mem_map_of_mem hx); omega) ((C2.keep hu id).cell 0)
  have hmf : ∀ (fn : Fn) (first cap : Array Value) (w : World), (Instr.makeFunc fn first cap).run Tryz.prog w = .ok (.func fn first cap) w := fun _ _ _ _ => rfl
  have hbw : b = w.heap.size + 1 := by rw [hb, hw1]; simp
  clear h C2 x1 x2
  go_enter Tryz.func85, Tryz.ntmps85
  go_upto_region 1 with fail
  rw [← hw1, ← hw2, ← hbw]
  clear hw1 hw2 hbw hb
  go_wp2_with fail
  refine HI.out.mono ?_
  rintro e u ⟨rfl, hu⟩
  have X3 := Lib.hid (X2.out.then_ext hu)
  clear hu HI
  go_wp2_with fail
  go_ret
  exact ⟨rfl, X3.out⟩
set_option maxRecDepth 100000 in
theorem mk1_c {w : World} {x : RulA × Grp} {b : Nat} {name : Str} (ht : SlR strF w x.1.tA x.2.targets.length x.2.targets) (hl : x.2.targets.length ≤ 1000000) (cn : w.cell? ⟨b, 0, none⟩ = some (S name)) :
    Calls Tryz.prog 41 #[grpW x, .pointer (some ⟨b, 0, none⟩)] w fun e w' => e = .returned (.bool (inS x.2.targets name)) ∧ Ext w w' := by
  have hb := World.block_lt_of_cell? _ _ cn
  obtain ⟨w1, hw1⟩ : ∃ u, u = w.alloc (.cells #[.slice x.1.tA x.2.targets.length x.1.tc, .slice x.1.nA x.2.needs.length x.1.nc, .slice x.1.cA x.2.cmds.length x.1.cc, .bool x.2.phony] grpT) := ⟨_, rfl⟩
  have X1 : Hid (Ext w w1) := by rw [hw1]; exact (Only.refl No w).alloc _
  have HC := Lib.hid (Contains_c (c := x.1.tc) (ht.ext X1.out) hl name)
  have c1 : w1.cell? ⟨b, 0, none⟩ = some (S name) := (X1.out.cell hb id).trans cn
  have c2 : w1.cell? ⟨w.heap.size, 0, none⟩ = some (.slice x.1.tA x.2.targets.length x.1.tc) := by rw [hw1]; exact (Cs.new w grpT _).cell 0
  clear ht cn
  go_enter Tryz.func41, Tryz.ntmps41
  go_upto_region 1 with fail
  rw [← hw1]
  clear hw1
  go_wp2_with fail
  refine HC.out.mono ?_
  rintro e u ⟨rfl, hu⟩
  have X2 := Lib.hid (X1.out.then_ext hu)
  clear hu HC
  go_wp2_with fail
  go_ret
  exact ⟨rfl, X2.out⟩
structure GrpsR (w : World) (A : Option Addr) (os : List (RulA × Grp)) (out : List Grp) : Prop where
  row : SlR grpF w A out.length os
  rr : ∀ x ∈ os, SlR strF w x.1.tA x.2.targets.length x.2.targets ∧ SlR strF w x.1.nA x.2.needs.length x.2.needs ∧ SlR strF w x.1.cA x.2.cmds.length x.2.cmds
  om : os.map (·.2) = out
theorem GrpsR.ext {w u : World} {A : Option Addr} {os : List (RulA × Grp)} {out : List Grp} (h : GrpsR w A os out) (hx : Ext w u) : GrpsR u A os out := ⟨h.row.ext hx, fun x hm => ⟨(h.rr x hm).1.ext hx, (h.rr x hm).2.1.ext hx, (h.rr x hm).2.2.ext hx⟩, h.om⟩
set_option maxRecDepth 100000 in
theorem Maker_c {w : World} {A : Option Addr} {c : Nat} {os : List (RulA × Grp)} {out : List Grp} (h : GrpsR w A os out) (hr : out.length ≤ 100) (ht : ∀ g ∈ out, g.targets.length ≤ 1000) (name : Str) :
    Calls Tryz.prog 15 #[.slice A out.length c, S name] w fun e w' => e = .returned (.int .i64 (idxI (makerF out name))) ∧ Ext w w' := by
  obtain ⟨w1, hw1⟩ : ∃ u, u = w.alloc (.cells #[S name] 9) := ⟨_, rfl⟩
  obtain ⟨b, hb⟩ : ∃ b, b = w.heap.size := ⟨_, rfl⟩
  have X1 : Hid (Ext w w1) := by rw [hw1]; exact (Only.refl No w).alloc _
  have C1 : Cs w1 b 9 #[S name] := by rw [hw1, hb]; exact Cs.new _ _ _
  have HI : Hid (Calls Tryz.prog 40 #[.slice A out.length c, .func (.func 41) #[] #[.pointer (some ⟨b, 0, none⟩)]] w1 fun e w' => e = .returned (.int .i64 (idxI (makerF out name))) ∧ Ext w1 w') := by
    have e : makerF out name = os.findIdx? (fun x => inS x.2.targets name) := by
      unfold makerF
      rw [← h.om, List.findIdx?_map]
      rfl
    rw [e]
    refine IdxGrp_c (c := c) (h.row.ext X1.out) (by omega) (fun x => inS x.2.targets name) #[.pointer (some ⟨b, 0, none⟩)] fun x hx u hu => ?_
    exact mk1_c ((h.rr x hx).1.ext (X1.out.then_ext hu)) (by have := ht x.2 (by rw [← h.om]; exact List.mem_map_of_mem hx); omega) ((C1.keep hu id).cell 0)
  have hmf : ∀ (fn : Fn) (first cap : Array Value) (w : World), (Instr.makeFunc fn first cap).run Tryz.prog w = .ok (.func fn first cap) w := fun _ _ _ _ => rfl
  clear h C1
  go_enter Tryz.func15, Tryz.ntmps15
  go_upto_region 1 with fail
  rw [← hw1, ← hb]
  clear hw1 hb
  go_wp2_with fail
  refine HI.out.mono ?_
  rintro e u ⟨rfl, hu⟩
  have X3 := Lib.hid (X1.out.then_ext hu)
  clear hu HI
  go_wp2_with fail
  go_ret
  exact ⟨rfl, X3.out⟩
abbrev nodT : TypeId := 262
abbrev genT : TypeId := 264
abbrev pnT : TypeId := 259
abbrev rpt (g : Nat) : Value := .pointer (some ⟨g, 0, none⟩)
abbrev nod0 : Array Value := #[S [], .int .i64 0, S [], .pointer none, .slice none 0 0]
abbrev nodZ : Array Value := #[.string ⟨#[]⟩, .int .i64 0, .string ⟨#[]⟩, .pointer none, .slice none 0 0]
abbrev leafA (v : Str) (p : Int) : Array Value := #[S v, .int .i64 p, S [], .pointer none, .slice none 0 0]
set_option maxRecDepth 100000 in
theorem add_leaf {w : World} {b g : Nat} {t : TypeId} (v : Str) (p : Int) (h : Cs w b t nod0) :
    Calls Tryz.prog 196 #[rpt b, S [], S v, .int .i64 p, rpt g] w fun e w' => e = .returned (.tuple #[]) ∧ Cs w' b t (leafA v p) ∧ Only (fun x => x = b) w w' := by
  have c0 : w.cell? ⟨b, 0, none⟩ = some (S []) := h.cell 0
  have c1 : w.cell? ⟨b, 1, none⟩ = some (.int .i64 0) := h.cell 1
  have f0 := h.frozen 0
  have f1 := h.frozen 1
  have HC : Hid (Cs ((w.setCell ⟨b, 0, none⟩ (S v)).setCell ⟨b, 1, none⟩ (.int .i64 p)) b t (leafA v p)) := (h.set_ 0 (S v)).set_ 1 (.int .i64 p)
  have HO : Hid (Only (fun x => x = b) w ((w.setCell ⟨b, 0, none⟩ (S v)).setCell ⟨b, 1, none⟩ (.int .i64 p))) := ((Only.refl _ w).at_ 0 _).at_ 1 _
  clear h
  go_enter Tryz.func196, Tryz.ntmps196
  go_wp2_with fail
  refine bodyPost_ret (results_none rfl _ _ _) rfl ?_
  exact ⟨rfl, HC.out, HO.out⟩
set_option maxRecDepth 100000 in
set_option maxHeartbeats 1000000 in
theorem add_new {w : World} {b g : Nat} {t : TypeId} {c : UInt8} {r : Str} (v : Str) (p : Int) (h : Cs w b t nod0) :
    Calls Tryz.prog 196 #[rpt b, S (c :: r), S v, .int .i64 p, rpt g] w fun e w' => e = .returned (.tuple #[]) ∧ ∃ k, w.heap.size ≤ k ∧ Cs w' b t #[S [], .int .i64 0, S (c :: r), rpt k, .slice none 0 0] ∧ Cs w' k nodT (leafA v p) ∧ Only (fun x => x = b) w w' := by
  have c2 : w.cell? ⟨b, 2, none⟩ = some (S []) := h.cell 2
  have c3 : w.cell? ⟨b, 3, none⟩ = some (.pointer none) := h.cell 3
  have c4 : w.cell? ⟨b, 4, none⟩ = some (.slice none 0 0) := h.cell 4
  have f2 := h.frozen 2
  have f3 := h.frozen 3
  obtain ⟨w1, hw1⟩ : ∃ u, u = w.setCell ⟨b, 2, none⟩ (S (c :: r)) := ⟨_, rfl⟩
  have h1 : Cs w1 b t #[S [], .int .i64 0, S (c :: r), .pointer none, .slice none 0 0] := by rw [hw1]; exact h.set_ 2 _
  have x1 : Only (fun x => x = b) w w1 := by rw [hw1]; exact (Only.refl _ w).at_ 2 _
  obtain ⟨k, hk⟩ : ∃ k, k = w1.heap.size := ⟨_, rfl⟩
  obtain ⟨w2, hw2⟩ : ∃ u, u = (w1.alloc (.cells #[.string ⟨#[]⟩, .int .i64 0, .string ⟨#[]⟩, .pointer none, .slice none 0 0] nodT)).setCell ⟨b, 3, none⟩ (.pointer (some ⟨w1.heap.size, 0, none⟩)) := ⟨_, rfl⟩
  have h2 : Cs w2 b t #[S [], .int .i64 0, S (c :: r), rpt k, .slice none 0 0] := by rw [hw2, hk]; exact (h1.alloc _).set_ 3 _
  have hkb : k ≠ b := by have := h1.lt; omega
  have hk2 : Cs w2 k nodT nod0 := by rw [hw2, hk]; exact (Cs.new w1 nodT nodZ).far (by rw [← hk]; exact hkb) _
  have x2 : Only (fun x => x = b) w w2 := by rw [hw2]; exact (x1.alloc _).at_ 3 _
  have d3 : ∀ o, (w1.alloc o).cell? ⟨b, 3, none⟩ = some (.pointer none) := fun o => (h1.alloc o).cell 3
  have z3 : ∀ o, (w1.alloc o).frozen? ⟨b, 3, none⟩ = false := fun o => (h1.alloc o).frozen 3
  have e3 : w2.cell? ⟨b, 3, none⟩ = some (rpt k) := h2.cell 3
  have HL := Lib.hid (add_leaf (g := g) v p hk2)
  have HX := Lib.hid (And.intro h2 (And.intro x2 x1.size))
  clear h h1 x1 h2 hk2 x2
  go_enter Tryz.func196, Tryz.ntmps196
  go_upto_region 33 with fail
  rw [← hw1]
  clear hw1
  go_upto_region 34 with fail
  rw [← hw2]
  have HK := Lib.hid hk
  clear hw2 c2 c3 d3 hk
  go_wp2_with fail
  refine HL.out.mono ?_
  rintro e w3 ⟨rfl, hl, ho⟩
  go_wp2_with fail
  go_end0
  exact ⟨rfl, k, by rw [HK.out]; exact HX.out.2.2, HX.out.1.keep ho (fun e => hkb e.symm), hl, HX.out.2.1.trans ho fun x hx e => by have e : x = k := e; have := HX.out.2.2; have := HK.out; omega⟩
theorem ptab_info : (Tryz.prog.info? pnT).map (fun i => (i.zero, i.size, i.bytes)) = some (some (.pointer none), 1, 8) := by kernel_rfl
theorem make_ptrs (w : World) : (Instr.makeSlice 260 (.int .i64 5) (.int .i64 5)).run Tryz.prog w =
    .ok (.slice (some ⟨w.heap.size, 0, none⟩) 5 5) (w.alloc (.cells #[.pointer none, .pointer none, .pointer none, .pointer none, .pointer none] pnT)) := by
  obtain ⟨i0, hi, hz, h1, h2⟩ := info_parts ptab_info
  have hr := run_make (P := Tryz.prog) w 260 pnT i0 (.pointer none) Tryz.underlying260 hi hz .i64 .i64 5 5 (by omega) (by omega) (by rw [h2]; omega) (by omega)
  rw [hr, h1, show madeCells (Value.pointer none).cells (Int.toNat 5 * 1) = #[.pointer none, .pointer none, .pointer none, .pointer none, .pointer none] from by kernel_rfl]
  rfl
theorem nil5_at {m : Nat} (h : m < 5) : (#[.pointer none, .pointer none, .pointer none, .pointer none, .pointer none] : Array Value)[m]? = some (.pointer none) := by
  match m, h with
  | 0, _ => rfl
  | 1, _ => rfl
  | 2, _ => rfl
  | 3, _ => rfl
  | 4, _ => rfl
abbrev nils5 : Array Value := #[.pointer none, .pointer none, .pointer none, .pointer none, .pointer none]
set_option maxRecDepth 100000 in
set_option maxHeartbeats 1000000 in
theorem add_split {w : World} {b g k0 mx mc : Nat} {t : TypeId} {gs : Array Value} {x c : UInt8} (v : Str) (p : Int) (hxc : x ≠ c) (hmx : mx < 5) (hmc : mc < 5) (hbg : b ≠ g)
    (h : Cs w b t #[S [], .int .i64 0, S [x], rpt k0, .slice none 0 0]) (hg : Cs w g genT gs) (g5 : gs[5]? = some (.int .i64 5)) (gx : gs[6 + x.toNat]? = some (.int .u8 mx)) (gc : gs[6 + c.toNat]? = some (.int .u8 mc)) :
    Calls Tryz.prog 196 #[rpt b, S [c], S v, .int .i64 p, rpt g] w fun e w' => e = .returned (.tuple #[]) ∧ ∃ k tb, w.heap.size ≤ k ∧ w.heap.size ≤ tb ∧ k ≠ tb ∧
      Cs w' b t #[S [], .int .i64 0, S [], .pointer none, .slice (some ⟨tb, 0, none⟩) 5 5] ∧ Cs w' tb pnT ((nils5.setIfInBounds mx (rpt k0)).setIfInBounds mc (rpt k)) ∧ Cs w' k nodT (leafA v p) ∧ Only (fun x => x = b) w w' := by
  have c2 : w.cell? ⟨b, 2, none⟩ = some (S [x]) := h.cell 2
  have c3 : w.cell? ⟨b, 3, none⟩ = some (rpt k0) := h.cell 3
  have c4 : w.cell? ⟨b, 4, none⟩ = some (.slice none 0 0) := h.cell 4
  have hne : (((x.toNat : Nat) : Int) == ((c.toNat : Nat) : Int)) = false := by
    rw [beq_eq_false_iff_ne]
    intro e
    exact hxc (UInt8.toNat_inj.1 (Int.ofNat.inj e))
  have d2 : ∀ ξ : X w No, ξ.v.cell? ⟨b, 2, none⟩ = some (S [x]) := h.x id 2
  have H := Lib.hid h
  have HG := Lib.hid hg
  clear h hg
  go_enter Tryz.func196, Tryz.ntmps196
  go_wp2_with fail
  go_loopw [10] (fun i wr => i = .int .i64 0 ∧ wr = w) (fun _ _ => 0)
  case atStart => exact ⟨rfl, rfl⟩
  case round =>
    obtain ⟨rfl, rfl⟩ := hrel
    go_upto_region 8 with fail
    (refine Mix.wp_draw [] 100 (Cl (wr) (No)) (by kernel_rfl) (by kernel_rfl) (Cl.drew_ (X.here wr No)) ?_; (repeat' (first | (refine Mix.lex_quiet0 rfl rfl rfl ?_; intro K hK; go_big_quiet_op; go_big_quiet_on) | (refine Mix.lex_quietG rfl rfl rfl (by with_reducible rfl) rfl rfl ?_; intro K hK; go_big_quiet_op; go_big_quiet_on) | ((first | refine Mix.lex_skipT rfl rfl rfl (by with_reducible rfl) ?_ | refine Mix.lex_skipF rfl rfl rfl (by with_reducible rfl) ?_ | refine Mix.lex_skipU rfl rfl rfl (by with_reducible rfl) ?_); simp only [Act.put, List.setIfInBounds_toArray, List.set_cons_succ, List.set_cons_zero]) | (refine Mix.lex_part rfl rfl rfl rfl (fun hq => ?_) (fun hq => ?_) <;> (fail_if_success (guard_hyp hq :ₛ true = true)) <;> (fail_if_success (guard_hyp hq :ₛ false = false)) <;> first | (exfalso; cases hq; done) | (exfalso; simp only [decide_eq_true_eq, decide_eq_false_iff_not, beq_iff_eq, beq_eq_false_iff_ne, ne_eq, Int.not_lt, Int.not_le] at hq; omega) | simp only [Act.put, List.setIfInBounds_toArray, List.set_cons_succ, List.set_cons_zero]))))
    all_goals (refine Mix.lex_nil ?_)
    go_upto_region 17 with fail
    obtain ⟨w1, hw1⟩ : ∃ u, u = (wr.alloc (.cells #[.string ⟨#[]⟩, .int .i64 0, .string ⟨#[]⟩, .pointer none, .slice none 0 0] nodT)).drew := ⟨_, rfl⟩
    obtain ⟨k, hk⟩ : ∃ k, k = wr.heap.size := ⟨_, rfl⟩
    rw [← hw1, ← hk]
    have x1 : Ext wr w1 := by rw [hw1]; exact ((Only.refl No wr).alloc _).drew
    have h1 := H.out.keep x1 id
    have g1 := HG.out.keep x1 id
    have k1 : Cs w1 k nodT nod0 := by rw [hw1, hk]; exact (Cs.new wr nodT nodZ).drew
    have hkb : k ≠ b := by have := H.out.lt; omega
    have e5 : w1.cell? ⟨g, 5, none⟩ = some (.int .i64 5) := (g1.cell 5).trans g5
    have d4 : ∀ o, (w1.alloc o).cell? ⟨b, 4, none⟩ = some (.slice none 0 0) := fun o => (h1.alloc o).cell 4
    have z4 : ∀ o, (w1.alloc o).frozen? ⟨b, 4, none⟩ = false := fun o => (h1.alloc o).frozen 4
    have HK := Lib.hid hk
    have HX1 := Lib.hid (And.intro h1 (And.intro g1 (And.intro k1 x1)))
    clear hw1 hk x1 h1 g1 k1 c2 c3 c4 d2
    have HM := make_ptrs w1
    go_upto_region 18 with fail
    obtain ⟨w2, hw2⟩ : ∃ u, u = (w1.alloc (.cells #[.pointer none, .pointer none, .pointer none, .pointer none, .pointer none] pnT)).setCell ⟨b, 4, none⟩ (.slice (some ⟨w1.heap.size, 0, none⟩) 5 5) := ⟨_, rfl⟩
    obtain ⟨tb, htb⟩ : ∃ k, k = w1.heap.size := ⟨_, rfl⟩
    rw [← hw2]
    have htbb : tb ≠ b := by have := HX1.out.1.lt; omega
    have htbg : tb ≠ g := by have := HX1.out.2.1.lt; omega
    have htbk : k ≠ tb := by have := HX1.out.2.2.1.lt; omega
    have x2 : Only (fun y => y = b) w1 w2 := by rw [hw2]; exact ((Only.refl _ w1).alloc _).at_ 4 _
    have h2 : Cs w2 b t #[S [], .int .i64 0, S [x], rpt k0, .slice (some ⟨tb, 0, none⟩) 5 5] := by rw [hw2, htb]; exact (HX1.out.1.alloc _).set_ 4 _
    have g2 : Cs w2 g genT gs := HX1.out.2.1.keep x2 (fun e => hbg e.symm)
    have k2 : Cs w2 k nodT nod0 := HX1.out.2.2.1.keep x2 hkb
    have t2 : Cs w2 tb pnT nils5 := by rw [hw2, htb]; exact (Cs.new w1 pnT _).far (by rw [← htb]; exact htbb) _
    have HX2 := Lib.hid (And.intro h2 (And.intro g2 (And.intro k2 (And.intro t2 x2))))
    have HTB := Lib.hid htb
    clear hw2 htb HM x2 h2 g2 k2 t2 e5 d4 z4
    have q4 : ∀ ξ : X w2 (fun y => y = tb), ξ.v.cell? ⟨b, 4, none⟩ = some (.slice (some ⟨tb, 0, none⟩) 5 5) := HX2.out.1.x (fun e => htbb e.symm) 4
    have q2 : ∀ ξ : X w2 (fun y => y = tb), ξ.v.cell? ⟨b, 2, none⟩ = some (S [x]) := HX2.out.1.x (fun e => htbb e.symm) 2
    have qx : ∀ ξ : X w2 (fun y => y = tb), ξ.v.cell? ⟨g, 6 + x.toNat, none⟩ = some (.int .u8 mx) := fun ξ => (HX2.out.2.1.x (F := fun y => y = tb) (fun e => htbg e.symm) (6 + x.toNat) ξ).trans gx
    have hx8 : x.toNat < 256 := x.toNat_lt
    have hc8 : c.toNat < 256 := c.toNat_lt
    (refine Mix.wp_draw [16] 16 (Cl (w2) ((fun y => y = tb))) (by kernel_rfl) (by kernel_rfl) (Cl.of (Only.refl _ _).drew) ?_; (repeat' (first | (refine Mix.lex_quiet0 rfl rfl rfl ?_; intro K hK; go_big_quiet_op; go_big_quiet_on) | (refine Mix.lex_quietG rfl rfl rfl (by with_reducible rfl) rfl rfl ?_; intro K hK; go_big_quiet_op; go_big_quiet_on) | ((first | refine Mix.lex_skipT rfl rfl rfl (by with_reducible rfl) ?_ | refine Mix.lex_skipF rfl rfl rfl (by with_reducible rfl) ?_ | refine Mix.lex_skipU rfl rfl rfl (by with_reducible rfl) ?_); simp only [Act.put, List.setIfInBounds_toArray, List.set_cons_succ, List.set_cons_zero]) | (refine Mix.lex_part rfl rfl rfl rfl (fun hq => ?_) (fun hq => ?_) <;> (fail_if_success (guard_hyp hq :ₛ true = true)) <;> (fail_if_success (guard_hyp hq :ₛ false = false)) <;> first | (exfalso; cases hq; done) | (exfalso; simp only [decide_eq_true_eq, decide_eq_false_iff_not, beq_iff_eq, beq_eq_false_iff_ne, ne_eq, Int.not_lt, Int.not_le] at hq; omega) | simp only [Act.put, List.setIfInBounds_toArray, List.set_cons_succ, List.set_cons_zero]))))
    have s1 : w2.drew.cell? ⟨tb, mx, none⟩ = some (.pointer none) := (HX2.out.2.2.2.1.drew.cell mx).trans (nil5_at hmx)
    have s2 : w2.drew.frozen? ⟨tb, mx, none⟩ = false := HX2.out.2.2.2.1.drew.frozen mx
    ((first | refine Mix.lex_goes0 rfl rfl ?_ | refine Mix.lex_goesG rfl rfl rfl (by with_reducible rfl) rfl ?_); intro K hK; go_simp)
    obtain ⟨w3, hw3⟩ : ∃ u, u = (w2.setCell ⟨tb, mx, none⟩ (rpt k0)).drew := ⟨_, rfl⟩
    rw [← hw3]
    refine hK _ _ (fun hne => absurd rfl hne) ?_
    clear hK K
    simp only [Act.put, List.setIfInBounds_toArray, List.set_cons_succ, List.set_cons_zero]
    refine Mix.lex_nil ?_
    have x3 : Only (fun y => y = tb) w2 w3 := by rw [hw3]; exact ((Only.refl _ w2).at_ mx _).drew
    have h3 := HX2.out.1.keep x3 (fun e => htbb e.symm)
    have g3 := HX2.out.2.1.keep x3 (fun e => htbg e.symm)
    have k3 := HX2.out.2.2.1.keep x3 htbk
    have t3 : Cs w3 tb pnT (nils5.setIfInBounds mx (rpt k0)) := by rw [hw3]; exact (HX2.out.2.2.2.1.set_ mx _).drew
    have HX3 := Lib.hid (And.intro h3 (And.intro g3 (And.intro k3 (And.intro t3 x3))))
    clear hw3 x3 h3 g3 k3 t3 q4 q2 qx s1 s2
    have q4 : ∀ ξ : X w3 (fun y => y = tb), ξ.v.cell? ⟨b, 4, none⟩ = some (.slice (some ⟨tb, 0, none⟩) 5 5) := HX3.out.1.x (fun e => htbb e.symm) 4
    have qc : ∀ ξ : X w3 (fun y => y = tb), ξ.v.cell? ⟨g, 6 + c.toNat, none⟩ = some (.int .u8 mc) := fun ξ => (HX3.out.2.1.x (F := fun y => y = tb) (fun e => htbg e.symm) (6 + c.toNat) ξ).trans gc
    go_upto_region 19 with fail
    (refine Mix.wp_draw [13] 13 (Cl (w3) ((fun y => y = tb))) (by kernel_rfl) (by kernel_rfl) (Cl.of (Only.refl _ _).drew) ?_; (repeat' (first | (refine Mix.lex_quiet0 rfl rfl rfl ?_; intro K hK; go_big_quiet_op; go_big_quiet_on) | (refine Mix.lex_quietG rfl rfl rfl (by with_reducible rfl) rfl rfl ?_; intro K hK; go_big_quiet_op; go_big_quiet_on) | ((first | refine Mix.lex_skipT rfl rfl rfl (by with_reducible rfl) ?_ | refine Mix.lex_skipF rfl rfl rfl (by with_reducible rfl) ?_ | refine Mix.lex_skipU rfl rfl rfl (by with_reducible rfl) ?_); simp only [Act.put, List.setIfInBounds_toArray, List.set_cons_succ, List.set_cons_zero]) | (refine Mix.lex_part rfl rfl rfl rfl (fun hq => ?_) (fun hq => ?_) <;> (fail_if_success (guard_hyp hq :ₛ true = true)) <;> (fail_if_success (guard_hyp hq :ₛ false = false)) <;> first | (exfalso; cases hq; done) | (exfalso; simp only [decide_eq_true_eq, decide_eq_false_iff_not, beq_iff_eq, beq_eq_false_iff_ne, ne_eq, Int.not_lt, Int.not_le] at hq; omega) | simp only [Act.put, List.setIfInBounds_toArray, List.set_cons_succ, List.set_cons_zero]))))
    have s1 : ∃ u, w3.drew.cell? ⟨tb, mc, none⟩ = some u := by
      rw [HX3.out.2.2.2.1.drew.cell mc]
      exact ⟨_, Array.getElem?_eq_getElem (by rw [Array.size_setIfInBounds]; exact hmc)⟩
    obtain ⟨u, s1⟩ := s1
    have s2 : w3.drew.frozen? ⟨tb, mc, none⟩ = false := HX3.out.2.2.2.1.drew.frozen mc
    ((first | refine Mix.lex_goes0 rfl rfl ?_ | refine Mix.lex_goesG rfl rfl rfl (by with_reducible rfl) rfl ?_); intro K hK; go_simp)
    obtain ⟨w4, hw4⟩ : ∃ u, u = (w3.setCell ⟨tb, mc, none⟩ (rpt k)).drew := ⟨_, rfl⟩
    rw [← hw4]
    refine hK _ _ (fun hne => absurd rfl hne) ?_
    clear hK K
    simp only [Act.put, List.setIfInBounds_toArray, List.set_cons_succ, List.set_cons_zero]
    refine Mix.lex_nil ?_
    have x4 : Only (fun y => y = tb) w3 w4 := by rw [hw4]; exact ((Only.refl _ w3).at_ mc _).drew
    have h4 := HX3.out.1.keep x4 (fun e => htbb e.symm)
    have k4 := HX3.out.2.2.1.keep x4 htbk
    have t4 : Cs w4 tb pnT ((nils5.setIfInBounds mx (rpt k0)).setIfInBounds mc (rpt k)) := by rw [hw4]; exact (HX3.out.2.2.2.1.set_ mc _).drew
    have e2 : w4.cell? ⟨b, 2, none⟩ = some (S [x]) := h4.cell 2
    have e3 : w4.cell? ⟨b, 3, none⟩ = some (rpt k0) := h4.cell 3
    have z2 := h4.frozen 2
    have z3 := h4.frozen 3
    obtain ⟨w5, hw5⟩ : ∃ u, u = (w4.setCell ⟨b, 2, none⟩ (.string ⟨#[]⟩)).setCell ⟨b, 3, none⟩ (.pointer none) := ⟨_, rfl⟩
    have x5 : Only (fun y => y = b) w4 w5 := by rw [hw5]; exact ((Only.refl _ w4).at_ 2 _).at_ 3 _
    have h5 : Cs w5 b t #[S [], .int .i64 0, S [], .pointer none, .slice (some ⟨tb, 0, none⟩) 5 5] := by rw [hw5]; exact (h4.set_ 2 _).set_ 3 _
    have k5 := k4.keep x5 hkb
    have t5 := t4.keep x5 htbb
    have HL := Lib.hid (add_leaf (g := g) v p k5)
    have HX5 := Lib.hid (And.intro h5 (And.intro t5 (And.intro x4 x5)))
    clear hw4 x4 h4 k4 t4 q4 qc s1 s2 x5 h5 k5 t5
    go_upto_region 22 with fail
    rw [← hw5]
    clear hw5
    go_wp2_with fail
    refine HL.out.mono ?_
    rintro e w6 ⟨rfl, hl, ho⟩
    go_wp2_with fail
    go_end0
    have hs1 := HX1.out.2.2.2.size
    have hk0 := HK.out
    have htb := HTB.out
    refine ⟨rfl, k, tb, by omega, by omega, htbk, HX5.out.1.keep ho (fun e => hkb e.symm), HX5.out.2.1.keep ho (fun e => htbk e.symm), hl, ?_⟩
    have o1 : Only (fun y => y = b) wr w2 := HX1.out.2.2.2.any.trans HX2.out.2.2.2.2 fun y hy e => e
    have o2 : Only (fun y => y = b) wr w3 := o1.trans HX3.out.2.2.2.2 fun y hy e => by have e : y = tb := e; omega
    have o3 : Only (fun y => y = b) wr w4 := o2.trans HX5.out.2.2.1 fun y hy e => by have e : y = tb := e; omega
    have o4 : Only (fun y => y = b) wr w5 := o3.trans HX5.out.2.2.2 fun y hy e => e
    exact o4.trans ho fun y hy e => by have e : y = k := e; omega
set_option maxRecDepth 100000 in
set_option maxHeartbeats 1000000 in
theorem add_old {w : World} {b g tb n m : Nat} {t : TypeId} {bs ts gs : Array Value} {c : UInt8} {r : Str} (v : Str) (p : Int) {Q : World → Prop} (hm : m < 5)
    (h : Cs w b t bs) (h2 : bs[2]? = some (S [])) (h4 : bs[4]? = some (.slice (some ⟨tb, 0, none⟩) 5 5)) (ht : Cs w tb pnT ts) (hn : ts[m]? = some (rpt n)) (hg : Cs w g genT gs) (gc : gs[6 + c.toNat]? = some (.int .u8 m))
    (hrec : ∀ u, Ext w u → Calls Tryz.prog 196 #[rpt n, S r, S v, .int .i64 p, rpt g] u fun e w' => e = .returned (.tuple #[]) ∧ Q w') :
    Calls Tryz.prog 196 #[rpt b, S (c :: r), S v, .int .i64 p, rpt g] w fun e w' => e = .returned (.tuple #[]) ∧ Q w' := by
  have c1 : w.cell? ⟨b, 2, none⟩ = some (S []) := (h.cell 2).trans h2
  have c4 : ∀ ξ : X w No, ξ.v.cell? ⟨b, 4, none⟩ = some (.slice (some ⟨tb, 0, none⟩) 5 5) := fun ξ => (h.x (F := No) id 4 ξ).trans h4
  have cm : ∀ ξ : X w No, ξ.v.cell? ⟨g, 6 + c.toNat, none⟩ = some (.int .u8 m) := fun ξ => (hg.x (F := No) id (6 + c.toNat) ξ).trans gc
  have hc8 : c.toNat < 256 := c.toNat_lt
  have cn : ∀ ξ : X w No, ξ.v.cell? ⟨tb, m, none⟩ = some (rpt n) := fun ξ => (ht.x (F := No) id m ξ).trans hn
  have c4' : w.cell? ⟨b, 4, none⟩ = some (.slice (some ⟨tb, 0, none⟩) 5 5) := c4 (X.here w No)
  have cn' : w.cell? ⟨tb, m, none⟩ = some (rpt n) := cn (X.here w No)
  have HR := Lib.hid hrec
  clear h h2 h4 ht hn hg gc hrec
  go_enter Tryz.func196, Tryz.ntmps196
  go_upto_region 28 with fail
  (refine Mix.wp_draw [] 100 (Cl (w) (No)) (by kernel_rfl) (by kernel_rfl) (Cl.drew_ (X.here w No)) ?_; (repeat' (first | (refine Mix.lex_quiet0 rfl rfl rfl ?_; intro K hK; go_big_quiet_op; go_big_quiet_on) | (refine Mix.lex_quietG rfl rfl rfl (by with_reducible rfl) rfl rfl ?_; intro K hK; go_big_quiet_op; go_big_quiet_on) | ((first | refine Mix.lex_skipT rfl rfl rfl (by with_reducible rfl) ?_ | refine Mix.lex_skipF rfl rfl rfl (by with_reducible rfl) ?_ | refine Mix.lex_skipU rfl rfl rfl (by with_reducible rfl) ?_); simp only [Act.put, List.setIfInBounds_toArray, List.set_cons_succ, List.set_cons_zero]) | (refine Mix.lex_part rfl rfl rfl rfl (fun hq => ?_) (fun hq => ?_) <;> (fail_if_success (guard_hyp hq :ₛ true = true)) <;> (fail_if_success (guard_hyp hq :ₛ false = false)) <;> first | (exfalso; cases hq; done) | (exfalso; simp only [decide_eq_true_eq, decide_eq_false_iff_not, beq_iff_eq, beq_eq_false_iff_ne, ne_eq, Int.not_lt, Int.not_le] at hq; omega) | simp only [Act.put, List.setIfInBounds_toArray, List.set_cons_succ, List.set_cons_zero]))))
  all_goals (refine Mix.lex_nil ?_)
  go_upto_region 31 with fail
  (refine Mix.wp_draw [12] 12 (Cl (w) (No)) (by kernel_rfl) (by kernel_rfl) (Cl.of (Only.refl No w).drew.drew) ?_; (repeat' (first | (refine Mix.lex_quiet0 rfl rfl rfl ?_; intro K hK; go_big_quiet_op; go_big_quiet_on) | (refine Mix.lex_quietG rfl rfl rfl (by with_reducible rfl) rfl rfl ?_; intro K hK; go_big_quiet_op; go_big_quiet_on) | ((first | refine Mix.lex_skipT rfl rfl rfl (by with_reducible rfl) ?_ | refine Mix.lex_skipF rfl rfl rfl (by with_reducible rfl) ?_ | refine Mix.lex_skipU rfl rfl rfl (by with_reducible rfl) ?_); simp only [Act.put, List.setIfInBounds_toArray, List.set_cons_succ, List.set_cons_zero]) | (refine Mix.lex_part rfl rfl rfl rfl (fun hq => ?_) (fun hq => ?_) <;> (fail_if_success (guard_hyp hq :ₛ true = true)) <;> (fail_if_success (guard_hyp hq :ₛ false = false)) <;> first | (exfalso; cases hq; done) | (exfalso; simp only [decide_eq_true_eq, decide_eq_false_iff_not, beq_iff_eq, beq_eq_false_iff_ne, ne_eq, Int.not_lt, Int.not_le] at hq; omega) | simp only [Act.put, List.setIfInBounds_toArray, List.set_cons_succ, List.set_cons_zero]))))
  ((first | refine Mix.lex_goes0 rfl rfl ?_ | refine Mix.lex_goesG rfl rfl rfl (by with_reducible rfl) rfl ?_); intro K hK; go_simp)
  refine (HR.out _ (Only.refl No w).drew.drew).mono ?_
  rintro e w' ⟨rfl, hQ⟩
  refine ⟨_, rfl, hK _ _ (fun hne => absurd rfl hne) ?_⟩
  clear hK K
  simp only [Act.put, List.setIfInBounds_toArray, List.set_cons_succ, List.set_cons_zero]
  refine Mix.lex_nil ?_
  go_wp2_with fail
  go_end0
  exact ⟨rfl, hQ⟩
set_option maxRecDepth 100000 in
set_option maxHeartbeats 1000000 in
theorem add_nil {w : World} {b g tb m : Nat} {t : TypeId} {bs ts gs : Array Value} {c : UInt8} {r : Str} (v : Str) (p : Int) {Q : World → Prop} (hm : m < 5)
    (h : Cs w b t bs) (h2 : bs[2]? = some (S [])) (h4 : bs[4]? = some (.slice (some ⟨tb, 0, none⟩) 5 5)) (ht : Cs w tb pnT ts) (hn : ts[m]? = some (.pointer none)) (hbt : b ≠ tb) (hg : Cs w g genT gs) (gc : gs[6 + c.toNat]? = some (.int .u8 m))
    (hrec : ∀ u k, w.heap.size ≤ k → Only (fun x => x = tb) w u → Cs u tb pnT (ts.setIfInBounds m (rpt k)) → Cs u k nodT nod0 → Calls Tryz.prog 196 #[rpt k, S r, S v, .int .i64 p, rpt g] u fun e w' => e = .returned (.tuple #[]) ∧ Q w') :
    Calls Tryz.prog 196 #[rpt b, S (c :: r), S v, .int .i64 p, rpt g] w fun e w' => e = .returned (.tuple #[]) ∧ Q w' := by
  have c1 : w.cell? ⟨b, 2, none⟩ = some (S []) := (h.cell 2).trans h2
  have c4 : ∀ ξ : X w No, ξ.v.cell? ⟨b, 4, none⟩ = some (.slice (some ⟨tb, 0, none⟩) 5 5) := fun ξ => (h.x (F := No) id 4 ξ).trans h4
  have cm : ∀ ξ : X w No, ξ.v.cell? ⟨g, 6 + c.toNat, none⟩ = some (.int .u8 m) := fun ξ => (hg.x (F := No) id (6 + c.toNat) ξ).trans gc
  have hc8 : c.toNat < 256 := c.toNat_lt
  have cn : w.cell? ⟨tb, m, none⟩ = some (.pointer none) := (ht.cell m).trans hn
  have c4' : w.cell? ⟨b, 4, none⟩ = some (.slice (some ⟨tb, 0, none⟩) 5 5) := c4 (X.here w No)
  have HR := Lib.hid hrec
  go_enter Tryz.func196, Tryz.ntmps196
  go_upto_region 28 with fail
  (refine Mix.wp_draw [] 100 (Cl (w) (No)) (by kernel_rfl) (by kernel_rfl) (Cl.drew_ (X.here w No)) ?_; (repeat' (first | (refine Mix.lex_quiet0 rfl rfl rfl ?_; intro K hK; go_big_quiet_op; go_big_quiet_on) | (refine Mix.lex_quietG rfl rfl rfl (by with_reducible rfl) rfl rfl ?_; intro K hK; go_big_quiet_op; go_big_quiet_on) | ((first | refine Mix.lex_skipT rfl rfl rfl (by with_reducible rfl) ?_ | refine Mix.lex_skipF rfl rfl rfl (by with_reducible rfl) ?_ | refine Mix.lex_skipU rfl rfl rfl (by with_reducible rfl) ?_); simp only [Act.put, List.setIfInBounds_toArray, List.set_cons_succ, List.set_cons_zero]) | (refine Mix.lex_part rfl rfl rfl rfl (fun hq => ?_) (fun hq => ?_) <;> (fail_if_success (guard_hyp hq :ₛ true = true)) <;> (fail_if_success (guard_hyp hq :ₛ false = false)) <;> first | (exfalso; cases hq; done) | (exfalso; simp only [decide_eq_true_eq, decide_eq_false_iff_not, beq_iff_eq, beq_eq_false_iff_ne, ne_eq, Int.not_lt, Int.not_le] at hq; omega) | simp only [Act.put, List.setIfInBounds_toArray, List.set_cons_succ, List.set_cons_zero]))))
  all_goals (refine Mix.lex_nil ?_)
  obtain ⟨w1, hw1⟩ : ∃ u, u = w.drew := ⟨_, rfl⟩
  have x1 : Ext w w1 := by rw [hw1]; exact (Only.refl No w).drew
  have t1 := ht.keep x1 id
  have b1 := h.keep x1 id
  rw [← hw1]
  have e4 : ∀ o, (w1.alloc o).cell? ⟨b, 4, none⟩ = some (.slice (some ⟨tb, 0, none⟩) 5 5) := fun o => ((b1.alloc o).cell 4).trans h4
  have f4 : w1.cell? ⟨b, 4, none⟩ = some (.slice (some ⟨tb, 0, none⟩) 5 5) := (b1.cell 4).trans h4
  have em : ∀ o, (w1.alloc o).cell? ⟨tb, m, none⟩ = some (.pointer none) := fun o => ((t1.alloc o).cell m).trans hn
  have fm : w1.cell? ⟨tb, m, none⟩ = some (.pointer none) := (t1.cell m).trans hn
  have zm : ∀ o, (w1.alloc o).frozen? ⟨tb, m, none⟩ = false := fun o => (t1.alloc o).frozen m
  have HH := Lib.hid (And.intro b1 (And.intro t1 (And.intro x1 (And.intro h4 hn))))
  have HG := Lib.hid gc
  clear hw1 h h2 h4 ht hn hg gc hrec x1 t1 b1 c1 c4 cm cn c4'
  go_upto_region 31 with fail
  obtain ⟨w2, hw2⟩ : ∃ u, u = (w1.alloc (.cells #[.string ⟨#[]⟩, .int .i64 0, .string ⟨#[]⟩, .pointer none, .slice none 0 0] nodT)).setCell ⟨tb, m, none⟩ (.pointer (some ⟨w1.heap.size, 0, none⟩)) := ⟨_, rfl⟩
  obtain ⟨k, hk⟩ : ∃ k, k = w1.heap.size := ⟨_, rfl⟩
  rw [← hw2]
  have hkt : k ≠ tb := by have := HH.out.2.1.lt; omega
  have x2 : Only (fun x => x = tb) w w2 := by rw [hw2]; exact ((HH.out.2.2.1.any).alloc _).at_ m _
  have b2 : Cs w2 b t bs := by rw [hw2]; exact (HH.out.1.alloc _).far hbt _
  have t2 : Cs w2 tb pnT (ts.setIfInBounds m (rpt k)) := by rw [hw2, hk]; exact (HH.out.2.1.alloc _).set_ m _
  have k2 : Cs w2 k nodT nod0 := by rw [hw2, hk]; exact (Cs.new w1 nodT nodZ).far (by rw [← hk]; exact hkt) _
  have hts : (ts.setIfInBounds m (rpt k))[m]? = some (rpt k) := by
    have hz : m < ts.size := (Array.getElem?_eq_some_iff.1 HH.out.2.2.2.2).1
    simp [Array.getElem?_setIfInBounds, hz]
  have HK := Lib.hid hk
  have hwk : w.heap.size ≤ k := by rw [HK.out]; exact HH.out.2.2.1.size
  clear hw2 hk e4 f4 em fm zm
  have c4 : ∀ ξ : X w2 No, ξ.v.cell? ⟨b, 4, none⟩ = some (.slice (some ⟨tb, 0, none⟩) 5 5) := fun ξ => (b2.x (F := No) id 4 ξ).trans HH.out.2.2.2.1
  have cn : ∀ ξ : X w2 No, ξ.v.cell? ⟨tb, m, none⟩ = some (rpt k) := fun ξ => (t2.x (F := No) id m ξ).trans hts
  (refine Mix.wp_draw [12] 12 (Cl (w2) (No)) (by kernel_rfl) (by kernel_rfl) (Cl.of (Only.refl No w2).drew) ?_; (repeat' (first | (refine Mix.lex_quiet0 rfl rfl rfl ?_; intro K hK; go_big_quiet_op; go_big_quiet_on) | (refine Mix.lex_quietG rfl rfl rfl (by with_reducible rfl) rfl rfl ?_; intro K hK; go_big_quiet_op; go_big_quiet_on) | ((first | refine Mix.lex_skipT rfl rfl rfl (by with_reducible rfl) ?_ | refine Mix.lex_skipF rfl rfl rfl (by with_reducible rfl) ?_ | refine Mix.lex_skipU rfl rfl rfl (by with_reducible rfl) ?_); simp only [Act.put, List.setIfInBounds_toArray, List.set_cons_succ, List.set_cons_zero]) | (refine Mix.lex_part rfl rfl rfl rfl (fun hq => ?_) (fun hq => ?_) <;> (fail_if_success (guard_hyp hq :ₛ true = true)) <;> (fail_if_success (guard_hyp hq :ₛ false = false)) <;> first | (exfalso; cases hq; done) | (exfalso; simp only [decide_eq_true_eq, decide_eq_false_iff_not, beq_iff_eq, beq_eq_false_iff_ne, ne_eq, Int.not_lt, Int.not_le] at hq; omega) | simp only [Act.put, List.setIfInBounds_toArray, List.set_cons_succ, List.set_cons_zero]))))
  ((first | refine Mix.lex_goes0 rfl rfl ?_ | refine Mix.lex_goesG rfl rfl rfl (by with_reducible rfl) rfl ?_); intro K hK; go_simp)
  refine (HR.out _ k hwk x2.drew t2.drew k2.drew).mono ?_
  rintro e w' ⟨rfl, hQ⟩
  refine ⟨_, rfl, hK _ _ (fun hne => absurd rfl hne) ?_⟩
  clear hK K
  simp only [Act.put, List.setIfInBounds_toArray, List.set_cons_succ, List.set_cons_zero]
  refine Mix.lex_nil ?_
  go_wp2_with fail
  go_end0
  exact ⟨rfl, hQ⟩
end Go.Proofs.YtnhaekifcieeoaaGreatDoor
