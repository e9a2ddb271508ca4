/- Put together: MkC, MkR, MkN, MkK, MkP, Gx1, Un1, Mp, Kp, Gx2, Rp1, Rp2, Rp3, Rp4, Rp5, Once, Rp6, Rp7, Rp8, Bld, Join, Auto, Tree, Gx3, Gx4. -/
import Derived.Test.YtnhaekifcieeoaaGreatDoorPk02
import Derived.Test.YtnhaekifcieeoaaGreatDoorPk09
import Derived.Test.YtnhaekifcieeoaaGreatDoorPk04
import Derived.Test.YtnhaekifcieeoaaGreatDoorPk03
import Derived.Test.YtnhaekifcieeoaaGreatDoorPk05
import Derived.Laws.ResultCell
import Derived.Test.YtnhaekifcieeoaaGreatDoorPkS
import Derived.Maps.OwnSet
import Derived.Maps.Views
import Derived.Carry
import Derived.Test.YtnhaekifcieeoaaGreatDoorPk07
import Derived.Test.YtnhaekifcieeoaaGreatDoorProg
import Derived.Laws.MakeOwn
import Derived.Deep.MidRow
import Derived.OwnWalk
import Derived.Lib.FrozenHead
import Derived.Lib.AppendStr
import Derived.Stop.Asserts
import Derived.Defers
import Derived.Laws.Pointers
import Derived.Laws.LoneSync
import Derived.RegionTactic
import Derived.RegionCalls
import Derived.ChangeAlike
import Derived.Test.YtnhaekifcieeoaaGreatDoorPk01
import Derived.Lib.SlBytesRow
import Derived.Shelf.Strings.BuilderK
import Derived.Laws.Externs
import Derived.Deep.CutRange
namespace Go.Proofs.YtnhaekifcieeoaaGreatDoor
open Go Go.RowKit
theorem vr_info : (Tryz.prog.info? varT).map (fun i => (i.zero, i.size, i.bytes)) = some (some (.agg #[.string ⟨#[]⟩, .string ⟨#[]⟩]), 2, 32) := by kernel_rfl
theorem vr_ty : Ety Tryz.prog 25 varT 2 := Ety.mk' Tryz.underlying25 vr_info rfl (by omega) (by omega)
theorem ru_info : (Tryz.prog.info? ruleT).map (fun i => (i.zero, i.size, i.bytes)) = some (some (.agg #[.slice none 0 0, .slice none 0 0, .slice none 0 0]), 3, 72) := by kernel_rfl
theorem ru_ty : Ety Tryz.prog 26 ruleT 3 := Ety.mk' Tryz.underlying26 ru_info rfl (by omega) (by omega)
@[go_sem] theorem rule_build (A B : Option Addr) (n c m d : Nat) (w : World) : (Instr.build ruleT #[(0, .slice A n c), (1, .slice B m d)]).run Tryz.prog w = .ok (.agg #[.slice A n c, .slice B m d, .slice none 0 0]) w := run_build w ruleT _ _ (by kernel_rfl)
theorem chkR_cons (ph : List Str) (r : Rul) (rs : List Rul) (made : List Str) : chkR ph (r :: rs) made = if dupF made r.targets = true then none else if ruleOk ph r = true then chkR ph rs (made ++ r.targets) else none := rfl
theorem dupF_cons (made ts : List Str) (t : Str) : dupF made (t :: ts) = (inS made t || dupF (made ++ [t]) ts) := rfl
theorem load_mk {w : World} {b : Nat} {x y z : Value} (h : Cs w b makeT #[x, y, z]) : (loadVar makeT ⟨b, 0, none⟩).run Tryz.prog w = .ok (.agg #[x, y, z]) w := by
  have c0 := h.cell 0
  have c1 := h.cell 1
  have c2 := h.cell 2
  simp only [List.getElem?_toArray, List.getElem?_cons_succ, List.getElem?_cons_zero] at c0 c1 c2
  go_simp
@[go_sem] theorem mk_build0 (w : World) : (Instr.build makeT #[]).run Tryz.prog w = .ok (.agg #[.slice none 0 0, .slice none 0 0, .slice none 0 0]) w := run_build w makeT _ _ (by kernel_rfl)
theorem Fresh.fin {α : Type} {T : Flat α} (hp : 0 < T.size) {t : TypeId} {w wr u : World} {A : Option Addr} {c : Nat} {F : Nat → Prop} {xs : List α} (h : Fresh T t w wr A c xs) (hx : Only F wr u) (hg : ∀ b, F b → b < w.heap.size) : SlR T u A xs.length xs :=
  SlR.of_own hp (own_keep h.own hx fun b hb e => by have := hg b e; have := h.new b hb; omega)
theorem MAt.fin {Q : List SRow} {w wr u : World} {g : Nat} {F : Nat → Prop} {v : MkV} {rs : List (RulA × Rul)} {m : Mk} (h : MAt Q w wr g v rs m) (hx : Only F wr u) (hg : ∀ b, F b → b < w.heap.size) : MakeR u v rs m := by
  refine ⟨h.fv.fin (by decide) hx hg, ?_, (h.ss.f ⟨v.pA, v.pc, m.phony⟩ (by simp)).fin (by decide) hx hg, fun x hm => ?_, h.rm⟩
  · have := h.fr.fin (by decide) hx hg
    rw [h.rl] at this
    exact this
  · have q : ∀ y ∈ rowsOf x, y ∈ Q ++ (⟨v.pA, v.pc, m.phony⟩ : SRow) :: rs.flatMap rowsOf := fun y hy => List.mem_append_right _ (List.mem_cons_of_mem _ (List.mem_flatMap.2 ⟨x, hm, hy⟩))
    exact ⟨(h.ss.f _ (q ⟨x.1.tA, x.1.tc, x.2.targets⟩ (by simp))).fin (by decide) hx hg, (h.ss.f _ (q ⟨x.1.nA, x.1.nc, x.2.needs⟩ (by simp))).fin (by decide) hx hg, (h.ss.f _ (q ⟨x.1.cA, x.1.cc, x.2.cmds⟩ (by simp))).fin (by decide) hx hg⟩
theorem MAt.mk0 {w wr : World} {g : Nat} {q : SRow} (hx : Ext w wr) (hg : w.heap.size ≤ g) (hc : Cs wr g makeT #[.slice none 0 0, .slice none 0 0, .slice none 0 0]) (hq : q.F w wr) : MAt [q] w wr g mkV0 [] mk0 := by
  refine ⟨hc, Fresh.nil _ _ _ _ hx, Fresh.nil _ _ _ _ hx, ⟨fun x hm => ?_, ?_⟩, rfl, hg⟩
  · rcases List.mem_cons.1 hm with rfl | hm
    · exact hq
    · obtain rfl := List.mem_singleton.1 hm
      exact Fresh.nil _ _ _ _ hx
  · refine List.pairwise_cons.2 ⟨fun y hy => ?_, List.pairwise_singleton _ _⟩
    obtain rfl := List.mem_singleton.1 hy
    intro g _ h2
    simp [SRow.own, Value.ownBlock] at h2
theorem parseF_fit (s : Str) : (parseF s).1.Fit 700 := by
  have h0 : mk0.Fit 700 := ⟨mk0_fit.v, mk0_fit.vt, mk0_fit.r, mk0_fit.rt, Nat.zero_le _⟩
  unfold parseF
  split
  · exact h0
  · rename_i hl
    split
    · exact h0
    · split
      · have := foldF_fit (splB 10 s) mk0 0 mk0_fit (fun l hx => by have := splB_mem 10 s l hx; omega)
        have h1 := splB_le 10 s
        exact ⟨this.v, this.vt, this.r, this.rt, by have := this.p; show (foldF (splB 10 s) mk0).1.phony.length ≤ 700; omega⟩
      · exact h0
abbrev grpT : TypeId := 46
def grpF : Flat (RulA × Grp) := ⟨4, fun x => [.slice x.1.tA x.2.targets.length x.1.tc, .slice x.1.nA x.2.needs.length x.1.nc, .slice x.1.cA x.2.cmds.length x.1.cc, .bool x.2.phony], fun _ => rfl⟩
theorem grps_get {w : World} {A : Option Addr} {n : Nat} {rs : List (RulA × Grp)} (h : SlR grpF w A n rs) {k : Nat} (hk : k < n) :
    ∃ b o x, A = some ⟨b, o, none⟩ ∧ rs[k]? = some x ∧ (∀ ξ : X w No, ξ.v.cell? ⟨b, o + k * 4, none⟩ = some (.slice x.1.tA x.2.targets.length x.1.tc)) ∧ (∀ ξ : X w No, ξ.v.cell? ⟨b, o + k * 4 + 1, none⟩ = some (.slice x.1.nA x.2.needs.length x.1.nc)) ∧
      (∀ ξ : X w No, ξ.v.cell? ⟨b, o + k * 4 + 2, none⟩ = some (.slice x.1.cA x.2.cmds.length x.1.cc)) ∧ (∀ ξ : X w No, ξ.v.cell? ⟨b, o + k * 4 + 3, none⟩ = some (.bool x.2.phony)) := by
  obtain ⟨b, o, x, e, hb, hx, hc⟩ := h.get hk
  exact ⟨b, o, x, e, hx, fun ξ => (ξ.h.cell hb id).trans (hc 0 _ rfl), fun ξ => (ξ.h.cell hb id).trans (hc 1 _ rfl), fun ξ => (ξ.h.cell hb id).trans (hc 2 _ rfl), fun ξ => (ξ.h.cell hb id).trans (hc 3 _ rfl)⟩
abbrev ruleV (x : RulA × Rul) : Value := .agg #[.slice x.1.tA x.2.targets.length x.1.tc, .slice x.1.nA x.2.needs.length x.1.nc, .slice x.1.cA x.2.cmds.length x.1.cc]
abbrev grpW (x : RulA × Grp) : Value := .agg #[.slice x.1.tA x.2.targets.length x.1.tc, .slice x.1.nA x.2.needs.length x.1.nc, .slice x.1.cA x.2.cmds.length x.1.cc, .bool x.2.phony]
def idxI (o : Option Nat) : Int := match o with | some i => (i : Int) | none => -1
structure GBu (G : Grp) : Prop where
  c : G.cmds.length ≤ 100
  n : G.needs.length ≤ 100
  t : G.targets.length ≤ 100
  lc : ∀ x ∈ G.cmds, x.length ≤ 1000
  ln : ∀ x ∈ G.needs, x.length ≤ 10000
  lt : ∀ x ∈ G.targets, x.length ≤ 10000
theorem GBu.lim {G : Grp} (h : GBu G) : G.Lim := ⟨by have := h.t; omega, by have := h.n; omega, by have := h.c; omega, h.lc⟩
structure FBu (l : List File) : Prop where
  n : l.length ≤ 1000
  r : Rise fk l
  x : ∀ f ∈ l, f.1.length ≤ 10000 ∧ f.2.length ≤ 1000
def OneRes (w : World) (l : List File) (G : Grp) (e : Ending) (w' : World) : Prop :=
  ∃ (A : Option Addr) (c : Nat) (V : RcdV), e = .returned (.tuple #[.slice A (oneF l G).1.1.length c, rcdV V (oneF l G).1.2, errV (oneF l G).2]) ∧ SlR fileF w' A (oneF l G).1.1.length (oneF l G).1.1 ∧ RcdR w' V (oneF l G).1.2 ∧ Ext w w'
theorem RcdR.zero (w : World) : RcdR w ⟨none, 0, none, 0, none, 0⟩ rcd0 := ⟨SlR.none_, SlR.none_, SlR.none_⟩
theorem SlR.off3 {α : Type} {T : Flat α} (hT : ∀ x : α, ∃ s l, T.enc x = S s :: l) {w v : World} {A : Option Addr} {n g : Nat} {t : TypeId} {xs : List α} (h : SlR T w A n xs) {a1 a2 a3 : Option Addr} {n1 n2 n3 c1 c2 c3 : Nat} (hc : Cs w g t #[.slice a1 n1 c1, .slice a2 n2 c2, .slice a3 n3 c3]) (hx : Only (fun q => q = g) w v) : SlR T v A n xs :=
  h.keep_far hx fun b o e hp hb => h.far3 hT hc b o e hp hb
theorem RcdR.off3 {w v : World} {V : RcdV} {r : Rcd} {g : Nat} {t : TypeId} (h : RcdR w V r) {a1 a2 a3 : Option Addr} {n1 n2 n3 c1 c2 c3 : Nat} (hc : Cs w g t #[.slice a1 n1 c1, .slice a2 n2 c2, .slice a3 n3 c3]) (hx : Only (fun q => q = g) w v) : RcdR v V r :=
  ⟨h.c.off3 strF_head hc hx, h.n.off3 fileF_head hc hx, h.o.off3 fileF_head hc hx⟩
set_option maxRecDepth 100000 in
set_option maxHeartbeats 4000000 in
theorem One_c {w : World} (hE : EnvT w) {a : RulA} {G : Grp} (ht : SlR strF w a.tA G.targets.length G.targets) (hn : SlR strF w a.nA G.needs.length G.needs) (hc : SlR strF w a.cA G.cmds.length G.cmds) (hb : GBu G)
    {lA : Option Addr} {lc : Nat} {l : List File} (hl : SlR fileF w lA l.length l) (hf : FBu l) :
    Calls Tryz.prog 48 #[grpW (a, G), .slice lA l.length lc] w (OneRes w l G) := by
  obtain ⟨tA, tc, nA, nc, cA, cc⟩ := a
  obtain ⟨w1, hw1⟩ : ∃ u, u = w.alloc (.cells #[.slice tA G.targets.length tc, .slice nA G.needs.length nc, .slice cA G.cmds.length cc, .bool G.phony] grpT) := ⟨_, rfl⟩
  obtain ⟨w2, hw2⟩ : ∃ u, u = w1.alloc (.cells #[.slice none 0 0, .slice none 0 0, .slice none 0 0] rcT) := ⟨_, rfl⟩
  obtain ⟨b2, hb2⟩ : ∃ b, b = w.heap.size := ⟨_, rfl⟩
  obtain ⟨b5, hb5⟩ : ∃ b, b = w.heap.size + 1 := ⟨_, rfl⟩
  have s1 : w1.heap.size = w.heap.size + 1 := by rw [hw1]; simp
  have x1 : Ext w w1 := by rw [hw1]; exact (Only.refl No w).alloc _
  have x2 : Ext w1 w2 := by rw [hw2]; exact (Only.refl No w1).alloc _
  have x12 := x1.then_ext x2
  have C2 : Hid (Cs w2 b2 grpT #[.slice tA G.targets.length tc, .slice nA G.needs.length nc, .slice cA G.cmds.length cc, .bool G.phony]) := (show Cs w1 b2 grpT _ by rw [hw1, hb2]; exact Cs.new _ _ _).keep x2 id
  have C5 : Hid (Cs w2 b5 rcT #[.slice none 0 0, .slice none 0 0, .slice none 0 0]) := by rw [hw2, hb5, ← s1]; exact Cs.new _ _ _
  have X2 := Lib.hid x12
  have HB5 : Hid (w.heap.size ≤ b5) := by rw [hb5]; exact Nat.le_succ _
  have HE := Lib.hid (hE.ext x12)
  have HA := Lib.hid (All_c (c := lc) (hE.ext x12).ml (hl.ext x12) (by have := hf.n; omega) hf.r (fun f h => (hf.x f h).2) (v := ⟨tA, tc, nA, nc, cA, cc⟩) (g := G) ⟨SlR.ext ht x12, SlR.ext hn x12, SlR.ext hc x12⟩ hb.lim)
  have HOf := Lib.hid (fun u (hu : Ext w2 u) (B : Option Addr) (d : Nat) (o : List File) (ho : SlR fileF u B o.length o) (ho2 : o.length ≤ 1000) => Of_c (gv := ⟨tA, tc, nA, nc, cA, cc⟩) (c := lc) (d := d) (⟨(SlR.ext ht x12).ext hu, (SlR.ext hn x12).ext hu, (SlR.ext hc x12).ext hu⟩ : GrpR u ⟨tA, tc, nA, nc, cA, cc⟩ G) ((hl.ext x12).ext hu) ho hf.r (by have := hb.c; omega) (by have := hb.n; omega) hf.n ho2)
  have HFit := Lib.hid (allF_fit l G)
  have HNm := Lib.hid (allF_names (xs := l) hb.lt)
  have HO : Hid (∀ o f, allF l G = (o, f) → oneF l G = if f ≠ 0 then (([], rcd0), f) else if 300 < (recT (recOf G l o)).length then (([], rcd0), 10) else ((o, recOf G l o), 0)) := fun o f e => by unfold oneF; rw [e]
  obtain ⟨⟨o, f⟩, hof⟩ : ∃ R, R = allF l G := ⟨_, rfl⟩
  rw [← hof] at HA HFit HNm
  have HO2 := Lib.hid (HO.out o f hof.symm)
  have HBu := Lib.hid hb
  have HFu := Lib.hid hf
  have k0 : w2.cell? ⟨b2, 0, none⟩ = some (.slice tA G.targets.length tc) := C2.out.cell 0
  have k1 : w2.cell? ⟨b2, 1, none⟩ = some (.slice nA G.needs.length nc) := C2.out.cell 1
  have k2 : w2.cell? ⟨b2, 2, none⟩ = some (.slice cA G.cmds.length cc) := C2.out.cell 2
  have k3 : w2.cell? ⟨b2, 3, none⟩ = some (.bool G.phony) := C2.out.cell 3
  clear hE ht hn hc hb hl hf x1 x2 x12 s1 hof HO
  go_enter Tryz.func48, Tryz.ntmps48
  go_upto_region 1 with fail
  rw [← hw1, ← hw2, ← hb5, ← hb2]
  clear hw1 hw2 hb2 hb5
  go_wp2_with fail
  refine HA.out.mono ?_
  rintro e u3 ⟨A, c, he, hF⟩
  have he : e = .returned (.tuple #[.slice A o.length c, errV f]) := he
  subst he
  have U3 := Lib.hid hF.ext
  have HR : Hid (SlR fileF u3 A o.length o) := hF.row (by decide)
  have D5 := Lib.hid (C5.out.keep hF.ext id)
  have D2 := Lib.hid (C2.out.keep hF.ext id)
  clear hF HA k0 k1 k2 k3 C5 C2
  have y0 : u3.cell? ⟨b5, 0, none⟩ = some (.slice none 0 0) := D5.out.cell 0
  have y1 : u3.cell? ⟨b5, 1, none⟩ = some (.slice none 0 0) := D5.out.cell 1
  have y2 : u3.cell? ⟨b5, 2, none⟩ = some (.slice none 0 0) := D5.out.cell 2
  have z0 := D5.out.frozen 0
  have z1 := D5.out.frozen 1
  have z2 := D5.out.frozen 2
  have HOn : Hid (∀ u, Ext u3 u → ∀ a b c, Ext w (((u.setCell ⟨b5, 0, none⟩ a).setCell ⟨b5, 1, none⟩ b).setCell ⟨b5, 2, none⟩ c)) := fun u hu a b c => ((X2.out.then_ext U3.out).then_ext hu).trans ((((Only.refl (fun q => q = b5) u).at_ 0 a).at_ 1 b).at_ 2 c) fun q hq e => by have e : q = b5 := e; have := HB5.out; omega
  have HCs : Hid (∀ u, Ext u3 u → ∀ a b c, Cs (((u.setCell ⟨b5, 0, none⟩ a).setCell ⟨b5, 1, none⟩ b).setCell ⟨b5, 2, none⟩ c) b5 rcT #[a, b, c]) := fun u hu a b c => (((D5.out.keep hu id).set_ 0 a).set_ 1 b).set_ 2 c
  by_cases hf : f = 0
  case neg =>
    have HV : Hid (oneF l G = (([], rcd0), f)) := by rw [Hid, HO2.out, if_pos hf]
    rw [errV_pos hf]
    go_wp2_with fail
    refine bodyPost_tct (t := 4) (p := 5) (u := 6) (ty := rcT) (ad := ⟨b5, 0, none⟩) rfl rfl rfl (load_rc (HCs.out _ (Only.refl _ _) _ _ _)) ?_
    refine ⟨none, 0, ⟨none, 0, none, 0, none, 0⟩, ?_, ?_, ?_, HOn.out _ (Only.refl _ _) _ _ _⟩
    · rw [HV.out, show errV (([], rcd0), f).2 = E f from errV_pos hf]
      rfl
    · rw [HV.out]; exact SlR.none_
    · rw [HV.out]; exact RcdR.zero _
  subst hf
  rw [errV_zero]
  have hol : o.length ≤ 100 := Nat.le_trans HFit.out.2.1 HBu.out.c
  obtain ⟨R, hR⟩ : ∃ R, R = recOf G l o := ⟨_, rfl⟩
  have HOf3 := Lib.hid (HOf.out u3 U3.out A c o HR.out (by omega))
  have hlim : R.Lim := by rw [hR]; exact recOf_lim HFu.out.x HNm.out HBu.out.c HBu.out.n hol (fun x hx => by have := HBu.out.lc x hx; omega) HBu.out.ln
  have HLim := Lib.hid hlim
  rw [← hR] at HOf3 HO2
  have k0 : u3.cell? ⟨b2, 0, none⟩ = some (.slice tA G.targets.length tc) := D2.out.cell 0
  have k1 : u3.cell? ⟨b2, 1, none⟩ = some (.slice nA G.needs.length nc) := D2.out.cell 1
  have k2 : u3.cell? ⟨b2, 2, none⟩ = some (.slice cA G.cmds.length cc) := D2.out.cell 2
  have k3 : u3.cell? ⟨b2, 3, none⟩ = some (.bool G.phony) := D2.out.cell 3
  clear hR hlim HOf HFit HNm
  go_wp2_with fail
  refine HOf3.out.mono ?_
  rintro e u4 ⟨⟨p1, e1, p2, e2, p3, e3⟩, he, hq, hu⟩
  have he : e = .returned (.agg #[.slice p1 R.cmds.length e1, .slice p2 R.needs.length e2, .slice p3 R.out.length e3]) := he
  subst he
  have U4 := Lib.hid hu
  have HQ := Lib.hid hq
  clear hq hu HOf3 k0 k1 k2 k3
  obtain ⟨w5, hw5⟩ : ∃ u, u = u4.alloc (.cells #[.slice p1 R.cmds.length e1, .slice p2 R.needs.length e2, .slice p3 R.out.length e3] rcT) := ⟨_, rfl⟩
  obtain ⟨b9, hb9⟩ : ∃ b, b = u4.heap.size := ⟨_, rfl⟩
  have x5 : Ext u4 w5 := by rw [hw5]; exact (Only.refl No u4).alloc _
  have C9 : Hid (Cs w5 b9 rcT #[.slice p1 R.cmds.length e1, .slice p2 R.needs.length e2, .slice p3 R.out.length e3]) := by rw [hw5, hb9]; exact Cs.new _ _ _
  have U5 := Lib.hid (U4.out.then_ext x5)
  have HB9 : Hid (u4.heap.size ≤ b9) := Nat.le_of_eq hb9.symm
  have HS4 := Lib.hid U4.out.size
  have HQ5 := Lib.hid (HQ.out.ext x5)
  have HTx : Hid (Calls Tryz.prog 75 #[.agg #[.slice p1 R.cmds.length e1, .slice p2 R.needs.length e2, .slice p3 R.out.length e3]] w5 fun e w' => e = .returned (S (recT R)) ∧ Ext w5 w') := RText_c (v := ⟨p1, e1, p2, e2, p3, e3⟩) (r := R) (HE.out.ext (U3.out.then_ext U5.out)) HQ5.out HLim.out
  have j0 : w5.cell? ⟨b9, 0, none⟩ = some (.slice p1 R.cmds.length e1) := C9.out.cell 0
  have j1 : w5.cell? ⟨b9, 1, none⟩ = some (.slice p2 R.needs.length e2) := C9.out.cell 1
  have j2 : w5.cell? ⟨b9, 2, none⟩ = some (.slice p3 R.out.length e3) := C9.out.cell 2
  clear x5
  go_upto_region 5 with fail
  rw [← hw5, ← hb9]
  clear hw5 hb9
  go_wp2_with fail
  refine HTx.out.mono ?_
  rintro e u6 ⟨rfl, hu⟩
  have U6 := Lib.hid (U5.out.then_ext hu)
  have C96 := Lib.hid (C9.out.keep hu id)
  have HQ6 := Lib.hid (HQ5.out.ext hu)
  have E5 := Lib.hid (D5.out.keep U6.out id)
  clear hu HTx j0 j1 j2 y0 y1 y2 z0 z1 z2 C9
  have y0 : u6.cell? ⟨b5, 0, none⟩ = some (.slice none 0 0) := E5.out.cell 0
  have y1 : u6.cell? ⟨b5, 1, none⟩ = some (.slice none 0 0) := E5.out.cell 1
  have y2 : u6.cell? ⟨b5, 2, none⟩ = some (.slice none 0 0) := E5.out.cell 2
  have z0 := E5.out.frozen 0
  have z1 := E5.out.frozen 1
  have z2 := E5.out.frozen 2
  obtain ⟨T, hT⟩ : ∃ T, T = recT R := ⟨_, rfl⟩
  rw [← hT] at HO2 ⊢
  clear hT
  rcases Nat.lt_or_ge 300 T.length with h3 | h3
  · have HV : Hid (oneF l G = (([], rcd0), 10)) := by rw [Hid, HO2.out, if_neg (fun h => h rfl), if_pos h3]
    have g3 : decide ((300 : Int) < (T.length : Int)) = true := by rw [decide_eq_true_iff]; omega
    go_wp2_with fail
    refine bodyPost_tct (t := 4) (p := 5) (u := 6) (ty := rcT) (ad := ⟨b5, 0, none⟩) rfl rfl rfl (load_rc (HCs.out _ U6.out _ _ _)) ?_
    refine ⟨none, 0, ⟨none, 0, none, 0, none, 0⟩, ?_, ?_, ?_, HOn.out _ U6.out _ _ _⟩
    · rw [HV.out]
      rfl
    · rw [HV.out]; exact SlR.none_
    · rw [HV.out]; exact RcdR.zero _
  · have HV : Hid (oneF l G = ((o, R), 0)) := by rw [Hid, HO2.out, if_neg (fun h => h rfl), if_neg (by omega)]
    have g3 : decide ((300 : Int) < (T.length : Int)) = false := by rw [decide_eq_false_iff_not]; omega
    have hne : ¬ (fun q => q = b5) b9 := fun e => by
      have e : b9 = b5 := e
      have h1 := HB9.out
      have h2 := D5.out.lt
      have h3 := HS4.out
      omega
    obtain ⟨F, hF⟩ : ∃ F : Nat → Prop, F = fun q => q = b5 := ⟨_, rfl⟩
    rw [← hF] at hne
    have HF := Lib.hid hF
    have j0 : ∀ ξ : X u6 F, ξ.v.cell? ⟨b9, 0, none⟩ = some (.slice p1 R.cmds.length e1) := C96.out.x hne 0
    have j1 : ∀ ξ : X u6 F, ξ.v.cell? ⟨b9, 1, none⟩ = some (.slice p2 R.needs.length e2) := C96.out.x hne 1
    have j2 : ∀ ξ : X u6 F, ξ.v.cell? ⟨b9, 2, none⟩ = some (.slice p3 R.out.length e3) := C96.out.x hne 2
    clear hF
    go_upto_region 7 with fail
    refine Mix.wp_draw [3] 100 (Cl u6 F) (by kernel_rfl) (by kernel_rfl) (Cl.of (Only.refl _ _).drew) ?_
    (repeat' (refine Mix.lex_quiet0 rfl rfl rfl ?_; intro K hK; go_big_quiet_op; go_big_quiet_on))
    ((first | refine Mix.lex_goes0 rfl rfl ?_ | refine Mix.lex_goesG rfl rfl rfl (by with_reducible rfl) rfl ?_); intro K hK; go_simp)
    have HO9 := Lib.hid (HOn.out _ U6.out (.slice p1 R.cmds.length e1) (.slice p2 R.needs.length e2) (.slice p3 R.out.length e3))
    have HC9 := Lib.hid (HCs.out _ U6.out (.slice p1 R.cmds.length e1) (.slice p2 R.needs.length e2) (.slice p3 R.out.length e3))
    have HF9 : Hid (Only F u6 (((u6.setCell ⟨b5, 0, none⟩ (.slice p1 R.cmds.length e1)).setCell ⟨b5, 1, none⟩ (.slice p2 R.needs.length e2)).setCell ⟨b5, 2, none⟩ (.slice p3 R.out.length e3))) := by rw [HF.out]; exact (((Only.refl (fun q => q = b5) u6).at_ 0 _).at_ 1 _).at_ 2 _
    obtain ⟨v9, hv9⟩ : ∃ v, v = ((u6.setCell ⟨b5, 0, none⟩ (.slice p1 R.cmds.length e1)).setCell ⟨b5, 1, none⟩ (.slice p2 R.needs.length e2)).setCell ⟨b5, 2, none⟩ (.slice p3 R.out.length e3) := ⟨_, rfl⟩
    rw [← hv9] at HO9 HC9 HF9 ⊢
    clear hv9
    refine hK _ _ (fun _ => Cl.of HF9.out.drew) ?_
    clear hK K j0 j1 j2 y0 y1 y2
    simp only [Act.put, List.setIfInBounds_toArray, List.set_cons_succ, List.set_cons_zero]
    (repeat' (refine Mix.lex_quiet0 rfl rfl rfl ?_; intro K hK; go_big_quiet_op; go_big_quiet_on))
    refine Mix.lex_nil ?_
    go_wp2_with fail
    refine bodyPost_tct (t := 4) (p := 5) (u := 6) (ty := rcT) (ad := ⟨b5, 0, none⟩) rfl rfl rfl (load_rc (HC9.out.drew)) ?_
    refine ⟨A, c, ⟨p1, e1, p2, e2, p3, e3⟩, ?_, ?_, ?_, HO9.out.drew⟩
    · rw [HV.out]
      rfl
    · rw [HV.out]
      exact ((HR.out.ext U6.out).off3 fileF_head E5.out (by rw [← HF.out]; exact HF9.out)).ext ((Only.refl _ _).drew)
    · rw [HV.out]
      exact (HQ6.out.off3 E5.out (by rw [← HF.out]; exact HF9.out)).ext ((Only.refl _ _).drew)
abbrev rcdT : TypeId := 66
abbrev rmapT : TypeId := 56
abbrev rdV (v : Value) : Option (DataW Value × List MemPlace) := some (.held v, [])
abbrev zeroR : Value := .agg #[.slice none 0 0, .slice none 0 0, .slice none 0 0]
theorem str_keyed : Go.Maps.Keyed Tryz.prog 9 := Go.Maps.string_keyed Tryz.underlying9
theorem rmap_ty : Tryz.prog.underlying rmapT = some (.map 9 rcdT) := Tryz.underlying56
theorem rcd_zero (w : World) : (zeroValue rcdT).run Tryz.prog w = .ok zeroR w := Tryz.zeroValue66 w
def MapR (w : World) (b n : Nat) (f : Str → Option Value) : Prop :=
  ∃ D : DataW Value, w.ownsMap Tryz.prog 9 rdV b n D ∧ (∀ s, Go.Maps.has D (.string s) = (f s).isSome ∧ ∀ z, D.atKey (.string s) (.held z) = .held ((f s).getD z)) ∧ ∃ L : List Str, L.Nodup ∧ (∀ s, s ∈ L ↔ (f s).isSome = true) ∧ Go.Maps.size D = L.length
set_option maxRecDepth 100000 in
theorem key_str (s : Str) (hs : s.length ≤ maxLen) : keyOf Tryz.prog 9 (S s) = some (.string s) := by
  have hz : (⟨s.toArray⟩ : ByteArray).size ≤ maxLen := by simpa [ByteArray.size] using hs
  simp [keyOf, mapKey, Tryz.underlying9, hz]
theorem MapR.made (w : World) : MapR (w.alloc (.map #[] 0)) w.heap.size 0 (fun _ => none) :=
  ⟨.map [], World.ownsMap_made w _ _ _, fun s => ⟨rfl, fun z => rfl⟩, [], List.nodup_nil, fun s => by simp, rfl⟩
theorem MapR.keep {F : Nat → Prop} {w v : World} {b n : Nat} {f : Str → Option Value} (h : MapR w b n f) (hx : Only F w v) (hb : ¬ F b) : MapR v b n f := by
  obtain ⟨D, ⟨es, clock, h1, h2, h3, h4⟩, h5⟩ := h
  have hlt : b < w.heap.size := (Array.getElem?_eq_some_iff.1 h1).1
  exact ⟨D, ⟨es, clock, (hx.block b hlt hb).trans h1, h2, h3, h4⟩, h5⟩
theorem MapR.lt {w : World} {b n : Nat} {f : Str → Option Value} (h : MapR w b n f) : b < w.heap.size := by
  obtain ⟨D, h1, _⟩ := h
  exact h1.lt
theorem MapR.put {w : World} {b n : Nat} {f : Str → Option Value} (h : MapR w b n f) (hn : n < maxLen) (s : Str) (hs : s.length ≤ maxLen) (v : Value) :
    ∃ w', (Instr.mapUpdate rmapT (.map (some b)) (S s) v).run Tryz.prog w = .ok () w' ∧ MapR w' b (n + 1) (fun k => if k = s then some v else f k) ∧ Only (fun q => q = b) w w' := by
  obtain ⟨D, h1, h2, L, hL1, hL2, hL3⟩ := h
  have hm : Go.Maps.IsMap D := h1.isMap
  have ht : Go.Maps.Tidy D := by
    obtain ⟨es, e1, e2, _⟩ := h1.entries str_keyed
    exact ⟨es, e1, e2⟩
  obtain ⟨w', r1, r2, r3⟩ := h1.update str_keyed rmap_ty hn (key_str s hs) (show rdV v = some (.held v, []) from rfl)
  refine ⟨w', r1, ⟨_, r2, fun k => ?_, if s ∈ L then L else s :: L, ?_, fun k => ?_, ?_⟩, ⟨r3.os, r3.tape, r3.output, r3.size, fun q hq hne => r3.block q hq (fun e => hne (Option.some.inj e))⟩⟩
  rotate_left
  · split
    · exact hL1
    · rename_i h; exact List.nodup_cons.2 ⟨h, hL1⟩
  · show (k ∈ if s ∈ L then L else s :: L) ↔ (if k = s then some v else f k).isSome = true
    by_cases hk : k = s
    · rw [if_pos hk, hk]
      split
      · rename_i h; simp [h]
      · simp
    · rw [if_neg hk, ← hL2 k]
      split
      · exact Iff.rfl
      · simp [hk]
  · rw [Go.Maps.size_put ht, (h2 s).1, hL3]
    by_cases h : s ∈ L
    · rw [if_pos h, if_pos ((hL2 s).1 h)]
    · rw [if_neg h, if_neg (fun e => h ((hL2 s).2 e))]
      rfl
  show Go.Maps.has (D.put (.string s) (.held v)) (.string k) = (if k = s then some v else f k).isSome ∧ ∀ z, (D.put (.string s) (.held v)).atKey (.string k) (.held z) = .held ((if k = s then some v else f k).getD z)
  by_cases hk : k = s
  · rw [if_pos hk, hk]
    exact ⟨Go.Maps.has_put_same hm (str_keyed.key (key_str s hs)) _, fun z => Go.Maps.atKey_put_same hm (str_keyed.key (key_str s hs)) _ _⟩
  · rw [if_neg hk]
    have hne : (Lit.string k) ≠ Lit.string s := fun e => hk (by injection e)
    refine ⟨?_, fun z => ?_⟩
    · rw [Go.Maps.has_put_other hne]; exact (h2 k).1
    · rw [Go.Maps.atKey_put_other hne]; exact (h2 k).2 z
theorem MapR.look {w : World} {b n : Nat} {f : Str → Option Value} (h : MapR w b n f) (s : Str) (hs : s.length ≤ maxLen) :
    (Instr.lookup rmapT (.map (some b)) (S s) true).run Tryz.prog w = .ok (.tuple #[(f s).getD zeroR, .bool (f s).isSome]) w := by
  obtain ⟨D, h1, h2, _⟩ := h
  obtain ⟨v, ps, r1, r2⟩ := h1.look_ok str_keyed rmap_ty (rcd_zero w) (show rdV zeroR = some (.held zeroR, []) from rfl) (key_str s hs)
  rw [(h2 s).1] at r1
  rw [(h2 s).2 zeroR] at r2
  have e : v = (f s).getD zeroR := by
    have := congrArg (Option.map Prod.fst) r2
    simp only [Option.map_some, Option.some.injEq] at this
    injection this
  rw [r1, e]
theorem MapR.len {w : World} {b n : Nat} {f : Str → Option Value} (h : MapR w b n f) {L : List Str} (hn : L.Nodup) (hL : ∀ s, s ∈ L ↔ (f s).isSome = true) (ty : TypeId) :
    (Builtin.len_ #[rmapT] ty #[.map (some b)]).run Tryz.prog w = .ok (.int .i64 (L.length : Int)) w := by
  obtain ⟨D, h1, _, M, hM1, hM2, hM3⟩ := h
  rw [h1.len rmap_ty ty, hM3, ((List.perm_ext_iff_of_nodup hM1 hn).2 fun s => (hM2 s).trans (hL s).symm).length_eq]
theorem MapR.cell {w v : World} {b n : Nat} {f : Str → Option Value} (h : MapR w b n f) (hx : Only (fun q => q = b) w v) {p : Addr} (hp : p.block < w.heap.size) {u : Value} (hc : w.cell? p = some u) : v.cell? p = some u := by
  obtain ⟨D, ⟨es, clock, h1, _⟩, _⟩ := h
  refine (hx.cell hp fun e => ?_).trans hc
  have e : p.block = b := e
  unfold World.cell? at hc
  rw [e, h1] at hc
  simp at hc
set_option maxRecDepth 100000 in
theorem look_nil (w : World) (s : Str) (hs : s.length ≤ maxLen) : (Instr.lookup rmapT (.map none) (S s) true).run Tryz.prog w = .ok (.tuple #[zeroR, .bool false]) w := by
  have hc := str_keyed.check w true (key_str s hs)
  have hf : (Instr.findKey 9 (S s) []).run Tryz.prog w = .ok none w := by
    rcases str_keyed.find w (key_str s hs) [] (fun e he => by cases he) with h | ⟨j, e, _, h, _⟩
    · exact h.1
    · cases h
  simp [Instr.lookup, rcd_zero, hc, hf]
abbrev ktT : TypeId := 69
def ktF : Flat (RcdV × Str × Rcd) := ⟨4, fun x => [S x.2.1, .slice x.1.cA x.2.2.cmds.length x.1.cc, .slice x.1.nA x.2.2.needs.length x.1.nc, .slice x.1.oA x.2.2.out.length x.1.oc], fun _ => rfl⟩
theorem kts_get {w : World} {A : Option Addr} {n : Nat} {xs : List (RcdV × Str × Rcd)} (h : SlR ktF w A n xs) {k : Nat} (hk : k < n) :
    ∃ b o x, A = some ⟨b, o, none⟩ ∧ xs[k]? = some x ∧ (∀ ξ : X w No, ξ.v.cell? ⟨b, o + k * 4, none⟩ = some (S x.2.1)) ∧ (∀ ξ : X w No, ξ.v.cell? ⟨b, o + k * 4 + 1, none⟩ = some (.slice x.1.cA x.2.2.cmds.length x.1.cc)) ∧
      (∀ ξ : X w No, ξ.v.cell? ⟨b, o + k * 4 + 2, none⟩ = some (.slice x.1.nA x.2.2.needs.length x.1.nc)) ∧ (∀ ξ : X w No, ξ.v.cell? ⟨b, o + k * 4 + 3, none⟩ = some (.slice x.1.oA x.2.2.out.length x.1.oc)) := by
  obtain ⟨b, o, x, e, hb, hx, hc⟩ := h.get hk
  exact ⟨b, o, x, e, hx, fun ξ => (ξ.h.cell hb id).trans (hc 0 _ rfl), fun ξ => (ξ.h.cell hb id).trans (hc 1 _ rfl), fun ξ => (ξ.h.cell hb id).trans (hc 2 _ rfl), fun ξ => (ξ.h.cell hb id).trans (hc 3 _ rfl)⟩
structure GrpsR (w : World) (A : Option Addr) (os : List (RulA × Grp)) (out : List Grp) : Prop where
  row : SlR grpF w A out.length os
  rr : ∀ x ∈ os, SlR strF w x.1.tA x.2.targets.length x.2.targets ∧ SlR strF w x.1.nA x.2.needs.length x.2.needs ∧ SlR strF w x.1.cA x.2.cmds.length x.2.cmds
  om : os.map (·.2) = out
theorem GrpsR.ext {w u : World} {A : Option Addr} {os : List (RulA × Grp)} {out : List Grp} (h : GrpsR w A os out) (hx : Ext w u) : GrpsR u A os out := ⟨h.row.ext hx, fun x hm => ⟨(h.rr x hm).1.ext hx, (h.rr x hm).2.1.ext hx, (h.rr x hm).2.2.ext hx⟩, h.om⟩
abbrev nodT : TypeId := 262
abbrev genT : TypeId := 264
abbrev pnT : TypeId := 259
abbrev rpt (g : Nat) : Value := .pointer (some ⟨g, 0, none⟩)
abbrev leafA (v : Str) (p : Int) : Array Value := #[S v, .int .i64 p, S [], .pointer none, .slice none 0 0]
abbrev nils5 : Array Value := #[.pointer none, .pointer none, .pointer none, .pointer none, .pointer none]
structure TrB (w u : World) (g t0 : Nat) (gs ts : Array Value) : Prop where
  gen : Cs u g genT gs
  tab : Cs u t0 pnT ts
  x : Ext w u
  hg : w.heap.size ≤ g
  ht : w.heap.size ≤ t0
  ne : g ≠ t0
structure GsOk (gs : Array Value) (t0 : Nat) : Prop where
  p2 : gs[2]? = some (S [])
  p1 : gs[1]? = some (.int .i64 0)
  p4 : gs[4]? = some (.slice (some ⟨t0, 0, none⟩) 5 5)
  p5 : gs[5]? = some (.int .i64 5)
  m36 : gs[6 + (36 : UInt8).toNat]? = some (.int .u8 0)
  m42 : gs[6 + (42 : UInt8).toNat]? = some (.int .u8 1)
  m60 : gs[6 + (60 : UInt8).toNat]? = some (.int .u8 2)
  m64 : gs[6 + (64 : UInt8).toNat]? = some (.int .u8 3)
  m94 : gs[6 + (94 : UInt8).toNat]? = some (.int .u8 4)
  mo : ∀ c : UInt8, c ≠ 36 → c ≠ 42 → c ≠ 60 → c ≠ 64 → c ≠ 94 → gs[6 + c.toNat]? = some (.int .u8 5)
structure Tr1 (w u : World) (g t0 : Nat) (gs : Array Value) (a : Str) (n1 n2 : Nat) : Prop where
  b : TrB w u g t0 gs #[rpt n1, .pointer none, .pointer none, .pointer none, .pointer none]
  c1 : Cs u n1 nodT #[S [], .int .i64 0, S [64], rpt n2, .slice none 0 0]
  c2 : Cs u n2 nodT (leafA a 8)
  h1 : w.heap.size ≤ n1
  h2 : w.heap.size ≤ n2
  n12 : n1 ≠ n2
structure Tr2 (w u : World) (g t0 : Nat) (gs ts : Array Value) (n1 t1 : Nat) : Prop where
  b : TrB w u g t0 gs #[rpt n1, .pointer none, .pointer none, .pointer none, .pointer none]
  c1 : Cs u n1 nodT #[S [], .int .i64 0, S [], .pointer none, .slice (some ⟨t1, 0, none⟩) 5 5]
  ct : Cs u t1 pnT ts
  h1 : w.heap.size ≤ n1
  h3 : w.heap.size ≤ t1
  t10 : t1 ≠ t0
structure Leaf (w u : World) (n1 n : Nat) (v : Str) (p : Int) : Prop where
  c : Cs u n nodT (leafA v p)
  h : w.heap.size ≤ n
  ne : n1 ≠ n
def TrSt (w : World) (g t0 : Nat) (gs : Array Value) (a b c d : Str) : Nat → World → Prop
  | 0, u => TrB w u g t0 gs nils5
  | 1, u => ∃ n1 n2, Tr1 w u g t0 gs a n1 n2
  | 2, u => ∃ n1 t1 n2 n3, Tr2 w u g t0 gs #[.pointer none, .pointer none, rpt n3, rpt n2, .pointer none] n1 t1 ∧ Leaf w u n1 n2 a 8 ∧ Leaf w u n1 n3 b 6
  | 3, u => ∃ n1 t1 n2 n3 n4, Tr2 w u g t0 gs #[.pointer none, .pointer none, rpt n3, rpt n2, rpt n4] n1 t1 ∧ Leaf w u n1 n2 a 8 ∧ Leaf w u n1 n3 b 6 ∧ Leaf w u n1 n4 c 4
  | _, u => ∃ n1 t1 n2 n3 n4 n5, Tr2 w u g t0 gs #[.pointer none, rpt n5, rpt n3, rpt n2, rpt n4] n1 t1 ∧ Leaf w u n1 n2 a 8 ∧ Leaf w u n1 n3 b 6 ∧ Leaf w u n1 n4 c 4 ∧ Leaf w u n1 n5 d 2
section
variable {w u v : World} {g t0 n1 n2 t1 : Nat} {gs ts : Array Value} {a : Str} {F : Nat → Prop}
theorem TrB.only (h : TrB w u g t0 gs ts) (hx : Only F u v) (hF : ∀ b, F b → w.heap.size ≤ b) (h1 : ¬ F g) (h2 : ¬ F t0) : TrB w v g t0 gs ts :=
  ⟨h.gen.keep hx h1, h.tab.keep hx h2, h.x.trans hx fun b hb e => by have := hF b e; omega, h.hg, h.ht, h.ne⟩
theorem Leaf.only {n : Nat} {x : Str} {p : Int} (h : Leaf w u n1 n x p) (hx : Only F u v) (h1 : ¬ F n) : Leaf w v n1 n x p := ⟨h.c.keep hx h1, h.h, h.ne⟩
theorem Tr1.only (h : Tr1 w u g t0 gs a n1 n2) (hx : Ext u v) : Tr1 w v g t0 gs a n1 n2 := ⟨h.b.only hx (fun _ e => e.elim) id id, h.c1.keep hx id, h.c2.keep hx id, h.h1, h.h2, h.n12⟩
theorem Tr2.only (h : Tr2 w u g t0 gs ts n1 t1) (hx : Ext u v) : Tr2 w v g t0 gs ts n1 t1 := ⟨h.b.only hx (fun _ e => e.elim) id id, h.c1.keep hx id, h.ct.keep hx id, h.h1, h.h3, h.t10⟩
end
theorem TrSt.ext {w u v : World} {g t0 : Nat} {gs : Array Value} {a b c d : Str} {j : Nat} (h : TrSt w g t0 gs a b c d j u) (hx : Ext u v) : TrSt w g t0 gs a b c d j v := by
  unfold TrSt at h ⊢
  split at h
  · exact h.only hx (fun _ e => e.elim) id id
  · obtain ⟨n1, n2, h⟩ := h; exact ⟨n1, n2, h.only hx⟩
  · obtain ⟨n1, t1, n2, n3, h, h2, h3⟩ := h; exact ⟨n1, t1, n2, n3, h.only hx, h2.only hx id, h3.only hx id⟩
  · obtain ⟨n1, t1, n2, n3, n4, h, h2, h3, h4⟩ := h; exact ⟨n1, t1, n2, n3, n4, h.only hx, h2.only hx id, h3.only hx id, h4.only hx id⟩
  · obtain ⟨n1, t1, n2, n3, n4, n5, h, h2, h3, h4, h5⟩ := h; exact ⟨n1, t1, n2, n3, n4, n5, h.only hx, h2.only hx id, h3.only hx id, h4.only hx id, h5.only hx id⟩
def upd (m : Nat → Int) (k : Nat) (x : Int) : Nat → Int := fun i => if i = k then x else m i
def keyBs : List Nat := [36, 64, 36, 60, 36, 94, 36, 42]
def mA : Nat → Nat → Int
  | 0 => fun _ => 0
  | n + 1 => upd (mA n) (keyBs.getD n 0) 1
theorem TrSt.x {w u : World} {g t0 : Nat} {gs : Array Value} {a b c d : Str} {j : Nat} (h : TrSt w g t0 gs a b c d j u) : Ext w u := by
  unfold TrSt at h
  split at h
  · exact h.x
  · obtain ⟨n1, n2, h⟩ := h; exact h.b.x
  · obtain ⟨n1, t1, n2, n3, h, _⟩ := h; exact h.b.x
  · obtain ⟨n1, t1, n2, n3, n4, h, _⟩ := h; exact h.b.x
  · obtain ⟨n1, t1, n2, n3, n4, n5, h, _⟩ := h; exact h.b.x
structure Trie (w : World) (g t0 n1 t1 n2 n3 n4 n5 : Nat) (gs : Array Value) (a b c d : Str) : Prop where
  ok : GsOk gs t0
  gen : Cs w g genT gs
  tab : Cs w t0 pnT #[rpt n1, .pointer none, .pointer none, .pointer none, .pointer none]
  c1 : Cs w n1 nodT #[S [], .int .i64 0, S [], .pointer none, .slice (some ⟨t1, 0, none⟩) 5 5]
  ct : Cs w t1 pnT #[.pointer none, rpt n5, rpt n3, rpt n2, rpt n4]
  l2 : Cs w n2 nodT (leafA a 8)
  l3 : Cs w n3 nodT (leafA b 6)
  l4 : Cs w n4 nodT (leafA c 4)
  l5 : Cs w n5 nodT (leafA d 2)
section
variable {w u : World} {g t0 n1 t1 n2 n3 n4 n5 : Nat} {gs : Array Value} {a b c d : Str}
theorem Trie.ext (h : Trie w g t0 n1 t1 n2 n3 n4 n5 gs a b c d) (hx : Ext w u) : Trie u g t0 n1 t1 n2 n3 n4 n5 gs a b c d :=
  ⟨h.ok, h.gen.keep hx id, h.tab.keep hx id, h.c1.keep hx id, h.ct.keep hx id, h.l2.keep hx id, h.l3.keep hx id, h.l4.keep hx id, h.l5.keep hx id⟩
end
abbrev aswT : TypeId := 294
abbrev byT5 : TypeId := 5
structure Buf (w u : World) (b : Nat) (A : Option Addr) (c : Nat) (l : Str) : Prop where
  cs : Cs u b aswT #[.slice A l.length c]
  own : u.ownsRow w.heap.size byT5 1 (.slice A l.length c) l.length (Lib.strCells ⟨l.toArray⟩)
  x : Ext w u
  hb : w.heap.size ≤ b
theorem Buf.ext {w u v : World} {b : Nat} {A : Option Addr} {c : Nat} {l : Str} (h : Buf w u b A c l) (hx : Ext u v) : Buf w v b A c l := ⟨h.cs.keep hx id, own_keep h.own hx (fun _ _ => id), h.x.then_ext hx, h.hb⟩
set_option maxRecDepth 100000 in
theorem Buf.conv {w u : World} {b : Nat} {A : Option Addr} {c : Nat} {l : Str} (h : Buf w u b A c l) : (convert aswT 9 (.slice A l.length c)).run Tryz.prog u = .ok (S l) u := by
  have hl : (Lib.strCells ⟨l.toArray⟩).length = l.length := by simp [Lib.strCells]
  rcases A with _ | ad
  · rcases h.own.2 with ⟨hv, h0⟩ | ⟨g, cap, cur, hv, _⟩
    · have : l = [] := List.eq_nil_of_length_eq_zero h0
      subst this
      exact run_convert_bytes_nil u aswT byT5 Tryz.underlying294 Tryz.underlying5 _ _ _ Tryz.underlying9
    · injection hv with hv
      cases hv
  · rcases h.own.2 with ⟨hv, h0⟩ | ⟨g, cap, cur, hv, _⟩
    · injection hv with hv
      cases hv
    · injection hv with hv1 hv2 hv3
      injection hv1 with hv1
      subst hv1; subst hv3
      have := Lib.run_convert_whole (P := Tryz.prog) u aswT byT5 9 Tryz.underlying294 Tryz.underlying5 Tryz.underlying9 g 0 ⟨l.toArray⟩ (fun i hi => by
        have hi : i < l.length := hi
        rw [Nat.zero_add, World.ownsRow.cellAt h.own i (by omega)]
        simp [Lib.strCells, hi]
        rfl) c
      exact this
abbrev repT : TypeId := 209
def TrAt (u : World) (g : Nat) (a b c d : Str) : Prop := ∃ t0 n1 t1 n2 n3 n4 n5 gs, Trie u g t0 n1 t1 n2 n3 n4 n5 gs a b c d
theorem TrSt.on {w u v : World} {g t0 r : Nat} {gs : Array Value} {a b c d : Str} (hg : GsOk gs t0) (h : TrSt w g t0 gs a b c d 4 u) (hx : Only (fun x => x = r) u v) (hr : r < w.heap.size) : TrAt v g a b c d := by
  obtain ⟨n1, t1, n2, n3, n4, n5, h, h2, h3, h4, h5⟩ : ∃ n1 t1 n2 n3 n4 n5, Tr2 w u g t0 gs #[.pointer none, rpt n5, rpt n3, rpt n2, rpt n4] n1 t1 ∧ Leaf w u n1 n2 a 8 ∧ Leaf w u n1 n3 b 6 ∧ Leaf w u n1 n4 c 4 ∧ Leaf w u n1 n5 d 2 := h
  have ne : ∀ n, w.heap.size ≤ n → ¬ n = r := fun n hn e => by omega
  exact ⟨t0, n1, t1, n2, n3, n4, n5, gs, hg, h.b.gen.keep hx (ne _ h.b.hg), h.b.tab.keep hx (ne _ h.b.ht), h.c1.keep hx (ne _ h.h1), h.ct.keep hx (ne _ h.h3), h2.c.keep hx (ne _ h2.h), h3.c.keep hx (ne _ h3.h), h4.c.keep hx (ne _ h4.h), h5.c.keep hx (ne _ h5.h)⟩
theorem TrAt.only {u v : World} {g : Nat} {a b c d : Str} {r : Nat} {cs : Array Value} (h : TrAt u g a b c d) (hr : Cs u r repT cs) (hx : Only (fun x => x = r) u v) : TrAt v g a b c d := by
  obtain ⟨t0, n1, t1, n2, n3, n4, n5, gs, h⟩ := h
  have ne : ∀ {n t ds}, Cs u n t ds → t ≠ repT → ¬ n = r := fun hc ht e => (hc.ne_ hr ht) e
  exact ⟨t0, n1, t1, n2, n3, n4, n5, gs, h.ok, h.gen.keep hx (ne h.gen (by decide)), h.tab.keep hx (ne h.tab (by decide)), h.c1.keep hx (ne h.c1 (by decide)), h.ct.keep hx (ne h.ct (by decide)), h.l2.keep hx (ne h.l2 (by decide)), h.l3.keep hx (ne h.l3 (by decide)), h.l4.keep hx (ne h.l4 (by decide)), h.l5.keep hx (ne h.l5 (by decide))⟩
namespace Mix
section
variable {P : Program} {ops : Array Oper} {md : Region.Mode} {C : World → Prop} {E : List Nat} {Q : Act → World → Prop}
def freeI (md : Region.Mode) (ops : Array Oper) (listed : Array Bool) (i : Nat) : Bool :=
  match ops[i]? with
  | none => false
  | some oi => !callB oi && (List.range ops.size).all fun j => j == i || listed.getD j true || (match ops[j]? with | none => true | some oj => oj.after.any (fun e => Region.binds md e && e.on == i) || oi.apart ops oj)
def pick (md : Region.Mode) (ops : Array Oper) (E : List Nat) (listed : Array Bool) : Option Nat := (Region.ready md ops listed).find? fun i => !E.contains i && freeI md ops listed i
def treeB (md : Region.Mode) (ops : Array Oper) (E : List Nat) : Nat → Array Bool → Bool
  | 0, l => (Region.ready md ops l).isEmpty
  | f + 1, l => match pick md ops E l with
    | some i => treeB md ops E f (l.setIfInBounds i true)
    | none => !(Region.ready md ops l).isEmpty && (Region.ready md ops l).all fun i => E.contains i && treeB md ops E f (l.setIfInBounds i true)
def tree (P : Program) (md : Region.Mode) (ops : Array Oper) (C : World → Prop) (E : List Nat) (Q : Act → World → Prop) : Nat → Array Bool → Act → World → Prop
  | 0, _, a, w => Q a w
  | f + 1, l, a, w => match pick md ops E l with
    | some i => mOp P ops C E ops.size i (tree P md ops C E Q f (l.setIfInBounds i true)) a w
    | none => ∀ i ∈ Region.ready md ops l, mOp P ops C E ops.size i (tree P md ops C E Q f (l.setIfInBounds i true)) a w
theorem any_tree (hs : Region.noSelect ops = true) : ∀ (f : Nat) (l : Array Bool) (a : Act) (w : World), C w → treeB md ops E f l = true → tree P md ops C E Q f l a w → any P md ops C E ops.size Q f l a w
  | 0, l, a, w, _, hB, h => ⟨by simpa [treeB] using hB, h⟩
  | f + 1, l, a, w, hC, hB, h => by
    have hN : ops[ops.size]? = none := Array.getElem?_eq_none (Nat.le_refl _)
    unfold treeB at hB
    unfold tree at h
    cases hp : pick md ops E l with
    | some i =>
      rw [hp] at hB h
      simp only at hB h
      have hmem := List.mem_of_find?_eq_some hp
      have hsat := List.find?_some hp
      simp only [Bool.and_eq_true, Bool.not_eq_true'] at hsat
      obtain ⟨hE, hF⟩ := hsat
      unfold freeI at hF
      cases ho : ops[i]? with
      | none => rw [ho] at hF; cases hF
      | some oi =>
        rw [ho] at hF
        simp only [Bool.and_eq_true, Bool.not_eq_true', List.all_eq_true, List.mem_range, Bool.or_eq_true, beq_iff_eq] at hF
        obtain ⟨hc, hF⟩ := hF
        obtain ⟨v, hy, hK⟩ := yields_of_mOp ho hE h
        have hil : i < ops.size := (Array.getElem?_eq_some_iff.1 ho).1
        refine any_first_quiet ho hE hc (by omega) (fun _ => False) (fun j hj => hj.elim) (.inl hN) (Region.noSelect_spec hs) f l a w hC (fun j hj => hj.elim) (fun j oj hoj hji hun hno => ?_) hmem hy
          (any_tree hs f _ _ w hC hB hK)
        have hjl : j < ops.size := (Array.getElem?_eq_some_iff.1 hoj).1
        rcases hF j hjl with (h' | h') | h'
        · exact absurd h' hji
        · rw [hun] at h'; cases h'
        · rw [hoj] at h'
          simp only [Bool.or_eq_true] at h'
          rcases h' with h' | h'
          · obtain ⟨e, he, hb⟩ := Array.any_eq_true'.1 h'
            simp only [Bool.and_eq_true, beq_iff_eq] at hb
            exact absurd hb.2 (hno e he hb.1)
          · exact h'
    | none =>
      rw [hp] at hB h
      simp only [Bool.and_eq_true, Bool.not_eq_true', List.all_eq_true] at hB h
      refine ⟨fun he => ?_, fun i hi => ?_⟩
      · rw [he] at hB; simp at hB
      · obtain ⟨hEi, hBi⟩ := hB.2 i hi
        have hm := h i hi
        obtain ⟨_, o, ho, _⟩ := mem_ready.1 hi
        have hil : i < ops.size := (Array.getElem?_eq_some_iff.1 ho).1
        have after : ∀ a' w', C w' → tree P md ops C E Q f (l.setIfInBounds i true) a' w' →
            (if i = ops.size then Region.ready md ops (l.setIfInBounds i true) = [] ∧ Q a' w' else any P md ops C E ops.size Q f (l.setIfInBounds i true) a' w') := fun a' w' c hK => by
          rw [if_neg (by omega)]
          exact any_tree hs f _ _ w' c hBi hK
        unfold mOp at hm ⊢
        simp only [ho] at hm ⊢
        unfold step at hm ⊢
        split
        · rename_i hw
          rw [if_pos hw, if_pos hEi] at hm
          exact goesUpon_mono (fun v w' ⟨c, hK⟩ => ⟨c, after _ w' (c (by omega)) hK⟩) hm
        · rename_i hw
          rw [if_neg hw] at hm
          exact after _ w hC hm
theorem wp_tree {id : Nat} {Q : Exit → Act → World → Prop} {a : Act} {w : World} {l : List Oper} (n : Nat) (E : List Nat) (C : World → Prop) (hn : l.length = n) (hm : P.follows .mixedOrders = true)
    (hB : (Region.noSelect l.toArray && treeB .any l.toArray E n (Array.replicate n false)) = true) (hC : C w.drew)
    (h : tree P .any l.toArray C E (fun a' w' => Q .normal a' w') n (Array.replicate n false) a w.drew) : (Code.region id l.toArray true).wp P Q a w := by
  subst hn
  simp only [Bool.and_eq_true] at hB
  refine wp_region_any hm (wpAny_of_any (C := C) (E := E) (N := l.toArray.size) _ _ _ _ hC ?_)
  have := any_tree hB.1 l.length (Array.replicate l.length false) a _ hC hB.2 h
  simpa using this
variable {f : Nat} {l : Array Bool} {a : Act} {w : World}
theorem tree_nil (h : Q a w) : tree P md ops C E Q 0 l a w := h
theorem tree_quiet {L : List Oper} {i : Nat} {o : Oper} (hp : pick md L.toArray E l = some i) (ho : L[i]? = some o) (hg : o.guard = none) (hE : E.contains i = false) (hc : callB o = false)
    (h : ∀ K : Act → Prop, (∀ a', tree P md L.toArray C E Q f (l.setIfInBounds i true) a' w → K a') → o.quiet P a C K) : tree P md L.toArray C E Q (f + 1) l a w := by
  rw [← List.getElem?_toArray] at ho
  unfold tree
  rw [hp]
  unfold mOp step
  simp only [ho]
  rw [if_pos (wanted_none hg), if_neg (by rw [hE]; exact Bool.false_ne_true)]
  exact ⟨hc, h _ fun _ h => h⟩
theorem goes_step {L : List Oper} {i : Nat} {o : Oper} (ho : L[i]? = some o) (hg : o.guard = none) (hE : E.contains i = true) {R : Act → World → Prop}
    (h : ∀ K : Value → World → Prop, (∀ v w', C w' → R (a.put o.dst v) w' → K v w') → goes P o a w K) : mOp P L.toArray C E L.toArray.size i R a w := by
  rw [← List.getElem?_toArray] at ho
  unfold mOp step
  simp only [ho]
  rw [if_pos (wanted_none hg), if_pos hE]
  exact h _ fun _ _ h1 h2 => ⟨fun _ => h1, h2⟩
theorem tree_one {L : List Oper} {i : Nat} {o : Oper} (hp : pick md L.toArray E l = none) (hr : Region.ready md L.toArray l = [i]) (ho : L[i]? = some o) (hg : o.guard = none) (hE : E.contains i = true)
    (h : ∀ K : Value → World → Prop, (∀ v w', C w' → tree P md L.toArray C E Q f (l.setIfInBounds i true) (a.put o.dst v) w' → K v w') → goes P o a w K) : tree P md L.toArray C E Q (f + 1) l a w := by
  unfold tree
  rw [hp, hr]
  simp only [List.mem_singleton, forall_eq]
  exact goes_step ho hg hE h
theorem tree_two {L : List Oper} {i j : Nat} {o o' : Oper} (hp : pick md L.toArray E l = none) (hr : Region.ready md L.toArray l = [i, j]) (ho : L[i]? = some o) (ho' : L[j]? = some o') (hg : o.guard = none) (hg' : o'.guard = none) (hE : E.contains i = true) (hE' : E.contains j = true)
    (h : ∀ K : Value → World → Prop, (∀ v w', C w' → tree P md L.toArray C E Q f (l.setIfInBounds i true) (a.put o.dst v) w' → K v w') → goes P o a w K)
    (h' : ∀ K : Value → World → Prop, (∀ v w', C w' → tree P md L.toArray C E Q f (l.setIfInBounds j true) (a.put o'.dst v) w' → K v w') → goes P o' a w K) : tree P md L.toArray C E Q (f + 1) l a w := by
  unfold tree
  rw [hp, hr]
  simp only [List.mem_cons, List.not_mem_nil, or_false, forall_eq_or_imp, forall_eq]
  exact ⟨goes_step ho hg hE h, goes_step ho' hg' hE' h'⟩
end
end Mix
theorem grp_build (A : Option Addr) (n c : Nat) (b : Bool) (w : World) : (Instr.build grpT #[(0, .slice A n c), (3, .bool b)]).run Tryz.prog w = .ok (.agg #[.slice A n c, .slice none 0 0, .slice none 0 0, .bool b]) w := run_build w grpT _ _ (by kernel_rfl)
abbrev rulL (x : RulA × Rul) : Array Value := #[.slice x.1.tA x.2.targets.length x.1.tc, .slice x.1.nA x.2.needs.length x.1.nc, .slice x.1.cA x.2.cmds.length x.1.cc]
abbrev zerG : Array Value := #[.slice none 0 0, .slice none 0 0, .slice none 0 0, .bool false]
structure Gr (w u : World) (b b5 b8 : Nat) (L5 : Array Value) (a : RulA) (ts ns ks : List Str) (ph : Bool) : Prop where
  cs : Cs u b grpT #[.slice a.tA ts.length a.tc, .slice a.nA ns.length a.nc, .slice a.cA ks.length a.cc, .bool ph]
  c5 : Cs u b5 ruleT L5
  c8 : Cs u b8 grpT zerG
  ft : Fresh strF 9 w u a.tA a.tc ts
  fn : Fresh strF 9 w u a.nA a.nc ns
  fc : Fresh strF 9 w u a.cA a.cc ks
  hb : w.heap.size ≤ b
  h8 : w.heap.size ≤ b8
  n8 : b8 ≠ b
  tn : ∀ g, (Value.slice a.tA ts.length a.tc).ownBlock = some g → (Value.slice a.nA ns.length a.nc).ownBlock ≠ some g
  tk : ∀ g, (Value.slice a.tA ts.length a.tc).ownBlock = some g → (Value.slice a.cA ks.length a.cc).ownBlock ≠ some g
  nk : ∀ g, (Value.slice a.nA ns.length a.nc).ownBlock = some g → (Value.slice a.cA ks.length a.cc).ownBlock ≠ some g
section
variable {w u v : World} {b b5 b8 : Nat} {L5 : Array Value} {a : RulA} {ts ns ks : List Str} {ph : Bool}
theorem Gr.ext (h : Gr w u b b5 b8 L5 a ts ns ks ph) (hx : Ext u v) : Gr w v b b5 b8 L5 a ts ns ks ph :=
  ⟨h.cs.keep hx id, h.c5.keep hx id, h.c8.keep hx id, h.ft.on hx, h.fn.on hx, h.fc.on hx, h.hb, h.h8, h.n8, h.tn, h.tk, h.nk⟩
theorem Gr.growN (h : Gr w u b b5 b8 L5 a ts ns ks ph) {A' : Option Addr} {c' : Nat} {w5 : World} {t : Str}
    (hown : w5.ownsRow 0 9 1 (.slice A' (ns.length + 1 : Nat) c') (ns.length + 1) (ns.flatMap strF.enc ++ [t].flatMap strF.enc)) (hg : u.grownBy w5 (Value.slice a.nA ns.length a.nc).ownBlock)
    (hb : (Value.slice A' (ns.length + 1 : Nat) c').ownBlock = (Value.slice a.nA ns.length a.nc).ownBlock ∨ (Value.slice A' (ns.length + 1 : Nat) c').ownBlock = some u.heap.size) :
    Gr w (w5.setCell ⟨b, 1, none⟩ (.slice A' (ns.length + 1 : Nat) c')) b b5 b8 L5 { a with nA := A', nc := c' } ts (ns ++ [t]) ks ph := by
  have O5 : Only (fun g => (Value.slice a.nA ns.length a.nc).ownBlock = some g) u w5 := (Only.refl _ _).grown hg fun g e => .inr e
  have F5 := h.fn.grow (ys := [t]) rfl hown hg hb
  have T5 := h.ft.keep O5 F5.ext (fun g h1 h2 => h.tn g h1 h2)
  have K5 := h.fc.keep O5 F5.ext (fun g h1 h2 => h.nk g h2 h1)
  have c5 := h.cs.keep O5 (fun e => own_ne_cs h.fn.own h.cs (by decide) _ e rfl)
  have d5 := h.c5.keep O5 (fun e => own_ne_cs h.fn.own h.c5 (by decide) _ e rfl)
  have e5 := h.c8.keep O5 (fun e => own_ne_cs h.fn.own h.c8 (by decide) _ e rfl)
  have O6 : Only (fun g => g = b) w5 (w5.setCell ⟨b, 1, none⟩ (.slice A' (ns.length + 1 : Nat) c')) := (Only.refl _ _).at_ 1 _
  have E6 : Ext w (w5.setCell ⟨b, 1, none⟩ (.slice A' (ns.length + 1 : Nat) c')) := F5.ext.trans O6 fun g hg e => by have e : g = b := e; have := h.hb; omega
  refine ⟨?_, d5.keep O6 (fun e => Cs.ne_ d5 c5 (by decide) e), e5.keep O6 h.n8, T5.keep O6 E6 (own_ne_cs T5.own c5 (by decide)), F5.keep O6 E6 (own_ne_cs F5.own c5 (by decide)), K5.keep O6 E6 (own_ne_cs K5.own c5 (by decide)), h.hb, h.h8, h.n8, fun g h1 h2 => ?_, h.tk, fun g h1 h2 => ?_⟩
  · have := c5.set_ 1 (.slice A' (ns.length + 1 : Nat) c')
    rw [List.length_append]
    exact this
  · rw [List.length_append] at h2
    rcases hb with hb | hb
    · exact h.tn g h1 (hb.symm.trans h2)
    · have h3 : some u.heap.size = some g := hb.symm.trans h2
      injection h3 with h3
      obtain ⟨cur, hc⟩ := own_cs h.ft.own h1
      have := hc.lt
      omega
  · rw [List.length_append] at h1
    rcases hb with hb | hb
    · exact h.nk g (hb.symm.trans h1) h2
    · have h3 : some u.heap.size = some g := hb.symm.trans h1
      injection h3 with h3
      obtain ⟨cur, hc⟩ := own_cs h.fc.own h2
      have := hc.lt
      omega
theorem Gr.growK (h : Gr w u b b5 b8 L5 a ts ns ks ph) {A' : Option Addr} {c' : Nat} {w5 : World} {t : Str}
    (hown : w5.ownsRow 0 9 1 (.slice A' (ks.length + 1 : Nat) c') (ks.length + 1) (ks.flatMap strF.enc ++ [t].flatMap strF.enc)) (hg : u.grownBy w5 (Value.slice a.cA ks.length a.cc).ownBlock)
    (hb : (Value.slice A' (ks.length + 1 : Nat) c').ownBlock = (Value.slice a.cA ks.length a.cc).ownBlock ∨ (Value.slice A' (ks.length + 1 : Nat) c').ownBlock = some u.heap.size) :
    Gr w (w5.setCell ⟨b, 2, none⟩ (.slice A' (ks.length + 1 : Nat) c')) b b5 b8 L5 { a with cA := A', cc := c' } ts ns (ks ++ [t]) ph := by
  have O5 : Only (fun g => (Value.slice a.cA ks.length a.cc).ownBlock = some g) u w5 := (Only.refl _ _).grown hg fun g e => .inr e
  have F5 := h.fc.grow (ys := [t]) rfl hown hg hb
  have T5 := h.ft.keep O5 F5.ext (fun g h1 h2 => h.tk g h1 h2)
  have K5 := h.fn.keep O5 F5.ext (fun g h1 h2 => h.nk g h1 h2)
  have c5 := h.cs.keep O5 (fun e => own_ne_cs h.fc.own h.cs (by decide) _ e rfl)
  have d5 := h.c5.keep O5 (fun e => own_ne_cs h.fc.own h.c5 (by decide) _ e rfl)
  have e5 := h.c8.keep O5 (fun e => own_ne_cs h.fc.own h.c8 (by decide) _ e rfl)
  have O6 : Only (fun g => g = b) w5 (w5.setCell ⟨b, 2, none⟩ (.slice A' (ks.length + 1 : Nat) c')) := (Only.refl _ _).at_ 2 _
  have E6 : Ext w (w5.setCell ⟨b, 2, none⟩ (.slice A' (ks.length + 1 : Nat) c')) := F5.ext.trans O6 fun g hg e => by have e : g = b := e; have := h.hb; omega
  refine ⟨?_, d5.keep O6 (fun e => Cs.ne_ d5 c5 (by decide) e), e5.keep O6 h.n8, T5.keep O6 E6 (own_ne_cs T5.own c5 (by decide)), K5.keep O6 E6 (own_ne_cs K5.own c5 (by decide)), F5.keep O6 E6 (own_ne_cs F5.own c5 (by decide)), h.hb, h.h8, h.n8, h.tn, fun g h1 h2 => ?_, fun g h1 h2 => ?_⟩
  · have := c5.set_ 2 (.slice A' (ks.length + 1 : Nat) c')
    rw [List.length_append]
    exact this
  · rw [List.length_append] at h2
    rcases hb with hb | hb
    · exact h.tk g h1 (hb.symm.trans h2)
    · have h3 : some u.heap.size = some g := hb.symm.trans h2
      injection h3 with h3
      obtain ⟨cur, hc⟩ := own_cs h.ft.own h1
      have := hc.lt
      omega
  · rw [List.length_append] at h2
    rcases hb with hb | hb
    · exact h.nk g h1 (hb.symm.trans h2)
    · have h3 : some u.heap.size = some g := hb.symm.trans h2
      injection h3 with h3
      obtain ⟨cur, hc⟩ := own_cs h.fn.own h1
      have := hc.lt
      omega
theorem Gr.newT (h : Gr w u b b5 b8 L5 a ts [] [] ph) (hn : a.nA = none) (hk : a.cA = none) {A' : Option Addr} {c' : Nat} {w5 : World} {t : Str}
    (hF : Fresh strF 9 w w5 A' c' [t]) (hx : Ext u w5) :
    Gr w (w5.setCell ⟨b, 0, none⟩ (.slice A' 1 c')) b b5 b8 L5 { a with tA := A', tc := c' } [t] [] [] ph := by
  have g := h.ext hx
  have O6 : Only (fun g => g = b) w5 (w5.setCell ⟨b, 0, none⟩ (.slice A' 1 c')) := (Only.refl _ _).at_ 0 _
  have E6 : Ext w (w5.setCell ⟨b, 0, none⟩ (.slice A' 1 c')) := hF.ext.trans O6 fun q hg e => by have e : q = b := e; have := h.hb; omega
  refine ⟨g.cs.set_ 0 _, g.c5.keep O6 (fun e => Cs.ne_ g.c5 g.cs (by decide) e), g.c8.keep O6 g.n8, hF.keep O6 E6 (own_ne_cs hF.own g.cs (by decide)), g.fn.keep O6 E6 (own_ne_cs g.fn.own g.cs (by decide)), g.fc.keep O6 E6 (own_ne_cs g.fc.own g.cs (by decide)), g.hb, g.h8, g.n8, fun q _ h2 => ?_, fun q _ h2 => ?_, g.nk⟩
  · simp [hn, Value.ownBlock] at h2
  · simp [hk, Value.ownBlock] at h2
end
theorem fresh_one {w u : World} (hx : Ext w u) (t : Str) : Fresh strF 9 w (u.alloc (.cells #[S t] 9)) (some ⟨u.heap.size, 0, none⟩) 1 [t] :=
  ⟨⟨rfl, .inr ⟨u.heap.size, 1, #[S t], rfl, Nat.zero_le _, Cs.new u _ _, Nat.le_refl _, by simp [maxLen], rfl, rfl⟩⟩, hx.alloc _, fun g hg => by simp [Value.ownBlock] at hg; have := hx.size; omega⟩
theorem own_cap {w : World} {B : Nat} {e : TypeId} {size n c : Nat} {A : Option Addr} {xs : List Value} (h : w.ownsRow B e size (.slice A n c) n xs) : n ≤ c := by
  rcases h.2 with ⟨h1, h2⟩ | ⟨g, cap, cur, h1, _, _, h2, _⟩
  · omega
  · injection h1 with _ _ h3
    omega
theorem load_grp {w : World} {b : Nat} {x y z p : Value} (h : Cs w b grpT #[x, y, z, p]) : (loadVar grpT ⟨b, 0, none⟩).run Tryz.prog w = .ok (.agg #[x, y, z, p]) w := by
  have c0 := h.cell 0
  have c1 := h.cell 1
  have c2 := h.cell 2
  have c3 := h.cell 3
  simp only [List.getElem?_toArray, List.getElem?_cons_succ, List.getElem?_cons_zero] at c0 c1 c2 c3
  go_simp
def OfRes (w : World) (g : Grp) (e : Ending) (w' : World) : Prop := ∃ a : RulA, e = .returned (grpW (a, g)) ∧ Fresh strF 9 w w' a.tA a.tc g.targets ∧ Fresh strF 9 w w' a.nA a.nc g.needs ∧ Fresh strF 9 w w' a.cA a.cc g.cmds ∧ Ext w w'
structure GrM (u : World) (g : Nat) (v : MkV) (rs : List (RulA × Rul)) (m : Mk) (lA : Option Addr) (lc : Nat) (l : List File) : Prop where
  c0 : u.cell? ⟨g, 0, none⟩ = some (.slice v.vA m.vars.length v.vc)
  c1 : u.cell? ⟨g, 1, none⟩ = some (.slice v.rA m.rules.length v.rc)
  c2 : u.cell? ⟨g, 2, none⟩ = some (.slice v.pA m.phony.length v.pc)
  c3 : u.cell? ⟨g, 3, none⟩ = some (.slice lA l.length lc)
  mr : MakeR u v rs m
  fl : SlR fileF u lA l.length l
theorem GrM.ext {u w : World} {g : Nat} {v : MkV} {rs : List (RulA × Rul)} {m : Mk} {lA : Option Addr} {lc : Nat} {l : List File} (h : GrM u g v rs m lA lc l) (hx : Ext u w) : GrM w g v rs m lA lc l :=
  have hb : g < u.heap.size := World.block_lt_of_cell? _ _ h.c0
  ⟨(hx.cell (p := ⟨g, 0, none⟩) hb id).trans h.c0, (hx.cell (p := ⟨g, 1, none⟩) hb id).trans h.c1, (hx.cell (p := ⟨g, 2, none⟩) hb id).trans h.c2, (hx.cell (p := ⟨g, 3, none⟩) hb id).trans h.c3, h.mr.ext hx, h.fl.ext hx⟩
structure GBd (m : Mk) (l : List File) : Prop where
  r : m.rules.length ≤ 100
  t : ∀ r ∈ m.rules, 1 ≤ r.targets.length ∧ r.targets.length ≤ 2 ∧ r.needs.length ≤ 3 ∧ r.cmds.length ≤ 3 ∧ (∀ x ∈ r.targets, x.length ≤ 100) ∧ (∀ x ∈ r.needs, x.length ≤ 100) ∧ (∀ x ∈ r.cmds, x.length ≤ 100)
  p : m.phony.length ≤ 100000
  n : l.length ≤ 900000
  o : Rise fk l
theorem idxI_ge {o : Option Nat} : decide (idxI o ≥ 0) = o.isSome := by
  cases o with
  | none => rfl
  | some k => simp [idxI]
theorem expl_some (rs : List Rul) (n : Str) : (rs.findIdx? fun r => inS r.targets n).isSome = (explF rs n).isSome := by
  unfold explF
  rw [List.findIdx?_isSome, Bool.eq_iff_iff, List.any_eq_true, List.find?_isSome]
end Go.Proofs.YtnhaekifcieeoaaGreatDoor
