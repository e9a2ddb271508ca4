/- Put together: MkP, Gx1, Gx2, Rp1. -/
import Derived.Test.YtnhaekifcieeoaaGreatDoorPk06
import Derived.Test.YtnhaekifcieeoaaGreatDoorPk05
import Derived.Test.YtnhaekifcieeoaaGreatDoorPk03
import Derived.Laws.ResultCell
import Derived.Test.YtnhaekifcieeoaaGreatDoorPk04
import Derived.Test.YtnhaekifcieeoaaGreatDoorProg
import Derived.Test.YtnhaekifcieeoaaGreatDoorPk02
import Derived.Laws.MakeOwn
namespace Go.Proofs.YtnhaekifcieeoaaGreatDoor
open Go Go.RowKit
theorem bodyPost_cell {P : Program} {fn : Func} {R : Ending → World → Prop} {a : Act} {w : World} {p u : Tmp} {ty : TypeId} {ad : Addr} {v : Value} (h : fn.results = #[.cell p ty, .tmp u])
    (hp : a.tmps.getD p undef = .pointer (some ad)) (hd : a.defers = []) (hl : (loadVar ty ad).run P w = .ok v w) (hR : R (.returned (.tuple #[v, a.tmps.getD u undef])) w) : bodyPost P fn R .ret a w := by
  refine bodyPost_ret (v := .tuple #[v, a.tmps.getD u undef]) ?_ hd hR
  rw [results_cell_tmp h, hp]
  simp [asAddr, Sem.run_pure, Result.andThen, hl]
theorem load_mk {w : World} {b : Nat} {x y z : Value} (h : Cs w b makeT #[x, y, z]) : (loadVar makeT ⟨b, 0, none⟩).run Tryz.prog w = .ok (.agg #[x, y, z]) w := by
  have c0 := h.cell 0
  have c1 := h.cell 1
  have c2 := h.cell 2
  simp only [List.getElem?_toArray, List.getElem?_cons_succ, List.getElem?_cons_zero] at c0 c1 c2
  go_simp
@[go_sem] theorem mk_build0 (w : World) : (Instr.build makeT #[]).run Tryz.prog w = .ok (.agg #[.slice none 0 0, .slice none 0 0, .slice none 0 0]) w := run_build w makeT _ _ (by kernel_rfl)
theorem Fresh.fin {α : Type} {T : Flat α} (hp : 0 < T.size) {t : TypeId} {w wr u : World} {A : Option Addr} {c : Nat} {F : Nat → Prop} {xs : List α} (h : Fresh T t w wr A c xs) (hx : Only F wr u) (hg : ∀ b, F b → b < w.heap.size) : SlR T u A xs.length xs :=
  SlR.of_own hp (own_keep h.own hx fun b hb e => by have := hg b e; have := h.new b hb; omega)
theorem MAt.fin {Q : List SRow} {w wr u : World} {g : Nat} {F : Nat → Prop} {v : MkV} {rs : List (RulA × Rul)} {m : Mk} (h : MAt Q w wr g v rs m) (hx : Only F wr u) (hg : ∀ b, F b → b < w.heap.size) : MakeR u v rs m := by
  refine ⟨h.fv.fin (by decide) hx hg, ?_, (h.ss.f ⟨v.pA, v.pc, m.phony⟩ (by simp)).fin (by decide) hx hg, fun x hm => ?_, h.rm⟩
  · have := h.fr.fin (by decide) hx hg
    rw [h.rl] at this
    exact this
  · have q : ∀ y ∈ rowsOf x, y ∈ Q ++ (⟨v.pA, v.pc, m.phony⟩ : SRow) :: rs.flatMap rowsOf := fun y hy => List.mem_append_right _ (List.mem_cons_of_mem _ (List.mem_flatMap.2 ⟨x, hm, hy⟩))
    exact ⟨(h.ss.f _ (q ⟨x.1.tA, x.1.tc, x.2.targets⟩ (by simp))).fin (by decide) hx hg, (h.ss.f _ (q ⟨x.1.nA, x.1.nc, x.2.needs⟩ (by simp))).fin (by decide) hx hg, (h.ss.f _ (q ⟨x.1.cA, x.1.cc, x.2.cmds⟩ (by simp))).fin (by decide) hx hg⟩
theorem MAt.mk0 {w wr : World} {g : Nat} {q : SRow} (hx : Ext w wr) (hg : w.heap.size ≤ g) (hc : Cs wr g makeT #[.slice none 0 0, .slice none 0 0, .slice none 0 0]) (hq : q.F w wr) : MAt [q] w wr g mkV0 [] mk0 := by
  refine ⟨hc, Fresh.nil _ _ _ _ hx, Fresh.nil _ _ _ _ hx, ⟨fun x hm => ?_, ?_⟩, rfl, hg⟩
  · rcases List.mem_cons.1 hm with rfl | hm
    · exact hq
    · obtain rfl := List.mem_singleton.1 hm
      exact Fresh.nil _ _ _ _ hx
  · refine List.pairwise_cons.2 ⟨fun y hy => ?_, List.pairwise_singleton _ _⟩
    obtain rfl := List.mem_singleton.1 hy
    intro g _ h2
    simp [SRow.own, Value.ownBlock] at h2
theorem parseF_fit (s : Str) : (parseF s).1.Fit 700 := by
  have h0 : mk0.Fit 700 := ⟨mk0_fit.v, mk0_fit.vt, mk0_fit.r, mk0_fit.rt, Nat.zero_le _⟩
  unfold parseF
  split
  · exact h0
  · rename_i hl
    split
    · exact h0
    · split
      · have := foldF_fit (splB 10 s) mk0 0 mk0_fit (fun l hx => by have := splB_mem 10 s l hx; omega)
        have h1 := splB_le 10 s
        exact ⟨this.v, this.vt, this.r, this.rt, by have := this.p; show (foldF (splB 10 s) mk0).1.phony.length ≤ 700; omega⟩
      · exact h0
theorem foldF_cons (l : Str) (ls : List Str) (m : Mk) : foldF (l :: ls) m = if (lineF m l).2 = 0 then foldF ls (lineF m l).1 else (mk0, (lineF m l).2) := rfl
def PrsRes (w : World) (R : Mk × Int) (e : Ending) (w' : World) : Prop := ∃ v rs, e = .returned (.tuple #[mkV v R.1, errV R.2]) ∧ (∀ (F : Nat → Prop) (u : World), (∀ b, F b → b < w.heap.size) → Only F w' u → MakeR u v rs R.1) ∧ Ext w w'
set_option maxRecDepth 100000 in
set_option maxHeartbeats 4000000 in
theorem MkParse_any {w : World} (hm : Ml w) (s : Str) (hs : s.length ≤ 9223372036854775807) : Calls Tryz.prog 18 #[S s] w (PrsRes w (parseF s)) := by
  obtain ⟨g2, hg2⟩ : ∃ g, g = w.heap.size := ⟨_, rfl⟩
  obtain ⟨w1, hw1⟩ : ∃ w1, w1 = w.alloc (.cells #[.slice none 0 0, .slice none 0 0, .slice none 0 0] makeT) := ⟨_, rfl⟩
  have x1 : Ext w w1 := by rw [hw1]; exact (Only.refl No w).alloc _
  have C1 : Hid (Cs w1 g2 makeT #[.slice none 0 0, .slice none 0 0, .slice none 0 0]) := by rw [hw1, hg2]; exact Cs.new _ _ _
  have hz1 : g2 < w1.heap.size := by rw [hw1, hg2]; simp
  have hz0 : w.heap.size ≤ g2 := by omega
  have X1 := Lib.hid x1
  have HM := Lib.hid (hm.ext x1)
  have HX : Hid (∀ u v, Ext w1 u → Only (fun b => b = g2) u v → Ext w v) := fun u v h1 h2 => (x1.then_ext h1).trans h2 fun b hb e => by have e : b = g2 := e; omega
  have HP : Hid (parseF s = if 600 < s.length then (mk0, 2) else if (foldF (splB 10 s) mk0).2 ≠ 0 then (mk0, (foldF (splB 10 s) mk0).2) else if chkF (foldF (splB 10 s) mk0).1 = 0 then ((foldF (splB 10 s) mk0).1, 0) else (mk0, chkF (foldF (splB 10 s) mk0).1)) := rfl
  clear x1 hm
  by_cases hl : 600 < s.length
  · have g6 : decide ((600 : Int) < (s.length : Int)) = true := by rw [decide_eq_true_iff]; omega
    have HR := Lib.hid (HP.out.trans (if_pos hl))
    have e0 : w1.cell? ⟨g2, 0, none⟩ = some (.slice none 0 0) := C1.out.cell 0
    have e1 : w1.cell? ⟨g2, 1, none⟩ = some (.slice none 0 0) := C1.out.cell 1
    have e2 : w1.cell? ⟨g2, 2, none⟩ = some (.slice none 0 0) := C1.out.cell 2
    have z0 := C1.out.frozen 0
    have z1 := C1.out.frozen 1
    have z2 := C1.out.frozen 2
    have HO : Hid (∀ a b c, Only (fun b => b = g2) w1 (((w1.setCell ⟨g2, 0, none⟩ a).setCell ⟨g2, 1, none⟩ b).setCell ⟨g2, 2, none⟩ c)) := fun a b c => (((Only.refl _ _).at_ 0 a).at_ 1 b).at_ 2 c
    have HS : Hid (∀ a b c, Cs (((w1.setCell ⟨g2, 0, none⟩ a).setCell ⟨g2, 1, none⟩ b).setCell ⟨g2, 2, none⟩ c) g2 makeT #[a, b, c]) := fun a b c => ((C1.out.set_ 0 a).set_ 1 b).set_ 2 c
    go_enter Tryz.func18, Tryz.ntmps18
    go_upto_region 1 with fail
    rw [← hw1, ← hg2]
    clear hw1 hg2
    go_wp2_with fail
    refine bodyPost_cell rfl rfl rfl (load_mk (HS.out _ _ _)) ?_
    rw [HR.out]
    exact ⟨mkV0, [], rfl, fun _ _ _ _ => makeR0 _, HX.out _ _ (Only.refl _ _) (HO.out _ _ _)⟩
  · have g6 : decide ((600 : Int) < (s.length : Int)) = false := by rw [decide_eq_false_iff_not]; omega
    have HP2 := Lib.hid (HP.out.trans (if_neg hl))
    clear HP
    obtain ⟨g4, hg4⟩ : ∃ g, g = w1.heap.size := ⟨_, rfl⟩
    obtain ⟨w2, hw2⟩ : ∃ u, u = w1.alloc (.cells #[.slice none 0 0, .slice none 0 0, .slice none 0 0] makeT) := ⟨_, rfl⟩
    have x2 : Ext w1 w2 := by rw [hw2]; exact (Only.refl No w1).alloc _
    have C2 : Hid (Cs w2 g4 makeT #[.slice none 0 0, .slice none 0 0, .slice none 0 0]) := by
      rw [hw2, hg4]
      exact Cs.new _ _ _
    have hz4 : w1.heap.size ≤ g4 := Nat.le_of_eq hg4.symm
    have HSp := Lib.hid (Split_c s (by omega) 10 (HM.out.ext x2))
    have X2 := Lib.hid x2
    have hll : ∀ l ∈ splB 10 s, l.length ≤ 600 := fun l hx => by have := splB_mem 10 s l hx; omega
    have hsl := splB_le 10 s
    have HLl := Lib.hid hll
    clear x2 hll
    obtain ⟨ls, hls⟩ : ∃ l, l = splB 10 s := ⟨_, rfl⟩
    rw [← hls] at HSp HLl HP2 hsl
    clear hls
    go_enter Tryz.func18, Tryz.ntmps18
    go_upto_region 1 with fail
    rw [← hw1, ← hg2]
    clear hw1 hg2
    go_upto_region 4 with fail
    rw [← hw2, ← hg4]
    clear hw2 hg4
    go_wp2_with fail
    refine HSp.out.mono ?_
    rintro e w3 ⟨A3, c3, rfl, hF3⟩
    have P3 : Hid (MAt [⟨A3, c3, ls⟩] w1 w3 g4 mkV0 [] mk0) := MAt.mk0 (X2.out.then_ext hF3.ext) hz4 (C2.out.keep hF3.ext id) (Fresh.from hF3 X2.out)
    clear hF3 C2 HSp X2
    go_wp2_with fail
    go_loopw [18] (fun i wr => ∃ j : Nat, j ≤ ls.length ∧ i = .int .i64 j ∧ ∃ v rs m, MAt [⟨A3, c3, ls⟩] w1 wr g4 v rs m ∧ m.Fit j ∧ foldF ls mk0 = foldF (ls.drop j) m) (fun i _ => ls.length - (intOf i).toNat)
    case atStart => exact ⟨0, Nat.zero_le _, rfl, mkV0, [], mk0, P3.out, mk0_fit, rfl⟩
    case round =>
      clear P3
      obtain ⟨j, hj, rfl, v, rs, m, hP, hF, hO⟩ := hrel
      have P := Lib.hid hP
      have HFt := Lib.hid hF
      have HO0 := Lib.hid hO
      clear hP hF hO
      by_cases hlt : j < ls.length
      · have HRw := Lib.hid ((P.out.ss.f ⟨A3, c3, ls⟩ (by simp)).row (by decide))
        obtain ⟨b, o, l, rfl, hx, cx⟩ := strs_get HRw.out hlt
        have HX0 := Lib.hid hx
        have cx' : wr.cell? ⟨b, o + j, none⟩ = some (S l) := cx (X.here _ _)
        have hl6 : l.length ≤ 600 := HLl.out l (List.mem_of_getElem? HX0.out)
        have HLn := Lib.hid (Line_c HM.out P.out HFt.out (by omega) l hl6)
        have HFit := Lib.hid (lineF_fit HFt.out hl6)
        have HO2 : Hid (foldF ls mk0 = if (lineF m l).2 = 0 then foldF (ls.drop (j + 1)) (lineF m l).1 else (mk0, (lineF m l).2)) := by
          rw [Hid, HO0.out, drop_get HX0.out, foldF_cons]
        clear hx cx HO0 P HFt
        generalize lineF m l = R at HLn HFit HO2
        obtain ⟨m', er⟩ := R
        dsimp only at HO2 HFit
        go_wp2_with fail
        refine HLn.out.mono ?_
        rintro e u ⟨v', rs', rfl, hM⟩
        have P2 := Lib.hid hM
        clear hM HLn cx'
        by_cases he : er = 0
        · subst he
          rw [errV_zero]
          have HO3 : Hid (foldF ls mk0 = foldF (ls.drop (j + 1)) m') := HO2.out.trans (if_pos rfl)
          go_wp2_with fail
          go_roundw
          case rel => exact ⟨j + 1, by omega, by go_num, v', rs', m', P2.out, HFit.out, HO3.out⟩
          case measure => simp [intOf]; omega
        · have hpos := errV_pos he
          have HO3 : Hid (foldF ls mk0 = (mk0, er)) := HO2.out.trans (if_neg he)
          have HR : Hid (parseF s = (mk0, er)) := by
            rw [Hid, HP2.out, HO3.out]
            exact if_pos he
          have C2 := Lib.hid (C1.out.keep P2.out.x id)
          have HO : Hid (∀ a b c, Only (fun b => b = g2) u (((u.setCell ⟨g2, 0, none⟩ a).setCell ⟨g2, 1, none⟩ b).setCell ⟨g2, 2, none⟩ c)) := fun a b c => (((Only.refl _ _).at_ 0 a).at_ 1 b).at_ 2 c
          have HS : Hid (∀ a b c, Cs (((u.setCell ⟨g2, 0, none⟩ a).setCell ⟨g2, 1, none⟩ b).setCell ⟨g2, 2, none⟩ c) g2 makeT #[a, b, c]) := fun a b c => ((C2.out.set_ 0 a).set_ 1 b).set_ 2 c
          have e0 : u.cell? ⟨g2, 0, none⟩ = some (.slice none 0 0) := C2.out.cell 0
          have e1 : u.cell? ⟨g2, 1, none⟩ = some (.slice none 0 0) := C2.out.cell 1
          have e2 : u.cell? ⟨g2, 2, none⟩ = some (.slice none 0 0) := C2.out.cell 2
          have z0 := C2.out.frozen 0
          have z1 := C2.out.frozen 1
          have z2 := C2.out.frozen 2
          rw [hpos]
          go_wp2_with fail
          refine bodyPost_cell rfl rfl rfl (load_mk (HS.out _ _ _)) ?_
          rw [HR.out]
          exact ⟨mkV0, [], by rw [hpos]; rfl, fun _ _ _ _ => makeR0 _, HX.out _ _ P2.out.x (HO.out _ _ _)⟩
      · obtain rfl : j = ls.length := by omega
        have HO2 : Hid (foldF ls mk0 = (m, 0)) := by
          rw [Hid, HO0.out, List.drop_of_length_le (Nat.le_refl _)]
          rfl
        have HP3 : Hid (parseF s = if chkF m = 0 then (m, 0) else (mk0, chkF m)) := by
          rw [Hid, HP2.out, HO2.out]
          exact if_neg (fun h => h rfl)
        clear HO0 HO2 HP2
        have c0 : wr.cell? ⟨g4, 0, none⟩ = some (.slice v.vA m.vars.length v.vc) := P.out.rc.cell 0
        have c1 : wr.cell? ⟨g4, 1, none⟩ = some (.slice v.rA m.rules.length v.rc) := by rw [← P.out.rl]; exact P.out.rc.cell 1
        have c2 : wr.cell? ⟨g4, 2, none⟩ = some (.slice v.pA m.phony.length v.pc) := P.out.rc.cell 2
        have HCk := Lib.hid (Check_c P.out.made HFt.out.r (fun x hx => ⟨(HFt.out.rt x hx).1, (HFt.out.rt x hx).2.1⟩) (by have := HFt.out.p; omega))
        generalize chkF m = ck at HCk HP3
        go_wp2_with fail
        refine HCk.out.mono ?_
        rintro e u ⟨rfl, hu⟩
        have P2 := Lib.hid (P.out.ext hu)
        have C2 := Lib.hid (C1.out.keep P2.out.x id)
        clear hu HCk P c0 c1 c2
        have HO : Hid (∀ a b c, Only (fun b => b = g2) u (((u.setCell ⟨g2, 0, none⟩ a).setCell ⟨g2, 1, none⟩ b).setCell ⟨g2, 2, none⟩ c)) := fun a b c => (((Only.refl _ _).at_ 0 a).at_ 1 b).at_ 2 c
        have HS : Hid (∀ a b c, Cs (((u.setCell ⟨g2, 0, none⟩ a).setCell ⟨g2, 1, none⟩ b).setCell ⟨g2, 2, none⟩ c) g2 makeT #[a, b, c]) := fun a b c => ((C2.out.set_ 0 a).set_ 1 b).set_ 2 c
        have e0 : u.cell? ⟨g2, 0, none⟩ = some (.slice none 0 0) := C2.out.cell 0
        have e1 : u.cell? ⟨g2, 1, none⟩ = some (.slice none 0 0) := C2.out.cell 1
        have e2 : u.cell? ⟨g2, 2, none⟩ = some (.slice none 0 0) := C2.out.cell 2
        have z0 := C2.out.frozen 0
        have z1 := C2.out.frozen 1
        have z2 := C2.out.frozen 2
        by_cases he : ck = 0
        · subst he
          rw [errV_zero]
          have HR : Hid (parseF s = (m, 0)) := HP3.out.trans (if_pos rfl)
          have c0 : u.cell? ⟨g4, 0, none⟩ = some (.slice v.vA m.vars.length v.vc) := P2.out.rc.cell 0
          have c1 : u.cell? ⟨g4, 1, none⟩ = some (.slice v.rA m.rules.length v.rc) := by rw [← P2.out.rl]; exact P2.out.rc.cell 1
          have c2 : u.cell? ⟨g4, 2, none⟩ = some (.slice v.pA m.phony.length v.pc) := P2.out.rc.cell 2
          go_wp2_with fail
          refine bodyPost_cell rfl rfl rfl (load_mk (HS.out _ _ _)) ?_
          rw [HR.out]
          exact ⟨v, rs, rfl, fun F u' hF hu' => P2.out.fin (F := fun b => b = g2 ∨ F b) (((HO.out _ _ _).weak fun b _ h => .inl h).trans hu' fun b _ h => .inr h) (fun b hb => by
              have := X1.out.size
              rcases hb with hb | hb
              · omega
              · have := hF b hb
                omega), HX.out _ _ P2.out.x (HO.out _ _ _)⟩
        · have hpos := errV_pos he
          have HR : Hid (parseF s = (mk0, ck)) := HP3.out.trans (if_neg he)
          rw [hpos]
          go_wp2_with fail
          refine bodyPost_cell rfl rfl rfl (load_mk (HS.out _ _ _)) ?_
          rw [HR.out]
          exact ⟨mkV0, [], by rw [hpos]; rfl, fun _ _ _ _ => makeR0 _, HX.out _ _ P2.out.x (HO.out _ _ _)⟩
theorem MkParse_c {w : World} (hm : Ml w) (s : Str) (hs : s.length ≤ 1000000) : Calls Tryz.prog 18 #[S s] w (PrsRes w (parseF s)) := MkParse_any hm s (by omega)
abbrev grpT : TypeId := 46
def grpF : Flat (RulA × Grp) := ⟨4, fun x => [.slice x.1.tA x.2.targets.length x.1.tc, .slice x.1.nA x.2.needs.length x.1.nc, .slice x.1.cA x.2.cmds.length x.1.cc, .bool x.2.phony], fun _ => rfl⟩
theorem grps_get {w : World} {A : Option Addr} {n : Nat} {rs : List (RulA × Grp)} (h : SlR grpF w A n rs) {k : Nat} (hk : k < n) :
    ∃ b o x, A = some ⟨b, o, none⟩ ∧ rs[k]? = some x ∧ (∀ ξ : X w No, ξ.v.cell? ⟨b, o + k * 4, none⟩ = some (.slice x.1.tA x.2.targets.length x.1.tc)) ∧ (∀ ξ : X w No, ξ.v.cell? ⟨b, o + k * 4 + 1, none⟩ = some (.slice x.1.nA x.2.needs.length x.1.nc)) ∧
      (∀ ξ : X w No, ξ.v.cell? ⟨b, o + k * 4 + 2, none⟩ = some (.slice x.1.cA x.2.cmds.length x.1.cc)) ∧ (∀ ξ : X w No, ξ.v.cell? ⟨b, o + k * 4 + 3, none⟩ = some (.bool x.2.phony)) := by
  obtain ⟨b, o, x, e, hb, hx, hc⟩ := h.get hk
  exact ⟨b, o, x, e, hx, fun ξ => (ξ.h.cell hb id).trans (hc 0 _ rfl), fun ξ => (ξ.h.cell hb id).trans (hc 1 _ rfl), fun ξ => (ξ.h.cell hb id).trans (hc 2 _ rfl), fun ξ => (ξ.h.cell hb id).trans (hc 3 _ rfl)⟩
abbrev ruleV (x : RulA × Rul) : Value := .agg #[.slice x.1.tA x.2.targets.length x.1.tc, .slice x.1.nA x.2.needs.length x.1.nc, .slice x.1.cA x.2.cmds.length x.1.cc]
abbrev grpV (x : RulA × Grp) : Value := .agg #[.slice x.1.tA x.2.targets.length x.1.tc, .slice x.1.nA x.2.needs.length x.1.nc, .slice x.1.cA x.2.cmds.length x.1.cc, .bool x.2.phony]
def idxI (o : Option Nat) : Int := match o with | some i => (i : Int) | none => -1
theorem findIdx_none_snoc {α : Type} {p : α → Bool} {xs : List α} {k : Nat} {x : α} (h : ∀ y ∈ xs.take k, p y = false) (hx : xs[k]? = some x) (hp : p x = false) : ∀ y ∈ xs.take (k + 1), p y = false := fun y hy => by
  rw [List.take_add_one, hx] at hy
  rcases List.mem_append.1 hy with hy | hy
  · exact h y hy
  · simp at hy; exact hy ▸ hp
theorem findIdx_at {α : Type} {p : α → Bool} {xs : List α} {k : Nat} {x : α} (h : ∀ y ∈ xs.take k, p y = false) (hx : xs[k]? = some x) (hp : p x = true) : idxI (xs.findIdx? p) = (k : Int) := by
  obtain ⟨hk, e⟩ := List.getElem?_eq_some_iff.1 hx
  have : xs.findIdx? p = some k := List.findIdx?_eq_some_iff_getElem.2 ⟨hk, by rw [e]; exact hp, fun j hj => by
    have := h (xs[j]'(by omega)) (by
      rw [List.mem_take_iff_getElem]
      exact ⟨j, by omega, rfl⟩)
    simp [this]⟩
  rw [this]; rfl
theorem findIdx_no {α : Type} {p : α → Bool} {xs : List α} (h : ∀ y ∈ xs, p y = false) : idxI (xs.findIdx? p) = -1 := by
  have : xs.findIdx? p = none := List.findIdx?_eq_none_iff.2 fun x hx => by rw [h x hx]
  rw [this]; rfl
set_option maxRecDepth 100000 in
theorem IdxRul_c {w : World} {A : Option Addr} {n c : Nat} {xs : List (RulA × Rul)} (h : SlR rulF w A n xs) (hn : n ≤ 100000) (p : (RulA × Rul) → Bool) (cap : Array Value)
    (hp : ∀ x ∈ xs, ∀ u, Ext w u → Calls Tryz.prog 116 (#[ruleV x] ++ cap) u fun e w' => e = .returned (.bool (p x)) ∧ Ext u w') :
    Calls Tryz.prog 115 #[.slice A n c, .func (.func 116) #[] cap] w fun e w' => e = .returned (.int .i64 (idxI (xs.findIdx? p))) ∧ Ext w w' := by
  have HS := Lib.hid h
  have HPr := Lib.hid hp
  clear h hp
  go_enter Tryz.func115, Tryz.ntmps115
  go_wp2
  go_loopw [8] (fun i wr => ∃ k : Nat, k ≤ n ∧ i = .int .i64 k ∧ (∀ y ∈ xs.take k, p y = false) ∧ ∃ ξ : X w No, wr = ξ.v) (fun i _ => n - (intOf i).toNat)
  case atStart => exact ⟨0, Nat.zero_le _, rfl, by simp, X.here _ _, rfl⟩
  case round =>
    obtain ⟨k, hk, rfl, hT, ξ, rfl⟩ := hrel
    have HT := Lib.hid hT
    clear hT
    by_cases hlt : k < n
    · obtain ⟨b, o, x, rfl, hx, hb, d0, d1, d2⟩ := rules_get HS.out hlt
      have HX := Lib.hid hx
      have HC := Lib.hid (HPr.out x (List.mem_of_getElem? hx) _ ξ.h)
      have c0 := d0 _ ξ.h
      have c1 := d1 _ ξ.h
      have c2 := d2 _ ξ.h
      obtain ⟨q, hq⟩ : ∃ q, p x = q := ⟨_, rfl⟩
      have HP := Lib.hid hq
      rw [hq] at HC
      clear hx hq
      go_wp2_with fail
      refine HC.out.mono ?_
      rintro e u ⟨rfl, hu⟩
      have HU : Hid (Ext w u) := Lib.hid (ξ.h.then_ext hu)
      clear hu HC
      cases q with
      | true =>
        go_wp2_with fail
        go_ret
        exact ⟨by rw [findIdx_at HT.out HX.out HP.out]; rfl, HU.out⟩
      | false =>
        go_wp2_with fail
        go_roundw
        case rel => exact ⟨k + 1, by omega, by go_num, findIdx_none_snoc HT.out HX.out HP.out, ⟨_, HU.out⟩, rfl⟩
        case measure => simp [intOf]; omega
    · obtain rfl : k = n := by omega
      go_wp2_with fail
      go_ret
      have e1 := HT.out
      rw [List.take_of_length_le (by rw [HS.out.1]; exact Nat.le_refl _)] at e1
      exact ⟨by rw [findIdx_no e1]; rfl, ξ.h⟩
set_option maxRecDepth 100000 in
theorem IdxGrp_c {w : World} {A : Option Addr} {n c : Nat} {xs : List (RulA × Grp)} (h : SlR grpF w A n xs) (hn : n ≤ 100000) (p : (RulA × Grp) → Bool) (cap : Array Value)
    (hp : ∀ x ∈ xs, ∀ u, Ext w u → Calls Tryz.prog 41 (#[grpV x] ++ cap) u fun e w' => e = .returned (.bool (p x)) ∧ Ext u w') :
    Calls Tryz.prog 40 #[.slice A n c, .func (.func 41) #[] cap] w fun e w' => e = .returned (.int .i64 (idxI (xs.findIdx? p))) ∧ Ext w w' := by
  have HS := Lib.hid h
  have HPr := Lib.hid hp
  clear h hp
  go_enter Tryz.func40, Tryz.ntmps40
  go_wp2
  go_loopw [8] (fun i wr => ∃ k : Nat, k ≤ n ∧ i = .int .i64 k ∧ (∀ y ∈ xs.take k, p y = false) ∧ ∃ ξ : X w No, wr = ξ.v) (fun i _ => n - (intOf i).toNat)
  case atStart => exact ⟨0, Nat.zero_le _, rfl, by simp, X.here _ _, rfl⟩
  case round =>
    obtain ⟨k, hk, rfl, hT, ξ, rfl⟩ := hrel
    have HT := Lib.hid hT
    clear hT
    by_cases hlt : k < n
    · obtain ⟨b, o, x, rfl, hx, c0, c1, c2, c3⟩ := grps_get HS.out hlt
      have HX := Lib.hid hx
      have HC := Lib.hid (HPr.out x (List.mem_of_getElem? hx) _ ξ.h)
      obtain ⟨q, hq⟩ : ∃ q, p x = q := ⟨_, rfl⟩
      have HP := Lib.hid hq
      rw [hq] at HC
      clear hx hq
      go_wp2_with fail
      refine HC.out.mono ?_
      rintro e u ⟨rfl, hu⟩
      have HU : Hid (Ext w u) := Lib.hid (ξ.h.then_ext hu)
      clear hu HC
      cases q with
      | true =>
        go_wp2_with fail
        go_ret
        exact ⟨by rw [findIdx_at HT.out HX.out HP.out]; rfl, HU.out⟩
      | false =>
        go_wp2_with fail
        go_roundw
        case rel => exact ⟨k + 1, by omega, by go_num, findIdx_none_snoc HT.out HX.out HP.out, ⟨_, HU.out⟩, rfl⟩
        case measure => simp [intOf]; omega
    · obtain rfl : k = n := by omega
      go_wp2_with fail
      go_ret
      have e1 := HT.out
      rw [List.take_of_length_le (by rw [HS.out.1]; exact Nat.le_refl _)] at e1
      exact ⟨by rw [findIdx_no e1]; rfl, ξ.h⟩
set_option maxRecDepth 100000 in
theorem ex1_c {w : World} {x : RulA × Rul} {b : Nat} {name : Str} (ht : SlR strF w x.1.tA x.2.targets.length x.2.targets) (hl : x.2.targets.length ≤ 1000000) (cn : w.cell? ⟨b, 0, none⟩ = some (S name)) :
    Calls Tryz.prog 116 #[ruleV x, .pointer (some ⟨b, 0, none⟩)] w fun e w' => e = .returned (.bool (inS x.2.targets name)) ∧ Ext w w' := by
  have hb := World.block_lt_of_cell? _ _ cn
  obtain ⟨w1, hw1⟩ : ∃ u, u = w.alloc (.cells #[.slice x.1.tA x.2.targets.length x.1.tc, .slice x.1.nA x.2.needs.length x.1.nc, .slice x.1.cA x.2.cmds.length x.1.cc] ruleT) := ⟨_, rfl⟩
  have X1 : Hid (Ext w w1) := by rw [hw1]; exact (Only.refl No w).alloc _
  have HC := Lib.hid (Contains_c (c := x.1.tc) (ht.ext X1.out) hl name)
  have c1 : w1.cell? ⟨b, 0, none⟩ = some (S name) := (X1.out.cell hb id).trans cn
  have c2 : w1.cell? ⟨w.heap.size, 0, none⟩ = some (.slice x.1.tA x.2.targets.length x.1.tc) := by rw [hw1]; exact (Cs.new w ruleT _).cell 0
  clear ht cn
  go_enter Tryz.func116, Tryz.ntmps116
  go_upto_region 1 with fail
  rw [← hw1]
  clear hw1
  go_wp2_with fail
  refine HC.out.mono ?_
  rintro e u ⟨rfl, hu⟩
  have X2 := Lib.hid (X1.out.then_ext hu)
  clear hu HC
  go_wp2_with fail
  go_ret
  exact ⟨rfl, X2.out⟩
theorem rules_idx {rs : List (RulA × Rul)} {m : Mk} (h : rs.map (·.2) = m.rules) (name : Str) : rs.findIdx? (fun x => inS x.2.targets name) = m.rules.findIdx? (fun r => inS r.targets name) := by
  rw [← h, List.findIdx?_map]
  rfl
set_option maxRecDepth 100000 in
theorem explicit_c {w : World} {v : MkV} {rs : List (RulA × Rul)} {m : Mk} (h : MakeR w v rs m) (hr : m.rules.length ≤ 100) (ht : ∀ r ∈ m.rules, r.targets.length ≤ 1000) (name : Str) :
    Calls Tryz.prog 85 #[mkV v m, S name] w fun e w' => e = .returned (.int .i64 (idxI (m.rules.findIdx? fun r => inS r.targets name))) ∧ Ext w w' := by
  obtain ⟨w1, hw1⟩ : ∃ u, u = w.alloc (.cells #[.slice v.vA m.vars.length v.vc, .slice v.rA m.rules.length v.rc, .slice v.pA m.phony.length v.pc] makeT) := ⟨_, rfl⟩
  obtain ⟨w2, hw2⟩ : ∃ u, u = w1.alloc (.cells #[S name] 9) := ⟨_, rfl⟩
  obtain ⟨b, hb⟩ : ∃ b, b = w1.heap.size := ⟨_, rfl⟩
  have x1 : Ext w w1 := by rw [hw1]; exact (Only.refl No w).alloc _
  have x2 : Ext w1 w2 := by rw [hw2]; exact (Only.refl No w1).alloc _
  have X2 : Hid (Ext w w2) := x1.then_ext x2
  have C2 : Cs w2 b 9 #[S name] := by rw [hw2, hb]; exact Cs.new _ _ _
  have c0 : w2.cell? ⟨w.heap.size, 1, none⟩ = some (.slice v.rA m.rules.length v.rc) := by
    have : Cs w1 w.heap.size makeT #[.slice v.vA m.vars.length v.vc, .slice v.rA m.rules.length v.rc, .slice v.pA m.phony.length v.pc] := by rw [hw1]; exact Cs.new _ _ _
    exact (this.keep x2 id).cell 1
  have HI : Hid (Calls Tryz.prog 115 #[.slice v.rA m.rules.length v.rc, .func (.func 116) #[] #[.pointer (some ⟨b, 0, none⟩)]] w2 fun e w' => e = .returned (.int .i64 (idxI (m.rules.findIdx? fun r => inS r.targets name))) ∧ Ext w2 w') := by
    rw [← rules_idx h.rm name]
    refine IdxRul_c (c := v.rc) (h.fr.ext X2.out) (by omega) (fun x => inS x.2.targets name) #[.pointer (some ⟨b, 0, none⟩)] fun x hx u hu => ?_
    exact ex1_c ((h.rr x hx).1.ext (X2.out.then_ext hu)) (by have := ht x.2 (by rw [← h.rm]; exact List.mem_map_of_mem hx); omega) ((C2.keep hu id).cell 0)
  have hmf : ∀ (fn : Fn) (first cap : Array Value) (w : World), (Instr.makeFunc fn first cap).run Tryz.prog w = .ok (.func fn first cap) w := fun _ _ _ _ => rfl
  have hbw : b = w.heap.size + 1 := by rw [hb, hw1]; simp
  clear h C2 x1 x2
  go_enter Tryz.func85, Tryz.ntmps85
  go_upto_region 1 with fail
  rw [← hw1, ← hw2, ← hbw]
  clear hw1 hw2 hbw hb
  go_wp2_with fail
  refine HI.out.mono ?_
  rintro e u ⟨rfl, hu⟩
  have X3 := Lib.hid (X2.out.then_ext hu)
  clear hu HI
  go_wp2_with fail
  go_ret
  exact ⟨rfl, X3.out⟩
set_option maxRecDepth 100000 in
theorem mk1_c {w : World} {x : RulA × Grp} {b : Nat} {name : Str} (ht : SlR strF w x.1.tA x.2.targets.length x.2.targets) (hl : x.2.targets.length ≤ 1000000) (cn : w.cell? ⟨b, 0, none⟩ = some (S name)) :
    Calls Tryz.prog 41 #[grpV x, .pointer (some ⟨b, 0, none⟩)] w fun e w' => e = .returned (.bool (inS x.2.targets name)) ∧ Ext w w' := by
  have hb := World.block_lt_of_cell? _ _ cn
  obtain ⟨w1, hw1⟩ : ∃ u, u = w.alloc (.cells #[.slice x.1.tA x.2.targets.length x.1.tc, .slice x.1.nA x.2.needs.length x.1.nc, .slice x.1.cA x.2.cmds.length x.1.cc, .bool x.2.phony] grpT) := ⟨_, rfl⟩
  have X1 : Hid (Ext w w1) := by rw [hw1]; exact (Only.refl No w).alloc _
  have HC := Lib.hid (Contains_c (c := x.1.tc) (ht.ext X1.out) hl name)
  have c1 : w1.cell? ⟨b, 0, none⟩ = some (S name) := (X1.out.cell hb id).trans cn
  have c2 : w1.cell? ⟨w.heap.size, 0, none⟩ = some (.slice x.1.tA x.2.targets.length x.1.tc) := by rw [hw1]; exact (Cs.new w grpT _).cell 0
  clear ht cn
  go_enter Tryz.func41, Tryz.ntmps41
  go_upto_region 1 with fail
  rw [← hw1]
  clear hw1
  go_wp2_with fail
  refine HC.out.mono ?_
  rintro e u ⟨rfl, hu⟩
  have X2 := Lib.hid (X1.out.then_ext hu)
  clear hu HC
  go_wp2_with fail
  go_ret
  exact ⟨rfl, X2.out⟩
structure GrpsR (w : World) (A : Option Addr) (os : List (RulA × Grp)) (out : List Grp) : Prop where
  row : SlR grpF w A out.length os
  rr : ∀ x ∈ os, SlR strF w x.1.tA x.2.targets.length x.2.targets ∧ SlR strF w x.1.nA x.2.needs.length x.2.needs ∧ SlR strF w x.1.cA x.2.cmds.length x.2.cmds
  om : os.map (·.2) = out
theorem GrpsR.ext {w u : World} {A : Option Addr} {os : List (RulA × Grp)} {out : List Grp} (h : GrpsR w A os out) (hx : Ext w u) : GrpsR u A os out := ⟨h.row.ext hx, fun x hm => ⟨(h.rr x hm).1.ext hx, (h.rr x hm).2.1.ext hx, (h.rr x hm).2.2.ext hx⟩, h.om⟩
set_option maxRecDepth 100000 in
theorem Maker_c {w : World} {A : Option Addr} {c : Nat} {os : List (RulA × Grp)} {out : List Grp} (h : GrpsR w A os out) (hr : out.length ≤ 100) (ht : ∀ g ∈ out, g.targets.length ≤ 1000) (name : Str) :
    Calls Tryz.prog 15 #[.slice A out.length c, S name] w fun e w' => e = .returned (.int .i64 (idxI (makerF out name))) ∧ Ext w w' := by
  obtain ⟨w1, hw1⟩ : ∃ u, u = w.alloc (.cells #[S name] 9) := ⟨_, rfl⟩
  obtain ⟨b, hb⟩ : ∃ b, b = w.heap.size := ⟨_, rfl⟩
  have X1 : Hid (Ext w w1) := by rw [hw1]; exact (Only.refl No w).alloc _
  have C1 : Cs w1 b 9 #[S name] := by rw [hw1, hb]; exact Cs.new _ _ _
  have HI : Hid (Calls Tryz.prog 40 #[.slice A out.length c, .func (.func 41) #[] #[.pointer (some ⟨b, 0, none⟩)]] w1 fun e w' => e = .returned (.int .i64 (idxI (makerF out name))) ∧ Ext w1 w') := by
    have e : makerF out name = os.findIdx? (fun x => inS x.2.targets name) := by
      unfold makerF
      rw [← h.om, List.findIdx?_map]
      rfl
    rw [e]
    refine IdxGrp_c (c := c) (h.row.ext X1.out) (by omega) (fun x => inS x.2.targets name) #[.pointer (some ⟨b, 0, none⟩)] fun x hx u hu => ?_
    exact mk1_c ((h.rr x hx).1.ext (X1.out.then_ext hu)) (by have := ht x.2 (by rw [← h.om]; exact List.mem_map_of_mem hx); omega) ((C1.keep hu id).cell 0)
  have hmf : ∀ (fn : Fn) (first cap : Array Value) (w : World), (Instr.makeFunc fn first cap).run Tryz.prog w = .ok (.func fn first cap) w := fun _ _ _ _ => rfl
  clear h C1
  go_enter Tryz.func15, Tryz.ntmps15
  go_upto_region 1 with fail
  rw [← hw1, ← hb]
  clear hw1 hb
  go_wp2_with fail
  refine HI.out.mono ?_
  rintro e u ⟨rfl, hu⟩
  have X3 := Lib.hid (X1.out.then_ext hu)
  clear hu HI
  go_wp2_with fail
  go_ret
  exact ⟨rfl, X3.out⟩
abbrev nodT : TypeId := 262
abbrev genT : TypeId := 264
abbrev pnT : TypeId := 259
abbrev rpt (g : Nat) : Value := .pointer (some ⟨g, 0, none⟩)
abbrev nod0 : Array Value := #[S [], .int .i64 0, S [], .pointer none, .slice none 0 0]
abbrev nodZ : Array Value := #[.string ⟨#[]⟩, .int .i64 0, .string ⟨#[]⟩, .pointer none, .slice none 0 0]
abbrev leafA (v : Str) (p : Int) : Array Value := #[S v, .int .i64 p, S [], .pointer none, .slice none 0 0]
set_option maxRecDepth 100000 in
theorem add_leaf {w : World} {b g : Nat} {t : TypeId} (v : Str) (p : Int) (h : Cs w b t nod0) :
    Calls Tryz.prog 196 #[rpt b, S [], S v, .int .i64 p, rpt g] w fun e w' => e = .returned (.tuple #[]) ∧ Cs w' b t (leafA v p) ∧ Only (fun x => x = b) w w' := by
  have c0 : w.cell? ⟨b, 0, none⟩ = some (S []) := h.cell 0
  have c1 : w.cell? ⟨b, 1, none⟩ = some (.int .i64 0) := h.cell 1
  have f0 := h.frozen 0
  have f1 := h.frozen 1
  have HC : Hid (Cs ((w.setCell ⟨b, 0, none⟩ (S v)).setCell ⟨b, 1, none⟩ (.int .i64 p)) b t (leafA v p)) := (h.set_ 0 (S v)).set_ 1 (.int .i64 p)
  have HO : Hid (Only (fun x => x = b) w ((w.setCell ⟨b, 0, none⟩ (S v)).setCell ⟨b, 1, none⟩ (.int .i64 p))) := ((Only.refl _ w).at_ 0 _).at_ 1 _
  clear h
  go_enter Tryz.func196, Tryz.ntmps196
  go_wp2_with fail
  refine bodyPost_ret (results_none rfl _ _ _) rfl ?_
  exact ⟨rfl, HC.out, HO.out⟩
set_option maxRecDepth 100000 in
set_option maxHeartbeats 1000000 in
theorem add_new {w : World} {b g : Nat} {t : TypeId} {c : UInt8} {r : Str} (v : Str) (p : Int) (h : Cs w b t nod0) :
    Calls Tryz.prog 196 #[rpt b, S (c :: r), S v, .int .i64 p, rpt g] w fun e w' => e = .returned (.tuple #[]) ∧ ∃ k, w.heap.size ≤ k ∧ Cs w' b t #[S [], .int .i64 0, S (c :: r), rpt k, .slice none 0 0] ∧ Cs w' k nodT (leafA v p) ∧ Only (fun x => x = b) w w' := by
  have c2 : w.cell? ⟨b, 2, none⟩ = some (S []) := h.cell 2
  have c3 : w.cell? ⟨b, 3, none⟩ = some (.pointer none) := h.cell 3
  have c4 : w.cell? ⟨b, 4, none⟩ = some (.slice none 0 0) := h.cell 4
  have f2 := h.frozen 2
  have f3 := h.frozen 3
  obtain ⟨w1, hw1⟩ : ∃ u, u = w.setCell ⟨b, 2, none⟩ (S (c :: r)) := ⟨_, rfl⟩
  have h1 : Cs w1 b t #[S [], .int .i64 0, S (c :: r), .pointer none, .slice none 0 0] := by rw [hw1]; exact h.set_ 2 _
  have x1 : Only (fun x => x = b) w w1 := by rw [hw1]; exact (Only.refl _ w).at_ 2 _
  obtain ⟨k, hk⟩ : ∃ k, k = w1.heap.size := ⟨_, rfl⟩
  obtain ⟨w2, hw2⟩ : ∃ u, u = (w1.alloc (.cells #[.string ⟨#[]⟩, .int .i64 0, .string ⟨#[]⟩, .pointer none, .slice none 0 0] nodT)).setCell ⟨b, 3, none⟩ (.pointer (some ⟨w1.heap.size, 0, none⟩)) := ⟨_, rfl⟩
  have h2 : Cs w2 b t #[S [], .int .i64 0, S (c :: r), rpt k, .slice none 0 0] := by rw [hw2, hk]; exact (h1.alloc _).set_ 3 _
  have hkb : k ≠ b := by have := h1.lt; omega
  have hk2 : Cs w2 k nodT nod0 := by rw [hw2, hk]; exact (Cs.new w1 nodT nodZ).far (by rw [← hk]; exact hkb) _
  have x2 : Only (fun x => x = b) w w2 := by rw [hw2]; exact (x1.alloc _).at_ 3 _
  have d3 : ∀ o, (w1.alloc o).cell? ⟨b, 3, none⟩ = some (.pointer none) := fun o => (h1.alloc o).cell 3
  have z3 : ∀ o, (w1.alloc o).frozen? ⟨b, 3, none⟩ = false := fun o => (h1.alloc o).frozen 3
  have e3 : w2.cell? ⟨b, 3, none⟩ = some (rpt k) := h2.cell 3
  have HL := Lib.hid (add_leaf (g := g) v p hk2)
  have HX := Lib.hid (And.intro h2 (And.intro x2 x1.size))
  clear h h1 x1 h2 hk2 x2
  go_enter Tryz.func196, Tryz.ntmps196
  go_upto_region 33 with fail
  rw [← hw1]
  clear hw1
  go_upto_region 34 with fail
  rw [← hw2]
  have HK := Lib.hid hk
  clear hw2 c2 c3 d3 hk
  go_wp2_with fail
  refine HL.out.mono ?_
  rintro e w3 ⟨rfl, hl, ho⟩
  go_wp2_with fail
  go_end0
  exact ⟨rfl, k, by rw [HK.out]; exact HX.out.2.2, HX.out.1.keep ho (fun e => hkb e.symm), hl, HX.out.2.1.trans ho fun x hx e => by have e : x = k := e; have := HX.out.2.2; have := HK.out; omega⟩
theorem ptab_info : (Tryz.prog.info? pnT).map (fun i => (i.zero, i.size, i.bytes)) = some (some (.pointer none), 1, 8) := by kernel_rfl
theorem make_ptrs (w : World) : (Instr.makeSlice 260 (.int .i64 5) (.int .i64 5)).run Tryz.prog w =
    .ok (.slice (some ⟨w.heap.size, 0, none⟩) 5 5) (w.alloc (.cells #[.pointer none, .pointer none, .pointer none, .pointer none, .pointer none] pnT)) := by
  obtain ⟨i0, hi, hz, h1, h2⟩ := info_parts ptab_info
  have hr := run_make (P := Tryz.prog) w 260 pnT i0 (.pointer none) Tryz.underlying260 hi hz .i64 .i64 5 5 (by omega) (by omega) (by rw [h2]; omega) (by omega)
  rw [hr, h1, show madeCells (Value.pointer none).cells (Int.toNat 5 * 1) = #[.pointer none, .pointer none, .pointer none, .pointer none, .pointer none] from by kernel_rfl]
  rfl
theorem nil5_at {m : Nat} (h : m < 5) : (#[.pointer none, .pointer none, .pointer none, .pointer none, .pointer none] : Array Value)[m]? = some (.pointer none) := by
  match m, h with
  | 0, _ => rfl
  | 1, _ => rfl
  | 2, _ => rfl
  | 3, _ => rfl
  | 4, _ => rfl
abbrev nils5 : Array Value := #[.pointer none, .pointer none, .pointer none, .pointer none, .pointer none]
set_option maxRecDepth 100000 in
set_option maxHeartbeats 1000000 in
theorem add_split {w : World} {b g k0 mx mc : Nat} {t : TypeId} {gs : Array Value} {x c : UInt8} (v : Str) (p : Int) (hxc : x ≠ c) (hmx : mx < 5) (hmc : mc < 5) (hbg : b ≠ g)
    (h : Cs w b t #[S [], .int .i64 0, S [x], rpt k0, .slice none 0 0]) (hg : Cs w g genT gs) (g5 : gs[5]? = some (.int .i64 5)) (gx : gs[6 + x.toNat]? = some (.int .u8 mx)) (gc : gs[6 + c.toNat]? = some (.int .u8 mc)) :
    Calls Tryz.prog 196 #[rpt b, S [c], S v, .int .i64 p, rpt g] w fun e w' => e = .returned (.tuple #[]) ∧ ∃ k tb, w.heap.size ≤ k ∧ w.heap.size ≤ tb ∧ k ≠ tb ∧
      Cs w' b t #[S [], .int .i64 0, S [], .pointer none, .slice (some ⟨tb, 0, none⟩) 5 5] ∧ Cs w' tb pnT ((nils5.setIfInBounds mx (rpt k0)).setIfInBounds mc (rpt k)) ∧ Cs w' k nodT (leafA v p) ∧ Only (fun x => x = b) w w' := by
  have c2 : w.cell? ⟨b, 2, none⟩ = some (S [x]) := h.cell 2
  have c3 : w.cell? ⟨b, 3, none⟩ = some (rpt k0) := h.cell 3
  have c4 : w.cell? ⟨b, 4, none⟩ = some (.slice none 0 0) := h.cell 4
  have hne : (((x.toNat : Nat) : Int) == ((c.toNat : Nat) : Int)) = false := by
    rw [beq_eq_false_iff_ne]
    intro e
    exact hxc (UInt8.toNat_inj.1 (Int.ofNat.inj e))
  have d2 : ∀ ξ : X w No, ξ.v.cell? ⟨b, 2, none⟩ = some (S [x]) := h.x id 2
  have H := Lib.hid h
  have HG := Lib.hid hg
  clear h hg
  go_enter Tryz.func196, Tryz.ntmps196
  go_wp2_with fail
  go_loopw [10] (fun i wr => i = .int .i64 0 ∧ wr = w) (fun _ _ => 0)
  case atStart => exact ⟨rfl, rfl⟩
  case round =>
    obtain ⟨rfl, rfl⟩ := hrel
    go_upto_region 8 with fail
    (refine Mix.wp_draw [] 100 (Cl (wr) (No)) (by kernel_rfl) (by kernel_rfl) (Cl.drew_ (X.here wr No)) ?_; (repeat' (first | (refine Mix.lex_quiet0 rfl rfl rfl ?_; intro K hK; go_big_quiet_op; go_big_quiet_on) | (refine Mix.lex_quietG rfl rfl rfl (by with_reducible rfl) rfl rfl ?_; intro K hK; go_big_quiet_op; go_big_quiet_on) | ((first | refine Mix.lex_skipT rfl rfl rfl (by with_reducible rfl) ?_ | refine Mix.lex_skipF rfl rfl rfl (by with_reducible rfl) ?_ | refine Mix.lex_skipU rfl rfl rfl (by with_reducible rfl) ?_); simp only [Act.put, List.setIfInBounds_toArray, List.set_cons_succ, List.set_cons_zero]) | (refine Mix.lex_part rfl rfl rfl rfl (fun hq => ?_) (fun hq => ?_) <;> (fail_if_success (guard_hyp hq :ₛ true = true)) <;> (fail_if_success (guard_hyp hq :ₛ false = false)) <;> first | (exfalso; cases hq; done) | (exfalso; simp only [decide_eq_true_eq, decide_eq_false_iff_not, beq_iff_eq, beq_eq_false_iff_ne, ne_eq, Int.not_lt, Int.not_le] at hq; omega) | simp only [Act.put, List.setIfInBounds_toArray, List.set_cons_succ, List.set_cons_zero]))))
    all_goals (refine Mix.lex_nil ?_)
    go_upto_region 17 with fail
    obtain ⟨w1, hw1⟩ : ∃ u, u = (wr.alloc (.cells #[.string ⟨#[]⟩, .int .i64 0, .string ⟨#[]⟩, .pointer none, .slice none 0 0] nodT)).drew := ⟨_, rfl⟩
    obtain ⟨k, hk⟩ : ∃ k, k = wr.heap.size := ⟨_, rfl⟩
    rw [← hw1, ← hk]
    have x1 : Ext wr w1 := by rw [hw1]; exact ((Only.refl No wr).alloc _).drew
    have h1 := H.out.keep x1 id
    have g1 := HG.out.keep x1 id
    have k1 : Cs w1 k nodT nod0 := by rw [hw1, hk]; exact (Cs.new wr nodT nodZ).drew
    have hkb : k ≠ b := by have := H.out.lt; omega
    have e5 : w1.cell? ⟨g, 5, none⟩ = some (.int .i64 5) := (g1.cell 5).trans g5
    have d4 : ∀ o, (w1.alloc o).cell? ⟨b, 4, none⟩ = some (.slice none 0 0) := fun o => (h1.alloc o).cell 4
    have z4 : ∀ o, (w1.alloc o).frozen? ⟨b, 4, none⟩ = false := fun o => (h1.alloc o).frozen 4
    have HK := Lib.hid hk
    have HX1 := Lib.hid (And.intro h1 (And.intro g1 (And.intro k1 x1)))
    clear hw1 hk x1 h1 g1 k1 c2 c3 c4 d2
    have HM := make_ptrs w1
    go_upto_region 18 with fail
    obtain ⟨w2, hw2⟩ : ∃ u, u = (w1.alloc (.cells #[.pointer none, .pointer none, .pointer none, .pointer none, .pointer none] pnT)).setCell ⟨b, 4, none⟩ (.slice (some ⟨w1.heap.size, 0, none⟩) 5 5) := ⟨_, rfl⟩
    obtain ⟨tb, htb⟩ : ∃ k, k = w1.heap.size := ⟨_, rfl⟩
    rw [← hw2]
    have htbb : tb ≠ b := by have := HX1.out.1.lt; omega
    have htbg : tb ≠ g := by have := HX1.out.2.1.lt; omega
    have htbk : k ≠ tb := by have := HX1.out.2.2.1.lt; omega
    have x2 : Only (fun y => y = b) w1 w2 := by rw [hw2]; exact ((Only.refl _ w1).alloc _).at_ 4 _
    have h2 : Cs w2 b t #[S [], .int .i64 0, S [x], rpt k0, .slice (some ⟨tb, 0, none⟩) 5 5] := by rw [hw2, htb]; exact (HX1.out.1.alloc _).set_ 4 _
    have g2 : Cs w2 g genT gs := HX1.out.2.1.keep x2 (fun e => hbg e.symm)
    have k2 : Cs w2 k nodT nod0 := HX1.out.2.2.1.keep x2 hkb
    have t2 : Cs w2 tb pnT nils5 := by rw [hw2, htb]; exact (Cs.new w1 pnT _).far (by rw [← htb]; exact htbb) _
    have HX2 := Lib.hid (And.intro h2 (And.intro g2 (And.intro k2 (And.intro t2 x2))))
    have HTB := Lib.hid htb
    clear hw2 htb HM x2 h2 g2 k2 t2 e5 d4 z4
    have q4 : ∀ ξ : X w2 (fun y => y = tb), ξ.v.cell? ⟨b, 4, none⟩ = some (.slice (some ⟨tb, 0, none⟩) 5 5) := HX2.out.1.x (fun e => htbb e.symm) 4
    have q2 : ∀ ξ : X w2 (fun y => y = tb), ξ.v.cell? ⟨b, 2, none⟩ = some (S [x]) := HX2.out.1.x (fun e => htbb e.symm) 2
    have qx : ∀ ξ : X w2 (fun y => y = tb), ξ.v.cell? ⟨g, 6 + x.toNat, none⟩ = some (.int .u8 mx) := fun ξ => (HX2.out.2.1.x (F := fun y => y = tb) (fun e => htbg e.symm) (6 + x.toNat) ξ).trans gx
    have hx8 : x.toNat < 256 := x.toNat_lt
    have hc8 : c.toNat < 256 := c.toNat_lt
    (refine Mix.wp_draw [16] 16 (Cl (w2) ((fun y => y = tb))) (by kernel_rfl) (by kernel_rfl) (Cl.of (Only.refl _ _).drew) ?_; (repeat' (first | (refine Mix.lex_quiet0 rfl rfl rfl ?_; intro K hK; go_big_quiet_op; go_big_quiet_on) | (refine Mix.lex_quietG rfl rfl rfl (by with_reducible rfl) rfl rfl ?_; intro K hK; go_big_quiet_op; go_big_quiet_on) | ((first | refine Mix.lex_skipT rfl rfl rfl (by with_reducible rfl) ?_ | refine Mix.lex_skipF rfl rfl rfl (by with_reducible rfl) ?_ | refine Mix.lex_skipU rfl rfl rfl (by with_reducible rfl) ?_); simp only [Act.put, List.setIfInBounds_toArray, List.set_cons_succ, List.set_cons_zero]) | (refine Mix.lex_part rfl rfl rfl rfl (fun hq => ?_) (fun hq => ?_) <;> (fail_if_success (guard_hyp hq :ₛ true = true)) <;> (fail_if_success (guard_hyp hq :ₛ false = false)) <;> first | (exfalso; cases hq; done) | (exfalso; simp only [decide_eq_true_eq, decide_eq_false_iff_not, beq_iff_eq, beq_eq_false_iff_ne, ne_eq, Int.not_lt, Int.not_le] at hq; omega) | simp only [Act.put, List.setIfInBounds_toArray, List.set_cons_succ, List.set_cons_zero]))))
    have s1 : w2.drew.cell? ⟨tb, mx, none⟩ = some (.pointer none) := (HX2.out.2.2.2.1.drew.cell mx).trans (nil5_at hmx)
    have s2 : w2.drew.frozen? ⟨tb, mx, none⟩ = false := HX2.out.2.2.2.1.drew.frozen mx
    ((first | refine Mix.lex_goes0 rfl rfl ?_ | refine Mix.lex_goesG rfl rfl rfl (by with_reducible rfl) rfl ?_); intro K hK; go_simp)
    obtain ⟨w3, hw3⟩ : ∃ u, u = (w2.setCell ⟨tb, mx, none⟩ (rpt k0)).drew := ⟨_, rfl⟩
    rw [← hw3]
    refine hK _ _ (fun hne => absurd rfl hne) ?_
    clear hK K
    simp only [Act.put, List.setIfInBounds_toArray, List.set_cons_succ, List.set_cons_zero]
    refine Mix.lex_nil ?_
    have x3 : Only (fun y => y = tb) w2 w3 := by rw [hw3]; exact ((Only.refl _ w2).at_ mx _).drew
    have h3 := HX2.out.1.keep x3 (fun e => htbb e.symm)
    have g3 := HX2.out.2.1.keep x3 (fun e => htbg e.symm)
    have k3 := HX2.out.2.2.1.keep x3 htbk
    have t3 : Cs w3 tb pnT (nils5.setIfInBounds mx (rpt k0)) := by rw [hw3]; exact (HX2.out.2.2.2.1.set_ mx _).drew
    have HX3 := Lib.hid (And.intro h3 (And.intro g3 (And.intro k3 (And.intro t3 x3))))
    clear hw3 x3 h3 g3 k3 t3 q4 q2 qx s1 s2
    have q4 : ∀ ξ : X w3 (fun y => y = tb), ξ.v.cell? ⟨b, 4, none⟩ = some (.slice (some ⟨tb, 0, none⟩) 5 5) := HX3.out.1.x (fun e => htbb e.symm) 4
    have qc : ∀ ξ : X w3 (fun y => y = tb), ξ.v.cell? ⟨g, 6 + c.toNat, none⟩ = some (.int .u8 mc) := fun ξ => (HX3.out.2.1.x (F := fun y => y = tb) (fun e => htbg e.symm) (6 + c.toNat) ξ).trans gc
    go_upto_region 19 with fail
    (refine Mix.wp_draw [13] 13 (Cl (w3) ((fun y => y = tb))) (by kernel_rfl) (by kernel_rfl) (Cl.of (Only.refl _ _).drew) ?_; (repeat' (first | (refine Mix.lex_quiet0 rfl rfl rfl ?_; intro K hK; go_big_quiet_op; go_big_quiet_on) | (refine Mix.lex_quietG rfl rfl rfl (by with_reducible rfl) rfl rfl ?_; intro K hK; go_big_quiet_op; go_big_quiet_on) | ((first | refine Mix.lex_skipT rfl rfl rfl (by with_reducible rfl) ?_ | refine Mix.lex_skipF rfl rfl rfl (by with_reducible rfl) ?_ | refine Mix.lex_skipU rfl rfl rfl (by with_reducible rfl) ?_); simp only [Act.put, List.setIfInBounds_toArray, List.set_cons_succ, List.set_cons_zero]) | (refine Mix.lex_part rfl rfl rfl rfl (fun hq => ?_) (fun hq => ?_) <;> (fail_if_success (guard_hyp hq :ₛ true = true)) <;> (fail_if_success (guard_hyp hq :ₛ false = false)) <;> first | (exfalso; cases hq; done) | (exfalso; simp only [decide_eq_true_eq, decide_eq_false_iff_not, beq_iff_eq, beq_eq_false_iff_ne, ne_eq, Int.not_lt, Int.not_le] at hq; omega) | simp only [Act.put, List.setIfInBounds_toArray, List.set_cons_succ, List.set_cons_zero]))))
    have s1 : ∃ u, w3.drew.cell? ⟨tb, mc, none⟩ = some u := by
      rw [HX3.out.2.2.2.1.drew.cell mc]
      exact ⟨_, Array.getElem?_eq_getElem (by rw [Array.size_setIfInBounds]; exact hmc)⟩
    obtain ⟨u, s1⟩ := s1
    have s2 : w3.drew.frozen? ⟨tb, mc, none⟩ = false := HX3.out.2.2.2.1.drew.frozen mc
    ((first | refine Mix.lex_goes0 rfl rfl ?_ | refine Mix.lex_goesG rfl rfl rfl (by with_reducible rfl) rfl ?_); intro K hK; go_simp)
    obtain ⟨w4, hw4⟩ : ∃ u, u = (w3.setCell ⟨tb, mc, none⟩ (rpt k)).drew := ⟨_, rfl⟩
    rw [← hw4]
    refine hK _ _ (fun hne => absurd rfl hne) ?_
    clear hK K
    simp only [Act.put, List.setIfInBounds_toArray, List.set_cons_succ, List.set_cons_zero]
    refine Mix.lex_nil ?_
    have x4 : Only (fun y => y = tb) w3 w4 := by rw [hw4]; exact ((Only.refl _ w3).at_ mc _).drew
    have h4 := HX3.out.1.keep x4 (fun e => htbb e.symm)
    have k4 := HX3.out.2.2.1.keep x4 htbk
    have t4 : Cs w4 tb pnT ((nils5.setIfInBounds mx (rpt k0)).setIfInBounds mc (rpt k)) := by rw [hw4]; exact (HX3.out.2.2.2.1.set_ mc _).drew
    have e2 : w4.cell? ⟨b, 2, none⟩ = some (S [x]) := h4.cell 2
    have e3 : w4.cell? ⟨b, 3, none⟩ = some (rpt k0) := h4.cell 3
    have z2 := h4.frozen 2
    have z3 := h4.frozen 3
    obtain ⟨w5, hw5⟩ : ∃ u, u = (w4.setCell ⟨b, 2, none⟩ (.string ⟨#[]⟩)).setCell ⟨b, 3, none⟩ (.pointer none) := ⟨_, rfl⟩
    have x5 : Only (fun y => y = b) w4 w5 := by rw [hw5]; exact ((Only.refl _ w4).at_ 2 _).at_ 3 _
    have h5 : Cs w5 b t #[S [], .int .i64 0, S [], .pointer none, .slice (some ⟨tb, 0, none⟩) 5 5] := by rw [hw5]; exact (h4.set_ 2 _).set_ 3 _
    have k5 := k4.keep x5 hkb
    have t5 := t4.keep x5 htbb
    have HL := Lib.hid (add_leaf (g := g) v p k5)
    have HX5 := Lib.hid (And.intro h5 (And.intro t5 (And.intro x4 x5)))
    clear hw4 x4 h4 k4 t4 q4 qc s1 s2 x5 h5 k5 t5
    go_upto_region 22 with fail
    rw [← hw5]
    clear hw5
    go_wp2_with fail
    refine HL.out.mono ?_
    rintro e w6 ⟨rfl, hl, ho⟩
    go_wp2_with fail
    go_end0
    have hs1 := HX1.out.2.2.2.size
    have hk0 := HK.out
    have htb := HTB.out
    refine ⟨rfl, k, tb, by omega, by omega, htbk, HX5.out.1.keep ho (fun e => hkb e.symm), HX5.out.2.1.keep ho (fun e => htbk e.symm), hl, ?_⟩
    have o1 : Only (fun y => y = b) wr w2 := HX1.out.2.2.2.any.trans HX2.out.2.2.2.2 fun y hy e => e
    have o2 : Only (fun y => y = b) wr w3 := o1.trans HX3.out.2.2.2.2 fun y hy e => by have e : y = tb := e; omega
    have o3 : Only (fun y => y = b) wr w4 := o2.trans HX5.out.2.2.1 fun y hy e => by have e : y = tb := e; omega
    have o4 : Only (fun y => y = b) wr w5 := o3.trans HX5.out.2.2.2 fun y hy e => e
    exact o4.trans ho fun y hy e => by have e : y = k := e; omega
set_option maxRecDepth 100000 in
set_option maxHeartbeats 1000000 in
theorem add_old {w : World} {b g tb n m : Nat} {t : TypeId} {bs ts gs : Array Value} {c : UInt8} {r : Str} (v : Str) (p : Int) {Q : World → Prop} (hm : m < 5)
    (h : Cs w b t bs) (h2 : bs[2]? = some (S [])) (h4 : bs[4]? = some (.slice (some ⟨tb, 0, none⟩) 5 5)) (ht : Cs w tb pnT ts) (hn : ts[m]? = some (rpt n)) (hg : Cs w g genT gs) (gc : gs[6 + c.toNat]? = some (.int .u8 m))
    (hrec : ∀ u, Ext w u → Calls Tryz.prog 196 #[rpt n, S r, S v, .int .i64 p, rpt g] u fun e w' => e = .returned (.tuple #[]) ∧ Q w') :
    Calls Tryz.prog 196 #[rpt b, S (c :: r), S v, .int .i64 p, rpt g] w fun e w' => e = .returned (.tuple #[]) ∧ Q w' := by
  have c1 : w.cell? ⟨b, 2, none⟩ = some (S []) := (h.cell 2).trans h2
  have c4 : ∀ ξ : X w No, ξ.v.cell? ⟨b, 4, none⟩ = some (.slice (some ⟨tb, 0, none⟩) 5 5) := fun ξ => (h.x (F := No) id 4 ξ).trans h4
  have cm : ∀ ξ : X w No, ξ.v.cell? ⟨g, 6 + c.toNat, none⟩ = some (.int .u8 m) := fun ξ => (hg.x (F := No) id (6 + c.toNat) ξ).trans gc
  have hc8 : c.toNat < 256 := c.toNat_lt
  have cn : ∀ ξ : X w No, ξ.v.cell? ⟨tb, m, none⟩ = some (rpt n) := fun ξ => (ht.x (F := No) id m ξ).trans hn
  have c4' : w.cell? ⟨b, 4, none⟩ = some (.slice (some ⟨tb, 0, none⟩) 5 5) := c4 (X.here w No)
  have cn' : w.cell? ⟨tb, m, none⟩ = some (rpt n) := cn (X.here w No)
  have HR := Lib.hid hrec
  clear h h2 h4 ht hn hg gc hrec
  go_enter Tryz.func196, Tryz.ntmps196
  go_upto_region 28 with fail
  (refine Mix.wp_draw [] 100 (Cl (w) (No)) (by kernel_rfl) (by kernel_rfl) (Cl.drew_ (X.here w No)) ?_; (repeat' (first | (refine Mix.lex_quiet0 rfl rfl rfl ?_; intro K hK; go_big_quiet_op; go_big_quiet_on) | (refine Mix.lex_quietG rfl rfl rfl (by with_reducible rfl) rfl rfl ?_; intro K hK; go_big_quiet_op; go_big_quiet_on) | ((first | refine Mix.lex_skipT rfl rfl rfl (by with_reducible rfl) ?_ | refine Mix.lex_skipF rfl rfl rfl (by with_reducible rfl) ?_ | refine Mix.lex_skipU rfl rfl rfl (by with_reducible rfl) ?_); simp only [Act.put, List.setIfInBounds_toArray, List.set_cons_succ, List.set_cons_zero]) | (refine Mix.lex_part rfl rfl rfl rfl (fun hq => ?_) (fun hq => ?_) <;> (fail_if_success (guard_hyp hq :ₛ true = true)) <;> (fail_if_success (guard_hyp hq :ₛ false = false)) <;> first | (exfalso; cases hq; done) | (exfalso; simp only [decide_eq_true_eq, decide_eq_false_iff_not, beq_iff_eq, beq_eq_false_iff_ne, ne_eq, Int.not_lt, Int.not_le] at hq; omega) | simp only [Act.put, List.setIfInBounds_toArray, List.set_cons_succ, List.set_cons_zero]))))
  all_goals (refine Mix.lex_nil ?_)
  go_upto_region 31 with fail
  (refine Mix.wp_draw [12] 12 (Cl (w) (No)) (by kernel_rfl) (by kernel_rfl) (Cl.of (Only.refl No w).drew.drew) ?_; (repeat' (first | (refine Mix.lex_quiet0 rfl rfl rfl ?_; intro K hK; go_big_quiet_op; go_big_quiet_on) | (refine Mix.lex_quietG rfl rfl rfl (by with_reducible rfl) rfl rfl ?_; intro K hK; go_big_quiet_op; go_big_quiet_on) | ((first | refine Mix.lex_skipT rfl rfl rfl (by with_reducible rfl) ?_ | refine Mix.lex_skipF rfl rfl rfl (by with_reducible rfl) ?_ | refine Mix.lex_skipU rfl rfl rfl (by with_reducible rfl) ?_); simp only [Act.put, List.setIfInBounds_toArray, List.set_cons_succ, List.set_cons_zero]) | (refine Mix.lex_part rfl rfl rfl rfl (fun hq => ?_) (fun hq => ?_) <;> (fail_if_success (guard_hyp hq :ₛ true = true)) <;> (fail_if_success (guard_hyp hq :ₛ false = false)) <;> first | (exfalso; cases hq; done) | (exfalso; simp only [decide_eq_true_eq, decide_eq_false_iff_not, beq_iff_eq, beq_eq_false_iff_ne, ne_eq, Int.not_lt, Int.not_le] at hq; omega) | simp only [Act.put, List.setIfInBounds_toArray, List.set_cons_succ, List.set_cons_zero]))))
  ((first | refine Mix.lex_goes0 rfl rfl ?_ | refine Mix.lex_goesG rfl rfl rfl (by with_reducible rfl) rfl ?_); intro K hK; go_simp)
  refine (HR.out _ (Only.refl No w).drew.drew).mono ?_
  rintro e w' ⟨rfl, hQ⟩
  refine ⟨_, rfl, hK _ _ (fun hne => absurd rfl hne) ?_⟩
  clear hK K
  simp only [Act.put, List.setIfInBounds_toArray, List.set_cons_succ, List.set_cons_zero]
  refine Mix.lex_nil ?_
  go_wp2_with fail
  go_end0
  exact ⟨rfl, hQ⟩
set_option maxRecDepth 100000 in
set_option maxHeartbeats 1000000 in
theorem add_nil {w : World} {b g tb m : Nat} {t : TypeId} {bs ts gs : Array Value} {c : UInt8} {r : Str} (v : Str) (p : Int) {Q : World → Prop} (hm : m < 5)
    (h : Cs w b t bs) (h2 : bs[2]? = some (S [])) (h4 : bs[4]? = some (.slice (some ⟨tb, 0, none⟩) 5 5)) (ht : Cs w tb pnT ts) (hn : ts[m]? = some (.pointer none)) (hbt : b ≠ tb) (hg : Cs w g genT gs) (gc : gs[6 + c.toNat]? = some (.int .u8 m))
    (hrec : ∀ u k, w.heap.size ≤ k → Only (fun x => x = tb) w u → Cs u tb pnT (ts.setIfInBounds m (rpt k)) → Cs u k nodT nod0 → Calls Tryz.prog 196 #[rpt k, S r, S v, .int .i64 p, rpt g] u fun e w' => e = .returned (.tuple #[]) ∧ Q w') :
    Calls Tryz.prog 196 #[rpt b, S (c :: r), S v, .int .i64 p, rpt g] w fun e w' => e = .returned (.tuple #[]) ∧ Q w' := by
  have c1 : w.cell? ⟨b, 2, none⟩ = some (S []) := (h.cell 2).trans h2
  have c4 : ∀ ξ : X w No, ξ.v.cell? ⟨b, 4, none⟩ = some (.slice (some ⟨tb, 0, none⟩) 5 5) := fun ξ => (h.x (F := No) id 4 ξ).trans h4
  have cm : ∀ ξ : X w No, ξ.v.cell? ⟨g, 6 + c.toNat, none⟩ = some (.int .u8 m) := fun ξ => (hg.x (F := No) id (6 + c.toNat) ξ).trans gc
  have hc8 : c.toNat < 256 := c.toNat_lt
  have cn : w.cell? ⟨tb, m, none⟩ = some (.pointer none) := (ht.cell m).trans hn
  have c4' : w.cell? ⟨b, 4, none⟩ = some (.slice (some ⟨tb, 0, none⟩) 5 5) := c4 (X.here w No)
  have HR := Lib.hid hrec
  go_enter Tryz.func196, Tryz.ntmps196
  go_upto_region 28 with fail
  (refine Mix.wp_draw [] 100 (Cl (w) (No)) (by kernel_rfl) (by kernel_rfl) (Cl.drew_ (X.here w No)) ?_; (repeat' (first | (refine Mix.lex_quiet0 rfl rfl rfl ?_; intro K hK; go_big_quiet_op; go_big_quiet_on) | (refine Mix.lex_quietG rfl rfl rfl (by with_reducible rfl) rfl rfl ?_; intro K hK; go_big_quiet_op; go_big_quiet_on) | ((first | refine Mix.lex_skipT rfl rfl rfl (by with_reducible rfl) ?_ | refine Mix.lex_skipF rfl rfl rfl (by with_reducible rfl) ?_ | refine Mix.lex_skipU rfl rfl rfl (by with_reducible rfl) ?_); simp only [Act.put, List.setIfInBounds_toArray, List.set_cons_succ, List.set_cons_zero]) | (refine Mix.lex_part rfl rfl rfl rfl (fun hq => ?_) (fun hq => ?_) <;> (fail_if_success (guard_hyp hq :ₛ true = true)) <;> (fail_if_success (guard_hyp hq :ₛ false = false)) <;> first | (exfalso; cases hq; done) | (exfalso; simp only [decide_eq_true_eq, decide_eq_false_iff_not, beq_iff_eq, beq_eq_false_iff_ne, ne_eq, Int.not_lt, Int.not_le] at hq; omega) | simp only [Act.put, List.setIfInBounds_toArray, List.set_cons_succ, List.set_cons_zero]))))
  all_goals (refine Mix.lex_nil ?_)
  obtain ⟨w1, hw1⟩ : ∃ u, u = w.drew := ⟨_, rfl⟩
  have x1 : Ext w w1 := by rw [hw1]; exact (Only.refl No w).drew
  have t1 := ht.keep x1 id
  have b1 := h.keep x1 id
  rw [← hw1]
  have e4 : ∀ o, (w1.alloc o).cell? ⟨b, 4, none⟩ = some (.slice (some ⟨tb, 0, none⟩) 5 5) := fun o => ((b1.alloc o).cell 4).trans h4
  have f4 : w1.cell? ⟨b, 4, none⟩ = some (.slice (some ⟨tb, 0, none⟩) 5 5) := (b1.cell 4).trans h4
  have em : ∀ o, (w1.alloc o).cell? ⟨tb, m, none⟩ = some (.pointer none) := fun o => ((t1.alloc o).cell m).trans hn
  have fm : w1.cell? ⟨tb, m, none⟩ = some (.pointer none) := (t1.cell m).trans hn
  have zm : ∀ o, (w1.alloc o).frozen? ⟨tb, m, none⟩ = false := fun o => (t1.alloc o).frozen m
  have HH := Lib.hid (And.intro b1 (And.intro t1 (And.intro x1 (And.intro h4 hn))))
  have HG := Lib.hid gc
  clear hw1 h h2 h4 ht hn hg gc hrec x1 t1 b1 c1 c4 cm cn c4'
  go_upto_region 31 with fail
  obtain ⟨w2, hw2⟩ : ∃ u, u = (w1.alloc (.cells #[.string ⟨#[]⟩, .int .i64 0, .string ⟨#[]⟩, .pointer none, .slice none 0 0] nodT)).setCell ⟨tb, m, none⟩ (.pointer (some ⟨w1.heap.size, 0, none⟩)) := ⟨_, rfl⟩
  obtain ⟨k, hk⟩ : ∃ k, k = w1.heap.size := ⟨_, rfl⟩
  rw [← hw2]
  have hkt : k ≠ tb := by have := HH.out.2.1.lt; omega
  have x2 : Only (fun x => x = tb) w w2 := by rw [hw2]; exact ((HH.out.2.2.1.any).alloc _).at_ m _
  have b2 : Cs w2 b t bs := by rw [hw2]; exact (HH.out.1.alloc _).far hbt _
  have t2 : Cs w2 tb pnT (ts.setIfInBounds m (rpt k)) := by rw [hw2, hk]; exact (HH.out.2.1.alloc _).set_ m _
  have k2 : Cs w2 k nodT nod0 := by rw [hw2, hk]; exact (Cs.new w1 nodT nodZ).far (by rw [← hk]; exact hkt) _
  have hts : (ts.setIfInBounds m (rpt k))[m]? = some (rpt k) := by
    have hz : m < ts.size := (Array.getElem?_eq_some_iff.1 HH.out.2.2.2.2).1
    simp [Array.getElem?_setIfInBounds, hz]
  have HK := Lib.hid hk
  have hwk : w.heap.size ≤ k := by rw [HK.out]; exact HH.out.2.2.1.size
  clear hw2 hk e4 f4 em fm zm
  have c4 : ∀ ξ : X w2 No, ξ.v.cell? ⟨b, 4, none⟩ = some (.slice (some ⟨tb, 0, none⟩) 5 5) := fun ξ => (b2.x (F := No) id 4 ξ).trans HH.out.2.2.2.1
  have cn : ∀ ξ : X w2 No, ξ.v.cell? ⟨tb, m, none⟩ = some (rpt k) := fun ξ => (t2.x (F := No) id m ξ).trans hts
  (refine Mix.wp_draw [12] 12 (Cl (w2) (No)) (by kernel_rfl) (by kernel_rfl) (Cl.of (Only.refl No w2).drew) ?_; (repeat' (first | (refine Mix.lex_quiet0 rfl rfl rfl ?_; intro K hK; go_big_quiet_op; go_big_quiet_on) | (refine Mix.lex_quietG rfl rfl rfl (by with_reducible rfl) rfl rfl ?_; intro K hK; go_big_quiet_op; go_big_quiet_on) | ((first | refine Mix.lex_skipT rfl rfl rfl (by with_reducible rfl) ?_ | refine Mix.lex_skipF rfl rfl rfl (by with_reducible rfl) ?_ | refine Mix.lex_skipU rfl rfl rfl (by with_reducible rfl) ?_); simp only [Act.put, List.setIfInBounds_toArray, List.set_cons_succ, List.set_cons_zero]) | (refine Mix.lex_part rfl rfl rfl rfl (fun hq => ?_) (fun hq => ?_) <;> (fail_if_success (guard_hyp hq :ₛ true = true)) <;> (fail_if_success (guard_hyp hq :ₛ false = false)) <;> first | (exfalso; cases hq; done) | (exfalso; simp only [decide_eq_true_eq, decide_eq_false_iff_not, beq_iff_eq, beq_eq_false_iff_ne, ne_eq, Int.not_lt, Int.not_le] at hq; omega) | simp only [Act.put, List.setIfInBounds_toArray, List.set_cons_succ, List.set_cons_zero]))))
  ((first | refine Mix.lex_goes0 rfl rfl ?_ | refine Mix.lex_goesG rfl rfl rfl (by with_reducible rfl) rfl ?_); intro K hK; go_simp)
  refine (HR.out _ k hwk x2.drew t2.drew k2.drew).mono ?_
  rintro e w' ⟨rfl, hQ⟩
  refine ⟨_, rfl, hK _ _ (fun hne => absurd rfl hne) ?_⟩
  clear hK K
  simp only [Act.put, List.setIfInBounds_toArray, List.set_cons_succ, List.set_cons_zero]
  refine Mix.lex_nil ?_
  go_wp2_with fail
  go_end0
  exact ⟨rfl, hQ⟩
end Go.Proofs.YtnhaekifcieeoaaGreatDoor
