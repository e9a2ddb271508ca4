/- Put together: MkP, Gx1. -/
import Derived.Test.YtnhaekifcieeoaaGreatDoorMa17
import Derived.Test.YtnhaekifcieeoaaGreatDoorMa18
import Derived.Test.YtnhaekifcieeoaaGreatDoorMa15
import Derived.Test.YtnhaekifcieeoaaGreatDoorMa09
import Derived.Laws.ResultCell
import Derived.Test.YtnhaekifcieeoaaGreatDoorMa12
/- makefile.Parse. -/
namespace Go.Proofs.YtnhaekifcieeoaaGreatDoor
open Go Go.RowKit
theorem bodyPost_cell {P : Program} {fn : Func} {R : Ending → World → Prop} {a : Act} {w : World} {p u : Tmp} {ty : TypeId} {ad : Addr} {v : Value} (h : fn.results = #[.cell p ty, .tmp u])
    (hp : a.tmps.getD p undef = .pointer (some ad)) (hd : a.defers = []) (hl : (loadVar ty ad).run P w = .ok v w) (hR : R (.returned (.tuple #[v, a.tmps.getD u undef])) w) : bodyPost P fn R .ret a w := by
  refine bodyPost_ret (v := .tuple #[v, a.tmps.getD u undef]) ?_ hd hR
  rw [results_cell_tmp h, hp]
  simp [asAddr, Sem.run_pure, Result.andThen, hl]
theorem load_mk {w : World} {b : Nat} {x y z : Value} (h : Cs w b makeT #[x, y, z]) : (loadVar makeT ⟨b, 0, none⟩).run Tryz.prog w = .ok (.agg #[x, y, z]) w := by
  have c0 := h.cell 0
  have c1 := h.cell 1
  have c2 := h.cell 2
  simp only [List.getElem?_toArray, List.getElem?_cons_succ, List.getElem?_cons_zero] at c0 c1 c2
  go_simp
@[go_sem] theorem mk_build0 (w : World) : (Instr.build makeT #[]).run Tryz.prog w = .ok (.agg #[.slice none 0 0, .slice none 0 0, .slice none 0 0]) w := run_build w makeT _ _ (by kernel_rfl)
theorem Fresh.fin {α : Type} {T : Flat α} (hp : 0 < T.size) {t : TypeId} {w wr u : World} {A : Option Addr} {c : Nat} {F : Nat → Prop} {xs : List α} (h : Fresh T t w wr A c xs) (hx : Only F wr u) (hg : ∀ b, F b → b < w.heap.size) : SlR T u A xs.length xs :=
  SlR.of_own hp (own_keep h.own hx fun b hb e => by have := hg b e; have := h.new b hb; omega)
theorem MAt.fin {Q : List SRow} {w wr u : World} {g : Nat} {F : Nat → Prop} {v : MkV} {rs : List (RulA × Rul)} {m : Mk} (h : MAt Q w wr g v rs m) (hx : Only F wr u) (hg : ∀ b, F b → b < w.heap.size) : MakeR u v rs m := by
  refine ⟨h.fv.fin (by decide) hx hg, ?_, (h.ss.f ⟨v.pA, v.pc, m.phony⟩ (by simp)).fin (by decide) hx hg, fun x hm => ?_, h.rm⟩
  · have := h.fr.fin (by decide) hx hg
    rw [h.rl] at this
    exact this
  · have q : ∀ y ∈ rowsOf x, y ∈ Q ++ (⟨v.pA, v.pc, m.phony⟩ : SRow) :: rs.flatMap rowsOf := fun y hy => List.mem_append_right _ (List.mem_cons_of_mem _ (List.mem_flatMap.2 ⟨x, hm, hy⟩))
    exact ⟨(h.ss.f _ (q ⟨x.1.tA, x.1.tc, x.2.targets⟩ (by simp))).fin (by decide) hx hg, (h.ss.f _ (q ⟨x.1.nA, x.1.nc, x.2.needs⟩ (by simp))).fin (by decide) hx hg, (h.ss.f _ (q ⟨x.1.cA, x.1.cc, x.2.cmds⟩ (by simp))).fin (by decide) hx hg⟩
theorem MAt.mk0 {w wr : World} {g : Nat} {q : SRow} (hx : Ext w wr) (hg : w.heap.size ≤ g) (hc : Cs wr g makeT #[.slice none 0 0, .slice none 0 0, .slice none 0 0]) (hq : q.F w wr) : MAt [q] w wr g mkV0 [] mk0 := by
  refine ⟨hc, Fresh.nil _ _ _ _ hx, Fresh.nil _ _ _ _ hx, ⟨fun x hm => ?_, ?_⟩, rfl, hg⟩
  · rcases List.mem_cons.1 hm with rfl | hm
    · exact hq
    · obtain rfl := List.mem_singleton.1 hm
      exact Fresh.nil _ _ _ _ hx
  · refine List.pairwise_cons.2 ⟨fun y hy => ?_, List.pairwise_singleton _ _⟩
    obtain rfl := List.mem_singleton.1 hy
    intro g _ h2
    simp [SRow.own, Value.ownBlock] at h2
theorem parseF_fit (s : Str) : (parseF s).1.Fit 700 := by
  have h0 : mk0.Fit 700 := ⟨mk0_fit.v, mk0_fit.vt, mk0_fit.r, mk0_fit.rt, Nat.zero_le _⟩
  unfold parseF
  split
  · exact h0
  · rename_i hl
    split
    · exact h0
    · split
      · have := foldF_fit (splB 10 s) mk0 0 mk0_fit (fun l hx => by have := splB_mem 10 s l hx; omega)
        have h1 := splB_le 10 s
        exact ⟨this.v, this.vt, this.r, this.rt, by have := this.p; show (foldF (splB 10 s) mk0).1.phony.length ≤ 700; omega⟩
      · exact h0
theorem foldF_cons (l : Str) (ls : List Str) (m : Mk) : foldF (l :: ls) m = if (lineF m l).2 = 0 then foldF ls (lineF m l).1 else (mk0, (lineF m l).2) := rfl
def PrsRes (w : World) (R : Mk × Int) (e : Ending) (w' : World) : Prop := ∃ v rs, e = .returned (.tuple #[mkV v R.1, errV R.2]) ∧ (∀ (F : Nat → Prop) (u : World), (∀ b, F b → b < w.heap.size) → Only F w' u → MakeR u v rs R.1) ∧ Ext w w'
set_option maxRecDepth 100000 in
set_option maxHeartbeats 4000000 in
theorem MkParse_any {w : World} (hm : Ml w) (s : Str) (hs : s.length ≤ 9223372036854775807) : Calls Tryz.prog 18 #[S s] w (PrsRes w (parseF s)) := by
  obtain ⟨g2, hg2⟩ : ∃ g, g = w.heap.size := ⟨_, rfl⟩
  obtain ⟨w1, hw1⟩ : ∃ w1, w1 = w.alloc (.cells #[.slice none 0 0, .slice none 0 0, .slice none 0 0] makeT) := ⟨_, rfl⟩
  have x1 : Ext w w1 := by rw [hw1]; exact (Only.refl No w).alloc _
  have C1 : Hid (Cs w1 g2 makeT #[.slice none 0 0, .slice none 0 0, .slice none 0 0]) := by rw [hw1, hg2]; exact Cs.new _ _ _
  have hz1 : g2 < w1.heap.size := by rw [hw1, hg2]; simp
  have hz0 : w.heap.size ≤ g2 := by omega
  have X1 := Lib.hid x1
  have HM := Lib.hid (hm.ext x1)
  have HX : Hid (∀ u v, Ext w1 u → Only (fun b => b = g2) u v → Ext w v) := fun u v h1 h2 => (x1.then_ext h1).trans h2 fun b hb e => by have e : b = g2 := e; omega
  have HP : Hid (parseF s = if 600 < s.length then (mk0, 2) else if (foldF (splB 10 s) mk0).2 ≠ 0 then (mk0, (foldF (splB 10 s) mk0).2) else if chkF (foldF (splB 10 s) mk0).1 = 0 then ((foldF (splB 10 s) mk0).1, 0) else (mk0, chkF (foldF (splB 10 s) mk0).1)) := rfl
  clear x1 hm
  by_cases hl : 600 < s.length
  · have g6 : decide ((600 : Int) < (s.length : Int)) = true := by rw [decide_eq_true_iff]; omega
    have HR := Lib.hid (HP.out.trans (if_pos hl))
    have e0 : w1.cell? ⟨g2, 0, none⟩ = some (.slice none 0 0) := C1.out.cell 0
    have e1 : w1.cell? ⟨g2, 1, none⟩ = some (.slice none 0 0) := C1.out.cell 1
    have e2 : w1.cell? ⟨g2, 2, none⟩ = some (.slice none 0 0) := C1.out.cell 2
    have z0 := C1.out.frozen 0
    have z1 := C1.out.frozen 1
    have z2 := C1.out.frozen 2
    have HO : Hid (∀ a b c, Only (fun b => b = g2) w1 (((w1.setCell ⟨g2, 0, none⟩ a).setCell ⟨g2, 1, none⟩ b).setCell ⟨g2, 2, none⟩ c)) := fun a b c => (((Only.refl _ _).at_ 0 a).at_ 1 b).at_ 2 c
    have HS : Hid (∀ a b c, Cs (((w1.setCell ⟨g2, 0, none⟩ a).setCell ⟨g2, 1, none⟩ b).setCell ⟨g2, 2, none⟩ c) g2 makeT #[a, b, c]) := fun a b c => ((C1.out.set_ 0 a).set_ 1 b).set_ 2 c
    go_enter Tryz.func18, Tryz.ntmps18
    go_upto_region 1 with fail
    rw [← hw1, ← hg2]
    clear hw1 hg2
    go_wp2_with (first | ((first | refine Mix.wpList_guarded rfl ?_ | refine Mix.wp_still (by kernel_rfl) (by kernel_rfl) ?_); (repeat' (first | (refine Mix.lex_quiet0 rfl rfl rfl ?_; intro K hK; go_big_quiet_op; go_big_quiet_on) | (refine Mix.lex_quietG rfl rfl rfl (by with_reducible rfl) rfl rfl ?_; intro K hK; go_big_quiet_op; go_big_quiet_on) | ((first | refine Mix.lex_skipT rfl rfl rfl (by with_reducible rfl) ?_ | refine Mix.lex_skipF rfl rfl rfl (by with_reducible rfl) ?_ | refine Mix.lex_skipU rfl rfl rfl (by with_reducible rfl) ?_); simp only [Act.put, List.setIfInBounds_toArray, List.set_cons_succ, List.set_cons_zero]) | (refine Mix.lex_part rfl rfl rfl rfl (fun hq => ?_) (fun hq => ?_) <;> (fail_if_success (guard_hyp hq :ₛ true = true)) <;> (fail_if_success (guard_hyp hq :ₛ false = false)) <;> first | (exfalso; cases hq; done) | (exfalso; simp only [decide_eq_true_eq, decide_eq_false_iff_not, beq_iff_eq, beq_eq_false_iff_ne, ne_eq, Int.not_lt, Int.not_le] at hq; omega) | simp only [Act.put, List.setIfInBounds_toArray, List.set_cons_succ, List.set_cons_zero]))); all_goals (refine Mix.lex_nil ?_)))
    refine bodyPost_cell rfl rfl rfl (load_mk (HS.out _ _ _)) ?_
    rw [HR.out]
    exact ⟨mkV0, [], rfl, fun _ _ _ _ => makeR0 _, HX.out _ _ (Only.refl _ _) (HO.out _ _ _)⟩
  · have g6 : decide ((600 : Int) < (s.length : Int)) = false := by rw [decide_eq_false_iff_not]; omega
    have HP2 := Lib.hid (HP.out.trans (if_neg hl))
    clear HP
    obtain ⟨g4, hg4⟩ : ∃ g, g = w1.heap.size := ⟨_, rfl⟩
    obtain ⟨w2, hw2⟩ : ∃ u, u = w1.alloc (.cells #[.slice none 0 0, .slice none 0 0, .slice none 0 0] makeT) := ⟨_, rfl⟩
    have x2 : Ext w1 w2 := by rw [hw2]; exact (Only.refl No w1).alloc _
    have C2 : Hid (Cs w2 g4 makeT #[.slice none 0 0, .slice none 0 0, .slice none 0 0]) := by
      rw [hw2, hg4]
      exact Cs.new _ _ _
    have hz4 : w1.heap.size ≤ g4 := Nat.le_of_eq hg4.symm
    have HSp := Lib.hid (Split_c s (by omega) 10 (HM.out.ext x2))
    have X2 := Lib.hid x2
    have hll : ∀ l ∈ splB 10 s, l.length ≤ 600 := fun l hx => by have := splB_mem 10 s l hx; omega
    have hsl := splB_le 10 s
    have HLl := Lib.hid hll
    clear x2 hll
    obtain ⟨ls, hls⟩ : ∃ l, l = splB 10 s := ⟨_, rfl⟩
    rw [← hls] at HSp HLl HP2 hsl
    clear hls
    go_enter Tryz.func18, Tryz.ntmps18
    go_upto_region 1 with fail
    rw [← hw1, ← hg2]
    clear hw1 hg2
    go_upto_region 4 with fail
    rw [← hw2, ← hg4]
    clear hw2 hg4
    go_wp2_with (first | ((first | refine Mix.wpList_guarded rfl ?_ | refine Mix.wp_still (by kernel_rfl) (by kernel_rfl) ?_); (repeat' (first | (refine Mix.lex_quiet0 rfl rfl rfl ?_; intro K hK; go_big_quiet_op; go_big_quiet_on) | (refine Mix.lex_quietG rfl rfl rfl (by with_reducible rfl) rfl rfl ?_; intro K hK; go_big_quiet_op; go_big_quiet_on) | ((first | refine Mix.lex_skipT rfl rfl rfl (by with_reducible rfl) ?_ | refine Mix.lex_skipF rfl rfl rfl (by with_reducible rfl) ?_ | refine Mix.lex_skipU rfl rfl rfl (by with_reducible rfl) ?_); simp only [Act.put, List.setIfInBounds_toArray, List.set_cons_succ, List.set_cons_zero]) | (refine Mix.lex_part rfl rfl rfl rfl (fun hq => ?_) (fun hq => ?_) <;> (fail_if_success (guard_hyp hq :ₛ true = true)) <;> (fail_if_success (guard_hyp hq :ₛ false = false)) <;> first | (exfalso; cases hq; done) | (exfalso; simp only [decide_eq_true_eq, decide_eq_false_iff_not, beq_iff_eq, beq_eq_false_iff_ne, ne_eq, Int.not_lt, Int.not_le] at hq; omega) | simp only [Act.put, List.setIfInBounds_toArray, List.set_cons_succ, List.set_cons_zero]))); all_goals (refine Mix.lex_nil ?_)))
    refine HSp.out.mono ?_
    rintro e w3 ⟨A3, c3, rfl, hF3⟩
    have P3 : Hid (MAt [⟨A3, c3, ls⟩] w1 w3 g4 mkV0 [] mk0) := MAt.mk0 (X2.out.then_ext hF3.ext) hz4 (C2.out.keep hF3.ext id) (Fresh.from hF3 X2.out)
    clear hF3 C2 HSp X2
    go_wp2_with (first | ((first | refine Mix.wpList_guarded rfl ?_ | refine Mix.wp_still (by kernel_rfl) (by kernel_rfl) ?_); (repeat' (first | (refine Mix.lex_quiet0 rfl rfl rfl ?_; intro K hK; go_big_quiet_op; go_big_quiet_on) | (refine Mix.lex_quietG rfl rfl rfl (by with_reducible rfl) rfl rfl ?_; intro K hK; go_big_quiet_op; go_big_quiet_on) | ((first | refine Mix.lex_skipT rfl rfl rfl (by with_reducible rfl) ?_ | refine Mix.lex_skipF rfl rfl rfl (by with_reducible rfl) ?_ | refine Mix.lex_skipU rfl rfl rfl (by with_reducible rfl) ?_); simp only [Act.put, List.setIfInBounds_toArray, List.set_cons_succ, List.set_cons_zero]) | (refine Mix.lex_part rfl rfl rfl rfl (fun hq => ?_) (fun hq => ?_) <;> (fail_if_success (guard_hyp hq :ₛ true = true)) <;> (fail_if_success (guard_hyp hq :ₛ false = false)) <;> first | (exfalso; cases hq; done) | (exfalso; simp only [decide_eq_true_eq, decide_eq_false_iff_not, beq_iff_eq, beq_eq_false_iff_ne, ne_eq, Int.not_lt, Int.not_le] at hq; omega) | simp only [Act.put, List.setIfInBounds_toArray, List.set_cons_succ, List.set_cons_zero]))); all_goals (refine Mix.lex_nil ?_)))
    go_loopw [18] (fun i wr => ∃ j : Nat, j ≤ ls.length ∧ i = .int .i64 j ∧ ∃ v rs m, MAt [⟨A3, c3, ls⟩] w1 wr g4 v rs m ∧ m.Fit j ∧ foldF ls mk0 = foldF (ls.drop j) m) (fun i _ => ls.length - (intOf i).toNat)
    case atStart => exact ⟨0, Nat.zero_le _, rfl, mkV0, [], mk0, P3.out, mk0_fit, rfl⟩
    case round =>
      clear P3
      obtain ⟨j, hj, rfl, v, rs, m, hP, hF, hO⟩ := hrel
      have P := Lib.hid hP
      have HFt := Lib.hid hF
      have HO0 := Lib.hid hO
      clear hP hF hO
      by_cases hlt : j < ls.length
      · have HRw := Lib.hid ((P.out.ss.f ⟨A3, c3, ls⟩ (by simp)).row (by decide))
        obtain ⟨b, o, l, rfl, hx, cx⟩ := strs_get HRw.out hlt
        have HX0 := Lib.hid hx
        have cx' : wr.cell? ⟨b, o + j, none⟩ = some (S l) := cx (X.here _ _)
        have hl6 : l.length ≤ 600 := HLl.out l (List.mem_of_getElem? HX0.out)
        have HLn := Lib.hid (Line_c HM.out P.out HFt.out (by omega) l hl6)
        have HFit := Lib.hid (lineF_fit HFt.out hl6)
        have HO2 : Hid (foldF ls mk0 = if (lineF m l).2 = 0 then foldF (ls.drop (j + 1)) (lineF m l).1 else (mk0, (lineF m l).2)) := by
          rw [Hid, HO0.out, drop_get HX0.out, foldF_cons]
        clear hx cx HO0 P HFt
        generalize lineF m l = R at HLn HFit HO2
        obtain ⟨m', er⟩ := R
        dsimp only at HO2 HFit
        go_wp2_with (first | ((first | refine Mix.wpList_guarded rfl ?_ | refine Mix.wp_still (by kernel_rfl) (by kernel_rfl) ?_); (repeat' (first | (refine Mix.lex_quiet0 rfl rfl rfl ?_; intro K hK; go_big_quiet_op; go_big_quiet_on) | (refine Mix.lex_quietG rfl rfl rfl (by with_reducible rfl) rfl rfl ?_; intro K hK; go_big_quiet_op; go_big_quiet_on) | ((first | refine Mix.lex_skipT rfl rfl rfl (by with_reducible rfl) ?_ | refine Mix.lex_skipF rfl rfl rfl (by with_reducible rfl) ?_ | refine Mix.lex_skipU rfl rfl rfl (by with_reducible rfl) ?_); simp only [Act.put, List.setIfInBounds_toArray, List.set_cons_succ, List.set_cons_zero]) | (refine Mix.lex_part rfl rfl rfl rfl (fun hq => ?_) (fun hq => ?_) <;> (fail_if_success (guard_hyp hq :ₛ true = true)) <;> (fail_if_success (guard_hyp hq :ₛ false = false)) <;> first | (exfalso; cases hq; done) | (exfalso; simp only [decide_eq_true_eq, decide_eq_false_iff_not, beq_iff_eq, beq_eq_false_iff_ne, ne_eq, Int.not_lt, Int.not_le] at hq; omega) | simp only [Act.put, List.setIfInBounds_toArray, List.set_cons_succ, List.set_cons_zero]))); all_goals (refine Mix.lex_nil ?_)))
        refine HLn.out.mono ?_
        rintro e u ⟨v', rs', rfl, hM⟩
        have P2 := Lib.hid hM
        clear hM HLn cx'
        by_cases he : er = 0
        · subst he
          rw [errV_zero]
          have HO3 : Hid (foldF ls mk0 = foldF (ls.drop (j + 1)) m') := HO2.out.trans (if_pos rfl)
          go_wp2_with (first | ((first | refine Mix.wpList_guarded rfl ?_ | refine Mix.wp_still (by kernel_rfl) (by kernel_rfl) ?_); (repeat' (first | (refine Mix.lex_quiet0 rfl rfl rfl ?_; intro K hK; go_big_quiet_op; go_big_quiet_on) | (refine Mix.lex_quietG rfl rfl rfl (by with_reducible rfl) rfl rfl ?_; intro K hK; go_big_quiet_op; go_big_quiet_on) | ((first | refine Mix.lex_skipT rfl rfl rfl (by with_reducible rfl) ?_ | refine Mix.lex_skipF rfl rfl rfl (by with_reducible rfl) ?_ | refine Mix.lex_skipU rfl rfl rfl (by with_reducible rfl) ?_); simp only [Act.put, List.setIfInBounds_toArray, List.set_cons_succ, List.set_cons_zero]) | (refine Mix.lex_part rfl rfl rfl rfl (fun hq => ?_) (fun hq => ?_) <;> (fail_if_success (guard_hyp hq :ₛ true = true)) <;> (fail_if_success (guard_hyp hq :ₛ false = false)) <;> first | (exfalso; cases hq; done) | (exfalso; simp only [decide_eq_true_eq, decide_eq_false_iff_not, beq_iff_eq, beq_eq_false_iff_ne, ne_eq, Int.not_lt, Int.not_le] at hq; omega) | simp only [Act.put, List.setIfInBounds_toArray, List.set_cons_succ, List.set_cons_zero]))); all_goals (refine Mix.lex_nil ?_)))
          go_roundw
          case rel => exact ⟨j + 1, by omega, by go_num, v', rs', m', P2.out, HFit.out, HO3.out⟩
          case measure => simp [intOf]; omega
        · have hpos := errV_pos he
          have HO3 : Hid (foldF ls mk0 = (mk0, er)) := HO2.out.trans (if_neg he)
          have HR : Hid (parseF s = (mk0, er)) := by
            rw [Hid, HP2.out, HO3.out]
            exact if_pos he
          have C2 := Lib.hid (C1.out.keep P2.out.x id)
          have HO : Hid (∀ a b c, Only (fun b => b = g2) u (((u.setCell ⟨g2, 0, none⟩ a).setCell ⟨g2, 1, none⟩ b).setCell ⟨g2, 2, none⟩ c)) := fun a b c => (((Only.refl _ _).at_ 0 a).at_ 1 b).at_ 2 c
          have HS : Hid (∀ a b c, Cs (((u.setCell ⟨g2, 0, none⟩ a).setCell ⟨g2, 1, none⟩ b).setCell ⟨g2, 2, none⟩ c) g2 makeT #[a, b, c]) := fun a b c => ((C2.out.set_ 0 a).set_ 1 b).set_ 2 c
          have e0 : u.cell? ⟨g2, 0, none⟩ = some (.slice none 0 0) := C2.out.cell 0
          have e1 : u.cell? ⟨g2, 1, none⟩ = some (.slice none 0 0) := C2.out.cell 1
          have e2 : u.cell? ⟨g2, 2, none⟩ = some (.slice none 0 0) := C2.out.cell 2
          have z0 := C2.out.frozen 0
          have z1 := C2.out.frozen 1
          have z2 := C2.out.frozen 2
          rw [hpos]
          go_wp2_with (first | ((first | refine Mix.wpList_guarded rfl ?_ | refine Mix.wp_still (by kernel_rfl) (by kernel_rfl) ?_); (repeat' (first | (refine Mix.lex_quiet0 rfl rfl rfl ?_; intro K hK; go_big_quiet_op; go_big_quiet_on) | (refine Mix.lex_quietG rfl rfl rfl (by with_reducible rfl) rfl rfl ?_; intro K hK; go_big_quiet_op; go_big_quiet_on) | ((first | refine Mix.lex_skipT rfl rfl rfl (by with_reducible rfl) ?_ | refine Mix.lex_skipF rfl rfl rfl (by with_reducible rfl) ?_ | refine Mix.lex_skipU rfl rfl rfl (by with_reducible rfl) ?_); simp only [Act.put, List.setIfInBounds_toArray, List.set_cons_succ, List.set_cons_zero]) | (refine Mix.lex_part rfl rfl rfl rfl (fun hq => ?_) (fun hq => ?_) <;> (fail_if_success (guard_hyp hq :ₛ true = true)) <;> (fail_if_success (guard_hyp hq :ₛ false = false)) <;> first | (exfalso; cases hq; done) | (exfalso; simp only [decide_eq_true_eq, decide_eq_false_iff_not, beq_iff_eq, beq_eq_false_iff_ne, ne_eq, Int.not_lt, Int.not_le] at hq; omega) | simp only [Act.put, List.setIfInBounds_toArray, List.set_cons_succ, List.set_cons_zero]))); all_goals (refine Mix.lex_nil ?_)))
          refine bodyPost_cell rfl rfl rfl (load_mk (HS.out _ _ _)) ?_
          rw [HR.out]
          exact ⟨mkV0, [], by rw [hpos]; rfl, fun _ _ _ _ => makeR0 _, HX.out _ _ P2.out.x (HO.out _ _ _)⟩
      · obtain rfl : j = ls.length := by omega
        have HO2 : Hid (foldF ls mk0 = (m, 0)) := by
          rw [Hid, HO0.out, List.drop_of_length_le (Nat.le_refl _)]
          rfl
        have HP3 : Hid (parseF s = if chkF m = 0 then (m, 0) else (mk0, chkF m)) := by
          rw [Hid, HP2.out, HO2.out]
          exact if_neg (fun h => h rfl)
        clear HO0 HO2 HP2
        have c0 : wr.cell? ⟨g4, 0, none⟩ = some (.slice v.vA m.vars.length v.vc) := P.out.rc.cell 0
        have c1 : wr.cell? ⟨g4, 1, none⟩ = some (.slice v.rA m.rules.length v.rc) := by rw [← P.out.rl]; exact P.out.rc.cell 1
        have c2 : wr.cell? ⟨g4, 2, none⟩ = some (.slice v.pA m.phony.length v.pc) := P.out.rc.cell 2
        have HCk := Lib.hid (Check_c P.out.made HFt.out.r (fun x hx => ⟨(HFt.out.rt x hx).1, (HFt.out.rt x hx).2.1⟩) (by have := HFt.out.p; omega))
        generalize chkF m = ck at HCk HP3
        go_wp2_with (first | ((first | refine Mix.wpList_guarded rfl ?_ | refine Mix.wp_still (by kernel_rfl) (by kernel_rfl) ?_); (repeat' (first | (refine Mix.lex_quiet0 rfl rfl rfl ?_; intro K hK; go_big_quiet_op; go_big_quiet_on) | (refine Mix.lex_quietG rfl rfl rfl (by with_reducible rfl) rfl rfl ?_; intro K hK; go_big_quiet_op; go_big_quiet_on) | ((first | refine Mix.lex_skipT rfl rfl rfl (by with_reducible rfl) ?_ | refine Mix.lex_skipF rfl rfl rfl (by with_reducible rfl) ?_ | refine Mix.lex_skipU rfl rfl rfl (by with_reducible rfl) ?_); simp only [Act.put, List.setIfInBounds_toArray, List.set_cons_succ, List.set_cons_zero]) | (refine Mix.lex_part rfl rfl rfl rfl (fun hq => ?_) (fun hq => ?_) <;> (fail_if_success (guard_hyp hq :ₛ true = true)) <;> (fail_if_success (guard_hyp hq :ₛ false = false)) <;> first | (exfalso; cases hq; done) | (exfalso; simp only [decide_eq_true_eq, decide_eq_false_iff_not, beq_iff_eq, beq_eq_false_iff_ne, ne_eq, Int.not_lt, Int.not_le] at hq; omega) | simp only [Act.put, List.setIfInBounds_toArray, List.set_cons_succ, List.set_cons_zero]))); all_goals (refine Mix.lex_nil ?_)))
        refine HCk.out.mono ?_
        rintro e u ⟨rfl, hu⟩
        have P2 := Lib.hid (P.out.ext hu)
        have C2 := Lib.hid (C1.out.keep P2.out.x id)
        clear hu HCk P c0 c1 c2
        have HO : Hid (∀ a b c, Only (fun b => b = g2) u (((u.setCell ⟨g2, 0, none⟩ a).setCell ⟨g2, 1, none⟩ b).setCell ⟨g2, 2, none⟩ c)) := fun a b c => (((Only.refl _ _).at_ 0 a).at_ 1 b).at_ 2 c
        have HS : Hid (∀ a b c, Cs (((u.setCell ⟨g2, 0, none⟩ a).setCell ⟨g2, 1, none⟩ b).setCell ⟨g2, 2, none⟩ c) g2 makeT #[a, b, c]) := fun a b c => ((C2.out.set_ 0 a).set_ 1 b).set_ 2 c
        have e0 : u.cell? ⟨g2, 0, none⟩ = some (.slice none 0 0) := C2.out.cell 0
        have e1 : u.cell? ⟨g2, 1, none⟩ = some (.slice none 0 0) := C2.out.cell 1
        have e2 : u.cell? ⟨g2, 2, none⟩ = some (.slice none 0 0) := C2.out.cell 2
        have z0 := C2.out.frozen 0
        have z1 := C2.out.frozen 1
        have z2 := C2.out.frozen 2
        by_cases he : ck = 0
        · subst he
          rw [errV_zero]
          have HR : Hid (parseF s = (m, 0)) := HP3.out.trans (if_pos rfl)
          have c0 : u.cell? ⟨g4, 0, none⟩ = some (.slice v.vA m.vars.length v.vc) := P2.out.rc.cell 0
          have c1 : u.cell? ⟨g4, 1, none⟩ = some (.slice v.rA m.rules.length v.rc) := by rw [← P2.out.rl]; exact P2.out.rc.cell 1
          have c2 : u.cell? ⟨g4, 2, none⟩ = some (.slice v.pA m.phony.length v.pc) := P2.out.rc.cell 2
          go_wp2_with (first | ((first | refine Mix.wpList_guarded rfl ?_ | refine Mix.wp_still (by kernel_rfl) (by kernel_rfl) ?_); (repeat' (first | (refine Mix.lex_quiet0 rfl rfl rfl ?_; intro K hK; go_big_quiet_op; go_big_quiet_on) | (refine Mix.lex_quietG rfl rfl rfl (by with_reducible rfl) rfl rfl ?_; intro K hK; go_big_quiet_op; go_big_quiet_on) | ((first | refine Mix.lex_skipT rfl rfl rfl (by with_reducible rfl) ?_ | refine Mix.lex_skipF rfl rfl rfl (by with_reducible rfl) ?_ | refine Mix.lex_skipU rfl rfl rfl (by with_reducible rfl) ?_); simp only [Act.put, List.setIfInBounds_toArray, List.set_cons_succ, List.set_cons_zero]) | (refine Mix.lex_part rfl rfl rfl rfl (fun hq => ?_) (fun hq => ?_) <;> (fail_if_success (guard_hyp hq :ₛ true = true)) <;> (fail_if_success (guard_hyp hq :ₛ false = false)) <;> first | (exfalso; cases hq; done) | (exfalso; simp only [decide_eq_true_eq, decide_eq_false_iff_not, beq_iff_eq, beq_eq_false_iff_ne, ne_eq, Int.not_lt, Int.not_le] at hq; omega) | simp only [Act.put, List.setIfInBounds_toArray, List.set_cons_succ, List.set_cons_zero]))); all_goals (refine Mix.lex_nil ?_)))
          refine bodyPost_cell rfl rfl rfl (load_mk (HS.out _ _ _)) ?_
          rw [HR.out]
          exact ⟨v, rs, rfl, fun F u' hF hu' => P2.out.fin (F := fun b => b = g2 ∨ F b) (((HO.out _ _ _).weak fun b _ h => .inl h).trans hu' fun b _ h => .inr h) (fun b hb => by
              have := X1.out.size
              rcases hb with hb | hb
              · omega
              · have := hF b hb
                omega), HX.out _ _ P2.out.x (HO.out _ _ _)⟩
        · have hpos := errV_pos he
          have HR : Hid (parseF s = (mk0, ck)) := HP3.out.trans (if_neg he)
          rw [hpos]
          go_wp2_with (first | ((first | refine Mix.wpList_guarded rfl ?_ | refine Mix.wp_still (by kernel_rfl) (by kernel_rfl) ?_); (repeat' (first | (refine Mix.lex_quiet0 rfl rfl rfl ?_; intro K hK; go_big_quiet_op; go_big_quiet_on) | (refine Mix.lex_quietG rfl rfl rfl (by with_reducible rfl) rfl rfl ?_; intro K hK; go_big_quiet_op; go_big_quiet_on) | ((first | refine Mix.lex_skipT rfl rfl rfl (by with_reducible rfl) ?_ | refine Mix.lex_skipF rfl rfl rfl (by with_reducible rfl) ?_ | refine Mix.lex_skipU rfl rfl rfl (by with_reducible rfl) ?_); simp only [Act.put, List.setIfInBounds_toArray, List.set_cons_succ, List.set_cons_zero]) | (refine Mix.lex_part rfl rfl rfl rfl (fun hq => ?_) (fun hq => ?_) <;> (fail_if_success (guard_hyp hq :ₛ true = true)) <;> (fail_if_success (guard_hyp hq :ₛ false = false)) <;> first | (exfalso; cases hq; done) | (exfalso; simp only [decide_eq_true_eq, decide_eq_false_iff_not, beq_iff_eq, beq_eq_false_iff_ne, ne_eq, Int.not_lt, Int.not_le] at hq; omega) | simp only [Act.put, List.setIfInBounds_toArray, List.set_cons_succ, List.set_cons_zero]))); all_goals (refine Mix.lex_nil ?_)))
          refine bodyPost_cell rfl rfl rfl (load_mk (HS.out _ _ _)) ?_
          rw [HR.out]
          exact ⟨mkV0, [], by rw [hpos]; rfl, fun _ _ _ _ => makeR0 _, HX.out _ _ P2.out.x (HO.out _ _ _)⟩
theorem MkParse_c {w : World} (hm : Ml w) (s : Str) (hs : s.length ≤ 1000000) : Calls Tryz.prog 18 #[S s] w (PrsRes w (parseF s)) := MkParse_any hm s (by omega)
end Go.Proofs.YtnhaekifcieeoaaGreatDoor

/- slices.IndexFunc at rules, groups and texts; graph.explicit, graph.Maker. Printed by XGx1.py. -/
namespace Go.Proofs.YtnhaekifcieeoaaGreatDoor
open Go Go.RowKit
abbrev grpT : TypeId := 46
def grpF : Flat (RulA × Grp) := ⟨4, fun x => [.slice x.1.tA x.2.targets.length x.1.tc, .slice x.1.nA x.2.needs.length x.1.nc, .slice x.1.cA x.2.cmds.length x.1.cc, .bool x.2.phony], fun _ => rfl⟩
theorem grps_get {w : World} {A : Option Addr} {n : Nat} {rs : List (RulA × Grp)} (h : SlR grpF w A n rs) {k : Nat} (hk : k < n) :
    ∃ b o x, A = some ⟨b, o, none⟩ ∧ rs[k]? = some x ∧ (∀ ξ : X w No, ξ.v.cell? ⟨b, o + k * 4, none⟩ = some (.slice x.1.tA x.2.targets.length x.1.tc)) ∧ (∀ ξ : X w No, ξ.v.cell? ⟨b, o + k * 4 + 1, none⟩ = some (.slice x.1.nA x.2.needs.length x.1.nc)) ∧
      (∀ ξ : X w No, ξ.v.cell? ⟨b, o + k * 4 + 2, none⟩ = some (.slice x.1.cA x.2.cmds.length x.1.cc)) ∧ (∀ ξ : X w No, ξ.v.cell? ⟨b, o + k * 4 + 3, none⟩ = some (.bool x.2.phony)) := by
  obtain ⟨b, o, x, e, hb, hx, hc⟩ := h.get hk
  exact ⟨b, o, x, e, hx, fun ξ => (ξ.h.cell hb id).trans (hc 0 _ rfl), fun ξ => (ξ.h.cell hb id).trans (hc 1 _ rfl), fun ξ => (ξ.h.cell hb id).trans (hc 2 _ rfl), fun ξ => (ξ.h.cell hb id).trans (hc 3 _ rfl)⟩
abbrev ruleV (x : RulA × Rul) : Value := .agg #[.slice x.1.tA x.2.targets.length x.1.tc, .slice x.1.nA x.2.needs.length x.1.nc, .slice x.1.cA x.2.cmds.length x.1.cc]
abbrev grpV (x : RulA × Grp) : Value := .agg #[.slice x.1.tA x.2.targets.length x.1.tc, .slice x.1.nA x.2.needs.length x.1.nc, .slice x.1.cA x.2.cmds.length x.1.cc, .bool x.2.phony]
def idxI (o : Option Nat) : Int := match o with | some i => (i : Int) | none => -1
theorem findIdx_none_snoc {α : Type} {p : α → Bool} {xs : List α} {k : Nat} {x : α} (h : ∀ y ∈ xs.take k, p y = false) (hx : xs[k]? = some x) (hp : p x = false) : ∀ y ∈ xs.take (k + 1), p y = false := fun y hy => by
  rw [List.take_add_one, hx] at hy
  rcases List.mem_append.1 hy with hy | hy
  · exact h y hy
  · simp at hy; exact hy ▸ hp
theorem findIdx_at {α : Type} {p : α → Bool} {xs : List α} {k : Nat} {x : α} (h : ∀ y ∈ xs.take k, p y = false) (hx : xs[k]? = some x) (hp : p x = true) : idxI (xs.findIdx? p) = (k : Int) := by
  obtain ⟨hk, e⟩ := List.getElem?_eq_some_iff.1 hx
  have : xs.findIdx? p = some k := List.findIdx?_eq_some_iff_getElem.2 ⟨hk, by rw [e]; exact hp, fun j hj => by
    have := h (xs[j]'(by omega)) (by
      rw [List.mem_take_iff_getElem]
      exact ⟨j, by omega, rfl⟩)
    simp [this]⟩
  rw [this]; rfl
theorem findIdx_no {α : Type} {p : α → Bool} {xs : List α} (h : ∀ y ∈ xs, p y = false) : idxI (xs.findIdx? p) = -1 := by
  have : xs.findIdx? p = none := List.findIdx?_eq_none_iff.2 fun x hx => by rw [h x hx]
  rw [this]; rfl
set_option maxRecDepth 100000 in
theorem IdxRul_c {w : World} {A : Option Addr} {n c : Nat} {xs : List (RulA × Rul)} (h : SlR rulF w A n xs) (hn : n ≤ 100000) (p : (RulA × Rul) → Bool) (cap : Array Value)
    (hp : ∀ x ∈ xs, ∀ u, Ext w u → Calls Tryz.prog 116 (#[ruleV x] ++ cap) u fun e w' => e = .returned (.bool (p x)) ∧ Ext u w') :
    Calls Tryz.prog 115 #[.slice A n c, .func (.func 116) #[] cap] w fun e w' => e = .returned (.int .i64 (idxI (xs.findIdx? p))) ∧ Ext w w' := by
  have HS := Lib.hid h
  have HPr := Lib.hid hp
  clear h hp
  go_enter Tryz.func115, Tryz.ntmps115
  go_wp2
  go_loopw [8] (fun i wr => ∃ k : Nat, k ≤ n ∧ i = .int .i64 k ∧ (∀ y ∈ xs.take k, p y = false) ∧ ∃ ξ : X w No, wr = ξ.v) (fun i _ => n - (intOf i).toNat)
  case atStart => exact ⟨0, Nat.zero_le _, rfl, by simp, X.here _ _, rfl⟩
  case round =>
    obtain ⟨k, hk, rfl, hT, ξ, rfl⟩ := hrel
    have HT := Lib.hid hT
    clear hT
    by_cases hlt : k < n
    · obtain ⟨b, o, x, rfl, hx, hb, d0, d1, d2⟩ := rules_get HS.out hlt
      have HX := Lib.hid hx
      have HC := Lib.hid (HPr.out x (List.mem_of_getElem? hx) _ ξ.h)
      have c0 := d0 _ ξ.h
      have c1 := d1 _ ξ.h
      have c2 := d2 _ ξ.h
      obtain ⟨q, hq⟩ : ∃ q, p x = q := ⟨_, rfl⟩
      have HP := Lib.hid hq
      rw [hq] at HC
      clear hx hq
      go_wp2_with (first | ((first | refine Mix.wpList_guarded rfl ?_ | refine Mix.wp_still (by kernel_rfl) (by kernel_rfl) ?_); (repeat' (first | (refine Mix.lex_quiet0 rfl rfl rfl ?_; intro K hK; go_big_quiet_op; go_big_quiet_on) | (refine Mix.lex_quietG rfl rfl rfl (by with_reducible rfl) rfl rfl ?_; intro K hK; go_big_quiet_op; go_big_quiet_on) | ((first | refine Mix.lex_skipT rfl rfl rfl (by with_reducible rfl) ?_ | refine Mix.lex_skipF rfl rfl rfl (by with_reducible rfl) ?_ | refine Mix.lex_skipU rfl rfl rfl (by with_reducible rfl) ?_); simp only [Act.put, List.setIfInBounds_toArray, List.set_cons_succ, List.set_cons_zero]) | (refine Mix.lex_part rfl rfl rfl rfl (fun hq => ?_) (fun hq => ?_) <;> (fail_if_success (guard_hyp hq :ₛ true = true)) <;> (fail_if_success (guard_hyp hq :ₛ false = false)) <;> first | (exfalso; cases hq; done) | (exfalso; simp only [decide_eq_true_eq, decide_eq_false_iff_not, beq_iff_eq, beq_eq_false_iff_ne, ne_eq, Int.not_lt, Int.not_le] at hq; omega) | simp only [Act.put, List.setIfInBounds_toArray, List.set_cons_succ, List.set_cons_zero]))); all_goals (refine Mix.lex_nil ?_)))
      refine HC.out.mono ?_
      rintro e u ⟨rfl, hu⟩
      have HU : Hid (Ext w u) := Lib.hid (ξ.h.then_ext hu)
      clear hu HC
      cases q with
      | true =>
        go_wp2_with (first | ((first | refine Mix.wpList_guarded rfl ?_ | refine Mix.wp_still (by kernel_rfl) (by kernel_rfl) ?_); (repeat' (first | (refine Mix.lex_quiet0 rfl rfl rfl ?_; intro K hK; go_big_quiet_op; go_big_quiet_on) | (refine Mix.lex_quietG rfl rfl rfl (by with_reducible rfl) rfl rfl ?_; intro K hK; go_big_quiet_op; go_big_quiet_on) | ((first | refine Mix.lex_skipT rfl rfl rfl (by with_reducible rfl) ?_ | refine Mix.lex_skipF rfl rfl rfl (by with_reducible rfl) ?_ | refine Mix.lex_skipU rfl rfl rfl (by with_reducible rfl) ?_); simp only [Act.put, List.setIfInBounds_toArray, List.set_cons_succ, List.set_cons_zero]) | (refine Mix.lex_part rfl rfl rfl rfl (fun hq => ?_) (fun hq => ?_) <;> (fail_if_success (guard_hyp hq :ₛ true = true)) <;> (fail_if_success (guard_hyp hq :ₛ false = false)) <;> first | (exfalso; cases hq; done) | (exfalso; simp only [decide_eq_true_eq, decide_eq_false_iff_not, beq_iff_eq, beq_eq_false_iff_ne, ne_eq, Int.not_lt, Int.not_le] at hq; omega) | simp only [Act.put, List.setIfInBounds_toArray, List.set_cons_succ, List.set_cons_zero]))); all_goals (refine Mix.lex_nil ?_)))
        go_ret
        exact ⟨by rw [findIdx_at HT.out HX.out HP.out]; rfl, HU.out⟩
      | false =>
        go_wp2_with (first | ((first | refine Mix.wpList_guarded rfl ?_ | refine Mix.wp_still (by kernel_rfl) (by kernel_rfl) ?_); (repeat' (first | (refine Mix.lex_quiet0 rfl rfl rfl ?_; intro K hK; go_big_quiet_op; go_big_quiet_on) | (refine Mix.lex_quietG rfl rfl rfl (by with_reducible rfl) rfl rfl ?_; intro K hK; go_big_quiet_op; go_big_quiet_on) | ((first | refine Mix.lex_skipT rfl rfl rfl (by with_reducible rfl) ?_ | refine Mix.lex_skipF rfl rfl rfl (by with_reducible rfl) ?_ | refine Mix.lex_skipU rfl rfl rfl (by with_reducible rfl) ?_); simp only [Act.put, List.setIfInBounds_toArray, List.set_cons_succ, List.set_cons_zero]) | (refine Mix.lex_part rfl rfl rfl rfl (fun hq => ?_) (fun hq => ?_) <;> (fail_if_success (guard_hyp hq :ₛ true = true)) <;> (fail_if_success (guard_hyp hq :ₛ false = false)) <;> first | (exfalso; cases hq; done) | (exfalso; simp only [decide_eq_true_eq, decide_eq_false_iff_not, beq_iff_eq, beq_eq_false_iff_ne, ne_eq, Int.not_lt, Int.not_le] at hq; omega) | simp only [Act.put, List.setIfInBounds_toArray, List.set_cons_succ, List.set_cons_zero]))); all_goals (refine Mix.lex_nil ?_)))
        go_roundw
        case rel => exact ⟨k + 1, by omega, by go_num, findIdx_none_snoc HT.out HX.out HP.out, ⟨_, HU.out⟩, rfl⟩
        case measure => simp [intOf]; omega
    · obtain rfl : k = n := by omega
      go_wp2_with (first | ((first | refine Mix.wpList_guarded rfl ?_ | refine Mix.wp_still (by kernel_rfl) (by kernel_rfl) ?_); (repeat' (first | (refine Mix.lex_quiet0 rfl rfl rfl ?_; intro K hK; go_big_quiet_op; go_big_quiet_on) | (refine Mix.lex_quietG rfl rfl rfl (by with_reducible rfl) rfl rfl ?_; intro K hK; go_big_quiet_op; go_big_quiet_on) | ((first | refine Mix.lex_skipT rfl rfl rfl (by with_reducible rfl) ?_ | refine Mix.lex_skipF rfl rfl rfl (by with_reducible rfl) ?_ | refine Mix.lex_skipU rfl rfl rfl (by with_reducible rfl) ?_); simp only [Act.put, List.setIfInBounds_toArray, List.set_cons_succ, List.set_cons_zero]) | (refine Mix.lex_part rfl rfl rfl rfl (fun hq => ?_) (fun hq => ?_) <;> (fail_if_success (guard_hyp hq :ₛ true = true)) <;> (fail_if_success (guard_hyp hq :ₛ false = false)) <;> first | (exfalso; cases hq; done) | (exfalso; simp only [decide_eq_true_eq, decide_eq_false_iff_not, beq_iff_eq, beq_eq_false_iff_ne, ne_eq, Int.not_lt, Int.not_le] at hq; omega) | simp only [Act.put, List.setIfInBounds_toArray, List.set_cons_succ, List.set_cons_zero]))); all_goals (refine Mix.lex_nil ?_)))
      go_ret
      have e1 := HT.out
      rw [List.take_of_length_le (by rw [HS.out.1]; exact Nat.le_refl _)] at e1
      exact ⟨by rw [findIdx_no e1]; rfl, ξ.h⟩
set_option maxRecDepth 100000 in
theorem IdxGrp_c {w : World} {A : Option Addr} {n c : Nat} {xs : List (RulA × Grp)} (h : SlR grpF w A n xs) (hn : n ≤ 100000) (p : (RulA × Grp) → Bool) (cap : Array Value)
    (hp : ∀ x ∈ xs, ∀ u, Ext w u → Calls Tryz.prog 41 (#[grpV x] ++ cap) u fun e w' => e = .returned (.bool (p x)) ∧ Ext u w') :
    Calls Tryz.prog 40 #[.slice A n c, .func (.func 41) #[] cap] w fun e w' => e = .returned (.int .i64 (idxI (xs.findIdx? p))) ∧ Ext w w' := by
  have HS := Lib.hid h
  have HPr := Lib.hid hp
  clear h hp
  go_enter Tryz.func40, Tryz.ntmps40
  go_wp2
  go_loopw [8] (fun i wr => ∃ k : Nat, k ≤ n ∧ i = .int .i64 k ∧ (∀ y ∈ xs.take k, p y = false) ∧ ∃ ξ : X w No, wr = ξ.v) (fun i _ => n - (intOf i).toNat)
  case atStart => exact ⟨0, Nat.zero_le _, rfl, by simp, X.here _ _, rfl⟩
  case round =>
    obtain ⟨k, hk, rfl, hT, ξ, rfl⟩ := hrel
    have HT := Lib.hid hT
    clear hT
    by_cases hlt : k < n
    · obtain ⟨b, o, x, rfl, hx, c0, c1, c2, c3⟩ := grps_get HS.out hlt
      have HX := Lib.hid hx
      have HC := Lib.hid (HPr.out x (List.mem_of_getElem? hx) _ ξ.h)
      obtain ⟨q, hq⟩ : ∃ q, p x = q := ⟨_, rfl⟩
      have HP := Lib.hid hq
      rw [hq] at HC
      clear hx hq
      go_wp2_with (first | ((first | refine Mix.wpList_guarded rfl ?_ | refine Mix.wp_still (by kernel_rfl) (by kernel_rfl) ?_); (repeat' (first | (refine Mix.lex_quiet0 rfl rfl rfl ?_; intro K hK; go_big_quiet_op; go_big_quiet_on) | (refine Mix.lex_quietG rfl rfl rfl (by with_reducible rfl) rfl rfl ?_; intro K hK; go_big_quiet_op; go_big_quiet_on) | ((first | refine Mix.lex_skipT rfl rfl rfl (by with_reducible rfl) ?_ | refine Mix.lex_skipF rfl rfl rfl (by with_reducible rfl) ?_ | refine Mix.lex_skipU rfl rfl rfl (by with_reducible rfl) ?_); simp only [Act.put, List.setIfInBounds_toArray, List.set_cons_succ, List.set_cons_zero]) | (refine Mix.lex_part rfl rfl rfl rfl (fun hq => ?_) (fun hq => ?_) <;> (fail_if_success (guard_hyp hq :ₛ true = true)) <;> (fail_if_success (guard_hyp hq :ₛ false = false)) <;> first | (exfalso; cases hq; done) | (exfalso; simp only [decide_eq_true_eq, decide_eq_false_iff_not, beq_iff_eq, beq_eq_false_iff_ne, ne_eq, Int.not_lt, Int.not_le] at hq; omega) | simp only [Act.put, List.setIfInBounds_toArray, List.set_cons_succ, List.set_cons_zero]))); all_goals (refine Mix.lex_nil ?_)))
      refine HC.out.mono ?_
      rintro e u ⟨rfl, hu⟩
      have HU : Hid (Ext w u) := Lib.hid (ξ.h.then_ext hu)
      clear hu HC
      cases q with
      | true =>
        go_wp2_with (first | ((first | refine Mix.wpList_guarded rfl ?_ | refine Mix.wp_still (by kernel_rfl) (by kernel_rfl) ?_); (repeat' (first | (refine Mix.lex_quiet0 rfl rfl rfl ?_; intro K hK; go_big_quiet_op; go_big_quiet_on) | (refine Mix.lex_quietG rfl rfl rfl (by with_reducible rfl) rfl rfl ?_; intro K hK; go_big_quiet_op; go_big_quiet_on) | ((first | refine Mix.lex_skipT rfl rfl rfl (by with_reducible rfl) ?_ | refine Mix.lex_skipF rfl rfl rfl (by with_reducible rfl) ?_ | refine Mix.lex_skipU rfl rfl rfl (by with_reducible rfl) ?_); simp only [Act.put, List.setIfInBounds_toArray, List.set_cons_succ, List.set_cons_zero]) | (refine Mix.lex_part rfl rfl rfl rfl (fun hq => ?_) (fun hq => ?_) <;> (fail_if_success (guard_hyp hq :ₛ true = true)) <;> (fail_if_success (guard_hyp hq :ₛ false = false)) <;> first | (exfalso; cases hq; done) | (exfalso; simp only [decide_eq_true_eq, decide_eq_false_iff_not, beq_iff_eq, beq_eq_false_iff_ne, ne_eq, Int.not_lt, Int.not_le] at hq; omega) | simp only [Act.put, List.setIfInBounds_toArray, List.set_cons_succ, List.set_cons_zero]))); all_goals (refine Mix.lex_nil ?_)))
        go_ret
        exact ⟨by rw [findIdx_at HT.out HX.out HP.out]; rfl, HU.out⟩
      | false =>
        go_wp2_with (first | ((first | refine Mix.wpList_guarded rfl ?_ | refine Mix.wp_still (by kernel_rfl) (by kernel_rfl) ?_); (repeat' (first | (refine Mix.lex_quiet0 rfl rfl rfl ?_; intro K hK; go_big_quiet_op; go_big_quiet_on) | (refine Mix.lex_quietG rfl rfl rfl (by with_reducible rfl) rfl rfl ?_; intro K hK; go_big_quiet_op; go_big_quiet_on) | ((first | refine Mix.lex_skipT rfl rfl rfl (by with_reducible rfl) ?_ | refine Mix.lex_skipF rfl rfl rfl (by with_reducible rfl) ?_ | refine Mix.lex_skipU rfl rfl rfl (by with_reducible rfl) ?_); simp only [Act.put, List.setIfInBounds_toArray, List.set_cons_succ, List.set_cons_zero]) | (refine Mix.lex_part rfl rfl rfl rfl (fun hq => ?_) (fun hq => ?_) <;> (fail_if_success (guard_hyp hq :ₛ true = true)) <;> (fail_if_success (guard_hyp hq :ₛ false = false)) <;> first | (exfalso; cases hq; done) | (exfalso; simp only [decide_eq_true_eq, decide_eq_false_iff_not, beq_iff_eq, beq_eq_false_iff_ne, ne_eq, Int.not_lt, Int.not_le] at hq; omega) | simp only [Act.put, List.setIfInBounds_toArray, List.set_cons_succ, List.set_cons_zero]))); all_goals (refine Mix.lex_nil ?_)))
        go_roundw
        case rel => exact ⟨k + 1, by omega, by go_num, findIdx_none_snoc HT.out HX.out HP.out, ⟨_, HU.out⟩, rfl⟩
        case measure => simp [intOf]; omega
    · obtain rfl : k = n := by omega
      go_wp2_with (first | ((first | refine Mix.wpList_guarded rfl ?_ | refine Mix.wp_still (by kernel_rfl) (by kernel_rfl) ?_); (repeat' (first | (refine Mix.lex_quiet0 rfl rfl rfl ?_; intro K hK; go_big_quiet_op; go_big_quiet_on) | (refine Mix.lex_quietG rfl rfl rfl (by with_reducible rfl) rfl rfl ?_; intro K hK; go_big_quiet_op; go_big_quiet_on) | ((first | refine Mix.lex_skipT rfl rfl rfl (by with_reducible rfl) ?_ | refine Mix.lex_skipF rfl rfl rfl (by with_reducible rfl) ?_ | refine Mix.lex_skipU rfl rfl rfl (by with_reducible rfl) ?_); simp only [Act.put, List.setIfInBounds_toArray, List.set_cons_succ, List.set_cons_zero]) | (refine Mix.lex_part rfl rfl rfl rfl (fun hq => ?_) (fun hq => ?_) <;> (fail_if_success (guard_hyp hq :ₛ true = true)) <;> (fail_if_success (guard_hyp hq :ₛ false = false)) <;> first | (exfalso; cases hq; done) | (exfalso; simp only [decide_eq_true_eq, decide_eq_false_iff_not, beq_iff_eq, beq_eq_false_iff_ne, ne_eq, Int.not_lt, Int.not_le] at hq; omega) | simp only [Act.put, List.setIfInBounds_toArray, List.set_cons_succ, List.set_cons_zero]))); all_goals (refine Mix.lex_nil ?_)))
      go_ret
      have e1 := HT.out
      rw [List.take_of_length_le (by rw [HS.out.1]; exact Nat.le_refl _)] at e1
      exact ⟨by rw [findIdx_no e1]; rfl, ξ.h⟩
end Go.Proofs.YtnhaekifcieeoaaGreatDoor
