/- Put together: Blc, Byt, Rtx. -/
import Derived.Test.YtnhaekifcieeoaaGreatDoorPk16
import Derived.Test.YtnhaekifcieeoaaGreatDoorPk04
import Derived.Test.YtnhaekifcieeoaaGreatDoorPk02
import Derived.Test.YtnhaekifcieeoaaGreatDoorProg
import Derived.Laws.BytesArg
import Derived.Lib.ItoaLen
import Derived.Test.YtnhaekifcieeoaaGreatDoorPk10
import Derived.Test.YtnhaekifcieeoaaGreatDoorPk09
import Derived.Test.YtnhaekifcieeoaaGreatDoorPk07
namespace Go.Proofs.YtnhaekifcieeoaaGreatDoor
open Go Go.RowKit
theorem plG_all : allF [] plG = ([([98], [120])], 0) := by decide +kernel
theorem plG_one : (oneF [] plG).2 = 0 ∧ (oneF [] plG).1.1 = [([98], [120])] := by
  have h : (recT (recOf plG [] [([98], [120])])).length ≤ 300 := by
    have a0 := itoa_len 0 (by omega)
    have a1 := itoa_len 1 (by omega)
    have a7 := itoa_len 7 (by omega)
    have e : recT (recOf plG [] [([98], [120])]) = Lib.itoa (1 : Nat) ++ [32] ++ Lib.itoa (0 : Nat) ++ [32] ++ Lib.itoa (1 : Nat) ++ ([32] ++ Lib.itoa (7 : Nat) ++ [58] ++ [112, 117, 116, 32, 98, 32, 120]) ++ ([32] ++ [98] ++ [32] ++ Lib.itoa (1 : Nat) ++ [58] ++ [120]) := by
      simp [recT, recOf, plG, nedF, hdrT, cmdT, filT]
    rw [e]
    simp only [List.length_append, List.length_cons, List.length_nil]
    omega
  unfold oneF
  rw [plG_all, if_neg (by decide), if_neg (by show ¬ 300 < (recT (recOf plG [] [([98], [120])])).length; omega)]
  exact ⟨rfl, rfl⟩
theorem plG_unit : (unitM [plG] [0] [] [] []).2 = 0 ∧ (unitM [plG] [0] [] [] []).1.1 = [([98], [120])] ∧ ((unitM [plG] [0] [] [] []).1.2.map (·.1)) = [[98]] := by
  obtain ⟨h1, h2⟩ := plG_one
  have e : unitM [plG] [0] [] [] [] = unitM [plG] [] (putAll (oneF [] plG).1.1 []) (putAll (oneF [] plG).1.1 []) [([98], (oneF [] plG).1.2)] := by
    have h := unitM_step (gs := [plG]) (u := [0]) (i := 0) (k := 0) (G := plG) (l := []) (out := []) (K := []) rfl rfl
    rw [if_neg (by decide), if_neg (by rw [h1]; decide)] at h
    exact h
  rw [e, h2]
  exact ⟨rfl, rfl, rfl⟩
set_option maxRecDepth 100000 in
set_option maxHeartbeats 1000000 in
theorem builds_c {w : World} (hE : EnvT w) : Calls Tryz.prog 22 #[] w fun e w' => e = .returned (.bool true) ∧ Ext w w' := by
  obtain ⟨w1, hw1⟩ : ∃ u, u = w.alloc (.cells #[Value.string ⟨#[98]⟩] 9) := ⟨_, rfl⟩
  obtain ⟨w2, hw2⟩ : ∃ u, u = w1.alloc (.cells #[Value.string ⟨#[112, 117, 116, 32, 98, 32, 120]⟩] 9) := ⟨_, rfl⟩
  obtain ⟨b1, hb1⟩ : ∃ b, b = w.heap.size := ⟨_, rfl⟩
  obtain ⟨b2, hb2⟩ : ∃ b, b = w1.heap.size := ⟨_, rfl⟩
  obtain ⟨w3, hw3⟩ : ∃ u, u = w2.alloc (.cells #[.slice (some ⟨b1, 0, none⟩) 1 1, .slice none 0 0, .slice (some ⟨b2, 0, none⟩) 1 1, .bool false] grpT) := ⟨_, rfl⟩
  obtain ⟨b3, hb3⟩ : ∃ b, b = w2.heap.size := ⟨_, rfl⟩
  have x1 : Ext w w1 := by rw [hw1]; exact (Only.refl No w).alloc _
  have x2 : Ext w1 w2 := by rw [hw2]; exact (Only.refl No w1).alloc _
  have x3 : Ext w2 w3 := by rw [hw3]; exact (Only.refl No w2).alloc _
  have s1 : SlR strF w1 (some ⟨b1, 0, none⟩) 1 [[98]] := by rw [hw1, hb1]; exact SlR.one strF w _ _ rfl
  have s2 : SlR strF w2 (some ⟨b2, 0, none⟩) 1 [[112, 117, 116, 32, 98, 32, 120]] := by rw [hw2, hb2]; exact SlR.one strF w1 _ _ rfl
  have s3 : SlR grpF w3 (some ⟨b3, 0, none⟩) 1 [((⟨some ⟨b1, 0, none⟩, 1, none, 0, some ⟨b2, 0, none⟩, 1⟩ : RulA), plG)] := by rw [hw3, hb3]; exact SlR.one grpF w2 _ _ rfl
  have HG : Hid (GrpsR w3 (some ⟨b3, 0, none⟩) [((⟨some ⟨b1, 0, none⟩, 1, none, 0, some ⟨b2, 0, none⟩, 1⟩ : RulA), plG)] [plG]) := ⟨s3, fun x hx => by
    obtain rfl := List.mem_singleton.1 hx
    exact ⟨s1.ext (x2.then_ext x3), SlR.none_, s2.ext x3⟩, rfl⟩
  have X3 := Lib.hid (x1.then_ext (x2.then_ext x3))
  have HE := Lib.hid (hE.ext X3.out)
  have hgb : ∀ g ∈ [plG], GBu g ∧ 1 ≤ g.targets.length ∧ g.cmds.length ≤ 3 := fun g hg => by
    obtain rfl := List.mem_singleton.1 hg
    exact ⟨⟨by decide, by decide, by decide, by decide, by decide, by decide⟩, by decide, by decide⟩
  have HUn := Lib.hid (fun u (hu : Ext w3 u) (B : Option Addr) (hI : SlR inF u B 1 [0]) => Unit_c (c := 1) (uc := 1) (u := [0]) (lc := 0) (HE.out.ext hu) (HG.out.ext hu) hgb hI (by decide) (by decide) (lA := none) (l := []) SlR.none_ ⟨by decide, List.Pairwise.nil, fun f hf => by cases hf⟩ (by decide))
  clear x1 x2 x3 s1 s2 s3 hgb hE
  go_enter Tryz.func22, Tryz.ntmps22
  go_upto_region 2 with fail
  rw [show w.heap.size + 1 + 1 = b3 by rw [hb3, hw2, hw1]; simp, show w.heap.size + 1 = b2 by rw [hb2, hw1]; simp, ← hb1, ← hw1, ← hw2, ← hw3]
  clear hw1 hw2 hw3 hb1 hb2 hb3
  obtain ⟨w4, hw4⟩ : ∃ u, u = w3.alloc (.cells #[Value.int IntKind.i64 0] 3) := ⟨_, rfl⟩
  obtain ⟨b4, hb4⟩ : ∃ b, b = w3.heap.size := ⟨_, rfl⟩
  have x4 : Ext w3 w4 := by rw [hw4]; exact (Only.refl No w3).alloc _
  have I4 : SlR inF w4 (some ⟨b4, 0, none⟩) 1 [0] := by rw [hw4, hb4]; exact SlR.one inF w3 _ _ rfl
  have HU4 := Lib.hid (HUn.out w4 x4 _ I4)
  have X4 := Lib.hid (X3.out.then_ext x4)
  have HW4 := Lib.hid hw4
  have HB4 := Lib.hid hb4
  clear x4 I4 hw4 hb4
  go_wp2_with fail
  rw [← HB4.out, ← HW4.out]
  refine HU4.out.mono ?_
  rintro e u5 ⟨hx, hres⟩
  obtain ⟨q1, q2, q3⟩ := plG_unit
  rcases hres with ⟨_, A, c, b, n, F, he, hs, hm, _, _⟩ | ⟨hn, _⟩
  case inr => exact absurd q1 hn
  rw [q2] at he hs
  have he : e = .returned (.tuple #[.slice A 1 c, .map (some b), .nilIface]) := he
  subst he
  have X5 := Lib.hid (X4.out.then_ext hx)
  have HS5 := Lib.hid hs
  have hl := fun (ξ : X u5 No) => (hm.ext ξ.h).len (by rw [q3]; decide) 3
  have hl1 : (unitM [plG] [0] [] [] []).1.2.length = 1 := by have := congrArg List.length q3; rwa [List.length_map] at this
  rw [hl1] at hl
  have hl : ∀ ξ : X u5 No, (Builtin.len_ #[rmapT] 3 #[.map (some b)]).run Tryz.prog ξ.v = .ok (.int .i64 1) ξ.v := hl
  clear hx hs hm q1 q2 q3 hl1 HU4 HUn HW4 HB4
  go_upto_region 3 with fail
  refine Mix.wp_plain [1, 5, 6] (Cl u5 No) (Cl.of (Only.refl _ _)) ?_
  (repeat' (refine Mix.lex_quiet0 rfl rfl rfl ?_; intro K hK; go_big_quiet_op; go_big_quiet_on))
  ((first | refine Mix.lex_goes0 rfl rfl ?_ | refine Mix.lex_goesG rfl rfl rfl (by with_reducible rfl) rfl ?_); intro K hK; go_simp)
  refine (same_self 0 (Int.le_refl _) _).mono ?_
  rintro e u6 ⟨rfl, hx⟩
  have X6 := Lib.hid hx
  refine ⟨_, rfl, hK _ _ (fun _ => Cl.of X6.out) ?_⟩
  clear hK K hx
  simp only [Act.put, List.setIfInBounds_toArray, List.set_cons_succ, List.set_cons_zero]
  (repeat' (first | (refine Mix.lex_quiet0 rfl rfl rfl ?_; intro K hK; go_big_quiet_op; go_big_quiet_on) | (refine Mix.lex_quietG rfl rfl rfl (by with_reducible rfl) rfl rfl ?_; intro K hK; go_big_quiet_op; go_big_quiet_on) | ((first | refine Mix.lex_skipT rfl rfl rfl (by with_reducible rfl) ?_ | refine Mix.lex_skipF rfl rfl rfl (by with_reducible rfl) ?_ | refine Mix.lex_skipU rfl rfl rfl (by with_reducible rfl) ?_); simp only [Act.put, List.setIfInBounds_toArray, List.set_cons_succ, List.set_cons_zero]) | (refine Mix.lex_part rfl rfl rfl rfl (fun hq => ?_) (fun hq => ?_) <;> (fail_if_success (guard_hyp hq :ₛ true = true)) <;> (fail_if_success (guard_hyp hq :ₛ false = false)) <;> first | (exfalso; cases hq; done) | (exfalso; simp only [decide_eq_true_eq, decide_eq_false_iff_not, beq_iff_eq, beq_eq_false_iff_ne, ne_eq, Int.not_lt, Int.not_le] at hq; omega) | simp only [Act.put, List.setIfInBounds_toArray, List.set_cons_succ, List.set_cons_zero])))
  ((first | refine Mix.lex_goes0 rfl rfl ?_ | refine Mix.lex_goesG rfl rfl rfl (by with_reducible rfl) rfl ?_); intro K hK; go_simp)
  obtain ⟨u7, hu7⟩ : ∃ u, u = u6.alloc (.cells #[Value.string ⟨#[98]⟩, Value.string ⟨#[120]⟩] 75) := ⟨_, rfl⟩
  obtain ⟨b7, hb7⟩ : ∃ b, b = u6.heap.size := ⟨_, rfl⟩
  have x7 : Ext u6 u7 := by rw [hu7]; exact (Only.refl No u6).alloc _
  have I7 : SlR fileF u7 (some ⟨b7, 0, none⟩) 1 [([98], [120])] := by rw [hu7, hb7]; exact SlR.one fileF u6 _ (([98], [120]) : File) rfl
  have HSF := Lib.hid (SameFiles_c (c := c) (d := 1) (HS5.out.ext (X6.out.then_ext x7)) I7 (by decide) (by decide))
  have X7 := Lib.hid (X6.out.then_ext x7)
  rw [← hu7, ← hb7]
  refine hK _ _ (fun _ => Cl.of X7.out) ?_
  clear hK K hu7 hb7 x7 I7
  rw [decide_eq_true (rfl : [(([98], [120]) : File)] = [([98], [120])])] at HSF
  simp only [Act.put, List.setIfInBounds_toArray, List.set_cons_succ, List.set_cons_zero]
  (repeat' (refine Mix.lex_quiet0 rfl rfl rfl ?_; intro K hK; go_big_quiet_op; go_big_quiet_on))
  ((first | refine Mix.lex_goes0 rfl rfl ?_ | refine Mix.lex_goesG rfl rfl rfl (by with_reducible rfl) rfl ?_); intro K hK; go_simp)
  refine HSF.out.mono ?_
  rintro e u8 ⟨rfl, hx⟩
  have X8 := Lib.hid (X7.out.then_ext hx)
  refine ⟨_, rfl, hK _ _ (fun _ => Cl.of X8.out) ?_⟩
  clear hK K hx
  obtain ⟨ξ8, rfl⟩ : ∃ ξ : X u5 No, u8 = ξ.v := ⟨⟨u8, X8.out⟩, rfl⟩
  simp only [Act.put, List.setIfInBounds_toArray, List.set_cons_succ, List.set_cons_zero]
  (repeat' (first | (refine Mix.lex_quiet0 rfl rfl rfl ?_; intro K hK; go_big_quiet_op; go_big_quiet_on) | (refine Mix.lex_quietG rfl rfl rfl (by with_reducible rfl) rfl rfl ?_; intro K hK; go_big_quiet_op; go_big_quiet_on) | ((first | refine Mix.lex_skipT rfl rfl rfl (by with_reducible rfl) ?_ | refine Mix.lex_skipF rfl rfl rfl (by with_reducible rfl) ?_ | refine Mix.lex_skipU rfl rfl rfl (by with_reducible rfl) ?_); simp only [Act.put, List.setIfInBounds_toArray, List.set_cons_succ, List.set_cons_zero]) | (refine Mix.lex_part rfl rfl rfl rfl (fun hq => ?_) (fun hq => ?_) <;> (fail_if_success (guard_hyp hq :ₛ true = true)) <;> (fail_if_success (guard_hyp hq :ₛ false = false)) <;> first | (exfalso; cases hq; done) | (exfalso; simp only [decide_eq_true_eq, decide_eq_false_iff_not, beq_iff_eq, beq_eq_false_iff_ne, ne_eq, Int.not_lt, Int.not_le] at hq; omega) | simp only [Act.put, List.setIfInBounds_toArray, List.set_cons_succ, List.set_cons_zero])))
  trace_state
  refine Mix.lex_nil ?_
  go_wp2_with fail
  go_ret
  exact ⟨rfl, X5.out.then_ext X8.out⟩
def bt (z : Int) : UInt8 := UInt8.ofNat z.toNat
@[go_sem] theorem str_new1 (a : Int) (w : World) : (convert 150 9 (.slice (some ⟨w.heap.size, 0, none⟩) 1 1)).run Tryz.prog (w.alloc (.cells #[.int .u8 a] 5)) = .ok (S [bt a]) (w.alloc (.cells #[.int .u8 a] 5)) := by
  rw [run_convert_bytes_arg _ 150 5 Tryz.underlying150 Tryz.underlying5 w.heap.size 0 1 1 [a] rfl (fun i hi => ?_) 9 Tryz.underlying9]
  · rfl
  · rw [(Cs.new w 5 #[.int .u8 a]).cell]
    match i, hi with
    | 0, _ => rfl
@[go_sem] theorem str_new2 (a b : Int) (w : World) : (convert 150 9 (.slice (some ⟨w.heap.size, 0, none⟩) 2 2)).run Tryz.prog (w.alloc (.cells #[.int .u8 a, .int .u8 b] 5)) = .ok (S [bt a, bt b]) (w.alloc (.cells #[.int .u8 a, .int .u8 b] 5)) := by
  rw [run_convert_bytes_arg _ 150 5 Tryz.underlying150 Tryz.underlying5 w.heap.size 0 2 2 [a, b] rfl (fun i hi => ?_) 9 Tryz.underlying9]
  · rfl
  · rw [(Cs.new w 5 #[.int .u8 a, .int .u8 b]).cell]
    match i, hi with
    | 0, _ => rfl
    | 1, _ => rfl
@[go_sem] theorem str_new4 (a b c d : Int) (w : World) : (convert 150 9 (.slice (some ⟨w.heap.size, 0, none⟩) 4 4)).run Tryz.prog (w.alloc (.cells #[.int .u8 a, .int .u8 b, .int .u8 c, .int .u8 d] 5)) = .ok (S [bt a, bt b, bt c, bt d]) (w.alloc (.cells #[.int .u8 a, .int .u8 b, .int .u8 c, .int .u8 d] 5)) := by
  rw [run_convert_bytes_arg _ 150 5 Tryz.underlying150 Tryz.underlying5 w.heap.size 0 4 4 [a, b, c, d] rfl (fun i hi => ?_) 9 Tryz.underlying9]
  · rfl
  · rw [(Cs.new w 5 #[.int .u8 a, .int .u8 b, .int .u8 c, .int .u8 d]).cell]
    match i, hi with
    | 0, _ => rfl
    | 1, _ => rfl
    | 2, _ => rfl
    | 3, _ => rfl
theorem conv1 {w : World} {b : Nat} {a : Int} (h : w.cell? ⟨b, 0, none⟩ = some (.int .u8 a)) : (convert 150 9 (.slice (some ⟨b, 0, none⟩) 1 1)).run Tryz.prog w = .ok (S [bt a]) w := by
  rw [run_convert_bytes_arg _ 150 5 Tryz.underlying150 Tryz.underlying5 b 0 1 1 [a] rfl (fun i hi => ?_) 9 Tryz.underlying9]
  · rfl
  · match i, hi with
    | 0, _ => exact h
theorem bt_nat (n : Nat) : bt (48 + (n : Int)) = UInt8.ofNat (48 + n) := by
  unfold bt
  congr 1
set_option maxRecDepth 100000 in
set_option maxHeartbeats 2000000 in
theorem Decimal_c : ∀ (k n : Nat), n < k → n ≤ 1000000 → ∀ w : World, Calls Tryz.prog 77 #[.int .i64 (n : Int)] w fun e w' => e = .returned (S (Lib.itoa (n : Int))) ∧ Ext w w'
  | 0, n, h, _, w => absurd h (Nat.not_lt_zero _)
  | k + 1, n, hk, hn, w => by
    have g0 : decide ((n : Int) < 0) = false := by rw [decide_eq_false_iff_not]; omega
    by_cases h1 : n < 10
    · have g1 : decide ((n : Int) < 10) = true := by rw [decide_eq_true_iff]; omega
      have HI : Hid (Lib.itoa (n : Int) = [UInt8.ofNat (48 + n)]) := by rw [Hid, Lib.itoa_nonneg, Lib.decDigits, dif_pos h1]
      go_enter Tryz.func77, Tryz.ntmps77
      go_wp2_with fail
      go_ret
      exact ⟨by rw [HI.out, ← bt_nat]; rfl, (Only.refl No w).alloc _⟩
    · have g1 : decide ((n : Int) < 10) = false := by rw [decide_eq_false_iff_not]; omega
      have HI : Hid (Lib.itoa (n : Int) = Lib.itoa ((n / 10 : Nat) : Int) ++ [UInt8.ofNat (48 + n % 10)]) := by rw [Hid, Lib.itoa_nonneg, Lib.decDigits, dif_neg h1, Lib.itoa_nonneg]
      have HD := Lib.hid (Decimal_c k (n / 10) (by omega) (by omega))
      go_enter Tryz.func77, Tryz.ntmps77
      have hil := Lib.itoa_length_le ((n / 10 : Nat) : Int) (by omega) (by omega)
      generalize Lib.itoa ((n / 10 : Nat) : Int) = il at HI HD hil
      have HI2 : Hid (Lib.itoa (n : Int) = il ++ [bt (48 + (n : Int) % 10)]) := by
        rw [Hid, HI.out, show (48 : Int) + (n : Int) % 10 = 48 + ((n % 10 : Nat) : Int) by omega, bt_nat]
      have HD2 : Hid (∀ w : World, Calls Tryz.prog 77 #[.int .i64 ((n : Int) / 10)] w fun e w' => e = .returned (S il) ∧ Ext w w') := by
        have := HD.out
        rw [show ((n / 10 : Nat) : Int) = (n : Int) / 10 by omega] at this
        exact this
      clear HI HD
      generalize Lib.itoa (n : Int) = R at HI2 ⊢
      go_upto_region 5 with fail
      refine Mix.wp_tree 11 [2, 7, 8] (Cl w No) rfl (by kernel_rfl) (by kernel_rfl) (Cl.of (Only.refl _ _).drew) ?_
      obtain ⟨μ0, hμ0⟩ : ∃ μ0 : X w No, μ0.v = w.drew := ⟨⟨_, (Only.refl _ _).drew⟩, rfl⟩
      rw [← hμ0]
      clear hμ0
      (refine Mix.tree_quiet (i := 0) (by kernel_rfl) rfl rfl rfl rfl ?_; intro K hK; go_big_quiet_op; go_big_quiet_on); (refine Mix.tree_quiet (i := 1) (by kernel_rfl) rfl rfl rfl rfl ?_; intro K hK; go_big_quiet_op; go_big_quiet_on); (refine Mix.tree_quiet (i := 3) (by kernel_rfl) rfl rfl rfl rfl ?_; intro K hK; go_big_quiet_op; go_big_quiet_on); (refine Mix.tree_quiet (i := 4) (by kernel_rfl) rfl rfl rfl rfl ?_; intro K hK; go_big_quiet_op; go_big_quiet_on); (refine Mix.tree_quiet (i := 5) (by kernel_rfl) rfl rfl rfl rfl ?_; intro K hK; go_big_quiet_op; go_big_quiet_on); (refine Mix.tree_quiet (i := 6) (by kernel_rfl) rfl rfl rfl rfl ?_; intro K hK; go_big_quiet_op; go_big_quiet_on)
      refine Mix.tree_two (i := 2) (j := 7) (by kernel_rfl) (by kernel_rfl) rfl rfl rfl rfl rfl rfl ?_ ?_
      · intro K hK
        go_simp
        refine (HD2.out _).mono ?_
        rintro e u ⟨rfl, hu⟩
        obtain ⟨μ1, rfl⟩ : ∃ ξ : X w No, u = ξ.v := ⟨⟨u, μ0.h.then_ext hu⟩, rfl⟩
        refine ⟨_, rfl, hK _ _ ⟨μ1, rfl⟩ ?_⟩
        clear hK K hu
        simp only [Act.put, List.setIfInBounds_toArray, List.set_cons_succ, List.set_cons_zero]
        obtain ⟨v2, hv2⟩ : ∃ u, u = μ1.v.alloc (.cells #[.int .u8 (48 + (n : Int) % 10)] 5) := ⟨_, rfl⟩
        (refine Mix.tree_one (i := 7) (by kernel_rfl) (by kernel_rfl) rfl rfl rfl ?_; intro K hK; go_simp)
        rw [← hv2]
        have hc2 : v2.cell? ⟨μ1.v.heap.size, 0, none⟩ = some (.int .u8 (48 + (n : Int) % 10)) := by rw [hv2]; exact (Cs.new μ1.v 5 #[.int .u8 (48 + (n : Int) % 10)]).cell 0
        obtain ⟨μ2, hμ2⟩ : ∃ ξ : X w No, v2 = ξ.v := ⟨⟨v2, by rw [hv2]; exact μ1.h.alloc _⟩, rfl⟩
        refine hK _ _ ⟨μ2, hμ2⟩ ?_
        clear hK K hv2
        subst hμ2
        have hcv := conv1 hc2
        clear hc2
        simp only [Act.put, List.setIfInBounds_toArray, List.set_cons_succ, List.set_cons_zero]
        (refine Mix.tree_one (i := 8) (by kernel_rfl) (by kernel_rfl) rfl rfl rfl ?_; intro K hK; go_simp)
        refine hK _ _ ⟨μ2, rfl⟩ ?_
        clear hK K hcv
        simp only [Act.put, List.setIfInBounds_toArray, List.set_cons_succ, List.set_cons_zero]
        (refine Mix.tree_quiet (i := 9) (by kernel_rfl) rfl rfl rfl rfl ?_; intro K hK; go_big_quiet_op; go_big_quiet_on); (refine Mix.tree_quiet (i := 10) (by kernel_rfl) rfl rfl rfl rfl ?_; intro K hK; go_big_quiet_op; go_big_quiet_on)
        refine Mix.tree_nil ?_
        go_wp2_with fail
        go_ret
        exact ⟨by rw [HI2.out]; rfl, μ2.h⟩
      · intro K hK
        obtain ⟨v1, hv1⟩ : ∃ u, u = μ0.v.alloc (.cells #[.int .u8 (48 + (n : Int) % 10)] 5) := ⟨_, rfl⟩
        go_simp
        rw [← hv1]
        have hc1 : Cs v1 μ0.v.heap.size 5 #[.int .u8 (48 + (n : Int) % 10)] := by rw [hv1]; exact Cs.new _ _ _
        obtain ⟨μ1, hμ1⟩ : ∃ ξ : X w No, v1 = ξ.v := ⟨⟨v1, by rw [hv1]; exact μ0.h.alloc _⟩, rfl⟩
        refine hK _ _ ⟨μ1, hμ1⟩ ?_
        clear hK K hv1
        subst hμ1
        have HC := Lib.hid hc1
        clear hc1
        simp only [Act.put, List.setIfInBounds_toArray, List.set_cons_succ, List.set_cons_zero]
        refine Mix.tree_two (i := 2) (j := 8) (by kernel_rfl) (by kernel_rfl) rfl rfl rfl rfl rfl rfl ?_ ?_
        · intro K hK
          go_simp
          refine (HD2.out _).mono ?_
          rintro e u ⟨rfl, hu⟩
          have hcv := conv1 ((HC.out.keep hu id).cell 0)
          obtain ⟨μ2, rfl⟩ : ∃ ξ : X w No, u = ξ.v := ⟨⟨u, μ1.h.then_ext hu⟩, rfl⟩
          refine ⟨_, rfl, hK _ _ ⟨μ2, rfl⟩ ?_⟩
          clear hK K hu
          simp only [Act.put, List.setIfInBounds_toArray, List.set_cons_succ, List.set_cons_zero]
          (refine Mix.tree_one (i := 8) (by kernel_rfl) (by kernel_rfl) rfl rfl rfl ?_; intro K hK; go_simp)
          refine hK _ _ ⟨μ2, rfl⟩ ?_
          clear hK K hcv
          simp only [Act.put, List.setIfInBounds_toArray, List.set_cons_succ, List.set_cons_zero]
          (refine Mix.tree_quiet (i := 9) (by kernel_rfl) rfl rfl rfl rfl ?_; intro K hK; go_big_quiet_op; go_big_quiet_on); (refine Mix.tree_quiet (i := 10) (by kernel_rfl) rfl rfl rfl rfl ?_; intro K hK; go_big_quiet_op; go_big_quiet_on)
          refine Mix.tree_nil ?_
          go_wp2_with fail
          go_ret
          exact ⟨by rw [HI2.out]; rfl, μ2.h⟩
        · intro K hK
          have hcv := conv1 (HC.out.cell 0)
          go_simp
          refine hK _ _ ⟨μ1, rfl⟩ ?_
          clear hK K hcv
          simp only [Act.put, List.setIfInBounds_toArray, List.set_cons_succ, List.set_cons_zero]
          (refine Mix.tree_one (i := 2) (by kernel_rfl) (by kernel_rfl) rfl rfl rfl ?_; intro K hK; go_simp)
          refine (HD2.out _).mono ?_
          rintro e u ⟨rfl, hu⟩
          obtain ⟨μ2, rfl⟩ : ∃ ξ : X w No, u = ξ.v := ⟨⟨u, μ1.h.then_ext hu⟩, rfl⟩
          refine ⟨_, rfl, hK _ _ ⟨μ2, rfl⟩ ?_⟩
          clear hK K hu
          simp only [Act.put, List.setIfInBounds_toArray, List.set_cons_succ, List.set_cons_zero]
          (refine Mix.tree_quiet (i := 9) (by kernel_rfl) rfl rfl rfl rfl ?_; intro K hK; go_big_quiet_op; go_big_quiet_on); (refine Mix.tree_quiet (i := 10) (by kernel_rfl) rfl rfl rfl rfl ?_; intro K hK; go_big_quiet_op; go_big_quiet_on)
          refine Mix.tree_nil ?_
          go_wp2_with fail
          go_ret
          exact ⟨by rw [HI2.out]; rfl, μ2.h⟩
set_option maxRecDepth 100000 in
set_option maxHeartbeats 4000000 in
theorem RecordText_c {w : World} {v : RcdV} {r : Rcd} (h : RcdR w v r) (hl : r.Lim) :
    Calls Tryz.prog 51 #[rcdV v r] w fun e w' => e = .returned (S (recT r)) ∧ Ext w w' := by
  obtain ⟨cA, cc, nA, nc, oA, oc⟩ := v
  obtain ⟨w0, hw0⟩ : ∃ w0, w0 = w.alloc (.cells (rcdCs ⟨cA, cc, nA, nc, oA, oc⟩ r) rcT) := ⟨_, rfl⟩
  have hx0 : Ext w w0 := by rw [hw0]; exact (Only.refl No w).alloc _
  have hB : Cs w0 w.heap.size rcT (rcdCs ⟨cA, cc, nA, nc, oA, oc⟩ r) := by rw [hw0]; exact Cs.new _ _ _
  have d0 : ∀ ξ : X w0 No, ξ.v.cell? ⟨w.heap.size, 0, none⟩ = some (.slice cA r.cmds.length cc) := hB.x id 0
  have d1 : ∀ ξ : X w0 No, ξ.v.cell? ⟨w.heap.size, 1, none⟩ = some (.slice nA r.needs.length nc) := hB.x id 1
  have d2 : ∀ ξ : X w0 No, ξ.v.cell? ⟨w.heap.size, 2, none⟩ = some (.slice oA r.out.length oc) := hB.x id 2
  have HX0 := Lib.hid hx0
  have HR := Lib.hid (h.ext hx0)
  have hlc := hl.c
  have hln := hl.n
  have hlo := hl.o
  have HLc := Lib.hid hl.lc
  have HLn := Lib.hid hl.ln
  have HLo := Lib.hid hl.lo
  have HI : Hid (∀ (n : Nat) v, n ≤ 1000000 → Ext w0 v → Calls Tryz.prog 77 #[.int .i64 (n : Int)] v fun e w' => e = .returned (S (Lib.itoa (n : Int))) ∧ Ext v w') := fun n v hn _ => Decimal_c (n + 1) n (Nat.lt_succ_self _) hn v
  have hi1 := itoa_len r.cmds.length (by omega)
  have hi2 := itoa_len r.needs.length (by omega)
  have hi3 := itoa_len r.out.length (by omega)
  have HI1 := Lib.hid (fun v hv => HI.out r.cmds.length v (by omega) hv)
  have HI2 := Lib.hid (fun v hv => HI.out r.needs.length v (by omega) hv)
  have HI3 := Lib.hid (fun v hv => HI.out r.out.length v (by omega) hv)
  have HH : Hid (hdrT r = Lib.itoa r.cmds.length ++ [32] ++ Lib.itoa r.needs.length ++ [32] ++ Lib.itoa r.out.length) := rfl
  have hhl : (hdrT r).length ≤ 65 := by rw [HH.out]; simp only [List.length_append, List.length_cons, List.length_nil]; omega
  have HT : Hid (recT r = hdrT r ++ r.cmds.flatMap cmdT ++ (r.needs ++ r.out).flatMap filT) := rfl
  generalize hdrT r = hd at HH hhl HT
  generalize Lib.itoa (r.cmds.length : Int) = i1 at HI1 HH hi1
  generalize Lib.itoa (r.needs.length : Int) = i2 at HI2 HH hi2
  generalize Lib.itoa (r.out.length : Int) = i3 at HI3 HH hi3
  generalize recT r = R at HT ⊢
  clear hB hx0 h hl
  unfold rcdCs at hw0
  show Calls _ _ #[.agg #[.slice cA r.cmds.length cc, .slice nA r.needs.length nc, .slice oA r.out.length oc]] _ _
  go_enter Tryz.func51, Tryz.ntmps51
  go_upto_region 1 with fail
  rw [← hw0]
  clear hw0
  obtain ⟨ξ0, hξ0⟩ : ∃ ξ : X w0 No, ξ.v = w0 := ⟨X.here _ _, rfl⟩
  rw [← hξ0]
  clear hξ0
  refine Mix.wp_draw [3, 8, 14] 100 (Cl w0 No) (by kernel_rfl) (by kernel_rfl) (Cl.of ξ0.h.drew) ?_
  obtain ⟨μ0, hμ0⟩ : ∃ μ0 : X w0 No, μ0.v = ξ0.v.drew := ⟨⟨_, ξ0.h.drew⟩, rfl⟩
  rw [← hμ0]
  clear hμ0
  (repeat' (refine Mix.lex_quiet0 rfl rfl rfl ?_; intro K hK; go_big_quiet_op; go_big_quiet_on))
  ((first | refine Mix.lex_goes0 rfl rfl ?_ | refine Mix.lex_goesG rfl rfl rfl (by with_reducible rfl) rfl ?_); intro K hK; go_simp); refine (HI1.out _ μ0.h).mono ?_; rintro e uu ⟨rfl, hu⟩; obtain ⟨μ1, hnew⟩ : ∃ ξ : X w0 No, ξ.v = uu := ⟨⟨uu, μ0.h.then_ext hu⟩, rfl⟩; subst hnew; have Hμ1 := Lib.hid hu; refine ⟨_, rfl, hK _ _ (fun _ => ⟨μ1, rfl⟩) ?_⟩; clear hK K hu; simp only [Act.put, List.setIfInBounds_toArray, List.set_cons_succ, List.set_cons_zero]; (repeat' (first | (refine Mix.lex_quiet0 rfl rfl rfl ?_; intro K hK; go_big_quiet_op; go_big_quiet_on) | (refine Mix.lex_quietG rfl rfl rfl (by with_reducible rfl) rfl rfl ?_; intro K hK; go_big_quiet_op; go_big_quiet_on) | ((first | refine Mix.lex_skipT rfl rfl rfl (by with_reducible rfl) ?_ | refine Mix.lex_skipF rfl rfl rfl (by with_reducible rfl) ?_ | refine Mix.lex_skipU rfl rfl rfl (by with_reducible rfl) ?_); simp only [Act.put, List.setIfInBounds_toArray, List.set_cons_succ, List.set_cons_zero]) | (refine Mix.lex_part rfl rfl rfl rfl (fun hq => ?_) (fun hq => ?_) <;> (fail_if_success (guard_hyp hq :ₛ true = true)) <;> (fail_if_success (guard_hyp hq :ₛ false = false)) <;> first | (exfalso; cases hq; done) | (exfalso; simp only [decide_eq_true_eq, decide_eq_false_iff_not, beq_iff_eq, beq_eq_false_iff_ne, ne_eq, Int.not_lt, Int.not_le] at hq; omega) | simp only [Act.put, List.setIfInBounds_toArray, List.set_cons_succ, List.set_cons_zero])))
  ((first | refine Mix.lex_goes0 rfl rfl ?_ | refine Mix.lex_goesG rfl rfl rfl (by with_reducible rfl) rfl ?_); intro K hK; go_simp); refine (HI2.out _ μ1.h).mono ?_; rintro e uu ⟨rfl, hu⟩; obtain ⟨μ2, hnew⟩ : ∃ ξ : X w0 No, ξ.v = uu := ⟨⟨uu, μ1.h.then_ext hu⟩, rfl⟩; subst hnew; have Hμ2 := Lib.hid hu; refine ⟨_, rfl, hK _ _ (fun _ => ⟨μ2, rfl⟩) ?_⟩; clear hK K hu; simp only [Act.put, List.setIfInBounds_toArray, List.set_cons_succ, List.set_cons_zero]; (repeat' (first | (refine Mix.lex_quiet0 rfl rfl rfl ?_; intro K hK; go_big_quiet_op; go_big_quiet_on) | (refine Mix.lex_quietG rfl rfl rfl (by with_reducible rfl) rfl rfl ?_; intro K hK; go_big_quiet_op; go_big_quiet_on) | ((first | refine Mix.lex_skipT rfl rfl rfl (by with_reducible rfl) ?_ | refine Mix.lex_skipF rfl rfl rfl (by with_reducible rfl) ?_ | refine Mix.lex_skipU rfl rfl rfl (by with_reducible rfl) ?_); simp only [Act.put, List.setIfInBounds_toArray, List.set_cons_succ, List.set_cons_zero]) | (refine Mix.lex_part rfl rfl rfl rfl (fun hq => ?_) (fun hq => ?_) <;> (fail_if_success (guard_hyp hq :ₛ true = true)) <;> (fail_if_success (guard_hyp hq :ₛ false = false)) <;> first | (exfalso; cases hq; done) | (exfalso; simp only [decide_eq_true_eq, decide_eq_false_iff_not, beq_iff_eq, beq_eq_false_iff_ne, ne_eq, Int.not_lt, Int.not_le] at hq; omega) | simp only [Act.put, List.setIfInBounds_toArray, List.set_cons_succ, List.set_cons_zero])))
  ((first | refine Mix.lex_goes0 rfl rfl ?_ | refine Mix.lex_goesG rfl rfl rfl (by with_reducible rfl) rfl ?_); intro K hK; go_simp); refine (HI3.out _ μ2.h).mono ?_; rintro e uu ⟨rfl, hu⟩; obtain ⟨μ3, hnew⟩ : ∃ ξ : X w0 No, ξ.v = uu := ⟨⟨uu, μ2.h.then_ext hu⟩, rfl⟩; subst hnew; have Hμ3 := Lib.hid hu; refine ⟨_, rfl, hK _ _ (fun _ => ⟨μ3, rfl⟩) ?_⟩; clear hK K hu; simp only [Act.put, List.setIfInBounds_toArray, List.set_cons_succ, List.set_cons_zero]; (repeat' (first | (refine Mix.lex_quiet0 rfl rfl rfl ?_; intro K hK; go_big_quiet_op; go_big_quiet_on) | (refine Mix.lex_quietG rfl rfl rfl (by with_reducible rfl) rfl rfl ?_; intro K hK; go_big_quiet_op; go_big_quiet_on) | ((first | refine Mix.lex_skipT rfl rfl rfl (by with_reducible rfl) ?_ | refine Mix.lex_skipF rfl rfl rfl (by with_reducible rfl) ?_ | refine Mix.lex_skipU rfl rfl rfl (by with_reducible rfl) ?_); simp only [Act.put, List.setIfInBounds_toArray, List.set_cons_succ, List.set_cons_zero]) | (refine Mix.lex_part rfl rfl rfl rfl (fun hq => ?_) (fun hq => ?_) <;> (fail_if_success (guard_hyp hq :ₛ true = true)) <;> (fail_if_success (guard_hyp hq :ₛ false = false)) <;> first | (exfalso; cases hq; done) | (exfalso; simp only [decide_eq_true_eq, decide_eq_false_iff_not, beq_iff_eq, beq_eq_false_iff_ne, ne_eq, Int.not_lt, Int.not_le] at hq; omega) | simp only [Act.put, List.setIfInBounds_toArray, List.set_cons_succ, List.set_cons_zero])))
  refine Mix.lex_nil ?_
  have hd2 : hd = i1 ++ 32 :: (i2 ++ 32 :: i3) := by rw [HH.out]; simp
  have HHd := Lib.hid hd2
  have HIx : Hid (∀ (n : Nat), n ≤ 1000000 → (Lib.itoa (n : Int)).length ≤ 21) := itoa_len
  clear HI1 HI2 HI3 HH hd2
  go_wp2_with fail
  go_loopw [3, 4] (fun s i wr => ∃ j : Nat, j ≤ r.cmds.length ∧ i = .int .i64 j ∧ ∃ acc : Str, s = S acc ∧ acc = hd ++ (r.cmds.take j).flatMap cmdT ∧ acc.length ≤ 65 + 10100 * j ∧ ∃ ξ : X w0 No, wr = ξ.v) (fun _ i _ => r.cmds.length - (intOf i).toNat)
  case atStart => exact ⟨0, Nat.zero_le _, rfl, hd, by rw [HHd.out], by simp, by omega, μ3, rfl⟩
  case round =>
    obtain ⟨j, hj, rfl, acc, rfl, hA, hal, ξ, rfl⟩ := hrel
    have HA := Lib.hid hA
    clear hA
    by_cases hlt : j < r.cmds.length
    · obtain ⟨b, o, x, rfl, hx, c0⟩ := strs_get HR.out.c hlt
      have hxl := HLc.out x (List.mem_of_getElem? hx)
      have hil := HIx.out x.length (by omega)
      have HIc := Lib.hid (fun v hv => HI.out x.length v (by omega) hv)
      have HS : Hid ((r.cmds.take (j + 1)).flatMap cmdT = (r.cmds.take j).flatMap cmdT ++ ([32] ++ Lib.itoa x.length ++ [58] ++ x)) := by
        rw [Hid, List.take_add_one, hx, List.flatMap_append]; simp [cmdT]
      generalize Lib.itoa (x.length : Int) = il at hil HIc HS
      clear hx
      go_upto_region 5 with fail
      refine Mix.wp_draw [8] 100 (Cl w0 No) (by kernel_rfl) (by kernel_rfl) (Cl.of ξ.h.drew) ?_
      obtain ⟨ξd, hξd⟩ : ∃ ξd : X w0 No, ξd.v = ξ.v.drew := ⟨⟨_, ξ.h.drew⟩, rfl⟩
      rw [← hξd]
      clear hξd
      (repeat' (refine Mix.lex_quiet0 rfl rfl rfl ?_; intro K hK; go_big_quiet_op; go_big_quiet_on))
      ((first | refine Mix.lex_goes0 rfl rfl ?_ | refine Mix.lex_goesG rfl rfl rfl (by with_reducible rfl) rfl ?_); intro K hK; go_simp); refine (HIc.out _ ξd.h).mono ?_; rintro e uu ⟨rfl, hu⟩; obtain ⟨ξ1, hnew⟩ : ∃ ξ : X w0 No, ξ.v = uu := ⟨⟨uu, ξd.h.then_ext hu⟩, rfl⟩; subst hnew; have Hξ1 := Lib.hid hu; refine ⟨_, rfl, hK _ _ (fun _ => ⟨ξ1, rfl⟩) ?_⟩; clear hK K hu; simp only [Act.put, List.setIfInBounds_toArray, List.set_cons_succ, List.set_cons_zero]; (repeat' (first | (refine Mix.lex_quiet0 rfl rfl rfl ?_; intro K hK; go_big_quiet_op; go_big_quiet_on) | (refine Mix.lex_quietG rfl rfl rfl (by with_reducible rfl) rfl rfl ?_; intro K hK; go_big_quiet_op; go_big_quiet_on) | ((first | refine Mix.lex_skipT rfl rfl rfl (by with_reducible rfl) ?_ | refine Mix.lex_skipF rfl rfl rfl (by with_reducible rfl) ?_ | refine Mix.lex_skipU rfl rfl rfl (by with_reducible rfl) ?_); simp only [Act.put, List.setIfInBounds_toArray, List.set_cons_succ, List.set_cons_zero]) | (refine Mix.lex_part rfl rfl rfl rfl (fun hq => ?_) (fun hq => ?_) <;> (fail_if_success (guard_hyp hq :ₛ true = true)) <;> (fail_if_success (guard_hyp hq :ₛ false = false)) <;> first | (exfalso; cases hq; done) | (exfalso; simp only [decide_eq_true_eq, decide_eq_false_iff_not, beq_iff_eq, beq_eq_false_iff_ne, ne_eq, Int.not_lt, Int.not_le] at hq; omega) | simp only [Act.put, List.setIfInBounds_toArray, List.set_cons_succ, List.set_cons_zero])))
      refine Mix.lex_nil ?_
      go_wp2_with fail
      go_roundw
      case rel => exact ⟨j + 1, by omega, by go_num, _, rfl, by rw [HS.out, HA.out]; simp, by simp only [List.length_append, List.length_cons]; omega, ξ1, rfl⟩
      case measure => simp [intOf]; omega
    · have HA2 : Hid (acc = hd ++ r.cmds.flatMap cmdT) := by
        have := HA.out
        rw [List.take_of_length_le (by omega)] at this
        exact this
      clear HA
      have HLf : Hid (∀ x ∈ r.needs ++ r.out, x.1.length ≤ 10000 ∧ x.2.length ≤ 10000) := fun x hx => by
        rcases List.mem_append.1 hx with hx | hx
        · exact HLn.out x hx
        · exact HLo.out x hx
      have hyl : (r.needs ++ r.out).length ≤ 200 := by rw [List.length_append]; omega
      have HAl : Hid (acc.length ≤ 1020000) := by unfold Hid; omega
      clear hal HLn HLo HHd
      go_upto_region 6 with fail
      refine Mix.wp_draw [2, 5] 100 (Cl w0 No) (by kernel_rfl) (by kernel_rfl) (Cl.of ξ.h.drew) ?_
      obtain ⟨ξd, hξd⟩ : ∃ ξd : X w0 No, ξd.v = ξ.v.drew := ⟨⟨_, ξ.h.drew⟩, rfl⟩
      rw [← hξd]
      clear hξd
      (repeat' (refine Mix.lex_quiet0 rfl rfl rfl ?_; intro K hK; go_big_quiet_op; go_big_quiet_on))
      refine Mix.lex_goes0 rfl rfl ?_
      intro K hK
      have hRn := HR.out.n.ext ξd.h
      refine goes_append (v := .slice none 0 0) (n := 0) (xs := []) fl_ty rfl rfl rfl (World.ownsRow_nil _ _ _ _) (hRn.rd (by decide)) (fl_enc1 _) (by omega) ?_
      intro A2 c2 w5 hown5 hg5 hb5
      have F5 : Fresh fileF 75 w0 w5 A2 c2 r.needs := by
        exact (Fresh.nil fileF 75 w0 ξd.v ξd.h).grow (ys := r.needs) rfl hown5 hg5 hb5
      rw [Nat.zero_add]
      refine hK _ _ (fun _ => Cl.of F5.ext) ?_
      clear hK K hown5 hg5 hb5 hRn
      simp only [Act.put, List.setIfInBounds_toArray, List.set_cons_succ, List.set_cons_zero]
      obtain ⟨ξe, hξe⟩ : ∃ ξe : X w0 No, ξe.v = w5 := ⟨⟨_, F5.ext⟩, rfl⟩
      rw [← hξe] at F5 ⊢
      clear hξe
      have F6 := Lib.hid F5
      clear F5
      (repeat' (refine Mix.lex_quiet0 rfl rfl rfl ?_; intro K hK; go_big_quiet_op; go_big_quiet_on))
      refine Mix.lex_goes0 rfl rfl ?_
      intro K hK
      have hRo := HR.out.o.ext ξe.h
      refine goes_append (v := .slice A2 r.needs.length c2) (n := r.needs.length) (xs := r.needs.flatMap fileF.enc) fl_ty rfl rfl rfl F6.out.own (hRo.rd (by decide)) (fl_enc1 _) (by omega) ?_
      intro A' c' w7 hown5 hg5 hb5
      have F7 := Lib.hid (F6.out.grow (ys := r.out) rfl hown5 hg5 hb5)
      refine hK _ _ (fun _ => Cl.of F7.out.ext) ?_
      clear hK K hown5 hg5 hb5 hRo F6
      simp only [Act.put, List.setIfInBounds_toArray, List.set_cons_succ, List.set_cons_zero]
      rw [← List.length_append]
      generalize r.needs ++ r.out = ys at F7 HT HLf hyl ⊢
      have XU2 : Hid (Ext w0 w7) := F7.out.ext
      have F := Lib.hid (F7.out.row (by decide))
      obtain ⟨ζ, hζ⟩ : ∃ ζ : X w7 No, ζ.v = w7 := ⟨X.here _ _, rfl⟩
      rw [← hζ]
      clear hζ F7
      (repeat' (refine Mix.lex_quiet0 rfl rfl rfl ?_; intro K hK; go_big_quiet_op; go_big_quiet_on))
      refine Mix.lex_nil ?_
      go_wp2_with fail
      go_loopw [3, 6] (fun s i wr => ∃ j : Nat, j ≤ ys.length ∧ i = .int .i64 j ∧ ∃ ac2 : Str, s = S ac2 ∧ ac2 = acc ++ (ys.take j).flatMap filT ∧ ac2.length ≤ 1020000 + 20100 * j ∧ ∃ ξ : X w7 No, wr = ξ.v) (fun _ i _ => ys.length - (intOf i).toNat)
      case atStart => exact ⟨0, Nat.zero_le _, rfl, acc, rfl, by simp, by have := HAl.out; omega, ζ, rfl⟩
      case round =>
        obtain ⟨j, hj, rfl, ac2, rfl, hA, hal, ξ2, rfl⟩ := hrel
        have HA := Lib.hid hA
        clear hA
        by_cases hlt2 : j < ys.length
        · obtain ⟨b, o, x, rfl, hx, c0, c1⟩ := files_get F.out hlt2
          obtain ⟨hxl1, hxl2⟩ := HLf.out x (List.mem_of_getElem? hx)
          have hil := HIx.out x.2.length (by omega)
          have HIc := Lib.hid (fun v (hv : Ext w7 v) => HI.out x.2.length v (by omega) (XU2.out.then_ext hv))
          have HS : Hid ((ys.take (j + 1)).flatMap filT = (ys.take j).flatMap filT ++ ([32] ++ x.1 ++ [32] ++ Lib.itoa x.2.length ++ [58] ++ x.2)) := by
            rw [Hid, List.take_add_one, hx, List.flatMap_append]; simp [filT]
          generalize Lib.itoa (x.2.length : Int) = il at hil HIc HS
          clear hx
          go_upto_region 10 with fail
          refine Mix.wp_draw [15] 100 (Cl w7 No) (by kernel_rfl) (by kernel_rfl) (Cl.of ξ2.h.drew) ?_
          obtain ⟨ν0, hν0⟩ : ∃ ν0 : X w7 No, ν0.v = ξ2.v.drew := ⟨⟨_, ξ2.h.drew⟩, rfl⟩
          rw [← hν0]
          clear hν0
          (repeat' (refine Mix.lex_quiet0 rfl rfl rfl ?_; intro K hK; go_big_quiet_op; go_big_quiet_on))
          ((first | refine Mix.lex_goes0 rfl rfl ?_ | refine Mix.lex_goesG rfl rfl rfl (by with_reducible rfl) rfl ?_); intro K hK; go_simp); refine (HIc.out _ ν0.h).mono ?_; rintro e uu ⟨rfl, hu⟩; obtain ⟨ν1, hnew⟩ : ∃ ξ : X w7 No, ξ.v = uu := ⟨⟨uu, ν0.h.then_ext hu⟩, rfl⟩; subst hnew; have Hν1 := Lib.hid hu; refine ⟨_, rfl, hK _ _ (fun _ => ⟨ν1, rfl⟩) ?_⟩; clear hK K hu; simp only [Act.put, List.setIfInBounds_toArray, List.set_cons_succ, List.set_cons_zero]; (repeat' (first | (refine Mix.lex_quiet0 rfl rfl rfl ?_; intro K hK; go_big_quiet_op; go_big_quiet_on) | (refine Mix.lex_quietG rfl rfl rfl (by with_reducible rfl) rfl rfl ?_; intro K hK; go_big_quiet_op; go_big_quiet_on) | ((first | refine Mix.lex_skipT rfl rfl rfl (by with_reducible rfl) ?_ | refine Mix.lex_skipF rfl rfl rfl (by with_reducible rfl) ?_ | refine Mix.lex_skipU rfl rfl rfl (by with_reducible rfl) ?_); simp only [Act.put, List.setIfInBounds_toArray, List.set_cons_succ, List.set_cons_zero]) | (refine Mix.lex_part rfl rfl rfl rfl (fun hq => ?_) (fun hq => ?_) <;> (fail_if_success (guard_hyp hq :ₛ true = true)) <;> (fail_if_success (guard_hyp hq :ₛ false = false)) <;> first | (exfalso; cases hq; done) | (exfalso; simp only [decide_eq_true_eq, decide_eq_false_iff_not, beq_iff_eq, beq_eq_false_iff_ne, ne_eq, Int.not_lt, Int.not_le] at hq; omega) | simp only [Act.put, List.setIfInBounds_toArray, List.set_cons_succ, List.set_cons_zero])))
          refine Mix.lex_nil ?_
          go_wp2_with fail
          go_roundw
          case rel => exact ⟨j + 1, by omega, by go_num, _, rfl, by rw [HS.out, HA.out]; simp, by simp only [List.length_append, List.length_cons]; omega, ν1, rfl⟩
          case measure => simp [intOf]; omega
        · have HRes : Hid (R = ac2) := by
            have := HA.out
            rw [List.take_of_length_le (by omega)] at this
            rw [Hid, HT.out, this, HA2.out]
          clear HA
          go_wp2_with fail
          go_ret
          rw [HRes.out]
          exact ⟨rfl, HX0.out.then_ext (XU2.out.then_ext ξ2.h)⟩
end Go.Proofs.YtnhaekifcieeoaaGreatDoor
