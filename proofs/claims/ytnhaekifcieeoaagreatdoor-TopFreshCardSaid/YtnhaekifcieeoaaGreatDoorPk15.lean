/- Put together: Join, Auto, Tree. -/
import Derived.Test.YtnhaekifcieeoaaGreatDoorPk14
import Derived.Test.YtnhaekifcieeoaaGreatDoorPk03
import Derived.Test.YtnhaekifcieeoaaGreatDoorPk09
import Derived.Test.YtnhaekifcieeoaaGreatDoorPk01
namespace Go.Proofs.YtnhaekifcieeoaaGreatDoor
open Go Go.RowKit
theorem Only.thenBelow {w u v : World} (h : Ext w u) (k : Below w.heap.size u v) : Ext w v := ⟨k.os.trans h.os, k.tape.trans h.tape, k.output.trans h.output, Nat.le_trans h.size k.size, fun b hb hn => (k.block b hb).trans (h.block b hb hn)⟩
def sumLen (l : List Str) : Nat := (l.map List.length).sum
theorem sumLen_le {l : List Str} {K : Nat} (h : ∀ x ∈ l, x.length ≤ K) : sumLen l ≤ l.length * K := by
  unfold sumLen
  induction l with
  | nil => simp
  | cons x l ih =>
    have h1 := h x (by simp)
    have h2 := ih fun y hy => h y (List.mem_cons_of_mem _ hy)
    simp only [List.map_cons, List.sum_cons, List.length_cons, Nat.succ_mul]
    omega
set_option maxRecDepth 100000 in
set_option maxHeartbeats 4000000 in
theorem Join_c {w : World} {A : Option Addr} {n cp : Nat} {l : List Str} (h : SlR strF w A n l) (hn : n ≤ 5) (hcp : n ≤ cp) (hl : ∀ x ∈ l, x.length ≤ 1000000) :
    Calls Tryz.prog 149 #[.slice A n cp, S [32]] w fun e w' => e = .returned (S (joinSp l)) ∧ Ext w w' := by
  have hll := h.1
  by_cases h0 : n = 0
  · subst h0
    have hl0 := h.nil_
    subst hl0
    go_enter Tryz.func149, Tryz.ntmps149
    go_wp2_with fail
    go_ret
    exact ⟨rfl, Only.refl _ _⟩
  by_cases h1 : n = 1
  · subst h1
    obtain ⟨x, rfl⟩ : ∃ x, l = [x] := by
      match l, hll with
      | [x], _ => exact ⟨x, rfl⟩
    obtain ⟨bb, o, s, rfl, hx, c0⟩ := strs_get h (k := 0) (by omega)
    obtain rfl : x = s := Option.some.inj hx
    have c00 : w.cell? ⟨bb, o, none⟩ = some (S x) := c0 (X.here w No)
    clear h c0 hx
    go_enter Tryz.func149, Tryz.ntmps149
    go_wp2_with fail
    go_ret
    exact ⟨rfl, Only.refl _ _⟩
  have H := Lib.hid h
  have HL := Lib.hid hl
  clear h hl
  have hq : ¬ (9223372036854775807 / ((n : Int) - 1) ≤ 1) := by
    have : n = 2 ∨ n = 3 ∨ n = 4 ∨ n = 5 := by omega
    rcases this with rfl | rfl | rfl | rfl <;> decide
  have h0b : (((n : Nat) : Int) == 0) = false := by rw [beq_eq_false_iff_ne]; omega
  have h1b : (((n : Nat) : Int) == 1) = false := by rw [beq_eq_false_iff_ne]; omega
  have hz : ¬ ((n : Int) - 1 = 0) := by omega
  have hsum : ∀ k, sumLen (l.take k) ≤ 5000000 := fun k => by
    have h1 := sumLen_le (l := l.take k) (K := 1000000) fun x hx => HL.out x (List.mem_of_mem_take hx)
    have h2 : (l.take k).length ≤ 5 := by rw [List.length_take]; omega
    have h3 : (l.take k).length * 1000000 ≤ 5 * 1000000 := Nat.mul_le_mul_right _ h2
    omega
  have HS := Lib.hid hsum
  clear hsum
  go_enter Tryz.func149, Tryz.ntmps149
  go_upto_region 12 with fail
  go_loopw [5, 7, 41] (fun x5 _ x41 wr => ∃ k : Nat, k ≤ n ∧ x5 = .int .i64 ((n - 1 + sumLen (l.take k) : Nat) : Int) ∧ x41 = .int .i64 (k : Int) ∧ wr = w) (fun _ _ x41 _ => n - (intOf x41).toNat)
  case atStart => exact ⟨0, Nat.zero_le _, by simp [sumLen]; omega, rfl, rfl⟩
  case round =>
    obtain ⟨k, hk, rfl, rfl, rfl⟩ := hrel
    have hk5 := HS.out k
    by_cases hlt : k < n
    · obtain ⟨bb, o, x, rfl, hx, c0⟩ := strs_get H.out hlt
      have hxl := HL.out x (List.mem_of_getElem? hx)
      have c00 : wr.cell? ⟨bb, o + k, none⟩ = some (S x) := c0 (X.here _ No)
      have hs1 : sumLen (l.take (k + 1)) = sumLen (l.take k) + x.length := by
        rw [List.take_add_one, hx]; simp [sumLen]
      have HS1 := Lib.hid hs1
      obtain ⟨T, hT⟩ : ∃ T, T = sumLen (l.take k) := ⟨_, rfl⟩
      rw [← hT] at HS1 hk5 ⊢
      clear hT hs1 c0 hx
      go_wp2_with fail
      all_goals try (exfalso; simp only [decide_eq_true_eq, decide_eq_false_iff_not, beq_iff_eq, beq_eq_false_iff_ne, ne_eq, Int.not_lt, Int.not_le, Bool.not_eq_true, Bool.not_eq_false, Bool.or_eq_true, Bool.or_eq_false_iff, Bool.and_eq_true, Bool.and_eq_false_iff, Bool.not_eq_eq_eq_not, Bool.not_true, Bool.not_false] at *; omega)
      go_roundw
      case rel => exact ⟨k + 1, by omega, by rw [HS1.out]; go_num, by go_num, by trivial⟩
      case measure => simp [intOf]; omega
    · obtain rfl : k = n := by omega
      obtain ⟨w, hw0⟩ : ∃ u, u = wr := ⟨_, rfl⟩
      subst hw0
      clear hk hlt hk5
      have hT5 := HS.out k
      have HTk : Hid (l.take k = l) := List.take_of_length_le (by omega)
      rw [HTk.out] at hT5 ⊢
      obtain ⟨N, hN⟩ : ∃ N, N = k - 1 + sumLen l := ⟨_, rfl⟩
      rw [← hN]
      have hN2 : N ≤ 5000010 := by omega
      obtain ⟨w1, hw1⟩ : ∃ u, u = w.alloc (.cells #[.pointer none, .slice none 0 0] bldT) := ⟨_, rfl⟩
      obtain ⟨b, hb⟩ : ∃ b, b = w.heap.size := ⟨_, rfl⟩
      have X1 : Hid (Ext w w1) := by rw [hw1]; exact (Only.refl No w).alloc _
      have HGr := Lib.hid (Tryz.Builder_Grow_fresh w.heap.size b N w1 (Nat.le_of_eq hb.symm) (by rw [hw1, hb]; exact Cs.new _ _ _) X1.out.size (by omega))
      clear hN
      go_upto_region 19 with fail
      rw [← hw1, ← hb]
      clear hw1 hb
      go_wp2_with fail
      refine HGr.out.mono ?_
      rintro e w2 ⟨rfl, hB, hbl⟩
      have X2 : Hid (Ext w w2) := X1.out.thenBelow hbl
      have HB2 : Hid (Lib.IsBuilderF bldT byT w.heap.size b (Lib.byteCells []) w2) := .inr (Lib.BuilderAtF.of hB)
      clear hB hbl HGr X1
      obtain ⟨bb, o, x, rfl, hx, c0⟩ := strs_get H.out (k := 0) (by omega)
      have hxl := HL.out x (List.mem_of_getElem? hx)
      have c00 : w2.cell? ⟨bb, o, none⟩ = some (S x) := c0 ⟨w2, X2.out⟩
      have hT1 : Hid (l.take (0 + 1) = [x]) := by rw [List.take_add_one, hx]; rfl
      have HW1 := Lib.hid (WriteStr_k w.heap.size b _ ⟨x.toArray⟩ w2 HB2.out (by show (Lib.byteCells []).length + x.length ≤ 140737488355328; simp [Lib.byteCells]; omega) X2.out.size)
      clear c0 hx
      go_wp2_with fail
      refine HW1.out.mono ?_
      rintro e w3 ⟨rfl, hB, hbl⟩
      have X3 : Hid (Ext w w3) := X2.out.thenBelow hbl
      have HB3 : Hid (Lib.IsBuilderF bldT byT w.heap.size b (Lib.byteCells (joinSp (l.take (0 + 1)))) w3) := by rw [hT1.out]; exact hB
      have hjl : ∀ j, (joinSp (l.take j)).length ≤ 10000000 := fun j => by
        have h1 := joinSp_len (l := l.take j) (K := 1000000) fun x hx => HL.out x (List.mem_of_mem_take hx)
        have h2 : (l.take j).length ≤ 5 := by rw [List.length_take]; omega
        have h3 : (l.take j).length * (1000000 + 1) ≤ 5 * (1000000 + 1) := Nat.mul_le_mul_right _ h2
        omega
      have HJl := Lib.hid hjl
      clear hB hbl HW1 X2 HB2 hjl hT1 c00 hxl
      go_wp2_with fail
      go_loopw [65] (fun x65 wr => ∃ j : Nat, j ≤ k - 1 ∧ x65 = .int .i64 (j : Int) ∧ Lib.IsBuilderF bldT byT w.heap.size b (Lib.byteCells (joinSp (l.take (j + 1)))) wr ∧ Ext w wr) (fun x65 _ => k - (intOf x65).toNat)
      case atStart => exact ⟨0, Nat.zero_le _, rfl, HB3.out, X3.out⟩
      case round =>
        clear HB3 X3
        obtain ⟨j, hj, rfl, hB, hX⟩ := hrel
        have HB := Lib.hid hB
        have HX := Lib.hid hX
        clear hB hX
        by_cases hlt : j < k - 1
        · obtain ⟨bb', o', x, e1, hx, c0⟩ := strs_get H.out (k := j + 1) (by omega)
          injection e1 with e1
          injection e1 with e1 e2
          subst e1; subst e2
          have hxl := HL.out x (List.mem_of_getElem? hx)
          have c00 : wr.cell? ⟨bb, o + 1 + j, none⟩ = some (S x) := by rw [show o + 1 + j = o + (j + 1) by omega]; exact c0 ⟨wr, HX.out⟩
          have hne : l.take (j + 1) ≠ [] := fun e => by
            have := congrArg List.length e
            rw [List.length_take] at this
            have this : min (j + 1) l.length = 0 := this
            omega
          have HE : Hid (Lib.byteCells (joinSp (l.take (j + 1))) ++ Lib.strCells ⟨[32].toArray⟩ ++ Lib.strCells ⟨x.toArray⟩ = Lib.byteCells (joinSp (l.take (j + 1 + 1)))) := by
            rw [List.take_add_one (i := j + 1), hx, Option.toList, joinSp_snoc _ _ hne, Lib.byteCells_append, List.append_assoc]
            rfl
          have hjj := HJl.out (j + 1)
          have HW2 := Lib.hid (WriteStr_k w.heap.size b _ ⟨[32].toArray⟩ wr HB.out (by show (Lib.byteCells (joinSp (l.take (j + 1)))).length + 1 ≤ 140737488355328; rw [Lib.byteCells_length]; omega) HX.out.size)
          clear c0 hx hne
          go_wp2_with fail
          refine HW2.out.mono ?_
          rintro e w5 ⟨rfl, hB, hbl⟩
          have X5 : Hid (Ext w w5) := HX.out.thenBelow hbl
          have HW3 := Lib.hid (WriteStr_k w.heap.size b _ ⟨x.toArray⟩ w5 hB (by show (Lib.byteCells (joinSp (l.take (j + 1))) ++ Lib.strCells ⟨[32].toArray⟩).length + x.length ≤ 140737488355328; rw [List.length_append, Lib.byteCells_length]; show _ + 1 + _ ≤ _; omega) X5.out.size)
          clear hB hbl HW2 HB HX c00
          go_wp2_with fail
          refine HW3.out.mono ?_
          rintro e w6 ⟨rfl, hB, hbl⟩
          have X6 : Hid (Ext w w6) := X5.out.thenBelow hbl
          have HB6 : Hid (Lib.IsBuilderF bldT byT w.heap.size b (Lib.byteCells (joinSp (l.take (j + 1 + 1)))) w6) := by rw [← HE.out]; exact hB
          clear hB hbl HW3 X5
          go_wp2_with fail
          go_roundw
          case rel => exact ⟨j + 1, by omega, by go_num, HB6.out, X6.out⟩
          case measure => simp [intOf]; omega
        · obtain rfl : j = k - 1 := by omega
          have HSt := Lib.hid (Tryz.Builder_String_any_k w.heap.size b _ wr HB.out HX.out.size)
          go_wp2_with fail
          refine HSt.out.mono ?_
          rintro e w5 ⟨rfl, _, hbl, _⟩
          have X5 : Hid (Ext w w5) := HX.out.thenBelow hbl
          have HE : Hid (l.take (k - 1 + 1) = l) := List.take_of_length_le (by omega)
          rw [HE.out]
          clear hbl HSt
          go_wp2_with fail
          go_ret
          exact ⟨rfl, X5.out⟩
theorem sl_new {w : World} {g : Nat} {t : TypeId} {l : List Str} (h : Cs w g t (l.map S).toArray) : SlR strF w (some ⟨g, 0, none⟩) l.length l :=
  ⟨rfl, fun _ => ⟨g, 0, rfl, h.lt, fun k x hx j u hu => by
    obtain ⟨rfl, rfl⟩ : j = 0 ∧ u = S x := by
      match j, hu with
      | 0, hu => exact ⟨rfl, (Option.some.inj hu).symm⟩
    rw [h.cell, show 0 + k * strF.size + 0 = k by simp [strF], List.getElem?_toArray, List.getElem?_map, hx]
    rfl⟩⟩
set_option maxRecDepth 100000 in
set_option maxHeartbeats 4000000 in
theorem Auto_c {w : World} {At An : Option Addr} {nt nn ct cn : Nat} {ts ns : List Str} (ht : SlR strF w At nt ts) (h1 : 1 ≤ nt) (hn : SlR strF w An nn ns) (hn5 : nn ≤ 5) (hcn : nn ≤ cn) (s stem : Str) (hs : s.length ≤ 1000)
    (h2 : ∀ x ∈ ts, x.length ≤ 1000) (h3 : ∀ x ∈ ns, x.length ≤ 1000) (h4 : stem.length ≤ 1000) :
    Calls Tryz.prog 118 #[S s, .slice At nt ct, .slice An nn cn, S stem] w fun e w' => e = .returned (S (autoF (keyV (ts.headD []) (ns.headD []) (joinSp ns) stem) s)) ∧ Ext w w' := by
  have hjl : (joinSp ns).length ≤ 5005 := by
    have a1 := joinSp_len (l := ns) (K := 1000) h3
    have a2 : ns.length * (1000 + 1) ≤ 5 * (1000 + 1) := Nat.mul_le_mul_right _ (by rw [hn.1]; exact hn5)
    omega
  obtain ⟨bb, o, x, rfl, hx, c0⟩ := strs_get ht (k := 0) (by omega)
  have hx1 : ts.headD [] = x := by
    match ts, hx with
    | y :: r, hx => exact Option.some.inj hx
  have hxl := h2 x (List.mem_of_getElem? hx)
  have c00 : ∀ ξ : X w No, ξ.v.cell? ⟨bb, o, none⟩ = some (S x) := c0
  obtain ⟨f, hf⟩ : ∃ f, f = ns.headD [] := ⟨_, rfl⟩
  have hfl : f.length ≤ 1000 := by
    rw [hf]
    match ns, h3 with
    | [], _ => exact Nat.zero_le _
    | y :: r, h3 => exact h3 y (by simp)
  obtain ⟨J, hJ⟩ : ∃ J, J = joinSp ns := ⟨_, rfl⟩
  have hAl : (autoF (keyV x f J stem) s).length ≤ 100000000 := by
    have a1 := autoF_len (keyV_len (K := 5005) (t := x) (f := f) (n := J) (k := stem) (by omega) (by omega) (by rw [hJ]; exact hjl) (by omega)) s
    have a2 : s.length * (5005 + 1) ≤ 1000 * (5005 + 1) := Nat.mul_le_mul_right _ hs
    omega
  have HJ : Hid (∀ u, Ext w u → Calls Tryz.prog 149 #[.slice An nn cn, S [32]] u fun e w' => e = .returned (S J) ∧ Ext u w') := fun u hu => by
    rw [hJ]; exact Join_c (hn.ext hu) hn5 hcn fun x hx => Nat.le_trans (h3 x hx) (by omega)
  rw [hx1, ← hf, ← hJ]
  have HF : Hid (nn = 0 ∧ f = [] ∨ 0 < nn ∧ ∃ b2 o2, An = some ⟨b2, o2, none⟩ ∧ w.cell? ⟨b2, o2, none⟩ = some (S f)) := by
    rcases Nat.eq_zero_or_pos nn with h0 | h0
    · subst h0
      have := hn.nil_
      subst this
      exact .inl ⟨rfl, hf⟩
    · obtain ⟨b2, o2, y, e, hy, cy⟩ := strs_get hn (k := 0) h0
      have : f = y := by
        rw [hf]
        match ns, hy with
        | z :: r, hy => exact Option.some.inj hy
      exact .inr ⟨h0, b2, o2, e, by rw [this]; exact cy (X.here w No)⟩
  have HA := Lib.hid hAl
  clear ht hn h2 h3 hx hf hJ hjl c0 hx1 hAl hfl
  go_enter Tryz.func118, Tryz.ntmps118
  have hsplit : nn = 0 ∧ f = [] ∨ 0 < nn ∧ ∃ b2 o2, An = some ⟨b2, o2, none⟩ ∧ w.cell? ⟨b2, o2, none⟩ = some (S f) := HF.out
  rcases hsplit with ⟨rfl, rfl⟩ | ⟨h0, b2, o2, rfl, cf⟩
  · go_upto_region 4 with fail
    clear HF
    (refine Mix.wp_draw [5, 7, 8, 10] 100 (Cl (w) (No)) (by kernel_rfl) (by kernel_rfl) (Cl.drew_ (X.here w No)) ?_; (repeat' (first | (refine Mix.lex_quiet0 rfl rfl rfl ?_; intro K hK; go_big_quiet_op; go_big_quiet_on) | (refine Mix.lex_quietG rfl rfl rfl (by with_reducible rfl) rfl rfl ?_; intro K hK; go_big_quiet_op; go_big_quiet_on) | ((first | refine Mix.lex_skipT rfl rfl rfl (by with_reducible rfl) ?_ | refine Mix.lex_skipF rfl rfl rfl (by with_reducible rfl) ?_ | refine Mix.lex_skipU rfl rfl rfl (by with_reducible rfl) ?_); simp only [Act.put, List.setIfInBounds_toArray, List.set_cons_succ, List.set_cons_zero]) | (refine Mix.lex_part rfl rfl rfl rfl (fun hq => ?_) (fun hq => ?_) <;> (fail_if_success (guard_hyp hq :ₛ true = true)) <;> (fail_if_success (guard_hyp hq :ₛ false = false)) <;> first | (exfalso; cases hq; done) | (exfalso; simp only [decide_eq_true_eq, decide_eq_false_iff_not, beq_iff_eq, beq_eq_false_iff_ne, ne_eq, Int.not_lt, Int.not_le] at hq; omega) | simp only [Act.put, List.setIfInBounds_toArray, List.set_cons_succ, List.set_cons_zero]))))
    ((first | refine Mix.lex_goes0 rfl rfl ?_ | refine Mix.lex_goesG rfl rfl rfl (by with_reducible rfl) rfl ?_); intro K hK; go_simp)
    refine (HJ.out _ (Only.refl No w).drew).mono ?_
    rintro e u1 ⟨rfl, hu1⟩
    have X1 : Hid (Ext w u1) := (Only.refl No w).drew.then_ext hu1
    refine ⟨_, rfl, hK _ _ (fun _ => Cl.of X1.out) ?_⟩
    clear hK K hu1 HJ
    simp only [Act.put, List.setIfInBounds_toArray, List.set_cons_succ, List.set_cons_zero]
    (repeat' (refine Mix.lex_quiet0 rfl rfl rfl ?_; intro K hK; go_big_quiet_op; go_big_quiet_on))
    ((first | refine Mix.lex_goes0 rfl rfl ?_ | refine Mix.lex_goesG rfl rfl rfl (by with_reducible rfl) rfl ?_); intro K hK; go_simp)
    suffices key : ∀ u2, u2 = u1.alloc (.cells ([[36, 64], x, [36, 60], [], [36, 94], J, [36, 42], stem].map S).toArray 9) → K (.slice (some ⟨u1.heap.size, 0, none⟩) 8 8) u2 from key _ rfl
    intro u2 hu2
    have X2 : Hid (Ext w u2) := by rw [hu2]; exact X1.out.alloc _
    have HN := Lib.hid (NewRep_c (w := u2) (A := some ⟨u1.heap.size, 0, none⟩) (cp := 8) (l := [[36, 64], x, [36, 60], [], [36, 94], J, [36, 42], stem]) (sl_new (by rw [hu2]; exact Cs.new _ _ _)))
    clear hu2
    refine hK _ _ (fun _ => Cl.of X2.out) ?_
    clear hK K X1
    simp only [Act.put, List.setIfInBounds_toArray, List.set_cons_succ, List.set_cons_zero]
    (repeat' (refine Mix.lex_quiet0 rfl rfl rfl ?_; intro K hK; go_big_quiet_op; go_big_quiet_on))
    ((first | refine Mix.lex_goes0 rfl rfl ?_ | refine Mix.lex_goesG rfl rfl rfl (by with_reducible rfl) rfl ?_); intro K hK; go_simp)
    refine HN.out.mono ?_
    rintro e u3 ⟨r, A3, c3, rfl, hr, hC, hS, hx3⟩
    have X3 : Hid (Ext w u3) := X2.out.then_ext hx3
    have HR := Lib.hid (Replace_c hC hS s (by omega) HA.out)
    have hrw : w.heap.size ≤ r := Nat.le_trans X2.out.size hr
    refine ⟨_, rfl, hK _ _ (fun _ => Cl.of X3.out) ?_⟩
    clear hK K X2 hC hS hx3 hr HN
    simp only [Act.put, List.setIfInBounds_toArray, List.set_cons_succ, List.set_cons_zero]
    (repeat' (refine Mix.lex_quiet0 rfl rfl rfl ?_; intro K hK; go_big_quiet_op; go_big_quiet_on))
    ((first | refine Mix.lex_goes0 rfl rfl ?_ | refine Mix.lex_goesG rfl rfl rfl (by with_reducible rfl) rfl ?_); intro K hK; go_simp)
    refine HR.out.mono ?_
    rintro e u4 ⟨rfl, hx4⟩
    have X4 : Hid (Ext w u4) := X3.out.trans hx4 fun b hb e => by have e : b = r := e; omega
    refine ⟨_, rfl, hK _ _ (fun _ => Cl.of X4.out) ?_⟩
    clear hK K X3 HR hx4
    simp only [Act.put, List.setIfInBounds_toArray, List.set_cons_succ, List.set_cons_zero]
    (repeat' (refine Mix.lex_quiet0 rfl rfl rfl ?_; intro K hK; go_big_quiet_op; go_big_quiet_on))
    refine Mix.lex_nil ?_
    go_wp2_with fail
    go_ret
    exact ⟨rfl, X4.out⟩
  · go_upto_region 4 with fail
    clear HF
    (refine Mix.wp_draw [5, 7, 8, 10] 100 (Cl (w) (No)) (by kernel_rfl) (by kernel_rfl) (Cl.drew_ (X.here w No)) ?_; (repeat' (first | (refine Mix.lex_quiet0 rfl rfl rfl ?_; intro K hK; go_big_quiet_op; go_big_quiet_on) | (refine Mix.lex_quietG rfl rfl rfl (by with_reducible rfl) rfl rfl ?_; intro K hK; go_big_quiet_op; go_big_quiet_on) | ((first | refine Mix.lex_skipT rfl rfl rfl (by with_reducible rfl) ?_ | refine Mix.lex_skipF rfl rfl rfl (by with_reducible rfl) ?_ | refine Mix.lex_skipU rfl rfl rfl (by with_reducible rfl) ?_); simp only [Act.put, List.setIfInBounds_toArray, List.set_cons_succ, List.set_cons_zero]) | (refine Mix.lex_part rfl rfl rfl rfl (fun hq => ?_) (fun hq => ?_) <;> (fail_if_success (guard_hyp hq :ₛ true = true)) <;> (fail_if_success (guard_hyp hq :ₛ false = false)) <;> first | (exfalso; cases hq; done) | (exfalso; simp only [decide_eq_true_eq, decide_eq_false_iff_not, beq_iff_eq, beq_eq_false_iff_ne, ne_eq, Int.not_lt, Int.not_le] at hq; omega) | simp only [Act.put, List.setIfInBounds_toArray, List.set_cons_succ, List.set_cons_zero]))))
    ((first | refine Mix.lex_goes0 rfl rfl ?_ | refine Mix.lex_goesG rfl rfl rfl (by with_reducible rfl) rfl ?_); intro K hK; go_simp)
    refine (HJ.out _ (Only.refl No w).drew).mono ?_
    rintro e u1 ⟨rfl, hu1⟩
    have X1 : Hid (Ext w u1) := (Only.refl No w).drew.then_ext hu1
    refine ⟨_, rfl, hK _ _ (fun _ => Cl.of X1.out) ?_⟩
    clear hK K hu1 HJ
    simp only [Act.put, List.setIfInBounds_toArray, List.set_cons_succ, List.set_cons_zero]
    (repeat' (refine Mix.lex_quiet0 rfl rfl rfl ?_; intro K hK; go_big_quiet_op; go_big_quiet_on))
    ((first | refine Mix.lex_goes0 rfl rfl ?_ | refine Mix.lex_goesG rfl rfl rfl (by with_reducible rfl) rfl ?_); intro K hK; go_simp)
    suffices key : ∀ u2, u2 = u1.alloc (.cells ([[36, 64], x, [36, 60], f, [36, 94], J, [36, 42], stem].map S).toArray 9) → K (.slice (some ⟨u1.heap.size, 0, none⟩) 8 8) u2 from key _ rfl
    intro u2 hu2
    have X2 : Hid (Ext w u2) := by rw [hu2]; exact X1.out.alloc _
    have HN := Lib.hid (NewRep_c (w := u2) (A := some ⟨u1.heap.size, 0, none⟩) (cp := 8) (l := [[36, 64], x, [36, 60], f, [36, 94], J, [36, 42], stem]) (sl_new (by rw [hu2]; exact Cs.new _ _ _)))
    clear hu2
    refine hK _ _ (fun _ => Cl.of X2.out) ?_
    clear hK K X1
    simp only [Act.put, List.setIfInBounds_toArray, List.set_cons_succ, List.set_cons_zero]
    (repeat' (refine Mix.lex_quiet0 rfl rfl rfl ?_; intro K hK; go_big_quiet_op; go_big_quiet_on))
    ((first | refine Mix.lex_goes0 rfl rfl ?_ | refine Mix.lex_goesG rfl rfl rfl (by with_reducible rfl) rfl ?_); intro K hK; go_simp)
    refine HN.out.mono ?_
    rintro e u3 ⟨r, A3, c3, rfl, hr, hC, hS, hx3⟩
    have X3 : Hid (Ext w u3) := X2.out.then_ext hx3
    have HR := Lib.hid (Replace_c hC hS s (by omega) HA.out)
    have hrw : w.heap.size ≤ r := Nat.le_trans X2.out.size hr
    refine ⟨_, rfl, hK _ _ (fun _ => Cl.of X3.out) ?_⟩
    clear hK K X2 hC hS hx3 hr HN
    simp only [Act.put, List.setIfInBounds_toArray, List.set_cons_succ, List.set_cons_zero]
    (repeat' (refine Mix.lex_quiet0 rfl rfl rfl ?_; intro K hK; go_big_quiet_op; go_big_quiet_on))
    ((first | refine Mix.lex_goes0 rfl rfl ?_ | refine Mix.lex_goesG rfl rfl rfl (by with_reducible rfl) rfl ?_); intro K hK; go_simp)
    refine HR.out.mono ?_
    rintro e u4 ⟨rfl, hx4⟩
    have X4 : Hid (Ext w u4) := X3.out.trans hx4 fun b hb e => by have e : b = r := e; omega
    refine ⟨_, rfl, hK _ _ (fun _ => Cl.of X4.out) ?_⟩
    clear hK K X3 HR hx4
    simp only [Act.put, List.setIfInBounds_toArray, List.set_cons_succ, List.set_cons_zero]
    (repeat' (refine Mix.lex_quiet0 rfl rfl rfl ?_; intro K hK; go_big_quiet_op; go_big_quiet_on))
    refine Mix.lex_nil ?_
    go_wp2_with fail
    go_ret
    exact ⟨rfl, X4.out⟩
namespace Mix
section
variable {P : Program} {ops : Array Oper} {md : Region.Mode} {C : World → Prop} {E : List Nat} {Q : Act → World → Prop}
def freeI (md : Region.Mode) (ops : Array Oper) (listed : Array Bool) (i : Nat) : Bool :=
  match ops[i]? with
  | none => false
  | some oi => !callB oi && (List.range ops.size).all fun j => j == i || listed.getD j true || (match ops[j]? with | none => true | some oj => oj.after.any (fun e => Region.binds md e && e.on == i) || oi.apart ops oj)
def pick (md : Region.Mode) (ops : Array Oper) (E : List Nat) (listed : Array Bool) : Option Nat := (Region.ready md ops listed).find? fun i => !E.contains i && freeI md ops listed i
def treeB (md : Region.Mode) (ops : Array Oper) (E : List Nat) : Nat → Array Bool → Bool
  | 0, l => (Region.ready md ops l).isEmpty
  | f + 1, l => match pick md ops E l with
    | some i => treeB md ops E f (l.setIfInBounds i true)
    | none => !(Region.ready md ops l).isEmpty && (Region.ready md ops l).all fun i => E.contains i && treeB md ops E f (l.setIfInBounds i true)
def tree (P : Program) (md : Region.Mode) (ops : Array Oper) (C : World → Prop) (E : List Nat) (Q : Act → World → Prop) : Nat → Array Bool → Act → World → Prop
  | 0, _, a, w => Q a w
  | f + 1, l, a, w => match pick md ops E l with
    | some i => mOp P ops C E ops.size i (tree P md ops C E Q f (l.setIfInBounds i true)) a w
    | none => ∀ i ∈ Region.ready md ops l, mOp P ops C E ops.size i (tree P md ops C E Q f (l.setIfInBounds i true)) a w
theorem any_tree (hs : Region.noSelect ops = true) : ∀ (f : Nat) (l : Array Bool) (a : Act) (w : World), C w → treeB md ops E f l = true → tree P md ops C E Q f l a w → any P md ops C E ops.size Q f l a w
  | 0, l, a, w, _, hB, h => ⟨by simpa [treeB] using hB, h⟩
  | f + 1, l, a, w, hC, hB, h => by
    have hN : ops[ops.size]? = none := Array.getElem?_eq_none (Nat.le_refl _)
    unfold treeB at hB
    unfold tree at h
    cases hp : pick md ops E l with
    | some i =>
      rw [hp] at hB h
      simp only at hB h
      have hmem := List.mem_of_find?_eq_some hp
      have hsat := List.find?_some hp
      simp only [Bool.and_eq_true, Bool.not_eq_true'] at hsat
      obtain ⟨hE, hF⟩ := hsat
      unfold freeI at hF
      cases ho : ops[i]? with
      | none => rw [ho] at hF; cases hF
      | some oi =>
        rw [ho] at hF
        simp only [Bool.and_eq_true, Bool.not_eq_true', List.all_eq_true, List.mem_range, Bool.or_eq_true, beq_iff_eq] at hF
        obtain ⟨hc, hF⟩ := hF
        obtain ⟨v, hy, hK⟩ := yields_of_mOp ho hE h
        have hil : i < ops.size := (Array.getElem?_eq_some_iff.1 ho).1
        refine any_first_quiet ho hE hc (by omega) (fun _ => False) (fun j hj => hj.elim) (.inl hN) (Region.noSelect_spec hs) f l a w hC (fun j hj => hj.elim) (fun j oj hoj hji hun hno => ?_) hmem hy
          (any_tree hs f _ _ w hC hB hK)
        have hjl : j < ops.size := (Array.getElem?_eq_some_iff.1 hoj).1
        rcases hF j hjl with (h' | h') | h'
        · exact absurd h' hji
        · rw [hun] at h'; cases h'
        · rw [hoj] at h'
          simp only [Bool.or_eq_true] at h'
          rcases h' with h' | h'
          · obtain ⟨e, he, hb⟩ := Array.any_eq_true'.1 h'
            simp only [Bool.and_eq_true, beq_iff_eq] at hb
            exact absurd hb.2 (hno e he hb.1)
          · exact h'
    | none =>
      rw [hp] at hB h
      simp only [Bool.and_eq_true, Bool.not_eq_true', List.all_eq_true] at hB h
      refine ⟨fun he => ?_, fun i hi => ?_⟩
      · rw [he] at hB; simp at hB
      · obtain ⟨hEi, hBi⟩ := hB.2 i hi
        have hm := h i hi
        obtain ⟨_, o, ho, _⟩ := mem_ready.1 hi
        have hil : i < ops.size := (Array.getElem?_eq_some_iff.1 ho).1
        have after : ∀ a' w', C w' → tree P md ops C E Q f (l.setIfInBounds i true) a' w' →
            (if i = ops.size then Region.ready md ops (l.setIfInBounds i true) = [] ∧ Q a' w' else any P md ops C E ops.size Q f (l.setIfInBounds i true) a' w') := fun a' w' c hK => by
          rw [if_neg (by omega)]
          exact any_tree hs f _ _ w' c hBi hK
        unfold mOp at hm ⊢
        simp only [ho] at hm ⊢
        unfold step at hm ⊢
        split
        · rename_i hw
          rw [if_pos hw, if_pos hEi] at hm
          exact goesUpon_mono (fun v w' ⟨c, hK⟩ => ⟨c, after _ w' (c (by omega)) hK⟩) hm
        · rename_i hw
          rw [if_neg hw] at hm
          exact after _ w hC hm
theorem wp_tree {id : Nat} {Q : Exit → Act → World → Prop} {a : Act} {w : World} {l : List Oper} (n : Nat) (E : List Nat) (C : World → Prop) (hn : l.length = n) (hm : P.follows .mixedOrders = true)
    (hB : (Region.noSelect l.toArray && treeB .any l.toArray E n (Array.replicate n false)) = true) (hC : C w.drew)
    (h : tree P .any l.toArray C E (fun a' w' => Q .normal a' w') n (Array.replicate n false) a w.drew) : (Code.region id l.toArray true).wp P Q a w := by
  subst hn
  simp only [Bool.and_eq_true] at hB
  refine wp_region_any hm (wpAny_of_any (C := C) (E := E) (N := l.toArray.size) _ _ _ _ hC ?_)
  have := any_tree hB.1 l.length (Array.replicate l.length false) a _ hC hB.2 h
  simpa using this
variable {f : Nat} {l : Array Bool} {a : Act} {w : World}
theorem tree_nil (h : Q a w) : tree P md ops C E Q 0 l a w := h
theorem tree_quiet {L : List Oper} {i : Nat} {o : Oper} (hp : pick md L.toArray E l = some i) (ho : L[i]? = some o) (hg : o.guard = none) (hE : E.contains i = false) (hc : callB o = false)
    (h : ∀ K : Act → Prop, (∀ a', tree P md L.toArray C E Q f (l.setIfInBounds i true) a' w → K a') → o.quiet P a C K) : tree P md L.toArray C E Q (f + 1) l a w := by
  rw [← List.getElem?_toArray] at ho
  unfold tree
  rw [hp]
  unfold mOp step
  simp only [ho]
  rw [if_pos (wanted_none hg), if_neg (by rw [hE]; exact Bool.false_ne_true)]
  exact ⟨hc, h _ fun _ h => h⟩
theorem goes_step {L : List Oper} {i : Nat} {o : Oper} (ho : L[i]? = some o) (hg : o.guard = none) (hE : E.contains i = true) {R : Act → World → Prop}
    (h : ∀ K : Value → World → Prop, (∀ v w', C w' → R (a.put o.dst v) w' → K v w') → goes P o a w K) : mOp P L.toArray C E L.toArray.size i R a w := by
  rw [← List.getElem?_toArray] at ho
  unfold mOp step
  simp only [ho]
  rw [if_pos (wanted_none hg), if_pos hE]
  exact h _ fun _ _ h1 h2 => ⟨fun _ => h1, h2⟩
theorem tree_one {L : List Oper} {i : Nat} {o : Oper} (hp : pick md L.toArray E l = none) (hr : Region.ready md L.toArray l = [i]) (ho : L[i]? = some o) (hg : o.guard = none) (hE : E.contains i = true)
    (h : ∀ K : Value → World → Prop, (∀ v w', C w' → tree P md L.toArray C E Q f (l.setIfInBounds i true) (a.put o.dst v) w' → K v w') → goes P o a w K) : tree P md L.toArray C E Q (f + 1) l a w := by
  unfold tree
  rw [hp, hr]
  simp only [List.mem_singleton, forall_eq]
  exact goes_step ho hg hE h
theorem tree_two {L : List Oper} {i j : Nat} {o o' : Oper} (hp : pick md L.toArray E l = none) (hr : Region.ready md L.toArray l = [i, j]) (ho : L[i]? = some o) (ho' : L[j]? = some o') (hg : o.guard = none) (hg' : o'.guard = none) (hE : E.contains i = true) (hE' : E.contains j = true)
    (h : ∀ K : Value → World → Prop, (∀ v w', C w' → tree P md L.toArray C E Q f (l.setIfInBounds i true) (a.put o.dst v) w' → K v w') → goes P o a w K)
    (h' : ∀ K : Value → World → Prop, (∀ v w', C w' → tree P md L.toArray C E Q f (l.setIfInBounds j true) (a.put o'.dst v) w' → K v w') → goes P o' a w K) : tree P md L.toArray C E Q (f + 1) l a w := by
  unfold tree
  rw [hp, hr]
  simp only [List.mem_cons, List.not_mem_nil, or_false, forall_eq_or_imp, forall_eq]
  exact ⟨goes_step ho hg hE h, goes_step ho' hg' hE' h'⟩
end
end Mix
end Go.Proofs.YtnhaekifcieeoaaGreatDoor
