/- Put together: St1. -/
import Derived.Laws.BitsAllLaws
import Derived.Test.YtaphmmobmadfoaaMc18
import Derived.Test.YtaphmmobmadfoaaMc19
import Derived.Test.YtaphmmobmadfoaaMc20
/- The store's heads. -/
namespace Go.Proofs.Ytaphmmobmadfoaa
open Go Go.RowKit
abbrev hdTy : TypeId := 73
theorem SFour_c (n : Nat) (w : World) : Calls Try.prog 59 #[.int .i64 n] w fun e w' => e = .returned (S (fourF n)) ∧ Ext w w' := by
  go_enter Try.func59, Try.ntmps59
  go_wp2_with (first | ((first | refine Mix.wpList_guarded rfl ?_ | refine Mix.wp_still (by kernel_rfl) (by kernel_rfl) ?_); (repeat' (first | (refine Mix.lex_quiet0 rfl rfl rfl ?_; intro K hK; go_big_quiet_op; go_big_quiet_on) | (refine Mix.lex_quietG rfl rfl rfl (by with_reducible rfl) rfl rfl ?_; intro K hK; go_big_quiet_op; go_big_quiet_on) | ((first | refine Mix.lex_skipT rfl rfl rfl (by with_reducible rfl) ?_ | refine Mix.lex_skipF rfl rfl rfl (by with_reducible rfl) ?_ | refine Mix.lex_skipU rfl rfl rfl (by with_reducible rfl) ?_); simp only [Act.put, List.setIfInBounds_toArray, List.set_cons_succ, List.set_cons_zero]) | (refine Mix.lex_part rfl rfl rfl rfl (fun hq => ?_) (fun hq => ?_) <;> (fail_if_success (guard_hyp hq :ₛ true = true)) <;> (fail_if_success (guard_hyp hq :ₛ false = false)) <;> first | (exfalso; cases hq; done) | (exfalso; simp only [decide_eq_true_eq, decide_eq_false_iff_not, beq_iff_eq, beq_eq_false_iff_ne, ne_eq, Int.not_lt, Int.not_le] at hq; omega) | simp only [Act.put, List.setIfInBounds_toArray, List.set_cons_succ, List.set_cons_zero]))); all_goals (refine Mix.lex_nil ?_)))
  go_ret
  exact ⟨rfl, (Only.refl _ _).alloc _⟩
theorem ofInt_i64 (a : Nat) (ha : a < 18446744073709551616) : (BitVec.ofInt 64 (a : Int)).toNat = a := by
  rw [BitVec.ofInt_natCast, BitVec.toNat_ofNat]; exact Nat.mod_eq_of_lt (by omega)
theorem i64_or_nat (a b : Nat) (ha : a < 9223372036854775808) (hb : b < 9223372036854775808) : bits .or .i64 (a : Int) (b : Int) = ((a ||| b : Nat) : Int) := by
  have hx : a ||| b < 2 ^ 63 := Nat.or_lt_two_pow (by omega) (by omega)
  show IntKind.i64.wrap ((BitVec.ofInt 64 (a : Int) ||| BitVec.ofInt 64 (b : Int)).toNat : Int) = _
  rw [BitVec.toNat_or, ofInt_i64 a (by omega), ofInt_i64 b (by omega), IntKind.wrap_i64]
  omega
theorem or_add (k a b : Nat) (h : a < 2 ^ k) : a ||| (b * 2 ^ k) = a + b * 2 ^ k := by
  rw [Nat.or_comm, ← Nat.shiftLeft_eq, ← Nat.shiftLeft_add_eq_or_of_lt h, Nat.add_comm]
def un4 (s : Str) (i : Nat) : Nat := (s.getD i 0).toNat + (s.getD (i + 1) 0).toNat * 256 + (s.getD (i + 2) 0).toNat * 65536 + (s.getD (i + 3) 0).toNat * 16777216
theorem un4_lt (s : Str) (i : Nat) : un4 s i < 4294967296 := by
  have h1 := (s.getD i 0).toNat_lt
  have h2 := (s.getD (i + 1) 0).toNat_lt
  have h3 := (s.getD (i + 2) 0).toNat_lt
  have h4 := (s.getD (i + 3) 0).toNat_lt
  unfold un4
  omega
theorem or_four (a b c d : UInt8) : bits .or .i64 (bits .or .i64 (bits .or .i64 (wrap64 (a.toNat : Int)) (wrap64 (wrap64 (b.toNat : Int) * 256))) (wrap64 (wrap64 (c.toNat : Int) * 65536))) (wrap64 (wrap64 (d.toNat : Int) * 16777216)) = ((a.toNat + b.toNat * 256 + c.toNat * 65536 + d.toNat * 16777216 : Nat) : Int) := by
  have ha := a.toNat_lt; have hb := b.toNat_lt; have hc := c.toNat_lt; have hd := d.toNat_lt
  have w1 : ∀ n : Nat, n < 4294967296 → wrap64 (n : Int) = (n : Int) := fun n hn => by unfold wrap64; omega
  rw [w1 _ (by omega), w1 _ (by omega), w1 _ (by omega), w1 _ (by omega)]
  rw [show (b.toNat : Int) * 256 = ((b.toNat * 256 : Nat) : Int) by omega, show (c.toNat : Int) * 65536 = ((c.toNat * 65536 : Nat) : Int) by omega, show (d.toNat : Int) * 16777216 = ((d.toNat * 16777216 : Nat) : Int) by omega]
  rw [w1 _ (by omega), w1 _ (by omega), w1 _ (by omega)]
  rw [i64_or_nat _ _ (by omega) (by omega), or_add 8 a.toNat b.toNat (by omega), show (2 ^ 8 : Nat) = 256 from rfl]
  rw [i64_or_nat _ _ (by omega) (by omega), or_add 16 _ c.toNat (by omega), show (2 ^ 16 : Nat) = 65536 from rfl]
  rw [i64_or_nat _ _ (by omega) (by omega), or_add 24 _ d.toNat (by omega)]
theorem Unfour_c (s : Str) (hs : s.length = 4) (w : World) : Calls Try.prog 49 #[S s] w fun e w' => e = .returned (.int .i64 (un4 s 0 : Nat)) ∧ Ext w w' := by
  match s, hs with
  | [a, b, c, d], _ =>
    go_enter Try.func49, Try.ntmps49
    go_upto_region 1 with fail
    (refine Mix.wp_draw [] 100 (Cl (w) (No)) (by kernel_rfl) (by kernel_rfl) (Cl.drew_ (X.here w No)) ?_; (repeat' (first | (refine Mix.lex_quiet0 rfl rfl rfl ?_; intro K hK; go_big_quiet_op; go_big_quiet_on) | (refine Mix.lex_quietG rfl rfl rfl (by with_reducible rfl) rfl rfl ?_; intro K hK; go_big_quiet_op; go_big_quiet_on) | ((first | refine Mix.lex_skipT rfl rfl rfl (by with_reducible rfl) ?_ | refine Mix.lex_skipF rfl rfl rfl (by with_reducible rfl) ?_ | refine Mix.lex_skipU rfl rfl rfl (by with_reducible rfl) ?_); simp only [Act.put, List.setIfInBounds_toArray, List.set_cons_succ, List.set_cons_zero]) | (refine Mix.lex_part rfl rfl rfl rfl (fun hq => ?_) (fun hq => ?_) <;> (fail_if_success (guard_hyp hq :ₛ true = true)) <;> (fail_if_success (guard_hyp hq :ₛ false = false)) <;> first | (exfalso; cases hq; done) | (exfalso; simp only [decide_eq_true_eq, decide_eq_false_iff_not, beq_iff_eq, beq_eq_false_iff_ne, ne_eq, Int.not_lt, Int.not_le] at hq; omega) | simp only [Act.put, List.setIfInBounds_toArray, List.set_cons_succ, List.set_cons_zero]))))
    all_goals (refine Mix.lex_nil ?_)
    go_wp2_with (first | ((first | refine Mix.wpList_guarded rfl ?_ | refine Mix.wp_still (by kernel_rfl) (by kernel_rfl) ?_); (repeat' (first | (refine Mix.lex_quiet0 rfl rfl rfl ?_; intro K hK; go_big_quiet_op; go_big_quiet_on) | (refine Mix.lex_quietG rfl rfl rfl (by with_reducible rfl) rfl rfl ?_; intro K hK; go_big_quiet_op; go_big_quiet_on) | ((first | refine Mix.lex_skipT rfl rfl rfl (by with_reducible rfl) ?_ | refine Mix.lex_skipF rfl rfl rfl (by with_reducible rfl) ?_ | refine Mix.lex_skipU rfl rfl rfl (by with_reducible rfl) ?_); simp only [Act.put, List.setIfInBounds_toArray, List.set_cons_succ, List.set_cons_zero]) | (refine Mix.lex_part rfl rfl rfl rfl (fun hq => ?_) (fun hq => ?_) <;> (fail_if_success (guard_hyp hq :ₛ true = true)) <;> (fail_if_success (guard_hyp hq :ₛ false = false)) <;> first | (exfalso; cases hq; done) | (exfalso; simp only [decide_eq_true_eq, decide_eq_false_iff_not, beq_iff_eq, beq_eq_false_iff_ne, ne_eq, Int.not_lt, Int.not_le] at hq; omega) | simp only [Act.put, List.setIfInBounds_toArray, List.set_cons_succ, List.set_cons_zero]))); all_goals (refine Mix.lex_nil ?_)))
    go_ret
    exact ⟨by rw [or_four]; rfl, (Only.refl No w).drew⟩
structure Hd where
  epoch : Nat
  side : Nat
  size : Nat
  first : Nat
abbrev Hd.cells (h : Hd) : Array Value := #[.int .i64 (h.epoch : Nat), .int .i64 (h.side : Nat), .int .i64 (h.size : Nat), .int .i64 (h.first : Nat)]
abbrev hdV (h : Hd) : Value := .agg h.cells
def hdT (h : Hd) : Str := 72 :: (fourF h.epoch ++ (fourF h.side ++ (fourF h.size ++ fourF h.first)))
theorem hdT_len (h : Hd) : (hdT h).length = 17 := by simp [hdT, fourF_len]
/-- The head in a sector. -/
def hdOf (s : Str) : Hd := if s.getD 0 0 ≠ 72 ∨ 1 < un4 s 5 ∨ 7140 < un4 s 9 ∨ un4 s 13 < 1 then ⟨0, 0, 0, 0⟩ else ⟨un4 s 1, un4 s 5, un4 s 9, un4 s 13⟩
theorem head_load {w : World} {b : Nat} {x y z v : Value} (h : Cs w b hdTy #[x, y, z, v]) : (loadVar hdTy ⟨b, 0, none⟩).run Try.prog w = .ok (.agg #[x, y, z, v]) w := by
  have c0 := h.cell 0
  have c1 := h.cell 1
  have c2 := h.cell 2
  have c3 := h.cell 3
  simp only [List.getElem?_toArray, List.getElem?_cons_succ, List.getElem?_cons_zero] at c0 c1 c2 c3
  go_simp
set_option maxRecDepth 100000 in
theorem HText_c (h : Hd) (w : World) : Calls Try.prog 38 #[hdV h] w fun e w' => e = .returned (S (hdT h)) ∧ Ext w w' := by
  have HC := Lib.hid (fun n v => SFour_c n v)
  have HT : Hid (hdT h = 72 :: (fourF h.epoch ++ (fourF h.side ++ (fourF h.size ++ fourF h.first)))) := rfl
  have l0 := fourF_len h.epoch
  have l1 := fourF_len h.side
  have l2 := fourF_len h.size
  have l3 := fourF_len h.first
  have H0 := Lib.hid (fun v => HC.out h.epoch v)
  have H1 := Lib.hid (fun v => HC.out h.side v)
  have H2 := Lib.hid (fun v => HC.out h.size v)
  have H3 := Lib.hid (fun v => HC.out h.first v)
  generalize fourF h.epoch = f0 at HT l0 H0
  generalize fourF h.side = f1 at HT l1 H1
  generalize fourF h.size = f2 at HT l2 H2
  generalize fourF h.first = f3 at HT l3 H3
  clear HC
  go_enter Try.func38, Try.ntmps38
  obtain ⟨g0, hg0⟩ : ∃ x, x = w.heap.size := ⟨_, rfl⟩
  obtain ⟨w0, hw0⟩ : ∃ v, v = w.alloc (.cells h.cells hdTy) := ⟨_, rfl⟩
  have x0 : Ext w w0 := by rw [hw0]; exact (Only.refl No w).alloc _
  have hC0 : Cs w0 g0 hdTy h.cells := by rw [hw0, hg0]; exact Cs.new _ _ _
  go_upto_region 1 with fail
  rw [← hw0, ← hg0]
  clear hw0 hg0
  have d0 : ∀ ξ : X w0 No, ξ.v.cell? ⟨g0, 0, none⟩ = some (.int .i64 (h.epoch : Nat)) := Cs.x hC0 id 0
  have d1 : ∀ ξ : X w0 No, ξ.v.cell? ⟨g0, 1, none⟩ = some (.int .i64 (h.side : Nat)) := Cs.x hC0 id 1
  have d2 : ∀ ξ : X w0 No, ξ.v.cell? ⟨g0, 2, none⟩ = some (.int .i64 (h.size : Nat)) := Cs.x hC0 id 2
  have d3 : ∀ ξ : X w0 No, ξ.v.cell? ⟨g0, 3, none⟩ = some (.int .i64 (h.first : Nat)) := Cs.x hC0 id 3
  refine Mix.wp_flow 17 [2, 3, 6, 7, 10, 11, 14, 15, 16] (Cl w0 No) rfl (by kernel_rfl) (by kernel_rfl) (Cl.drew_ (X.here w0 No)) ?_
  (refine Mix.pre_quiet (i := 0) (by kernel_rfl) rfl rfl rfl rfl ?_; intro K hK; go_big_quiet_op; go_big_quiet_on); (refine Mix.pre_quiet (i := 1) (by kernel_rfl) rfl rfl rfl rfl ?_; intro K hK; go_big_quiet_op; go_big_quiet_on); (refine Mix.pre_quiet (i := 4) (by kernel_rfl) rfl rfl rfl rfl ?_; intro K hK; go_big_quiet_op; go_big_quiet_on); (refine Mix.pre_quiet (i := 5) (by kernel_rfl) rfl rfl rfl rfl ?_; intro K hK; go_big_quiet_op; go_big_quiet_on); (refine Mix.pre_quiet (i := 8) (by kernel_rfl) rfl rfl rfl rfl ?_; intro K hK; go_big_quiet_op; go_big_quiet_on); (refine Mix.pre_quiet (i := 9) (by kernel_rfl) rfl rfl rfl rfl ?_; intro K hK; go_big_quiet_op; go_big_quiet_on); (refine Mix.pre_quiet (i := 12) (by kernel_rfl) rfl rfl rfl rfl ?_; intro K hK; go_big_quiet_op; go_big_quiet_on); (refine Mix.pre_quiet (i := 13) (by kernel_rfl) rfl rfl rfl rfl ?_; intro K hK; go_big_quiet_op; go_big_quiet_on)
  refine Mix.pre_flow (fun i => match i with | 3 => [(2, some 5)] | 7 => [(3, some 6), (6, some 9)] | 11 => [(7, some 10), (10, some 13)] | 15 => [(11, some 14), (14, some 17)] | 16 => [(15, some 18)] | _ => [])
    [(2, some 5), (3, some 6), (6, some 9), (7, some 10), (10, some 13), (11, some 14), (14, some 17), (15, some 18), (16, some 2)]
    (fun j v u => match j with
      | 2 => v = S f0
      | 3 => v = S (72 :: f0)
      | 6 => v = S f1
      | 7 => v = S (72 :: (f0 ++ f1))
      | 10 => v = S f2
      | 11 => v = S (72 :: (f0 ++ (f1 ++ f2)))
      | 14 => v = S f3
      | _ => v = S (72 :: (f0 ++ (f1 ++ (f2 ++ f3))))) Ext
    (by kernel_rfl) rfl (by kernel_rfl) (Cl.drew_ (X.here w0 No)) (fun u u' ⟨ξ, e⟩ hx => ⟨ξ.on (v := u') (by rw [← e]; exact hx), rfl⟩) ?_ ?_ ?_
  · simp only [Mix.stabP]
    refine ⟨?_, ?_, ?_, ?_, ?_, ?_, ?_, ?_, ?_, trivial⟩
    all_goals
      intro v u u' hx h
      exact h
  · simp only [Mix.stepsP]
    refine ⟨?_, ?_, ?_, ?_, ?_, ?_, ?_, ?_, ?_, trivial⟩
    · intro vals u _ _
      (show Mix.goes _ _ _ _ _; refine Mix.goes_K ?_; intro K hK; simp only [Mix.putP, Act.put, List.setIfInBounds_toArray, List.set_cons_succ, List.set_cons_zero])
      go_simp
      refine (H0.out u).mono ?_
      rintro e u2 ⟨rfl, hx⟩
      exact ⟨_, rfl, hK _ _ ⟨hx, rfl⟩⟩
    · rintro vals u _ ⟨h1, _⟩
      (show Mix.goes _ _ _ _ _; refine Mix.goes_K ?_; intro K hK; simp only [Mix.putP, Act.put, List.setIfInBounds_toArray, List.set_cons_succ, List.set_cons_zero])
      rw [h1]
      go_simp
      exact hK _ _ ⟨Only.refl _ _, rfl⟩
    · intro vals u _ _
      (show Mix.goes _ _ _ _ _; refine Mix.goes_K ?_; intro K hK; simp only [Mix.putP, Act.put, List.setIfInBounds_toArray, List.set_cons_succ, List.set_cons_zero])
      go_simp
      refine (H1.out u).mono ?_
      rintro e u2 ⟨rfl, hx⟩
      exact ⟨_, rfl, hK _ _ ⟨hx, rfl⟩⟩
    · rintro vals u _ ⟨h1, h2, _⟩
      (show Mix.goes _ _ _ _ _; refine Mix.goes_K ?_; intro K hK; simp only [Mix.putP, Act.put, List.setIfInBounds_toArray, List.set_cons_succ, List.set_cons_zero])
      rw [h1, h2]
      go_simp
      exact hK _ _ ⟨Only.refl _ _, rfl⟩
    · intro vals u _ _
      (show Mix.goes _ _ _ _ _; refine Mix.goes_K ?_; intro K hK; simp only [Mix.putP, Act.put, List.setIfInBounds_toArray, List.set_cons_succ, List.set_cons_zero])
      go_simp
      refine (H2.out u).mono ?_
      rintro e u2 ⟨rfl, hx⟩
      exact ⟨_, rfl, hK _ _ ⟨hx, rfl⟩⟩
    · rintro vals u _ ⟨h1, h2, _⟩
      (show Mix.goes _ _ _ _ _; refine Mix.goes_K ?_; intro K hK; simp only [Mix.putP, Act.put, List.setIfInBounds_toArray, List.set_cons_succ, List.set_cons_zero])
      rw [h1, h2]
      go_simp
      exact hK _ _ ⟨Only.refl _ _, by simp⟩
    · intro vals u _ _
      (show Mix.goes _ _ _ _ _; refine Mix.goes_K ?_; intro K hK; simp only [Mix.putP, Act.put, List.setIfInBounds_toArray, List.set_cons_succ, List.set_cons_zero])
      go_simp
      refine (H3.out u).mono ?_
      rintro e u2 ⟨rfl, hx⟩
      exact ⟨_, rfl, hK _ _ ⟨hx, rfl⟩⟩
    · rintro vals u _ ⟨h1, h2, _⟩
      (show Mix.goes _ _ _ _ _; refine Mix.goes_K ?_; intro K hK; simp only [Mix.putP, Act.put, List.setIfInBounds_toArray, List.set_cons_succ, List.set_cons_zero])
      rw [h1, h2]
      go_simp
      exact hK _ _ ⟨Only.refl _ _, by simp⟩
    · rintro vals u _ ⟨h1, _⟩
      (show Mix.goes _ _ _ _ _; refine Mix.goes_K ?_; intro K hK; simp only [Mix.putP, Act.put, List.setIfInBounds_toArray, List.set_cons_succ, List.set_cons_zero])
      rw [h1]
      go_simp
      exact hK _ _ ⟨Only.refl _ _, rfl⟩
  · rintro vals u ⟨ξ, rfl⟩ hd
    simp only [Mix.depsR] at hd
    obtain ⟨-, -, -, -, -, -, -, -, h16, -⟩ := hd
    simp only [Mix.putP, Act.put, List.setIfInBounds_toArray, List.set_cons_succ, List.set_cons_zero, h16]
    go_wp2_with fail
    go_ret
    exact ⟨by rw [HT.out]; rfl, x0.then_ext ξ.h⟩
@[go_sem] theorem head_build (a b c d : Int) (w : World) : (Instr.build hdTy #[(0, .int .i64 a), (1, .int .i64 b), (2, .int .i64 c), (3, .int .i64 d)]).run Try.prog w = .ok (.agg #[.int .i64 a, .int .i64 b, .int .i64 c, .int .i64 d]) w := run_build w hdTy _ _ (by kernel_rfl)
theorem bodyPost_cell1 {P : Program} {fn : Func} {R : Ending → World → Prop} {a : Act} {w : World} {p : Tmp} {ty : TypeId} {ad : Addr} {v : Value} (h : fn.results = #[.cell p ty])
    (hp : a.tmps.getD p undef = .pointer (some ad)) (hd : a.defers = []) (hl : (loadVar ty ad).run P w = .ok v w) (hR : R (.returned v) w) : bodyPost P fn R .ret a w := by
  refine bodyPost_ret (v := v) ?_ hd hR
  have hp' := hp
  simp only [Array.getD_eq_getD_getElem?] at hp'
  simp only [results, h]
  simp [Sem.run_bind, Result.andThen, hp', asAddr, Sem.run_pure, hl]
def hdK (h : Hd) : Nat → Option Value
  | 2 => some (.int .i64 (h.epoch : Nat))
  | 5 => some (.int .i64 (h.side : Nat))
  | 8 => some (.int .i64 (h.size : Nat))
  | 11 => some (.int .i64 (h.first : Nat))
  | 12 => some (hdV h)
  | _ => none
def hdJ (w1 : World) (h : Hd) (done : List Nat) (vals : Nat → Value) (u : World) : Prop :=
  (∀ i ∈ done, ∀ x, hdK h i = some x → vals i = x) ∧ (13 ∈ done → ∃ g, vals 13 = pt g ∧ w1.heap.size ≤ g ∧ (14 ∈ done → Cs u g hdTy h.cells) ∧ (14 ∉ done → Cs u g hdTy #[.int .i64 0, .int .i64 0, .int .i64 0, .int .i64 0])) ∧ (14 ∈ done → 13 ∈ done)
theorem hdJ.step {w1 : World} {h : Hd} {done : List Nat} {vals : Nat → Value} {u u' : World} {i : Nat} {v : Value} (hj : hdJ w1 h done vals u) (hx : Ext u u') (h13 : i ≠ 13) (h14 : i ≠ 14) (hv : ∀ x, hdK h i = some x → v = x) : hdJ w1 h (done ++ [i]) (fun j => if j = i then v else vals j) u' := by
  refine ⟨fun j hm x hk => ?_, fun hm => ?_, fun hm => ?_⟩
  · by_cases e : j = i
    · subst e; dsimp only; rw [if_pos rfl]; exact hv x hk
    · dsimp only; rw [if_neg e]
      rcases List.mem_append.1 hm with hm | hm
      · exact hj.1 j hm x hk
      · exact absurd (List.mem_singleton.1 hm) e
  · have hm' : 13 ∈ done := by
      rcases List.mem_append.1 hm with hm | hm
      · exact hm
      · exact absurd (List.mem_singleton.1 hm).symm h13
    obtain ⟨g, e, hg, k1, k2⟩ := hj.2.1 hm'
    refine ⟨g, by dsimp only; rw [if_neg fun h => h13 h.symm]; exact e, hg, fun hm => ?_, fun hm => ?_⟩
    · rcases List.mem_append.1 hm with hm | hm
      · exact (k1 hm).keep hx id
      · exact absurd (List.mem_singleton.1 hm).symm h14
    · exact (k2 fun h => hm (List.mem_append.2 (.inl h))).keep hx id
  · rcases List.mem_append.1 hm with hm | hm
    · exact List.mem_append.2 (.inl (hj.2.2 hm))
    · exact absurd (List.mem_singleton.1 hm).symm h14
theorem head_set {w : World} {g : Nat} {a b c d : Value} (h : Cs w g hdTy #[a, b, c, d]) (x y z v : Value) : Cs ((((w.setCell ⟨g, 0, none⟩ x).setCell ⟨g, 1, none⟩ y).setCell ⟨g, 2, none⟩ z).setCell ⟨g, 3, none⟩ v) g hdTy #[x, y, z, v] := by
  have := (((h.set_ 0 x).set_ 1 y).set_ 2 z).set_ 3 v
  simpa only [List.setIfInBounds_toArray, List.set_cons_succ, List.set_cons_zero] using this
theorem head_ext {w0 w : World} {g : Nat} (h : Ext w0 w) (hg : w0.heap.size ≤ g) (x y z v : Value) : Ext w0 ((((w.setCell ⟨g, 0, none⟩ x).setCell ⟨g, 1, none⟩ y).setCell ⟨g, 2, none⟩ z).setCell ⟨g, 3, none⟩ v) :=
  (((h.setCell (p := ⟨g, 0, none⟩) (.inl hg) x).setCell (p := ⟨g, 1, none⟩) (.inl hg) y).setCell (p := ⟨g, 2, none⟩) (.inl hg) z).setCell (p := ⟨g, 3, none⟩) (.inl hg) v
set_option maxRecDepth 100000 in
set_option maxHeartbeats 1000000 in
theorem HeadOf_c (s : Str) (hs : s.length = 340) (w : World) : Calls Try.prog 32 #[S s] w fun e w' => e = .returned (hdV (hdOf s)) ∧ Ext w w' := by
  have HU : ∀ i, i + 4 ≤ 340 → Hid (∀ v, Calls Try.prog 49 #[S ((s.take (i + 4)).drop i)] v fun e w' => e = .returned (.int .i64 (un4 s i : Nat)) ∧ Ext v w') := fun i hi v => by
    have h := Unfour_c ((s.take (i + 4)).drop i) (by simp; omega) v
    have e : un4 ((s.take (i + 4)).drop i) 0 = un4 s i := by
      unfold un4
      simp [List.getD_eq_getElem?_getD, List.getElem?_take]
    rw [e] at h
    exact h
  have H0 := HU 1 (by omega)
  have H1 := HU 5 (by omega)
  have H2 := HU 9 (by omega)
  have H3 := HU 13 (by omega)
  simp only [Nat.reduceAdd] at H0 H1 H2 H3
  rw [List.drop_one] at H0
  have HD : Hid (hdOf s = if s.getD 0 0 ≠ 72 ∨ 1 < un4 s 5 ∨ 7140 < un4 s 9 ∨ un4 s 13 < 1 then ⟨0, 0, 0, 0⟩ else ⟨un4 s 1, un4 s 5, un4 s 9, un4 s 13⟩) := rfl
  have b0 := un4_lt s 1
  have b1 := un4_lt s 5
  have b2 := un4_lt s 9
  have b3 := un4_lt s 13
  clear HU
  obtain ⟨h, hh⟩ : ∃ h : Hd, h = ⟨un4 s 1, un4 s 5, un4 s 9, un4 s 13⟩ := ⟨_, rfl⟩
  go_enter Try.func32, Try.ntmps32
  obtain ⟨g0, hg0⟩ : ∃ x, x = w.heap.size := ⟨_, rfl⟩
  obtain ⟨w0, hw0⟩ : ∃ v, v = w.alloc (.cells #[.int .i64 0, .int .i64 0, .int .i64 0, .int .i64 0] hdTy) := ⟨_, rfl⟩
  have x0 : Ext w w0 := by rw [hw0]; exact (Only.refl No w).alloc _
  have hC0 : Cs w0 g0 hdTy #[.int .i64 0, .int .i64 0, .int .i64 0, .int .i64 0] := by rw [hw0, hg0]; exact Cs.new _ _ _
  go_upto_region 1 with fail
  rw [← hw0, ← hg0]
  have hge : w.heap.size ≤ g0 := by omega
  clear hw0 hg0
  have l5 : ¬ s.length < 5 := by omega
  go_cut [3] from 4 to 17 (fun v u => ∃ g, v = pt g ∧ Cs u g hdTy h.cells ∧ Ext w0 u)
  case first =>
    refine Mix.wp_flow 15 [2, 5, 8, 11, 12, 13, 14] (Cl w0 No) rfl (by kernel_rfl) (by kernel_rfl) (Cl.drew_ (X.here w0 No)) ?_
    (refine Mix.pre_quiet (i := 0) (by kernel_rfl) rfl rfl rfl rfl ?_; intro K hK; go_big_quiet_op; go_big_quiet_on); (refine Mix.pre_quiet (i := 1) (by kernel_rfl) rfl rfl rfl rfl ?_; intro K hK; go_big_quiet_op; go_big_quiet_on); (refine Mix.pre_quiet (i := 3) (by kernel_rfl) rfl rfl rfl rfl ?_; intro K hK; go_big_quiet_op; go_big_quiet_on); (refine Mix.pre_quiet (i := 4) (by kernel_rfl) rfl rfl rfl rfl ?_; intro K hK; go_big_quiet_op; go_big_quiet_on); (refine Mix.pre_quiet (i := 6) (by kernel_rfl) rfl rfl rfl rfl ?_; intro K hK; go_big_quiet_op; go_big_quiet_on); (refine Mix.pre_quiet (i := 7) (by kernel_rfl) rfl rfl rfl rfl ?_; intro K hK; go_big_quiet_op; go_big_quiet_on); (refine Mix.pre_quiet (i := 9) (by kernel_rfl) rfl rfl rfl rfl ?_; intro K hK; go_big_quiet_op; go_big_quiet_on); (refine Mix.pre_quiet (i := 10) (by kernel_rfl) rfl rfl rfl rfl ?_; intro K hK; go_big_quiet_op; go_big_quiet_on)
    refine Mix.pre_flowJ (fun i => match i with | 12 => [(2, some 6), (5, some 9), (8, some 12), (11, some 15)] | 14 => [(13, some 3), (12, some 16)] | _ => [])
      [(2, some 6), (5, some 9), (8, some 12), (11, some 15), (12, some 16), (13, some 3), (14, none)] (hdJ w0 h)
      (by kernel_rfl) rfl (by kernel_rfl) (Cl.drew_ (X.here w0 No)) (fun vals => ⟨fun i hi => (by cases hi), fun hi => (by cases hi), fun hi => (by cases hi)⟩) ?_ ?_
    · simp only [Mix.stepsJ]
      refine ⟨?_, ?_, ?_, ?_, ?_, ?_, ?_, trivial⟩
      · rintro done vals u ⟨ξ, rfl⟩ hi _ hj
        (show Mix.goes _ _ _ _ _; refine Mix.goes_K ?_; intro K hK; simp only [Mix.putP, Act.put, List.setIfInBounds_toArray, List.set_cons_succ, List.set_cons_zero])
        go_simp
        refine (H0.out ξ.v).mono ?_
        rintro e u2 ⟨rfl, hx⟩
        exact ⟨_, rfl, hK _ _ ⟨Cl.of (ξ.h.then_ext hx), hj.step hx (by decide) (by decide) (by rintro x hk; cases hk; rw [hh])⟩⟩
      · rintro done vals u ⟨ξ, rfl⟩ hi _ hj
        (show Mix.goes _ _ _ _ _; refine Mix.goes_K ?_; intro K hK; simp only [Mix.putP, Act.put, List.setIfInBounds_toArray, List.set_cons_succ, List.set_cons_zero])
        go_simp
        refine (H1.out ξ.v).mono ?_
        rintro e u2 ⟨rfl, hx⟩
        exact ⟨_, rfl, hK _ _ ⟨Cl.of (ξ.h.then_ext hx), hj.step hx (by decide) (by decide) (by rintro x hk; cases hk; rw [hh])⟩⟩
      · rintro done vals u ⟨ξ, rfl⟩ hi _ hj
        (show Mix.goes _ _ _ _ _; refine Mix.goes_K ?_; intro K hK; simp only [Mix.putP, Act.put, List.setIfInBounds_toArray, List.set_cons_succ, List.set_cons_zero])
        go_simp
        refine (H2.out ξ.v).mono ?_
        rintro e u2 ⟨rfl, hx⟩
        exact ⟨_, rfl, hK _ _ ⟨Cl.of (ξ.h.then_ext hx), hj.step hx (by decide) (by decide) (by rintro x hk; cases hk; rw [hh])⟩⟩
      · rintro done vals u ⟨ξ, rfl⟩ hi _ hj
        (show Mix.goes _ _ _ _ _; refine Mix.goes_K ?_; intro K hK; simp only [Mix.putP, Act.put, List.setIfInBounds_toArray, List.set_cons_succ, List.set_cons_zero])
        go_simp
        refine (H3.out ξ.v).mono ?_
        rintro e u2 ⟨rfl, hx⟩
        exact ⟨_, rfl, hK _ _ ⟨Cl.of (ξ.h.then_ext hx), hj.step hx (by decide) (by decide) (by rintro x hk; cases hk; rw [hh])⟩⟩
      · rintro done vals u ⟨ξ, rfl⟩ hi hd hj
        have e2 := hj.1 2 (hd (2, some 6) (by simp)) _ rfl
        have e5 := hj.1 5 (hd (5, some 9) (by simp)) _ rfl
        have e8 := hj.1 8 (hd (8, some 12) (by simp)) _ rfl
        have e11 := hj.1 11 (hd (11, some 15) (by simp)) _ rfl
        (show Mix.goes _ _ _ _ _; refine Mix.goes_K ?_; intro K hK; simp only [Mix.putP, Act.put, List.setIfInBounds_toArray, List.set_cons_succ, List.set_cons_zero])
        rw [e2, e5, e8, e11]
        go_simp
        exact hK _ _ ⟨⟨ξ, rfl⟩, hj.step (Only.refl _ _) (by decide) (by decide) (by rintro x hk; cases hk; rw [hh])⟩
      · rintro done vals u ⟨ξ, rfl⟩ hi hd hj
        have hs1 := ξ.h.size
        (show Mix.goes _ _ _ _ _; refine Mix.goes_K ?_; intro K hK; simp only [Mix.putP, Act.put, List.setIfInBounds_toArray, List.set_cons_succ, List.set_cons_zero])
        go_simp
        refine hK _ _ ⟨Cl.of (ξ.h.then_ext ((Only.refl _ _).alloc _)), fun j hm x hk => ?_, fun hm => ?_, fun hm => List.mem_append.2 (.inr (List.mem_singleton.2 rfl))⟩
        · by_cases e : j = 13
          · subst e; cases hk
          · dsimp only
            rw [if_neg e]
            rcases List.mem_append.1 hm with hm | hm
            · exact hj.1 j hm x hk
            · exact absurd (List.mem_singleton.1 hm) e
        · refine ⟨_, rfl, hs1, fun h14 => ?_, fun _ => Cs.new _ _ _⟩
          exfalso
          rcases List.mem_append.1 h14 with h | h
          · exact hi (hj.2.2 h)
          · cases List.mem_singleton.1 h
      · rintro done vals u ⟨ξ, rfl⟩ hi hd hj
        have hs1 := ξ.h.size
        have e12 := hj.1 12 (hd (12, some 16) (by simp)) _ rfl
        obtain ⟨g, e13, hg, -, k2⟩ := hj.2.1 (hd (13, some 3) (by simp))
        have hC := k2 hi
        have c0 := hC.cell 0
        have f0 := hC.frozen 0
        have f1 := hC.frozen 1
        have f2 := hC.frozen 2
        have f3 := hC.frozen 3
        have c1 := hC.cell 1
        have c2 := hC.cell 2
        have c3 := hC.cell 3
        simp only [List.getElem?_toArray, List.getElem?_cons_succ, List.getElem?_cons_zero] at c0 c1 c2 c3
        (show Mix.goes _ _ _ _ _; refine Mix.goes_K ?_; intro K hK; simp only [Mix.putP, Act.put, List.setIfInBounds_toArray, List.set_cons_succ, List.set_cons_zero])
        rw [e12, e13]
        go_simp
        have hC4 := (((hC.set_ 0 (.int .i64 (un4 s 1 : Nat))).set_ 1 (.int .i64 (un4 s 5 : Nat))).set_ 2 (.int .i64 (un4 s 9 : Nat))).set_ 3 (.int .i64 (un4 s 13 : Nat))
        simp only [List.setIfInBounds_toArray, List.set_cons_succ, List.set_cons_zero] at hC4
        refine hK _ _ ⟨Cl.of ((((ξ.h.setCell (p := ⟨g, 0, none⟩) (.inl hg) _).setCell (p := ⟨g, 1, none⟩) (.inl hg) _).setCell (p := ⟨g, 2, none⟩) (.inl hg) _).setCell (p := ⟨g, 3, none⟩) (.inl hg) _), fun j hm x hk => ?_, fun hm => ?_, fun hm => List.mem_append.2 (.inl (hd (13, some 3) (by simp)))⟩
        · by_cases e : j = 14
          · subst e; cases hk
          · dsimp only
            rw [if_neg e]
            rcases List.mem_append.1 hm with hm | hm
            · exact hj.1 j hm x hk
            · exact absurd (List.mem_singleton.1 hm) e
        · exact ⟨g, e13, hg, fun _ => (by rw [hh]; exact hC4), fun h => absurd (List.mem_append.2 (.inr (List.mem_singleton.2 rfl))) h⟩
    · rintro done vals u ⟨ξ, rfl⟩ hd hj
      have e13 := hj.2.1 (hd (13, some 3) (by simp))
      obtain ⟨g, e13, hg, k1, -⟩ := e13
      have hC := k1 (hd (14, none) (by simp))
      simp only [Mix.putP, Act.put, List.setIfInBounds_toArray, List.set_cons_succ, List.set_cons_zero, e13]
      go_wp2_with fail
      go_meet
      exact ⟨g, rfl, hC, ξ.h⟩
  case rest =>
    obtain ⟨g, hv, hC, hx⟩ := hcut
    subst hv
    subst hh
    have c0 : wc.cell? ⟨g, 0, none⟩ = some (.int .i64 (un4 s 1 : Nat)) := hC.cell 0
    have c1 : wc.cell? ⟨g, 1, none⟩ = some (.int .i64 (un4 s 5 : Nat)) := hC.cell 1
    have c2 : wc.cell? ⟨g, 2, none⟩ = some (.int .i64 (un4 s 9 : Nat)) := hC.cell 2
    have c3 : wc.cell? ⟨g, 3, none⟩ = some (.int .i64 (un4 s 13 : Nat)) := hC.cell 3
    have hZ := hC0.keep hx id
    have z0 := hZ.frozen 0
    have z1 := hZ.frozen 1
    have z2 := hZ.frozen 2
    have z3 := hZ.frozen 3
    have y0 : wc.cell? ⟨g0, 0, none⟩ = some (.int .i64 0) := hZ.cell 0
    have y1 : wc.cell? ⟨g0, 1, none⟩ = some (.int .i64 0) := hZ.cell 1
    have y2 : wc.cell? ⟨g0, 2, none⟩ = some (.int .i64 0) := hZ.cell 2
    have y3 : wc.cell? ⟨g0, 3, none⟩ = some (.int .i64 0) := hZ.cell 3
    have hlen : 0 < s.length := by omega
    have e0 : s.getD 0 0 = s[0] := by rw [List.getD_eq_getElem?_getD, List.getElem?_eq_getElem hlen]; rfl
    rw [e0] at HD
    have hX := x0.then_ext hx
    have hZS := Lib.hid hZ
    clear hC hZ
    go_upto_region 2 with fail
    by_cases h0 : s[0] = 72
    · have q0 : ((s[0].toNat : Int) == 72) = true := by rw [h0]; rfl
      by_cases h1 : 1 < un4 s 5
      · have q1 : decide ((1 : Int) < (un4 s 5 : Nat)) = true := decide_eq_true (by omega)
        have HE := Lib.hid (HD.out.trans (if_pos (.inr (.inl h1))))
        clear HD
        go_wp2_with (first | ((first | refine Mix.wpList_guarded rfl ?_ | refine Mix.wp_still (by kernel_rfl) (by kernel_rfl) ?_); (repeat' (first | (refine Mix.lex_quiet0 rfl rfl rfl ?_; intro K hK; go_big_quiet_op; go_big_quiet_on) | (refine Mix.lex_quietG rfl rfl rfl (by with_reducible rfl) rfl rfl ?_; intro K hK; go_big_quiet_op; go_big_quiet_on) | ((first | refine Mix.lex_skipT rfl rfl rfl (by with_reducible rfl) ?_ | refine Mix.lex_skipF rfl rfl rfl (by with_reducible rfl) ?_ | refine Mix.lex_skipU rfl rfl rfl (by with_reducible rfl) ?_); simp only [Act.put, List.setIfInBounds_toArray, List.set_cons_succ, List.set_cons_zero]) | (refine Mix.lex_part rfl rfl rfl rfl (fun hq => ?_) (fun hq => ?_) <;> (fail_if_success (guard_hyp hq :ₛ true = true)) <;> (fail_if_success (guard_hyp hq :ₛ false = false)) <;> first | (exfalso; cases hq; done) | (exfalso; simp only [decide_eq_true_eq, decide_eq_false_iff_not, beq_iff_eq, beq_eq_false_iff_ne, ne_eq, Int.not_lt, Int.not_le] at hq; omega) | simp only [Act.put, List.setIfInBounds_toArray, List.set_cons_succ, List.set_cons_zero]))); all_goals (refine Mix.lex_nil ?_)))
        refine bodyPost_cell1 rfl rfl rfl (head_load (head_set hZS.out _ _ _ _)) ?_
        exact ⟨by rw [HE.out] <;> rfl, head_ext hX hge _ _ _ _⟩
      · have q1 : decide ((1 : Int) < (un4 s 5 : Nat)) = false := decide_eq_false (by omega)
        by_cases h2 : 7140 < un4 s 9
        · have q2 : decide ((7140 : Int) < (un4 s 9 : Nat)) = true := decide_eq_true (by omega)
          have HE := Lib.hid (HD.out.trans (if_pos (.inr (.inr (.inl h2)))))
          clear HD
          go_wp2_with (first | ((first | refine Mix.wpList_guarded rfl ?_ | refine Mix.wp_still (by kernel_rfl) (by kernel_rfl) ?_); (repeat' (first | (refine Mix.lex_quiet0 rfl rfl rfl ?_; intro K hK; go_big_quiet_op; go_big_quiet_on) | (refine Mix.lex_quietG rfl rfl rfl (by with_reducible rfl) rfl rfl ?_; intro K hK; go_big_quiet_op; go_big_quiet_on) | ((first | refine Mix.lex_skipT rfl rfl rfl (by with_reducible rfl) ?_ | refine Mix.lex_skipF rfl rfl rfl (by with_reducible rfl) ?_ | refine Mix.lex_skipU rfl rfl rfl (by with_reducible rfl) ?_); simp only [Act.put, List.setIfInBounds_toArray, List.set_cons_succ, List.set_cons_zero]) | (refine Mix.lex_part rfl rfl rfl rfl (fun hq => ?_) (fun hq => ?_) <;> (fail_if_success (guard_hyp hq :ₛ true = true)) <;> (fail_if_success (guard_hyp hq :ₛ false = false)) <;> first | (exfalso; cases hq; done) | (exfalso; simp only [decide_eq_true_eq, decide_eq_false_iff_not, beq_iff_eq, beq_eq_false_iff_ne, ne_eq, Int.not_lt, Int.not_le] at hq; omega) | simp only [Act.put, List.setIfInBounds_toArray, List.set_cons_succ, List.set_cons_zero]))); all_goals (refine Mix.lex_nil ?_)))
          refine bodyPost_cell1 rfl rfl rfl (head_load (head_set hZS.out _ _ _ _)) ?_
          exact ⟨by rw [HE.out] <;> rfl, head_ext hX hge _ _ _ _⟩
        · have q2 : decide ((7140 : Int) < (un4 s 9 : Nat)) = false := decide_eq_false (by omega)
          by_cases h3 : un4 s 13 < 1
          · have q3 : decide ((un4 s 13 : Nat) < (1 : Int)) = true := decide_eq_true (by omega)
            have HE := Lib.hid (HD.out.trans (if_pos (.inr (.inr (.inr h3)))))
            clear HD
            go_wp2_with (first | ((first | refine Mix.wpList_guarded rfl ?_ | refine Mix.wp_still (by kernel_rfl) (by kernel_rfl) ?_); (repeat' (first | (refine Mix.lex_quiet0 rfl rfl rfl ?_; intro K hK; go_big_quiet_op; go_big_quiet_on) | (refine Mix.lex_quietG rfl rfl rfl (by with_reducible rfl) rfl rfl ?_; intro K hK; go_big_quiet_op; go_big_quiet_on) | ((first | refine Mix.lex_skipT rfl rfl rfl (by with_reducible rfl) ?_ | refine Mix.lex_skipF rfl rfl rfl (by with_reducible rfl) ?_ | refine Mix.lex_skipU rfl rfl rfl (by with_reducible rfl) ?_); simp only [Act.put, List.setIfInBounds_toArray, List.set_cons_succ, List.set_cons_zero]) | (refine Mix.lex_part rfl rfl rfl rfl (fun hq => ?_) (fun hq => ?_) <;> (fail_if_success (guard_hyp hq :ₛ true = true)) <;> (fail_if_success (guard_hyp hq :ₛ false = false)) <;> first | (exfalso; cases hq; done) | (exfalso; simp only [decide_eq_true_eq, decide_eq_false_iff_not, beq_iff_eq, beq_eq_false_iff_ne, ne_eq, Int.not_lt, Int.not_le] at hq; omega) | simp only [Act.put, List.setIfInBounds_toArray, List.set_cons_succ, List.set_cons_zero]))); all_goals (refine Mix.lex_nil ?_)))
            refine bodyPost_cell1 rfl rfl rfl (head_load (head_set hZS.out _ _ _ _)) ?_
            exact ⟨by rw [HE.out] <;> rfl, head_ext hX hge _ _ _ _⟩
          · have q3 : decide ((un4 s 13 : Nat) < (1 : Int)) = false := decide_eq_false (by omega)
            have HE := Lib.hid (HD.out.trans (if_neg (by rintro (h | h | h | h); exact h h0; exact h1 h; exact h2 h; exact h3 h)))
            clear HD
            go_wp2_with (first | ((first | refine Mix.wpList_guarded rfl ?_ | refine Mix.wp_still (by kernel_rfl) (by kernel_rfl) ?_); (repeat' (first | (refine Mix.lex_quiet0 rfl rfl rfl ?_; intro K hK; go_big_quiet_op; go_big_quiet_on) | (refine Mix.lex_quietG rfl rfl rfl (by with_reducible rfl) rfl rfl ?_; intro K hK; go_big_quiet_op; go_big_quiet_on) | ((first | refine Mix.lex_skipT rfl rfl rfl (by with_reducible rfl) ?_ | refine Mix.lex_skipF rfl rfl rfl (by with_reducible rfl) ?_ | refine Mix.lex_skipU rfl rfl rfl (by with_reducible rfl) ?_); simp only [Act.put, List.setIfInBounds_toArray, List.set_cons_succ, List.set_cons_zero]) | (refine Mix.lex_part rfl rfl rfl rfl (fun hq => ?_) (fun hq => ?_) <;> (fail_if_success (guard_hyp hq :ₛ true = true)) <;> (fail_if_success (guard_hyp hq :ₛ false = false)) <;> first | (exfalso; cases hq; done) | (exfalso; simp only [decide_eq_true_eq, decide_eq_false_iff_not, beq_iff_eq, beq_eq_false_iff_ne, ne_eq, Int.not_lt, Int.not_le] at hq; omega) | simp only [Act.put, List.setIfInBounds_toArray, List.set_cons_succ, List.set_cons_zero]))); all_goals (refine Mix.lex_nil ?_)))
            refine bodyPost_cell1 rfl rfl rfl (head_load (head_set hZS.out _ _ _ _)) ?_
            exact ⟨by rw [HE.out] <;> rfl, head_ext hX hge _ _ _ _⟩
    · have q0 : ((s[0].toNat : Int) == 72) = false := by rw [show (72 : Int) = ((72 : UInt8).toNat : Int) from rfl, u8_eq]; exact decide_eq_false h0
      have q0' : ((s[0].toNat : Int) != 72) = true := by rw [bne, q0]; rfl
      have HE := Lib.hid (HD.out.trans (if_pos (.inl h0)))
      clear HD
      go_wp2_with (first | ((first | refine Mix.wpList_guarded rfl ?_ | refine Mix.wp_still (by kernel_rfl) (by kernel_rfl) ?_); (repeat' (first | (refine Mix.lex_quiet0 rfl rfl rfl ?_; intro K hK; go_big_quiet_op; go_big_quiet_on) | (refine Mix.lex_quietG rfl rfl rfl (by with_reducible rfl) rfl rfl ?_; intro K hK; go_big_quiet_op; go_big_quiet_on) | ((first | refine Mix.lex_skipT rfl rfl rfl (by with_reducible rfl) ?_ | refine Mix.lex_skipF rfl rfl rfl (by with_reducible rfl) ?_ | refine Mix.lex_skipU rfl rfl rfl (by with_reducible rfl) ?_); simp only [Act.put, List.setIfInBounds_toArray, List.set_cons_succ, List.set_cons_zero]) | (refine Mix.lex_part rfl rfl rfl rfl (fun hq => ?_) (fun hq => ?_) <;> (fail_if_success (guard_hyp hq :ₛ true = true)) <;> (fail_if_success (guard_hyp hq :ₛ false = false)) <;> first | (exfalso; cases hq; done) | (exfalso; simp only [decide_eq_true_eq, decide_eq_false_iff_not, beq_iff_eq, beq_eq_false_iff_ne, ne_eq, Int.not_lt, Int.not_le] at hq; omega) | simp only [Act.put, List.setIfInBounds_toArray, List.set_cons_succ, List.set_cons_zero]))); all_goals (refine Mix.lex_nil ?_)))
      refine bodyPost_cell1 rfl rfl rfl (head_load (head_set hZS.out _ _ _ _)) ?_
      exact ⟨by rw [HE.out] <;> rfl, head_ext hX hge _ _ _ _⟩
end Go.Proofs.Ytaphmmobmadfoaa