/- A log's sectors: numbers in four bytes, texts. -/
import Derived.Test.YtlfiobciahnapaaByt
import Derived.Test.YtlfiobciahnapaaFlow
import Derived.IntWalk
import Derived.Test.YtlfiobciahnapaaErr
import Derived.OwnWalk
namespace Go.Proofs.Ytlfiobciahnapaa
open Go Go.RowKit
def fourF (n : Nat) : Str := [bt ((n : Int) % 256), bt ((n : Int) / 256 % 256), bt ((n : Int) / 65536 % 256), bt ((n : Int) / 16777216 % 256)]
theorem fourF_len (n : Nat) : (fourF n).length = 4 := rfl
/-- A sector's text. -/
def textF (k : UInt8) (n : Nat) (s : Str) : Str := k :: (fourF n ++ ([bt ((s.length : Int) % 256), bt ((s.length : Int) / 256 % 256)] ++ s))
theorem textF_len (k : UInt8) (n : Nat) (s : Str) : (textF k n s).length = s.length + 7 := by
  unfold textF
  simp only [List.length_cons, List.length_append, fourF_len, List.length_nil]
  omega
theorem Four_c (n : Nat) (w : World) : Calls Try.prog 30 #[.int .i64 n] w fun e w' => e = .returned (S (fourF n)) ∧ Ext w w' := by
  go_enter Try.func30, Try.ntmps30
  go_wp2_with (first | (refine Mix.wpList_guarded rfl ?_; (repeat' (first | (refine Mix.lex_quiet0 rfl rfl rfl ?_; intro K hK; go_big_quiet_op; go_big_quiet_on) | (refine Mix.lex_quietG rfl rfl rfl (by with_reducible rfl) rfl rfl ?_; intro K hK; go_big_quiet_op; go_big_quiet_on) | ((first | refine Mix.lex_skipT rfl rfl rfl (by with_reducible rfl) ?_ | refine Mix.lex_skipF rfl rfl rfl (by with_reducible rfl) ?_ | refine Mix.lex_skipU rfl rfl rfl (by with_reducible rfl) ?_); simp only [Act.put, List.setIfInBounds_toArray, List.set_cons_succ, List.set_cons_zero]) | (refine Mix.lex_part rfl rfl rfl rfl (fun hq => ?_) (fun hq => ?_) <;> (fail_if_success (guard_hyp hq :ₛ true = true)) <;> (fail_if_success (guard_hyp hq :ₛ false = false)) <;> first | (exfalso; cases hq; done) | (exfalso; simp only [decide_eq_true_eq, decide_eq_false_iff_not, beq_iff_eq, beq_eq_false_iff_ne, ne_eq, Int.not_lt, Int.not_le] at hq; omega) | simp only [Act.put, List.setIfInBounds_toArray, List.set_cons_succ, List.set_cons_zero]))); all_goals (refine Mix.lex_nil ?_)) | (refine Mix.wp_still (by kernel_rfl) (by kernel_rfl) ?_; (repeat' (first | (refine Mix.lex_quiet0 rfl rfl rfl ?_; intro K hK; go_big_quiet_op; go_big_quiet_on) | (refine Mix.lex_quietG rfl rfl rfl (by with_reducible rfl) rfl rfl ?_; intro K hK; go_big_quiet_op; go_big_quiet_on) | ((first | refine Mix.lex_skipT rfl rfl rfl (by with_reducible rfl) ?_ | refine Mix.lex_skipF rfl rfl rfl (by with_reducible rfl) ?_ | refine Mix.lex_skipU rfl rfl rfl (by with_reducible rfl) ?_); simp only [Act.put, List.setIfInBounds_toArray, List.set_cons_succ, List.set_cons_zero]) | (refine Mix.lex_part rfl rfl rfl rfl (fun hq => ?_) (fun hq => ?_) <;> (fail_if_success (guard_hyp hq :ₛ true = true)) <;> (fail_if_success (guard_hyp hq :ₛ false = false)) <;> first | (exfalso; cases hq; done) | (exfalso; simp only [decide_eq_true_eq, decide_eq_false_iff_not, beq_iff_eq, beq_eq_false_iff_ne, ne_eq, Int.not_lt, Int.not_le] at hq; omega) | simp only [Act.put, List.setIfInBounds_toArray, List.set_cons_succ, List.set_cons_zero]))); all_goals (refine Mix.lex_nil ?_)))
  go_ret
  exact ⟨rfl, (Only.refl _ _).alloc _⟩
theorem bt_toNat (k : UInt8) : bt (k.toNat : Int) = k := by
  unfold bt
  simp
theorem Text_lg (k : UInt8) (n : Nat) (s : Str) (hs : s.length ≤ 1000000) (w : World) : Calls Try.prog 41 #[.int .u8 k.toNat, .int .i64 n, S s] w fun e w' => e = .returned (S (textF k n s)) ∧ Ext w w' := by
  have HC := Lib.hid (fun v => Four_c n v)
  have hl := fourF_len n
  have HT : Hid (textF k n s = bt (k.toNat : Int) :: (fourF n ++ ([bt ((s.length : Int) % 256), bt ((s.length : Int) / 256 % 256)] ++ s))) := by rw [Hid, bt_toNat]; rfl
  generalize fourF n = f at HC hl HT
  go_enter Try.func41, Try.ntmps41
  go_upto_region 1 with fail
  refine Mix.wp_flow 19 [1, 2, 4, 5, 13, 14, 15, 17, 18] (Cl w No) rfl (by kernel_rfl) (by kernel_rfl) (Cl.drew_ (X.here w No)) ?_
  (refine Mix.pre_quiet (i := 0) (by kernel_rfl) rfl rfl rfl rfl ?_; intro K hK; go_big_quiet_op; go_big_quiet_on); (refine Mix.pre_quiet (i := 3) (by kernel_rfl) rfl rfl rfl rfl ?_; intro K hK; go_big_quiet_op; go_big_quiet_on); (refine Mix.pre_quiet (i := 6) (by kernel_rfl) rfl rfl rfl rfl ?_; intro K hK; go_big_quiet_op; go_big_quiet_on); (refine Mix.pre_quiet (i := 7) (by kernel_rfl) rfl rfl rfl rfl ?_; intro K hK; go_big_quiet_op; go_big_quiet_on); (refine Mix.pre_quiet (i := 8) (by kernel_rfl) rfl rfl rfl rfl ?_; intro K hK; go_big_quiet_op; go_big_quiet_on); (refine Mix.pre_quiet (i := 9) (by kernel_rfl) rfl rfl rfl rfl ?_; intro K hK; go_big_quiet_op; go_big_quiet_on); (refine Mix.pre_quiet (i := 10) (by kernel_rfl) rfl rfl rfl rfl ?_; intro K hK; go_big_quiet_op; go_big_quiet_on); (refine Mix.pre_quiet (i := 11) (by kernel_rfl) rfl rfl rfl rfl ?_; intro K hK; go_big_quiet_op; go_big_quiet_on); (refine Mix.pre_quiet (i := 12) (by kernel_rfl) rfl rfl rfl rfl ?_; intro K hK; go_big_quiet_op; go_big_quiet_on); (refine Mix.pre_quiet (i := 16) (by kernel_rfl) rfl rfl rfl rfl ?_; intro K hK; go_big_quiet_op; go_big_quiet_on)
  refine Mix.pre_flow (fun i => match i with | 2 => [(1, some 8)] | 5 => [(2, some 9), (4, some 11)] | 14 => [(13, some 20)] | 15 => [(5, some 12), (14, some 21)] | 17 => [(15, some 22)] | 18 => [(17, some 24)] | _ => [])
    [(1, some 8), (2, some 9), (4, some 11), (5, some 12), (13, some 20), (14, some 21), (15, some 22), (17, some 24), (18, some 6)]
    (fun j v u => match j with
      | 1 => ∃ g, v = .slice (some ⟨g, 0, none⟩) 1 1 ∧ Cs u g 5 #[.int .u8 k.toNat]
      | 2 => v = S [bt k.toNat]
      | 4 => v = S f
      | 5 => v = S (bt k.toNat :: f)
      | 13 => ∃ g, v = .slice (some ⟨g, 0, none⟩) 2 2 ∧ Cs u g 5 #[.int .u8 ((s.length : Int) % 256), .int .u8 ((s.length : Int) / 256 % 256)]
      | 14 => v = S [bt ((s.length : Int) % 256), bt ((s.length : Int) / 256 % 256)]
      | 15 => v = S (bt k.toNat :: (f ++ [bt ((s.length : Int) % 256), bt ((s.length : Int) / 256 % 256)]))
      | _ => v = S (bt k.toNat :: (f ++ bt ((s.length : Int) % 256) :: bt ((s.length : Int) / 256 % 256) :: s))) Ext
    (by kernel_rfl) rfl (by kernel_rfl) (Cl.drew_ (X.here w No)) (fun u u' ⟨ξ, e⟩ hx => ⟨ξ.on (v := u') (by rw [← e]; exact hx), rfl⟩) ?_ ?_ ?_
  · simp only [Mix.stabP]
    refine ⟨?_, ?_, ?_, ?_, ?_, ?_, ?_, ?_, ?_, trivial⟩
    all_goals
      intro v u u' hx h
      first
      | exact h
      | (obtain ⟨g, e, hc⟩ := h; exact ⟨g, e, hc.keep hx id⟩)
  · simp only [Mix.stepsP]
    refine ⟨?_, ?_, ?_, ?_, ?_, ?_, ?_, ?_, ?_, trivial⟩
    · intro vals u _ _
      (show Mix.goes _ _ _ _ _; refine Mix.goes_K ?_; intro K hK; simp only [Mix.putP, Act.put, List.setIfInBounds_toArray, List.set_cons_succ, List.set_cons_zero])
      go_simp
      exact hK _ _ ⟨(Only.refl _ _).alloc _, _, rfl, Cs.new _ _ _⟩
    · rintro vals u _ ⟨⟨g, h1, hc⟩, _⟩
      have hc2 := str_cs1 hc
      (show Mix.goes _ _ _ _ _; refine Mix.goes_K ?_; intro K hK; simp only [Mix.putP, Act.put, List.setIfInBounds_toArray, List.set_cons_succ, List.set_cons_zero])
      rw [h1]
      go_simp
      exact hK _ _ ⟨Only.refl _ _, rfl⟩
    · intro vals u _ _
      (show Mix.goes _ _ _ _ _; refine Mix.goes_K ?_; intro K hK; simp only [Mix.putP, Act.put, List.setIfInBounds_toArray, List.set_cons_succ, List.set_cons_zero])
      go_simp
      refine (HC.out u).mono ?_
      rintro e u2 ⟨rfl, hx⟩
      exact ⟨_, rfl, hK _ _ ⟨hx, rfl⟩⟩
    · rintro vals u _ ⟨h1, h2, _⟩
      (show Mix.goes _ _ _ _ _; refine Mix.goes_K ?_; intro K hK; simp only [Mix.putP, Act.put, List.setIfInBounds_toArray, List.set_cons_succ, List.set_cons_zero])
      rw [h1, h2]
      go_simp
      exact hK _ _ ⟨Only.refl _ _, rfl⟩
    · intro vals u _ _
      (show Mix.goes _ _ _ _ _; refine Mix.goes_K ?_; intro K hK; simp only [Mix.putP, Act.put, List.setIfInBounds_toArray, List.set_cons_succ, List.set_cons_zero])
      go_simp
      exact hK _ _ ⟨(Only.refl _ _).alloc _, _, rfl, Cs.new _ _ _⟩
    · rintro vals u _ ⟨⟨g, h1, hc⟩, _⟩
      have hc2 := str_cs2 hc
      (show Mix.goes _ _ _ _ _; refine Mix.goes_K ?_; intro K hK; simp only [Mix.putP, Act.put, List.setIfInBounds_toArray, List.set_cons_succ, List.set_cons_zero])
      rw [h1]
      go_simp
      exact hK _ _ ⟨Only.refl _ _, rfl⟩
    · rintro vals u _ ⟨h1, h2, _⟩
      (show Mix.goes _ _ _ _ _; refine Mix.goes_K ?_; intro K hK; simp only [Mix.putP, Act.put, List.setIfInBounds_toArray, List.set_cons_succ, List.set_cons_zero])
      rw [h1, h2]
      go_simp
      exact hK _ _ ⟨Only.refl _ _, rfl⟩
    · rintro vals u _ ⟨h1, _⟩
      have hg : ¬ 9223372036854775807 < 7 + s.length := by omega
      (show Mix.goes _ _ _ _ _; refine Mix.goes_K ?_; intro K hK; simp only [Mix.putP, Act.put, List.setIfInBounds_toArray, List.set_cons_succ, List.set_cons_zero])
      rw [h1]
      go_simp
      try rw [if_neg hg]
      exact hK _ _ ⟨Only.refl _ _, rfl⟩
    · rintro vals u _ ⟨h1, _⟩
      (show Mix.goes _ _ _ _ _; refine Mix.goes_K ?_; intro K hK; simp only [Mix.putP, Act.put, List.setIfInBounds_toArray, List.set_cons_succ, List.set_cons_zero])
      rw [h1]
      go_simp
      exact hK _ _ ⟨Only.refl _ _, rfl⟩
  · rintro vals u ⟨ξ, rfl⟩ hd
    simp only [Mix.depsR] at hd
    obtain ⟨-, -, -, -, -, -, -, -, h18, -⟩ := hd
    simp only [Mix.putP, Act.put, List.setIfInBounds_toArray, List.set_cons_succ, List.set_cons_zero, h18]
    go_wp2_with fail
    go_ret
    exact ⟨by rw [HT.out]; rfl, ξ.h⟩
theorem RFour_c (n : Nat) (hn : n ≤ 4611686018427387904) (w : World) : Calls Try.prog 32 #[.int .i64 n] w fun e w' => e = .returned (S (fourF n)) ∧ Ext w w' := by
  go_enter Try.func32, Try.ntmps32
  go_wp2_with (first | (refine Mix.wpList_guarded rfl ?_; (repeat' (first | (refine Mix.lex_quiet0 rfl rfl rfl ?_; intro K hK; go_big_quiet_op; go_big_quiet_on) | (refine Mix.lex_quietG rfl rfl rfl (by with_reducible rfl) rfl rfl ?_; intro K hK; go_big_quiet_op; go_big_quiet_on) | ((first | refine Mix.lex_skipT rfl rfl rfl (by with_reducible rfl) ?_ | refine Mix.lex_skipF rfl rfl rfl (by with_reducible rfl) ?_ | refine Mix.lex_skipU rfl rfl rfl (by with_reducible rfl) ?_); simp only [Act.put, List.setIfInBounds_toArray, List.set_cons_succ, List.set_cons_zero]) | (refine Mix.lex_part rfl rfl rfl rfl (fun hq => ?_) (fun hq => ?_) <;> (fail_if_success (guard_hyp hq :ₛ true = true)) <;> (fail_if_success (guard_hyp hq :ₛ false = false)) <;> first | (exfalso; cases hq; done) | (exfalso; simp only [decide_eq_true_eq, decide_eq_false_iff_not, beq_iff_eq, beq_eq_false_iff_ne, ne_eq, Int.not_lt, Int.not_le] at hq; omega) | simp only [Act.put, List.setIfInBounds_toArray, List.set_cons_succ, List.set_cons_zero]))); all_goals (refine Mix.lex_nil ?_)) | (refine Mix.wp_still (by kernel_rfl) (by kernel_rfl) ?_; (repeat' (first | (refine Mix.lex_quiet0 rfl rfl rfl ?_; intro K hK; go_big_quiet_op; go_big_quiet_on) | (refine Mix.lex_quietG rfl rfl rfl (by with_reducible rfl) rfl rfl ?_; intro K hK; go_big_quiet_op; go_big_quiet_on) | ((first | refine Mix.lex_skipT rfl rfl rfl (by with_reducible rfl) ?_ | refine Mix.lex_skipF rfl rfl rfl (by with_reducible rfl) ?_ | refine Mix.lex_skipU rfl rfl rfl (by with_reducible rfl) ?_); simp only [Act.put, List.setIfInBounds_toArray, List.set_cons_succ, List.set_cons_zero]) | (refine Mix.lex_part rfl rfl rfl rfl (fun hq => ?_) (fun hq => ?_) <;> (fail_if_success (guard_hyp hq :ₛ true = true)) <;> (fail_if_success (guard_hyp hq :ₛ false = false)) <;> first | (exfalso; cases hq; done) | (exfalso; simp only [decide_eq_true_eq, decide_eq_false_iff_not, beq_iff_eq, beq_eq_false_iff_ne, ne_eq, Int.not_lt, Int.not_le] at hq; omega) | simp only [Act.put, List.setIfInBounds_toArray, List.set_cons_succ, List.set_cons_zero]))); all_goals (refine Mix.lex_nil ?_)))
  go_ret
  exact ⟨rfl, (Only.refl _ _).alloc _⟩
/- A log: its memory; look. -/
abbrev logT : TypeId := 69
structure LogR where
  g : Nat
  from_ : Nat
  many : Nat
  first : Nat
  next : Nat
abbrev LogR.cells (l : LogR) (dg : Nat) : Array Value := #[pt dg, .int .i64 (l.from_ : Nat), .int .i64 (l.many : Nat), .int .i64 (l.first : Nat), .int .i64 (l.next : Nat)]
def LogAt (w : World) (l : LogR) (dg : Nat) : Prop := Cs w l.g logT (l.cells dg)
theorem LogAt.keep {w v : World} {l : LogR} {dg : Nat} {F : Nat → Prop} (h : LogAt w l dg) (hx : Only F w v) (hn : ¬ F l.g) : LogAt v l dg := Cs.keep h hx hn
theorem LogAt.ext {w v : World} {l : LogR} {dg : Nat} (h : LogAt w l dg) (hx : Ext w v) : LogAt v l dg := Cs.keep h hx id
theorem LogAt.x {w : World} {l : LogR} {dg : Nat} (h : LogAt w l dg) : (∀ ξ : X w No, ξ.v.cell? ⟨l.g, 0, none⟩ = some (pt dg)) ∧ (∀ ξ : X w No, ξ.v.cell? ⟨l.g, 1, none⟩ = some (.int .i64 (l.from_ : Nat))) ∧ (∀ ξ : X w No, ξ.v.cell? ⟨l.g, 2, none⟩ = some (.int .i64 (l.many : Nat))) ∧ (∀ ξ : X w No, ξ.v.cell? ⟨l.g, 3, none⟩ = some (.int .i64 (l.first : Nat))) ∧ (∀ ξ : X w No, ξ.v.cell? ⟨l.g, 4, none⟩ = some (.int .i64 (l.next : Nat))) :=
  ⟨Cs.x h id 0, Cs.x h id 1, Cs.x h id 2, Cs.x h id 3, Cs.x h id 4⟩
/-- A sector of a log: its kind, and what it has. -/
def secN (s : Str) : Nat := (s.getD 5 0).toNat + 256 * (s.getD 6 0).toNat
def lookF (s : Str) (n : Nat) : Option (UInt8 × Str) :=
  if (s.take 5).tail = fourF n ∧ (s.getD 0 0 = 111 ∨ s.getD 0 0 = 99) ∧ secN s ≤ 333 then some (s.getD 0 0, (s.take (7 + secN s)).drop 7) else none
def lookV : Option (UInt8 × Str) → Value
  | none => .tuple #[.int .u8 0, S [], .bool false]
  | some x => .tuple #[.int .u8 x.1.toNat, S x.2, .bool true]
theorem u8_eq (x c : UInt8) : (((x.toNat : Int)) == ((c.toNat : Int))) = decide (x = c) := by
  rw [Bool.eq_iff_iff, beq_iff_eq, decide_eq_true_iff]
  exact ⟨fun h => UInt8.toNat_inj.1 (by omega), fun h => by rw [h]⟩
set_option maxRecDepth 100000 in
set_option maxHeartbeats 2000000 in
theorem look_c {w : World} {r : DkR} {d : Dk} {l : LogR} (h : LogAt w l r.g) (hd : DiskAt w r d) (hdn : d.down = false) (i : Nat) (sec : Str) (hs : d.now[l.from_ + i]? = some sec) (hsl : sec.length = 340) (hf : l.first ≤ 1000000000000) (hi : i ≤ 1000) :
    Calls Try.prog 29 #[pt l.g, .int .i64 i] w fun e w' => e = .returned (lookV (lookF sec (l.first + i))) ∧ Ext w w' := by
  obtain ⟨d0, d1, -, d3, -⟩ := h.x
  have H := Lib.hid h
  have hfm : l.from_ ≤ 1000 := by
    have h1 := (List.getElem?_eq_some_iff.1 hs).1
    have h2 := hd.fine.most
    omega
  have HRd : Hid (∀ v, Ext w v → Calls Try.prog 12 #[pt r.g, .int .i64 ((l.from_ : Int) + (i : Int))] v fun e w' => e = .returned (.tuple #[S sec, .nilIface]) ∧ Ext v w') := fun v hv => by
    have h1 := Read_all (hd.ext hv) ((l.from_ : Int) + (i : Int))
    have hlt := (List.getElem?_eq_some_iff.1 hs).1
    have e1 : d.rd ((l.from_ : Int) + (i : Int)) = sec := by
      unfold Dk.rd
      rw [if_neg (by rw [hdn]; decide), if_neg (by omega)]
      have : ((l.from_ : Int) + (i : Int)).toNat = l.from_ + i := by omega
      rw [this, List.getD_eq_getElem?_getD, hs]
      rfl
    have e2 : d.rdF ((l.from_ : Int) + (i : Int)) = 0 := by
      unfold Dk.rdF
      rw [if_neg (by rw [hdn]; decide), if_neg (by omega)]
    rw [e1, e2] at h1
    exact h1
  have HF4 := Lib.hid (fun v => Four_c (l.first + i) v)
  have HL : Hid (lookF sec (l.first + i) = if (sec.take 5).tail = fourF (l.first + i) ∧ (sec.getD 0 0 = 111 ∨ sec.getD 0 0 = 99) ∧ secN sec ≤ 333 then some (sec.getD 0 0, (sec.take (7 + secN sec)).drop 7) else none) := rfl
  have hf4 := fourF_len (l.first + i)
  rw [show ((l.first + i : Nat) : Int) = (l.first : Int) + (i : Int) by omega] at HF4
  generalize fourF (l.first + i) = f4 at HF4 HL hf4
  obtain ⟨s0, h0⟩ : ∃ x, sec[0]'(by omega) = x := ⟨_, rfl⟩
  obtain ⟨s5, h5⟩ : ∃ x, sec[5]'(by omega) = x := ⟨_, rfl⟩
  obtain ⟨s6, h6⟩ : ∃ x, sec[6]'(by omega) = x := ⟨_, rfl⟩
  have hg0 : sec.getD 0 0 = s0 := by rw [List.getD_eq_getElem?_getD, List.getElem?_eq_getElem (by omega), h0]; rfl
  have hg5 : secN sec = s5.toNat + 256 * s6.toNat := by
    unfold secN
    rw [List.getD_eq_getElem?_getD, List.getD_eq_getElem?_getD, List.getElem?_eq_getElem (by omega), List.getElem?_eq_getElem (by omega), h5, h6]
    rfl
  rw [hg0, hg5] at HL
  have b5 := s5.toNat_lt
  have b6 := s6.toNat_lt
  have k111 : (((s0.toNat : Int)) != 111) = !decide (s0 = 111) := by exact congrArg (!·) (u8_eq s0 111)
  have k99 : (((s0.toNat : Int)) != 99) = !decide (s0 = 99) := by exact congrArg (!·) (u8_eq s0 99)
  obtain ⟨bp, hbp⟩ : ∃ b, ((sec.take 5).tail == f4) = b := ⟨_, rfl⟩
  have hbp' : ((sec.take 5).tail = f4) ↔ bp = true := by rw [← hbp, beq_iff_eq]
  have HL2 : Hid (lookF sec (l.first + i) = if bp = true ∧ (s0 = 111 ∨ s0 = 99) ∧ s5.toNat + 256 * s6.toNat ≤ 333 then some (s0, (sec.take (7 + (s5.toNat + 256 * s6.toNat))).drop 7) else none) := by
    rw [Hid, HL.out]
    simp only [hbp']
  clear HL hbp'
  clear h hd hdn hs hg0 hg5
  go_enter Try.func29, Try.ntmps29
  go_upto_region 1 with fail
  (refine Mix.wp_draw [10] 100 (Cl (w) (No)) (by kernel_rfl) (by kernel_rfl) (Cl.drew_ (X.here w No)) ?_; (repeat' (first | (refine Mix.lex_quiet0 rfl rfl rfl ?_; intro K hK; go_big_quiet_op; go_big_quiet_on) | (refine Mix.lex_quietG rfl rfl rfl (by with_reducible rfl) rfl rfl ?_; intro K hK; go_big_quiet_op; go_big_quiet_on) | ((first | refine Mix.lex_skipT rfl rfl rfl (by with_reducible rfl) ?_ | refine Mix.lex_skipF rfl rfl rfl (by with_reducible rfl) ?_ | refine Mix.lex_skipU rfl rfl rfl (by with_reducible rfl) ?_); simp only [Act.put, List.setIfInBounds_toArray, List.set_cons_succ, List.set_cons_zero]) | (refine Mix.lex_part rfl rfl rfl rfl (fun hq => ?_) (fun hq => ?_) <;> (fail_if_success (guard_hyp hq :ₛ true = true)) <;> (fail_if_success (guard_hyp hq :ₛ false = false)) <;> first | (exfalso; cases hq; done) | (exfalso; simp only [decide_eq_true_eq, decide_eq_false_iff_not, beq_iff_eq, beq_eq_false_iff_ne, ne_eq, Int.not_lt, Int.not_le] at hq; omega) | simp only [Act.put, List.setIfInBounds_toArray, List.set_cons_succ, List.set_cons_zero]))))
  ((first | refine Mix.lex_goes0 rfl rfl ?_ | refine Mix.lex_goesG rfl rfl rfl (by with_reducible rfl) rfl ?_); intro K hK; go_simp)
  refine (HRd.out _ (Only.refl No w).drew).mono ?_
  rintro e u1 ⟨rfl, hu⟩
  have X1 : Hid (Ext w u1) := (Only.refl No w).drew.then_ext hu
  refine ⟨_, rfl, hK _ _ (fun _ => Cl.of X1.out) ?_⟩
  clear hK K hu
  simp only [Act.put, List.setIfInBounds_toArray, List.set_cons_succ, List.set_cons_zero]
  (repeat' (first | (refine Mix.lex_quiet0 rfl rfl rfl ?_; intro K hK; go_big_quiet_op; go_big_quiet_on) | (refine Mix.lex_quietG rfl rfl rfl (by with_reducible rfl) rfl rfl ?_; intro K hK; go_big_quiet_op; go_big_quiet_on) | ((first | refine Mix.lex_skipT rfl rfl rfl (by with_reducible rfl) ?_ | refine Mix.lex_skipF rfl rfl rfl (by with_reducible rfl) ?_ | refine Mix.lex_skipU rfl rfl rfl (by with_reducible rfl) ?_); simp only [Act.put, List.setIfInBounds_toArray, List.set_cons_succ, List.set_cons_zero]) | (refine Mix.lex_part rfl rfl rfl rfl (fun hq => ?_) (fun hq => ?_) <;> (fail_if_success (guard_hyp hq :ₛ true = true)) <;> (fail_if_success (guard_hyp hq :ₛ false = false)) <;> first | (exfalso; cases hq; done) | (exfalso; simp only [decide_eq_true_eq, decide_eq_false_iff_not, beq_iff_eq, beq_eq_false_iff_ne, ne_eq, Int.not_lt, Int.not_le] at hq; omega) | simp only [Act.put, List.setIfInBounds_toArray, List.set_cons_succ, List.set_cons_zero])))
  refine Mix.lex_nil ?_
  have D3 : ∀ ξ : X u1 No, ξ.v.cell? ⟨l.g, 3, none⟩ = some (.int .i64 (l.first : Nat)) := fun ξ => d3 ⟨ξ.v, X1.out.then_ext ξ.h⟩
  clear d0 d1 d3 HRd
  go_upto_region 2 with fail
  (refine Mix.wp_draw [11] 100 (Cl (u1) (No)) (by kernel_rfl) (by kernel_rfl) (Cl.drew_ (X.here u1 No)) ?_; (repeat' (first | (refine Mix.lex_quiet0 rfl rfl rfl ?_; intro K hK; go_big_quiet_op; go_big_quiet_on) | (refine Mix.lex_quietG rfl rfl rfl (by with_reducible rfl) rfl rfl ?_; intro K hK; go_big_quiet_op; go_big_quiet_on) | ((first | refine Mix.lex_skipT rfl rfl rfl (by with_reducible rfl) ?_ | refine Mix.lex_skipF rfl rfl rfl (by with_reducible rfl) ?_ | refine Mix.lex_skipU rfl rfl rfl (by with_reducible rfl) ?_); simp only [Act.put, List.setIfInBounds_toArray, List.set_cons_succ, List.set_cons_zero]) | (refine Mix.lex_part rfl rfl rfl rfl (fun hq => ?_) (fun hq => ?_) <;> (fail_if_success (guard_hyp hq :ₛ true = true)) <;> (fail_if_success (guard_hyp hq :ₛ false = false)) <;> first | (exfalso; cases hq; done) | (exfalso; simp only [decide_eq_true_eq, decide_eq_false_iff_not, beq_iff_eq, beq_eq_false_iff_ne, ne_eq, Int.not_lt, Int.not_le] at hq; omega) | simp only [Act.put, List.setIfInBounds_toArray, List.set_cons_succ, List.set_cons_zero]))))
  ((first | refine Mix.lex_goes0 rfl rfl ?_ | refine Mix.lex_goesG rfl rfl rfl (by with_reducible rfl) rfl ?_); intro K hK; go_simp)
  refine (HF4.out _).mono ?_
  rintro e u2 ⟨rfl, hu⟩
  have X2 : Hid (Ext u1 u2) := (Only.refl No u1).drew.then_ext hu
  refine ⟨_, rfl, hK _ _ (fun _ => Cl.of X2.out) ?_⟩
  clear hK K hu D3
  simp only [Act.put, List.setIfInBounds_toArray, List.set_cons_succ, List.set_cons_zero]
  by_cases hok : bp = true ∧ (s0 = 111 ∨ s0 = 99)
  · obtain ⟨rfl, hk⟩ := hok
    have HL3 : Hid (lookF sec (l.first + i) = if s5.toNat + 256 * s6.toNat ≤ 333 then some (s0, (sec.take (7 + (s5.toNat + 256 * s6.toNat))).drop 7) else none) := by
      rw [Hid, HL2.out]
      by_cases h333 : s5.toNat + 256 * s6.toNat ≤ 333
      · rw [if_pos ⟨rfl, hk, h333⟩, if_pos h333]
      · rw [if_neg fun h => h333 h.2.2, if_neg h333]
    have hkk : (decide (s0 = 111) = true) ∨ (decide (s0 = 111) = false ∧ decide (s0 = 99) = true) := by
      by_cases h1 : s0 = 111
      · exact .inl (decide_eq_true h1)
      · rcases hk with h | h
        · exact absurd h h1
        · exact .inr ⟨decide_eq_false h1, decide_eq_true h⟩
    clear HL2 hk
    rcases hkk with q1 | ⟨q1, q2⟩
    · rw [q1] at k111; simp only [Bool.not_true, Bool.not_false] at k111
      clear k99
      (repeat' (first | (refine Mix.lex_quiet0 rfl rfl rfl ?_; intro K hK; go_big_quiet_op; go_big_quiet_on) | (refine Mix.lex_quietG rfl rfl rfl (by with_reducible rfl) rfl rfl ?_; intro K hK; go_big_quiet_op; go_big_quiet_on) | ((first | refine Mix.lex_skipT rfl rfl rfl (by with_reducible rfl) ?_ | refine Mix.lex_skipF rfl rfl rfl (by with_reducible rfl) ?_ | refine Mix.lex_skipU rfl rfl rfl (by with_reducible rfl) ?_); simp only [Act.put, List.setIfInBounds_toArray, List.set_cons_succ, List.set_cons_zero]) | (refine Mix.lex_part rfl rfl rfl rfl (fun hq => ?_) (fun hq => ?_) <;> (fail_if_success (guard_hyp hq :ₛ true = true)) <;> (fail_if_success (guard_hyp hq :ₛ false = false)) <;> first | (exfalso; cases hq; done) | (exfalso; simp only [decide_eq_true_eq, decide_eq_false_iff_not, beq_iff_eq, beq_eq_false_iff_ne, ne_eq, Int.not_lt, Int.not_le] at hq; omega) | simp only [Act.put, List.setIfInBounds_toArray, List.set_cons_succ, List.set_cons_zero])))
      refine Mix.lex_nil ?_
      go_upto_region 4 with fail
      (refine Mix.wp_draw [] 100 (Cl (u2) (No)) (by kernel_rfl) (by kernel_rfl) (Cl.drew_ (X.here u2 No)) ?_; (repeat' (first | (refine Mix.lex_quiet0 rfl rfl rfl ?_; intro K hK; go_big_quiet_op; go_big_quiet_on) | (refine Mix.lex_quietG rfl rfl rfl (by with_reducible rfl) rfl rfl ?_; intro K hK; go_big_quiet_op; go_big_quiet_on) | ((first | refine Mix.lex_skipT rfl rfl rfl (by with_reducible rfl) ?_ | refine Mix.lex_skipF rfl rfl rfl (by with_reducible rfl) ?_ | refine Mix.lex_skipU rfl rfl rfl (by with_reducible rfl) ?_); simp only [Act.put, List.setIfInBounds_toArray, List.set_cons_succ, List.set_cons_zero]) | (refine Mix.lex_part rfl rfl rfl rfl (fun hq => ?_) (fun hq => ?_) <;> (fail_if_success (guard_hyp hq :ₛ true = true)) <;> (fail_if_success (guard_hyp hq :ₛ false = false)) <;> first | (exfalso; cases hq; done) | (exfalso; simp only [decide_eq_true_eq, decide_eq_false_iff_not, beq_iff_eq, beq_eq_false_iff_ne, ne_eq, Int.not_lt, Int.not_le] at hq; omega) | simp only [Act.put, List.setIfInBounds_toArray, List.set_cons_succ, List.set_cons_zero]))))
      all_goals (refine Mix.lex_nil ?_)
      have X3 : Hid (Ext w u2.drew) := (X1.out.then_ext X2.out).drew
      by_cases h333 : s5.toNat + 256 * s6.toNat ≤ 333
      · have g333 : decide ((333 : Int) < (s5.toNat : Int) + 256 * (s6.toNat : Int)) = false := by rw [decide_eq_false_iff_not]; omega
        have HL4 := Lib.hid (HL3.out.trans (if_pos h333))
        go_upto_region 7 with fail
        (refine Mix.wp_draw [] 100 (Cl (u2.drew) (No)) (by kernel_rfl) (by kernel_rfl) (Cl.drew_ (X.here u2.drew No)) ?_; (repeat' (first | (refine Mix.lex_quiet0 rfl rfl rfl ?_; intro K hK; go_big_quiet_op; go_big_quiet_on) | (refine Mix.lex_quietG rfl rfl rfl (by with_reducible rfl) rfl rfl ?_; intro K hK; go_big_quiet_op; go_big_quiet_on) | ((first | refine Mix.lex_skipT rfl rfl rfl (by with_reducible rfl) ?_ | refine Mix.lex_skipF rfl rfl rfl (by with_reducible rfl) ?_ | refine Mix.lex_skipU rfl rfl rfl (by with_reducible rfl) ?_); simp only [Act.put, List.setIfInBounds_toArray, List.set_cons_succ, List.set_cons_zero]) | (refine Mix.lex_part rfl rfl rfl rfl (fun hq => ?_) (fun hq => ?_) <;> (fail_if_success (guard_hyp hq :ₛ true = true)) <;> (fail_if_success (guard_hyp hq :ₛ false = false)) <;> first | (exfalso; cases hq; done) | (exfalso; simp only [decide_eq_true_eq, decide_eq_false_iff_not, beq_iff_eq, beq_eq_false_iff_ne, ne_eq, Int.not_lt, Int.not_le] at hq; omega) | simp only [Act.put, List.setIfInBounds_toArray, List.set_cons_succ, List.set_cons_zero]))))
        all_goals (refine Mix.lex_nil ?_)
        go_wp2_with (first | (refine Mix.wpList_guarded rfl ?_; (repeat' (first | (refine Mix.lex_quiet0 rfl rfl rfl ?_; intro K hK; go_big_quiet_op; go_big_quiet_on) | (refine Mix.lex_quietG rfl rfl rfl (by with_reducible rfl) rfl rfl ?_; intro K hK; go_big_quiet_op; go_big_quiet_on) | ((first | refine Mix.lex_skipT rfl rfl rfl (by with_reducible rfl) ?_ | refine Mix.lex_skipF rfl rfl rfl (by with_reducible rfl) ?_ | refine Mix.lex_skipU rfl rfl rfl (by with_reducible rfl) ?_); simp only [Act.put, List.setIfInBounds_toArray, List.set_cons_succ, List.set_cons_zero]) | (refine Mix.lex_part rfl rfl rfl rfl (fun hq => ?_) (fun hq => ?_) <;> (fail_if_success (guard_hyp hq :ₛ true = true)) <;> (fail_if_success (guard_hyp hq :ₛ false = false)) <;> first | (exfalso; cases hq; done) | (exfalso; simp only [decide_eq_true_eq, decide_eq_false_iff_not, beq_iff_eq, beq_eq_false_iff_ne, ne_eq, Int.not_lt, Int.not_le] at hq; omega) | simp only [Act.put, List.setIfInBounds_toArray, List.set_cons_succ, List.set_cons_zero]))); all_goals (refine Mix.lex_nil ?_)) | (refine Mix.wp_still (by kernel_rfl) (by kernel_rfl) ?_; (repeat' (first | (refine Mix.lex_quiet0 rfl rfl rfl ?_; intro K hK; go_big_quiet_op; go_big_quiet_on) | (refine Mix.lex_quietG rfl rfl rfl (by with_reducible rfl) rfl rfl ?_; intro K hK; go_big_quiet_op; go_big_quiet_on) | ((first | refine Mix.lex_skipT rfl rfl rfl (by with_reducible rfl) ?_ | refine Mix.lex_skipF rfl rfl rfl (by with_reducible rfl) ?_ | refine Mix.lex_skipU rfl rfl rfl (by with_reducible rfl) ?_); simp only [Act.put, List.setIfInBounds_toArray, List.set_cons_succ, List.set_cons_zero]) | (refine Mix.lex_part rfl rfl rfl rfl (fun hq => ?_) (fun hq => ?_) <;> (fail_if_success (guard_hyp hq :ₛ true = true)) <;> (fail_if_success (guard_hyp hq :ₛ false = false)) <;> first | (exfalso; cases hq; done) | (exfalso; simp only [decide_eq_true_eq, decide_eq_false_iff_not, beq_iff_eq, beq_eq_false_iff_ne, ne_eq, Int.not_lt, Int.not_le] at hq; omega) | simp only [Act.put, List.setIfInBounds_toArray, List.set_cons_succ, List.set_cons_zero]))); all_goals (refine Mix.lex_nil ?_)))
        go_ret3
        refine ⟨?_, X3.out.drew⟩
        rw [HL4.out]
        rfl
      · have g333 : decide ((333 : Int) < (s5.toNat : Int) + 256 * (s6.toNat : Int)) = true := by rw [decide_eq_true_iff]; omega
        have HL4 := Lib.hid (HL3.out.trans (if_neg h333))
        go_wp2_with (first | (refine Mix.wpList_guarded rfl ?_; (repeat' (first | (refine Mix.lex_quiet0 rfl rfl rfl ?_; intro K hK; go_big_quiet_op; go_big_quiet_on) | (refine Mix.lex_quietG rfl rfl rfl (by with_reducible rfl) rfl rfl ?_; intro K hK; go_big_quiet_op; go_big_quiet_on) | ((first | refine Mix.lex_skipT rfl rfl rfl (by with_reducible rfl) ?_ | refine Mix.lex_skipF rfl rfl rfl (by with_reducible rfl) ?_ | refine Mix.lex_skipU rfl rfl rfl (by with_reducible rfl) ?_); simp only [Act.put, List.setIfInBounds_toArray, List.set_cons_succ, List.set_cons_zero]) | (refine Mix.lex_part rfl rfl rfl rfl (fun hq => ?_) (fun hq => ?_) <;> (fail_if_success (guard_hyp hq :ₛ true = true)) <;> (fail_if_success (guard_hyp hq :ₛ false = false)) <;> first | (exfalso; cases hq; done) | (exfalso; simp only [decide_eq_true_eq, decide_eq_false_iff_not, beq_iff_eq, beq_eq_false_iff_ne, ne_eq, Int.not_lt, Int.not_le] at hq; omega) | simp only [Act.put, List.setIfInBounds_toArray, List.set_cons_succ, List.set_cons_zero]))); all_goals (refine Mix.lex_nil ?_)) | (refine Mix.wp_still (by kernel_rfl) (by kernel_rfl) ?_; (repeat' (first | (refine Mix.lex_quiet0 rfl rfl rfl ?_; intro K hK; go_big_quiet_op; go_big_quiet_on) | (refine Mix.lex_quietG rfl rfl rfl (by with_reducible rfl) rfl rfl ?_; intro K hK; go_big_quiet_op; go_big_quiet_on) | ((first | refine Mix.lex_skipT rfl rfl rfl (by with_reducible rfl) ?_ | refine Mix.lex_skipF rfl rfl rfl (by with_reducible rfl) ?_ | refine Mix.lex_skipU rfl rfl rfl (by with_reducible rfl) ?_); simp only [Act.put, List.setIfInBounds_toArray, List.set_cons_succ, List.set_cons_zero]) | (refine Mix.lex_part rfl rfl rfl rfl (fun hq => ?_) (fun hq => ?_) <;> (fail_if_success (guard_hyp hq :ₛ true = true)) <;> (fail_if_success (guard_hyp hq :ₛ false = false)) <;> first | (exfalso; cases hq; done) | (exfalso; simp only [decide_eq_true_eq, decide_eq_false_iff_not, beq_iff_eq, beq_eq_false_iff_ne, ne_eq, Int.not_lt, Int.not_le] at hq; omega) | simp only [Act.put, List.setIfInBounds_toArray, List.set_cons_succ, List.set_cons_zero]))); all_goals (refine Mix.lex_nil ?_)))
        go_ret3
        exact ⟨by rw [HL4.out]; rfl, X3.out⟩
    · rw [q1] at k111; simp only [Bool.not_true, Bool.not_false] at k111
      rw [q2] at k99; simp only [Bool.not_true, Bool.not_false] at k99
      (repeat' (first | (refine Mix.lex_quiet0 rfl rfl rfl ?_; intro K hK; go_big_quiet_op; go_big_quiet_on) | (refine Mix.lex_quietG rfl rfl rfl (by with_reducible rfl) rfl rfl ?_; intro K hK; go_big_quiet_op; go_big_quiet_on) | ((first | refine Mix.lex_skipT rfl rfl rfl (by with_reducible rfl) ?_ | refine Mix.lex_skipF rfl rfl rfl (by with_reducible rfl) ?_ | refine Mix.lex_skipU rfl rfl rfl (by with_reducible rfl) ?_); simp only [Act.put, List.setIfInBounds_toArray, List.set_cons_succ, List.set_cons_zero]) | (refine Mix.lex_part rfl rfl rfl rfl (fun hq => ?_) (fun hq => ?_) <;> (fail_if_success (guard_hyp hq :ₛ true = true)) <;> (fail_if_success (guard_hyp hq :ₛ false = false)) <;> first | (exfalso; cases hq; done) | (exfalso; simp only [decide_eq_true_eq, decide_eq_false_iff_not, beq_iff_eq, beq_eq_false_iff_ne, ne_eq, Int.not_lt, Int.not_le] at hq; omega) | simp only [Act.put, List.setIfInBounds_toArray, List.set_cons_succ, List.set_cons_zero])))
      refine Mix.lex_nil ?_
      go_upto_region 4 with fail
      (refine Mix.wp_draw [] 100 (Cl (u2) (No)) (by kernel_rfl) (by kernel_rfl) (Cl.drew_ (X.here u2 No)) ?_; (repeat' (first | (refine Mix.lex_quiet0 rfl rfl rfl ?_; intro K hK; go_big_quiet_op; go_big_quiet_on) | (refine Mix.lex_quietG rfl rfl rfl (by with_reducible rfl) rfl rfl ?_; intro K hK; go_big_quiet_op; go_big_quiet_on) | ((first | refine Mix.lex_skipT rfl rfl rfl (by with_reducible rfl) ?_ | refine Mix.lex_skipF rfl rfl rfl (by with_reducible rfl) ?_ | refine Mix.lex_skipU rfl rfl rfl (by with_reducible rfl) ?_); simp only [Act.put, List.setIfInBounds_toArray, List.set_cons_succ, List.set_cons_zero]) | (refine Mix.lex_part rfl rfl rfl rfl (fun hq => ?_) (fun hq => ?_) <;> (fail_if_success (guard_hyp hq :ₛ true = true)) <;> (fail_if_success (guard_hyp hq :ₛ false = false)) <;> first | (exfalso; cases hq; done) | (exfalso; simp only [decide_eq_true_eq, decide_eq_false_iff_not, beq_iff_eq, beq_eq_false_iff_ne, ne_eq, Int.not_lt, Int.not_le] at hq; omega) | simp only [Act.put, List.setIfInBounds_toArray, List.set_cons_succ, List.set_cons_zero]))))
      all_goals (refine Mix.lex_nil ?_)
      have X3 : Hid (Ext w u2.drew) := (X1.out.then_ext X2.out).drew
      by_cases h333 : s5.toNat + 256 * s6.toNat ≤ 333
      · have g333 : decide ((333 : Int) < (s5.toNat : Int) + 256 * (s6.toNat : Int)) = false := by rw [decide_eq_false_iff_not]; omega
        have HL4 := Lib.hid (HL3.out.trans (if_pos h333))
        go_upto_region 7 with fail
        (refine Mix.wp_draw [] 100 (Cl (u2.drew) (No)) (by kernel_rfl) (by kernel_rfl) (Cl.drew_ (X.here u2.drew No)) ?_; (repeat' (first | (refine Mix.lex_quiet0 rfl rfl rfl ?_; intro K hK; go_big_quiet_op; go_big_quiet_on) | (refine Mix.lex_quietG rfl rfl rfl (by with_reducible rfl) rfl rfl ?_; intro K hK; go_big_quiet_op; go_big_quiet_on) | ((first | refine Mix.lex_skipT rfl rfl rfl (by with_reducible rfl) ?_ | refine Mix.lex_skipF rfl rfl rfl (by with_reducible rfl) ?_ | refine Mix.lex_skipU rfl rfl rfl (by with_reducible rfl) ?_); simp only [Act.put, List.setIfInBounds_toArray, List.set_cons_succ, List.set_cons_zero]) | (refine Mix.lex_part rfl rfl rfl rfl (fun hq => ?_) (fun hq => ?_) <;> (fail_if_success (guard_hyp hq :ₛ true = true)) <;> (fail_if_success (guard_hyp hq :ₛ false = false)) <;> first | (exfalso; cases hq; done) | (exfalso; simp only [decide_eq_true_eq, decide_eq_false_iff_not, beq_iff_eq, beq_eq_false_iff_ne, ne_eq, Int.not_lt, Int.not_le] at hq; omega) | simp only [Act.put, List.setIfInBounds_toArray, List.set_cons_succ, List.set_cons_zero]))))
        all_goals (refine Mix.lex_nil ?_)
        go_wp2_with (first | (refine Mix.wpList_guarded rfl ?_; (repeat' (first | (refine Mix.lex_quiet0 rfl rfl rfl ?_; intro K hK; go_big_quiet_op; go_big_quiet_on) | (refine Mix.lex_quietG rfl rfl rfl (by with_reducible rfl) rfl rfl ?_; intro K hK; go_big_quiet_op; go_big_quiet_on) | ((first | refine Mix.lex_skipT rfl rfl rfl (by with_reducible rfl) ?_ | refine Mix.lex_skipF rfl rfl rfl (by with_reducible rfl) ?_ | refine Mix.lex_skipU rfl rfl rfl (by with_reducible rfl) ?_); simp only [Act.put, List.setIfInBounds_toArray, List.set_cons_succ, List.set_cons_zero]) | (refine Mix.lex_part rfl rfl rfl rfl (fun hq => ?_) (fun hq => ?_) <;> (fail_if_success (guard_hyp hq :ₛ true = true)) <;> (fail_if_success (guard_hyp hq :ₛ false = false)) <;> first | (exfalso; cases hq; done) | (exfalso; simp only [decide_eq_true_eq, decide_eq_false_iff_not, beq_iff_eq, beq_eq_false_iff_ne, ne_eq, Int.not_lt, Int.not_le] at hq; omega) | simp only [Act.put, List.setIfInBounds_toArray, List.set_cons_succ, List.set_cons_zero]))); all_goals (refine Mix.lex_nil ?_)) | (refine Mix.wp_still (by kernel_rfl) (by kernel_rfl) ?_; (repeat' (first | (refine Mix.lex_quiet0 rfl rfl rfl ?_; intro K hK; go_big_quiet_op; go_big_quiet_on) | (refine Mix.lex_quietG rfl rfl rfl (by with_reducible rfl) rfl rfl ?_; intro K hK; go_big_quiet_op; go_big_quiet_on) | ((first | refine Mix.lex_skipT rfl rfl rfl (by with_reducible rfl) ?_ | refine Mix.lex_skipF rfl rfl rfl (by with_reducible rfl) ?_ | refine Mix.lex_skipU rfl rfl rfl (by with_reducible rfl) ?_); simp only [Act.put, List.setIfInBounds_toArray, List.set_cons_succ, List.set_cons_zero]) | (refine Mix.lex_part rfl rfl rfl rfl (fun hq => ?_) (fun hq => ?_) <;> (fail_if_success (guard_hyp hq :ₛ true = true)) <;> (fail_if_success (guard_hyp hq :ₛ false = false)) <;> first | (exfalso; cases hq; done) | (exfalso; simp only [decide_eq_true_eq, decide_eq_false_iff_not, beq_iff_eq, beq_eq_false_iff_ne, ne_eq, Int.not_lt, Int.not_le] at hq; omega) | simp only [Act.put, List.setIfInBounds_toArray, List.set_cons_succ, List.set_cons_zero]))); all_goals (refine Mix.lex_nil ?_)))
        go_ret3
        refine ⟨?_, X3.out.drew⟩
        rw [HL4.out]
        rfl
      · have g333 : decide ((333 : Int) < (s5.toNat : Int) + 256 * (s6.toNat : Int)) = true := by rw [decide_eq_true_iff]; omega
        have HL4 := Lib.hid (HL3.out.trans (if_neg h333))
        go_wp2_with (first | (refine Mix.wpList_guarded rfl ?_; (repeat' (first | (refine Mix.lex_quiet0 rfl rfl rfl ?_; intro K hK; go_big_quiet_op; go_big_quiet_on) | (refine Mix.lex_quietG rfl rfl rfl (by with_reducible rfl) rfl rfl ?_; intro K hK; go_big_quiet_op; go_big_quiet_on) | ((first | refine Mix.lex_skipT rfl rfl rfl (by with_reducible rfl) ?_ | refine Mix.lex_skipF rfl rfl rfl (by with_reducible rfl) ?_ | refine Mix.lex_skipU rfl rfl rfl (by with_reducible rfl) ?_); simp only [Act.put, List.setIfInBounds_toArray, List.set_cons_succ, List.set_cons_zero]) | (refine Mix.lex_part rfl rfl rfl rfl (fun hq => ?_) (fun hq => ?_) <;> (fail_if_success (guard_hyp hq :ₛ true = true)) <;> (fail_if_success (guard_hyp hq :ₛ false = false)) <;> first | (exfalso; cases hq; done) | (exfalso; simp only [decide_eq_true_eq, decide_eq_false_iff_not, beq_iff_eq, beq_eq_false_iff_ne, ne_eq, Int.not_lt, Int.not_le] at hq; omega) | simp only [Act.put, List.setIfInBounds_toArray, List.set_cons_succ, List.set_cons_zero]))); all_goals (refine Mix.lex_nil ?_)) | (refine Mix.wp_still (by kernel_rfl) (by kernel_rfl) ?_; (repeat' (first | (refine Mix.lex_quiet0 rfl rfl rfl ?_; intro K hK; go_big_quiet_op; go_big_quiet_on) | (refine Mix.lex_quietG rfl rfl rfl (by with_reducible rfl) rfl rfl ?_; intro K hK; go_big_quiet_op; go_big_quiet_on) | ((first | refine Mix.lex_skipT rfl rfl rfl (by with_reducible rfl) ?_ | refine Mix.lex_skipF rfl rfl rfl (by with_reducible rfl) ?_ | refine Mix.lex_skipU rfl rfl rfl (by with_reducible rfl) ?_); simp only [Act.put, List.setIfInBounds_toArray, List.set_cons_succ, List.set_cons_zero]) | (refine Mix.lex_part rfl rfl rfl rfl (fun hq => ?_) (fun hq => ?_) <;> (fail_if_success (guard_hyp hq :ₛ true = true)) <;> (fail_if_success (guard_hyp hq :ₛ false = false)) <;> first | (exfalso; cases hq; done) | (exfalso; simp only [decide_eq_true_eq, decide_eq_false_iff_not, beq_iff_eq, beq_eq_false_iff_ne, ne_eq, Int.not_lt, Int.not_le] at hq; omega) | simp only [Act.put, List.setIfInBounds_toArray, List.set_cons_succ, List.set_cons_zero]))); all_goals (refine Mix.lex_nil ?_)))
        go_ret3
        exact ⟨by rw [HL4.out]; rfl, X3.out⟩
  · have HL3 : Hid (lookF sec (l.first + i) = none) := by
      rw [Hid, HL2.out, if_neg fun h => hok ⟨h.1, h.2.1⟩]
    cases bp with
    | false =>
      clear HL2 hok
      (repeat' (first | (refine Mix.lex_quiet0 rfl rfl rfl ?_; intro K hK; go_big_quiet_op; go_big_quiet_on) | (refine Mix.lex_quietG rfl rfl rfl (by with_reducible rfl) rfl rfl ?_; intro K hK; go_big_quiet_op; go_big_quiet_on) | ((first | refine Mix.lex_skipT rfl rfl rfl (by with_reducible rfl) ?_ | refine Mix.lex_skipF rfl rfl rfl (by with_reducible rfl) ?_ | refine Mix.lex_skipU rfl rfl rfl (by with_reducible rfl) ?_); simp only [Act.put, List.setIfInBounds_toArray, List.set_cons_succ, List.set_cons_zero]) | (refine Mix.lex_part rfl rfl rfl rfl (fun hq => ?_) (fun hq => ?_) <;> (fail_if_success (guard_hyp hq :ₛ true = true)) <;> (fail_if_success (guard_hyp hq :ₛ false = false)) <;> first | (exfalso; cases hq; done) | (exfalso; simp only [decide_eq_true_eq, decide_eq_false_iff_not, beq_iff_eq, beq_eq_false_iff_ne, ne_eq, Int.not_lt, Int.not_le] at hq; omega) | simp only [Act.put, List.setIfInBounds_toArray, List.set_cons_succ, List.set_cons_zero])))
      refine Mix.lex_nil ?_
      go_wp2_with (first | (refine Mix.wpList_guarded rfl ?_; (repeat' (first | (refine Mix.lex_quiet0 rfl rfl rfl ?_; intro K hK; go_big_quiet_op; go_big_quiet_on) | (refine Mix.lex_quietG rfl rfl rfl (by with_reducible rfl) rfl rfl ?_; intro K hK; go_big_quiet_op; go_big_quiet_on) | ((first | refine Mix.lex_skipT rfl rfl rfl (by with_reducible rfl) ?_ | refine Mix.lex_skipF rfl rfl rfl (by with_reducible rfl) ?_ | refine Mix.lex_skipU rfl rfl rfl (by with_reducible rfl) ?_); simp only [Act.put, List.setIfInBounds_toArray, List.set_cons_succ, List.set_cons_zero]) | (refine Mix.lex_part rfl rfl rfl rfl (fun hq => ?_) (fun hq => ?_) <;> (fail_if_success (guard_hyp hq :ₛ true = true)) <;> (fail_if_success (guard_hyp hq :ₛ false = false)) <;> first | (exfalso; cases hq; done) | (exfalso; simp only [decide_eq_true_eq, decide_eq_false_iff_not, beq_iff_eq, beq_eq_false_iff_ne, ne_eq, Int.not_lt, Int.not_le] at hq; omega) | simp only [Act.put, List.setIfInBounds_toArray, List.set_cons_succ, List.set_cons_zero]))); all_goals (refine Mix.lex_nil ?_)) | (refine Mix.wp_still (by kernel_rfl) (by kernel_rfl) ?_; (repeat' (first | (refine Mix.lex_quiet0 rfl rfl rfl ?_; intro K hK; go_big_quiet_op; go_big_quiet_on) | (refine Mix.lex_quietG rfl rfl rfl (by with_reducible rfl) rfl rfl ?_; intro K hK; go_big_quiet_op; go_big_quiet_on) | ((first | refine Mix.lex_skipT rfl rfl rfl (by with_reducible rfl) ?_ | refine Mix.lex_skipF rfl rfl rfl (by with_reducible rfl) ?_ | refine Mix.lex_skipU rfl rfl rfl (by with_reducible rfl) ?_); simp only [Act.put, List.setIfInBounds_toArray, List.set_cons_succ, List.set_cons_zero]) | (refine Mix.lex_part rfl rfl rfl rfl (fun hq => ?_) (fun hq => ?_) <;> (fail_if_success (guard_hyp hq :ₛ true = true)) <;> (fail_if_success (guard_hyp hq :ₛ false = false)) <;> first | (exfalso; cases hq; done) | (exfalso; simp only [decide_eq_true_eq, decide_eq_false_iff_not, beq_iff_eq, beq_eq_false_iff_ne, ne_eq, Int.not_lt, Int.not_le] at hq; omega) | simp only [Act.put, List.setIfInBounds_toArray, List.set_cons_succ, List.set_cons_zero]))); all_goals (refine Mix.lex_nil ?_)))
      go_ret3
      exact ⟨by rw [HL3.out]; rfl, X1.out.then_ext X2.out⟩
    | true =>
      have q1 : decide (s0 = 111) = false := decide_eq_false fun h => hok ⟨rfl, .inl h⟩
      have q2 : decide (s0 = 99) = false := decide_eq_false fun h => hok ⟨rfl, .inr h⟩
      rw [q1] at k111; simp only [Bool.not_true, Bool.not_false] at k111
      rw [q2] at k99; simp only [Bool.not_true, Bool.not_false] at k99
      clear HL2 hok
      (repeat' (first | (refine Mix.lex_quiet0 rfl rfl rfl ?_; intro K hK; go_big_quiet_op; go_big_quiet_on) | (refine Mix.lex_quietG rfl rfl rfl (by with_reducible rfl) rfl rfl ?_; intro K hK; go_big_quiet_op; go_big_quiet_on) | ((first | refine Mix.lex_skipT rfl rfl rfl (by with_reducible rfl) ?_ | refine Mix.lex_skipF rfl rfl rfl (by with_reducible rfl) ?_ | refine Mix.lex_skipU rfl rfl rfl (by with_reducible rfl) ?_); simp only [Act.put, List.setIfInBounds_toArray, List.set_cons_succ, List.set_cons_zero]) | (refine Mix.lex_part rfl rfl rfl rfl (fun hq => ?_) (fun hq => ?_) <;> (fail_if_success (guard_hyp hq :ₛ true = true)) <;> (fail_if_success (guard_hyp hq :ₛ false = false)) <;> first | (exfalso; cases hq; done) | (exfalso; simp only [decide_eq_true_eq, decide_eq_false_iff_not, beq_iff_eq, beq_eq_false_iff_ne, ne_eq, Int.not_lt, Int.not_le] at hq; omega) | simp only [Act.put, List.setIfInBounds_toArray, List.set_cons_succ, List.set_cons_zero])))
      refine Mix.lex_nil ?_
      go_wp2_with (first | (refine Mix.wpList_guarded rfl ?_; (repeat' (first | (refine Mix.lex_quiet0 rfl rfl rfl ?_; intro K hK; go_big_quiet_op; go_big_quiet_on) | (refine Mix.lex_quietG rfl rfl rfl (by with_reducible rfl) rfl rfl ?_; intro K hK; go_big_quiet_op; go_big_quiet_on) | ((first | refine Mix.lex_skipT rfl rfl rfl (by with_reducible rfl) ?_ | refine Mix.lex_skipF rfl rfl rfl (by with_reducible rfl) ?_ | refine Mix.lex_skipU rfl rfl rfl (by with_reducible rfl) ?_); simp only [Act.put, List.setIfInBounds_toArray, List.set_cons_succ, List.set_cons_zero]) | (refine Mix.lex_part rfl rfl rfl rfl (fun hq => ?_) (fun hq => ?_) <;> (fail_if_success (guard_hyp hq :ₛ true = true)) <;> (fail_if_success (guard_hyp hq :ₛ false = false)) <;> first | (exfalso; cases hq; done) | (exfalso; simp only [decide_eq_true_eq, decide_eq_false_iff_not, beq_iff_eq, beq_eq_false_iff_ne, ne_eq, Int.not_lt, Int.not_le] at hq; omega) | simp only [Act.put, List.setIfInBounds_toArray, List.set_cons_succ, List.set_cons_zero]))); all_goals (refine Mix.lex_nil ?_)) | (refine Mix.wp_still (by kernel_rfl) (by kernel_rfl) ?_; (repeat' (first | (refine Mix.lex_quiet0 rfl rfl rfl ?_; intro K hK; go_big_quiet_op; go_big_quiet_on) | (refine Mix.lex_quietG rfl rfl rfl (by with_reducible rfl) rfl rfl ?_; intro K hK; go_big_quiet_op; go_big_quiet_on) | ((first | refine Mix.lex_skipT rfl rfl rfl (by with_reducible rfl) ?_ | refine Mix.lex_skipF rfl rfl rfl (by with_reducible rfl) ?_ | refine Mix.lex_skipU rfl rfl rfl (by with_reducible rfl) ?_); simp only [Act.put, List.setIfInBounds_toArray, List.set_cons_succ, List.set_cons_zero]) | (refine Mix.lex_part rfl rfl rfl rfl (fun hq => ?_) (fun hq => ?_) <;> (fail_if_success (guard_hyp hq :ₛ true = true)) <;> (fail_if_success (guard_hyp hq :ₛ false = false)) <;> first | (exfalso; cases hq; done) | (exfalso; simp only [decide_eq_true_eq, decide_eq_false_iff_not, beq_iff_eq, beq_eq_false_iff_ne, ne_eq, Int.not_lt, Int.not_le] at hq; omega) | simp only [Act.put, List.setIfInBounds_toArray, List.set_cons_succ, List.set_cons_zero]))); all_goals (refine Mix.lex_nil ?_)))
      go_ret3
      exact ⟨by rw [HL3.out]; rfl, X1.out.then_ext X2.out⟩
end Go.Proofs.Ytlfiobciahnapaa
