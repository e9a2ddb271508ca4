/- Put together: Err, Lg2, Types, Name. -/
import Derived.Test.YtaphmmobmadfoaaMc07
import Derived.Test.YtaphmmobmadfoaaMc09
import Derived.Test.YtaphmmobmadfoaaMc04
import Derived.Test.YtaphmmobmadfoaaMc06
import Derived.IntWalk
import Derived.OwnWalk
import Derived.Test.YtaphmmobmadfoaaProg
import Derived.Test.YtaphmmobmadfoaaMc03
/- An error and a number: the same? -/
namespace Go.Proofs.Ytaphmmobmadfoaa
open Go Go.RowKit
theorem Write_falls {w : World} {r : DkR} {d : Dk} (h : DiskAt w r d) (k : Nat) (hk : k < d.now.length) (s : Str) (hs : s.length ≤ 340) (hf : d.falls = true) :
    Calls Try.prog 36 #[pt r.g, .int .i64 k, S s] w (DkRes w r d.stepped (E 11)) := by
  have c1 := h.cs.cell 1
  simp only [List.getElem?_toArray, List.getElem?_cons_succ, List.getElem?_cons_zero] at c1
  have hl := h.fine.most
  have hst := step_c h
  rw [hf] at hst
  have HST := Lib.hid hst
  clear h hst hf
  go_enter Try.func36, Try.ntmps36
  go_wp2_with (first | ((first | refine Mix.wpList_guarded rfl ?_ | refine Mix.wp_still (by kernel_rfl) (by kernel_rfl) ?_); (repeat' (first | (refine Mix.lex_quiet0 rfl rfl rfl ?_; intro K hK; go_big_quiet_op; go_big_quiet_on) | (refine Mix.lex_quietG rfl rfl rfl (by with_reducible rfl) rfl rfl ?_; intro K hK; go_big_quiet_op; go_big_quiet_on) | ((first | refine Mix.lex_skipT rfl rfl rfl (by with_reducible rfl) ?_ | refine Mix.lex_skipF rfl rfl rfl (by with_reducible rfl) ?_ | refine Mix.lex_skipU rfl rfl rfl (by with_reducible rfl) ?_); simp only [Act.put, List.setIfInBounds_toArray, List.set_cons_succ, List.set_cons_zero]) | (refine Mix.lex_part rfl rfl rfl rfl (fun hq => ?_) (fun hq => ?_) <;> (fail_if_success (guard_hyp hq :ₛ true = true)) <;> (fail_if_success (guard_hyp hq :ₛ false = false)) <;> first | (exfalso; cases hq; done) | (exfalso; simp only [decide_eq_true_eq, decide_eq_false_iff_not, beq_iff_eq, beq_eq_false_iff_ne, ne_eq, Int.not_lt, Int.not_le] at hq; omega) | simp only [Act.put, List.setIfInBounds_toArray, List.set_cons_succ, List.set_cons_zero]))); all_goals (refine Mix.lex_nil ?_)))
  all_goals try (exfalso; simp only [decide_eq_true_eq, decide_eq_false_iff_not, beq_iff_eq, beq_eq_false_iff_ne, ne_eq, Int.not_lt, Int.not_le, Bool.not_eq_true, Bool.not_eq_false, Bool.or_eq_true, Bool.or_eq_false_iff, Bool.and_eq_true, Bool.and_eq_false_iff, Bool.not_eq_eq_eq_not, Bool.not_true, Bool.not_false] at *; omega)
  refine HST.out.mono ?_
  rintro e w1 ⟨rfl, h1, hx1⟩
  have H1 := Lib.hid h1
  clear h1
  simp only [if_true]
  go_wp2
  go_ret
  exact ⟨rfl, r, H1.out, rfl, hx1.weak fun b _ e => .inl e, fun b hb => .inl hb⟩
/-- What a deed comes to: the disk behind it, the number of its error. -/
def Dk.bad (d : Dk) (i : Int) (s : Str) : Bool := decide (i < 0 ∨ (d.now.length : Int) ≤ i ∨ 340 < s.length)
def Dk.wr (d : Dk) (i : Int) (s : Str) : Dk := if d.bad i s then d else if d.falls then d.stepped else d.stepped.written i.toNat s
def Dk.wrF (d : Dk) (i : Int) (s : Str) : Int := if d.bad i s then 1 else if d.falls then 11 else 0
def Dk.fl (d : Dk) : Dk := if d.falls then d.stepped else d.stepped.flushed
def Dk.flF (d : Dk) : Int := if d.falls then 11 else 0
def Dk.rd (d : Dk) (i : Int) : Str := if d.down then [] else if i < 0 ∨ (d.now.length : Int) ≤ i then [] else d.now.getD i.toNat []
def Dk.rdF (d : Dk) (i : Int) : Int := if d.down then 11 else if i < 0 ∨ (d.now.length : Int) ≤ i then 1 else 0
theorem DkRes.of_ext {w w' : World} {r : DkR} {d : Dk} {e : Ending} {v : Value} (h : DiskAt w r d) (he : e = .returned v) (hx : Ext w w') : DkRes w r d v e w' :=
  ⟨he, r, h.ext hx, rfl, hx.weak fun _ _ h => h.elim, fun _ h => .inl h⟩
theorem Write_all {w : World} {r : DkR} {d : Dk} (h : DiskAt w r d) (i : Int) (s : Str) (hs : s.length ≤ 1000000) (hw : d.wait.length ≤ 1000000) :
    Calls Try.prog 36 #[pt r.g, .int .i64 i, S s] w (DkRes w r (d.wr i s) (errV (d.wrF i s))) := by
  unfold Dk.wr Dk.wrF Dk.bad
  by_cases hb : i < 0 ∨ (d.now.length : Int) ≤ i ∨ 340 < s.length
  · simp only [hb, decide_true, if_true]
    refine (Write_bad h i s hs hb).mono ?_
    rintro e w' ⟨rfl, hx⟩
    exact DkRes.of_ext h rfl hx
  · obtain ⟨k, rfl⟩ : ∃ k : Nat, i = k := ⟨i.toNat, by omega⟩
    simp only [hb, decide_false, Bool.false_eq_true, if_false, Int.toNat_natCast]
    cases hf : d.falls with
    | true => exact Write_falls h k (by omega) s (by omega) hf
    | false => exact Write_ok h k (by omega) s (by omega) hf hw
theorem Flush_all {w : World} {r : DkR} {d : Dk} (h : DiskAt w r d) :
    Calls Try.prog 37 #[pt r.g] w (DkRes w r d.fl (errV d.flF)) := by
  unfold Dk.fl Dk.flF
  cases hf : d.falls with
  | true => exact Flush_falls h hf
  | false => exact Flush_ok h hf
theorem Read_all {w : World} {r : DkR} {d : Dk} (h : DiskAt w r d) (i : Int) :
    Calls Try.prog 31 #[pt r.g, .int .i64 i] w fun e w' => e = .returned (.tuple #[S (d.rd i), errV (d.rdF i)]) ∧ Ext w w' := by
  refine (Read_c h i).mono ?_
  rintro e w' ⟨rfl, hx⟩
  refine ⟨?_, hx⟩
  unfold Dk.rd Dk.rdF
  split
  · rfl
  · split <;> rfl
theorem Dk.wrF_nonneg (d : Dk) (i : Int) (s : Str) : 0 ≤ d.wrF i s := by unfold Dk.wrF; split <;> (try split) <;> omega
theorem Dk.flF_nonneg (d : Dk) : 0 ≤ d.flF := by unfold Dk.flF; split <;> omega
theorem Dk.rdF_nonneg (d : Dk) (i : Int) : 0 ≤ d.rdF i := by unfold Dk.rdF; split <;> (try split) <;> omega
end Go.Proofs.Ytaphmmobmadfoaa

/- A log's sectors: numbers in four bytes, texts. -/
namespace Go.Proofs.Ytaphmmobmadfoaa
open Go Go.RowKit
def fourF (n : Nat) : Str := [bt ((n : Int) % 256), bt ((n : Int) / 256 % 256), bt ((n : Int) / 65536 % 256), bt ((n : Int) / 16777216 % 256)]
theorem fourF_len (n : Nat) : (fourF n).length = 4 := rfl
/-- A sector's text. -/
def textF (k : UInt8) (n : Nat) (s : Str) : Str := k :: (fourF n ++ ([bt ((s.length : Int) % 256), bt ((s.length : Int) / 256 % 256)] ++ s))
theorem textF_len (k : UInt8) (n : Nat) (s : Str) : (textF k n s).length = s.length + 7 := by
  unfold textF
  simp only [List.length_cons, List.length_append, fourF_len, List.length_nil]
  omega
theorem Four_c (n : Nat) (w : World) : Calls Try.prog 51 #[.int .i64 n] w fun e w' => e = .returned (S (fourF n)) ∧ Ext w w' := by
  go_enter Try.func51, Try.ntmps51
  go_wp2_with (first | ((first | refine Mix.wpList_guarded rfl ?_ | refine Mix.wp_still (by kernel_rfl) (by kernel_rfl) ?_); (repeat' (first | (refine Mix.lex_quiet0 rfl rfl rfl ?_; intro K hK; go_big_quiet_op; go_big_quiet_on) | (refine Mix.lex_quietG rfl rfl rfl (by with_reducible rfl) rfl rfl ?_; intro K hK; go_big_quiet_op; go_big_quiet_on) | ((first | refine Mix.lex_skipT rfl rfl rfl (by with_reducible rfl) ?_ | refine Mix.lex_skipF rfl rfl rfl (by with_reducible rfl) ?_ | refine Mix.lex_skipU rfl rfl rfl (by with_reducible rfl) ?_); simp only [Act.put, List.setIfInBounds_toArray, List.set_cons_succ, List.set_cons_zero]) | (refine Mix.lex_part rfl rfl rfl rfl (fun hq => ?_) (fun hq => ?_) <;> (fail_if_success (guard_hyp hq :ₛ true = true)) <;> (fail_if_success (guard_hyp hq :ₛ false = false)) <;> first | (exfalso; cases hq; done) | (exfalso; simp only [decide_eq_true_eq, decide_eq_false_iff_not, beq_iff_eq, beq_eq_false_iff_ne, ne_eq, Int.not_lt, Int.not_le] at hq; omega) | simp only [Act.put, List.setIfInBounds_toArray, List.set_cons_succ, List.set_cons_zero]))); all_goals (refine Mix.lex_nil ?_)))
  go_ret
  exact ⟨rfl, (Only.refl _ _).alloc _⟩
theorem bt_toNat (k : UInt8) : bt (k.toNat : Int) = k := by
  unfold bt
  simp
set_option maxRecDepth 100000 in
theorem Text_lg (k : UInt8) (n : Nat) (s : Str) (hs : s.length ≤ 1000000) (w : World) : Calls Try.prog 65 #[.int .u8 k.toNat, .int .i64 n, S s] w fun e w' => e = .returned (S (textF k n s)) ∧ Ext w w' := by
  have HC := Lib.hid (fun v => Four_c n v)
  have hl := fourF_len n
  have HT : Hid (textF k n s = bt (k.toNat : Int) :: (fourF n ++ ([bt ((s.length : Int) % 256), bt ((s.length : Int) / 256 % 256)] ++ s))) := by rw [Hid, bt_toNat]; rfl
  generalize fourF n = f at HC hl HT
  go_enter Try.func65, Try.ntmps65
  go_upto_region 1 with fail
  refine Mix.wp_flow 19 [1, 2, 4, 5, 13, 14, 15, 17, 18] (Cl w No) rfl (by kernel_rfl) (by kernel_rfl) (Cl.drew_ (X.here w No)) ?_
  (refine Mix.pre_quiet (i := 0) (by kernel_rfl) rfl rfl rfl rfl ?_; intro K hK; go_big_quiet_op; go_big_quiet_on); (refine Mix.pre_quiet (i := 3) (by kernel_rfl) rfl rfl rfl rfl ?_; intro K hK; go_big_quiet_op; go_big_quiet_on); (refine Mix.pre_quiet (i := 6) (by kernel_rfl) rfl rfl rfl rfl ?_; intro K hK; go_big_quiet_op; go_big_quiet_on); (refine Mix.pre_quiet (i := 7) (by kernel_rfl) rfl rfl rfl rfl ?_; intro K hK; go_big_quiet_op; go_big_quiet_on); (refine Mix.pre_quiet (i := 8) (by kernel_rfl) rfl rfl rfl rfl ?_; intro K hK; go_big_quiet_op; go_big_quiet_on); (refine Mix.pre_quiet (i := 9) (by kernel_rfl) rfl rfl rfl rfl ?_; intro K hK; go_big_quiet_op; go_big_quiet_on); (refine Mix.pre_quiet (i := 10) (by kernel_rfl) rfl rfl rfl rfl ?_; intro K hK; go_big_quiet_op; go_big_quiet_on); (refine Mix.pre_quiet (i := 11) (by kernel_rfl) rfl rfl rfl rfl ?_; intro K hK; go_big_quiet_op; go_big_quiet_on); (refine Mix.pre_quiet (i := 12) (by kernel_rfl) rfl rfl rfl rfl ?_; intro K hK; go_big_quiet_op; go_big_quiet_on); (refine Mix.pre_quiet (i := 16) (by kernel_rfl) rfl rfl rfl rfl ?_; intro K hK; go_big_quiet_op; go_big_quiet_on)
  refine Mix.pre_flow (fun i => match i with | 2 => [(1, some 8)] | 5 => [(2, some 9), (4, some 11)] | 14 => [(13, some 20)] | 15 => [(5, some 12), (14, some 21)] | 17 => [(15, some 22)] | 18 => [(17, some 24)] | _ => [])
    [(1, some 8), (2, some 9), (4, some 11), (5, some 12), (13, some 20), (14, some 21), (15, some 22), (17, some 24), (18, some 6)]
    (fun j v u => match j with
      | 1 => ∃ g, v = .slice (some ⟨g, 0, none⟩) 1 1 ∧ Cs u g 5 #[.int .u8 k.toNat]
      | 2 => v = S [bt k.toNat]
      | 4 => v = S f
      | 5 => v = S (bt k.toNat :: f)
      | 13 => ∃ g, v = .slice (some ⟨g, 0, none⟩) 2 2 ∧ Cs u g 5 #[.int .u8 ((s.length : Int) % 256), .int .u8 ((s.length : Int) / 256 % 256)]
      | 14 => v = S [bt ((s.length : Int) % 256), bt ((s.length : Int) / 256 % 256)]
      | 15 => v = S (bt k.toNat :: (f ++ [bt ((s.length : Int) % 256), bt ((s.length : Int) / 256 % 256)]))
      | _ => v = S (bt k.toNat :: (f ++ bt ((s.length : Int) % 256) :: bt ((s.length : Int) / 256 % 256) :: s))) Ext
    (by kernel_rfl) rfl (by kernel_rfl) (Cl.drew_ (X.here w No)) (fun u u' ⟨ξ, e⟩ hx => ⟨ξ.on (v := u') (by rw [← e]; exact hx), rfl⟩) ?_ ?_ ?_
  · simp only [Mix.stabP]
    refine ⟨?_, ?_, ?_, ?_, ?_, ?_, ?_, ?_, ?_, trivial⟩
    all_goals
      intro v u u' hx h
      first
      | exact h
      | (obtain ⟨g, e, hc⟩ := h; exact ⟨g, e, hc.keep hx id⟩)
  · simp only [Mix.stepsP]
    refine ⟨?_, ?_, ?_, ?_, ?_, ?_, ?_, ?_, ?_, trivial⟩
    · intro vals u _ _
      (show Mix.goes _ _ _ _ _; refine Mix.goes_K ?_; intro K hK; simp only [Mix.putP, Act.put, List.setIfInBounds_toArray, List.set_cons_succ, List.set_cons_zero])
      go_simp
      exact hK _ _ ⟨(Only.refl _ _).alloc _, _, rfl, Cs.new _ _ _⟩
    · rintro vals u _ ⟨⟨g, h1, hc⟩, _⟩
      have hc2 := str_cs1 hc
      (show Mix.goes _ _ _ _ _; refine Mix.goes_K ?_; intro K hK; simp only [Mix.putP, Act.put, List.setIfInBounds_toArray, List.set_cons_succ, List.set_cons_zero])
      rw [h1]
      go_simp
      exact hK _ _ ⟨Only.refl _ _, rfl⟩
    · intro vals u _ _
      (show Mix.goes _ _ _ _ _; refine Mix.goes_K ?_; intro K hK; simp only [Mix.putP, Act.put, List.setIfInBounds_toArray, List.set_cons_succ, List.set_cons_zero])
      go_simp
      refine (HC.out u).mono ?_
      rintro e u2 ⟨rfl, hx⟩
      exact ⟨_, rfl, hK _ _ ⟨hx, rfl⟩⟩
    · rintro vals u _ ⟨h1, h2, _⟩
      (show Mix.goes _ _ _ _ _; refine Mix.goes_K ?_; intro K hK; simp only [Mix.putP, Act.put, List.setIfInBounds_toArray, List.set_cons_succ, List.set_cons_zero])
      rw [h1, h2]
      go_simp
      exact hK _ _ ⟨Only.refl _ _, rfl⟩
    · intro vals u _ _
      (show Mix.goes _ _ _ _ _; refine Mix.goes_K ?_; intro K hK; simp only [Mix.putP, Act.put, List.setIfInBounds_toArray, List.set_cons_succ, List.set_cons_zero])
      go_simp
      exact hK _ _ ⟨(Only.refl _ _).alloc _, _, rfl, Cs.new _ _ _⟩
    · rintro vals u _ ⟨⟨g, h1, hc⟩, _⟩
      have hc2 := str_cs2 hc
      (show Mix.goes _ _ _ _ _; refine Mix.goes_K ?_; intro K hK; simp only [Mix.putP, Act.put, List.setIfInBounds_toArray, List.set_cons_succ, List.set_cons_zero])
      rw [h1]
      go_simp
      exact hK _ _ ⟨Only.refl _ _, rfl⟩
    · rintro vals u _ ⟨h1, h2, _⟩
      (show Mix.goes _ _ _ _ _; refine Mix.goes_K ?_; intro K hK; simp only [Mix.putP, Act.put, List.setIfInBounds_toArray, List.set_cons_succ, List.set_cons_zero])
      rw [h1, h2]
      go_simp
      exact hK _ _ ⟨Only.refl _ _, rfl⟩
    · rintro vals u _ ⟨h1, _⟩
      have hg : ¬ 9223372036854775807 < 7 + s.length := by omega
      (show Mix.goes _ _ _ _ _; refine Mix.goes_K ?_; intro K hK; simp only [Mix.putP, Act.put, List.setIfInBounds_toArray, List.set_cons_succ, List.set_cons_zero])
      rw [h1]
      go_simp
      try rw [if_neg hg]
      exact hK _ _ ⟨Only.refl _ _, rfl⟩
    · rintro vals u _ ⟨h1, _⟩
      (show Mix.goes _ _ _ _ _; refine Mix.goes_K ?_; intro K hK; simp only [Mix.putP, Act.put, List.setIfInBounds_toArray, List.set_cons_succ, List.set_cons_zero])
      rw [h1]
      go_simp
      exact hK _ _ ⟨Only.refl _ _, rfl⟩
  · rintro vals u ⟨ξ, rfl⟩ hd
    simp only [Mix.depsR] at hd
    obtain ⟨-, -, -, -, -, -, -, -, h18, -⟩ := hd
    simp only [Mix.putP, Act.put, List.setIfInBounds_toArray, List.set_cons_succ, List.set_cons_zero, h18]
    go_wp2_with fail
    go_ret
    exact ⟨by rw [HT.out]; rfl, ξ.h⟩
/- A log: its memory; look. -/
abbrev logT : TypeId := 102
structure LogR where
  g : Nat
  from_ : Nat
  many : Nat
  first : Nat
  next : Nat
abbrev LogR.cells (l : LogR) (dg : Nat) : Array Value := #[pt dg, .int .i64 (l.from_ : Nat), .int .i64 (l.many : Nat), .int .i64 (l.first : Nat), .int .i64 (l.next : Nat)]
def LogAt (w : World) (l : LogR) (dg : Nat) : Prop := Cs w l.g logT (l.cells dg)
theorem LogAt.keep {w v : World} {l : LogR} {dg : Nat} {F : Nat → Prop} (h : LogAt w l dg) (hx : Only F w v) (hn : ¬ F l.g) : LogAt v l dg := Cs.keep h hx hn
theorem LogAt.ext {w v : World} {l : LogR} {dg : Nat} (h : LogAt w l dg) (hx : Ext w v) : LogAt v l dg := Cs.keep h hx id
theorem LogAt.x {w : World} {l : LogR} {dg : Nat} (h : LogAt w l dg) : (∀ ξ : X w No, ξ.v.cell? ⟨l.g, 0, none⟩ = some (pt dg)) ∧ (∀ ξ : X w No, ξ.v.cell? ⟨l.g, 1, none⟩ = some (.int .i64 (l.from_ : Nat))) ∧ (∀ ξ : X w No, ξ.v.cell? ⟨l.g, 2, none⟩ = some (.int .i64 (l.many : Nat))) ∧ (∀ ξ : X w No, ξ.v.cell? ⟨l.g, 3, none⟩ = some (.int .i64 (l.first : Nat))) ∧ (∀ ξ : X w No, ξ.v.cell? ⟨l.g, 4, none⟩ = some (.int .i64 (l.next : Nat))) :=
  ⟨Cs.x h id 0, Cs.x h id 1, Cs.x h id 2, Cs.x h id 3, Cs.x h id 4⟩
/-- A sector of a log: its kind, and what it has. -/
def secN (s : Str) : Nat := (s.getD 5 0).toNat + 256 * (s.getD 6 0).toNat
def lookF (s : Str) (n : Nat) : Option (UInt8 × Str) :=
  if (s.take 5).tail = fourF n ∧ (s.getD 0 0 = 111 ∨ s.getD 0 0 = 99) ∧ secN s ≤ 333 then some (s.getD 0 0, (s.take (7 + secN s)).drop 7) else none
def lookV : Option (UInt8 × Str) → Value
  | none => .tuple #[.int .u8 0, S [], .bool false]
  | some x => .tuple #[.int .u8 x.1.toNat, S x.2, .bool true]
theorem u8_eq (x c : UInt8) : (((x.toNat : Int)) == ((c.toNat : Int))) = decide (x = c) := by
  rw [Bool.eq_iff_iff, beq_iff_eq, decide_eq_true_iff]
  exact ⟨fun h => UInt8.toNat_inj.1 (by omega), fun h => by rw [h]⟩
set_option maxRecDepth 100000 in
set_option maxHeartbeats 2000000 in
theorem look_c {w : World} {r : DkR} {d : Dk} {l : LogR} (h : LogAt w l r.g) (hd : DiskAt w r d) (hdn : d.down = false) (i : Nat) (sec : Str) (hs : d.now[l.from_ + i]? = some sec) (hsl : sec.length = 340) (hf : l.first ≤ 1000000000000) (hi : i ≤ 1000) :
    Calls Try.prog 50 #[pt l.g, .int .i64 i] w fun e w' => e = .returned (lookV (lookF sec (l.first + i))) ∧ Ext w w' := by
  obtain ⟨d0, d1, -, d3, -⟩ := h.x
  have H := Lib.hid h
  have hfm : l.from_ ≤ 1000 := by
    have h1 := (List.getElem?_eq_some_iff.1 hs).1
    have h2 := hd.fine.most
    omega
  have HRd : Hid (∀ v, Ext w v → Calls Try.prog 31 #[pt r.g, .int .i64 ((l.from_ : Int) + (i : Int))] v fun e w' => e = .returned (.tuple #[S sec, .nilIface]) ∧ Ext v w') := fun v hv => by
    have h1 := Read_all (hd.ext hv) ((l.from_ : Int) + (i : Int))
    have hlt := (List.getElem?_eq_some_iff.1 hs).1
    have e1 : d.rd ((l.from_ : Int) + (i : Int)) = sec := by
      unfold Dk.rd
      rw [if_neg (by rw [hdn]; decide), if_neg (by omega)]
      have : ((l.from_ : Int) + (i : Int)).toNat = l.from_ + i := by omega
      rw [this, List.getD_eq_getElem?_getD, hs]
      rfl
    have e2 : d.rdF ((l.from_ : Int) + (i : Int)) = 0 := by
      unfold Dk.rdF
      rw [if_neg (by rw [hdn]; decide), if_neg (by omega)]
    rw [e1, e2] at h1
    exact h1
  have HF4 := Lib.hid (fun v => Four_c (l.first + i) v)
  have HL : Hid (lookF sec (l.first + i) = if (sec.take 5).tail = fourF (l.first + i) ∧ (sec.getD 0 0 = 111 ∨ sec.getD 0 0 = 99) ∧ secN sec ≤ 333 then some (sec.getD 0 0, (sec.take (7 + secN sec)).drop 7) else none) := rfl
  have hf4 := fourF_len (l.first + i)
  rw [show ((l.first + i : Nat) : Int) = (l.first : Int) + (i : Int) by omega] at HF4
  generalize fourF (l.first + i) = f4 at HF4 HL hf4
  obtain ⟨s0, h0⟩ : ∃ x, sec[0]'(by omega) = x := ⟨_, rfl⟩
  obtain ⟨s5, h5⟩ : ∃ x, sec[5]'(by omega) = x := ⟨_, rfl⟩
  obtain ⟨s6, h6⟩ : ∃ x, sec[6]'(by omega) = x := ⟨_, rfl⟩
  have hg0 : sec.getD 0 0 = s0 := by rw [List.getD_eq_getElem?_getD, List.getElem?_eq_getElem (by omega), h0]; rfl
  have hg5 : secN sec = s5.toNat + 256 * s6.toNat := by
    unfold secN
    rw [List.getD_eq_getElem?_getD, List.getD_eq_getElem?_getD, List.getElem?_eq_getElem (by omega), List.getElem?_eq_getElem (by omega), h5, h6]
    rfl
  rw [hg0, hg5] at HL
  have b5 := s5.toNat_lt
  have b6 := s6.toNat_lt
  have k111 : (((s0.toNat : Int)) != 111) = !decide (s0 = 111) := by exact congrArg (!·) (u8_eq s0 111)
  have k99 : (((s0.toNat : Int)) != 99) = !decide (s0 = 99) := by exact congrArg (!·) (u8_eq s0 99)
  obtain ⟨bp, hbp⟩ : ∃ b, ((sec.take 5).tail == f4) = b := ⟨_, rfl⟩
  have hbp' : ((sec.take 5).tail = f4) ↔ bp = true := by rw [← hbp, beq_iff_eq]
  have HL2 : Hid (lookF sec (l.first + i) = if bp = true ∧ (s0 = 111 ∨ s0 = 99) ∧ s5.toNat + 256 * s6.toNat ≤ 333 then some (s0, (sec.take (7 + (s5.toNat + 256 * s6.toNat))).drop 7) else none) := by
    rw [Hid, HL.out]
    simp only [hbp']
  clear HL hbp'
  clear h hd hdn hs hg0 hg5
  go_enter Try.func50, Try.ntmps50
  go_upto_region 1 with fail
  (refine Mix.wp_draw [10] 100 (Cl (w) (No)) (by kernel_rfl) (by kernel_rfl) (Cl.drew_ (X.here w No)) ?_; (repeat' (first | (refine Mix.lex_quiet0 rfl rfl rfl ?_; intro K hK; go_big_quiet_op; go_big_quiet_on) | (refine Mix.lex_quietG rfl rfl rfl (by with_reducible rfl) rfl rfl ?_; intro K hK; go_big_quiet_op; go_big_quiet_on) | ((first | refine Mix.lex_skipT rfl rfl rfl (by with_reducible rfl) ?_ | refine Mix.lex_skipF rfl rfl rfl (by with_reducible rfl) ?_ | refine Mix.lex_skipU rfl rfl rfl (by with_reducible rfl) ?_); simp only [Act.put, List.setIfInBounds_toArray, List.set_cons_succ, List.set_cons_zero]) | (refine Mix.lex_part rfl rfl rfl rfl (fun hq => ?_) (fun hq => ?_) <;> (fail_if_success (guard_hyp hq :ₛ true = true)) <;> (fail_if_success (guard_hyp hq :ₛ false = false)) <;> first | (exfalso; cases hq; done) | (exfalso; simp only [decide_eq_true_eq, decide_eq_false_iff_not, beq_iff_eq, beq_eq_false_iff_ne, ne_eq, Int.not_lt, Int.not_le] at hq; omega) | simp only [Act.put, List.setIfInBounds_toArray, List.set_cons_succ, List.set_cons_zero]))))
  ((first | refine Mix.lex_goes0 rfl rfl ?_ | refine Mix.lex_goesG rfl rfl rfl (by with_reducible rfl) rfl ?_); intro K hK; go_simp)
  refine (HRd.out _ (Only.refl No w).drew).mono ?_
  rintro e u1 ⟨rfl, hu⟩
  have X1 : Hid (Ext w u1) := (Only.refl No w).drew.then_ext hu
  refine ⟨_, rfl, hK _ _ (fun _ => Cl.of X1.out) ?_⟩
  clear hK K hu
  simp only [Act.put, List.setIfInBounds_toArray, List.set_cons_succ, List.set_cons_zero]
  (repeat' (first | (refine Mix.lex_quiet0 rfl rfl rfl ?_; intro K hK; go_big_quiet_op; go_big_quiet_on) | (refine Mix.lex_quietG rfl rfl rfl (by with_reducible rfl) rfl rfl ?_; intro K hK; go_big_quiet_op; go_big_quiet_on) | ((first | refine Mix.lex_skipT rfl rfl rfl (by with_reducible rfl) ?_ | refine Mix.lex_skipF rfl rfl rfl (by with_reducible rfl) ?_ | refine Mix.lex_skipU rfl rfl rfl (by with_reducible rfl) ?_); simp only [Act.put, List.setIfInBounds_toArray, List.set_cons_succ, List.set_cons_zero]) | (refine Mix.lex_part rfl rfl rfl rfl (fun hq => ?_) (fun hq => ?_) <;> (fail_if_success (guard_hyp hq :ₛ true = true)) <;> (fail_if_success (guard_hyp hq :ₛ false = false)) <;> first | (exfalso; cases hq; done) | (exfalso; simp only [decide_eq_true_eq, decide_eq_false_iff_not, beq_iff_eq, beq_eq_false_iff_ne, ne_eq, Int.not_lt, Int.not_le] at hq; omega) | simp only [Act.put, List.setIfInBounds_toArray, List.set_cons_succ, List.set_cons_zero])))
  refine Mix.lex_nil ?_
  have D3 : ∀ ξ : X u1 No, ξ.v.cell? ⟨l.g, 3, none⟩ = some (.int .i64 (l.first : Nat)) := fun ξ => d3 ⟨ξ.v, X1.out.then_ext ξ.h⟩
  clear d0 d1 d3 HRd
  go_upto_region 2 with fail
  (refine Mix.wp_draw [11] 100 (Cl (u1) (No)) (by kernel_rfl) (by kernel_rfl) (Cl.drew_ (X.here u1 No)) ?_; (repeat' (first | (refine Mix.lex_quiet0 rfl rfl rfl ?_; intro K hK; go_big_quiet_op; go_big_quiet_on) | (refine Mix.lex_quietG rfl rfl rfl (by with_reducible rfl) rfl rfl ?_; intro K hK; go_big_quiet_op; go_big_quiet_on) | ((first | refine Mix.lex_skipT rfl rfl rfl (by with_reducible rfl) ?_ | refine Mix.lex_skipF rfl rfl rfl (by with_reducible rfl) ?_ | refine Mix.lex_skipU rfl rfl rfl (by with_reducible rfl) ?_); simp only [Act.put, List.setIfInBounds_toArray, List.set_cons_succ, List.set_cons_zero]) | (refine Mix.lex_part rfl rfl rfl rfl (fun hq => ?_) (fun hq => ?_) <;> (fail_if_success (guard_hyp hq :ₛ true = true)) <;> (fail_if_success (guard_hyp hq :ₛ false = false)) <;> first | (exfalso; cases hq; done) | (exfalso; simp only [decide_eq_true_eq, decide_eq_false_iff_not, beq_iff_eq, beq_eq_false_iff_ne, ne_eq, Int.not_lt, Int.not_le] at hq; omega) | simp only [Act.put, List.setIfInBounds_toArray, List.set_cons_succ, List.set_cons_zero]))))
  ((first | refine Mix.lex_goes0 rfl rfl ?_ | refine Mix.lex_goesG rfl rfl rfl (by with_reducible rfl) rfl ?_); intro K hK; go_simp)
  refine (HF4.out _).mono ?_
  rintro e u2 ⟨rfl, hu⟩
  have X2 : Hid (Ext u1 u2) := (Only.refl No u1).drew.then_ext hu
  refine ⟨_, rfl, hK _ _ (fun _ => Cl.of X2.out) ?_⟩
  clear hK K hu D3
  simp only [Act.put, List.setIfInBounds_toArray, List.set_cons_succ, List.set_cons_zero]
  by_cases hok : bp = true ∧ (s0 = 111 ∨ s0 = 99)
  · obtain ⟨rfl, hk⟩ := hok
    have HL3 : Hid (lookF sec (l.first + i) = if s5.toNat + 256 * s6.toNat ≤ 333 then some (s0, (sec.take (7 + (s5.toNat + 256 * s6.toNat))).drop 7) else none) := by
      rw [Hid, HL2.out]
      by_cases h333 : s5.toNat + 256 * s6.toNat ≤ 333
      · rw [if_pos ⟨rfl, hk, h333⟩, if_pos h333]
      · rw [if_neg fun h => h333 h.2.2, if_neg h333]
    have hkk : (decide (s0 = 111) = true) ∨ (decide (s0 = 111) = false ∧ decide (s0 = 99) = true) := by
      by_cases h1 : s0 = 111
      · exact .inl (decide_eq_true h1)
      · rcases hk with h | h
        · exact absurd h h1
        · exact .inr ⟨decide_eq_false h1, decide_eq_true h⟩
    clear HL2 hk
    rcases hkk with q1 | ⟨q1, q2⟩
    · rw [q1] at k111; simp only [Bool.not_true, Bool.not_false] at k111
      clear k99
      (repeat' (first | (refine Mix.lex_quiet0 rfl rfl rfl ?_; intro K hK; go_big_quiet_op; go_big_quiet_on) | (refine Mix.lex_quietG rfl rfl rfl (by with_reducible rfl) rfl rfl ?_; intro K hK; go_big_quiet_op; go_big_quiet_on) | ((first | refine Mix.lex_skipT rfl rfl rfl (by with_reducible rfl) ?_ | refine Mix.lex_skipF rfl rfl rfl (by with_reducible rfl) ?_ | refine Mix.lex_skipU rfl rfl rfl (by with_reducible rfl) ?_); simp only [Act.put, List.setIfInBounds_toArray, List.set_cons_succ, List.set_cons_zero]) | (refine Mix.lex_part rfl rfl rfl rfl (fun hq => ?_) (fun hq => ?_) <;> (fail_if_success (guard_hyp hq :ₛ true = true)) <;> (fail_if_success (guard_hyp hq :ₛ false = false)) <;> first | (exfalso; cases hq; done) | (exfalso; simp only [decide_eq_true_eq, decide_eq_false_iff_not, beq_iff_eq, beq_eq_false_iff_ne, ne_eq, Int.not_lt, Int.not_le] at hq; omega) | simp only [Act.put, List.setIfInBounds_toArray, List.set_cons_succ, List.set_cons_zero])))
      refine Mix.lex_nil ?_
      go_upto_region 4 with fail
      (refine Mix.wp_draw [] 100 (Cl (u2) (No)) (by kernel_rfl) (by kernel_rfl) (Cl.drew_ (X.here u2 No)) ?_; (repeat' (first | (refine Mix.lex_quiet0 rfl rfl rfl ?_; intro K hK; go_big_quiet_op; go_big_quiet_on) | (refine Mix.lex_quietG rfl rfl rfl (by with_reducible rfl) rfl rfl ?_; intro K hK; go_big_quiet_op; go_big_quiet_on) | ((first | refine Mix.lex_skipT rfl rfl rfl (by with_reducible rfl) ?_ | refine Mix.lex_skipF rfl rfl rfl (by with_reducible rfl) ?_ | refine Mix.lex_skipU rfl rfl rfl (by with_reducible rfl) ?_); simp only [Act.put, List.setIfInBounds_toArray, List.set_cons_succ, List.set_cons_zero]) | (refine Mix.lex_part rfl rfl rfl rfl (fun hq => ?_) (fun hq => ?_) <;> (fail_if_success (guard_hyp hq :ₛ true = true)) <;> (fail_if_success (guard_hyp hq :ₛ false = false)) <;> first | (exfalso; cases hq; done) | (exfalso; simp only [decide_eq_true_eq, decide_eq_false_iff_not, beq_iff_eq, beq_eq_false_iff_ne, ne_eq, Int.not_lt, Int.not_le] at hq; omega) | simp only [Act.put, List.setIfInBounds_toArray, List.set_cons_succ, List.set_cons_zero]))))
      all_goals (refine Mix.lex_nil ?_)
      have X3 : Hid (Ext w u2.drew) := (X1.out.then_ext X2.out).drew
      by_cases h333 : s5.toNat + 256 * s6.toNat ≤ 333
      · have g333 : decide ((333 : Int) < (s5.toNat : Int) + 256 * (s6.toNat : Int)) = false := by rw [decide_eq_false_iff_not]; omega
        have HL4 := Lib.hid (HL3.out.trans (if_pos h333))
        go_upto_region 7 with fail
        (refine Mix.wp_draw [] 100 (Cl (u2.drew) (No)) (by kernel_rfl) (by kernel_rfl) (Cl.drew_ (X.here u2.drew No)) ?_; (repeat' (first | (refine Mix.lex_quiet0 rfl rfl rfl ?_; intro K hK; go_big_quiet_op; go_big_quiet_on) | (refine Mix.lex_quietG rfl rfl rfl (by with_reducible rfl) rfl rfl ?_; intro K hK; go_big_quiet_op; go_big_quiet_on) | ((first | refine Mix.lex_skipT rfl rfl rfl (by with_reducible rfl) ?_ | refine Mix.lex_skipF rfl rfl rfl (by with_reducible rfl) ?_ | refine Mix.lex_skipU rfl rfl rfl (by with_reducible rfl) ?_); simp only [Act.put, List.setIfInBounds_toArray, List.set_cons_succ, List.set_cons_zero]) | (refine Mix.lex_part rfl rfl rfl rfl (fun hq => ?_) (fun hq => ?_) <;> (fail_if_success (guard_hyp hq :ₛ true = true)) <;> (fail_if_success (guard_hyp hq :ₛ false = false)) <;> first | (exfalso; cases hq; done) | (exfalso; simp only [decide_eq_true_eq, decide_eq_false_iff_not, beq_iff_eq, beq_eq_false_iff_ne, ne_eq, Int.not_lt, Int.not_le] at hq; omega) | simp only [Act.put, List.setIfInBounds_toArray, List.set_cons_succ, List.set_cons_zero]))))
        all_goals (refine Mix.lex_nil ?_)
        go_wp2_with (first | ((first | refine Mix.wpList_guarded rfl ?_ | refine Mix.wp_still (by kernel_rfl) (by kernel_rfl) ?_); (repeat' (first | (refine Mix.lex_quiet0 rfl rfl rfl ?_; intro K hK; go_big_quiet_op; go_big_quiet_on) | (refine Mix.lex_quietG rfl rfl rfl (by with_reducible rfl) rfl rfl ?_; intro K hK; go_big_quiet_op; go_big_quiet_on) | ((first | refine Mix.lex_skipT rfl rfl rfl (by with_reducible rfl) ?_ | refine Mix.lex_skipF rfl rfl rfl (by with_reducible rfl) ?_ | refine Mix.lex_skipU rfl rfl rfl (by with_reducible rfl) ?_); simp only [Act.put, List.setIfInBounds_toArray, List.set_cons_succ, List.set_cons_zero]) | (refine Mix.lex_part rfl rfl rfl rfl (fun hq => ?_) (fun hq => ?_) <;> (fail_if_success (guard_hyp hq :ₛ true = true)) <;> (fail_if_success (guard_hyp hq :ₛ false = false)) <;> first | (exfalso; cases hq; done) | (exfalso; simp only [decide_eq_true_eq, decide_eq_false_iff_not, beq_iff_eq, beq_eq_false_iff_ne, ne_eq, Int.not_lt, Int.not_le] at hq; omega) | simp only [Act.put, List.setIfInBounds_toArray, List.set_cons_succ, List.set_cons_zero]))); all_goals (refine Mix.lex_nil ?_)))
        go_ret3
        refine ⟨?_, X3.out.drew⟩
        rw [HL4.out]
        rfl
      · have g333 : decide ((333 : Int) < (s5.toNat : Int) + 256 * (s6.toNat : Int)) = true := by rw [decide_eq_true_iff]; omega
        have HL4 := Lib.hid (HL3.out.trans (if_neg h333))
        go_wp2_with (first | ((first | refine Mix.wpList_guarded rfl ?_ | refine Mix.wp_still (by kernel_rfl) (by kernel_rfl) ?_); (repeat' (first | (refine Mix.lex_quiet0 rfl rfl rfl ?_; intro K hK; go_big_quiet_op; go_big_quiet_on) | (refine Mix.lex_quietG rfl rfl rfl (by with_reducible rfl) rfl rfl ?_; intro K hK; go_big_quiet_op; go_big_quiet_on) | ((first | refine Mix.lex_skipT rfl rfl rfl (by with_reducible rfl) ?_ | refine Mix.lex_skipF rfl rfl rfl (by with_reducible rfl) ?_ | refine Mix.lex_skipU rfl rfl rfl (by with_reducible rfl) ?_); simp only [Act.put, List.setIfInBounds_toArray, List.set_cons_succ, List.set_cons_zero]) | (refine Mix.lex_part rfl rfl rfl rfl (fun hq => ?_) (fun hq => ?_) <;> (fail_if_success (guard_hyp hq :ₛ true = true)) <;> (fail_if_success (guard_hyp hq :ₛ false = false)) <;> first | (exfalso; cases hq; done) | (exfalso; simp only [decide_eq_true_eq, decide_eq_false_iff_not, beq_iff_eq, beq_eq_false_iff_ne, ne_eq, Int.not_lt, Int.not_le] at hq; omega) | simp only [Act.put, List.setIfInBounds_toArray, List.set_cons_succ, List.set_cons_zero]))); all_goals (refine Mix.lex_nil ?_)))
        go_ret3
        exact ⟨by rw [HL4.out]; rfl, X3.out⟩
    · rw [q1] at k111; simp only [Bool.not_true, Bool.not_false] at k111
      rw [q2] at k99; simp only [Bool.not_true, Bool.not_false] at k99
      (repeat' (first | (refine Mix.lex_quiet0 rfl rfl rfl ?_; intro K hK; go_big_quiet_op; go_big_quiet_on) | (refine Mix.lex_quietG rfl rfl rfl (by with_reducible rfl) rfl rfl ?_; intro K hK; go_big_quiet_op; go_big_quiet_on) | ((first | refine Mix.lex_skipT rfl rfl rfl (by with_reducible rfl) ?_ | refine Mix.lex_skipF rfl rfl rfl (by with_reducible rfl) ?_ | refine Mix.lex_skipU rfl rfl rfl (by with_reducible rfl) ?_); simp only [Act.put, List.setIfInBounds_toArray, List.set_cons_succ, List.set_cons_zero]) | (refine Mix.lex_part rfl rfl rfl rfl (fun hq => ?_) (fun hq => ?_) <;> (fail_if_success (guard_hyp hq :ₛ true = true)) <;> (fail_if_success (guard_hyp hq :ₛ false = false)) <;> first | (exfalso; cases hq; done) | (exfalso; simp only [decide_eq_true_eq, decide_eq_false_iff_not, beq_iff_eq, beq_eq_false_iff_ne, ne_eq, Int.not_lt, Int.not_le] at hq; omega) | simp only [Act.put, List.setIfInBounds_toArray, List.set_cons_succ, List.set_cons_zero])))
      refine Mix.lex_nil ?_
      go_upto_region 4 with fail
      (refine Mix.wp_draw [] 100 (Cl (u2) (No)) (by kernel_rfl) (by kernel_rfl) (Cl.drew_ (X.here u2 No)) ?_; (repeat' (first | (refine Mix.lex_quiet0 rfl rfl rfl ?_; intro K hK; go_big_quiet_op; go_big_quiet_on) | (refine Mix.lex_quietG rfl rfl rfl (by with_reducible rfl) rfl rfl ?_; intro K hK; go_big_quiet_op; go_big_quiet_on) | ((first | refine Mix.lex_skipT rfl rfl rfl (by with_reducible rfl) ?_ | refine Mix.lex_skipF rfl rfl rfl (by with_reducible rfl) ?_ | refine Mix.lex_skipU rfl rfl rfl (by with_reducible rfl) ?_); simp only [Act.put, List.setIfInBounds_toArray, List.set_cons_succ, List.set_cons_zero]) | (refine Mix.lex_part rfl rfl rfl rfl (fun hq => ?_) (fun hq => ?_) <;> (fail_if_success (guard_hyp hq :ₛ true = true)) <;> (fail_if_success (guard_hyp hq :ₛ false = false)) <;> first | (exfalso; cases hq; done) | (exfalso; simp only [decide_eq_true_eq, decide_eq_false_iff_not, beq_iff_eq, beq_eq_false_iff_ne, ne_eq, Int.not_lt, Int.not_le] at hq; omega) | simp only [Act.put, List.setIfInBounds_toArray, List.set_cons_succ, List.set_cons_zero]))))
      all_goals (refine Mix.lex_nil ?_)
      have X3 : Hid (Ext w u2.drew) := (X1.out.then_ext X2.out).drew
      by_cases h333 : s5.toNat + 256 * s6.toNat ≤ 333
      · have g333 : decide ((333 : Int) < (s5.toNat : Int) + 256 * (s6.toNat : Int)) = false := by rw [decide_eq_false_iff_not]; omega
        have HL4 := Lib.hid (HL3.out.trans (if_pos h333))
        go_upto_region 7 with fail
        (refine Mix.wp_draw [] 100 (Cl (u2.drew) (No)) (by kernel_rfl) (by kernel_rfl) (Cl.drew_ (X.here u2.drew No)) ?_; (repeat' (first | (refine Mix.lex_quiet0 rfl rfl rfl ?_; intro K hK; go_big_quiet_op; go_big_quiet_on) | (refine Mix.lex_quietG rfl rfl rfl (by with_reducible rfl) rfl rfl ?_; intro K hK; go_big_quiet_op; go_big_quiet_on) | ((first | refine Mix.lex_skipT rfl rfl rfl (by with_reducible rfl) ?_ | refine Mix.lex_skipF rfl rfl rfl (by with_reducible rfl) ?_ | refine Mix.lex_skipU rfl rfl rfl (by with_reducible rfl) ?_); simp only [Act.put, List.setIfInBounds_toArray, List.set_cons_succ, List.set_cons_zero]) | (refine Mix.lex_part rfl rfl rfl rfl (fun hq => ?_) (fun hq => ?_) <;> (fail_if_success (guard_hyp hq :ₛ true = true)) <;> (fail_if_success (guard_hyp hq :ₛ false = false)) <;> first | (exfalso; cases hq; done) | (exfalso; simp only [decide_eq_true_eq, decide_eq_false_iff_not, beq_iff_eq, beq_eq_false_iff_ne, ne_eq, Int.not_lt, Int.not_le] at hq; omega) | simp only [Act.put, List.setIfInBounds_toArray, List.set_cons_succ, List.set_cons_zero]))))
        all_goals (refine Mix.lex_nil ?_)
        go_wp2_with (first | ((first | refine Mix.wpList_guarded rfl ?_ | refine Mix.wp_still (by kernel_rfl) (by kernel_rfl) ?_); (repeat' (first | (refine Mix.lex_quiet0 rfl rfl rfl ?_; intro K hK; go_big_quiet_op; go_big_quiet_on) | (refine Mix.lex_quietG rfl rfl rfl (by with_reducible rfl) rfl rfl ?_; intro K hK; go_big_quiet_op; go_big_quiet_on) | ((first | refine Mix.lex_skipT rfl rfl rfl (by with_reducible rfl) ?_ | refine Mix.lex_skipF rfl rfl rfl (by with_reducible rfl) ?_ | refine Mix.lex_skipU rfl rfl rfl (by with_reducible rfl) ?_); simp only [Act.put, List.setIfInBounds_toArray, List.set_cons_succ, List.set_cons_zero]) | (refine Mix.lex_part rfl rfl rfl rfl (fun hq => ?_) (fun hq => ?_) <;> (fail_if_success (guard_hyp hq :ₛ true = true)) <;> (fail_if_success (guard_hyp hq :ₛ false = false)) <;> first | (exfalso; cases hq; done) | (exfalso; simp only [decide_eq_true_eq, decide_eq_false_iff_not, beq_iff_eq, beq_eq_false_iff_ne, ne_eq, Int.not_lt, Int.not_le] at hq; omega) | simp only [Act.put, List.setIfInBounds_toArray, List.set_cons_succ, List.set_cons_zero]))); all_goals (refine Mix.lex_nil ?_)))
        go_ret3
        refine ⟨?_, X3.out.drew⟩
        rw [HL4.out]
        rfl
      · have g333 : decide ((333 : Int) < (s5.toNat : Int) + 256 * (s6.toNat : Int)) = true := by rw [decide_eq_true_iff]; omega
        have HL4 := Lib.hid (HL3.out.trans (if_neg h333))
        go_wp2_with (first | ((first | refine Mix.wpList_guarded rfl ?_ | refine Mix.wp_still (by kernel_rfl) (by kernel_rfl) ?_); (repeat' (first | (refine Mix.lex_quiet0 rfl rfl rfl ?_; intro K hK; go_big_quiet_op; go_big_quiet_on) | (refine Mix.lex_quietG rfl rfl rfl (by with_reducible rfl) rfl rfl ?_; intro K hK; go_big_quiet_op; go_big_quiet_on) | ((first | refine Mix.lex_skipT rfl rfl rfl (by with_reducible rfl) ?_ | refine Mix.lex_skipF rfl rfl rfl (by with_reducible rfl) ?_ | refine Mix.lex_skipU rfl rfl rfl (by with_reducible rfl) ?_); simp only [Act.put, List.setIfInBounds_toArray, List.set_cons_succ, List.set_cons_zero]) | (refine Mix.lex_part rfl rfl rfl rfl (fun hq => ?_) (fun hq => ?_) <;> (fail_if_success (guard_hyp hq :ₛ true = true)) <;> (fail_if_success (guard_hyp hq :ₛ false = false)) <;> first | (exfalso; cases hq; done) | (exfalso; simp only [decide_eq_true_eq, decide_eq_false_iff_not, beq_iff_eq, beq_eq_false_iff_ne, ne_eq, Int.not_lt, Int.not_le] at hq; omega) | simp only [Act.put, List.setIfInBounds_toArray, List.set_cons_succ, List.set_cons_zero]))); all_goals (refine Mix.lex_nil ?_)))
        go_ret3
        exact ⟨by rw [HL4.out]; rfl, X3.out⟩
  · have HL3 : Hid (lookF sec (l.first + i) = none) := by
      rw [Hid, HL2.out, if_neg fun h => hok ⟨h.1, h.2.1⟩]
    cases bp with
    | false =>
      clear HL2 hok
      (repeat' (first | (refine Mix.lex_quiet0 rfl rfl rfl ?_; intro K hK; go_big_quiet_op; go_big_quiet_on) | (refine Mix.lex_quietG rfl rfl rfl (by with_reducible rfl) rfl rfl ?_; intro K hK; go_big_quiet_op; go_big_quiet_on) | ((first | refine Mix.lex_skipT rfl rfl rfl (by with_reducible rfl) ?_ | refine Mix.lex_skipF rfl rfl rfl (by with_reducible rfl) ?_ | refine Mix.lex_skipU rfl rfl rfl (by with_reducible rfl) ?_); simp only [Act.put, List.setIfInBounds_toArray, List.set_cons_succ, List.set_cons_zero]) | (refine Mix.lex_part rfl rfl rfl rfl (fun hq => ?_) (fun hq => ?_) <;> (fail_if_success (guard_hyp hq :ₛ true = true)) <;> (fail_if_success (guard_hyp hq :ₛ false = false)) <;> first | (exfalso; cases hq; done) | (exfalso; simp only [decide_eq_true_eq, decide_eq_false_iff_not, beq_iff_eq, beq_eq_false_iff_ne, ne_eq, Int.not_lt, Int.not_le] at hq; omega) | simp only [Act.put, List.setIfInBounds_toArray, List.set_cons_succ, List.set_cons_zero])))
      refine Mix.lex_nil ?_
      go_wp2_with (first | ((first | refine Mix.wpList_guarded rfl ?_ | refine Mix.wp_still (by kernel_rfl) (by kernel_rfl) ?_); (repeat' (first | (refine Mix.lex_quiet0 rfl rfl rfl ?_; intro K hK; go_big_quiet_op; go_big_quiet_on) | (refine Mix.lex_quietG rfl rfl rfl (by with_reducible rfl) rfl rfl ?_; intro K hK; go_big_quiet_op; go_big_quiet_on) | ((first | refine Mix.lex_skipT rfl rfl rfl (by with_reducible rfl) ?_ | refine Mix.lex_skipF rfl rfl rfl (by with_reducible rfl) ?_ | refine Mix.lex_skipU rfl rfl rfl (by with_reducible rfl) ?_); simp only [Act.put, List.setIfInBounds_toArray, List.set_cons_succ, List.set_cons_zero]) | (refine Mix.lex_part rfl rfl rfl rfl (fun hq => ?_) (fun hq => ?_) <;> (fail_if_success (guard_hyp hq :ₛ true = true)) <;> (fail_if_success (guard_hyp hq :ₛ false = false)) <;> first | (exfalso; cases hq; done) | (exfalso; simp only [decide_eq_true_eq, decide_eq_false_iff_not, beq_iff_eq, beq_eq_false_iff_ne, ne_eq, Int.not_lt, Int.not_le] at hq; omega) | simp only [Act.put, List.setIfInBounds_toArray, List.set_cons_succ, List.set_cons_zero]))); all_goals (refine Mix.lex_nil ?_)))
      go_ret3
      exact ⟨by rw [HL3.out]; rfl, X1.out.then_ext X2.out⟩
    | true =>
      have q1 : decide (s0 = 111) = false := decide_eq_false fun h => hok ⟨rfl, .inl h⟩
      have q2 : decide (s0 = 99) = false := decide_eq_false fun h => hok ⟨rfl, .inr h⟩
      rw [q1] at k111; simp only [Bool.not_true, Bool.not_false] at k111
      rw [q2] at k99; simp only [Bool.not_true, Bool.not_false] at k99
      clear HL2 hok
      (repeat' (first | (refine Mix.lex_quiet0 rfl rfl rfl ?_; intro K hK; go_big_quiet_op; go_big_quiet_on) | (refine Mix.lex_quietG rfl rfl rfl (by with_reducible rfl) rfl rfl ?_; intro K hK; go_big_quiet_op; go_big_quiet_on) | ((first | refine Mix.lex_skipT rfl rfl rfl (by with_reducible rfl) ?_ | refine Mix.lex_skipF rfl rfl rfl (by with_reducible rfl) ?_ | refine Mix.lex_skipU rfl rfl rfl (by with_reducible rfl) ?_); simp only [Act.put, List.setIfInBounds_toArray, List.set_cons_succ, List.set_cons_zero]) | (refine Mix.lex_part rfl rfl rfl rfl (fun hq => ?_) (fun hq => ?_) <;> (fail_if_success (guard_hyp hq :ₛ true = true)) <;> (fail_if_success (guard_hyp hq :ₛ false = false)) <;> first | (exfalso; cases hq; done) | (exfalso; simp only [decide_eq_true_eq, decide_eq_false_iff_not, beq_iff_eq, beq_eq_false_iff_ne, ne_eq, Int.not_lt, Int.not_le] at hq; omega) | simp only [Act.put, List.setIfInBounds_toArray, List.set_cons_succ, List.set_cons_zero])))
      refine Mix.lex_nil ?_
      go_wp2_with (first | ((first | refine Mix.wpList_guarded rfl ?_ | refine Mix.wp_still (by kernel_rfl) (by kernel_rfl) ?_); (repeat' (first | (refine Mix.lex_quiet0 rfl rfl rfl ?_; intro K hK; go_big_quiet_op; go_big_quiet_on) | (refine Mix.lex_quietG rfl rfl rfl (by with_reducible rfl) rfl rfl ?_; intro K hK; go_big_quiet_op; go_big_quiet_on) | ((first | refine Mix.lex_skipT rfl rfl rfl (by with_reducible rfl) ?_ | refine Mix.lex_skipF rfl rfl rfl (by with_reducible rfl) ?_ | refine Mix.lex_skipU rfl rfl rfl (by with_reducible rfl) ?_); simp only [Act.put, List.setIfInBounds_toArray, List.set_cons_succ, List.set_cons_zero]) | (refine Mix.lex_part rfl rfl rfl rfl (fun hq => ?_) (fun hq => ?_) <;> (fail_if_success (guard_hyp hq :ₛ true = true)) <;> (fail_if_success (guard_hyp hq :ₛ false = false)) <;> first | (exfalso; cases hq; done) | (exfalso; simp only [decide_eq_true_eq, decide_eq_false_iff_not, beq_iff_eq, beq_eq_false_iff_ne, ne_eq, Int.not_lt, Int.not_le] at hq; omega) | simp only [Act.put, List.setIfInBounds_toArray, List.set_cons_succ, List.set_cons_zero]))); all_goals (refine Mix.lex_nil ?_)))
      go_ret3
      exact ⟨by rw [HL3.out]; rfl, X1.out.then_ext X2.out⟩
end Go.Proofs.Ytaphmmobmadfoaa

/- Facts on this program's own types: how two values of a struct type compare, how one is built. -/
namespace Go.Proofs.Ytaphmmobmadfoaa
open Go Go.RowKit
def fileB (x y x' y' : Str) : Bool := decide (x = x' ∧ y = y')
theorem fileB_true {f g : File} (h : fileB f.1 f.2 g.1 g.2 = true) : f = g := by
  unfold fileB at h; have := of_decide_eq_true h; exact Prod.ext this.1 this.2
theorem fileB_false {f g : File} (h : fileB f.1 f.2 g.1 g.2 = false) : f ≠ g := by
  unfold fileB at h; have := of_decide_eq_false h; intro e; subst e; exact this ⟨rfl, rfl⟩
end Go.Proofs.Ytaphmmobmadfoaa

/- files.Name and the document's NameMay answer the same: a small letter first, then small letters, digits and points, at most eight. -/
namespace Go.Proofs.Ytaphmmobmadfoaa
open Go Go.RowKit
/-- May this byte stand in a name (first: at its head)? -/
def nameC (c : UInt8) (first : Bool) : Bool := (decide (97 ≤ c.toNat) && decide (c.toNat ≤ 122)) || (!first && ((decide (48 ≤ c.toNat) && decide (c.toNat ≤ 57)) || c.toNat == 46))
def nameFrom : Str → Nat → Bool
  | [], _ => true
  | c :: r, i => nameC c (i == 0) && nameFrom r (i + 1)
def nameB (s : Str) : Bool := decide (1 ≤ s.length) && decide (s.length ≤ 8) && nameFrom s 0
theorem nameFrom_at (l : Str) (k : Nat) (h : k < l.length) : nameFrom (l.drop k) k = (nameC l[k] (k == 0) && nameFrom (l.drop (k + 1)) (k + 1)) := by
  rw [List.drop_eq_getElem_cons h]; rfl
set_option maxHeartbeats 2000000 in
theorem Name_c (s : Str) (w : World) (hs : s.length ≤ 10000) :
    Calls Try.prog 61 #[S s] w fun e w' => e = .returned (.bool (nameB s)) ∧ Ext w w' := by
  go_enter Try.func61, Try.ntmps61
  go_wp2_with (first | ((first | refine Mix.wpList_guarded rfl ?_ | refine Mix.wp_still (by kernel_rfl) (by kernel_rfl) ?_); (repeat' (first | (refine Mix.lex_quiet0 rfl rfl rfl ?_; intro K hK; go_big_quiet_op; go_big_quiet_on) | (refine Mix.lex_quietG rfl rfl rfl (by with_reducible rfl) rfl rfl ?_; intro K hK; go_big_quiet_op; go_big_quiet_on) | ((first | refine Mix.lex_skipT rfl rfl rfl (by with_reducible rfl) ?_ | refine Mix.lex_skipF rfl rfl rfl (by with_reducible rfl) ?_ | refine Mix.lex_skipU rfl rfl rfl (by with_reducible rfl) ?_); simp only [Act.put, List.setIfInBounds_toArray, List.set_cons_succ, List.set_cons_zero]) | (refine Mix.lex_part rfl rfl rfl rfl (fun hq => ?_) (fun hq => ?_) <;> (fail_if_success (guard_hyp hq :ₛ true = true)) <;> (fail_if_success (guard_hyp hq :ₛ false = false)) <;> first | (exfalso; cases hq; done) | (exfalso; simp only [decide_eq_true_eq, decide_eq_false_iff_not, beq_iff_eq, beq_eq_false_iff_ne, ne_eq, Int.not_lt, Int.not_le] at hq; omega) | simp only [Act.put, List.setIfInBounds_toArray, List.set_cons_succ, List.set_cons_zero]))); all_goals (refine Mix.lex_nil ?_)))
  go_loop [7] (fun i => ∃ k : Nat, k ≤ s.length ∧ i = .int .i64 k ∧ nameFrom s 0 = nameFrom (s.drop k) k) (fun i => s.length - (intOf i).toNat)
  case atStart => exact ⟨0, Nat.zero_le _, rfl, rfl⟩
  case round =>
    obtain ⟨k, hk, rfl, hF⟩ := hrel
    have HF := Lib.hid hF
    clear hF
    by_cases hlt : k < s.length
    · have hN := Lib.hid (nameFrom_at s k hlt)
      have HT : Hid (nameC s[k] (k == 0) = true → nameFrom s 0 = nameFrom (s.drop (k + 1)) (k + 1)) := fun h => by rw [HF.out, hN.out, h, Bool.true_and]
      have HB : Hid (nameC s[k] (k == 0) = false → nameB s = false) := fun h => by unfold nameB; rw [HF.out, hN.out, h, Bool.false_and, Bool.and_false]
      clear HF hN
      go_upto_region 5 with fail
      go_cut [34] from 13 to 34 (fun c wx => c = .bool (!nameC s[k] (k == 0)) ∧ wx = w)
      case first =>
        refine Mix.wp_plain [] (fun w' => w' = _) rfl ?_
        (repeat' (first | (refine Mix.lex_quiet0 rfl rfl rfl ?_; intro K hK; go_big_quiet_op; go_big_quiet_on) | (refine Mix.lex_quietG rfl rfl rfl (by with_reducible rfl) rfl rfl ?_; intro K hK; go_big_quiet_op; go_big_quiet_on) | ((first | refine Mix.lex_skipT rfl rfl rfl (by with_reducible rfl) ?_ | refine Mix.lex_skipF rfl rfl rfl (by with_reducible rfl) ?_ | refine Mix.lex_skipU rfl rfl rfl (by with_reducible rfl) ?_); simp only [Act.put, List.setIfInBounds_toArray, List.set_cons_succ, List.set_cons_zero]) | (refine Mix.lex_part rfl rfl rfl rfl (fun hq => ?_) (fun hq => ?_) <;> (fail_if_success (guard_hyp hq :ₛ true = true)) <;> (fail_if_success (guard_hyp hq :ₛ false = false)) <;> first | (exfalso; cases hq; done) | (exfalso; simp only [decide_eq_true_eq, decide_eq_false_iff_not, beq_iff_eq, beq_eq_false_iff_ne, ne_eq, Int.not_lt, Int.not_le] at hq; omega) | simp only [Act.put, List.setIfInBounds_toArray, List.set_cons_succ, List.set_cons_zero])))
        all_goals refine Mix.lex_nil ?_
        all_goals (go_wp2_with fail; go_meet; refine ⟨congrArg Value.bool ?_, rfl⟩)
        all_goals (clear HT HB; simp only [decide_eq_true_eq, decide_eq_false_iff_not, beq_iff_eq, beq_eq_false_iff_ne, ne_eq] at *; unfold nameC; rw [Bool.eq_iff_iff]; simp; omega)
      case rest =>
        obtain ⟨rfl, rfl⟩ := hcut
        cases hc : nameC s[k] (k == 0)
        · go_wp2
          go_ret
          exact ⟨ret_bool (HB.out hc).symm, Only.refl _ _⟩
        · go_wp2
          go_round
          case rel => exact ⟨k + 1, by omega, by go_num, HT.out hc⟩
          case measure => simp [intOf]; omega
    · have hlen : k = s.length := by omega
      have HB : Hid (nameFrom s 0 = true) := by rw [Hid, HF.out, hlen, List.drop_length]; rfl
      clear HF
      clear hlen
      go_wp2_with (refine Mix.wpList_guarded rfl ?_; (repeat' (first | (refine Mix.lex_quiet0 rfl rfl rfl ?_; intro K hK; go_big_quiet_op; go_big_quiet_on) | (refine Mix.lex_quietG rfl rfl rfl (by with_reducible rfl) rfl rfl ?_; intro K hK; go_big_quiet_op; go_big_quiet_on) | ((first | refine Mix.lex_skipT rfl rfl rfl (by with_reducible rfl) ?_ | refine Mix.lex_skipF rfl rfl rfl (by with_reducible rfl) ?_ | refine Mix.lex_skipU rfl rfl rfl (by with_reducible rfl) ?_); simp only [Act.put, List.setIfInBounds_toArray, List.set_cons_succ, List.set_cons_zero]) | (refine Mix.lex_part rfl rfl rfl rfl (fun hq => ?_) (fun hq => ?_) <;> (fail_if_success (guard_hyp hq :ₛ true = true)) <;> (fail_if_success (guard_hyp hq :ₛ false = false)) <;> first | (exfalso; cases hq; done) | (exfalso; simp only [decide_eq_true_eq, decide_eq_false_iff_not, beq_iff_eq, beq_eq_false_iff_ne, ne_eq, Int.not_lt, Int.not_le] at hq; omega) | simp only [Act.put, List.setIfInBounds_toArray, List.set_cons_succ, List.set_cons_zero]))); all_goals (refine Mix.lex_nil ?_))
      all_goals
        go_ret
        refine ⟨ret_bool ?_, Only.refl _ _⟩
        unfold nameB
        rw [HB.out, Bool.and_true]
        clear HB hlt hk
        revert hq
        cases s with
        | nil => simp
        | cons x l => intro hq; first | (simp at hq; done) | (rw [Bool.eq_iff_iff]; simp; omega)
set_option maxHeartbeats 2000000 in
theorem NameMay_c (s : Str) (w : World) (hs : s.length ≤ 10000) :
    Calls Try.prog 66 #[S s] w fun e w' => e = .returned (.bool (nameB s)) ∧ Ext w w' := by
  by_cases h1 : s.length < 1
  · have HB : Hid (nameB s = false) := by
      have : s.length = 0 := by omega
      simp [Hid, nameB, this]
    go_enter Try.func66, Try.ntmps66
    go_wp2_with (first | ((first | refine Mix.wpList_guarded rfl ?_ | refine Mix.wp_still (by kernel_rfl) (by kernel_rfl) ?_); (repeat' (first | (refine Mix.lex_quiet0 rfl rfl rfl ?_; intro K hK; go_big_quiet_op; go_big_quiet_on) | (refine Mix.lex_quietG rfl rfl rfl (by with_reducible rfl) rfl rfl ?_; intro K hK; go_big_quiet_op; go_big_quiet_on) | ((first | refine Mix.lex_skipT rfl rfl rfl (by with_reducible rfl) ?_ | refine Mix.lex_skipF rfl rfl rfl (by with_reducible rfl) ?_ | refine Mix.lex_skipU rfl rfl rfl (by with_reducible rfl) ?_); simp only [Act.put, List.setIfInBounds_toArray, List.set_cons_succ, List.set_cons_zero]) | (refine Mix.lex_part rfl rfl rfl rfl (fun hq => ?_) (fun hq => ?_) <;> (fail_if_success (guard_hyp hq :ₛ true = true)) <;> (fail_if_success (guard_hyp hq :ₛ false = false)) <;> first | (exfalso; cases hq; done) | (exfalso; simp only [decide_eq_true_eq, decide_eq_false_iff_not, beq_iff_eq, beq_eq_false_iff_ne, ne_eq, Int.not_lt, Int.not_le] at hq; omega) | simp only [Act.put, List.setIfInBounds_toArray, List.set_cons_succ, List.set_cons_zero]))); all_goals (refine Mix.lex_nil ?_)))
    all_goals (go_ret; exact ⟨ret_bool HB.out.symm, Only.refl _ _⟩)
  by_cases h2 : 8 < s.length
  · have HB : Hid (nameB s = false) := by
      simp [Hid, nameB]; omega
    go_enter Try.func66, Try.ntmps66
    go_wp2_with (first | ((first | refine Mix.wpList_guarded rfl ?_ | refine Mix.wp_still (by kernel_rfl) (by kernel_rfl) ?_); (repeat' (first | (refine Mix.lex_quiet0 rfl rfl rfl ?_; intro K hK; go_big_quiet_op; go_big_quiet_on) | (refine Mix.lex_quietG rfl rfl rfl (by with_reducible rfl) rfl rfl ?_; intro K hK; go_big_quiet_op; go_big_quiet_on) | ((first | refine Mix.lex_skipT rfl rfl rfl (by with_reducible rfl) ?_ | refine Mix.lex_skipF rfl rfl rfl (by with_reducible rfl) ?_ | refine Mix.lex_skipU rfl rfl rfl (by with_reducible rfl) ?_); simp only [Act.put, List.setIfInBounds_toArray, List.set_cons_succ, List.set_cons_zero]) | (refine Mix.lex_part rfl rfl rfl rfl (fun hq => ?_) (fun hq => ?_) <;> (fail_if_success (guard_hyp hq :ₛ true = true)) <;> (fail_if_success (guard_hyp hq :ₛ false = false)) <;> first | (exfalso; cases hq; done) | (exfalso; simp only [decide_eq_true_eq, decide_eq_false_iff_not, beq_iff_eq, beq_eq_false_iff_ne, ne_eq, Int.not_lt, Int.not_le] at hq; omega) | simp only [Act.put, List.setIfInBounds_toArray, List.set_cons_succ, List.set_cons_zero]))); all_goals (refine Mix.lex_nil ?_)))
    all_goals (go_ret; exact ⟨ret_bool HB.out.symm, Only.refl _ _⟩)
  have HB : Hid (nameB s = nameFrom s 0) := by
    have a1 : decide (1 ≤ s.length) = true := by simp; omega
    have a2 : decide (s.length ≤ 8) = true := by simp; omega
    rw [Hid, nameB, a1, a2]; rfl
  go_enter Try.func66, Try.ntmps66
  go_wp2_with (first | ((first | refine Mix.wpList_guarded rfl ?_ | refine Mix.wp_still (by kernel_rfl) (by kernel_rfl) ?_); (repeat' (first | (refine Mix.lex_quiet0 rfl rfl rfl ?_; intro K hK; go_big_quiet_op; go_big_quiet_on) | (refine Mix.lex_quietG rfl rfl rfl (by with_reducible rfl) rfl rfl ?_; intro K hK; go_big_quiet_op; go_big_quiet_on) | ((first | refine Mix.lex_skipT rfl rfl rfl (by with_reducible rfl) ?_ | refine Mix.lex_skipF rfl rfl rfl (by with_reducible rfl) ?_ | refine Mix.lex_skipU rfl rfl rfl (by with_reducible rfl) ?_); simp only [Act.put, List.setIfInBounds_toArray, List.set_cons_succ, List.set_cons_zero]) | (refine Mix.lex_part rfl rfl rfl rfl (fun hq => ?_) (fun hq => ?_) <;> (fail_if_success (guard_hyp hq :ₛ true = true)) <;> (fail_if_success (guard_hyp hq :ₛ false = false)) <;> first | (exfalso; cases hq; done) | (exfalso; simp only [decide_eq_true_eq, decide_eq_false_iff_not, beq_iff_eq, beq_eq_false_iff_ne, ne_eq, Int.not_lt, Int.not_le] at hq; omega) | simp only [Act.put, List.setIfInBounds_toArray, List.set_cons_succ, List.set_cons_zero]))); all_goals (refine Mix.lex_nil ?_)))
  go_loop [3] (fun i => ∃ k : Nat, k ≤ s.length ∧ i = .int .i64 k ∧ nameFrom s 0 = nameFrom (s.drop k) k) (fun i => s.length - (intOf i).toNat)
  case atStart => exact ⟨0, Nat.zero_le _, rfl, rfl⟩
  case round =>
    obtain ⟨k, hk, rfl, hF⟩ := hrel
    by_cases hlt : k < s.length
    · have hN := nameFrom_at s k hlt
      have HT : Hid (nameC s[k] (k == 0) = true → nameFrom s 0 = nameFrom (s.drop (k + 1)) (k + 1)) := fun h => by rw [hF, hN, h, Bool.true_and]
      have HF : Hid (nameC s[k] (k == 0) = false → nameB s = false) := fun h => by rw [HB.out, hF, hN, h, Bool.false_and]
      clear hF hN HB
      generalize hc : nameC s[k] (k == 0) = c at HT HF
      have hC := Lib.hid hc
      clear hc
      go_wp2_with (first | ((first | refine Mix.wpList_guarded rfl ?_ | refine Mix.wp_still (by kernel_rfl) (by kernel_rfl) ?_); (repeat' (first | (refine Mix.lex_quiet0 rfl rfl rfl ?_; intro K hK; go_big_quiet_op; go_big_quiet_on) | (refine Mix.lex_quietG rfl rfl rfl (by with_reducible rfl) rfl rfl ?_; intro K hK; go_big_quiet_op; go_big_quiet_on) | ((first | refine Mix.lex_skipT rfl rfl rfl (by with_reducible rfl) ?_ | refine Mix.lex_skipF rfl rfl rfl (by with_reducible rfl) ?_ | refine Mix.lex_skipU rfl rfl rfl (by with_reducible rfl) ?_); simp only [Act.put, List.setIfInBounds_toArray, List.set_cons_succ, List.set_cons_zero]) | (refine Mix.lex_part rfl rfl rfl rfl (fun hq => ?_) (fun hq => ?_) <;> (fail_if_success (guard_hyp hq :ₛ true = true)) <;> (fail_if_success (guard_hyp hq :ₛ false = false)) <;> first | (exfalso; cases hq; done) | (exfalso; simp only [decide_eq_true_eq, decide_eq_false_iff_not, beq_iff_eq, beq_eq_false_iff_ne, ne_eq, Int.not_lt, Int.not_le] at hq; omega) | simp only [Act.put, List.setIfInBounds_toArray, List.set_cons_succ, List.set_cons_zero]))); all_goals (refine Mix.lex_nil ?_)))
      all_goals first
        | (go_round
           case rel => exact ⟨k + 1, by omega, by go_num, HT.out (by rw [← hC.out]; clear HT HF hC; simp only [decide_eq_true_eq, decide_eq_false_iff_not, beq_iff_eq, beq_eq_false_iff_ne, ne_eq, Bool.or_eq_true, Bool.or_eq_false_iff, Bool.not_eq_eq_eq_not, Bool.not_true, Bool.not_false] at *; unfold nameC; simp; omega)⟩
           case measure => simp [intOf]; omega)
        | (go_ret
           refine ⟨ret_bool (HF.out ?_).symm, Only.refl _ _⟩
           rw [← hC.out]; clear HT HF hC; simp only [decide_eq_true_eq, decide_eq_false_iff_not, beq_iff_eq, beq_eq_false_iff_ne, ne_eq, Bool.or_eq_true, Bool.or_eq_false_iff, Bool.not_eq_eq_eq_not, Bool.not_true, Bool.not_false] at *; unfold nameC; simp; omega)
    · have HE : Hid (nameB s = true) := by
        rw [Hid, HB.out, hF, show k = s.length by omega, List.drop_length]; rfl
      clear hF HB
      go_wp2_with (first | ((first | refine Mix.wpList_guarded rfl ?_ | refine Mix.wp_still (by kernel_rfl) (by kernel_rfl) ?_); (repeat' (first | (refine Mix.lex_quiet0 rfl rfl rfl ?_; intro K hK; go_big_quiet_op; go_big_quiet_on) | (refine Mix.lex_quietG rfl rfl rfl (by with_reducible rfl) rfl rfl ?_; intro K hK; go_big_quiet_op; go_big_quiet_on) | ((first | refine Mix.lex_skipT rfl rfl rfl (by with_reducible rfl) ?_ | refine Mix.lex_skipF rfl rfl rfl (by with_reducible rfl) ?_ | refine Mix.lex_skipU rfl rfl rfl (by with_reducible rfl) ?_); simp only [Act.put, List.setIfInBounds_toArray, List.set_cons_succ, List.set_cons_zero]) | (refine Mix.lex_part rfl rfl rfl rfl (fun hq => ?_) (fun hq => ?_) <;> (fail_if_success (guard_hyp hq :ₛ true = true)) <;> (fail_if_success (guard_hyp hq :ₛ false = false)) <;> first | (exfalso; cases hq; done) | (exfalso; simp only [decide_eq_true_eq, decide_eq_false_iff_not, beq_iff_eq, beq_eq_false_iff_ne, ne_eq, Int.not_lt, Int.not_le] at hq; omega) | simp only [Act.put, List.setIfInBounds_toArray, List.set_cons_succ, List.set_cons_zero]))); all_goals (refine Mix.lex_nil ?_)))
      go_ret
      exact ⟨ret_bool HE.out.symm, Only.refl _ _⟩
end Go.Proofs.Ytaphmmobmadfoaa
