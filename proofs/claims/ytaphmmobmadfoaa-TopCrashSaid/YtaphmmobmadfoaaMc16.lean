/- Put together: Lg8. -/
import Derived.Test.YtaphmmobmadfoaaMc15
/- Add. -/
namespace Go.Proofs.Ytaphmmobmadfoaa
open Go Go.RowKit
theorem chkA_zero {c : List Ch} (h : chkA c = 0) : ∀ x ∈ c, chBad x = 0 := by
  induction c with
  | nil => intro x hx; cases hx
  | cons a r ih =>
    unfold chkA at h
    split at h
    · rename_i ha
      intro x hx
      rcases List.mem_cons.1 hx with e | hx
      · rw [e]; exact ha
      · exact ih h x hx
    · rename_i ha
      exact absurd h ha
theorem chkA_drop : ∀ (c : List Ch) (j : Nat), (∀ x ∈ c.take j, chBad x = 0) → chkA c = chkA (c.drop j)
  | [], j, _ => by simp
  | a :: r, 0, _ => rfl
  | a :: r, j + 1, h => by
    have ha : chBad a = 0 := h a (by simp)
    show (if chBad a = 0 then chkA r else chBad a) = chkA (r.drop j)
    rw [if_pos ha]
    exact chkA_drop r j fun x hx => h x (by rw [List.take_succ_cons]; exact List.mem_cons_of_mem _ hx)
/-- What Add comes to. -/
def AdRes (w0 : Nat → Prop) (w : World) (rg : Nat) (R : (LogR × Dk) × Int) (e : Ending) (w' : World) : Prop := e = .returned (errV R.2) ∧ ∃ r', r'.g = rg ∧ LgW w0 w' r' R.1.1 R.1.2 ∧ Only (Frn w0 w) w w'
abbrev fnT : TypeId := 44
abbrev fn4 (g2 g3 g8 dg : Nat) : Array Value := #[.func (.func 62) #[] #[pt g2, pt g3], .func (.func 37) #[pt dg] #[], .func (.func 64) #[] #[pt g2, pt g8, pt g3], .func (.func 37) #[pt dg] #[]]
/-- Where Add stands between two of its steps. -/
structure ASt (w0 : Nat → Prop) (w wr : World) (r : DkR) (rg : Nat) (l : LogR) (d : Dk) (g2 g3 g8 gA : Nat) (A : Option Addr) (cap : Nat) (c : List Ch) : Prop where
  hrg : r.g = rg
  lw : LgW w0 wr r l d
  o : Only (Frn w0 w) w wr
  c2 : Cs wr g2 bxL #[pt l.g]
  c3 : Cs wr g3 deedT #[.slice A c.length cap]
  c8 : Cs wr g8 bxI #[.int .i64 (l.next + c.length : Nat)]
  cA : Cs wr gA fnT (fn4 g2 g3 g8 rg)
  rb : Rob w0 wr fun u => SlR chF u A c.length c
  ml : Ml wr
  sz : Cov w0 wr
theorem ASt.step {w0 : Nat → Prop} {w wr u : World} {r r' : DkR} {rg : Nat} {l : LogR} {d d' : Dk} {g2 g3 g8 gA : Nat} {A : Option Addr} {cap : Nat} {c : List Ch} (hm : NoMl w0) (h : ASt w0 w wr r rg l d g2 g3 g8 gA A cap c) (hg : r'.g = r.g) (hl : LgW w0 u r' l d') (hx : Only (Frn w0 wr) wr u) : ASt w0 w u r' rg l d' g2 g3 g8 gA A cap c :=
  ⟨hg.trans h.hrg, hl, h.o.frn hx, h.c2.frn (by decide) (by decide) (by decide) (by decide) hx, h.c3.frn (by decide) (by decide) (by decide) (by decide) hx, h.c8.frn (by decide) (by decide) (by decide) (by decide) hx, h.cA.frn (by decide) (by decide) (by decide) (by decide) hx, h.rb.step hx fun _ _ e => e, hm.frn h.ml hx, Cov.up h.sz hx.size⟩
theorem ASt.ext {w0 : Nat → Prop} {w wr u : World} {r : DkR} {rg : Nat} {l : LogR} {d : Dk} {g2 g3 g8 gA : Nat} {A : Option Addr} {cap : Nat} {c : List Ch} (hm : NoMl w0) (h : ASt w0 w wr r rg l d g2 g3 g8 gA A cap c) (hx : Ext wr u) : ASt w0 w u r rg l d g2 g3 g8 gA A cap c :=
  h.step hm rfl (h.lw.ext hx) (Only.any hx)
def stA (l : LogR) (c : List Ch) (d : Dk) : Nat → Dk × Int
  | 0 => (d, 0)
  | 1 => layF l c d
  | 2 => ((layF l c d).1.fl, (layF l c d).1.flF)
  | 3 => closeF l c.length (layF l c d).1.fl
  | _ => ((closeF l c.length (layF l c d).1.fl).1.fl, (closeF l c.length (layF l c d).1.fl).1.flF)
set_option maxRecDepth 100000 in
set_option maxHeartbeats 8000000 in
theorem Add_c {w0 : Nat → Prop} {w : World} {r : DkR} {l : LogR} {d : Dk} (hm0 : NoMl w0) (hml : Ml w) (h : LgW w0 w r l d) (h0 : Cov w0 w) {A : Option Addr} {n cap : Nat} {c : List Ch} (hR : Rob w0 w fun u => SlR chF u A n c) (hb : ∀ x ∈ c, x.1.length ≤ 1000 ∧ x.2.1.length ≤ 1000)
    (hn : n ≤ 1000000) (hw : d.wait.length ≤ 1000) (hl : l.from_ ≤ 1000 ∧ l.many ≤ 1000 ∧ l.next ≤ l.many ∧ l.first ≤ 1000000000000) :
    Calls Try.prog 42 #[pt l.g, .slice A n cap] w (AdRes w0 w r.g (addF l c d)) := by
  obtain rfl : n = c.length := hR.here.1.symm
  obtain ⟨hl1, hl2, hl3, hl4⟩ := hl
  obtain ⟨g2, hg2⟩ : ∃ x, x = w.heap.size := ⟨_, rfl⟩
  obtain ⟨w1, hw1⟩ : ∃ v, v = w.alloc (.cells #[pt l.g] bxL) := ⟨_, rfl⟩
  obtain ⟨g3, hg3⟩ : ∃ x, x = w1.heap.size := ⟨_, rfl⟩
  obtain ⟨w2, hw2⟩ : ∃ v, v = w1.alloc (.cells #[.slice A c.length cap] deedT) := ⟨_, rfl⟩
  have x1 : Ext w w1 := by rw [hw1]; exact (Only.refl No w).alloc _
  have x2 : Ext w1 w2 := by rw [hw2]; exact (Only.refl No w1).alloc _
  have hz : g3 = g2 + 1 := by rw [hg3, hg2, hw1]; simp
  have k2 : Cs w1 g2 bxL #[pt l.g] := by rw [hw1, hg2]; exact Cs.new _ _ _
  have B2 : Hid (Cs w2 g2 bxL #[pt l.g]) := k2.keep x2 id
  have B3 : Hid (Cs w2 g3 deedT #[.slice A c.length cap]) := by rw [hw2, hg3]; exact Cs.new _ _ _
  have X2 := Lib.hid (x1.then_ext x2)
  have L2 := Lib.hid (h.ext X2.out)
  have R2 := Lib.hid (hR.ext X2.out)
  have M2 := Lib.hid (hml.ext X2.out)
  have HM0 := Lib.hid hm0
  have HB := Lib.hid hb
  have h02 : Cov w0 w2 := Cov.up h0 X2.out.size
  have q2 : w2.cell? ⟨g2, 0, none⟩ = some (pt l.g) := B2.out.cell 0
  have q3 : w2.cell? ⟨g3, 0, none⟩ = some (.slice A c.length cap) := B3.out.cell 0
  clear h hR hml hm0 hb x1 x2 k2
  by_cases h40 : 40 < c.length
  · have g40 : decide ((40 : Int) < (c.length : Int)) = true := decide_eq_true (by omega)
    have HA : Hid (addF l c d = ((l, d), 2)) := if_pos h40
    go_enter Try.func42, Try.ntmps42
    go_upto_region 1 with fail
    rw [← hw1, ← hg2, ← hw2, ← hz]
    clear hw1 hg2 hw2 hg3 hz
    go_wp2_with (first | ((first | refine Mix.wpList_guarded rfl ?_ | refine Mix.wp_still (by kernel_rfl) (by kernel_rfl) ?_); (repeat' (first | (refine Mix.lex_quiet0 rfl rfl rfl ?_; intro K hK; go_big_quiet_op; go_big_quiet_on) | (refine Mix.lex_quietG rfl rfl rfl (by with_reducible rfl) rfl rfl ?_; intro K hK; go_big_quiet_op; go_big_quiet_on) | ((first | refine Mix.lex_skipT rfl rfl rfl (by with_reducible rfl) ?_ | refine Mix.lex_skipF rfl rfl rfl (by with_reducible rfl) ?_ | refine Mix.lex_skipU rfl rfl rfl (by with_reducible rfl) ?_); simp only [Act.put, List.setIfInBounds_toArray, List.set_cons_succ, List.set_cons_zero]) | (refine Mix.lex_part rfl rfl rfl rfl (fun hq => ?_) (fun hq => ?_) <;> (fail_if_success (guard_hyp hq :ₛ true = true)) <;> (fail_if_success (guard_hyp hq :ₛ false = false)) <;> first | (exfalso; cases hq; done) | (exfalso; simp only [decide_eq_true_eq, decide_eq_false_iff_not, beq_iff_eq, beq_eq_false_iff_ne, ne_eq, Int.not_lt, Int.not_le] at hq; omega) | simp only [Act.put, List.setIfInBounds_toArray, List.set_cons_succ, List.set_cons_zero]))); all_goals (refine Mix.lex_nil ?_)))
    go_ret
    rw [HA.out]
    exact ⟨rfl, r, rfl, L2.out, Only.any X2.out⟩
  have g40 : decide ((40 : Int) < (c.length : Int)) = false := decide_eq_false (by omega)
  have HA1 : Hid (addF l c d = if l.many - l.next < c.length + 1 then ((l, d), 10) else if chkA c ≠ 0 then ((l, d), chkA c) else if (layF l c d).2 ≠ 0 then ((l, (layF l c d).1), (layF l c d).2)
      else if (layF l c d).1.flF ≠ 0 then ((l, (layF l c d).1.fl), (layF l c d).1.flF)
      else if (closeF l c.length (layF l c d).1.fl).2 ≠ 0 then ((l, (closeF l c.length (layF l c d).1.fl).1), (closeF l c.length (layF l c d).1.fl).2)
      else if (closeF l c.length (layF l c d).1.fl).1.flF ≠ 0 then ((l, (closeF l c.length (layF l c d).1.fl).1.fl), (closeF l c.length (layF l c d).1.fl).1.flF)
      else (({ l with next := l.next + c.length + 1 }, (closeF l c.length (layF l c d).1.fl).1.fl), 0)) := if_neg h40
  have HRo := Lib.hid (fun (v : World) (hv : Ext w2 v) => Room_c (L2.out.lg.ext hv) hl2 hl3)
  have Q2 : ∀ ξ : X w2 No, ξ.v.cell? ⟨g2, 0, none⟩ = some (pt l.g) := B2.out.x id 0
  have Q3 : ∀ ξ : X w2 No, ξ.v.cell? ⟨g3, 0, none⟩ = some (.slice A c.length cap) := B3.out.x id 0
  go_enter Try.func42, Try.ntmps42
  go_upto_region 1 with fail
  rw [← hw1, ← hg2, ← hw2, ← hz]
  clear hw1 hg2 hw2 hg3 hz
  go_upto_region 3 with fail
  (refine Mix.wp_draw [4] 100 (Cl (w2) (No)) (by kernel_rfl) (by kernel_rfl) (Cl.drew_ (X.here w2 No)) ?_; (repeat' (first | (refine Mix.lex_quiet0 rfl rfl rfl ?_; intro K hK; go_big_quiet_op; go_big_quiet_on) | (refine Mix.lex_quietG rfl rfl rfl (by with_reducible rfl) rfl rfl ?_; intro K hK; go_big_quiet_op; go_big_quiet_on) | ((first | refine Mix.lex_skipT rfl rfl rfl (by with_reducible rfl) ?_ | refine Mix.lex_skipF rfl rfl rfl (by with_reducible rfl) ?_ | refine Mix.lex_skipU rfl rfl rfl (by with_reducible rfl) ?_); simp only [Act.put, List.setIfInBounds_toArray, List.set_cons_succ, List.set_cons_zero]) | (refine Mix.lex_part rfl rfl rfl rfl (fun hq => ?_) (fun hq => ?_) <;> (fail_if_success (guard_hyp hq :ₛ true = true)) <;> (fail_if_success (guard_hyp hq :ₛ false = false)) <;> first | (exfalso; cases hq; done) | (exfalso; simp only [decide_eq_true_eq, decide_eq_false_iff_not, beq_iff_eq, beq_eq_false_iff_ne, ne_eq, Int.not_lt, Int.not_le] at hq; omega) | simp only [Act.put, List.setIfInBounds_toArray, List.set_cons_succ, List.set_cons_zero]))))
  ((first | refine Mix.lex_goes0 rfl rfl ?_ | refine Mix.lex_goesG rfl rfl rfl (by with_reducible rfl) rfl ?_); intro K hK; go_simp)
  refine (HRo.out _ (Only.refl No w2).drew).mono ?_
  rintro e u1 ⟨rfl, hu⟩
  have U1 : Hid (Ext w2 u1) := (Only.refl No w2).drew.then_ext hu
  refine ⟨_, rfl, hK _ _ (fun _ => Cl.of U1.out) ?_⟩
  clear hK K hu HRo Q2 Q3 q2 q3
  simp only [Act.put, List.setIfInBounds_toArray, List.set_cons_succ, List.set_cons_zero]
  (repeat' (first | (refine Mix.lex_quiet0 rfl rfl rfl ?_; intro K hK; go_big_quiet_op; go_big_quiet_on) | (refine Mix.lex_quietG rfl rfl rfl (by with_reducible rfl) rfl rfl ?_; intro K hK; go_big_quiet_op; go_big_quiet_on) | ((first | refine Mix.lex_skipT rfl rfl rfl (by with_reducible rfl) ?_ | refine Mix.lex_skipF rfl rfl rfl (by with_reducible rfl) ?_ | refine Mix.lex_skipU rfl rfl rfl (by with_reducible rfl) ?_); simp only [Act.put, List.setIfInBounds_toArray, List.set_cons_succ, List.set_cons_zero]) | (refine Mix.lex_part rfl rfl rfl rfl (fun hq => ?_) (fun hq => ?_) <;> (fail_if_success (guard_hyp hq :ₛ true = true)) <;> (fail_if_success (guard_hyp hq :ₛ false = false)) <;> first | (exfalso; cases hq; done) | (exfalso; simp only [decide_eq_true_eq, decide_eq_false_iff_not, beq_iff_eq, beq_eq_false_iff_ne, ne_eq, Int.not_lt, Int.not_le] at hq; omega) | simp only [Act.put, List.setIfInBounds_toArray, List.set_cons_succ, List.set_cons_zero])))
  refine Mix.lex_nil ?_
  have C2 := Lib.hid (B2.out.keep U1.out id)
  have C3 := Lib.hid (B3.out.keep U1.out id)
  have X3 := Lib.hid (X2.out.then_ext U1.out)
  have L3 := Lib.hid (L2.out.ext U1.out)
  have R3 := Lib.hid (R2.out.ext U1.out)
  have M3 := Lib.hid (M2.out.ext U1.out)
  have h03 : Cov w0 u1 := Cov.up h02 U1.out.size
  clear B2 B3 X2 L2 R2 M2 h02 U1
  by_cases hfull : l.many - l.next < c.length + 1
  · have gf : decide (((l.many - l.next : Nat) : Int) < (c.length : Int) + 1) = true := decide_eq_true (by omega)
    have HA2 := Lib.hid (HA1.out.trans (if_pos hfull))
    go_wp2_with (first | ((first | refine Mix.wpList_guarded rfl ?_ | refine Mix.wp_still (by kernel_rfl) (by kernel_rfl) ?_); (repeat' (first | (refine Mix.lex_quiet0 rfl rfl rfl ?_; intro K hK; go_big_quiet_op; go_big_quiet_on) | (refine Mix.lex_quietG rfl rfl rfl (by with_reducible rfl) rfl rfl ?_; intro K hK; go_big_quiet_op; go_big_quiet_on) | ((first | refine Mix.lex_skipT rfl rfl rfl (by with_reducible rfl) ?_ | refine Mix.lex_skipF rfl rfl rfl (by with_reducible rfl) ?_ | refine Mix.lex_skipU rfl rfl rfl (by with_reducible rfl) ?_); simp only [Act.put, List.setIfInBounds_toArray, List.set_cons_succ, List.set_cons_zero]) | (refine Mix.lex_part rfl rfl rfl rfl (fun hq => ?_) (fun hq => ?_) <;> (fail_if_success (guard_hyp hq :ₛ true = true)) <;> (fail_if_success (guard_hyp hq :ₛ false = false)) <;> first | (exfalso; cases hq; done) | (exfalso; simp only [decide_eq_true_eq, decide_eq_false_iff_not, beq_iff_eq, beq_eq_false_iff_ne, ne_eq, Int.not_lt, Int.not_le] at hq; omega) | simp only [Act.put, List.setIfInBounds_toArray, List.set_cons_succ, List.set_cons_zero]))); all_goals (refine Mix.lex_nil ?_)))
    go_ret
    rw [HA2.out]
    exact ⟨rfl, r, rfl, L3.out, Only.any X3.out⟩
  have gf : decide (((l.many - l.next : Nat) : Int) < (c.length : Int) + 1) = false := decide_eq_false (by omega)
  have HA2 := Lib.hid (HA1.out.trans (if_neg hfull))
  have q3 : u1.cell? ⟨g3, 0, none⟩ = some (.slice A c.length cap) := C3.out.cell 0
  clear HA1
  rw [gf]
  go_wp2_with (first | ((first | refine Mix.wpList_guarded rfl ?_ | refine Mix.wp_still (by kernel_rfl) (by kernel_rfl) ?_); (repeat' (first | (refine Mix.lex_quiet0 rfl rfl rfl ?_; intro K hK; go_big_quiet_op; go_big_quiet_on) | (refine Mix.lex_quietG rfl rfl rfl (by with_reducible rfl) rfl rfl ?_; intro K hK; go_big_quiet_op; go_big_quiet_on) | ((first | refine Mix.lex_skipT rfl rfl rfl (by with_reducible rfl) ?_ | refine Mix.lex_skipF rfl rfl rfl (by with_reducible rfl) ?_ | refine Mix.lex_skipU rfl rfl rfl (by with_reducible rfl) ?_); simp only [Act.put, List.setIfInBounds_toArray, List.set_cons_succ, List.set_cons_zero]) | (refine Mix.lex_part rfl rfl rfl rfl (fun hq => ?_) (fun hq => ?_) <;> (fail_if_success (guard_hyp hq :ₛ true = true)) <;> (fail_if_success (guard_hyp hq :ₛ false = false)) <;> first | (exfalso; cases hq; done) | (exfalso; simp only [decide_eq_true_eq, decide_eq_false_iff_not, beq_iff_eq, beq_eq_false_iff_ne, ne_eq, Int.not_lt, Int.not_le] at hq; omega) | simp only [Act.put, List.setIfInBounds_toArray, List.set_cons_succ, List.set_cons_zero]))); all_goals (refine Mix.lex_nil ?_)))
  go_loopw [25] (fun i wr => ∃ j : Nat, j ≤ c.length ∧ i = .int .i64 j ∧ Ext u1 wr ∧ ∀ x ∈ c.take j, chBad x = 0) (fun i _ => c.length - (intOf i).toNat)
  case atStart => exact ⟨0, Nat.zero_le _, rfl, Only.refl _ _, fun x hx => by simp at hx⟩
  case round =>
    obtain ⟨j, hj, rfl, hx1, hz⟩ := hrel
    have XX := Lib.hid hx1
    have HZ := Lib.hid hz
    clear hx1 hz q3
    by_cases hlt : j < c.length
    · obtain ⟨b, o, ch, rfl, hx, c0, c1, c2⟩ := chs_get (R3.out.ext XX.out).here hlt
      have HXc := Lib.hid hx
      obtain ⟨hk1, hk2⟩ := HB.out ch (List.mem_of_getElem? hx)
      have HCh := Lib.hid (fun (v : World) (hv : Ext u1 v) => Check_row (w := v) ch (by omega) (by omega) (M3.out.ext hv))
      have hb0 := chBad_nonneg ch
      obtain ⟨bad, hbad⟩ : ∃ b, b = chBad ch := ⟨_, rfl⟩
      rw [← hbad] at HCh hb0
      have HBd := Lib.hid hbad
      obtain ⟨key, val, gone⟩ := ch
      dsimp only at c0 c1 c2 hk1 hk2
      have c0' : wr.cell? ⟨b, o + j * 3, none⟩ = some (S key) := c0 (X.here _ _)
      have c1' : wr.cell? ⟨b, o + j * 3 + 1, none⟩ = some (S val) := c1 (X.here _ _)
      have c2' : wr.cell? ⟨b, o + j * 3 + 2, none⟩ = some (.bool gone) := c2 (X.here _ _)
      obtain ⟨g7, hg7⟩ : ∃ x, x = wr.heap.size := ⟨_, rfl⟩
      obtain ⟨w7, hw7⟩ : ∃ v, v = wr.alloc (.cells #[S key, S val, .bool gone] chT) := ⟨_, rfl⟩
      have x7 : Ext wr w7 := by rw [hw7]; exact (Only.refl No wr).alloc _
      have hC7 : Cs w7 g7 chT #[S key, S val, .bool gone] := by rw [hw7, hg7]; exact Cs.new _ _ _
      have X7 := Lib.hid (XX.out.then_ext x7)
      have p0 : w7.cell? ⟨g7, 0, none⟩ = some (S key) := hC7.cell 0
      have p1 : w7.cell? ⟨g7, 1, none⟩ = some (S val) := hC7.cell 1
      have p2 : w7.cell? ⟨g7, 2, none⟩ = some (.bool gone) := hC7.cell 2
      clear x7 hC7 c0 c1 c2 hx hbad
      go_upto_region 8 with fail
      rw [← hw7, ← hg7]
      clear hw7 hg7 c0' c1' c2'
      go_wp2_with (first | ((first | refine Mix.wpList_guarded rfl ?_ | refine Mix.wp_still (by kernel_rfl) (by kernel_rfl) ?_); (repeat' (first | (refine Mix.lex_quiet0 rfl rfl rfl ?_; intro K hK; go_big_quiet_op; go_big_quiet_on) | (refine Mix.lex_quietG rfl rfl rfl (by with_reducible rfl) rfl rfl ?_; intro K hK; go_big_quiet_op; go_big_quiet_on) | ((first | refine Mix.lex_skipT rfl rfl rfl (by with_reducible rfl) ?_ | refine Mix.lex_skipF rfl rfl rfl (by with_reducible rfl) ?_ | refine Mix.lex_skipU rfl rfl rfl (by with_reducible rfl) ?_); simp only [Act.put, List.setIfInBounds_toArray, List.set_cons_succ, List.set_cons_zero]) | (refine Mix.lex_part rfl rfl rfl rfl (fun hq => ?_) (fun hq => ?_) <;> (fail_if_success (guard_hyp hq :ₛ true = true)) <;> (fail_if_success (guard_hyp hq :ₛ false = false)) <;> first | (exfalso; cases hq; done) | (exfalso; simp only [decide_eq_true_eq, decide_eq_false_iff_not, beq_iff_eq, beq_eq_false_iff_ne, ne_eq, Int.not_lt, Int.not_le] at hq; omega) | simp only [Act.put, List.setIfInBounds_toArray, List.set_cons_succ, List.set_cons_zero]))); all_goals (refine Mix.lex_nil ?_)))
      refine (HCh.out _ X7.out).mono ?_
      rintro e u ⟨rfl, hu⟩
      have U := Lib.hid (X7.out.then_ext hu)
      clear hu HCh X7 p0 p1 p2
      by_cases hbz : bad = 0
      · subst hbz
        rw [errV_zero]
        go_wp2_with (first | ((first | refine Mix.wpList_guarded rfl ?_ | refine Mix.wp_still (by kernel_rfl) (by kernel_rfl) ?_); (repeat' (first | (refine Mix.lex_quiet0 rfl rfl rfl ?_; intro K hK; go_big_quiet_op; go_big_quiet_on) | (refine Mix.lex_quietG rfl rfl rfl (by with_reducible rfl) rfl rfl ?_; intro K hK; go_big_quiet_op; go_big_quiet_on) | ((first | refine Mix.lex_skipT rfl rfl rfl (by with_reducible rfl) ?_ | refine Mix.lex_skipF rfl rfl rfl (by with_reducible rfl) ?_ | refine Mix.lex_skipU rfl rfl rfl (by with_reducible rfl) ?_); simp only [Act.put, List.setIfInBounds_toArray, List.set_cons_succ, List.set_cons_zero]) | (refine Mix.lex_part rfl rfl rfl rfl (fun hq => ?_) (fun hq => ?_) <;> (fail_if_success (guard_hyp hq :ₛ true = true)) <;> (fail_if_success (guard_hyp hq :ₛ false = false)) <;> first | (exfalso; cases hq; done) | (exfalso; simp only [decide_eq_true_eq, decide_eq_false_iff_not, beq_iff_eq, beq_eq_false_iff_ne, ne_eq, Int.not_lt, Int.not_le] at hq; omega) | simp only [Act.put, List.setIfInBounds_toArray, List.set_cons_succ, List.set_cons_zero]))); all_goals (refine Mix.lex_nil ?_)))
        go_roundw
        case rel =>
          refine ⟨j + 1, by omega, by go_num, U.out, fun x hx => ?_⟩
          rw [List.take_add_one, HXc.out] at hx
          rcases List.mem_append.1 hx with h | h
          · exact HZ.out x h
          · have : x = (key, val, gone) := by simpa using h
            rw [this]; exact HBd.out.symm
        case measure => simp [intOf]; omega
      · rw [errV_pos hbz]
        have HCk : Hid (chkA c = bad) := by
          rw [Hid, chkA_drop c j HZ.out, drop_at HXc.out]
          show (if chBad (key, val, gone) = 0 then _ else chBad (key, val, gone)) = bad
          rw [← HBd.out, if_neg hbz]
        have HA3 : Hid (addF l c d = ((l, d), bad)) := by
          rw [Hid, HA2.out, HCk.out]
          exact if_pos hbz
        go_wp2_with (first | ((first | refine Mix.wpList_guarded rfl ?_ | refine Mix.wp_still (by kernel_rfl) (by kernel_rfl) ?_); (repeat' (first | (refine Mix.lex_quiet0 rfl rfl rfl ?_; intro K hK; go_big_quiet_op; go_big_quiet_on) | (refine Mix.lex_quietG rfl rfl rfl (by with_reducible rfl) rfl rfl ?_; intro K hK; go_big_quiet_op; go_big_quiet_on) | ((first | refine Mix.lex_skipT rfl rfl rfl (by with_reducible rfl) ?_ | refine Mix.lex_skipF rfl rfl rfl (by with_reducible rfl) ?_ | refine Mix.lex_skipU rfl rfl rfl (by with_reducible rfl) ?_); simp only [Act.put, List.setIfInBounds_toArray, List.set_cons_succ, List.set_cons_zero]) | (refine Mix.lex_part rfl rfl rfl rfl (fun hq => ?_) (fun hq => ?_) <;> (fail_if_success (guard_hyp hq :ₛ true = true)) <;> (fail_if_success (guard_hyp hq :ₛ false = false)) <;> first | (exfalso; cases hq; done) | (exfalso; simp only [decide_eq_true_eq, decide_eq_false_iff_not, beq_iff_eq, beq_eq_false_iff_ne, ne_eq, Int.not_lt, Int.not_le] at hq; omega) | simp only [Act.put, List.setIfInBounds_toArray, List.set_cons_succ, List.set_cons_zero]))); all_goals (refine Mix.lex_nil ?_)))
        go_ret
        rw [HA3.out]
        exact ⟨by rw [errV_pos hbz]; rfl, r, rfl, L3.out.ext U.out, Only.any (X3.out.then_ext U.out)⟩
    · obtain rfl : j = c.length := by omega
      have hz2 : ∀ x ∈ c, chBad x = 0 := by
        have := HZ.out
        rwa [List.take_of_length_le (Nat.le_refl _)] at this
      have HZ2 := Lib.hid hz2
      have HCk : Hid (chkA c = 0) := by
        rw [Hid, chkA_drop c c.length HZ.out, List.drop_of_length_le (Nat.le_refl _)]
        rfl
      have HA3 : Hid (addF l c d = if (layF l c d).2 ≠ 0 then ((l, (layF l c d).1), (layF l c d).2)
          else if (layF l c d).1.flF ≠ 0 then ((l, (layF l c d).1.fl), (layF l c d).1.flF)
          else if (closeF l c.length (layF l c d).1.fl).2 ≠ 0 then ((l, (closeF l c.length (layF l c d).1.fl).1), (closeF l c.length (layF l c d).1.fl).2)
          else if (closeF l c.length (layF l c d).1.fl).1.flF ≠ 0 then ((l, (closeF l c.length (layF l c d).1.fl).1.fl), (closeF l c.length (layF l c d).1.fl).1.flF)
          else (({ l with next := l.next + c.length + 1 }, (closeF l c.length (layF l c d).1.fl).1.fl), 0)) := by
        rw [Hid, HA2.out, HCk.out]
        exact if_neg (fun h => h rfl)
      have Y2 := Lib.hid (C2.out.keep XX.out id)
      have Y3 := Lib.hid (C3.out.keep XX.out id)
      have LW := Lib.hid (L3.out.ext XX.out)
      have RW := Lib.hid (R3.out.ext XX.out)
      have MW := Lib.hid (M3.out.ext XX.out)
      have XW := Lib.hid (X3.out.then_ext XX.out)
      have h04 : Cov w0 wr := Cov.up h03 XX.out.size
      clear HZ hz2 HCk HA2 C2 C3 L3 R3 M3 X3 XX
      go_upto_region 12 with fail
      have Q2 : ∀ ξ : X wr No, ξ.v.cell? ⟨g2, 0, none⟩ = some (pt l.g) := Y2.out.x id 0
      have Q3 : ∀ ξ : X wr No, ξ.v.cell? ⟨g3, 0, none⟩ = some (.slice A c.length cap) := Y3.out.x id 0
      obtain ⟨P0, -, -, -, P4⟩ := LW.out.lg.x
      (refine Mix.wp_draw [7, 8] 100 (Cl (wr) (No)) (by kernel_rfl) (by kernel_rfl) (Cl.drew_ (X.here wr No)) ?_; (repeat' (first | (refine Mix.lex_quiet0 rfl rfl rfl ?_; intro K hK; go_big_quiet_op; go_big_quiet_on) | (refine Mix.lex_quietG rfl rfl rfl (by with_reducible rfl) rfl rfl ?_; intro K hK; go_big_quiet_op; go_big_quiet_on) | ((first | refine Mix.lex_skipT rfl rfl rfl (by with_reducible rfl) ?_ | refine Mix.lex_skipF rfl rfl rfl (by with_reducible rfl) ?_ | refine Mix.lex_skipU rfl rfl rfl (by with_reducible rfl) ?_); simp only [Act.put, List.setIfInBounds_toArray, List.set_cons_succ, List.set_cons_zero]) | (refine Mix.lex_part rfl rfl rfl rfl (fun hq => ?_) (fun hq => ?_) <;> (fail_if_success (guard_hyp hq :ₛ true = true)) <;> (fail_if_success (guard_hyp hq :ₛ false = false)) <;> first | (exfalso; cases hq; done) | (exfalso; simp only [decide_eq_true_eq, decide_eq_false_iff_not, beq_iff_eq, beq_eq_false_iff_ne, ne_eq, Int.not_lt, Int.not_le] at hq; omega) | simp only [Act.put, List.setIfInBounds_toArray, List.set_cons_succ, List.set_cons_zero]))))
      ((first | refine Mix.lex_goes0 rfl rfl ?_ | refine Mix.lex_goesG rfl rfl rfl (by with_reducible rfl) rfl ?_); intro K hK; go_simp)
      obtain ⟨w5, hw5⟩ : ∃ v, v = (wr.alloc (.cells #[.int .i64 0] bxI)).drew := ⟨_, rfl⟩
      obtain ⟨g8, hg8⟩ : ∃ x, x = wr.heap.size := ⟨_, rfl⟩
      have hC5 : Cs w5 g8 bxI #[.int .i64 0] := by rw [hw5, hg8]; exact Cs.new _ _ _
      have x5 : Ext wr w5 := by rw [hw5]; exact ((Only.refl No wr).alloc _).drew
      have hg8s : wr.heap.size ≤ g8 := by rw [hg8]; exact Nat.le_refl _
      rw [← hw5, ← hg8]
      refine hK _ _ (fun _ => Cl.of x5) ?_
      clear hK K hw5 hg8
      simp only [Act.put, List.setIfInBounds_toArray, List.set_cons_succ, List.set_cons_zero]
      have z5 := hC5.frozen 0
      have y5 : w5.cell? ⟨g8, 0, none⟩ = some (.int .i64 0) := hC5.cell 0
      (repeat' (first | (refine Mix.lex_quiet0 rfl rfl rfl ?_; intro K hK; go_big_quiet_op; go_big_quiet_on) | (refine Mix.lex_quietG rfl rfl rfl (by with_reducible rfl) rfl rfl ?_; intro K hK; go_big_quiet_op; go_big_quiet_on) | ((first | refine Mix.lex_skipT rfl rfl rfl (by with_reducible rfl) ?_ | refine Mix.lex_skipF rfl rfl rfl (by with_reducible rfl) ?_ | refine Mix.lex_skipU rfl rfl rfl (by with_reducible rfl) ?_); simp only [Act.put, List.setIfInBounds_toArray, List.set_cons_succ, List.set_cons_zero]) | (refine Mix.lex_part rfl rfl rfl rfl (fun hq => ?_) (fun hq => ?_) <;> (fail_if_success (guard_hyp hq :ₛ true = true)) <;> (fail_if_success (guard_hyp hq :ₛ false = false)) <;> first | (exfalso; cases hq; done) | (exfalso; simp only [decide_eq_true_eq, decide_eq_false_iff_not, beq_iff_eq, beq_eq_false_iff_ne, ne_eq, Int.not_lt, Int.not_le] at hq; omega) | simp only [Act.put, List.setIfInBounds_toArray, List.set_cons_succ, List.set_cons_zero])))
      ((first | refine Mix.lex_goes0 rfl rfl ?_ | refine Mix.lex_goesG rfl rfl rfl (by with_reducible rfl) rfl ?_); intro K hK; go_simp)
      obtain ⟨w6, hw6⟩ : ∃ v, v = w5.setCell ⟨g8, 0, none⟩ (.int .i64 ((l.next : Int) + (c.length : Int))) := ⟨_, rfl⟩
      rw [← hw6]
      have hC6 : Cs w6 g8 bxI #[.int .i64 (l.next + c.length : Nat)] := by
        have := hC5.set_ 0 (.int .i64 ((l.next : Int) + (c.length : Int)))
        rw [← hw6] at this
        exact this
      have x6 : Ext wr w6 := x5.trans (show Only (fun b => b = g8) w5 w6 by rw [hw6]; exact (Only.refl _ _).at_ _ _) fun b hb e => by have e : b = g8 := e; omega
      refine hK _ _ (fun _ => Cl.of x6) ?_
      clear hK K hw6 z5 y5 Q2 Q3 P0 P4
      simp only [Act.put, List.setIfInBounds_toArray, List.set_cons_succ, List.set_cons_zero]
      refine Mix.lex_nil ?_
      have Z8 := Lib.hid hC6
      have Z2 := Lib.hid (Y2.out.keep x6 id)
      have Z3 := Lib.hid (Y3.out.keep x6 id)
      have LV := Lib.hid (LW.out.ext x6)
      have RV := Lib.hid (RW.out.ext x6)
      have MV := Lib.hid (MW.out.ext x6)
      have XV := Lib.hid (XW.out.then_ext x6)
      have h05 : Cov w0 w6 := Cov.up h04 x6.size
      have Q2 : ∀ ξ : X w6 No, ξ.v.cell? ⟨g2, 0, none⟩ = some (pt l.g) := Z2.out.x id 0
      obtain ⟨P0, -, -, -, -⟩ := LV.out.lg.x
      clear hC6 hC5 x5 x6 Y2 Y3 LW RW MW XW h04 hg8s
      go_upto_region 13 with fail
      (refine Mix.wp_draw [12] 100 (Cl (w6) (No)) (by kernel_rfl) (by kernel_rfl) (Cl.drew_ (X.here w6 No)) ?_; (repeat' (first | (refine Mix.lex_quiet0 rfl rfl rfl ?_; intro K hK; go_big_quiet_op; go_big_quiet_on) | (refine Mix.lex_quietG rfl rfl rfl (by with_reducible rfl) rfl rfl ?_; intro K hK; go_big_quiet_op; go_big_quiet_on) | ((first | refine Mix.lex_skipT rfl rfl rfl (by with_reducible rfl) ?_ | refine Mix.lex_skipF rfl rfl rfl (by with_reducible rfl) ?_ | refine Mix.lex_skipU rfl rfl rfl (by with_reducible rfl) ?_); simp only [Act.put, List.setIfInBounds_toArray, List.set_cons_succ, List.set_cons_zero]) | (refine Mix.lex_part rfl rfl rfl rfl (fun hq => ?_) (fun hq => ?_) <;> (fail_if_success (guard_hyp hq :ₛ true = true)) <;> (fail_if_success (guard_hyp hq :ₛ false = false)) <;> first | (exfalso; cases hq; done) | (exfalso; simp only [decide_eq_true_eq, decide_eq_false_iff_not, beq_iff_eq, beq_eq_false_iff_ne, ne_eq, Int.not_lt, Int.not_le] at hq; omega) | simp only [Act.put, List.setIfInBounds_toArray, List.set_cons_succ, List.set_cons_zero]))))
      ((first | refine Mix.lex_goes0 rfl rfl ?_ | refine Mix.lex_goesG rfl rfl rfl (by with_reducible rfl) rfl ?_); intro K hK; go_simp)
      obtain ⟨gA, hgA⟩ : ∃ x, x = w6.heap.size := ⟨_, rfl⟩
      obtain ⟨w7, hw7⟩ : ∃ v, v = (w6.alloc (.cells (fn4 g2 g3 g8 r.g) fnT)).drew := ⟨_, rfl⟩
      have x7 : Ext w6 w7 := by rw [hw7]; exact ((Only.refl No w6).alloc _).drew
      have hC7 : Cs w7 gA fnT (fn4 g2 g3 g8 r.g) := by rw [hw7, hgA]; exact Cs.new _ _ _
      rw [← hw7, ← hgA]
      refine hK _ _ (fun _ => Cl.of x7) ?_
      clear hK K hw7 hgA Q2 P0
      simp only [Act.put, List.setIfInBounds_toArray, List.set_cons_succ, List.set_cons_zero]
      (repeat' (first | (refine Mix.lex_quiet0 rfl rfl rfl ?_; intro K hK; go_big_quiet_op; go_big_quiet_on) | (refine Mix.lex_quietG rfl rfl rfl (by with_reducible rfl) rfl rfl ?_; intro K hK; go_big_quiet_op; go_big_quiet_on) | ((first | refine Mix.lex_skipT rfl rfl rfl (by with_reducible rfl) ?_ | refine Mix.lex_skipF rfl rfl rfl (by with_reducible rfl) ?_ | refine Mix.lex_skipU rfl rfl rfl (by with_reducible rfl) ?_); simp only [Act.put, List.setIfInBounds_toArray, List.set_cons_succ, List.set_cons_zero]) | (refine Mix.lex_part rfl rfl rfl rfl (fun hq => ?_) (fun hq => ?_) <;> (fail_if_success (guard_hyp hq :ₛ true = true)) <;> (fail_if_success (guard_hyp hq :ₛ false = false)) <;> first | (exfalso; cases hq; done) | (exfalso; simp only [decide_eq_true_eq, decide_eq_false_iff_not, beq_iff_eq, beq_eq_false_iff_ne, ne_eq, Int.not_lt, Int.not_le] at hq; omega) | simp only [Act.put, List.setIfInBounds_toArray, List.set_cons_succ, List.set_cons_zero])))
      refine Mix.lex_nil ?_
      have ST : Hid (ASt w0 w w7 r r.g l d g2 g3 g8 gA A cap c) := ⟨rfl, LV.out.ext x7, Only.any (XV.out.then_ext x7), Z2.out.keep x7 id, Z3.out.keep x7 id, Z8.out.keep x7 id, hC7, RV.out.ext x7, MV.out.ext x7, Cov.up h05 x7.size⟩
      clear x7 hC7 LV XV Z2 Z3 Z8 RV MV h05
      go_wp2_with (first | ((first | refine Mix.wpList_guarded rfl ?_ | refine Mix.wp_still (by kernel_rfl) (by kernel_rfl) ?_); (repeat' (first | (refine Mix.lex_quiet0 rfl rfl rfl ?_; intro K hK; go_big_quiet_op; go_big_quiet_on) | (refine Mix.lex_quietG rfl rfl rfl (by with_reducible rfl) rfl rfl ?_; intro K hK; go_big_quiet_op; go_big_quiet_on) | ((first | refine Mix.lex_skipT rfl rfl rfl (by with_reducible rfl) ?_ | refine Mix.lex_skipF rfl rfl rfl (by with_reducible rfl) ?_ | refine Mix.lex_skipU rfl rfl rfl (by with_reducible rfl) ?_); simp only [Act.put, List.setIfInBounds_toArray, List.set_cons_succ, List.set_cons_zero]) | (refine Mix.lex_part rfl rfl rfl rfl (fun hq => ?_) (fun hq => ?_) <;> (fail_if_success (guard_hyp hq :ₛ true = true)) <;> (fail_if_success (guard_hyp hq :ₛ false = false)) <;> first | (exfalso; cases hq; done) | (exfalso; simp only [decide_eq_true_eq, decide_eq_false_iff_not, beq_iff_eq, beq_eq_false_iff_ne, ne_eq, Int.not_lt, Int.not_le] at hq; omega) | simp only [Act.put, List.setIfInBounds_toArray, List.set_cons_succ, List.set_cons_zero]))); all_goals (refine Mix.lex_nil ?_)))
      go_loopw [56] (fun i wr => ∃ j : Nat, j ≤ 4 ∧ i = .int .i64 j ∧ (∀ k, k ≤ j → (stA l c d k).2 = 0) ∧ ∃ r', ASt w0 w wr r' r.g l (stA l c d j).1 g2 g3 g8 gA A cap c) (fun i _ => 4 - (intOf i).toNat)
      case atStart =>
        refine ⟨0, by omega, rfl, fun k hk => ?_, r, ST.out⟩
        have e : k = 0 := Nat.le_zero.1 hk
        rw [e]
        rfl
      case round =>
        obtain ⟨j, hj, rfl, hz, r', hs⟩ := hrel
        have HS := Lib.hid hs
        have HZ := Lib.hid hz
        clear hs hz ST
        have hlw := layF_wait l c d
        have hfw := fl_wait' (layF l c d).1
        have hc40 : c.length ≤ 40 := by omega
        rcases (by omega : j = 0 ∨ j = 1 ∨ j = 2 ∨ j = 3 ∨ j = 4) with rfl | rfl | rfl | rfl | rfl
        · have HC := Lib.hid (Add1_c (d := d) (cap := cap) HM0.out HS.out.ml HS.out.lw HS.out.sz HS.out.rb (fun x hx => ⟨HZ2.out x hx, HB.out x hx⟩) (by omega) hw ⟨hl1, hl2, by omega, hl4⟩ HS.out.c2 HS.out.c3)
          have c4 : wr.cell? ⟨gA, 0, none⟩ = some (.func (.func 62) #[] #[pt g2, pt g3]) := HS.out.cA.cell 0
          go_wp2_with (first | ((first | refine Mix.wpList_guarded rfl ?_ | refine Mix.wp_still (by kernel_rfl) (by kernel_rfl) ?_); (repeat' (first | (refine Mix.lex_quiet0 rfl rfl rfl ?_; intro K hK; go_big_quiet_op; go_big_quiet_on) | (refine Mix.lex_quietG rfl rfl rfl (by with_reducible rfl) rfl rfl ?_; intro K hK; go_big_quiet_op; go_big_quiet_on) | ((first | refine Mix.lex_skipT rfl rfl rfl (by with_reducible rfl) ?_ | refine Mix.lex_skipF rfl rfl rfl (by with_reducible rfl) ?_ | refine Mix.lex_skipU rfl rfl rfl (by with_reducible rfl) ?_); simp only [Act.put, List.setIfInBounds_toArray, List.set_cons_succ, List.set_cons_zero]) | (refine Mix.lex_part rfl rfl rfl rfl (fun hq => ?_) (fun hq => ?_) <;> (fail_if_success (guard_hyp hq :ₛ true = true)) <;> (fail_if_success (guard_hyp hq :ₛ false = false)) <;> first | (exfalso; cases hq; done) | (exfalso; simp only [decide_eq_true_eq, decide_eq_false_iff_not, beq_iff_eq, beq_eq_false_iff_ne, ne_eq, Int.not_lt, Int.not_le] at hq; omega) | simp only [Act.put, List.setIfInBounds_toArray, List.set_cons_succ, List.set_cons_zero]))); all_goals (refine Mix.lex_nil ?_)))
          refine HC.out.mono ?_
          rintro e u hr
          obtain ⟨rfl, r3, hg3, hl3, hx3⟩ := (show e = .returned (errV (layF l c d).2) ∧ ∃ r3 : DkR, r3.g = r'.g ∧ LgW w0 u r3 l (layF l c d).1 ∧ Only (Frn w0 wr) wr u from ⟨hr.1, hr.2.choose, hr.2.choose_spec.1, hr.2.choose_spec.2.1, hr.2.choose_spec.2.2.1⟩)
          have S3 := Lib.hid (HS.out.step HM0.out hg3 hl3 hx3)
          clear hr hg3 hl3 hx3 HC c4
          by_cases hf : (layF l c d).2 = 0
          · rw [hf, errV_zero]
            have HZ2 : Hid (∀ k, k ≤ 1 → (stA l c d k).2 = 0) := fun k hk => by
              by_cases e : k = 1
              · rw [e]; exact hf
              · exact HZ.out k (by omega)
            go_wp2_with (first | ((first | refine Mix.wpList_guarded rfl ?_ | refine Mix.wp_still (by kernel_rfl) (by kernel_rfl) ?_); (repeat' (first | (refine Mix.lex_quiet0 rfl rfl rfl ?_; intro K hK; go_big_quiet_op; go_big_quiet_on) | (refine Mix.lex_quietG rfl rfl rfl (by with_reducible rfl) rfl rfl ?_; intro K hK; go_big_quiet_op; go_big_quiet_on) | ((first | refine Mix.lex_skipT rfl rfl rfl (by with_reducible rfl) ?_ | refine Mix.lex_skipF rfl rfl rfl (by with_reducible rfl) ?_ | refine Mix.lex_skipU rfl rfl rfl (by with_reducible rfl) ?_); simp only [Act.put, List.setIfInBounds_toArray, List.set_cons_succ, List.set_cons_zero]) | (refine Mix.lex_part rfl rfl rfl rfl (fun hq => ?_) (fun hq => ?_) <;> (fail_if_success (guard_hyp hq :ₛ true = true)) <;> (fail_if_success (guard_hyp hq :ₛ false = false)) <;> first | (exfalso; cases hq; done) | (exfalso; simp only [decide_eq_true_eq, decide_eq_false_iff_not, beq_iff_eq, beq_eq_false_iff_ne, ne_eq, Int.not_lt, Int.not_le] at hq; omega) | simp only [Act.put, List.setIfInBounds_toArray, List.set_cons_succ, List.set_cons_zero]))); all_goals (refine Mix.lex_nil ?_)))
            go_roundw
            case rel => exact ⟨1, by omega, by go_num, HZ2.out, r3, S3.out⟩
            case measure => simp [intOf]
          · have HE := Lib.hid (errV_pos hf)
            have HA4 : Hid (addF l c d = ((l, (stA l c d 1).1), (stA l c d 1).2)) := by
              rw [Hid, HA3.out]

              exact if_pos hf
            rw [HE.out]
            go_wp2_with (first | ((first | refine Mix.wpList_guarded rfl ?_ | refine Mix.wp_still (by kernel_rfl) (by kernel_rfl) ?_); (repeat' (first | (refine Mix.lex_quiet0 rfl rfl rfl ?_; intro K hK; go_big_quiet_op; go_big_quiet_on) | (refine Mix.lex_quietG rfl rfl rfl (by with_reducible rfl) rfl rfl ?_; intro K hK; go_big_quiet_op; go_big_quiet_on) | ((first | refine Mix.lex_skipT rfl rfl rfl (by with_reducible rfl) ?_ | refine Mix.lex_skipF rfl rfl rfl (by with_reducible rfl) ?_ | refine Mix.lex_skipU rfl rfl rfl (by with_reducible rfl) ?_); simp only [Act.put, List.setIfInBounds_toArray, List.set_cons_succ, List.set_cons_zero]) | (refine Mix.lex_part rfl rfl rfl rfl (fun hq => ?_) (fun hq => ?_) <;> (fail_if_success (guard_hyp hq :ₛ true = true)) <;> (fail_if_success (guard_hyp hq :ₛ false = false)) <;> first | (exfalso; cases hq; done) | (exfalso; simp only [decide_eq_true_eq, decide_eq_false_iff_not, beq_iff_eq, beq_eq_false_iff_ne, ne_eq, Int.not_lt, Int.not_le] at hq; omega) | simp only [Act.put, List.setIfInBounds_toArray, List.set_cons_succ, List.set_cons_zero]))); all_goals (refine Mix.lex_nil ?_)))
            go_ret
            rw [HA4.out]
            exact ⟨by show _ = Ending.returned (errV ((layF l c d).2)); rw [HE.out]; rfl, r3, S3.out.hrg, S3.out.lw, S3.out.o⟩
        · have HC := Lib.hid (by have := Flush_all HS.out.lw.dk; rw [HS.out.hrg] at this; exact this)
          have c4 : wr.cell? ⟨gA, 1, none⟩ = some (.func (.func 37) #[pt r.g] #[]) := HS.out.cA.cell 1
          go_wp2_with (first | ((first | refine Mix.wpList_guarded rfl ?_ | refine Mix.wp_still (by kernel_rfl) (by kernel_rfl) ?_); (repeat' (first | (refine Mix.lex_quiet0 rfl rfl rfl ?_; intro K hK; go_big_quiet_op; go_big_quiet_on) | (refine Mix.lex_quietG rfl rfl rfl (by with_reducible rfl) rfl rfl ?_; intro K hK; go_big_quiet_op; go_big_quiet_on) | ((first | refine Mix.lex_skipT rfl rfl rfl (by with_reducible rfl) ?_ | refine Mix.lex_skipF rfl rfl rfl (by with_reducible rfl) ?_ | refine Mix.lex_skipU rfl rfl rfl (by with_reducible rfl) ?_); simp only [Act.put, List.setIfInBounds_toArray, List.set_cons_succ, List.set_cons_zero]) | (refine Mix.lex_part rfl rfl rfl rfl (fun hq => ?_) (fun hq => ?_) <;> (fail_if_success (guard_hyp hq :ₛ true = true)) <;> (fail_if_success (guard_hyp hq :ₛ false = false)) <;> first | (exfalso; cases hq; done) | (exfalso; simp only [decide_eq_true_eq, decide_eq_false_iff_not, beq_iff_eq, beq_eq_false_iff_ne, ne_eq, Int.not_lt, Int.not_le] at hq; omega) | simp only [Act.put, List.setIfInBounds_toArray, List.set_cons_succ, List.set_cons_zero]))); all_goals (refine Mix.lex_nil ?_)))
          refine HC.out.mono ?_
          rintro e u hr
          obtain ⟨rfl, r3, hg3, hl3, hx3⟩ := (show e = .returned (errV (layF l c d).1.flF) ∧ ∃ r3 : DkR, r3.g = r'.g ∧ LgW w0 u r3 l (layF l c d).1.fl ∧ Only (Frn w0 wr) wr u from by obtain ⟨h1, r3, h2, h3, h4, -⟩ := HS.out.lw.dkr HS.out.sz hr; exact ⟨h1, r3, h2, h3, h4⟩)
          have S3 := Lib.hid (HS.out.step HM0.out hg3 hl3 hx3)
          clear hr hg3 hl3 hx3 HC c4
          by_cases hf : (layF l c d).1.flF = 0
          · rw [hf, errV_zero]
            have HZ2 : Hid (∀ k, k ≤ 2 → (stA l c d k).2 = 0) := fun k hk => by
              by_cases e : k = 2
              · rw [e]; exact hf
              · exact HZ.out k (by omega)
            go_wp2_with (first | ((first | refine Mix.wpList_guarded rfl ?_ | refine Mix.wp_still (by kernel_rfl) (by kernel_rfl) ?_); (repeat' (first | (refine Mix.lex_quiet0 rfl rfl rfl ?_; intro K hK; go_big_quiet_op; go_big_quiet_on) | (refine Mix.lex_quietG rfl rfl rfl (by with_reducible rfl) rfl rfl ?_; intro K hK; go_big_quiet_op; go_big_quiet_on) | ((first | refine Mix.lex_skipT rfl rfl rfl (by with_reducible rfl) ?_ | refine Mix.lex_skipF rfl rfl rfl (by with_reducible rfl) ?_ | refine Mix.lex_skipU rfl rfl rfl (by with_reducible rfl) ?_); simp only [Act.put, List.setIfInBounds_toArray, List.set_cons_succ, List.set_cons_zero]) | (refine Mix.lex_part rfl rfl rfl rfl (fun hq => ?_) (fun hq => ?_) <;> (fail_if_success (guard_hyp hq :ₛ true = true)) <;> (fail_if_success (guard_hyp hq :ₛ false = false)) <;> first | (exfalso; cases hq; done) | (exfalso; simp only [decide_eq_true_eq, decide_eq_false_iff_not, beq_iff_eq, beq_eq_false_iff_ne, ne_eq, Int.not_lt, Int.not_le] at hq; omega) | simp only [Act.put, List.setIfInBounds_toArray, List.set_cons_succ, List.set_cons_zero]))); all_goals (refine Mix.lex_nil ?_)))
            go_roundw
            case rel => exact ⟨2, by omega, by go_num, HZ2.out, r3, S3.out⟩
            case measure => simp [intOf]
          · have HE := Lib.hid (errV_pos hf)
            have HA4 : Hid (addF l c d = ((l, (stA l c d 2).1), (stA l c d 2).2)) := by
              rw [Hid, HA3.out]
              rw [if_neg (fun h => h (show (layF l c d).2 = 0 from HZ.out 1 (by omega)))]
              exact if_pos hf
            rw [HE.out]
            go_wp2_with (first | ((first | refine Mix.wpList_guarded rfl ?_ | refine Mix.wp_still (by kernel_rfl) (by kernel_rfl) ?_); (repeat' (first | (refine Mix.lex_quiet0 rfl rfl rfl ?_; intro K hK; go_big_quiet_op; go_big_quiet_on) | (refine Mix.lex_quietG rfl rfl rfl (by with_reducible rfl) rfl rfl ?_; intro K hK; go_big_quiet_op; go_big_quiet_on) | ((first | refine Mix.lex_skipT rfl rfl rfl (by with_reducible rfl) ?_ | refine Mix.lex_skipF rfl rfl rfl (by with_reducible rfl) ?_ | refine Mix.lex_skipU rfl rfl rfl (by with_reducible rfl) ?_); simp only [Act.put, List.setIfInBounds_toArray, List.set_cons_succ, List.set_cons_zero]) | (refine Mix.lex_part rfl rfl rfl rfl (fun hq => ?_) (fun hq => ?_) <;> (fail_if_success (guard_hyp hq :ₛ true = true)) <;> (fail_if_success (guard_hyp hq :ₛ false = false)) <;> first | (exfalso; cases hq; done) | (exfalso; simp only [decide_eq_true_eq, decide_eq_false_iff_not, beq_iff_eq, beq_eq_false_iff_ne, ne_eq, Int.not_lt, Int.not_le] at hq; omega) | simp only [Act.put, List.setIfInBounds_toArray, List.set_cons_succ, List.set_cons_zero]))); all_goals (refine Mix.lex_nil ?_)))
            go_ret
            rw [HA4.out]
            exact ⟨by show _ = Ending.returned (errV ((layF l c d).1.flF)); rw [HE.out]; rfl, r3, S3.out.hrg, S3.out.lw, S3.out.o⟩
        · have HC := Lib.hid (Add2_c (d := (layF l c d).1.fl) (n := c.length) HS.out.lw HS.out.sz (by omega) (by omega) ⟨hl1, hl2, by omega, hl4⟩ HS.out.c2 HS.out.c8 HS.out.c3)
          have c4 : wr.cell? ⟨gA, 2, none⟩ = some (.func (.func 64) #[] #[pt g2, pt g8, pt g3]) := HS.out.cA.cell 2
          go_wp2_with (first | ((first | refine Mix.wpList_guarded rfl ?_ | refine Mix.wp_still (by kernel_rfl) (by kernel_rfl) ?_); (repeat' (first | (refine Mix.lex_quiet0 rfl rfl rfl ?_; intro K hK; go_big_quiet_op; go_big_quiet_on) | (refine Mix.lex_quietG rfl rfl rfl (by with_reducible rfl) rfl rfl ?_; intro K hK; go_big_quiet_op; go_big_quiet_on) | ((first | refine Mix.lex_skipT rfl rfl rfl (by with_reducible rfl) ?_ | refine Mix.lex_skipF rfl rfl rfl (by with_reducible rfl) ?_ | refine Mix.lex_skipU rfl rfl rfl (by with_reducible rfl) ?_); simp only [Act.put, List.setIfInBounds_toArray, List.set_cons_succ, List.set_cons_zero]) | (refine Mix.lex_part rfl rfl rfl rfl (fun hq => ?_) (fun hq => ?_) <;> (fail_if_success (guard_hyp hq :ₛ true = true)) <;> (fail_if_success (guard_hyp hq :ₛ false = false)) <;> first | (exfalso; cases hq; done) | (exfalso; simp only [decide_eq_true_eq, decide_eq_false_iff_not, beq_iff_eq, beq_eq_false_iff_ne, ne_eq, Int.not_lt, Int.not_le] at hq; omega) | simp only [Act.put, List.setIfInBounds_toArray, List.set_cons_succ, List.set_cons_zero]))); all_goals (refine Mix.lex_nil ?_)))
          refine HC.out.mono ?_
          rintro e u hr
          obtain ⟨rfl, r3, hg3, hl3, hx3⟩ := (show e = .returned (errV (closeF l c.length (layF l c d).1.fl).2) ∧ ∃ r3 : DkR, r3.g = r'.g ∧ LgW w0 u r3 l (closeF l c.length (layF l c d).1.fl).1 ∧ Only (Frn w0 wr) wr u from ⟨hr.1, hr.2.choose, hr.2.choose_spec.1, hr.2.choose_spec.2.1, hr.2.choose_spec.2.2.1⟩)
          have S3 := Lib.hid (HS.out.step HM0.out hg3 hl3 hx3)
          clear hr hg3 hl3 hx3 HC c4
          by_cases hf : (closeF l c.length (layF l c d).1.fl).2 = 0
          · rw [hf, errV_zero]
            have HZ2 : Hid (∀ k, k ≤ 3 → (stA l c d k).2 = 0) := fun k hk => by
              by_cases e : k = 3
              · rw [e]; exact hf
              · exact HZ.out k (by omega)
            go_wp2_with (first | ((first | refine Mix.wpList_guarded rfl ?_ | refine Mix.wp_still (by kernel_rfl) (by kernel_rfl) ?_); (repeat' (first | (refine Mix.lex_quiet0 rfl rfl rfl ?_; intro K hK; go_big_quiet_op; go_big_quiet_on) | (refine Mix.lex_quietG rfl rfl rfl (by with_reducible rfl) rfl rfl ?_; intro K hK; go_big_quiet_op; go_big_quiet_on) | ((first | refine Mix.lex_skipT rfl rfl rfl (by with_reducible rfl) ?_ | refine Mix.lex_skipF rfl rfl rfl (by with_reducible rfl) ?_ | refine Mix.lex_skipU rfl rfl rfl (by with_reducible rfl) ?_); simp only [Act.put, List.setIfInBounds_toArray, List.set_cons_succ, List.set_cons_zero]) | (refine Mix.lex_part rfl rfl rfl rfl (fun hq => ?_) (fun hq => ?_) <;> (fail_if_success (guard_hyp hq :ₛ true = true)) <;> (fail_if_success (guard_hyp hq :ₛ false = false)) <;> first | (exfalso; cases hq; done) | (exfalso; simp only [decide_eq_true_eq, decide_eq_false_iff_not, beq_iff_eq, beq_eq_false_iff_ne, ne_eq, Int.not_lt, Int.not_le] at hq; omega) | simp only [Act.put, List.setIfInBounds_toArray, List.set_cons_succ, List.set_cons_zero]))); all_goals (refine Mix.lex_nil ?_)))
            go_roundw
            case rel => exact ⟨3, by omega, by go_num, HZ2.out, r3, S3.out⟩
            case measure => simp [intOf]
          · have HE := Lib.hid (errV_pos hf)
            have HA4 : Hid (addF l c d = ((l, (stA l c d 3).1), (stA l c d 3).2)) := by
              rw [Hid, HA3.out]
              rw [if_neg (fun h => h (show (layF l c d).2 = 0 from HZ.out 1 (by omega)))]
              rw [if_neg (fun h => h (show (layF l c d).1.flF = 0 from HZ.out 2 (by omega)))]
              exact if_pos hf
            rw [HE.out]
            go_wp2_with (first | ((first | refine Mix.wpList_guarded rfl ?_ | refine Mix.wp_still (by kernel_rfl) (by kernel_rfl) ?_); (repeat' (first | (refine Mix.lex_quiet0 rfl rfl rfl ?_; intro K hK; go_big_quiet_op; go_big_quiet_on) | (refine Mix.lex_quietG rfl rfl rfl (by with_reducible rfl) rfl rfl ?_; intro K hK; go_big_quiet_op; go_big_quiet_on) | ((first | refine Mix.lex_skipT rfl rfl rfl (by with_reducible rfl) ?_ | refine Mix.lex_skipF rfl rfl rfl (by with_reducible rfl) ?_ | refine Mix.lex_skipU rfl rfl rfl (by with_reducible rfl) ?_); simp only [Act.put, List.setIfInBounds_toArray, List.set_cons_succ, List.set_cons_zero]) | (refine Mix.lex_part rfl rfl rfl rfl (fun hq => ?_) (fun hq => ?_) <;> (fail_if_success (guard_hyp hq :ₛ true = true)) <;> (fail_if_success (guard_hyp hq :ₛ false = false)) <;> first | (exfalso; cases hq; done) | (exfalso; simp only [decide_eq_true_eq, decide_eq_false_iff_not, beq_iff_eq, beq_eq_false_iff_ne, ne_eq, Int.not_lt, Int.not_le] at hq; omega) | simp only [Act.put, List.setIfInBounds_toArray, List.set_cons_succ, List.set_cons_zero]))); all_goals (refine Mix.lex_nil ?_)))
            go_ret
            rw [HA4.out]
            exact ⟨by show _ = Ending.returned (errV ((closeF l c.length (layF l c d).1.fl).2)); rw [HE.out]; rfl, r3, S3.out.hrg, S3.out.lw, S3.out.o⟩
        · have HC := Lib.hid (by have := Flush_all HS.out.lw.dk; rw [HS.out.hrg] at this; exact this)
          have c4 : wr.cell? ⟨gA, 3, none⟩ = some (.func (.func 37) #[pt r.g] #[]) := HS.out.cA.cell 3
          go_wp2_with (first | ((first | refine Mix.wpList_guarded rfl ?_ | refine Mix.wp_still (by kernel_rfl) (by kernel_rfl) ?_); (repeat' (first | (refine Mix.lex_quiet0 rfl rfl rfl ?_; intro K hK; go_big_quiet_op; go_big_quiet_on) | (refine Mix.lex_quietG rfl rfl rfl (by with_reducible rfl) rfl rfl ?_; intro K hK; go_big_quiet_op; go_big_quiet_on) | ((first | refine Mix.lex_skipT rfl rfl rfl (by with_reducible rfl) ?_ | refine Mix.lex_skipF rfl rfl rfl (by with_reducible rfl) ?_ | refine Mix.lex_skipU rfl rfl rfl (by with_reducible rfl) ?_); simp only [Act.put, List.setIfInBounds_toArray, List.set_cons_succ, List.set_cons_zero]) | (refine Mix.lex_part rfl rfl rfl rfl (fun hq => ?_) (fun hq => ?_) <;> (fail_if_success (guard_hyp hq :ₛ true = true)) <;> (fail_if_success (guard_hyp hq :ₛ false = false)) <;> first | (exfalso; cases hq; done) | (exfalso; simp only [decide_eq_true_eq, decide_eq_false_iff_not, beq_iff_eq, beq_eq_false_iff_ne, ne_eq, Int.not_lt, Int.not_le] at hq; omega) | simp only [Act.put, List.setIfInBounds_toArray, List.set_cons_succ, List.set_cons_zero]))); all_goals (refine Mix.lex_nil ?_)))
          refine HC.out.mono ?_
          rintro e u hr
          obtain ⟨rfl, r3, hg3, hl3, hx3⟩ := (show e = .returned (errV (closeF l c.length (layF l c d).1.fl).1.flF) ∧ ∃ r3 : DkR, r3.g = r'.g ∧ LgW w0 u r3 l (closeF l c.length (layF l c d).1.fl).1.fl ∧ Only (Frn w0 wr) wr u from by obtain ⟨h1, r3, h2, h3, h4, -⟩ := HS.out.lw.dkr HS.out.sz hr; exact ⟨h1, r3, h2, h3, h4⟩)
          have S3 := Lib.hid (HS.out.step HM0.out hg3 hl3 hx3)
          clear hr hg3 hl3 hx3 HC c4
          by_cases hf : (closeF l c.length (layF l c d).1.fl).1.flF = 0
          · rw [hf, errV_zero]
            have HZ2 : Hid (∀ k, k ≤ 4 → (stA l c d k).2 = 0) := fun k hk => by
              by_cases e : k = 4
              · rw [e]; exact hf
              · exact HZ.out k (by omega)
            go_wp2_with (first | ((first | refine Mix.wpList_guarded rfl ?_ | refine Mix.wp_still (by kernel_rfl) (by kernel_rfl) ?_); (repeat' (first | (refine Mix.lex_quiet0 rfl rfl rfl ?_; intro K hK; go_big_quiet_op; go_big_quiet_on) | (refine Mix.lex_quietG rfl rfl rfl (by with_reducible rfl) rfl rfl ?_; intro K hK; go_big_quiet_op; go_big_quiet_on) | ((first | refine Mix.lex_skipT rfl rfl rfl (by with_reducible rfl) ?_ | refine Mix.lex_skipF rfl rfl rfl (by with_reducible rfl) ?_ | refine Mix.lex_skipU rfl rfl rfl (by with_reducible rfl) ?_); simp only [Act.put, List.setIfInBounds_toArray, List.set_cons_succ, List.set_cons_zero]) | (refine Mix.lex_part rfl rfl rfl rfl (fun hq => ?_) (fun hq => ?_) <;> (fail_if_success (guard_hyp hq :ₛ true = true)) <;> (fail_if_success (guard_hyp hq :ₛ false = false)) <;> first | (exfalso; cases hq; done) | (exfalso; simp only [decide_eq_true_eq, decide_eq_false_iff_not, beq_iff_eq, beq_eq_false_iff_ne, ne_eq, Int.not_lt, Int.not_le] at hq; omega) | simp only [Act.put, List.setIfInBounds_toArray, List.set_cons_succ, List.set_cons_zero]))); all_goals (refine Mix.lex_nil ?_)))
            go_roundw
            case rel => exact ⟨4, by omega, by go_num, HZ2.out, r3, S3.out⟩
            case measure => simp [intOf]
          · have HE := Lib.hid (errV_pos hf)
            have HA4 : Hid (addF l c d = ((l, (stA l c d 4).1), (stA l c d 4).2)) := by
              rw [Hid, HA3.out]
              rw [if_neg (fun h => h (show (layF l c d).2 = 0 from HZ.out 1 (by omega)))]
              rw [if_neg (fun h => h (show (layF l c d).1.flF = 0 from HZ.out 2 (by omega)))]
              rw [if_neg (fun h => h (show (closeF l c.length (layF l c d).1.fl).2 = 0 from HZ.out 3 (by omega)))]
              exact if_pos hf
            rw [HE.out]
            go_wp2_with (first | ((first | refine Mix.wpList_guarded rfl ?_ | refine Mix.wp_still (by kernel_rfl) (by kernel_rfl) ?_); (repeat' (first | (refine Mix.lex_quiet0 rfl rfl rfl ?_; intro K hK; go_big_quiet_op; go_big_quiet_on) | (refine Mix.lex_quietG rfl rfl rfl (by with_reducible rfl) rfl rfl ?_; intro K hK; go_big_quiet_op; go_big_quiet_on) | ((first | refine Mix.lex_skipT rfl rfl rfl (by with_reducible rfl) ?_ | refine Mix.lex_skipF rfl rfl rfl (by with_reducible rfl) ?_ | refine Mix.lex_skipU rfl rfl rfl (by with_reducible rfl) ?_); simp only [Act.put, List.setIfInBounds_toArray, List.set_cons_succ, List.set_cons_zero]) | (refine Mix.lex_part rfl rfl rfl rfl (fun hq => ?_) (fun hq => ?_) <;> (fail_if_success (guard_hyp hq :ₛ true = true)) <;> (fail_if_success (guard_hyp hq :ₛ false = false)) <;> first | (exfalso; cases hq; done) | (exfalso; simp only [decide_eq_true_eq, decide_eq_false_iff_not, beq_iff_eq, beq_eq_false_iff_ne, ne_eq, Int.not_lt, Int.not_le] at hq; omega) | simp only [Act.put, List.setIfInBounds_toArray, List.set_cons_succ, List.set_cons_zero]))); all_goals (refine Mix.lex_nil ?_)))
            go_ret
            rw [HA4.out]
            exact ⟨by show _ = Ending.returned (errV ((closeF l c.length (layF l c d).1.fl).1.flF)); rw [HE.out]; rfl, r3, S3.out.hrg, S3.out.lw, S3.out.o⟩
        · have HA4 : Hid (addF l c d = (({ l with next := l.next + c.length + 1 }, (stA l c d 4).1), 0)) := by
            rw [Hid, HA3.out]
            rw [if_neg (fun h => h (show (layF l c d).2 = 0 from HZ.out 1 (by omega)))]
            rw [if_neg (fun h => h (show (layF l c d).1.flF = 0 from HZ.out 2 (by omega)))]
            rw [if_neg (fun h => h (show (closeF l c.length (layF l c d).1.fl).2 = 0 from HZ.out 3 (by omega)))]
            exact if_neg (fun h => h (show (closeF l c.length (layF l c d).1.fl).1.flF = 0 from HZ.out 4 (by omega)))
          have q2 : wr.cell? ⟨g2, 0, none⟩ = some (pt l.g) := HS.out.c2.cell 0
          have q8 : wr.cell? ⟨g8, 0, none⟩ = some (.int .i64 (l.next + c.length : Nat)) := HS.out.c8.cell 0
          have q4 : wr.cell? ⟨l.g, 4, none⟩ = some (.int .i64 (l.next : Nat)) := Cs.cell HS.out.lw.lg 4
          have z4 := Cs.frozen HS.out.lw.lg 4
          obtain ⟨w9, hw9⟩ : ∃ v, v = wr.setCell ⟨l.g, 4, none⟩ (.int .i64 ((l.next : Int) + (c.length : Int) + 1)) := ⟨_, rfl⟩
          have HW9 := Lib.hid hw9
          have o9 : Only (fun b => b = l.g) wr w9 := by rw [hw9]; exact (Only.refl _ _).at_ _ _
          have l9 : LogAt w9 { l with next := l.next + c.length + 1 } r'.g := by
            have := Cs.set_ HS.out.lw.lg 4 (.int .i64 ((l.next : Int) + (c.length : Int) + 1))
            rw [← hw9] at this
            exact this
          have d9 : DiskAt w9 r' (stA l c d 4).1 := HS.out.lw.dk.keep o9 fun b hb e => by
            have e : b = l.g := e
            subst e
            exact HS.out.lw.ng hb
          have f9 : Only (Frn w0 wr) wr w9 := o9.weak fun b _ e => by
            have e : b = l.g := e
            subst e
            exact ⟨HS.out.lw.fg, _, _, HS.out.lw.lg, .inr (.inr (.inr rfl))⟩
          have LL9 : Hid (LgW w0 w9 r' { l with next := l.next + c.length + 1 } (stA l c d 4).1) := ⟨d9, l9, HS.out.lw.fp, HS.out.lw.fg⟩
          have OO9 := Lib.hid (HS.out.o.frn f9)
          have hrg := HS.out.hrg
          clear hw9 o9 l9 d9 f9 HS HZ
          go_wp2_with (first | ((first | refine Mix.wpList_guarded rfl ?_ | refine Mix.wp_still (by kernel_rfl) (by kernel_rfl) ?_); (repeat' (first | (refine Mix.lex_quiet0 rfl rfl rfl ?_; intro K hK; go_big_quiet_op; go_big_quiet_on) | (refine Mix.lex_quietG rfl rfl rfl (by with_reducible rfl) rfl rfl ?_; intro K hK; go_big_quiet_op; go_big_quiet_on) | ((first | refine Mix.lex_skipT rfl rfl rfl (by with_reducible rfl) ?_ | refine Mix.lex_skipF rfl rfl rfl (by with_reducible rfl) ?_ | refine Mix.lex_skipU rfl rfl rfl (by with_reducible rfl) ?_); simp only [Act.put, List.setIfInBounds_toArray, List.set_cons_succ, List.set_cons_zero]) | (refine Mix.lex_part rfl rfl rfl rfl (fun hq => ?_) (fun hq => ?_) <;> (fail_if_success (guard_hyp hq :ₛ true = true)) <;> (fail_if_success (guard_hyp hq :ₛ false = false)) <;> first | (exfalso; cases hq; done) | (exfalso; simp only [decide_eq_true_eq, decide_eq_false_iff_not, beq_iff_eq, beq_eq_false_iff_ne, ne_eq, Int.not_lt, Int.not_le] at hq; omega) | simp only [Act.put, List.setIfInBounds_toArray, List.set_cons_succ, List.set_cons_zero]))); all_goals (refine Mix.lex_nil ?_)))
          rw [← HW9.out]
          go_ret
          rw [HA4.out]
          exact ⟨rfl, r', hrg, LL9.out, OO9.out⟩
end Go.Proofs.Ytaphmmobmadfoaa
