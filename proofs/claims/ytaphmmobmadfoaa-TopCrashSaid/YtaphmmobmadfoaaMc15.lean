/- Put together: Lg7. -/
import Derived.Test.YtaphmmobmadfoaaMc14
/- A log on its disk: what is beside it stays. -/
namespace Go.Proofs.Ytaphmmobmadfoaa
open Go Go.RowKit
abbrev diskT : TypeId := 70
abbrev turnT : TypeId := 96
abbrev strT : TypeId := 9
/-- 'w0' holds every block that is made from here on. -/
def Cov (w0 : Nat → Prop) (w : World) : Prop := ∀ b, w.heap.size ≤ b → w0 b
theorem Cov.up {w0 : Nat → Prop} {w w' : World} (h : Cov w0 w) (hx : w.heap.size ≤ w'.heap.size) : Cov w0 w' := fun b hb => h b (Nat.le_trans hx hb)
/-- The variable MaxLen lies outside. -/
structure NoMl (w0 : Nat → Prop) : Prop where
  no : ¬ w0 0
/-- Blocks of disks and logs among those of 'w0'. -/
def Frn (w0 : Nat → Prop) (w : World) : Nat → Prop := fun b => w0 b ∧ ∃ cs t, Cs w b t cs ∧ (t = diskT ∨ t = strT ∨ t = turnT ∨ t = logT)
def Rob (w0 : Nat → Prop) (w : World) (Pr : World → Prop) : Prop := ∀ u, Only (Frn w0 w) w u → Pr u
section
variable {w0 : Nat → Prop} {w w' u : World} {Pr : World → Prop}
theorem Rob.here (h : Rob w0 w Pr) : Pr w := h w (Only.refl _ _)
theorem Rob.step {F : Nat → Prop} (h : Rob w0 w Pr) (hx : Only F w w') (hF : ∀ b, b < w.heap.size → F b → Frn w0 w b) : Rob w0 w' Pr := fun u hu =>
  h u ((hx.weak hF).trans hu fun b hb hf => by
    obtain ⟨h1, cs, t, hc, ht⟩ := hf
    by_cases hfb : Frn w0 w b
    · exact hfb
    · exact ⟨h1, cs, t, (hx.block b hb (fun e => hfb (hF b hb e))).symm.trans hc, ht⟩)
theorem Rob.ext (h : Rob w0 w Pr) (hx : Ext w w') : Rob w0 w' Pr := h.step hx fun _ _ e => e.elim
/-- What lies ahead of 'w0'. -/
theorem Rob.old {v0 : World} {P0 : World → Prop} (hn : ∀ b, b < v0.heap.size → ¬ w0 b) (hx : Ext v0 w) (h : ∀ u, Ext v0 u → P0 u) : Rob w0 w P0 := fun u hu => h u (hx.trans hu fun b hb ⟨h1, _⟩ => absurd h1 (hn b hb))
theorem own_rob {B n size : Nat} {e : TypeId} {x : Value} {xs : List Value} (h : w.ownsRow B e size x n xs) (h1 : e ≠ diskT) (h2 : e ≠ strT) (h3 : e ≠ turnT) (h4 : e ≠ logT) : Rob w0 w fun u => u.ownsRow B e size x n xs := fun u hu =>
  own_keep h hu fun b hb ⟨_, _, t, hc, ht⟩ => by
    rcases ht with rfl | rfl | rfl | rfl
    · exact own_ne_cs h hc h1 b hb rfl
    · exact own_ne_cs h hc h2 b hb rfl
    · exact own_ne_cs h hc h3 b hb rfl
    · exact own_ne_cs h hc h4 b hb rfl
end
theorem fp_ne {w : World} {r : DkR} {d : Dk} (h : DiskAt w r d) {g : Nat} {t : TypeId} {cs : Array Value} (hc : Cs w g t cs) (h1 : diskT ≠ t) (h2 : strT ≠ t) (h3 : turnT ≠ t) : ¬ r.fp g := by
  rintro (e | e | e | e)
  · subst e; exact Cs.ne_ h.cs hc h1 rfl
  · subst e; exact own_ne h.kept hc h2 rfl
  · subst e; exact own_ne h.now hc h2 rfl
  · exact own_ne h.wait hc h3 e
theorem fp_frn {w0 : Nat → Prop} {w : World} {r : DkR} {d : Dk} (h : DiskAt w r d) (hf : ∀ b, r.fp b → w0 b) : ∀ b, b < w.heap.size → r.fp b → Frn w0 w b := fun b _ hb => by
  refine ⟨hf b hb, ?_⟩
  rcases hb with e | e | e | e
  · subst e; exact ⟨_, _, h.cs, .inl rfl⟩
  · subst e
    obtain ⟨cur, hc⟩ := own_cs h.kept rfl
    exact ⟨_, _, hc, .inr (.inl rfl)⟩
  · subst e
    obtain ⟨cur, hc⟩ := own_cs h.now rfl
    exact ⟨_, _, hc, .inr (.inl rfl)⟩
  · obtain ⟨cur, hc⟩ := own_cs h.wait e
    exact ⟨_, _, hc, .inr (.inr (.inl rfl))⟩
structure LgW (w0 : Nat → Prop) (w : World) (r : DkR) (l : LogR) (d : Dk) : Prop where
  dk : DiskAt w r d
  lg : LogAt w l r.g
  fp : ∀ b, r.fp b → w0 b
  fg : w0 l.g
section
variable {w0 : Nat → Prop} {w w' : World} {r : DkR} {l : LogR} {d d' : Dk}
theorem LgW.ext (h : LgW w0 w r l d) (hx : Ext w w') : LgW w0 w' r l d := ⟨h.dk.ext hx, h.lg.ext hx, h.fp, h.fg⟩
theorem LgW.ng (h : LgW w0 w r l d) : ¬ r.fp l.g := fp_ne h.dk h.lg (by decide) (by decide) (by decide)
theorem LgW.x (h : LgW w0 w r l d) : (∀ ξ : X w r.fp, ξ.v.cell? ⟨l.g, 0, none⟩ = some (pt r.g)) ∧ (∀ ξ : X w r.fp, ξ.v.cell? ⟨l.g, 1, none⟩ = some (.int .i64 (l.from_ : Nat))) ∧ (∀ ξ : X w r.fp, ξ.v.cell? ⟨l.g, 2, none⟩ = some (.int .i64 (l.many : Nat))) ∧ (∀ ξ : X w r.fp, ξ.v.cell? ⟨l.g, 3, none⟩ = some (.int .i64 (l.first : Nat))) ∧ (∀ ξ : X w r.fp, ξ.v.cell? ⟨l.g, 4, none⟩ = some (.int .i64 (l.next : Nat))) :=
  ⟨Cs.x h.lg h.ng 0, Cs.x h.lg h.ng 1, Cs.x h.lg h.ng 2, Cs.x h.lg h.ng 3, Cs.x h.lg h.ng 4⟩
/-- A step of the disk. -/
theorem LgW.dkr {v : Value} {e : Ending} (h : LgW w0 w r l d) (h0 : Cov w0 w) (hr : DkRes w r d' v e w') : e = .returned v ∧ ∃ r' : DkR, r'.g = r.g ∧ LgW w0 w' r' l d' ∧ Only (Frn w0 w) w w' ∧ Only r.fp w w' := by
  obtain ⟨he, r', h1, hg, hx, hf⟩ := hr
  refine ⟨he, r', hg, ⟨h1, by rw [hg]; exact h.lg.keep hx h.ng, fun b hb => ?_, h.fg⟩, hx.weak (fp_frn h.dk h.fp), hx⟩
  rcases hf b hb with h2 | h2
  · exact h.fp b h2
  · exact h0 b h2
end
theorem wr_now' (d : Dk) (i : Int) (s : Str) : (d.wr i s).now.length = d.now.length := by
  unfold Dk.wr Dk.stepped Dk.written
  repeat' split
  all_goals simp
theorem wr_wait' (d : Dk) (i : Int) (s : Str) : (d.wr i s).wait.length ≤ d.wait.length + 1 := by
  unfold Dk.wr Dk.stepped Dk.written
  repeat' split
  all_goals simp
/-- What lay does to a disk. -/
def layD : Int → Nat → List Ch → Dk → Dk × Int
  | _, _, [], d => (d, 0)
  | p, n, c :: r, d => if d.wrF p (textF 111 n (chEnc c)) = 0 then layD (p + 1) (n + 1) r (d.wr p (textF 111 n (chEnc c))) else (d.wr p (textF 111 n (chEnc c)), d.wrF p (textF 111 n (chEnc c)))
def layEnd (l : LogR) (n : Nat) (d : Dk) : Dk × Int := if l.next + n + 1 < l.many then (d.wr ((l.from_ + (l.next + n + 1) : Nat) : Int) [], d.wrF ((l.from_ + (l.next + n + 1) : Nat) : Int) []) else (d, 0)
def layF (l : LogR) (c : List Ch) (d : Dk) : Dk × Int :=
  if (layD ((l.from_ + l.next : Nat) : Int) (l.first + l.next) c d).2 = 0 then layEnd l c.length (layD ((l.from_ + l.next : Nat) : Int) (l.first + l.next) c d).1 else layD ((l.from_ + l.next : Nat) : Int) (l.first + l.next) c d
/-- What an action on a log comes to. -/
def LgRes (w0 : Nat → Prop) (w : World) (l : LogR) (rg : Nat) (R : Dk × Int) (e : Ending) (w' : World) : Prop := e = .returned (errV R.2) ∧ ∃ r', r'.g = rg ∧ LgW w0 w' r' l R.1 ∧ Only (Frn w0 w) w w' ∧ w.heap.size ≤ w'.heap.size
theorem Only.frn {w0 : Nat → Prop} {w u v : World} (h : Only (Frn w0 w) w u) (k : Only (Frn w0 u) u v) : Only (Frn w0 w) w v :=
  h.trans k fun b hb hf => by
    obtain ⟨h1, cs, t, hc, ht⟩ := hf
    by_cases hfb : Frn w0 w b
    · exact hfb
    · exact ⟨h1, cs, t, (h.block b hb hfb).symm.trans hc, ht⟩
theorem Only.ext_frn {w0 : Nat → Prop} {w u v : World} (h : Ext w u) (k : Only (Frn w0 u) u v) : Only (Frn w0 w) w v := (Only.any h : Only (Frn w0 w) w u).frn k
theorem NoMl.frn {w0 : Nat → Prop} {w u : World} (h0 : NoMl w0) (h : Ml w) (hx : Only (Frn w0 w) w u) : Ml u := h.only hx fun ⟨h1, _⟩ => h0.no h1
/- lay: the sectors of a deed. -/
theorem layD_cons (p : Int) (n : Nat) (c : Ch) (r : List Ch) (d : Dk) : layD p n (c :: r) d = if d.wrF p (textF 111 n (chEnc c)) = 0 then layD (p + 1) (n + 1) r (d.wr p (textF 111 n (chEnc c))) else (d.wr p (textF 111 n (chEnc c)), d.wrF p (textF 111 n (chEnc c))) := rfl
theorem chEnc_len (c : Ch) : (chEnc c).length = c.1.length + c.2.1.length + 2 := by
  unfold chEnc
  simp only [List.length_cons, List.length_append]
theorem drop_at {α : Type} {xs : List α} {k : Nat} {x : α} (hx : xs[k]? = some x) : xs.drop k = x :: xs.drop (k + 1) := by
  have hk : k < xs.length := (List.getElem?_eq_some_iff.1 hx).1
  rw [List.drop_eq_getElem_cons hk, (List.getElem?_eq_some_iff.1 hx).2]
set_option maxRecDepth 100000 in
set_option maxHeartbeats 4000000 in
theorem Lay_c {w0 : Nat → Prop} {w : World} {r : DkR} {l : LogR} {d : Dk} (hm0 : NoMl w0) (hml : Ml w) (h : LgW w0 w r l d) (h0 : Cov w0 w) {A : Option Addr} {cap : Nat} {c : List Ch} (hR : Rob w0 w fun u => SlR chF u A c.length c) (hb : ∀ x ∈ c, chBad x = 0 ∧ x.1.length ≤ 1000 ∧ x.2.1.length ≤ 1000)
    (hc : c.length ≤ 100) (hw : d.wait.length ≤ 1000) (hl : l.from_ ≤ 1000 ∧ l.many ≤ 1000 ∧ l.next ≤ 1000 ∧ l.first ≤ 1000000000000) :
    Calls Try.prog 63 #[pt l.g, .slice A c.length cap] w (LgRes w0 w l r.g (layF l c d)) := by
  obtain ⟨hl1, hl2, hl3, hl4⟩ := hl
  have H := Lib.hid h
  have HR := Lib.hid hR
  have HM := Lib.hid hml
  have HM0 := Lib.hid hm0
  have HB := Lib.hid hb
  have HF : Hid (layF l c d = if (layD ((l.from_ + l.next : Nat) : Int) (l.first + l.next) c d).2 = 0 then layEnd l c.length (layD ((l.from_ + l.next : Nat) : Int) (l.first + l.next) c d).1 else layD ((l.from_ + l.next : Nat) : Int) (l.first + l.next) c d) := rfl
  obtain ⟨-, d1, -, -, d4⟩ := h.lg.x
  clear h hR hml hb hm0
  go_enter Try.func63, Try.ntmps63
  go_upto_region 1 with fail
  (refine Mix.wp_draw [] 100 (Cl (w) (No)) (by kernel_rfl) (by kernel_rfl) (Cl.drew_ (X.here w No)) ?_; (repeat' (first | (refine Mix.lex_quiet0 rfl rfl rfl ?_; intro K hK; go_big_quiet_op; go_big_quiet_on) | (refine Mix.lex_quietG rfl rfl rfl (by with_reducible rfl) rfl rfl ?_; intro K hK; go_big_quiet_op; go_big_quiet_on) | ((first | refine Mix.lex_skipT rfl rfl rfl (by with_reducible rfl) ?_ | refine Mix.lex_skipF rfl rfl rfl (by with_reducible rfl) ?_ | refine Mix.lex_skipU rfl rfl rfl (by with_reducible rfl) ?_); simp only [Act.put, List.setIfInBounds_toArray, List.set_cons_succ, List.set_cons_zero]) | (refine Mix.lex_part rfl rfl rfl rfl (fun hq => ?_) (fun hq => ?_) <;> (fail_if_success (guard_hyp hq :ₛ true = true)) <;> (fail_if_success (guard_hyp hq :ₛ false = false)) <;> first | (exfalso; cases hq; done) | (exfalso; simp only [decide_eq_true_eq, decide_eq_false_iff_not, beq_iff_eq, beq_eq_false_iff_ne, ne_eq, Int.not_lt, Int.not_le] at hq; omega) | simp only [Act.put, List.setIfInBounds_toArray, List.set_cons_succ, List.set_cons_zero]))))
  all_goals (refine Mix.lex_nil ?_)
  clear d1 d4
  obtain ⟨w1, hw1⟩ : ∃ u, u = w.drew := ⟨_, rfl⟩
  have x1 : Ext w w1 := by rw [hw1]; exact (Only.refl No w).drew
  have X1 := Lib.hid x1
  have L1 := Lib.hid (H.out.ext x1)
  have R1 := Lib.hid (HR.out.ext x1)
  have M1 := Lib.hid (HM.out.ext x1)
  have h01 : Cov w0 w1 := Cov.up h0 x1.size
  rw [← hw1]
  clear hw1 x1
  go_wp2_with (first | ((first | refine Mix.wpList_guarded rfl ?_ | refine Mix.wp_still (by kernel_rfl) (by kernel_rfl) ?_); (repeat' (first | (refine Mix.lex_quiet0 rfl rfl rfl ?_; intro K hK; go_big_quiet_op; go_big_quiet_on) | (refine Mix.lex_quietG rfl rfl rfl (by with_reducible rfl) rfl rfl ?_; intro K hK; go_big_quiet_op; go_big_quiet_on) | ((first | refine Mix.lex_skipT rfl rfl rfl (by with_reducible rfl) ?_ | refine Mix.lex_skipF rfl rfl rfl (by with_reducible rfl) ?_ | refine Mix.lex_skipU rfl rfl rfl (by with_reducible rfl) ?_); simp only [Act.put, List.setIfInBounds_toArray, List.set_cons_succ, List.set_cons_zero]) | (refine Mix.lex_part rfl rfl rfl rfl (fun hq => ?_) (fun hq => ?_) <;> (fail_if_success (guard_hyp hq :ₛ true = true)) <;> (fail_if_success (guard_hyp hq :ₛ false = false)) <;> first | (exfalso; cases hq; done) | (exfalso; simp only [decide_eq_true_eq, decide_eq_false_iff_not, beq_iff_eq, beq_eq_false_iff_ne, ne_eq, Int.not_lt, Int.not_le] at hq; omega) | simp only [Act.put, List.setIfInBounds_toArray, List.set_cons_succ, List.set_cons_zero]))); all_goals (refine Mix.lex_nil ?_)))
  go_loopw [22] (fun i wr => ∃ j : Nat, j ≤ c.length ∧ i = .int .i64 j ∧ ∃ r' d', (r' : DkR).g = r.g ∧ LgW w0 wr r' l d' ∧ Only (Frn w0 w1) w1 wr ∧ w1.heap.size ≤ wr.heap.size ∧ Rob w0 wr (fun u => SlR chF u A c.length c) ∧ Ml wr ∧ (d' : Dk).wait.length ≤ 1000 + j ∧ layD ((l.from_ + l.next : Nat) : Int) (l.first + l.next) c d = layD ((l.from_ + l.next + j : Nat) : Int) (l.first + l.next + j) (c.drop j) d') (fun i _ => c.length - (intOf i).toNat)
  case atStart => exact ⟨0, Nat.zero_le _, rfl, r, d, rfl, L1.out, Only.refl _ _, Nat.le_refl _, R1.out, M1.out, by omega, rfl⟩
  case round =>
    obtain ⟨j, hj, rfl, r', d', hrg, hL, hO, hsz, hRr, hMr, hwt, hE⟩ := hrel
    have LL := Lib.hid hL
    have OO := Lib.hid hO
    have RR := Lib.hid hRr
    have MM := Lib.hid hMr
    have HE := Lib.hid hE
    clear hL hO hRr hMr hE L1 R1 M1
    by_cases hlt : j < c.length
    · obtain ⟨b, o, ch, rfl, hx, c0, c1, c2⟩ := chs_get RR.out.here hlt
      have HX := Lib.hid hx
      obtain ⟨hbad, hk1, hk2⟩ := HB.out ch (List.mem_of_getElem? hx)
      have HE2 : Hid (layD ((l.from_ + l.next : Nat) : Int) (l.first + l.next) c d = if d'.wrF ((l.from_ + l.next + j : Nat) : Int) (textF 111 (l.first + l.next + j) (chEnc ch)) = 0 then layD ((l.from_ + l.next + j : Nat) + 1 : Int) (l.first + l.next + j + 1) (c.drop (j + 1)) (d'.wr ((l.from_ + l.next + j : Nat) : Int) (textF 111 (l.first + l.next + j) (chEnc ch))) else (d'.wr ((l.from_ + l.next + j : Nat) : Int) (textF 111 (l.first + l.next + j) (chEnc ch)), d'.wrF ((l.from_ + l.next + j : Nat) : Int) (textF 111 (l.first + l.next + j) (chEnc ch)))) := by
        rw [Hid, HE.out, drop_at hx, layD_cons]
      have hel := chEnc_len ch
      have HBy : Hid (∀ v, Ext wr v → Calls Try.prog 76 #[.agg #[S ch.1, S ch.2.1, .bool ch.2.2]] v fun e w' => e = .returned (.tuple #[S (chEnc ch), .nilIface]) ∧ Ext v w') := fun v hv => by
        have := Bytes_row ch (by omega) (by omega) (MM.out.ext hv)
        unfold chTxt at this
        rw [hbad, if_pos rfl] at this
        exact this
      have HTx : Hid (∀ v, Calls Try.prog 65 #[.int .u8 111, .int .i64 ((l.first : Int) + (l.next : Int) + (j : Int)), S (chEnc ch)] v fun e w' => e = .returned (S (textF 111 (l.first + l.next + j) (chEnc ch))) ∧ Ext v w') := fun v => by
        have := Text_lg 111 (l.first + l.next + j) (chEnc ch) (by omega) v
        rw [show ((l.first + l.next + j : Nat) : Int) = (l.first : Int) + (l.next : Int) + (j : Int) by omega] at this
        exact this
      have htl := textF_len 111 (l.first + l.next + j) (chEnc ch)
      obtain ⟨key, val, gone⟩ := ch
      dsimp only at c0 c1 c2 hel hk1 hk2
      clear hx hbad HE
      generalize chEnc (key, val, gone) = enc at HBy HTx HE2 htl hel
      generalize textF 111 (l.first + l.next + j) enc = tx at HTx HE2 htl
      obtain ⟨g7, hg7⟩ : ∃ x, x = wr.heap.size := ⟨_, rfl⟩
      obtain ⟨w7, hw7⟩ : ∃ v, v = wr.alloc (.cells #[S key, S val, .bool gone] chT) := ⟨_, rfl⟩
      have x7 : Ext wr w7 := by rw [hw7]; exact (Only.refl No wr).alloc _
      have hC7 : Cs w7 g7 chT #[S key, S val, .bool gone] := by rw [hw7, hg7]; exact Cs.new _ _ _
      have X7 := Lib.hid x7
      have q0 : w7.cell? ⟨g7, 0, none⟩ = some (S key) := hC7.cell 0
      have q1 : w7.cell? ⟨g7, 1, none⟩ = some (S val) := hC7.cell 1
      have q2 : w7.cell? ⟨g7, 2, none⟩ = some (.bool gone) := hC7.cell 2
      have c0' : wr.cell? ⟨b, o + j * 3, none⟩ = some (S key) := c0 (X.here _ _)
      have c1' : wr.cell? ⟨b, o + j * 3 + 1, none⟩ = some (S val) := c1 (X.here _ _)
      have c2' : wr.cell? ⟨b, o + j * 3 + 2, none⟩ = some (.bool gone) := c2 (X.here _ _)
      clear x7 hC7 c0 c1 c2
      go_upto_region 5 with fail
      rw [← hw7, ← hg7]
      clear hw7 hg7 c0' c1' c2'
      go_wp2_with (first | ((first | refine Mix.wpList_guarded rfl ?_ | refine Mix.wp_still (by kernel_rfl) (by kernel_rfl) ?_); (repeat' (first | (refine Mix.lex_quiet0 rfl rfl rfl ?_; intro K hK; go_big_quiet_op; go_big_quiet_on) | (refine Mix.lex_quietG rfl rfl rfl (by with_reducible rfl) rfl rfl ?_; intro K hK; go_big_quiet_op; go_big_quiet_on) | ((first | refine Mix.lex_skipT rfl rfl rfl (by with_reducible rfl) ?_ | refine Mix.lex_skipF rfl rfl rfl (by with_reducible rfl) ?_ | refine Mix.lex_skipU rfl rfl rfl (by with_reducible rfl) ?_); simp only [Act.put, List.setIfInBounds_toArray, List.set_cons_succ, List.set_cons_zero]) | (refine Mix.lex_part rfl rfl rfl rfl (fun hq => ?_) (fun hq => ?_) <;> (fail_if_success (guard_hyp hq :ₛ true = true)) <;> (fail_if_success (guard_hyp hq :ₛ false = false)) <;> first | (exfalso; cases hq; done) | (exfalso; simp only [decide_eq_true_eq, decide_eq_false_iff_not, beq_iff_eq, beq_eq_false_iff_ne, ne_eq, Int.not_lt, Int.not_le] at hq; omega) | simp only [Act.put, List.setIfInBounds_toArray, List.set_cons_succ, List.set_cons_zero]))); all_goals (refine Mix.lex_nil ?_)))
      refine (HBy.out _ X7.out).mono ?_
      rintro e u ⟨rfl, hu⟩
      have U := Lib.hid (X7.out.then_ext hu)
      have LU := Lib.hid (LL.out.ext U.out)
      clear hu HBy X7 q0 q1 q2
      obtain ⟨D0, D1, D2, D3, D4⟩ := LU.out.x
      have HWr : Hid (∀ v, Ext u v → Calls Try.prog 36 #[pt r.g, .int .i64 ((l.from_ : Int) + (l.next : Int) + (j : Int)), S tx] v (DkRes v r' (d'.wr ((l.from_ + l.next + j : Nat) : Int) tx) (errV (d'.wrF ((l.from_ + l.next + j : Nat) : Int) tx)))) := fun v hv => by
        have := Write_all (LU.out.dk.ext hv) ((l.from_ + l.next + j : Nat) : Int) tx (by omega) (by omega)
        rw [hrg] at this
        rw [show (l.from_ : Int) + (l.next : Int) + (j : Int) = ((l.from_ + l.next + j : Nat) : Int) by omega]
        exact this
      rw [hrg] at D0
      go_upto_region 8 with fail
      (refine Mix.wp_draw [19, 20] 100 (Cl (u) (r'.fp)) (by kernel_rfl) (by kernel_rfl) (Cl.drew_ (X.here u r'.fp)) ?_; (repeat' (first | (refine Mix.lex_quiet0 rfl rfl rfl ?_; intro K hK; go_big_quiet_op; go_big_quiet_on) | (refine Mix.lex_quietG rfl rfl rfl (by with_reducible rfl) rfl rfl ?_; intro K hK; go_big_quiet_op; go_big_quiet_on) | ((first | refine Mix.lex_skipT rfl rfl rfl (by with_reducible rfl) ?_ | refine Mix.lex_skipF rfl rfl rfl (by with_reducible rfl) ?_ | refine Mix.lex_skipU rfl rfl rfl (by with_reducible rfl) ?_); simp only [Act.put, List.setIfInBounds_toArray, List.set_cons_succ, List.set_cons_zero]) | (refine Mix.lex_part rfl rfl rfl rfl (fun hq => ?_) (fun hq => ?_) <;> (fail_if_success (guard_hyp hq :ₛ true = true)) <;> (fail_if_success (guard_hyp hq :ₛ false = false)) <;> first | (exfalso; cases hq; done) | (exfalso; simp only [decide_eq_true_eq, decide_eq_false_iff_not, beq_iff_eq, beq_eq_false_iff_ne, ne_eq, Int.not_lt, Int.not_le] at hq; omega) | simp only [Act.put, List.setIfInBounds_toArray, List.set_cons_succ, List.set_cons_zero]))))
      ((first | refine Mix.lex_goes0 rfl rfl ?_ | refine Mix.lex_goesG rfl rfl rfl (by with_reducible rfl) rfl ?_); intro K hK; go_simp)
      refine (HTx.out _).mono ?_
      rintro e u2 ⟨rfl, hu⟩
      have X2 : Ext u u2 := (Only.refl No u).drew.then_ext hu
      refine ⟨_, rfl, hK _ _ (fun _ => Cl.of X2.any) ?_⟩
      clear hK K hu HTx
      simp only [Act.put, List.setIfInBounds_toArray, List.set_cons_succ, List.set_cons_zero]
      (repeat' (first | (refine Mix.lex_quiet0 rfl rfl rfl ?_; intro K hK; go_big_quiet_op; go_big_quiet_on) | (refine Mix.lex_quietG rfl rfl rfl (by with_reducible rfl) rfl rfl ?_; intro K hK; go_big_quiet_op; go_big_quiet_on) | ((first | refine Mix.lex_skipT rfl rfl rfl (by with_reducible rfl) ?_ | refine Mix.lex_skipF rfl rfl rfl (by with_reducible rfl) ?_ | refine Mix.lex_skipU rfl rfl rfl (by with_reducible rfl) ?_); simp only [Act.put, List.setIfInBounds_toArray, List.set_cons_succ, List.set_cons_zero]) | (refine Mix.lex_part rfl rfl rfl rfl (fun hq => ?_) (fun hq => ?_) <;> (fail_if_success (guard_hyp hq :ₛ true = true)) <;> (fail_if_success (guard_hyp hq :ₛ false = false)) <;> first | (exfalso; cases hq; done) | (exfalso; simp only [decide_eq_true_eq, decide_eq_false_iff_not, beq_iff_eq, beq_eq_false_iff_ne, ne_eq, Int.not_lt, Int.not_le] at hq; omega) | simp only [Act.put, List.setIfInBounds_toArray, List.set_cons_succ, List.set_cons_zero])))
      ((first | refine Mix.lex_goes0 rfl rfl ?_ | refine Mix.lex_goesG rfl rfl rfl (by with_reducible rfl) rfl ?_); intro K hK; go_simp)
      refine (HWr.out _ X2).mono ?_
      intro e u3 hr3
      obtain ⟨rfl, r3, hg3, hL3, hO3, hF3⟩ := (LU.out.ext X2).dkr (Cov.up h01 (Nat.le_trans hsz (Nat.le_trans U.out.size X2.size))) hr3
      have O3 : Only (Frn w0 wr) wr u3 := (U.out.then_ext X2).ext_frn hO3
      have R3 := Lib.hid (RR.out.step O3 fun _ _ e => e)
      have M3 : Hid (Ml u3) := HM0.out.frn MM.out O3
      have L3 := Lib.hid hL3
      have O3h := Lib.hid O3
      have S3 : wr.heap.size ≤ u3.heap.size := O3.size
      refine ⟨_, rfl, hK _ _ (fun _ => Cl.of ((X2.any : Only r'.fp u u2).trans hF3 fun _ _ e => e)) ?_⟩
      clear hK K hr3 hL3 hO3 O3 hF3 HWr D0 D1 D2 D3 D4
      simp only [Act.put, List.setIfInBounds_toArray, List.set_cons_succ, List.set_cons_zero]
      (repeat' (first | (refine Mix.lex_quiet0 rfl rfl rfl ?_; intro K hK; go_big_quiet_op; go_big_quiet_on) | (refine Mix.lex_quietG rfl rfl rfl (by with_reducible rfl) rfl rfl ?_; intro K hK; go_big_quiet_op; go_big_quiet_on) | ((first | refine Mix.lex_skipT rfl rfl rfl (by with_reducible rfl) ?_ | refine Mix.lex_skipF rfl rfl rfl (by with_reducible rfl) ?_ | refine Mix.lex_skipU rfl rfl rfl (by with_reducible rfl) ?_); simp only [Act.put, List.setIfInBounds_toArray, List.set_cons_succ, List.set_cons_zero]) | (refine Mix.lex_part rfl rfl rfl rfl (fun hq => ?_) (fun hq => ?_) <;> (fail_if_success (guard_hyp hq :ₛ true = true)) <;> (fail_if_success (guard_hyp hq :ₛ false = false)) <;> first | (exfalso; cases hq; done) | (exfalso; simp only [decide_eq_true_eq, decide_eq_false_iff_not, beq_iff_eq, beq_eq_false_iff_ne, ne_eq, Int.not_lt, Int.not_le] at hq; omega) | simp only [Act.put, List.setIfInBounds_toArray, List.set_cons_succ, List.set_cons_zero])))
      refine Mix.lex_nil ?_
      have hwt2 := wr_wait' d' ((l.from_ + l.next + j : Nat) : Int) tx
      have hnn := Dk.wrF_nonneg d' ((l.from_ + l.next + j : Nat) : Int) tx
      generalize d'.wr ((l.from_ + l.next + j : Nat) : Int) tx = d2 at HE2 L3 hwt2
      generalize d'.wrF ((l.from_ + l.next + j : Nat) : Int) tx = f2 at HE2 hnn ⊢
      by_cases hf2 : f2 = 0
      · subst hf2
        have HE3 := Lib.hid (HE2.out.trans (if_pos rfl))
        rw [errV_zero]
        go_wp2_with (first | ((first | refine Mix.wpList_guarded rfl ?_ | refine Mix.wp_still (by kernel_rfl) (by kernel_rfl) ?_); (repeat' (first | (refine Mix.lex_quiet0 rfl rfl rfl ?_; intro K hK; go_big_quiet_op; go_big_quiet_on) | (refine Mix.lex_quietG rfl rfl rfl (by with_reducible rfl) rfl rfl ?_; intro K hK; go_big_quiet_op; go_big_quiet_on) | ((first | refine Mix.lex_skipT rfl rfl rfl (by with_reducible rfl) ?_ | refine Mix.lex_skipF rfl rfl rfl (by with_reducible rfl) ?_ | refine Mix.lex_skipU rfl rfl rfl (by with_reducible rfl) ?_); simp only [Act.put, List.setIfInBounds_toArray, List.set_cons_succ, List.set_cons_zero]) | (refine Mix.lex_part rfl rfl rfl rfl (fun hq => ?_) (fun hq => ?_) <;> (fail_if_success (guard_hyp hq :ₛ true = true)) <;> (fail_if_success (guard_hyp hq :ₛ false = false)) <;> first | (exfalso; cases hq; done) | (exfalso; simp only [decide_eq_true_eq, decide_eq_false_iff_not, beq_iff_eq, beq_eq_false_iff_ne, ne_eq, Int.not_lt, Int.not_le] at hq; omega) | simp only [Act.put, List.setIfInBounds_toArray, List.set_cons_succ, List.set_cons_zero]))); all_goals (refine Mix.lex_nil ?_)))
        go_roundw
        case rel => exact ⟨j + 1, by omega, by go_num, r3, d2, by rw [hg3, hrg], L3.out, OO.out.frn O3h.out, by omega, R3.out, M3.out, by omega, by rw [HE3.out]; rfl⟩
        case measure => simp [intOf]; omega
      · rw [errV_pos hf2]
        have HE3 : Hid (layF l c d = (d2, f2)) := by
          rw [Hid, HF.out, HE2.out.trans (if_neg hf2)]
          exact if_neg hf2
        go_wp2_with (first | ((first | refine Mix.wpList_guarded rfl ?_ | refine Mix.wp_still (by kernel_rfl) (by kernel_rfl) ?_); (repeat' (first | (refine Mix.lex_quiet0 rfl rfl rfl ?_; intro K hK; go_big_quiet_op; go_big_quiet_on) | (refine Mix.lex_quietG rfl rfl rfl (by with_reducible rfl) rfl rfl ?_; intro K hK; go_big_quiet_op; go_big_quiet_on) | ((first | refine Mix.lex_skipT rfl rfl rfl (by with_reducible rfl) ?_ | refine Mix.lex_skipF rfl rfl rfl (by with_reducible rfl) ?_ | refine Mix.lex_skipU rfl rfl rfl (by with_reducible rfl) ?_); simp only [Act.put, List.setIfInBounds_toArray, List.set_cons_succ, List.set_cons_zero]) | (refine Mix.lex_part rfl rfl rfl rfl (fun hq => ?_) (fun hq => ?_) <;> (fail_if_success (guard_hyp hq :ₛ true = true)) <;> (fail_if_success (guard_hyp hq :ₛ false = false)) <;> first | (exfalso; cases hq; done) | (exfalso; simp only [decide_eq_true_eq, decide_eq_false_iff_not, beq_iff_eq, beq_eq_false_iff_ne, ne_eq, Int.not_lt, Int.not_le] at hq; omega) | simp only [Act.put, List.setIfInBounds_toArray, List.set_cons_succ, List.set_cons_zero]))); all_goals (refine Mix.lex_nil ?_)))
        go_ret
        rw [HE3.out]
        exact ⟨by rw [errV_pos hf2]; rfl, r3, by rw [hg3, hrg], L3.out, X1.out.ext_frn (OO.out.frn O3h.out), Nat.le_trans X1.out.size (Nat.le_trans hsz S3)⟩
    · obtain rfl : j = c.length := by omega
      have HE2 : Hid (layD ((l.from_ + l.next : Nat) : Int) (l.first + l.next) c d = (d', 0)) := by
        rw [Hid, HE.out, List.drop_of_length_le (Nat.le_refl _)]
        rfl
      have HF2 : Hid (layF l c d = layEnd l c.length d') := by
        rw [Hid, HF.out, HE2.out]
        exact if_pos rfl
      have HEn : Hid (layEnd l c.length d' = if l.next + c.length + 1 < l.many then (d'.wr ((l.from_ + (l.next + c.length + 1) : Nat) : Int) [], d'.wrF ((l.from_ + (l.next + c.length + 1) : Nat) : Int) []) else (d', 0)) := rfl
      obtain ⟨D0, D1, D2, D3, D4⟩ := LL.out.x
      have e2 : wr.cell? ⟨l.g, 2, none⟩ = some (.int .i64 (l.many : Nat)) := Cs.cell LL.out.lg 2
      have e4 : wr.cell? ⟨l.g, 4, none⟩ = some (.int .i64 (l.next : Nat)) := Cs.cell LL.out.lg 4
      rw [hrg] at D0
      clear HE HE2 HF
      by_cases hend : l.next + c.length + 1 < l.many
      · have gend : decide ((l.next : Int) + (c.length : Int) + 1 < (l.many : Int)) = true := decide_eq_true (by omega)
        have HF3 := Lib.hid (HF2.out.trans (HEn.out.trans (if_pos hend)))
        have HWr : Hid (∀ v, Ext wr v → Calls Try.prog 36 #[pt r.g, .int .i64 ((l.from_ : Int) + ((l.next : Int) + (c.length : Int) + 1)), S []] v (DkRes v r' (d'.wr ((l.from_ + (l.next + c.length + 1) : Nat) : Int) []) (errV (d'.wrF ((l.from_ + (l.next + c.length + 1) : Nat) : Int) [])))) := fun v hv => by
          have := Write_all (LL.out.dk.ext hv) ((l.from_ + (l.next + c.length + 1) : Nat) : Int) [] (by simp) (by omega)
          rw [hrg] at this
          rw [show (l.from_ : Int) + ((l.next : Int) + (c.length : Int) + 1) = ((l.from_ + (l.next + c.length + 1) : Nat) : Int) by omega]
          exact this
        go_upto_region 14 with fail
        (refine Mix.wp_draw [10] 100 (Cl (wr) (r'.fp)) (by kernel_rfl) (by kernel_rfl) (Cl.drew_ (X.here wr r'.fp)) ?_; (repeat' (first | (refine Mix.lex_quiet0 rfl rfl rfl ?_; intro K hK; go_big_quiet_op; go_big_quiet_on) | (refine Mix.lex_quietG rfl rfl rfl (by with_reducible rfl) rfl rfl ?_; intro K hK; go_big_quiet_op; go_big_quiet_on) | ((first | refine Mix.lex_skipT rfl rfl rfl (by with_reducible rfl) ?_ | refine Mix.lex_skipF rfl rfl rfl (by with_reducible rfl) ?_ | refine Mix.lex_skipU rfl rfl rfl (by with_reducible rfl) ?_); simp only [Act.put, List.setIfInBounds_toArray, List.set_cons_succ, List.set_cons_zero]) | (refine Mix.lex_part rfl rfl rfl rfl (fun hq => ?_) (fun hq => ?_) <;> (fail_if_success (guard_hyp hq :ₛ true = true)) <;> (fail_if_success (guard_hyp hq :ₛ false = false)) <;> first | (exfalso; cases hq; done) | (exfalso; simp only [decide_eq_true_eq, decide_eq_false_iff_not, beq_iff_eq, beq_eq_false_iff_ne, ne_eq, Int.not_lt, Int.not_le] at hq; omega) | simp only [Act.put, List.setIfInBounds_toArray, List.set_cons_succ, List.set_cons_zero]))))
        ((first | refine Mix.lex_goes0 rfl rfl ?_ | refine Mix.lex_goesG rfl rfl rfl (by with_reducible rfl) rfl ?_); intro K hK; go_simp)
        refine (HWr.out _ (Only.refl No wr).drew).mono ?_
        intro e u3 hr3
        obtain ⟨rfl, r3, hg3, hL3, hO3, hF3⟩ := (LL.out.ext (Only.refl No wr).drew).dkr (Cov.up h01 hsz) hr3
        have O3 : Only (Frn w0 wr) wr u3 := ((Only.refl No wr).drew).ext_frn hO3
        have L3 := Lib.hid hL3
        have O3h := Lib.hid O3
        have S3 : wr.heap.size ≤ u3.heap.size := O3.size
        refine ⟨_, rfl, hK _ _ (fun _ => Cl.of ((Only.any (Only.refl No wr).drew : Only r'.fp wr wr.drew).trans hF3 fun _ _ e => e)) ?_⟩
        clear hK K hr3 hL3 hO3 O3 hF3 HWr D0 D1 D2 D3 D4 e2 e4
        simp only [Act.put, List.setIfInBounds_toArray, List.set_cons_succ, List.set_cons_zero]
        (repeat' (first | (refine Mix.lex_quiet0 rfl rfl rfl ?_; intro K hK; go_big_quiet_op; go_big_quiet_on) | (refine Mix.lex_quietG rfl rfl rfl (by with_reducible rfl) rfl rfl ?_; intro K hK; go_big_quiet_op; go_big_quiet_on) | ((first | refine Mix.lex_skipT rfl rfl rfl (by with_reducible rfl) ?_ | refine Mix.lex_skipF rfl rfl rfl (by with_reducible rfl) ?_ | refine Mix.lex_skipU rfl rfl rfl (by with_reducible rfl) ?_); simp only [Act.put, List.setIfInBounds_toArray, List.set_cons_succ, List.set_cons_zero]) | (refine Mix.lex_part rfl rfl rfl rfl (fun hq => ?_) (fun hq => ?_) <;> (fail_if_success (guard_hyp hq :ₛ true = true)) <;> (fail_if_success (guard_hyp hq :ₛ false = false)) <;> first | (exfalso; cases hq; done) | (exfalso; simp only [decide_eq_true_eq, decide_eq_false_iff_not, beq_iff_eq, beq_eq_false_iff_ne, ne_eq, Int.not_lt, Int.not_le] at hq; omega) | simp only [Act.put, List.setIfInBounds_toArray, List.set_cons_succ, List.set_cons_zero])))
        refine Mix.lex_nil ?_
        go_wp2_with (first | ((first | refine Mix.wpList_guarded rfl ?_ | refine Mix.wp_still (by kernel_rfl) (by kernel_rfl) ?_); (repeat' (first | (refine Mix.lex_quiet0 rfl rfl rfl ?_; intro K hK; go_big_quiet_op; go_big_quiet_on) | (refine Mix.lex_quietG rfl rfl rfl (by with_reducible rfl) rfl rfl ?_; intro K hK; go_big_quiet_op; go_big_quiet_on) | ((first | refine Mix.lex_skipT rfl rfl rfl (by with_reducible rfl) ?_ | refine Mix.lex_skipF rfl rfl rfl (by with_reducible rfl) ?_ | refine Mix.lex_skipU rfl rfl rfl (by with_reducible rfl) ?_); simp only [Act.put, List.setIfInBounds_toArray, List.set_cons_succ, List.set_cons_zero]) | (refine Mix.lex_part rfl rfl rfl rfl (fun hq => ?_) (fun hq => ?_) <;> (fail_if_success (guard_hyp hq :ₛ true = true)) <;> (fail_if_success (guard_hyp hq :ₛ false = false)) <;> first | (exfalso; cases hq; done) | (exfalso; simp only [decide_eq_true_eq, decide_eq_false_iff_not, beq_iff_eq, beq_eq_false_iff_ne, ne_eq, Int.not_lt, Int.not_le] at hq; omega) | simp only [Act.put, List.setIfInBounds_toArray, List.set_cons_succ, List.set_cons_zero]))); all_goals (refine Mix.lex_nil ?_)))
        go_ret
        rw [HF3.out]
        exact ⟨rfl, r3, by rw [hg3, hrg], L3.out, X1.out.ext_frn (OO.out.frn O3h.out), Nat.le_trans X1.out.size (Nat.le_trans hsz S3)⟩
      · have gend : decide ((l.next : Int) + (c.length : Int) + 1 < (l.many : Int)) = false := decide_eq_false (by omega)
        have HF3 := Lib.hid (HF2.out.trans (HEn.out.trans (if_neg hend)))
        clear D0 D1 D2 D3 D4
        go_wp2_with (first | ((first | refine Mix.wpList_guarded rfl ?_ | refine Mix.wp_still (by kernel_rfl) (by kernel_rfl) ?_); (repeat' (first | (refine Mix.lex_quiet0 rfl rfl rfl ?_; intro K hK; go_big_quiet_op; go_big_quiet_on) | (refine Mix.lex_quietG rfl rfl rfl (by with_reducible rfl) rfl rfl ?_; intro K hK; go_big_quiet_op; go_big_quiet_on) | ((first | refine Mix.lex_skipT rfl rfl rfl (by with_reducible rfl) ?_ | refine Mix.lex_skipF rfl rfl rfl (by with_reducible rfl) ?_ | refine Mix.lex_skipU rfl rfl rfl (by with_reducible rfl) ?_); simp only [Act.put, List.setIfInBounds_toArray, List.set_cons_succ, List.set_cons_zero]) | (refine Mix.lex_part rfl rfl rfl rfl (fun hq => ?_) (fun hq => ?_) <;> (fail_if_success (guard_hyp hq :ₛ true = true)) <;> (fail_if_success (guard_hyp hq :ₛ false = false)) <;> first | (exfalso; cases hq; done) | (exfalso; simp only [decide_eq_true_eq, decide_eq_false_iff_not, beq_iff_eq, beq_eq_false_iff_ne, ne_eq, Int.not_lt, Int.not_le] at hq; omega) | simp only [Act.put, List.setIfInBounds_toArray, List.set_cons_succ, List.set_cons_zero]))); all_goals (refine Mix.lex_nil ?_)))
        go_ret
        rw [HF3.out]
        exact ⟨rfl, r', hrg, LL.out, X1.out.ext_frn OO.out, Nat.le_trans X1.out.size hsz⟩
/- Add: its steps. -/
theorem fl_wait' (d : Dk) : d.fl.wait.length ≤ d.wait.length := by
  unfold Dk.fl Dk.stepped Dk.flushed
  repeat' split
  all_goals simp
theorem fl_now' (d : Dk) : d.fl.now.length = d.now.length := by
  unfold Dk.fl Dk.stepped Dk.flushed
  repeat' split
  all_goals simp
theorem layD_wait : ∀ (c : List Ch) (p : Int) (n : Nat) (d : Dk), (layD p n c d).1.wait.length ≤ d.wait.length + c.length
  | [], _, _, d => by simp [layD]
  | c :: r, p, n, d => by
    rw [layD_cons]
    have h1 := wr_wait' d p (textF 111 n (chEnc c))
    rw [List.length_cons]
    split
    · have := layD_wait r (p + 1) (n + 1) (d.wr p (textF 111 n (chEnc c)))
      omega
    · show (d.wr p (textF 111 n (chEnc c))).wait.length ≤ _
      omega
theorem layF_wait (l : LogR) (c : List Ch) (d : Dk) : (layF l c d).1.wait.length ≤ d.wait.length + c.length + 1 := by
  have h1 := layD_wait c ((l.from_ + l.next : Nat) : Int) (l.first + l.next) d
  unfold layF
  split
  · unfold layEnd
    split
    · exact Nat.le_trans (wr_wait' _ _ _) (by omega)
    · exact Nat.le_trans h1 (by omega)
  · omega
def closeF (l : LogR) (n : Nat) (d : Dk) : Dk × Int := (d.wr ((l.from_ + (l.next + n) : Nat) : Int) (textF 99 (l.first + (l.next + n)) (fourF n)), d.wrF ((l.from_ + (l.next + n) : Nat) : Int) (textF 99 (l.first + (l.next + n)) (fourF n)))
def chkA : List Ch → Int
  | [] => 0
  | c :: r => if chBad c = 0 then chkA r else chBad c
def addF (l : LogR) (c : List Ch) (d : Dk) : (LogR × Dk) × Int :=
  if 40 < c.length then ((l, d), 2)
  else if l.many - l.next < c.length + 1 then ((l, d), 10)
  else if chkA c ≠ 0 then ((l, d), chkA c)
  else if (layF l c d).2 ≠ 0 then ((l, (layF l c d).1), (layF l c d).2)
  else if (layF l c d).1.flF ≠ 0 then ((l, (layF l c d).1.fl), (layF l c d).1.flF)
  else if (closeF l c.length (layF l c d).1.fl).2 ≠ 0 then ((l, (closeF l c.length (layF l c d).1.fl).1), (closeF l c.length (layF l c d).1.fl).2)
  else if (closeF l c.length (layF l c d).1.fl).1.flF ≠ 0 then ((l, (closeF l c.length (layF l c d).1.fl).1.fl), (closeF l c.length (layF l c d).1.fl).1.flF)
  else (({ l with next := l.next + c.length + 1 }, (closeF l c.length (layF l c d).1.fl).1.fl), 0)
theorem Cs.frn {w0 : Nat → Prop} {w u : World} {g : Nat} {t : TypeId} {cs : Array Value} (h : Cs w g t cs) (h1 : t ≠ diskT) (h2 : t ≠ strT) (h3 : t ≠ turnT) (h4 : t ≠ logT) (hx : Only (Frn w0 w) w u) : Cs u g t cs := h.keep hx fun ⟨_, _, t', hc, ht⟩ => by
  rcases ht with rfl | rfl | rfl | rfl
  · exact Cs.ne_ h hc h1 rfl
  · exact Cs.ne_ h hc h2 rfl
  · exact Cs.ne_ h hc h3 rfl
  · exact Cs.ne_ h hc h4 rfl
abbrev bxL : TypeId := 74
abbrev bxI : TypeId := 3
theorem Add1_c {w0 : Nat → Prop} {w : World} {r : DkR} {l : LogR} {d : Dk} (hm0 : NoMl w0) (hml : Ml w) (h : LgW w0 w r l d) (h0 : Cov w0 w) {A : Option Addr} {cap : Nat} {c : List Ch} (hR : Rob w0 w fun u => SlR chF u A c.length c) (hb : ∀ x ∈ c, chBad x = 0 ∧ x.1.length ≤ 1000 ∧ x.2.1.length ≤ 1000)
    (hc : c.length ≤ 100) (hw : d.wait.length ≤ 1000) (hl : l.from_ ≤ 1000 ∧ l.many ≤ 1000 ∧ l.next ≤ 1000 ∧ l.first ≤ 1000000000000) {g2 g3 : Nat} (c2 : Cs w g2 bxL #[pt l.g]) (c3 : Cs w g3 deedT #[.slice A c.length cap]) :
    Calls Try.prog 62 #[pt g2, pt g3] w (LgRes w0 w l r.g (layF l c d)) := by
  have HL := Lib.hid (Lay_c (cap := cap) hm0 hml h h0 hR hb hc hw hl)
  have q2 : w.cell? ⟨g2, 0, none⟩ = some (pt l.g) := c2.cell 0
  have q3 : w.cell? ⟨g3, 0, none⟩ = some (.slice A c.length cap) := c3.cell 0
  clear h hR hm0 hml hb c2 c3
  go_enter Try.func62, Try.ntmps62
  go_wp2_with (first | ((first | refine Mix.wpList_guarded rfl ?_ | refine Mix.wp_still (by kernel_rfl) (by kernel_rfl) ?_); (repeat' (first | (refine Mix.lex_quiet0 rfl rfl rfl ?_; intro K hK; go_big_quiet_op; go_big_quiet_on) | (refine Mix.lex_quietG rfl rfl rfl (by with_reducible rfl) rfl rfl ?_; intro K hK; go_big_quiet_op; go_big_quiet_on) | ((first | refine Mix.lex_skipT rfl rfl rfl (by with_reducible rfl) ?_ | refine Mix.lex_skipF rfl rfl rfl (by with_reducible rfl) ?_ | refine Mix.lex_skipU rfl rfl rfl (by with_reducible rfl) ?_); simp only [Act.put, List.setIfInBounds_toArray, List.set_cons_succ, List.set_cons_zero]) | (refine Mix.lex_part rfl rfl rfl rfl (fun hq => ?_) (fun hq => ?_) <;> (fail_if_success (guard_hyp hq :ₛ true = true)) <;> (fail_if_success (guard_hyp hq :ₛ false = false)) <;> first | (exfalso; cases hq; done) | (exfalso; simp only [decide_eq_true_eq, decide_eq_false_iff_not, beq_iff_eq, beq_eq_false_iff_ne, ne_eq, Int.not_lt, Int.not_le] at hq; omega) | simp only [Act.put, List.setIfInBounds_toArray, List.set_cons_succ, List.set_cons_zero]))); all_goals (refine Mix.lex_nil ?_)))
  refine HL.out.mono ?_
  rintro e u ⟨rfl, hr⟩
  go_wp2_with (first | ((first | refine Mix.wpList_guarded rfl ?_ | refine Mix.wp_still (by kernel_rfl) (by kernel_rfl) ?_); (repeat' (first | (refine Mix.lex_quiet0 rfl rfl rfl ?_; intro K hK; go_big_quiet_op; go_big_quiet_on) | (refine Mix.lex_quietG rfl rfl rfl (by with_reducible rfl) rfl rfl ?_; intro K hK; go_big_quiet_op; go_big_quiet_on) | ((first | refine Mix.lex_skipT rfl rfl rfl (by with_reducible rfl) ?_ | refine Mix.lex_skipF rfl rfl rfl (by with_reducible rfl) ?_ | refine Mix.lex_skipU rfl rfl rfl (by with_reducible rfl) ?_); simp only [Act.put, List.setIfInBounds_toArray, List.set_cons_succ, List.set_cons_zero]) | (refine Mix.lex_part rfl rfl rfl rfl (fun hq => ?_) (fun hq => ?_) <;> (fail_if_success (guard_hyp hq :ₛ true = true)) <;> (fail_if_success (guard_hyp hq :ₛ false = false)) <;> first | (exfalso; cases hq; done) | (exfalso; simp only [decide_eq_true_eq, decide_eq_false_iff_not, beq_iff_eq, beq_eq_false_iff_ne, ne_eq, Int.not_lt, Int.not_le] at hq; omega) | simp only [Act.put, List.setIfInBounds_toArray, List.set_cons_succ, List.set_cons_zero]))); all_goals (refine Mix.lex_nil ?_)))
  go_ret
  exact ⟨rfl, hr⟩
set_option maxRecDepth 100000 in
set_option maxHeartbeats 1000000 in
theorem Add2_c {w0 : Nat → Prop} {w : World} {r : DkR} {l : LogR} {d : Dk} (h : LgW w0 w r l d) (h0 : Cov w0 w) {A : Option Addr} {cap n : Nat} (hc : n ≤ 100) (hw : d.wait.length ≤ 10000) (hl : l.from_ ≤ 1000 ∧ l.many ≤ 1000 ∧ l.next ≤ 1000 ∧ l.first ≤ 1000000000000)
    {g2 g3 g8 : Nat} (c2 : Cs w g2 bxL #[pt l.g]) (c8 : Cs w g8 bxI #[.int .i64 (l.next + n : Nat)]) (c3 : Cs w g3 deedT #[.slice A n cap]) :
    Calls Try.prog 64 #[pt g2, pt g8, pt g3] w (LgRes w0 w l r.g (closeF l n d)) := by
  obtain ⟨hl1, hl2, hl3, hl4⟩ := hl
  have H := Lib.hid h
  obtain ⟨D0, D1, D2, D3, D4⟩ := h.x
  have n2 : ¬ r.fp g2 := fp_ne h.dk c2 (by decide) (by decide) (by decide)
  have n8 : ¬ r.fp g8 := fp_ne h.dk c8 (by decide) (by decide) (by decide)
  have n3 : ¬ r.fp g3 := fp_ne h.dk c3 (by decide) (by decide) (by decide)
  have E2 : ∀ ξ : X w r.fp, ξ.v.cell? ⟨g2, 0, none⟩ = some (pt l.g) := c2.x n2 0
  have E8 : ∀ ξ : X w r.fp, ξ.v.cell? ⟨g8, 0, none⟩ = some (.int .i64 ((l.next + n : Nat) : Int)) := c8.x n8 0
  have E3 : ∀ ξ : X w r.fp, ξ.v.cell? ⟨g3, 0, none⟩ = some (.slice A n cap) := c3.x n3 0
  have HF4 := Lib.hid (fun v => Four_c n v)
  have HC : Hid (closeF l n d = (d.wr ((l.from_ + (l.next + n) : Nat) : Int) (textF 99 (l.first + (l.next + n)) (fourF n)), d.wrF ((l.from_ + (l.next + n) : Nat) : Int) (textF 99 (l.first + (l.next + n)) (fourF n)))) := rfl
  have hf4 := fourF_len n
  generalize fourF n = f4 at HF4 HC hf4
  obtain ⟨q, hq⟩ : ∃ q, q = l.next + n := ⟨_, rfl⟩
  rw [← hq] at E8 HC
  have hq2 : q ≤ 1100 := by omega
  have HTx : Hid (∀ v, Calls Try.prog 65 #[.int .u8 99, .int .i64 ((l.first : Int) + (q : Int)), S f4] v fun e w' => e = .returned (S (textF 99 (l.first + q) f4)) ∧ Ext v w') := fun v => by
    have := Text_lg 99 (l.first + q) f4 (by omega) v
    rw [show ((l.first + q : Nat) : Int) = (l.first : Int) + (q : Int) by omega] at this
    exact this
  have htl := textF_len 99 (l.first + q) f4
  generalize textF 99 (l.first + q) f4 = tx at HTx HC htl
  have HWr : Hid (∀ v, Ext w v → Calls Try.prog 36 #[pt r.g, .int .i64 ((l.from_ : Int) + (q : Int)), S tx] v (DkRes v r (d.wr ((l.from_ + q : Nat) : Int) tx) (errV (d.wrF ((l.from_ + q : Nat) : Int) tx)))) := fun v hv => by
    have := Write_all (H.out.dk.ext hv) ((l.from_ + q : Nat) : Int) tx (by omega) (by omega)
    rw [show (l.from_ : Int) + (q : Int) = ((l.from_ + q : Nat) : Int) by omega]
    exact this
  clear h c2 c8 c3 n2 n8 n3 hq D2 D4
  go_enter Try.func64, Try.ntmps64
  go_upto_region 1 with fail
  (refine Mix.wp_draw [18, 19, 20] 100 (Cl (w) (r.fp)) (by kernel_rfl) (by kernel_rfl) (Cl.drew_ (X.here w r.fp)) ?_; (repeat' (first | (refine Mix.lex_quiet0 rfl rfl rfl ?_; intro K hK; go_big_quiet_op; go_big_quiet_on) | (refine Mix.lex_quietG rfl rfl rfl (by with_reducible rfl) rfl rfl ?_; intro K hK; go_big_quiet_op; go_big_quiet_on) | ((first | refine Mix.lex_skipT rfl rfl rfl (by with_reducible rfl) ?_ | refine Mix.lex_skipF rfl rfl rfl (by with_reducible rfl) ?_ | refine Mix.lex_skipU rfl rfl rfl (by with_reducible rfl) ?_); simp only [Act.put, List.setIfInBounds_toArray, List.set_cons_succ, List.set_cons_zero]) | (refine Mix.lex_part rfl rfl rfl rfl (fun hq => ?_) (fun hq => ?_) <;> (fail_if_success (guard_hyp hq :ₛ true = true)) <;> (fail_if_success (guard_hyp hq :ₛ false = false)) <;> first | (exfalso; cases hq; done) | (exfalso; simp only [decide_eq_true_eq, decide_eq_false_iff_not, beq_iff_eq, beq_eq_false_iff_ne, ne_eq, Int.not_lt, Int.not_le] at hq; omega) | simp only [Act.put, List.setIfInBounds_toArray, List.set_cons_succ, List.set_cons_zero]))))
  ((first | refine Mix.lex_goes0 rfl rfl ?_ | refine Mix.lex_goesG rfl rfl rfl (by with_reducible rfl) rfl ?_); intro K hK; go_simp)
  refine (HF4.out _).mono ?_
  rintro e u1 ⟨rfl, hu⟩
  have X1 : Ext w u1 := (Only.refl No w).drew.then_ext hu
  refine ⟨_, rfl, hK _ _ (fun _ => Cl.of X1.any) ?_⟩
  clear hK K hu HF4
  simp only [Act.put, List.setIfInBounds_toArray, List.set_cons_succ, List.set_cons_zero]
  (repeat' (first | (refine Mix.lex_quiet0 rfl rfl rfl ?_; intro K hK; go_big_quiet_op; go_big_quiet_on) | (refine Mix.lex_quietG rfl rfl rfl (by with_reducible rfl) rfl rfl ?_; intro K hK; go_big_quiet_op; go_big_quiet_on) | ((first | refine Mix.lex_skipT rfl rfl rfl (by with_reducible rfl) ?_ | refine Mix.lex_skipF rfl rfl rfl (by with_reducible rfl) ?_ | refine Mix.lex_skipU rfl rfl rfl (by with_reducible rfl) ?_); simp only [Act.put, List.setIfInBounds_toArray, List.set_cons_succ, List.set_cons_zero]) | (refine Mix.lex_part rfl rfl rfl rfl (fun hq => ?_) (fun hq => ?_) <;> (fail_if_success (guard_hyp hq :ₛ true = true)) <;> (fail_if_success (guard_hyp hq :ₛ false = false)) <;> first | (exfalso; cases hq; done) | (exfalso; simp only [decide_eq_true_eq, decide_eq_false_iff_not, beq_iff_eq, beq_eq_false_iff_ne, ne_eq, Int.not_lt, Int.not_le] at hq; omega) | simp only [Act.put, List.setIfInBounds_toArray, List.set_cons_succ, List.set_cons_zero])))
  ((first | refine Mix.lex_goes0 rfl rfl ?_ | refine Mix.lex_goesG rfl rfl rfl (by with_reducible rfl) rfl ?_); intro K hK; go_simp)
  refine (HTx.out _).mono ?_
  rintro e u2 ⟨rfl, hu⟩
  have X2 : Ext w u2 := X1.then_ext hu
  refine ⟨_, rfl, hK _ _ (fun _ => Cl.of X2.any) ?_⟩
  clear hK K hu HTx X1
  simp only [Act.put, List.setIfInBounds_toArray, List.set_cons_succ, List.set_cons_zero]
  (repeat' (first | (refine Mix.lex_quiet0 rfl rfl rfl ?_; intro K hK; go_big_quiet_op; go_big_quiet_on) | (refine Mix.lex_quietG rfl rfl rfl (by with_reducible rfl) rfl rfl ?_; intro K hK; go_big_quiet_op; go_big_quiet_on) | ((first | refine Mix.lex_skipT rfl rfl rfl (by with_reducible rfl) ?_ | refine Mix.lex_skipF rfl rfl rfl (by with_reducible rfl) ?_ | refine Mix.lex_skipU rfl rfl rfl (by with_reducible rfl) ?_); simp only [Act.put, List.setIfInBounds_toArray, List.set_cons_succ, List.set_cons_zero]) | (refine Mix.lex_part rfl rfl rfl rfl (fun hq => ?_) (fun hq => ?_) <;> (fail_if_success (guard_hyp hq :ₛ true = true)) <;> (fail_if_success (guard_hyp hq :ₛ false = false)) <;> first | (exfalso; cases hq; done) | (exfalso; simp only [decide_eq_true_eq, decide_eq_false_iff_not, beq_iff_eq, beq_eq_false_iff_ne, ne_eq, Int.not_lt, Int.not_le] at hq; omega) | simp only [Act.put, List.setIfInBounds_toArray, List.set_cons_succ, List.set_cons_zero])))
  ((first | refine Mix.lex_goes0 rfl rfl ?_ | refine Mix.lex_goesG rfl rfl rfl (by with_reducible rfl) rfl ?_); intro K hK; go_simp)
  refine (HWr.out _ X2).mono ?_
  intro e u3 hr3
  obtain ⟨rfl, r3, hg3, hL3, hO3, hF3⟩ := (H.out.ext X2).dkr (Cov.up h0 X2.size) hr3
  have O3 := Lib.hid (X2.ext_frn hO3)
  have L3 := Lib.hid hL3
  refine ⟨_, rfl, hK _ _ (fun _ => Cl.of ((X2.any : Only r.fp w u2).trans hF3 fun _ _ e => e)) ?_⟩
  clear hK K hr3 hL3 hO3 hF3 HWr D0 D1 D3 E2 E3 E8
  simp only [Act.put, List.setIfInBounds_toArray, List.set_cons_succ, List.set_cons_zero]
  (repeat' (first | (refine Mix.lex_quiet0 rfl rfl rfl ?_; intro K hK; go_big_quiet_op; go_big_quiet_on) | (refine Mix.lex_quietG rfl rfl rfl (by with_reducible rfl) rfl rfl ?_; intro K hK; go_big_quiet_op; go_big_quiet_on) | ((first | refine Mix.lex_skipT rfl rfl rfl (by with_reducible rfl) ?_ | refine Mix.lex_skipF rfl rfl rfl (by with_reducible rfl) ?_ | refine Mix.lex_skipU rfl rfl rfl (by with_reducible rfl) ?_); simp only [Act.put, List.setIfInBounds_toArray, List.set_cons_succ, List.set_cons_zero]) | (refine Mix.lex_part rfl rfl rfl rfl (fun hq => ?_) (fun hq => ?_) <;> (fail_if_success (guard_hyp hq :ₛ true = true)) <;> (fail_if_success (guard_hyp hq :ₛ false = false)) <;> first | (exfalso; cases hq; done) | (exfalso; simp only [decide_eq_true_eq, decide_eq_false_iff_not, beq_iff_eq, beq_eq_false_iff_ne, ne_eq, Int.not_lt, Int.not_le] at hq; omega) | simp only [Act.put, List.setIfInBounds_toArray, List.set_cons_succ, List.set_cons_zero])))
  refine Mix.lex_nil ?_
  go_wp2_with (first | ((first | refine Mix.wpList_guarded rfl ?_ | refine Mix.wp_still (by kernel_rfl) (by kernel_rfl) ?_); (repeat' (first | (refine Mix.lex_quiet0 rfl rfl rfl ?_; intro K hK; go_big_quiet_op; go_big_quiet_on) | (refine Mix.lex_quietG rfl rfl rfl (by with_reducible rfl) rfl rfl ?_; intro K hK; go_big_quiet_op; go_big_quiet_on) | ((first | refine Mix.lex_skipT rfl rfl rfl (by with_reducible rfl) ?_ | refine Mix.lex_skipF rfl rfl rfl (by with_reducible rfl) ?_ | refine Mix.lex_skipU rfl rfl rfl (by with_reducible rfl) ?_); simp only [Act.put, List.setIfInBounds_toArray, List.set_cons_succ, List.set_cons_zero]) | (refine Mix.lex_part rfl rfl rfl rfl (fun hq => ?_) (fun hq => ?_) <;> (fail_if_success (guard_hyp hq :ₛ true = true)) <;> (fail_if_success (guard_hyp hq :ₛ false = false)) <;> first | (exfalso; cases hq; done) | (exfalso; simp only [decide_eq_true_eq, decide_eq_false_iff_not, beq_iff_eq, beq_eq_false_iff_ne, ne_eq, Int.not_lt, Int.not_le] at hq; omega) | simp only [Act.put, List.setIfInBounds_toArray, List.set_cons_succ, List.set_cons_zero]))); all_goals (refine Mix.lex_nil ?_)))
  go_ret
  rw [HC.out]
  exact ⟨rfl, r3, hg3, L3.out, O3.out, O3.out.size⟩
end Go.Proofs.Ytaphmmobmadfoaa
