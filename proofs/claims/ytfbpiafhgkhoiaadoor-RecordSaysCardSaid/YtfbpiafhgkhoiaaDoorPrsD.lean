/- The document's RecordIn (its memory: printed from XPat); what is read as a record is its text. -/
import Derived.Test.YtfbpiafhgkhoiaaDoorPat
import Derived.Test.YtfbpiafhgkhoiaaDoorPrs
import Derived.Test.YtfbpiafhgkhoiaaDoorNatl
namespace Go.Proofs.YtfbpiafhgkhoiaaDoor
open Go Go.RowKit
structure PAtD (w wr : World) (g2 g4 g8 : Nat) (s : Str) (bad : Bool) (v : RcdV) (cs : List Str) (nd od : List File) : Prop where
  rd : RdD wr g4 s bad
  rc : Cs wr g8 rcT #[.slice v.cA cs.length v.cc, .slice v.nA nd.length v.nc, .slice v.oA od.length v.oc]
  rs : Cs wr g2 rcT #[.slice none 0 0, .slice none 0 0, .slice none 0 0]
  fc : Fresh strF 9 w wr v.cA v.cc cs
  fn : Fresh fileF 45 w wr v.nA v.nc nd
  fo : Fresh fileF 45 w wr v.oA v.oc od
  ne : ∀ g, (Value.slice v.nA nd.length v.nc).ownBlock = some g → (Value.slice v.oA od.length v.oc).ownBlock ≠ some g
  n2 : w.heap.size ≤ g2
  n4 : w.heap.size ≤ g4
  n8 : w.heap.size ≤ g8
  n28 : g2 ≠ g8
section
variable {w wr u : World} {g2 g4 g8 : Nat} {s s' : Str} {bad bad' : Bool} {v : RcdV} {cs : List Str} {nd od : List File}
theorem PAtD.x (h : PAtD w wr g2 g4 g8 s bad v cs nd od) : Ext w wr := h.fc.ext
theorem PAtD.ext (h : PAtD w wr g2 g4 g8 s bad v cs nd od) (hx : Ext wr u) : PAtD w u g2 g4 g8 s bad v cs nd od :=
  ⟨h.rd.ext hx, h.rc.keep hx id, h.rs.keep hx id, h.fc.on hx, h.fn.on hx, h.fo.on hx, h.ne, h.n2, h.n4, h.n8, h.n28⟩
/-- The reader has been turned. -/
theorem PAtD.read (h : PAtD w wr g2 g4 g8 s bad v cs nd od) (hr : RdD u g4 s' bad') (hx : Only (fun b => b = g4) wr u) : PAtD w u g2 g4 g8 s' bad' v cs nd od := by
  have hE : Ext w u := h.x.trans hx fun b hb e => by have e : b = g4 := e; have := h.n4; omega
  exact ⟨hr, h.rc.keep hx (fun e => Cs.ne_ h.rc h.rd (by decide) e), h.rs.keep hx (fun e => Cs.ne_ h.rs h.rd (by decide) e),
    h.fc.keep hx hE (own_ne_cs h.fc.own h.rd (by decide)), h.fn.keep hx hE (own_ne_cs h.fn.own h.rd (by decide)), h.fo.keep hx hE (own_ne_cs h.fo.own h.rd (by decide)), h.ne, h.n2, h.n4, h.n8, h.n28⟩
/-- Another block of the call's own has been written. -/
theorem PAtD.away (h : PAtD w wr g2 g4 g8 s bad v cs nd od) {g : Nat} (hx : Only (fun b => b = g) wr u) (hw : w.heap.size ≤ g) (h2 : g2 ≠ g) (h4 : g4 ≠ g) (h8 : g8 ≠ g)
    (hc : ∀ b, (Value.slice v.cA cs.length v.cc).ownBlock = some b → ¬ b = g) (hn : ∀ b, (Value.slice v.nA nd.length v.nc).ownBlock = some b → ¬ b = g) (ho : ∀ b, (Value.slice v.oA od.length v.oc).ownBlock = some b → ¬ b = g) : PAtD w u g2 g4 g8 s bad v cs nd od := by
  have hE : Ext w u := h.x.trans hx fun b hb e => by have e : b = g := e; omega
  exact ⟨Cs.keep h.rd hx h4, h.rc.keep hx h8, h.rs.keep hx h2, h.fc.keep hx hE hc, h.fn.keep hx hE hn, h.fo.keep hx hE ho, h.ne, h.n2, h.n4, h.n8, h.n28⟩
theorem PAtD.own_lt (h : PAtD w wr g2 g4 g8 s bad v cs nd od) : (∀ b, (Value.slice v.cA cs.length v.cc).ownBlock = some b → b < wr.heap.size) ∧ (∀ b, (Value.slice v.nA nd.length v.nc).ownBlock = some b → b < wr.heap.size) ∧ (∀ b, (Value.slice v.oA od.length v.oc).ownBlock = some b → b < wr.heap.size) := by
  refine ⟨fun b hb => ?_, fun b hb => ?_, fun b hb => ?_⟩
  · obtain ⟨_, hc⟩ := own_cs h.fc.own hb; exact hc.lt
  · obtain ⟨_, hc⟩ := own_cs h.fn.own hb; exact hc.lt
  · obtain ⟨_, hc⟩ := own_cs h.fo.own hb; exact hc.lt
/-- A part of the record has grown, and is laid. -/
theorem PAtD.growC (h : PAtD w u g2 g4 g8 s bad v cs nd od) {A' : Option Addr} {c' : Nat} {w5 : World} {t : Str}
    (hown : w5.ownsRow 0 9 1 (.slice A' (cs.length + 1 : Nat) c') (cs.length + 1) (cs.flatMap strF.enc ++ [t].flatMap strF.enc)) (hg : u.grownBy w5 (Value.slice v.cA cs.length v.cc).ownBlock)
    (hb : (Value.slice A' (cs.length + 1 : Nat) c').ownBlock = (Value.slice v.cA cs.length v.cc).ownBlock ∨ (Value.slice A' (cs.length + 1 : Nat) c').ownBlock = some u.heap.size) :
    PAtD w (w5.setCell ⟨g8, 0, none⟩ (.slice A' (cs.length + 1 : Nat) c')) g2 g4 g8 s bad { v with cA := A', cc := c' } (cs ++ [t]) nd od := by
  have O5 : Only (fun b => (Value.slice v.cA cs.length v.cc).ownBlock = some b) u w5 := (Only.refl _ _).grown hg fun g e => .inr e
  have F5 := h.fc.grow (ys := [t]) rfl hown hg hb
  have N5 := h.fn.keep O5 F5.ext (fun g h1 h2 => own_ne_own h.fn.own h.fc.own (by decide) g h1 h2)
  have P5 := h.fo.keep O5 F5.ext (fun g h1 h2 => own_ne_own h.fo.own h.fc.own (by decide) g h1 h2)
  have c5 := h.rc.keep O5 (fun e => own_ne_cs h.fc.own h.rc (by decide) _ e rfl)
  have s5 := h.rs.keep O5 (fun e => own_ne_cs h.fc.own h.rs (by decide) _ e rfl)
  have r5 : RdD w5 g4 s bad := Cs.keep h.rd O5 (fun e => own_ne_cs h.fc.own h.rd (by decide) _ e rfl)
  have O6 : Only (fun b => b = g8) w5 (w5.setCell ⟨g8, 0, none⟩ (.slice A' (cs.length + 1 : Nat) c')) := (Only.refl _ _).at_ 0 _
  have E6 : Ext w (w5.setCell ⟨g8, 0, none⟩ (.slice A' (cs.length + 1 : Nat) c')) := F5.ext.trans O6 fun b hb e => by have e : b = g8 := e; have := h.n8; omega
  refine ⟨Cs.keep r5 O6 (fun e => Cs.ne_ c5 r5 (by decide) e.symm), ?_, s5.keep O6 h.n28, F5.keep O6 E6 (own_ne_cs F5.own c5 (by decide)), N5.keep O6 E6 (own_ne_cs N5.own c5 (by decide)), P5.keep O6 E6 (own_ne_cs P5.own c5 (by decide)), h.ne, h.n2, h.n4, h.n8, h.n28⟩
  have := c5.set_ 0 (.slice A' (cs.length + 1 : Nat) c')
  rw [List.length_append]
  exact this
theorem PAtD.growN (h : PAtD w u g2 g4 g8 s bad v cs nd []) (ho : v.oA = none) {A' : Option Addr} {c' : Nat} {w5 : World} {t : File}
    (hown : w5.ownsRow 0 45 2 (.slice A' (nd.length + 1 : Nat) c') (nd.length + 1) (nd.flatMap fileF.enc ++ [t].flatMap fileF.enc)) (hg : u.grownBy w5 (Value.slice v.nA nd.length v.nc).ownBlock)
    (hb : (Value.slice A' (nd.length + 1 : Nat) c').ownBlock = (Value.slice v.nA nd.length v.nc).ownBlock ∨ (Value.slice A' (nd.length + 1 : Nat) c').ownBlock = some u.heap.size) :
    PAtD w (w5.setCell ⟨g8, 1, none⟩ (.slice A' (nd.length + 1 : Nat) c')) g2 g4 g8 s bad { v with nA := A', nc := c' } cs (nd ++ [t]) [] := by
  have O5 : Only (fun b => (Value.slice v.nA nd.length v.nc).ownBlock = some b) u w5 := (Only.refl _ _).grown hg fun g e => .inr e
  have F5 := h.fn.grow (ys := [t]) rfl hown hg hb
  have N5 := h.fc.keep O5 F5.ext (fun g h1 h2 => own_ne_own h.fc.own h.fn.own (by decide) g h1 h2)
  have P5 := h.fo.keep O5 F5.ext (fun g h1 h2 => by rw [ho] at h1; simp [Value.ownBlock] at h1)
  have c5 := h.rc.keep O5 (fun e => own_ne_cs h.fn.own h.rc (by decide) _ e rfl)
  have s5 := h.rs.keep O5 (fun e => own_ne_cs h.fn.own h.rs (by decide) _ e rfl)
  have r5 : RdD w5 g4 s bad := Cs.keep h.rd O5 (fun e => own_ne_cs h.fn.own h.rd (by decide) _ e rfl)
  have O6 : Only (fun b => b = g8) w5 (w5.setCell ⟨g8, 1, none⟩ (.slice A' (nd.length + 1 : Nat) c')) := (Only.refl _ _).at_ 1 _
  have E6 : Ext w (w5.setCell ⟨g8, 1, none⟩ (.slice A' (nd.length + 1 : Nat) c')) := F5.ext.trans O6 fun b hb e => by have e : b = g8 := e; have := h.n8; omega
  refine ⟨Cs.keep r5 O6 (fun e => Cs.ne_ c5 r5 (by decide) e.symm), ?_, s5.keep O6 h.n28, N5.keep O6 E6 (own_ne_cs N5.own c5 (by decide)), F5.keep O6 E6 (own_ne_cs F5.own c5 (by decide)), P5.keep O6 E6 (own_ne_cs P5.own c5 (by decide)), fun g _ h2 => by simp [ho, Value.ownBlock] at h2, h.n2, h.n4, h.n8, h.n28⟩
  have := c5.set_ 1 (.slice A' (nd.length + 1 : Nat) c')
  rw [List.length_append]
  exact this
theorem PAtD.growO (h : PAtD w u g2 g4 g8 s bad v cs nd od) {A' : Option Addr} {c' : Nat} {w5 : World} {t : File}
    (hown : w5.ownsRow 0 45 2 (.slice A' (od.length + 1 : Nat) c') (od.length + 1) (od.flatMap fileF.enc ++ [t].flatMap fileF.enc)) (hg : u.grownBy w5 (Value.slice v.oA od.length v.oc).ownBlock)
    (hb : (Value.slice A' (od.length + 1 : Nat) c').ownBlock = (Value.slice v.oA od.length v.oc).ownBlock ∨ (Value.slice A' (od.length + 1 : Nat) c').ownBlock = some u.heap.size) :
    PAtD w (w5.setCell ⟨g8, 2, none⟩ (.slice A' (od.length + 1 : Nat) c')) g2 g4 g8 s bad { v with oA := A', oc := c' } cs nd (od ++ [t]) := by
  have O5 : Only (fun b => (Value.slice v.oA od.length v.oc).ownBlock = some b) u w5 := (Only.refl _ _).grown hg fun g e => .inr e
  have F5 := h.fo.grow (ys := [t]) rfl hown hg hb
  have N5 := h.fc.keep O5 F5.ext (fun g h1 h2 => own_ne_own h.fc.own h.fo.own (by decide) g h1 h2)
  have P5 := h.fn.keep O5 F5.ext (fun g h1 h2 => h.ne g h1 h2)
  have c5 := h.rc.keep O5 (fun e => own_ne_cs h.fo.own h.rc (by decide) _ e rfl)
  have s5 := h.rs.keep O5 (fun e => own_ne_cs h.fo.own h.rs (by decide) _ e rfl)
  have r5 : RdD w5 g4 s bad := Cs.keep h.rd O5 (fun e => own_ne_cs h.fo.own h.rd (by decide) _ e rfl)
  have O6 : Only (fun b => b = g8) w5 (w5.setCell ⟨g8, 2, none⟩ (.slice A' (od.length + 1 : Nat) c')) := (Only.refl _ _).at_ 2 _
  have E6 : Ext w (w5.setCell ⟨g8, 2, none⟩ (.slice A' (od.length + 1 : Nat) c')) := F5.ext.trans O6 fun b hb e => by have e : b = g8 := e; have := h.n8; omega
  refine ⟨Cs.keep r5 O6 (fun e => Cs.ne_ c5 r5 (by decide) e.symm), ?_, s5.keep O6 h.n28, N5.keep O6 E6 (own_ne_cs N5.own c5 (by decide)), P5.keep O6 E6 (own_ne_cs P5.own c5 (by decide)), F5.keep O6 E6 (own_ne_cs F5.own c5 (by decide)), fun g h1 h2 => ?_, h.n2, h.n4, h.n8, h.n28⟩
  · have := c5.set_ 2 (.slice A' (od.length + 1 : Nat) c')
    rw [List.length_append]
    exact this
  · rw [List.length_append] at h2
    rcases hb with hb | hb
    · exact h.ne g h1 (hb.symm.trans h2)
    · have h3 : some u.heap.size = some g := hb.symm.trans h2
      injection h3 with h3
      obtain ⟨cur, hc⟩ := own_cs h.fn.own h1
      have := hc.lt
      omega
end
@[go_sem] theorem rdD_build (s : ByteArray) (w : World) : (Instr.build rdD #[(0, .string s)]).run Tryd.prog w = .ok (.agg #[.string s, .bool false]) w := run_build w rdD _ _ (by kernel_rfl)
def docOk (s : Str) : Bool := !(prsX s).2.2 && ((prsX s).2.1 == [])
/-- G2, as the document reads it. -/
def docF (s : Str) : Rcd × Int := if docOk s = true then ((prsX s).1, 0) else (rcd0, 4)
set_option maxRecDepth 100000 in
set_option maxHeartbeats 4000000 in
theorem RecordIn_c {w : World} (s : Str) (hs : s.length ≤ 5000) :
    Calls Tryd.prog 16 #[S s] w fun e w' => ∃ v, e = .returned (.tuple #[rcdV v (docF s).1, .int .i64 (docF s).2]) ∧ RcdR w' v (docF s).1 ∧ Ext w w' := by
  obtain ⟨g2, hg2⟩ : ∃ g, g = w.heap.size := ⟨_, rfl⟩
  obtain ⟨g4, hg4⟩ : ∃ g, g = w.heap.size + 1 := ⟨_, rfl⟩
  obtain ⟨w1, hw1⟩ : ∃ w1, w1 = w.alloc (.cells #[.slice none 0 0, .slice none 0 0, .slice none 0 0] rcT) := ⟨_, rfl⟩
  obtain ⟨w2, hw2⟩ : ∃ w2, w2 = w1.alloc (.cells #[S (s ++ [32]), .bool false] rdD) := ⟨_, rfl⟩
  have x1 : Ext w w1 := by rw [hw1]; exact (Only.refl No w).alloc _
  have x2 : Ext w1 w2 := by rw [hw2]; exact (Only.refl No w1).alloc _
  have hz1 : w1.heap.size = w.heap.size + 1 := by rw [hw1]; simp
  have hc2 : Cs w1 g2 rcT #[.slice none 0 0, .slice none 0 0, .slice none 0 0] := by rw [hw1, hg2]; exact Cs.new _ _ _
  have hr2 : RdD w2 g4 (s ++ [32]) false := by rw [hw2, hg4, ← hz1]; exact Cs.new _ _ _
  have HC2 := Lib.hid (hc2.keep x2 id)
  have HR2 := Lib.hid hr2
  have HX2 := Lib.hid (x1.then_ext x2)
  have hw24 : w.heap.size ≤ g2 ∧ w.heap.size ≤ g4 ∧ g2 ≠ g4 := by omega
  obtain ⟨hn2, hn4, hn24⟩ := hw24
  have HP : Hid (docF s = if docOk s = true then ((prsX s).1, 0) else (rcd0, 4)) := rfl
  have HOk : Hid (docOk s = (!(prsX s).2.2 && ((prsX s).2.1 == []))) := rfl
  obtain ⟨N1, hN1⟩ : ∃ n, n = numF (s ++ [32]) false 32 3 := ⟨_, rfl⟩
  obtain ⟨N2, hN2⟩ : ∃ n, n = numF N1.1 N1.2.1 32 3 := ⟨_, rfl⟩
  obtain ⟨N3, hN3⟩ : ∃ n, n = numF N2.1 N2.2.1 32 2 := ⟨_, rfl⟩
  have HPx : Hid (prsX s = (⟨(cmdsF N1.2.2.toNat N3.1 N3.2.1).2.2, (filsF (N2.2.2.toNat + N3.2.2.toNat) (cmdsF N1.2.2.toNat N3.1 N3.2.1).1 (cmdsF N1.2.2.toNat N3.1 N3.2.1).2.1).2.2.take N2.2.2.toNat, (filsF (N2.2.2.toNat + N3.2.2.toNat) (cmdsF N1.2.2.toNat N3.1 N3.2.1).1 (cmdsF N1.2.2.toNat N3.1 N3.2.1).2.1).2.2.drop N2.2.2.toNat⟩,
      (filsF (N2.2.2.toNat + N3.2.2.toNat) (cmdsF N1.2.2.toNat N3.1 N3.2.1).1 (cmdsF N1.2.2.toNat N3.1 N3.2.1).2.1).1, (filsF (N2.2.2.toNat + N3.2.2.toNat) (cmdsF N1.2.2.toNat N3.1 N3.2.1).1 (cmdsF N1.2.2.toNat N3.1 N3.2.1).2.1).2.1)) := by
    subst hN3; subst hN2; subst hN1; rfl
  have f1 := numF_facts (s ++ [32]) false 32 3 (by omega)
  have f2 := numF_facts N1.1 N1.2.1 32 3 (by omega)
  have f3 := numF_facts N2.1 N2.2.1 32 2 (by omega)
  rw [← hN1] at f1
  rw [← hN2] at f2
  rw [← hN3] at f3
  have hsl : (s ++ [32]).length ≤ 5001 := by simp; omega
  have HQ1 : Hid (∀ v, Ext w v → RdD v g4 (s ++ [32]) false → Calls Tryd.prog 35 #[ptr g4, S [32], .int .i64 3] v (RdDRes v g4 N1.1 N1.2.1 (.int .i64 N1.2.2))) := fun v hv h => by rw [hN1]; exact numberD_c h (by omega) 32 3 (by omega) (by omega)
  have HQ2 : Hid (∀ v, Ext w v → RdD v g4 N1.1 N1.2.1 → Calls Tryd.prog 35 #[ptr g4, S [32], .int .i64 3] v (RdDRes v g4 N2.1 N2.2.1 (.int .i64 N2.2.2))) := fun v hv h => by rw [hN2]; exact numberD_c h (by omega) 32 3 (by omega) (by omega)
  have HQ3 : Hid (∀ v, Ext w v → RdD v g4 N2.1 N2.2.1 → Calls Tryd.prog 35 #[ptr g4, S [32], .int .i64 2] v (RdDRes v g4 N3.1 N3.2.1 (.int .i64 N3.2.2))) := fun v hv h => by rw [hN3]; exact numberD_c h (by omega) 32 2 (by omega) (by omega)
  clear hN1 hN2 hN3
  obtain ⟨s1, b1, na⟩ := N1
  obtain ⟨s2, b2, nb⟩ := N2
  obtain ⟨s3, b3, nc⟩ := N3
  dsimp only at f1 f2 f3 HPx HQ1 HQ2 HQ3
  obtain ⟨f11, f12, f13⟩ := f1
  obtain ⟨f21, f22, f23⟩ := f2
  obtain ⟨f31, f32, f33⟩ := f3
  obtain ⟨a, rfl⟩ : ∃ a : Nat, na = a := ⟨na.toNat, by omega⟩
  obtain ⟨b, rfl⟩ : ∃ a : Nat, nb = a := ⟨nb.toNat, by omega⟩
  obtain ⟨c, rfl⟩ : ∃ a : Nat, nc = a := ⟨nc.toNat, by omega⟩
  rw [Int.toNat_natCast, Int.toNat_natCast, Int.toNat_natCast] at HPx
  have hs3 : s3.length ≤ 5001 := by omega
  have ha3 : a ≤ 3 := by omega
  have hb3 : b ≤ 3 := by omega
  have hc3 : c ≤ 2 := by omega
  clear f11 f12 f13 f21 f22 f23 f31 f32 f33 hsl x1 x2 hz1 hc2 hr2
  go_enter Tryd.func16, Tryd.ntmps16
  go_upto_region 2 with fail
  rw [← hw1, ← hw2, ← hg4, ← hg2]
  clear hw1 hw2 hg4 hg2
  go_wp2_with (first | (refine Mix.wpList_guarded rfl ?_; (repeat' (first | (refine Mix.lex_quiet0 rfl rfl rfl ?_; intro K hK; go_big_quiet_op; go_big_quiet_on) | (refine Mix.lex_quietG rfl rfl rfl (by with_reducible rfl) rfl rfl ?_; intro K hK; go_big_quiet_op; go_big_quiet_on) | ((first | refine Mix.lex_skipT rfl rfl rfl (by with_reducible rfl) ?_ | refine Mix.lex_skipF rfl rfl rfl (by with_reducible rfl) ?_ | refine Mix.lex_skipU rfl rfl rfl (by with_reducible rfl) ?_); simp only [Act.put, List.setIfInBounds_toArray, List.set_cons_succ, List.set_cons_zero]) | (refine Mix.lex_part rfl rfl rfl rfl (fun hq => ?_) (fun hq => ?_) <;> (fail_if_success (guard_hyp hq :ₛ true = true)) <;> (fail_if_success (guard_hyp hq :ₛ false = false)) <;> first | (exfalso; cases hq; done) | (exfalso; simp only [decide_eq_true_eq, decide_eq_false_iff_not, beq_iff_eq, beq_eq_false_iff_ne, ne_eq, Int.not_lt, Int.not_le] at hq; omega) | simp only [Act.put, List.setIfInBounds_toArray, List.set_cons_succ, List.set_cons_zero]))); all_goals (refine Mix.lex_nil ?_)) | (refine Mix.wp_still (by kernel_rfl) (by kernel_rfl) ?_; (repeat' (first | (refine Mix.lex_quiet0 rfl rfl rfl ?_; intro K hK; go_big_quiet_op; go_big_quiet_on) | (refine Mix.lex_quietG rfl rfl rfl (by with_reducible rfl) rfl rfl ?_; intro K hK; go_big_quiet_op; go_big_quiet_on) | ((first | refine Mix.lex_skipT rfl rfl rfl (by with_reducible rfl) ?_ | refine Mix.lex_skipF rfl rfl rfl (by with_reducible rfl) ?_ | refine Mix.lex_skipU rfl rfl rfl (by with_reducible rfl) ?_); simp only [Act.put, List.setIfInBounds_toArray, List.set_cons_succ, List.set_cons_zero]) | (refine Mix.lex_part rfl rfl rfl rfl (fun hq => ?_) (fun hq => ?_) <;> (fail_if_success (guard_hyp hq :ₛ true = true)) <;> (fail_if_success (guard_hyp hq :ₛ false = false)) <;> first | (exfalso; cases hq; done) | (exfalso; simp only [decide_eq_true_eq, decide_eq_false_iff_not, beq_iff_eq, beq_eq_false_iff_ne, ne_eq, Int.not_lt, Int.not_le] at hq; omega) | simp only [Act.put, List.setIfInBounds_toArray, List.set_cons_succ, List.set_cons_zero]))); all_goals (refine Mix.lex_nil ?_)))
  refine (HQ1.out _ HX2.out HR2.out).mono ?_
  rintro e u1 ⟨rfl, q1, q2⟩
  have R1 := Lib.hid q1
  have X1 : Hid (Ext w u1) := HX2.out.trans q2 fun b hb e => by have e : b = g4 := e; omega
  have C1 := Lib.hid (HC2.out.keep q2 hn24)
  clear q1 q2 HQ1 HC2 HR2 HX2
  go_wp2_with (first | (refine Mix.wpList_guarded rfl ?_; (repeat' (first | (refine Mix.lex_quiet0 rfl rfl rfl ?_; intro K hK; go_big_quiet_op; go_big_quiet_on) | (refine Mix.lex_quietG rfl rfl rfl (by with_reducible rfl) rfl rfl ?_; intro K hK; go_big_quiet_op; go_big_quiet_on) | ((first | refine Mix.lex_skipT rfl rfl rfl (by with_reducible rfl) ?_ | refine Mix.lex_skipF rfl rfl rfl (by with_reducible rfl) ?_ | refine Mix.lex_skipU rfl rfl rfl (by with_reducible rfl) ?_); simp only [Act.put, List.setIfInBounds_toArray, List.set_cons_succ, List.set_cons_zero]) | (refine Mix.lex_part rfl rfl rfl rfl (fun hq => ?_) (fun hq => ?_) <;> (fail_if_success (guard_hyp hq :ₛ true = true)) <;> (fail_if_success (guard_hyp hq :ₛ false = false)) <;> first | (exfalso; cases hq; done) | (exfalso; simp only [decide_eq_true_eq, decide_eq_false_iff_not, beq_iff_eq, beq_eq_false_iff_ne, ne_eq, Int.not_lt, Int.not_le] at hq; omega) | simp only [Act.put, List.setIfInBounds_toArray, List.set_cons_succ, List.set_cons_zero]))); all_goals (refine Mix.lex_nil ?_)) | (refine Mix.wp_still (by kernel_rfl) (by kernel_rfl) ?_; (repeat' (first | (refine Mix.lex_quiet0 rfl rfl rfl ?_; intro K hK; go_big_quiet_op; go_big_quiet_on) | (refine Mix.lex_quietG rfl rfl rfl (by with_reducible rfl) rfl rfl ?_; intro K hK; go_big_quiet_op; go_big_quiet_on) | ((first | refine Mix.lex_skipT rfl rfl rfl (by with_reducible rfl) ?_ | refine Mix.lex_skipF rfl rfl rfl (by with_reducible rfl) ?_ | refine Mix.lex_skipU rfl rfl rfl (by with_reducible rfl) ?_); simp only [Act.put, List.setIfInBounds_toArray, List.set_cons_succ, List.set_cons_zero]) | (refine Mix.lex_part rfl rfl rfl rfl (fun hq => ?_) (fun hq => ?_) <;> (fail_if_success (guard_hyp hq :ₛ true = true)) <;> (fail_if_success (guard_hyp hq :ₛ false = false)) <;> first | (exfalso; cases hq; done) | (exfalso; simp only [decide_eq_true_eq, decide_eq_false_iff_not, beq_iff_eq, beq_eq_false_iff_ne, ne_eq, Int.not_lt, Int.not_le] at hq; omega) | simp only [Act.put, List.setIfInBounds_toArray, List.set_cons_succ, List.set_cons_zero]))); all_goals (refine Mix.lex_nil ?_)))
  refine (HQ2.out _ X1.out R1.out).mono ?_
  rintro e u2 ⟨rfl, q1, q2⟩
  have R2 := Lib.hid q1
  have X2 : Hid (Ext w u2) := X1.out.trans q2 fun b hb e => by have e : b = g4 := e; omega
  have C2 := Lib.hid (C1.out.keep q2 hn24)
  clear q1 q2 HQ2 C1 R1 X1
  go_wp2_with (first | (refine Mix.wpList_guarded rfl ?_; (repeat' (first | (refine Mix.lex_quiet0 rfl rfl rfl ?_; intro K hK; go_big_quiet_op; go_big_quiet_on) | (refine Mix.lex_quietG rfl rfl rfl (by with_reducible rfl) rfl rfl ?_; intro K hK; go_big_quiet_op; go_big_quiet_on) | ((first | refine Mix.lex_skipT rfl rfl rfl (by with_reducible rfl) ?_ | refine Mix.lex_skipF rfl rfl rfl (by with_reducible rfl) ?_ | refine Mix.lex_skipU rfl rfl rfl (by with_reducible rfl) ?_); simp only [Act.put, List.setIfInBounds_toArray, List.set_cons_succ, List.set_cons_zero]) | (refine Mix.lex_part rfl rfl rfl rfl (fun hq => ?_) (fun hq => ?_) <;> (fail_if_success (guard_hyp hq :ₛ true = true)) <;> (fail_if_success (guard_hyp hq :ₛ false = false)) <;> first | (exfalso; cases hq; done) | (exfalso; simp only [decide_eq_true_eq, decide_eq_false_iff_not, beq_iff_eq, beq_eq_false_iff_ne, ne_eq, Int.not_lt, Int.not_le] at hq; omega) | simp only [Act.put, List.setIfInBounds_toArray, List.set_cons_succ, List.set_cons_zero]))); all_goals (refine Mix.lex_nil ?_)) | (refine Mix.wp_still (by kernel_rfl) (by kernel_rfl) ?_; (repeat' (first | (refine Mix.lex_quiet0 rfl rfl rfl ?_; intro K hK; go_big_quiet_op; go_big_quiet_on) | (refine Mix.lex_quietG rfl rfl rfl (by with_reducible rfl) rfl rfl ?_; intro K hK; go_big_quiet_op; go_big_quiet_on) | ((first | refine Mix.lex_skipT rfl rfl rfl (by with_reducible rfl) ?_ | refine Mix.lex_skipF rfl rfl rfl (by with_reducible rfl) ?_ | refine Mix.lex_skipU rfl rfl rfl (by with_reducible rfl) ?_); simp only [Act.put, List.setIfInBounds_toArray, List.set_cons_succ, List.set_cons_zero]) | (refine Mix.lex_part rfl rfl rfl rfl (fun hq => ?_) (fun hq => ?_) <;> (fail_if_success (guard_hyp hq :ₛ true = true)) <;> (fail_if_success (guard_hyp hq :ₛ false = false)) <;> first | (exfalso; cases hq; done) | (exfalso; simp only [decide_eq_true_eq, decide_eq_false_iff_not, beq_iff_eq, beq_eq_false_iff_ne, ne_eq, Int.not_lt, Int.not_le] at hq; omega) | simp only [Act.put, List.setIfInBounds_toArray, List.set_cons_succ, List.set_cons_zero]))); all_goals (refine Mix.lex_nil ?_)))
  refine (HQ3.out _ X2.out R2.out).mono ?_
  rintro e u3 ⟨rfl, q1, q2⟩
  have R3 := Lib.hid q1
  have X3 : Hid (Ext w u3) := X2.out.trans q2 fun b hb e => by have e : b = g4 := e; omega
  have C3 := Lib.hid (C2.out.keep q2 hn24)
  clear q1 q2 HQ3 C2 R2 X2
  obtain ⟨g8, hg8⟩ : ∃ g, g = u3.heap.size := ⟨_, rfl⟩
  obtain ⟨u4, hu4⟩ : ∃ u, u = u3.alloc (.cells #[.slice none 0 0, .slice none 0 0, .slice none 0 0] rcT) := ⟨_, rfl⟩
  have P4 : Hid (PAtD w u4 g2 g4 g8 s3 b3 ⟨none, 0, none, 0, none, 0⟩ [] [] []) := by
    have x : Ext u3 u4 := by rw [hu4]; exact (Only.refl No u3).alloc _
    have e1 := X3.out.then_ext x
    refine ⟨R3.out.ext x, ?_, C3.out.keep x id, Fresh.nil _ _ _ _ e1, Fresh.nil _ _ _ _ e1, Fresh.nil _ _ _ _ e1, fun g h => by simp [Value.ownBlock] at h, hn2, hn4, ?_, ?_⟩
    · rw [hu4, hg8]; exact Cs.new _ _ _
    · rw [hg8]; exact X3.out.size
    · have := C3.out.lt; omega
  go_upto_region 6 with fail
  rw [← hu4, ← hg8]
  clear hu4 hg8 R3 X3 C3
  go_wp2_with (first | (refine Mix.wpList_guarded rfl ?_; (repeat' (first | (refine Mix.lex_quiet0 rfl rfl rfl ?_; intro K hK; go_big_quiet_op; go_big_quiet_on) | (refine Mix.lex_quietG rfl rfl rfl (by with_reducible rfl) rfl rfl ?_; intro K hK; go_big_quiet_op; go_big_quiet_on) | ((first | refine Mix.lex_skipT rfl rfl rfl (by with_reducible rfl) ?_ | refine Mix.lex_skipF rfl rfl rfl (by with_reducible rfl) ?_ | refine Mix.lex_skipU rfl rfl rfl (by with_reducible rfl) ?_); simp only [Act.put, List.setIfInBounds_toArray, List.set_cons_succ, List.set_cons_zero]) | (refine Mix.lex_part rfl rfl rfl rfl (fun hq => ?_) (fun hq => ?_) <;> (fail_if_success (guard_hyp hq :ₛ true = true)) <;> (fail_if_success (guard_hyp hq :ₛ false = false)) <;> first | (exfalso; cases hq; done) | (exfalso; simp only [decide_eq_true_eq, decide_eq_false_iff_not, beq_iff_eq, beq_eq_false_iff_ne, ne_eq, Int.not_lt, Int.not_le] at hq; omega) | simp only [Act.put, List.setIfInBounds_toArray, List.set_cons_succ, List.set_cons_zero]))); all_goals (refine Mix.lex_nil ?_)) | (refine Mix.wp_still (by kernel_rfl) (by kernel_rfl) ?_; (repeat' (first | (refine Mix.lex_quiet0 rfl rfl rfl ?_; intro K hK; go_big_quiet_op; go_big_quiet_on) | (refine Mix.lex_quietG rfl rfl rfl (by with_reducible rfl) rfl rfl ?_; intro K hK; go_big_quiet_op; go_big_quiet_on) | ((first | refine Mix.lex_skipT rfl rfl rfl (by with_reducible rfl) ?_ | refine Mix.lex_skipF rfl rfl rfl (by with_reducible rfl) ?_ | refine Mix.lex_skipU rfl rfl rfl (by with_reducible rfl) ?_); simp only [Act.put, List.setIfInBounds_toArray, List.set_cons_succ, List.set_cons_zero]) | (refine Mix.lex_part rfl rfl rfl rfl (fun hq => ?_) (fun hq => ?_) <;> (fail_if_success (guard_hyp hq :ₛ true = true)) <;> (fail_if_success (guard_hyp hq :ₛ false = false)) <;> first | (exfalso; cases hq; done) | (exfalso; simp only [decide_eq_true_eq, decide_eq_false_iff_not, beq_iff_eq, beq_eq_false_iff_ne, ne_eq, Int.not_lt, Int.not_le] at hq; omega) | simp only [Act.put, List.setIfInBounds_toArray, List.set_cons_succ, List.set_cons_zero]))); all_goals (refine Mix.lex_nil ?_)))
  go_loopw [9] (fun i wr => ∃ j : Nat, j ≤ a ∧ i = .int .i64 j ∧ ∃ (t : Str) (bd : Bool) (cA : Option Addr) (cc : Nat) (cs : List Str), PAtD w wr g2 g4 g8 t bd ⟨cA, cc, none, 0, none, 0⟩ cs [] [] ∧ cs.length = j ∧ t.length ≤ 5001 ∧
    cmdsF a s3 b3 = ((cmdsF (a - j) t bd).1, (cmdsF (a - j) t bd).2.1, cs ++ (cmdsF (a - j) t bd).2.2)) (fun i _ => a - (intOf i).toNat)
  case atStart => exact ⟨0, Nat.zero_le _, rfl, s3, b3, none, 0, [], P4.out, rfl, hs3, rfl⟩
  case round =>
    clear P4
    obtain ⟨j, hj, rfl, t, bd, cA, cc, cs, hP, hcl, htl, hF⟩ := hrel
    have P := Lib.hid hP
    have HF := Lib.hid hF
    clear hP hF
    by_cases hlt : j < a
    · obtain ⟨m, hm⟩ : ∃ m, a - j = m + 1 := ⟨a - j - 1, by omega⟩
      have HF2 : Hid (cmdsF a s3 b3 = ((cmdsF m (txtF t bd 300).1 (txtF t bd 300).2.1).1, (cmdsF m (txtF t bd 300).1 (txtF t bd 300).2.1).2.1, cs ++ (txtF t bd 300).2.2 :: (cmdsF m (txtF t bd 300).1 (txtF t bd 300).2.1).2.2)) := by rw [Hid, HF.out, hm]; rfl
      have hm2 : a - (j + 1) = m := by omega
      have HTx := Lib.hid (textD_c P.out.rd (by omega) 300 (by omega) (by omega))
      have hx := txtF_len t bd 300 (by omega)
      generalize txtF t bd 300 = q at HF2 HTx hx
      obtain ⟨t', bd', x⟩ := q
      dsimp only at HF2 HTx hx
      obtain ⟨hx1, hx2, hx3⟩ := hx
      subst hcl
      clear HF
      go_wp2_with (first | (refine Mix.wpList_guarded rfl ?_; (repeat' (first | (refine Mix.lex_quiet0 rfl rfl rfl ?_; intro K hK; go_big_quiet_op; go_big_quiet_on) | (refine Mix.lex_quietG rfl rfl rfl (by with_reducible rfl) rfl rfl ?_; intro K hK; go_big_quiet_op; go_big_quiet_on) | ((first | refine Mix.lex_skipT rfl rfl rfl (by with_reducible rfl) ?_ | refine Mix.lex_skipF rfl rfl rfl (by with_reducible rfl) ?_ | refine Mix.lex_skipU rfl rfl rfl (by with_reducible rfl) ?_); simp only [Act.put, List.setIfInBounds_toArray, List.set_cons_succ, List.set_cons_zero]) | (refine Mix.lex_part rfl rfl rfl rfl (fun hq => ?_) (fun hq => ?_) <;> (fail_if_success (guard_hyp hq :ₛ true = true)) <;> (fail_if_success (guard_hyp hq :ₛ false = false)) <;> first | (exfalso; cases hq; done) | (exfalso; simp only [decide_eq_true_eq, decide_eq_false_iff_not, beq_iff_eq, beq_eq_false_iff_ne, ne_eq, Int.not_lt, Int.not_le] at hq; omega) | simp only [Act.put, List.setIfInBounds_toArray, List.set_cons_succ, List.set_cons_zero]))); all_goals (refine Mix.lex_nil ?_)) | (refine Mix.wp_still (by kernel_rfl) (by kernel_rfl) ?_; (repeat' (first | (refine Mix.lex_quiet0 rfl rfl rfl ?_; intro K hK; go_big_quiet_op; go_big_quiet_on) | (refine Mix.lex_quietG rfl rfl rfl (by with_reducible rfl) rfl rfl ?_; intro K hK; go_big_quiet_op; go_big_quiet_on) | ((first | refine Mix.lex_skipT rfl rfl rfl (by with_reducible rfl) ?_ | refine Mix.lex_skipF rfl rfl rfl (by with_reducible rfl) ?_ | refine Mix.lex_skipU rfl rfl rfl (by with_reducible rfl) ?_); simp only [Act.put, List.setIfInBounds_toArray, List.set_cons_succ, List.set_cons_zero]) | (refine Mix.lex_part rfl rfl rfl rfl (fun hq => ?_) (fun hq => ?_) <;> (fail_if_success (guard_hyp hq :ₛ true = true)) <;> (fail_if_success (guard_hyp hq :ₛ false = false)) <;> first | (exfalso; cases hq; done) | (exfalso; simp only [decide_eq_true_eq, decide_eq_false_iff_not, beq_iff_eq, beq_eq_false_iff_ne, ne_eq, Int.not_lt, Int.not_le] at hq; omega) | simp only [Act.put, List.setIfInBounds_toArray, List.set_cons_succ, List.set_cons_zero]))); all_goals (refine Mix.lex_nil ?_)))
      refine HTx.out.mono ?_
      rintro e u5 ⟨rfl, q1, q2⟩
      have P5 := Lib.hid (P.out.read q1 q2)
      clear q1 q2 P HTx
      have P6 := Lib.hid (P5.out.ext ((Only.refl No u5).alloc (.cells #[S x] 9)))
      have y0 : u5.cell? ⟨g8, 0, none⟩ = some (.slice cA cs.length cc) := P5.out.rc.cell 0
      have hcl10 : cs.length ≤ 10 := by omega
      go_wp2_with (first | (at_builtin; go_must (refine wpList_append (v := .slice cA cs.length cc) (n := cs.length) (xs := cs.flatMap strF.enc) rfl st_ty rfl rfl rfl P6.out.fc.own (rd_one u5 _ [S x]) (by simp [Value.oneCell']) (by omega) ?_); intro A2 c2 w5 hown5 hg5 hb5; have P7 := Lib.hid (P6.out.growC (t := x) hown5 hg5 hb5); have O7 : Only (fun b => (Value.slice cA cs.length cc).ownBlock = some b) (u5.alloc (.cells #[S x] 9)) w5 := (Only.refl _ _).grown hg5 fun g hg => .inr hg; have C7 := P6.out.rc.keep O7 (fun e => own_ne_cs P6.out.fc.own P6.out.rc (by decide) _ e rfl); have z7 := C7.frozen 0; have y7 : w5.cell? ⟨g8, 0, none⟩ = some (.slice cA cs.length cc) := C7.cell 0; clear hown5 hg5 hb5 O7 C7) | (refine Mix.wpList_guarded rfl ?_; (repeat' (first | (refine Mix.lex_quiet0 rfl rfl rfl ?_; intro K hK; go_big_quiet_op; go_big_quiet_on) | (refine Mix.lex_quietG rfl rfl rfl (by with_reducible rfl) rfl rfl ?_; intro K hK; go_big_quiet_op; go_big_quiet_on) | ((first | refine Mix.lex_skipT rfl rfl rfl (by with_reducible rfl) ?_ | refine Mix.lex_skipF rfl rfl rfl (by with_reducible rfl) ?_ | refine Mix.lex_skipU rfl rfl rfl (by with_reducible rfl) ?_); simp only [Act.put, List.setIfInBounds_toArray, List.set_cons_succ, List.set_cons_zero]) | (refine Mix.lex_part rfl rfl rfl rfl (fun hq => ?_) (fun hq => ?_) <;> (fail_if_success (guard_hyp hq :ₛ true = true)) <;> (fail_if_success (guard_hyp hq :ₛ false = false)) <;> first | (exfalso; cases hq; done) | (exfalso; simp only [decide_eq_true_eq, decide_eq_false_iff_not, beq_iff_eq, beq_eq_false_iff_ne, ne_eq, Int.not_lt, Int.not_le] at hq; omega) | simp only [Act.put, List.setIfInBounds_toArray, List.set_cons_succ, List.set_cons_zero]))); all_goals (refine Mix.lex_nil ?_)) | (refine Mix.wp_still (by kernel_rfl) (by kernel_rfl) ?_; (repeat' (first | (refine Mix.lex_quiet0 rfl rfl rfl ?_; intro K hK; go_big_quiet_op; go_big_quiet_on) | (refine Mix.lex_quietG rfl rfl rfl (by with_reducible rfl) rfl rfl ?_; intro K hK; go_big_quiet_op; go_big_quiet_on) | ((first | refine Mix.lex_skipT rfl rfl rfl (by with_reducible rfl) ?_ | refine Mix.lex_skipF rfl rfl rfl (by with_reducible rfl) ?_ | refine Mix.lex_skipU rfl rfl rfl (by with_reducible rfl) ?_); simp only [Act.put, List.setIfInBounds_toArray, List.set_cons_succ, List.set_cons_zero]) | (refine Mix.lex_part rfl rfl rfl rfl (fun hq => ?_) (fun hq => ?_) <;> (fail_if_success (guard_hyp hq :ₛ true = true)) <;> (fail_if_success (guard_hyp hq :ₛ false = false)) <;> first | (exfalso; cases hq; done) | (exfalso; simp only [decide_eq_true_eq, decide_eq_false_iff_not, beq_iff_eq, beq_eq_false_iff_ne, ne_eq, Int.not_lt, Int.not_le] at hq; omega) | simp only [Act.put, List.setIfInBounds_toArray, List.set_cons_succ, List.set_cons_zero]))); all_goals (refine Mix.lex_nil ?_)))
      go_roundw
      case rel => exact ⟨cs.length + 1, by omega, by go_num, t', bd', A2, c2, cs ++ [x], P7.out, by simp, by omega, by rw [hm2, HF2.out]; simp⟩
      case measure => simp [intOf]; omega
    · obtain rfl : j = a := by omega
      have HK : Hid (cmdsF j s3 b3 = (t, bd, cs)) := by
        rw [Hid, HF.out, Nat.sub_self]
        simp [cmdsF]
      rw [HK.out] at HPx
      dsimp only at HPx
      have hcsl : cs.length ≤ 100 := by omega
      clear HF HK hlt hcl
      have HFi : Hid (filsF (b + c) t bd = ((filsF (b + c - 0) t bd).1, (filsF (b + c - 0) t bd).2.1, [] ++ (filsF (b + c - 0) t bd).2.2)) := rfl
      go_wp2_with (first | (refine Mix.wpList_guarded rfl ?_; (repeat' (first | (refine Mix.lex_quiet0 rfl rfl rfl ?_; intro K hK; go_big_quiet_op; go_big_quiet_on) | (refine Mix.lex_quietG rfl rfl rfl (by with_reducible rfl) rfl rfl ?_; intro K hK; go_big_quiet_op; go_big_quiet_on) | ((first | refine Mix.lex_skipT rfl rfl rfl (by with_reducible rfl) ?_ | refine Mix.lex_skipF rfl rfl rfl (by with_reducible rfl) ?_ | refine Mix.lex_skipU rfl rfl rfl (by with_reducible rfl) ?_); simp only [Act.put, List.setIfInBounds_toArray, List.set_cons_succ, List.set_cons_zero]) | (refine Mix.lex_part rfl rfl rfl rfl (fun hq => ?_) (fun hq => ?_) <;> (fail_if_success (guard_hyp hq :ₛ true = true)) <;> (fail_if_success (guard_hyp hq :ₛ false = false)) <;> first | (exfalso; cases hq; done) | (exfalso; simp only [decide_eq_true_eq, decide_eq_false_iff_not, beq_iff_eq, beq_eq_false_iff_ne, ne_eq, Int.not_lt, Int.not_le] at hq; omega) | simp only [Act.put, List.setIfInBounds_toArray, List.set_cons_succ, List.set_cons_zero]))); all_goals (refine Mix.lex_nil ?_)) | (refine Mix.wp_still (by kernel_rfl) (by kernel_rfl) ?_; (repeat' (first | (refine Mix.lex_quiet0 rfl rfl rfl ?_; intro K hK; go_big_quiet_op; go_big_quiet_on) | (refine Mix.lex_quietG rfl rfl rfl (by with_reducible rfl) rfl rfl ?_; intro K hK; go_big_quiet_op; go_big_quiet_on) | ((first | refine Mix.lex_skipT rfl rfl rfl (by with_reducible rfl) ?_ | refine Mix.lex_skipF rfl rfl rfl (by with_reducible rfl) ?_ | refine Mix.lex_skipU rfl rfl rfl (by with_reducible rfl) ?_); simp only [Act.put, List.setIfInBounds_toArray, List.set_cons_succ, List.set_cons_zero]) | (refine Mix.lex_part rfl rfl rfl rfl (fun hq => ?_) (fun hq => ?_) <;> (fail_if_success (guard_hyp hq :ₛ true = true)) <;> (fail_if_success (guard_hyp hq :ₛ false = false)) <;> first | (exfalso; cases hq; done) | (exfalso; simp only [decide_eq_true_eq, decide_eq_false_iff_not, beq_iff_eq, beq_eq_false_iff_ne, ne_eq, Int.not_lt, Int.not_le] at hq; omega) | simp only [Act.put, List.setIfInBounds_toArray, List.set_cons_succ, List.set_cons_zero]))); all_goals (refine Mix.lex_nil ?_)))
      go_loopw [11] (fun i wr => ∃ k : Nat, k ≤ b + c ∧ i = .int .i64 k ∧ ∃ (y : Str) (yb : Bool) (nA oA : Option Addr) (nc oc : Nat) (nd od : List File), PAtD w wr g2 g4 g8 y yb ⟨cA, cc, nA, nc, oA, oc⟩ cs nd od ∧ nd.length + od.length = k ∧ (k ≤ b → od = [] ∧ oA = none ∧ oc = 0) ∧ (b ≤ k → nd.length = b) ∧ y.length ≤ 5001 ∧
        filsF (b + c) t bd = ((filsF (b + c - k) y yb).1, (filsF (b + c - k) y yb).2.1, (nd ++ od) ++ (filsF (b + c - k) y yb).2.2)) (fun i _ => b + c - (intOf i).toNat)
      case atStart => exact ⟨0, Nat.zero_le _, rfl, t, bd, none, none, 0, 0, [], [], P.out, rfl, fun _ => ⟨rfl, rfl, rfl⟩, fun h => by simp; omega, htl, HFi.out⟩
      case round =>
        clear HFi P
        obtain ⟨k, hk, rfl, y, yb, nA, oA, nc, oc, nd, od, hP, hkl, hko, hkb, hyl, hFi⟩ := hrel
        have P0 := Lib.hid hP
        have HFi := Lib.hid hFi
        have HKo := Lib.hid hko
        have HKb := Lib.hid hkb
        clear hP hFi hko hkb
        by_cases hlt : k < b + c
        · obtain ⟨m, hm⟩ : ∃ m, b + c - k = m + 1 := ⟨b + c - k - 1, by omega⟩
          have hm2 : b + c - (k + 1) = m := by omega
          have HF2 : Hid (filsF (b + c) t bd = ((filsF m (filF y yb).1 (filF y yb).2.1).1, (filsF m (filF y yb).1 (filF y yb).2.1).2.1, (nd ++ od) ++ (filF y yb).2.2 :: (filsF m (filF y yb).1 (filF y yb).2.1).2.2)) := by rw [Hid, HFi.out, hm]; rfl
          have hfl1 := filF_len y yb
          have HFf : Hid (filF y yb = ((txtF (uptoF y yb 32).1 (uptoF y yb 32).2.1 20).1, (txtF (uptoF y yb 32).1 (uptoF y yb 32).2.1 20).2.1 || !nameB (uptoF y yb 32).2.2, ((uptoF y yb 32).2.2, (txtF (uptoF y yb 32).1 (uptoF y yb 32).2.1 20).2.2))) := rfl
          have HU := Lib.hid (word_c P0.out.rd (by omega) 32)
          have hul := uptoF_len y yb 32
          generalize uptoF y yb 32 = q at HFf HU hul
          obtain ⟨y1, yb1, nm⟩ := q
          dsimp only at HFf HU hul
          have HT2 := Lib.hid (fun v (h : RdD v g4 y1 yb1) => textD_c h (by omega) 20 (by omega) (by omega))
          have htl2 := txtF_len y1 yb1 20 (by omega)
          generalize txtF y1 yb1 20 = q at HFf HT2 htl2
          obtain ⟨y2, yb2, tx⟩ := q
          dsimp only at HFf HT2 htl2
          obtain ⟨nb, hnb⟩ : ∃ b, b = nameB nm := ⟨_, rfl⟩
          rw [← hnb] at HFf
          have HNm : Hid (∀ v, Calls Tryd.prog 38 #[S nm] v fun e w' => e = .returned (.bool nb) ∧ Ext v w') := fun v => by rw [hnb]; exact NameMay_c nm v (by omega)
          obtain ⟨nb2, hnb2⟩ : ∃ x, x = (yb2 || !nb) := ⟨_, rfl⟩
          have HNb := Lib.hid hnb2
          rw [← hnb2] at HFf
          have HF3 : Hid (filsF (b + c) t bd = ((filsF m y2 nb2).1, (filsF m y2 nb2).2.1, (nd ++ od) ++ (nm, tx) :: (filsF m y2 nb2).2.2)) := by rw [Hid, HF2.out, HFf.out]
          clear hnb hnb2 HF2 HFf hfl1 HFi
          obtain ⟨hul1, hul2⟩ := hul
          obtain ⟨htl21, htl22, htl23⟩ := htl2
          go_wp2_with (first | (refine Mix.wpList_guarded rfl ?_; (repeat' (first | (refine Mix.lex_quiet0 rfl rfl rfl ?_; intro K hK; go_big_quiet_op; go_big_quiet_on) | (refine Mix.lex_quietG rfl rfl rfl (by with_reducible rfl) rfl rfl ?_; intro K hK; go_big_quiet_op; go_big_quiet_on) | ((first | refine Mix.lex_skipT rfl rfl rfl (by with_reducible rfl) ?_ | refine Mix.lex_skipF rfl rfl rfl (by with_reducible rfl) ?_ | refine Mix.lex_skipU rfl rfl rfl (by with_reducible rfl) ?_); simp only [Act.put, List.setIfInBounds_toArray, List.set_cons_succ, List.set_cons_zero]) | (refine Mix.lex_part rfl rfl rfl rfl (fun hq => ?_) (fun hq => ?_) <;> (fail_if_success (guard_hyp hq :ₛ true = true)) <;> (fail_if_success (guard_hyp hq :ₛ false = false)) <;> first | (exfalso; cases hq; done) | (exfalso; simp only [decide_eq_true_eq, decide_eq_false_iff_not, beq_iff_eq, beq_eq_false_iff_ne, ne_eq, Int.not_lt, Int.not_le] at hq; omega) | simp only [Act.put, List.setIfInBounds_toArray, List.set_cons_succ, List.set_cons_zero]))); all_goals (refine Mix.lex_nil ?_)) | (refine Mix.wp_still (by kernel_rfl) (by kernel_rfl) ?_; (repeat' (first | (refine Mix.lex_quiet0 rfl rfl rfl ?_; intro K hK; go_big_quiet_op; go_big_quiet_on) | (refine Mix.lex_quietG rfl rfl rfl (by with_reducible rfl) rfl rfl ?_; intro K hK; go_big_quiet_op; go_big_quiet_on) | ((first | refine Mix.lex_skipT rfl rfl rfl (by with_reducible rfl) ?_ | refine Mix.lex_skipF rfl rfl rfl (by with_reducible rfl) ?_ | refine Mix.lex_skipU rfl rfl rfl (by with_reducible rfl) ?_); simp only [Act.put, List.setIfInBounds_toArray, List.set_cons_succ, List.set_cons_zero]) | (refine Mix.lex_part rfl rfl rfl rfl (fun hq => ?_) (fun hq => ?_) <;> (fail_if_success (guard_hyp hq :ₛ true = true)) <;> (fail_if_success (guard_hyp hq :ₛ false = false)) <;> first | (exfalso; cases hq; done) | (exfalso; simp only [decide_eq_true_eq, decide_eq_false_iff_not, beq_iff_eq, beq_eq_false_iff_ne, ne_eq, Int.not_lt, Int.not_le] at hq; omega) | simp only [Act.put, List.setIfInBounds_toArray, List.set_cons_succ, List.set_cons_zero]))); all_goals (refine Mix.lex_nil ?_)))
          refine HU.out.mono ?_
          rintro e v1 ⟨rfl, q1, q2⟩
          have P1 := Lib.hid (P0.out.read q1 q2)
          clear q1 q2 HU P0
          go_wp2_with (first | (refine Mix.wpList_guarded rfl ?_; (repeat' (first | (refine Mix.lex_quiet0 rfl rfl rfl ?_; intro K hK; go_big_quiet_op; go_big_quiet_on) | (refine Mix.lex_quietG rfl rfl rfl (by with_reducible rfl) rfl rfl ?_; intro K hK; go_big_quiet_op; go_big_quiet_on) | ((first | refine Mix.lex_skipT rfl rfl rfl (by with_reducible rfl) ?_ | refine Mix.lex_skipF rfl rfl rfl (by with_reducible rfl) ?_ | refine Mix.lex_skipU rfl rfl rfl (by with_reducible rfl) ?_); simp only [Act.put, List.setIfInBounds_toArray, List.set_cons_succ, List.set_cons_zero]) | (refine Mix.lex_part rfl rfl rfl rfl (fun hq => ?_) (fun hq => ?_) <;> (fail_if_success (guard_hyp hq :ₛ true = true)) <;> (fail_if_success (guard_hyp hq :ₛ false = false)) <;> first | (exfalso; cases hq; done) | (exfalso; simp only [decide_eq_true_eq, decide_eq_false_iff_not, beq_iff_eq, beq_eq_false_iff_ne, ne_eq, Int.not_lt, Int.not_le] at hq; omega) | simp only [Act.put, List.setIfInBounds_toArray, List.set_cons_succ, List.set_cons_zero]))); all_goals (refine Mix.lex_nil ?_)) | (refine Mix.wp_still (by kernel_rfl) (by kernel_rfl) ?_; (repeat' (first | (refine Mix.lex_quiet0 rfl rfl rfl ?_; intro K hK; go_big_quiet_op; go_big_quiet_on) | (refine Mix.lex_quietG rfl rfl rfl (by with_reducible rfl) rfl rfl ?_; intro K hK; go_big_quiet_op; go_big_quiet_on) | ((first | refine Mix.lex_skipT rfl rfl rfl (by with_reducible rfl) ?_ | refine Mix.lex_skipF rfl rfl rfl (by with_reducible rfl) ?_ | refine Mix.lex_skipU rfl rfl rfl (by with_reducible rfl) ?_); simp only [Act.put, List.setIfInBounds_toArray, List.set_cons_succ, List.set_cons_zero]) | (refine Mix.lex_part rfl rfl rfl rfl (fun hq => ?_) (fun hq => ?_) <;> (fail_if_success (guard_hyp hq :ₛ true = true)) <;> (fail_if_success (guard_hyp hq :ₛ false = false)) <;> first | (exfalso; cases hq; done) | (exfalso; simp only [decide_eq_true_eq, decide_eq_false_iff_not, beq_iff_eq, beq_eq_false_iff_ne, ne_eq, Int.not_lt, Int.not_le] at hq; omega) | simp only [Act.put, List.setIfInBounds_toArray, List.set_cons_succ, List.set_cons_zero]))); all_goals (refine Mix.lex_nil ?_)))
          refine (HT2.out _ P1.out.rd).mono ?_
          rintro e v2 ⟨rfl, q1, q2⟩
          have P2 := Lib.hid (P1.out.read q1 q2)
          clear q1 q2 HT2 P1
          go_wp2_with (first | (refine Mix.wpList_guarded rfl ?_; (repeat' (first | (refine Mix.lex_quiet0 rfl rfl rfl ?_; intro K hK; go_big_quiet_op; go_big_quiet_on) | (refine Mix.lex_quietG rfl rfl rfl (by with_reducible rfl) rfl rfl ?_; intro K hK; go_big_quiet_op; go_big_quiet_on) | ((first | refine Mix.lex_skipT rfl rfl rfl (by with_reducible rfl) ?_ | refine Mix.lex_skipF rfl rfl rfl (by with_reducible rfl) ?_ | refine Mix.lex_skipU rfl rfl rfl (by with_reducible rfl) ?_); simp only [Act.put, List.setIfInBounds_toArray, List.set_cons_succ, List.set_cons_zero]) | (refine Mix.lex_part rfl rfl rfl rfl (fun hq => ?_) (fun hq => ?_) <;> (fail_if_success (guard_hyp hq :ₛ true = true)) <;> (fail_if_success (guard_hyp hq :ₛ false = false)) <;> first | (exfalso; cases hq; done) | (exfalso; simp only [decide_eq_true_eq, decide_eq_false_iff_not, beq_iff_eq, beq_eq_false_iff_ne, ne_eq, Int.not_lt, Int.not_le] at hq; omega) | simp only [Act.put, List.setIfInBounds_toArray, List.set_cons_succ, List.set_cons_zero]))); all_goals (refine Mix.lex_nil ?_)) | (refine Mix.wp_still (by kernel_rfl) (by kernel_rfl) ?_; (repeat' (first | (refine Mix.lex_quiet0 rfl rfl rfl ?_; intro K hK; go_big_quiet_op; go_big_quiet_on) | (refine Mix.lex_quietG rfl rfl rfl (by with_reducible rfl) rfl rfl ?_; intro K hK; go_big_quiet_op; go_big_quiet_on) | ((first | refine Mix.lex_skipT rfl rfl rfl (by with_reducible rfl) ?_ | refine Mix.lex_skipF rfl rfl rfl (by with_reducible rfl) ?_ | refine Mix.lex_skipU rfl rfl rfl (by with_reducible rfl) ?_); simp only [Act.put, List.setIfInBounds_toArray, List.set_cons_succ, List.set_cons_zero]) | (refine Mix.lex_part rfl rfl rfl rfl (fun hq => ?_) (fun hq => ?_) <;> (fail_if_success (guard_hyp hq :ₛ true = true)) <;> (fail_if_success (guard_hyp hq :ₛ false = false)) <;> first | (exfalso; cases hq; done) | (exfalso; simp only [decide_eq_true_eq, decide_eq_false_iff_not, beq_iff_eq, beq_eq_false_iff_ne, ne_eq, Int.not_lt, Int.not_le] at hq; omega) | simp only [Act.put, List.setIfInBounds_toArray, List.set_cons_succ, List.set_cons_zero]))); all_goals (refine Mix.lex_nil ?_)))
          refine (HNm.out _).mono ?_
          rintro e v3 ⟨rfl, hu⟩
          have P3 := Lib.hid (P2.out.ext hu)
          clear hu HNm P2
          cases nb with
          | true =>
            have hnb2 : nb2 = yb2 := by rw [HNb.out]; simp
            subst hnb2
            clear HNb
            by_cases hkb : k < b
            · obtain ⟨e1, e2, e3⟩ := HKo.out (by omega)
              subst e1; subst e2; subst e3
              have g14 : decide ((k : Int) < (b : Int)) = true := by rw [decide_eq_true_iff]; omega
              have y0 : v3.cell? ⟨g8, 1, none⟩ = some (.slice nA nd.length nc) := P3.out.rc.cell 1
              have P8 := Lib.hid (P3.out.ext ((Only.refl No v3).alloc (.cells #[S nm, S tx] 45)))
              have hnl : nd.length ≤ 10 := by omega
              go_wp2_with (first | (at_builtin; go_must (refine wpList_append (v := .slice nA nd.length nc) (n := nd.length) (xs := nd.flatMap fileF.enc) rfl fl_ty rfl rfl rfl P8.out.fn.own (rd_one v3 _ [S nm, S tx]) (fl_enc1 [(nm, tx)]) (by omega) ?_); intro A2 c2 w5 hown5 hg5 hb5; have P9 := Lib.hid (P8.out.growN (t := (nm, tx)) rfl hown5 hg5 hb5); have O9 : Only (fun b => (Value.slice nA nd.length nc).ownBlock = some b) (v3.alloc (.cells #[S nm, S tx] 45)) w5 := (Only.refl _ _).grown hg5 fun g hg => .inr hg; have C9 := P8.out.rc.keep O9 (fun e => own_ne_cs P8.out.fn.own P8.out.rc (by decide) _ e rfl); have z9 := C9.frozen 1; have y9 : w5.cell? ⟨g8, 1, none⟩ = some (.slice nA nd.length nc) := C9.cell 1; clear hown5 hg5 hb5 O9 C9) | (refine Mix.wpList_guarded rfl ?_; (repeat' (first | (refine Mix.lex_quiet0 rfl rfl rfl ?_; intro K hK; go_big_quiet_op; go_big_quiet_on) | (refine Mix.lex_quietG rfl rfl rfl (by with_reducible rfl) rfl rfl ?_; intro K hK; go_big_quiet_op; go_big_quiet_on) | ((first | refine Mix.lex_skipT rfl rfl rfl (by with_reducible rfl) ?_ | refine Mix.lex_skipF rfl rfl rfl (by with_reducible rfl) ?_ | refine Mix.lex_skipU rfl rfl rfl (by with_reducible rfl) ?_); simp only [Act.put, List.setIfInBounds_toArray, List.set_cons_succ, List.set_cons_zero]) | (refine Mix.lex_part rfl rfl rfl rfl (fun hq => ?_) (fun hq => ?_) <;> (fail_if_success (guard_hyp hq :ₛ true = true)) <;> (fail_if_success (guard_hyp hq :ₛ false = false)) <;> first | (exfalso; cases hq; done) | (exfalso; simp only [decide_eq_true_eq, decide_eq_false_iff_not, beq_iff_eq, beq_eq_false_iff_ne, ne_eq, Int.not_lt, Int.not_le] at hq; omega) | simp only [Act.put, List.setIfInBounds_toArray, List.set_cons_succ, List.set_cons_zero]))); all_goals (refine Mix.lex_nil ?_)) | (refine Mix.wp_still (by kernel_rfl) (by kernel_rfl) ?_; (repeat' (first | (refine Mix.lex_quiet0 rfl rfl rfl ?_; intro K hK; go_big_quiet_op; go_big_quiet_on) | (refine Mix.lex_quietG rfl rfl rfl (by with_reducible rfl) rfl rfl ?_; intro K hK; go_big_quiet_op; go_big_quiet_on) | ((first | refine Mix.lex_skipT rfl rfl rfl (by with_reducible rfl) ?_ | refine Mix.lex_skipF rfl rfl rfl (by with_reducible rfl) ?_ | refine Mix.lex_skipU rfl rfl rfl (by with_reducible rfl) ?_); simp only [Act.put, List.setIfInBounds_toArray, List.set_cons_succ, List.set_cons_zero]) | (refine Mix.lex_part rfl rfl rfl rfl (fun hq => ?_) (fun hq => ?_) <;> (fail_if_success (guard_hyp hq :ₛ true = true)) <;> (fail_if_success (guard_hyp hq :ₛ false = false)) <;> first | (exfalso; cases hq; done) | (exfalso; simp only [decide_eq_true_eq, decide_eq_false_iff_not, beq_iff_eq, beq_eq_false_iff_ne, ne_eq, Int.not_lt, Int.not_le] at hq; omega) | simp only [Act.put, List.setIfInBounds_toArray, List.set_cons_succ, List.set_cons_zero]))); all_goals (refine Mix.lex_nil ?_)))
              go_roundw
              case rel =>
                refine ⟨k + 1, by omega, by go_num, y2, nb2, A2, none, c2, 0, nd ++ [(nm, tx)], [], P9.out, ?_, fun _ => ⟨rfl, rfl, rfl⟩, fun h => ?_, by omega, ?_⟩
                · simp only [List.length_append, List.length_cons, List.length_nil] at hkl ⊢; omega
                · simp only [List.length_append, List.length_cons, List.length_nil] at hkl ⊢; omega
                · rw [hm2, HF3.out]; simp
              case measure => simp [intOf]; omega
            · have g14 : decide ((k : Int) < (b : Int)) = false := by rw [decide_eq_false_iff_not]; omega
              have hnb3 := HKb.out (by omega)
              have y0 : v3.cell? ⟨g8, 2, none⟩ = some (.slice oA od.length oc) := P3.out.rc.cell 2
              have P8 := Lib.hid (P3.out.ext ((Only.refl No v3).alloc (.cells #[S nm, S tx] 45)))
              have hnl : od.length ≤ 10 := by omega
              go_wp2_with (first | (at_builtin; go_must (refine wpList_append (v := .slice oA od.length oc) (n := od.length) (xs := od.flatMap fileF.enc) rfl fl_ty rfl rfl rfl P8.out.fo.own (rd_one v3 _ [S nm, S tx]) (fl_enc1 [(nm, tx)]) (by omega) ?_); intro A2 c2 w5 hown5 hg5 hb5; have P9 := Lib.hid (P8.out.growO (t := (nm, tx)) hown5 hg5 hb5); have O9 : Only (fun b => (Value.slice oA od.length oc).ownBlock = some b) (v3.alloc (.cells #[S nm, S tx] 45)) w5 := (Only.refl _ _).grown hg5 fun g hg => .inr hg; have C9 := P8.out.rc.keep O9 (fun e => own_ne_cs P8.out.fo.own P8.out.rc (by decide) _ e rfl); have z9 := C9.frozen 2; have y9 : w5.cell? ⟨g8, 2, none⟩ = some (.slice oA od.length oc) := C9.cell 2; clear hown5 hg5 hb5 O9 C9) | (refine Mix.wpList_guarded rfl ?_; (repeat' (first | (refine Mix.lex_quiet0 rfl rfl rfl ?_; intro K hK; go_big_quiet_op; go_big_quiet_on) | (refine Mix.lex_quietG rfl rfl rfl (by with_reducible rfl) rfl rfl ?_; intro K hK; go_big_quiet_op; go_big_quiet_on) | ((first | refine Mix.lex_skipT rfl rfl rfl (by with_reducible rfl) ?_ | refine Mix.lex_skipF rfl rfl rfl (by with_reducible rfl) ?_ | refine Mix.lex_skipU rfl rfl rfl (by with_reducible rfl) ?_); simp only [Act.put, List.setIfInBounds_toArray, List.set_cons_succ, List.set_cons_zero]) | (refine Mix.lex_part rfl rfl rfl rfl (fun hq => ?_) (fun hq => ?_) <;> (fail_if_success (guard_hyp hq :ₛ true = true)) <;> (fail_if_success (guard_hyp hq :ₛ false = false)) <;> first | (exfalso; cases hq; done) | (exfalso; simp only [decide_eq_true_eq, decide_eq_false_iff_not, beq_iff_eq, beq_eq_false_iff_ne, ne_eq, Int.not_lt, Int.not_le] at hq; omega) | simp only [Act.put, List.setIfInBounds_toArray, List.set_cons_succ, List.set_cons_zero]))); all_goals (refine Mix.lex_nil ?_)) | (refine Mix.wp_still (by kernel_rfl) (by kernel_rfl) ?_; (repeat' (first | (refine Mix.lex_quiet0 rfl rfl rfl ?_; intro K hK; go_big_quiet_op; go_big_quiet_on) | (refine Mix.lex_quietG rfl rfl rfl (by with_reducible rfl) rfl rfl ?_; intro K hK; go_big_quiet_op; go_big_quiet_on) | ((first | refine Mix.lex_skipT rfl rfl rfl (by with_reducible rfl) ?_ | refine Mix.lex_skipF rfl rfl rfl (by with_reducible rfl) ?_ | refine Mix.lex_skipU rfl rfl rfl (by with_reducible rfl) ?_); simp only [Act.put, List.setIfInBounds_toArray, List.set_cons_succ, List.set_cons_zero]) | (refine Mix.lex_part rfl rfl rfl rfl (fun hq => ?_) (fun hq => ?_) <;> (fail_if_success (guard_hyp hq :ₛ true = true)) <;> (fail_if_success (guard_hyp hq :ₛ false = false)) <;> first | (exfalso; cases hq; done) | (exfalso; simp only [decide_eq_true_eq, decide_eq_false_iff_not, beq_iff_eq, beq_eq_false_iff_ne, ne_eq, Int.not_lt, Int.not_le] at hq; omega) | simp only [Act.put, List.setIfInBounds_toArray, List.set_cons_succ, List.set_cons_zero]))); all_goals (refine Mix.lex_nil ?_)))
              go_roundw
              case rel =>
                refine ⟨k + 1, by omega, by go_num, y2, nb2, nA, A2, nc, c2, nd, od ++ [(nm, tx)], P9.out, ?_, fun h => absurd h (by omega), fun _ => HKb.out (by omega), by omega, ?_⟩
                · simp only [List.length_append, List.length_cons, List.length_nil] at hkl ⊢; omega
                · rw [hm2, HF3.out]; simp
              case measure => simp [intOf]; omega
          | false =>
            have hnb2 : nb2 = true := by rw [HNb.out]; simp
            have z3 := Cs.frozen P3.out.rd 1
            have r3 : v3.cell? ⟨g4, 1, none⟩ = some (.bool yb2) := Cs.cell P3.out.rd 1
            obtain ⟨v6, hv6⟩ : ∃ u, u = v3.setCell ⟨g4, 1, none⟩ (.bool true) := ⟨_, rfl⟩
            have P6 : Hid (PAtD w v6 g2 g4 g8 y2 nb2 ⟨cA, cc, nA, nc, oA, oc⟩ cs nd od) := by rw [hv6, hnb2]; exact P3.out.read (Cs.set_ P3.out.rd 1 (.bool true)) ((Only.refl _ _).at_ 1 _)
            clear HNb
            go_upto_region 19 with fail
            rw [← hv6]
            clear hv6 z3 r3 P3 hnb2
            obtain ⟨v3, hv3⟩ : ∃ v3, v3 = v6 := ⟨_, rfl⟩
            rw [← hv3] at P6 ⊢
            have P3 := P6
            clear hv3 P6
            by_cases hkb : k < b
            · obtain ⟨e1, e2, e3⟩ := HKo.out (by omega)
              subst e1; subst e2; subst e3
              have g14 : decide ((k : Int) < (b : Int)) = true := by rw [decide_eq_true_iff]; omega
              have y0 : v3.cell? ⟨g8, 1, none⟩ = some (.slice nA nd.length nc) := P3.out.rc.cell 1
              have P8 := Lib.hid (P3.out.ext ((Only.refl No v3).alloc (.cells #[S nm, S tx] 45)))
              have hnl : nd.length ≤ 10 := by omega
              go_wp2_with (first | (at_builtin; go_must (refine wpList_append (v := .slice nA nd.length nc) (n := nd.length) (xs := nd.flatMap fileF.enc) rfl fl_ty rfl rfl rfl P8.out.fn.own (rd_one v3 _ [S nm, S tx]) (fl_enc1 [(nm, tx)]) (by omega) ?_); intro A2 c2 w5 hown5 hg5 hb5; have P9 := Lib.hid (P8.out.growN (t := (nm, tx)) rfl hown5 hg5 hb5); have O9 : Only (fun b => (Value.slice nA nd.length nc).ownBlock = some b) (v3.alloc (.cells #[S nm, S tx] 45)) w5 := (Only.refl _ _).grown hg5 fun g hg => .inr hg; have C9 := P8.out.rc.keep O9 (fun e => own_ne_cs P8.out.fn.own P8.out.rc (by decide) _ e rfl); have z9 := C9.frozen 1; have y9 : w5.cell? ⟨g8, 1, none⟩ = some (.slice nA nd.length nc) := C9.cell 1; clear hown5 hg5 hb5 O9 C9) | (refine Mix.wpList_guarded rfl ?_; (repeat' (first | (refine Mix.lex_quiet0 rfl rfl rfl ?_; intro K hK; go_big_quiet_op; go_big_quiet_on) | (refine Mix.lex_quietG rfl rfl rfl (by with_reducible rfl) rfl rfl ?_; intro K hK; go_big_quiet_op; go_big_quiet_on) | ((first | refine Mix.lex_skipT rfl rfl rfl (by with_reducible rfl) ?_ | refine Mix.lex_skipF rfl rfl rfl (by with_reducible rfl) ?_ | refine Mix.lex_skipU rfl rfl rfl (by with_reducible rfl) ?_); simp only [Act.put, List.setIfInBounds_toArray, List.set_cons_succ, List.set_cons_zero]) | (refine Mix.lex_part rfl rfl rfl rfl (fun hq => ?_) (fun hq => ?_) <;> (fail_if_success (guard_hyp hq :ₛ true = true)) <;> (fail_if_success (guard_hyp hq :ₛ false = false)) <;> first | (exfalso; cases hq; done) | (exfalso; simp only [decide_eq_true_eq, decide_eq_false_iff_not, beq_iff_eq, beq_eq_false_iff_ne, ne_eq, Int.not_lt, Int.not_le] at hq; omega) | simp only [Act.put, List.setIfInBounds_toArray, List.set_cons_succ, List.set_cons_zero]))); all_goals (refine Mix.lex_nil ?_)) | (refine Mix.wp_still (by kernel_rfl) (by kernel_rfl) ?_; (repeat' (first | (refine Mix.lex_quiet0 rfl rfl rfl ?_; intro K hK; go_big_quiet_op; go_big_quiet_on) | (refine Mix.lex_quietG rfl rfl rfl (by with_reducible rfl) rfl rfl ?_; intro K hK; go_big_quiet_op; go_big_quiet_on) | ((first | refine Mix.lex_skipT rfl rfl rfl (by with_reducible rfl) ?_ | refine Mix.lex_skipF rfl rfl rfl (by with_reducible rfl) ?_ | refine Mix.lex_skipU rfl rfl rfl (by with_reducible rfl) ?_); simp only [Act.put, List.setIfInBounds_toArray, List.set_cons_succ, List.set_cons_zero]) | (refine Mix.lex_part rfl rfl rfl rfl (fun hq => ?_) (fun hq => ?_) <;> (fail_if_success (guard_hyp hq :ₛ true = true)) <;> (fail_if_success (guard_hyp hq :ₛ false = false)) <;> first | (exfalso; cases hq; done) | (exfalso; simp only [decide_eq_true_eq, decide_eq_false_iff_not, beq_iff_eq, beq_eq_false_iff_ne, ne_eq, Int.not_lt, Int.not_le] at hq; omega) | simp only [Act.put, List.setIfInBounds_toArray, List.set_cons_succ, List.set_cons_zero]))); all_goals (refine Mix.lex_nil ?_)))
              go_roundw
              case rel =>
                refine ⟨k + 1, by omega, by go_num, y2, nb2, A2, none, c2, 0, nd ++ [(nm, tx)], [], P9.out, ?_, fun _ => ⟨rfl, rfl, rfl⟩, fun h => ?_, by omega, ?_⟩
                · simp only [List.length_append, List.length_cons, List.length_nil] at hkl ⊢; omega
                · simp only [List.length_append, List.length_cons, List.length_nil] at hkl ⊢; omega
                · rw [hm2, HF3.out]; simp
              case measure => simp [intOf]; omega
            · have g14 : decide ((k : Int) < (b : Int)) = false := by rw [decide_eq_false_iff_not]; omega
              have hnb3 := HKb.out (by omega)
              have y0 : v3.cell? ⟨g8, 2, none⟩ = some (.slice oA od.length oc) := P3.out.rc.cell 2
              have P8 := Lib.hid (P3.out.ext ((Only.refl No v3).alloc (.cells #[S nm, S tx] 45)))
              have hnl : od.length ≤ 10 := by omega
              go_wp2_with (first | (at_builtin; go_must (refine wpList_append (v := .slice oA od.length oc) (n := od.length) (xs := od.flatMap fileF.enc) rfl fl_ty rfl rfl rfl P8.out.fo.own (rd_one v3 _ [S nm, S tx]) (fl_enc1 [(nm, tx)]) (by omega) ?_); intro A2 c2 w5 hown5 hg5 hb5; have P9 := Lib.hid (P8.out.growO (t := (nm, tx)) hown5 hg5 hb5); have O9 : Only (fun b => (Value.slice oA od.length oc).ownBlock = some b) (v3.alloc (.cells #[S nm, S tx] 45)) w5 := (Only.refl _ _).grown hg5 fun g hg => .inr hg; have C9 := P8.out.rc.keep O9 (fun e => own_ne_cs P8.out.fo.own P8.out.rc (by decide) _ e rfl); have z9 := C9.frozen 2; have y9 : w5.cell? ⟨g8, 2, none⟩ = some (.slice oA od.length oc) := C9.cell 2; clear hown5 hg5 hb5 O9 C9) | (refine Mix.wpList_guarded rfl ?_; (repeat' (first | (refine Mix.lex_quiet0 rfl rfl rfl ?_; intro K hK; go_big_quiet_op; go_big_quiet_on) | (refine Mix.lex_quietG rfl rfl rfl (by with_reducible rfl) rfl rfl ?_; intro K hK; go_big_quiet_op; go_big_quiet_on) | ((first | refine Mix.lex_skipT rfl rfl rfl (by with_reducible rfl) ?_ | refine Mix.lex_skipF rfl rfl rfl (by with_reducible rfl) ?_ | refine Mix.lex_skipU rfl rfl rfl (by with_reducible rfl) ?_); simp only [Act.put, List.setIfInBounds_toArray, List.set_cons_succ, List.set_cons_zero]) | (refine Mix.lex_part rfl rfl rfl rfl (fun hq => ?_) (fun hq => ?_) <;> (fail_if_success (guard_hyp hq :ₛ true = true)) <;> (fail_if_success (guard_hyp hq :ₛ false = false)) <;> first | (exfalso; cases hq; done) | (exfalso; simp only [decide_eq_true_eq, decide_eq_false_iff_not, beq_iff_eq, beq_eq_false_iff_ne, ne_eq, Int.not_lt, Int.not_le] at hq; omega) | simp only [Act.put, List.setIfInBounds_toArray, List.set_cons_succ, List.set_cons_zero]))); all_goals (refine Mix.lex_nil ?_)) | (refine Mix.wp_still (by kernel_rfl) (by kernel_rfl) ?_; (repeat' (first | (refine Mix.lex_quiet0 rfl rfl rfl ?_; intro K hK; go_big_quiet_op; go_big_quiet_on) | (refine Mix.lex_quietG rfl rfl rfl (by with_reducible rfl) rfl rfl ?_; intro K hK; go_big_quiet_op; go_big_quiet_on) | ((first | refine Mix.lex_skipT rfl rfl rfl (by with_reducible rfl) ?_ | refine Mix.lex_skipF rfl rfl rfl (by with_reducible rfl) ?_ | refine Mix.lex_skipU rfl rfl rfl (by with_reducible rfl) ?_); simp only [Act.put, List.setIfInBounds_toArray, List.set_cons_succ, List.set_cons_zero]) | (refine Mix.lex_part rfl rfl rfl rfl (fun hq => ?_) (fun hq => ?_) <;> (fail_if_success (guard_hyp hq :ₛ true = true)) <;> (fail_if_success (guard_hyp hq :ₛ false = false)) <;> first | (exfalso; cases hq; done) | (exfalso; simp only [decide_eq_true_eq, decide_eq_false_iff_not, beq_iff_eq, beq_eq_false_iff_ne, ne_eq, Int.not_lt, Int.not_le] at hq; omega) | simp only [Act.put, List.setIfInBounds_toArray, List.set_cons_succ, List.set_cons_zero]))); all_goals (refine Mix.lex_nil ?_)))
              go_roundw
              case rel =>
                refine ⟨k + 1, by omega, by go_num, y2, nb2, nA, A2, nc, c2, nd, od ++ [(nm, tx)], P9.out, ?_, fun h => absurd h (by omega), fun _ => HKb.out (by omega), by omega, ?_⟩
                · simp only [List.length_append, List.length_cons, List.length_nil] at hkl ⊢; omega
                · rw [hm2, HF3.out]; simp
              case measure => simp [intOf]; omega
        · obtain rfl : k = b + c := by omega
          have HK : Hid (filsF (b + c) t bd = (y, yb, nd ++ od)) := by
            rw [Hid, HFi.out, Nat.sub_self]
            simp [filsF]
          have hnb := HKb.out (by omega)
          have HPx2 : Hid (prsX s = (⟨cs, nd, od⟩, y, yb)) := by
            rw [Hid, HPx.out, HK.out]
            dsimp only
            rw [← hnb, List.take_left, List.drop_left]
          rw [HPx2.out] at HOk HP
          dsimp only at HOk HP
          clear HKo HKb HK HFi HPx HPx2 hkl hnb
          have PF := P0
          have r0 : wr.cell? ⟨g4, 0, none⟩ = some (S y) := Cs.cell PF.out.rd 0
          have r1 : wr.cell? ⟨g4, 1, none⟩ = some (.bool yb) := Cs.cell PF.out.rd 1
          have c0 : wr.cell? ⟨g8, 0, none⟩ = some (.slice cA cs.length cc) := PF.out.rc.cell 0
          have c1 : wr.cell? ⟨g8, 1, none⟩ = some (.slice nA nd.length nc) := PF.out.rc.cell 1
          have c2 : wr.cell? ⟨g8, 2, none⟩ = some (.slice oA od.length oc) := PF.out.rc.cell 2
          have e0 : wr.cell? ⟨g2, 0, none⟩ = some (.slice none 0 0) := PF.out.rs.cell 0
          have e1 : wr.cell? ⟨g2, 1, none⟩ = some (.slice none 0 0) := PF.out.rs.cell 1
          have e2 : wr.cell? ⟨g2, 2, none⟩ = some (.slice none 0 0) := PF.out.rs.cell 2
          have z0 := PF.out.rs.frozen 0
          have z1 := PF.out.rs.frozen 1
          have z2 := PF.out.rs.frozen 2
          have HO : Hid (∀ a b c, Only (fun b => b = g2) wr (((wr.setCell ⟨g2, 0, none⟩ a).setCell ⟨g2, 1, none⟩ b).setCell ⟨g2, 2, none⟩ c)) := fun a b c => (((Only.refl _ _).at_ 0 a).at_ 1 b).at_ 2 c
          have HS : Hid (∀ a b c, Cs (((wr.setCell ⟨g2, 0, none⟩ a).setCell ⟨g2, 1, none⟩ b).setCell ⟨g2, 2, none⟩ c) g2 rcT #[a, b, c]) := fun a b c => ((PF.out.rs.set_ 0 a).set_ 1 b).set_ 2 c
          have HX : Hid (∀ u, Only (fun b => b = g2) wr u → Ext w u) := fun u hx => PF.out.x.trans hx fun b hb e => by have e : b = g2 := e; omega
          cases yb with
          | true =>
            have HOk2 : Hid (docOk s = false) := by rw [Hid, HOk.out]; rfl
            have HR : Hid (docF s = (rcd0, 4)) := by rw [Hid, HP.out, HOk2.out]; rfl
            go_wp2_with (first | (refine Mix.wpList_guarded rfl ?_; (repeat' (first | (refine Mix.lex_quiet0 rfl rfl rfl ?_; intro K hK; go_big_quiet_op; go_big_quiet_on) | (refine Mix.lex_quietG rfl rfl rfl (by with_reducible rfl) rfl rfl ?_; intro K hK; go_big_quiet_op; go_big_quiet_on) | ((first | refine Mix.lex_skipT rfl rfl rfl (by with_reducible rfl) ?_ | refine Mix.lex_skipF rfl rfl rfl (by with_reducible rfl) ?_ | refine Mix.lex_skipU rfl rfl rfl (by with_reducible rfl) ?_); simp only [Act.put, List.setIfInBounds_toArray, List.set_cons_succ, List.set_cons_zero]) | (refine Mix.lex_part rfl rfl rfl rfl (fun hq => ?_) (fun hq => ?_) <;> (fail_if_success (guard_hyp hq :ₛ true = true)) <;> (fail_if_success (guard_hyp hq :ₛ false = false)) <;> first | (exfalso; cases hq; done) | (exfalso; simp only [decide_eq_true_eq, decide_eq_false_iff_not, beq_iff_eq, beq_eq_false_iff_ne, ne_eq, Int.not_lt, Int.not_le] at hq; omega) | simp only [Act.put, List.setIfInBounds_toArray, List.set_cons_succ, List.set_cons_zero]))); all_goals (refine Mix.lex_nil ?_)) | (refine Mix.wp_still (by kernel_rfl) (by kernel_rfl) ?_; (repeat' (first | (refine Mix.lex_quiet0 rfl rfl rfl ?_; intro K hK; go_big_quiet_op; go_big_quiet_on) | (refine Mix.lex_quietG rfl rfl rfl (by with_reducible rfl) rfl rfl ?_; intro K hK; go_big_quiet_op; go_big_quiet_on) | ((first | refine Mix.lex_skipT rfl rfl rfl (by with_reducible rfl) ?_ | refine Mix.lex_skipF rfl rfl rfl (by with_reducible rfl) ?_ | refine Mix.lex_skipU rfl rfl rfl (by with_reducible rfl) ?_); simp only [Act.put, List.setIfInBounds_toArray, List.set_cons_succ, List.set_cons_zero]) | (refine Mix.lex_part rfl rfl rfl rfl (fun hq => ?_) (fun hq => ?_) <;> (fail_if_success (guard_hyp hq :ₛ true = true)) <;> (fail_if_success (guard_hyp hq :ₛ false = false)) <;> first | (exfalso; cases hq; done) | (exfalso; simp only [decide_eq_true_eq, decide_eq_false_iff_not, beq_iff_eq, beq_eq_false_iff_ne, ne_eq, Int.not_lt, Int.not_le] at hq; omega) | simp only [Act.put, List.setIfInBounds_toArray, List.set_cons_succ, List.set_cons_zero]))); all_goals (refine Mix.lex_nil ?_)))
            refine bodyPost_cell rfl rfl rfl (load_rc (HS.out _ _ _)) ?_
            rw [HR.out]
            exact ⟨⟨none, 0, none, 0, none, 0⟩, rfl, ⟨SlR.none_, SlR.none_, SlR.none_⟩, HX.out _ (HO.out _ _ _)⟩
          | false =>
            obtain ⟨p, hp⟩ : ∃ p, (y == ([] : Str)) = p := ⟨_, rfl⟩
            rw [hp] at HOk
            cases p with
            | false =>
              have HOk2 : Hid (docOk s = false) := by rw [Hid, HOk.out]; rfl
              have HR : Hid (docF s = (rcd0, 4)) := by rw [Hid, HP.out, HOk2.out]; rfl
              go_wp2_with (first | (refine Mix.wpList_guarded rfl ?_; (repeat' (first | (refine Mix.lex_quiet0 rfl rfl rfl ?_; intro K hK; go_big_quiet_op; go_big_quiet_on) | (refine Mix.lex_quietG rfl rfl rfl (by with_reducible rfl) rfl rfl ?_; intro K hK; go_big_quiet_op; go_big_quiet_on) | ((first | refine Mix.lex_skipT rfl rfl rfl (by with_reducible rfl) ?_ | refine Mix.lex_skipF rfl rfl rfl (by with_reducible rfl) ?_ | refine Mix.lex_skipU rfl rfl rfl (by with_reducible rfl) ?_); simp only [Act.put, List.setIfInBounds_toArray, List.set_cons_succ, List.set_cons_zero]) | (refine Mix.lex_part rfl rfl rfl rfl (fun hq => ?_) (fun hq => ?_) <;> (fail_if_success (guard_hyp hq :ₛ true = true)) <;> (fail_if_success (guard_hyp hq :ₛ false = false)) <;> first | (exfalso; cases hq; done) | (exfalso; simp only [decide_eq_true_eq, decide_eq_false_iff_not, beq_iff_eq, beq_eq_false_iff_ne, ne_eq, Int.not_lt, Int.not_le] at hq; omega) | simp only [Act.put, List.setIfInBounds_toArray, List.set_cons_succ, List.set_cons_zero]))); all_goals (refine Mix.lex_nil ?_)) | (refine Mix.wp_still (by kernel_rfl) (by kernel_rfl) ?_; (repeat' (first | (refine Mix.lex_quiet0 rfl rfl rfl ?_; intro K hK; go_big_quiet_op; go_big_quiet_on) | (refine Mix.lex_quietG rfl rfl rfl (by with_reducible rfl) rfl rfl ?_; intro K hK; go_big_quiet_op; go_big_quiet_on) | ((first | refine Mix.lex_skipT rfl rfl rfl (by with_reducible rfl) ?_ | refine Mix.lex_skipF rfl rfl rfl (by with_reducible rfl) ?_ | refine Mix.lex_skipU rfl rfl rfl (by with_reducible rfl) ?_); simp only [Act.put, List.setIfInBounds_toArray, List.set_cons_succ, List.set_cons_zero]) | (refine Mix.lex_part rfl rfl rfl rfl (fun hq => ?_) (fun hq => ?_) <;> (fail_if_success (guard_hyp hq :ₛ true = true)) <;> (fail_if_success (guard_hyp hq :ₛ false = false)) <;> first | (exfalso; cases hq; done) | (exfalso; simp only [decide_eq_true_eq, decide_eq_false_iff_not, beq_iff_eq, beq_eq_false_iff_ne, ne_eq, Int.not_lt, Int.not_le] at hq; omega) | simp only [Act.put, List.setIfInBounds_toArray, List.set_cons_succ, List.set_cons_zero]))); all_goals (refine Mix.lex_nil ?_)))
              refine bodyPost_cell rfl rfl rfl (load_rc (HS.out _ _ _)) ?_
              rw [HR.out]
              exact ⟨⟨none, 0, none, 0, none, 0⟩, rfl, ⟨SlR.none_, SlR.none_, SlR.none_⟩, HX.out _ (HO.out _ _ _)⟩
            | true =>
              have HR : Hid (docF s = (⟨cs, nd, od⟩, 0)) := by rw [Hid, HP.out, HOk.out]; rfl
              go_wp2_with (first | (refine Mix.wpList_guarded rfl ?_; (repeat' (first | (refine Mix.lex_quiet0 rfl rfl rfl ?_; intro K hK; go_big_quiet_op; go_big_quiet_on) | (refine Mix.lex_quietG rfl rfl rfl (by with_reducible rfl) rfl rfl ?_; intro K hK; go_big_quiet_op; go_big_quiet_on) | ((first | refine Mix.lex_skipT rfl rfl rfl (by with_reducible rfl) ?_ | refine Mix.lex_skipF rfl rfl rfl (by with_reducible rfl) ?_ | refine Mix.lex_skipU rfl rfl rfl (by with_reducible rfl) ?_); simp only [Act.put, List.setIfInBounds_toArray, List.set_cons_succ, List.set_cons_zero]) | (refine Mix.lex_part rfl rfl rfl rfl (fun hq => ?_) (fun hq => ?_) <;> (fail_if_success (guard_hyp hq :ₛ true = true)) <;> (fail_if_success (guard_hyp hq :ₛ false = false)) <;> first | (exfalso; cases hq; done) | (exfalso; simp only [decide_eq_true_eq, decide_eq_false_iff_not, beq_iff_eq, beq_eq_false_iff_ne, ne_eq, Int.not_lt, Int.not_le] at hq; omega) | simp only [Act.put, List.setIfInBounds_toArray, List.set_cons_succ, List.set_cons_zero]))); all_goals (refine Mix.lex_nil ?_)) | (refine Mix.wp_still (by kernel_rfl) (by kernel_rfl) ?_; (repeat' (first | (refine Mix.lex_quiet0 rfl rfl rfl ?_; intro K hK; go_big_quiet_op; go_big_quiet_on) | (refine Mix.lex_quietG rfl rfl rfl (by with_reducible rfl) rfl rfl ?_; intro K hK; go_big_quiet_op; go_big_quiet_on) | ((first | refine Mix.lex_skipT rfl rfl rfl (by with_reducible rfl) ?_ | refine Mix.lex_skipF rfl rfl rfl (by with_reducible rfl) ?_ | refine Mix.lex_skipU rfl rfl rfl (by with_reducible rfl) ?_); simp only [Act.put, List.setIfInBounds_toArray, List.set_cons_succ, List.set_cons_zero]) | (refine Mix.lex_part rfl rfl rfl rfl (fun hq => ?_) (fun hq => ?_) <;> (fail_if_success (guard_hyp hq :ₛ true = true)) <;> (fail_if_success (guard_hyp hq :ₛ false = false)) <;> first | (exfalso; cases hq; done) | (exfalso; simp only [decide_eq_true_eq, decide_eq_false_iff_not, beq_iff_eq, beq_eq_false_iff_ne, ne_eq, Int.not_lt, Int.not_le] at hq; omega) | simp only [Act.put, List.setIfInBounds_toArray, List.set_cons_succ, List.set_cons_zero]))); all_goals (refine Mix.lex_nil ?_)))
              refine bodyPost_cell rfl rfl rfl (load_rc (HS.out _ _ _)) ?_
              rw [HR.out]
              have hx := HO.out (.slice cA cs.length cc) (.slice nA nd.length nc) (.slice oA od.length oc)
              have hE := HX.out _ hx
              exact ⟨⟨cA, cc, nA, nc, oA, oc⟩, rfl, ⟨(PF.out.fc.keep hx hE (own_ne_cs PF.out.fc.own PF.out.rs (by decide))).row (by decide), (PF.out.fn.keep hx hE (own_ne_cs PF.out.fn.own PF.out.rs (by decide))).row (by decide), (PF.out.fo.keep hx hE (own_ne_cs PF.out.fo.own PF.out.rs (by decide))).row (by decide)⟩, hE⟩
theorem uptoF_spec {s : Str} {bad : Bool} {c : UInt8} (h : (uptoF s bad c).2.1 = false) : bad = false ∧ s = (uptoF s bad c).2.2 ++ c :: (uptoF s bad c).1 := by
  unfold uptoF at h ⊢
  split at h
  · rename_i hc
    rw [if_pos hc]
    exact ⟨h, cutB_split c s hc⟩
  · cases h
theorem numF_spec {s : Str} {bad : Bool} {c : UInt8} {most : Int} (hm : most ≤ 300) (h : (numF s bad c most).2.1 = false) : bad = false ∧ ∃ n : Nat, (numF s bad c most).2.2 = n ∧ s = Lib.itoa (n : Int) ++ c :: (numF s bad c most).1 := by
  unfold numF at h ⊢
  split at h
  · rename_i hb
    rw [if_pos hb]
    obtain ⟨h1, h2⟩ := uptoF_spec h
    obtain ⟨n, hn, e⟩ := (numB_iff _ _ hm).1 hb
    refine ⟨h1, n, ?_, ?_⟩
    · show atV (uptoF s bad c).2.2 = n
      rw [e]
      exact (num_back n (by omega)).2.1
    · rw [← e]; exact h2
  · cases h
theorem txtF_spec {s : Str} {bad : Bool} {most : Int} (hm : most ≤ 300) (h : (txtF s bad most).2.1 = false) : bad = false ∧ s = cmdU (txtF s bad most).2.2 ++ (txtF s bad most).1 := by
  unfold txtF at h ⊢
  split at h
  · rename_i hb
    rw [if_pos hb]
    obtain ⟨h1, n, hn, e⟩ := numF_spec hm h
    refine ⟨h1, ?_⟩
    rw [hn, Int.toNat_natCast] at hb
    rw [hn, Int.toNat_natCast]
    generalize (numF s bad 58 most).1 = s1 at hb e
    simp only [txtB, Bool.and_eq_true, decide_eq_true_eq, beq_iff_eq] at hb
    obtain ⟨hl, hx⟩ := hb
    rw [List.getElem?_eq_getElem hl] at hx
    injection hx with hx
    have e1 : s1 = s1.take n ++ 32 :: s1.drop (n + 1) := by
      conv => lhs; rw [← List.take_append_drop n s1, List.drop_eq_getElem_cons hl, hx]
    have e2 : (s1.take n).length = n := by rw [List.length_take]; omega
    show s = cmdU (s1.take n) ++ s1.drop (n + 1)
    unfold cmdU
    rw [e2, e]
    conv => lhs; rw [e1]
    simp
  · cases h
theorem cmdsF_spec : ∀ (k : Nat) (s : Str) (b : Bool), (cmdsF k s b).2.1 = false → b = false ∧ s = (cmdsF k s b).2.2.flatMap cmdU ++ (cmdsF k s b).1
  | 0, s, b, h => ⟨h, rfl⟩
  | k + 1, s, b, h => by
    obtain ⟨h1, h2⟩ := cmdsF_spec k _ _ (show (cmdsF k (txtF s b 300).1 (txtF s b 300).2.1).2.1 = false from h)
    obtain ⟨h3, h4⟩ := txtF_spec (by omega) h1
    refine ⟨h3, ?_⟩
    show s = ((txtF s b 300).2.2 :: (cmdsF k (txtF s b 300).1 (txtF s b 300).2.1).2.2).flatMap cmdU ++ (cmdsF k (txtF s b 300).1 (txtF s b 300).2.1).1
    rw [List.flatMap_cons, List.append_assoc, ← h2, ← h4]
theorem cmdsF_length : ∀ (k : Nat) (s : Str) (b : Bool), (cmdsF k s b).2.2.length = k
  | 0, _, _ => rfl
  | k + 1, s, b => by
    show (_ :: (cmdsF k _ _).2.2).length = k + 1
    rw [List.length_cons, cmdsF_length k]
theorem filF_spec {s : Str} {b : Bool} (h : (filF s b).2.1 = false) : b = false ∧ s = filU (filF s b).2.2 ++ (filF s b).1 := by
  have h' : ((txtF (uptoF s b 32).1 (uptoF s b 32).2.1 20).2.1 || !nameB (uptoF s b 32).2.2) = false := h
  rw [Bool.or_eq_false_iff] at h'
  obtain ⟨h1, h2⟩ := txtF_spec (by omega) h'.1
  obtain ⟨h3, h4⟩ := uptoF_spec h1
  refine ⟨h3, ?_⟩
  show s = filU ((uptoF s b 32).2.2, (txtF (uptoF s b 32).1 (uptoF s b 32).2.1 20).2.2) ++ (txtF (uptoF s b 32).1 (uptoF s b 32).2.1 20).1
  have e : filU ((uptoF s b 32).2.2, (txtF (uptoF s b 32).1 (uptoF s b 32).2.1 20).2.2) = (uptoF s b 32).2.2 ++ 32 :: cmdU (txtF (uptoF s b 32).1 (uptoF s b 32).2.1 20).2.2 := rfl
  rw [e, List.append_assoc, List.cons_append, ← h2, ← h4]
theorem filsF_spec : ∀ (k : Nat) (s : Str) (b : Bool), (filsF k s b).2.1 = false → b = false ∧ s = (filsF k s b).2.2.flatMap filU ++ (filsF k s b).1
  | 0, s, b, h => ⟨h, rfl⟩
  | k + 1, s, b, h => by
    obtain ⟨h1, h2⟩ := filsF_spec k _ _ (show (filsF k (filF s b).1 (filF s b).2.1).2.1 = false from h)
    obtain ⟨h3, h4⟩ := filF_spec h1
    refine ⟨h3, ?_⟩
    show s = ((filF s b).2.2 :: (filsF k (filF s b).1 (filF s b).2.1).2.2).flatMap filU ++ (filsF k (filF s b).1 (filF s b).2.1).1
    rw [List.flatMap_cons, List.append_assoc, ← h2, ← h4]
theorem filsF_length : ∀ (k : Nat) (s : Str) (b : Bool), (filsF k s b).2.2.length = k
  | 0, _, _ => rfl
  | k + 1, s, b => by
    show (_ :: (filsF k _ _).2.2).length = k + 1
    rw [List.length_cons, filsF_length k]
theorem prsX_text {s : Str} (h1 : (prsX s).2.2 = false) (h2 : (prsX s).2.1 = []) : recT (prsX s).1 = s := by
  obtain ⟨N1, hN1⟩ : ∃ n, n = numF (s ++ [32]) false 32 3 := ⟨_, rfl⟩
  obtain ⟨N2, hN2⟩ : ∃ n, n = numF N1.1 N1.2.1 32 3 := ⟨_, rfl⟩
  obtain ⟨N3, hN3⟩ : ∃ n, n = numF N2.1 N2.2.1 32 2 := ⟨_, rfl⟩
  obtain ⟨K, hK⟩ : ∃ k, k = cmdsF N1.2.2.toNat N3.1 N3.2.1 := ⟨_, rfl⟩
  obtain ⟨F, hF⟩ : ∃ f, f = filsF (N2.2.2.toNat + N3.2.2.toNat) K.1 K.2.1 := ⟨_, rfl⟩
  have e : prsX s = (⟨K.2.2, F.2.2.take N2.2.2.toNat, F.2.2.drop N2.2.2.toNat⟩, F.1, F.2.1) := by
    subst hF; subst hK; subst hN3; subst hN2; subst hN1; rfl
  rw [e] at h1 h2
  rw [e]
  dsimp only at h1 h2 ⊢
  have s1 := filsF_spec (N2.2.2.toNat + N3.2.2.toNat) K.1 K.2.1 (by rw [← hF]; exact h1)
  rw [← hF, h2] at s1
  have s2 := cmdsF_spec N1.2.2.toNat N3.1 N3.2.1 (by rw [← hK]; exact s1.1)
  rw [← hK] at s2
  have s3 := numF_spec (s := N2.1) (bad := N2.2.1) (c := 32) (most := 2) (by omega) (by rw [← hN3]; exact s2.1)
  rw [← hN3] at s3
  have s4 := numF_spec (s := N1.1) (bad := N1.2.1) (c := 32) (most := 3) (by omega) (by rw [← hN2]; exact s3.1)
  rw [← hN2] at s4
  have s5 := numF_spec (s := s ++ [32]) (bad := false) (c := 32) (most := 3) (by omega) (by rw [← hN1]; exact s4.1)
  rw [← hN1] at s5
  obtain ⟨_, a, ha, ea⟩ := s5
  obtain ⟨_, b, hb, eb⟩ := s4
  obtain ⟨_, c, hc, ec⟩ := s3
  have lK := cmdsF_length N1.2.2.toNat N3.1 N3.2.1
  rw [← hK, ha, Int.toNat_natCast] at lK
  have lF := filsF_length (N2.2.2.toNat + N3.2.2.toNat) K.1 K.2.1
  rw [← hF, hb, hc, Int.toNat_natCast, Int.toNat_natCast] at lF
  rw [hb, Int.toNat_natCast]
  apply List.append_cancel_right (bs := [32])
  rw [recT_shift, ea, eb, ec, s2.2, s1.2]
  dsimp only
  rw [List.take_append_drop, lK, List.length_take, List.length_drop, lF, Nat.min_eq_left (by omega), Nat.add_sub_cancel_left, List.append_nil]
theorem docF_eq (s : Str) : docF s = prsF s := by
  have e : docOk s = prsOk s := by
    unfold docOk prsOk
    cases h1 : (prsX s).2.2 with
    | true => rfl
    | false =>
      cases h2 : (prsX s).2.1 == ([] : Str) with
      | false => rfl
      | true =>
        have := prsX_text h1 (by simpa using h2)
        rw [this]
        simp
  unfold docF prsF
  rw [e]
end Go.Proofs.YtfbpiafhgkhoiaaDoor
