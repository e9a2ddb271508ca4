/- Put together: Gx3, Gx4. -/
import Derived.Test.YtnhaekifcieeoaaGreatDoorPk02
import Derived.Test.YtnhaekifcieeoaaGreatDoorPk12
import Derived.Test.YtnhaekifcieeoaaGreatDoorPk15
import Derived.Test.YtnhaekifcieeoaaGreatDoorPk06
import Derived.Laws.ResultCell
import Derived.Deep.CutRange
namespace Go.Proofs.YtnhaekifcieeoaaGreatDoor
open Go Go.RowKit
theorem once_self (s : Str) : onceF s [37] = s := by
  unfold onceF
  split
  · rename_i h
    have := cut_parts 37 s h
    rw [List.append_assoc]
    exact this.symm
  · rfl
theorem Rep1_c {w : World} (hm : Ml w) (s t : Str) (hs : s.length ≤ 5000) (ht : t.length ≤ 5000) : Calls Tryz.prog 117 #[S s, S [37], S t, .int .i64 1] w fun e w' => e = .returned (S (onceF s t)) ∧ Ext w w' := by
  obtain ⟨m, hm⟩ := hm
  by_cases h37 : [37] = t
  · subst h37
    refine (Tryz.strings_Replace_none ⟨s.toArray⟩ ⟨#[37]⟩ ⟨#[37]⟩ 1 w (.inl rfl)).mono ?_
    rintro e w' ⟨rfl, rfl⟩
    exact ⟨by rw [once_self], Only.refl _ _⟩
  · have hsz : (⟨s.toArray⟩ : ByteArray).size = s.length := by simp [ByteArray.size]
    have hcnt : Lib.countB ⟨s.toArray⟩ ⟨#[37]⟩ ≤ s.length := by
      have h1 : Lib.countB ⟨s.toArray⟩ ⟨#[37]⟩ = Lib.count s [37] := rfl
      have h2 := (splitK_byte 37 _ s (Nat.le_refl _)).2
      have h3 := splB_le 37 s
      omega
    have hmul : Lib.countB ⟨s.toArray⟩ ⟨#[37]⟩ * t.length ≤ 5000 * 5000 := Nat.mul_le_mul (by omega) ht
    refine (Tryz.strings_Replace ⟨s.toArray⟩ ⟨#[37]⟩ ⟨t.toArray⟩ 1 m w (by rw [hsz]; omega) hm (by show 1 ≤ 1; omega) (by rw [hsz]; show s.length + _ * t.length ≤ _; omega)).mono ?_
    rintro e w' ⟨rfl, hb⟩
    refine ⟨?_, Only.below hb⟩
    rw [← replace_once s t (by rw [beq_eq_false_iff_ne]; exact h37)]
theorem grp_build (A : Option Addr) (n c : Nat) (b : Bool) (w : World) : (Instr.build grpT #[(0, .slice A n c), (3, .bool b)]).run Tryz.prog w = .ok (.agg #[.slice A n c, .slice none 0 0, .slice none 0 0, .bool b]) w := run_build w grpT _ _ (by kernel_rfl)
abbrev rulL (x : RulA × Rul) : Array Value := #[.slice x.1.tA x.2.targets.length x.1.tc, .slice x.1.nA x.2.needs.length x.1.nc, .slice x.1.cA x.2.cmds.length x.1.cc]
abbrev zerG : Array Value := #[.slice none 0 0, .slice none 0 0, .slice none 0 0, .bool false]
structure Gr (w u : World) (b b5 b8 : Nat) (L5 : Array Value) (a : RulA) (ts ns ks : List Str) (ph : Bool) : Prop where
  cs : Cs u b grpT #[.slice a.tA ts.length a.tc, .slice a.nA ns.length a.nc, .slice a.cA ks.length a.cc, .bool ph]
  c5 : Cs u b5 ruleT L5
  c8 : Cs u b8 grpT zerG
  ft : Fresh strF 9 w u a.tA a.tc ts
  fn : Fresh strF 9 w u a.nA a.nc ns
  fc : Fresh strF 9 w u a.cA a.cc ks
  hb : w.heap.size ≤ b
  h8 : w.heap.size ≤ b8
  n8 : b8 ≠ b
  tn : ∀ g, (Value.slice a.tA ts.length a.tc).ownBlock = some g → (Value.slice a.nA ns.length a.nc).ownBlock ≠ some g
  tk : ∀ g, (Value.slice a.tA ts.length a.tc).ownBlock = some g → (Value.slice a.cA ks.length a.cc).ownBlock ≠ some g
  nk : ∀ g, (Value.slice a.nA ns.length a.nc).ownBlock = some g → (Value.slice a.cA ks.length a.cc).ownBlock ≠ some g
section
variable {w u v : World} {b b5 b8 : Nat} {L5 : Array Value} {a : RulA} {ts ns ks : List Str} {ph : Bool}
theorem Gr.ext (h : Gr w u b b5 b8 L5 a ts ns ks ph) (hx : Ext u v) : Gr w v b b5 b8 L5 a ts ns ks ph :=
  ⟨h.cs.keep hx id, h.c5.keep hx id, h.c8.keep hx id, h.ft.on hx, h.fn.on hx, h.fc.on hx, h.hb, h.h8, h.n8, h.tn, h.tk, h.nk⟩
theorem Gr.growN (h : Gr w u b b5 b8 L5 a ts ns ks ph) {A' : Option Addr} {c' : Nat} {w5 : World} {t : Str}
    (hown : w5.ownsRow 0 9 1 (.slice A' (ns.length + 1 : Nat) c') (ns.length + 1) (ns.flatMap strF.enc ++ [t].flatMap strF.enc)) (hg : u.grownBy w5 (Value.slice a.nA ns.length a.nc).ownBlock)
    (hb : (Value.slice A' (ns.length + 1 : Nat) c').ownBlock = (Value.slice a.nA ns.length a.nc).ownBlock ∨ (Value.slice A' (ns.length + 1 : Nat) c').ownBlock = some u.heap.size) :
    Gr w (w5.setCell ⟨b, 1, none⟩ (.slice A' (ns.length + 1 : Nat) c')) b b5 b8 L5 { a with nA := A', nc := c' } ts (ns ++ [t]) ks ph := by
  have O5 : Only (fun g => (Value.slice a.nA ns.length a.nc).ownBlock = some g) u w5 := (Only.refl _ _).grown hg fun g e => .inr e
  have F5 := h.fn.grow (ys := [t]) rfl hown hg hb
  have T5 := h.ft.keep O5 F5.ext (fun g h1 h2 => h.tn g h1 h2)
  have K5 := h.fc.keep O5 F5.ext (fun g h1 h2 => h.nk g h2 h1)
  have c5 := h.cs.keep O5 (fun e => own_ne_cs h.fn.own h.cs (by decide) _ e rfl)
  have d5 := h.c5.keep O5 (fun e => own_ne_cs h.fn.own h.c5 (by decide) _ e rfl)
  have e5 := h.c8.keep O5 (fun e => own_ne_cs h.fn.own h.c8 (by decide) _ e rfl)
  have O6 : Only (fun g => g = b) w5 (w5.setCell ⟨b, 1, none⟩ (.slice A' (ns.length + 1 : Nat) c')) := (Only.refl _ _).at_ 1 _
  have E6 : Ext w (w5.setCell ⟨b, 1, none⟩ (.slice A' (ns.length + 1 : Nat) c')) := F5.ext.trans O6 fun g hg e => by have e : g = b := e; have := h.hb; omega
  refine ⟨?_, d5.keep O6 (fun e => Cs.ne_ d5 c5 (by decide) e), e5.keep O6 h.n8, T5.keep O6 E6 (own_ne_cs T5.own c5 (by decide)), F5.keep O6 E6 (own_ne_cs F5.own c5 (by decide)), K5.keep O6 E6 (own_ne_cs K5.own c5 (by decide)), h.hb, h.h8, h.n8, fun g h1 h2 => ?_, h.tk, fun g h1 h2 => ?_⟩
  · have := c5.set_ 1 (.slice A' (ns.length + 1 : Nat) c')
    rw [List.length_append]
    exact this
  · rw [List.length_append] at h2
    rcases hb with hb | hb
    · exact h.tn g h1 (hb.symm.trans h2)
    · have h3 : some u.heap.size = some g := hb.symm.trans h2
      injection h3 with h3
      obtain ⟨cur, hc⟩ := own_cs h.ft.own h1
      have := hc.lt
      omega
  · rw [List.length_append] at h1
    rcases hb with hb | hb
    · exact h.nk g (hb.symm.trans h1) h2
    · have h3 : some u.heap.size = some g := hb.symm.trans h1
      injection h3 with h3
      obtain ⟨cur, hc⟩ := own_cs h.fc.own h2
      have := hc.lt
      omega
theorem Gr.growK (h : Gr w u b b5 b8 L5 a ts ns ks ph) {A' : Option Addr} {c' : Nat} {w5 : World} {t : Str}
    (hown : w5.ownsRow 0 9 1 (.slice A' (ks.length + 1 : Nat) c') (ks.length + 1) (ks.flatMap strF.enc ++ [t].flatMap strF.enc)) (hg : u.grownBy w5 (Value.slice a.cA ks.length a.cc).ownBlock)
    (hb : (Value.slice A' (ks.length + 1 : Nat) c').ownBlock = (Value.slice a.cA ks.length a.cc).ownBlock ∨ (Value.slice A' (ks.length + 1 : Nat) c').ownBlock = some u.heap.size) :
    Gr w (w5.setCell ⟨b, 2, none⟩ (.slice A' (ks.length + 1 : Nat) c')) b b5 b8 L5 { a with cA := A', cc := c' } ts ns (ks ++ [t]) ph := by
  have O5 : Only (fun g => (Value.slice a.cA ks.length a.cc).ownBlock = some g) u w5 := (Only.refl _ _).grown hg fun g e => .inr e
  have F5 := h.fc.grow (ys := [t]) rfl hown hg hb
  have T5 := h.ft.keep O5 F5.ext (fun g h1 h2 => h.tk g h1 h2)
  have K5 := h.fn.keep O5 F5.ext (fun g h1 h2 => h.nk g h1 h2)
  have c5 := h.cs.keep O5 (fun e => own_ne_cs h.fc.own h.cs (by decide) _ e rfl)
  have d5 := h.c5.keep O5 (fun e => own_ne_cs h.fc.own h.c5 (by decide) _ e rfl)
  have e5 := h.c8.keep O5 (fun e => own_ne_cs h.fc.own h.c8 (by decide) _ e rfl)
  have O6 : Only (fun g => g = b) w5 (w5.setCell ⟨b, 2, none⟩ (.slice A' (ks.length + 1 : Nat) c')) := (Only.refl _ _).at_ 2 _
  have E6 : Ext w (w5.setCell ⟨b, 2, none⟩ (.slice A' (ks.length + 1 : Nat) c')) := F5.ext.trans O6 fun g hg e => by have e : g = b := e; have := h.hb; omega
  refine ⟨?_, d5.keep O6 (fun e => Cs.ne_ d5 c5 (by decide) e), e5.keep O6 h.n8, T5.keep O6 E6 (own_ne_cs T5.own c5 (by decide)), K5.keep O6 E6 (own_ne_cs K5.own c5 (by decide)), F5.keep O6 E6 (own_ne_cs F5.own c5 (by decide)), h.hb, h.h8, h.n8, h.tn, fun g h1 h2 => ?_, fun g h1 h2 => ?_⟩
  · have := c5.set_ 2 (.slice A' (ks.length + 1 : Nat) c')
    rw [List.length_append]
    exact this
  · rw [List.length_append] at h2
    rcases hb with hb | hb
    · exact h.tk g h1 (hb.symm.trans h2)
    · have h3 : some u.heap.size = some g := hb.symm.trans h2
      injection h3 with h3
      obtain ⟨cur, hc⟩ := own_cs h.ft.own h1
      have := hc.lt
      omega
  · rw [List.length_append] at h2
    rcases hb with hb | hb
    · exact h.nk g h1 (hb.symm.trans h2)
    · have h3 : some u.heap.size = some g := hb.symm.trans h2
      injection h3 with h3
      obtain ⟨cur, hc⟩ := own_cs h.fn.own h1
      have := hc.lt
      omega
theorem Gr.newT (h : Gr w u b b5 b8 L5 a ts [] [] ph) (hn : a.nA = none) (hk : a.cA = none) {A' : Option Addr} {c' : Nat} {w5 : World} {t : Str}
    (hF : Fresh strF 9 w w5 A' c' [t]) (hx : Ext u w5) :
    Gr w (w5.setCell ⟨b, 0, none⟩ (.slice A' 1 c')) b b5 b8 L5 { a with tA := A', tc := c' } [t] [] [] ph := by
  have g := h.ext hx
  have O6 : Only (fun g => g = b) w5 (w5.setCell ⟨b, 0, none⟩ (.slice A' 1 c')) := (Only.refl _ _).at_ 0 _
  have E6 : Ext w (w5.setCell ⟨b, 0, none⟩ (.slice A' 1 c')) := hF.ext.trans O6 fun q hg e => by have e : q = b := e; have := h.hb; omega
  refine ⟨g.cs.set_ 0 _, g.c5.keep O6 (fun e => Cs.ne_ g.c5 g.cs (by decide) e), g.c8.keep O6 g.n8, hF.keep O6 E6 (own_ne_cs hF.own g.cs (by decide)), g.fn.keep O6 E6 (own_ne_cs g.fn.own g.cs (by decide)), g.fc.keep O6 E6 (own_ne_cs g.fc.own g.cs (by decide)), g.hb, g.h8, g.n8, fun q _ h2 => ?_, fun q _ h2 => ?_, g.nk⟩
  · simp [hn, Value.ownBlock] at h2
  · simp [hk, Value.ownBlock] at h2
end
theorem fresh_one {w u : World} (hx : Ext w u) (t : Str) : Fresh strF 9 w (u.alloc (.cells #[S t] 9)) (some ⟨u.heap.size, 0, none⟩) 1 [t] :=
  ⟨⟨rfl, .inr ⟨u.heap.size, 1, #[S t], rfl, Nat.zero_le _, Cs.new u _ _, Nat.le_refl _, by simp [maxLen], rfl, rfl⟩⟩, hx.alloc _, fun g hg => by simp [Value.ownBlock] at hg; have := hx.size; omega⟩
theorem own_cap {w : World} {B : Nat} {e : TypeId} {size n c : Nat} {A : Option Addr} {xs : List Value} (h : w.ownsRow B e size (.slice A n c) n xs) : n ≤ c := by
  rcases h.2 with ⟨h1, h2⟩ | ⟨g, cap, cur, h1, _, _, h2, _⟩
  · omega
  · injection h1 with _ _ h3
    omega
theorem load_grp {w : World} {b : Nat} {x y z p : Value} (h : Cs w b grpT #[x, y, z, p]) : (loadVar grpT ⟨b, 0, none⟩).run Tryz.prog w = .ok (.agg #[x, y, z, p]) w := by
  have c0 := h.cell 0
  have c1 := h.cell 1
  have c2 := h.cell 2
  have c3 := h.cell 3
  simp only [List.getElem?_toArray, List.getElem?_cons_succ, List.getElem?_cons_zero] at c0 c1 c2 c3
  go_simp
def OfRes (w : World) (g : Grp) (e : Ending) (w' : World) : Prop := ∃ a : RulA, e = .returned (grpW (a, g)) ∧ Fresh strF 9 w w' a.tA a.tc g.targets ∧ Fresh strF 9 w w' a.nA a.nc g.needs ∧ Fresh strF 9 w w' a.cA a.cc g.cmds ∧ Ext w w'
set_option maxRecDepth 100000 in
set_option maxHeartbeats 8000000 in
theorem of_c {w : World} (hml : Ml w) {v : MkV} {rs : List (RulA × Rul)} {m : Mk} (hm : MakeR w v rs m) {x : RulA × Rul} (ht : SlR strF w x.1.tA x.2.targets.length x.2.targets) (hn : SlR strF w x.1.nA x.2.needs.length x.2.needs) (hc : SlR strF w x.1.cA x.2.cmds.length x.2.cmds)
    (h1 : 1 ≤ x.2.targets.length) (h2 : x.2.targets.length ≤ 2) (h3 : x.2.needs.length ≤ 3) (h4 : x.2.cmds.length ≤ 3) (l1 : ∀ t ∈ x.2.targets, t.length ≤ 100) (l2 : ∀ t ∈ x.2.needs, t.length ≤ 100) (l3 : ∀ t ∈ x.2.cmds, t.length ≤ 100)
    (name stem : Str) (l4 : name.length ≤ 200) (l5 : stem.length ≤ 200) (hph : m.phony.length ≤ 100000) :
    Calls Tryz.prog 86 #[mkV v m, ruleV x, S name, S stem] w (OfRes w (groupF m x.2 name stem)) := by
  obtain ⟨w1, hw1⟩ : ∃ u, u = w.alloc (.cells #[.slice v.vA m.vars.length v.vc, .slice v.rA m.rules.length v.rc, .slice v.pA m.phony.length v.pc] makeT) := ⟨_, rfl⟩
  obtain ⟨w2, hw2⟩ : ∃ u, u = w1.alloc (.cells #[.slice x.1.tA x.2.targets.length x.1.tc, .slice x.1.nA x.2.needs.length x.1.nc, .slice x.1.cA x.2.cmds.length x.1.cc] ruleT) := ⟨_, rfl⟩
  go_enter Tryz.func86, Tryz.ntmps86
  go_upto_region 1 with fail
  obtain ⟨w3, hw3⟩ : ∃ u, u = w2.alloc (.cells #[.slice none 0 0, .slice none 0 0, .slice none 0 0, .bool false] grpT) := ⟨_, rfl⟩
  rw [← hw1, ← hw2, ← hw3]
  obtain ⟨b4, hb4⟩ : ∃ b, b = w.heap.size := ⟨_, rfl⟩
  obtain ⟨b5, hb5⟩ : ∃ b, b = w.heap.size + 1 := ⟨_, rfl⟩
  obtain ⟨b8, hb8⟩ : ∃ b, b = w.heap.size + 1 + 1 := ⟨_, rfl⟩
  rw [← hb8, ← hb5, ← hb4]
  have s1 : w1.heap.size = w.heap.size + 1 := by rw [hw1]; simp
  have s2 : w2.heap.size = w.heap.size + 1 + 1 := by rw [hw2]; simp [s1]
  have x1 : Ext w w1 := by rw [hw1]; exact (Only.refl No w).alloc _
  have x2 : Ext w1 w2 := by rw [hw2]; exact (Only.refl No w1).alloc _
  have x3 : Ext w2 w3 := by rw [hw3]; exact (Only.refl No w2).alloc _
  have C4 : Cs w3 b4 makeT #[.slice v.vA m.vars.length v.vc, .slice v.rA m.rules.length v.rc, .slice v.pA m.phony.length v.pc] := (show Cs w1 b4 makeT _ by rw [hw1, hb4]; exact Cs.new _ _ _).keep (x2.then_ext x3) id
  have C5 : Cs w3 b5 ruleT #[.slice x.1.tA x.2.targets.length x.1.tc, .slice x.1.nA x.2.needs.length x.1.nc, .slice x.1.cA x.2.cmds.length x.1.cc] := (show Cs w2 b5 ruleT _ by rw [hw2, hb5, ← s1]; exact Cs.new _ _ _).keep x3 id
  have C8 : Cs w3 b8 grpT #[.slice none 0 0, .slice none 0 0, .slice none 0 0, .bool false] := by rw [hw3, hb8, ← s2]; exact Cs.new _ _ _
  have X3 : Hid (Ext w w3) := (x1.then_ext x2).then_ext x3
  have HB : Hid (w.heap.size ≤ b4 ∧ w.heap.size ≤ b5 ∧ w.heap.size ≤ b8) := by rw [hb4, hb5, hb8]; exact ⟨by omega, by omega, by omega⟩
  have HC := Lib.hid (And.intro C4 (And.intro C5 C8))
  have HM := Lib.hid (And.intro hml hm)
  have HX := Lib.hid (And.intro ht (And.intro hn hc))
  have HL := Lib.hid (And.intro l1 (And.intro l2 l3))
  clear hw1 hw2 hw3 hb4 hb5 hb8 s1 s2 x1 x2 x3 C4 C5 C8 hml hm ht hn hc l1 l2 l3
  obtain ⟨bb, o, t0, hA, hx, c0⟩ := strs_get HX.out.1 (k := 0) (by omega)
  have ht0 : x.2.targets.headD [] = t0 := by
    cases htt : x.2.targets with
    | nil => rw [htt] at hx; cases hx
    | cons y r => rw [htt] at hx; exact Option.some.inj hx
  have HT0 := Lib.hid ht0
  have d5 : ∀ ξ : X w3 No, ξ.v.cell? ⟨b5, 0, none⟩ = some (.slice (some ⟨bb, o, none⟩) x.2.targets.length x.1.tc) := fun ξ => by rw [← hA]; exact HC.out.2.1.x (F := No) id 0 ξ
  have d4 : ∀ ξ : X w3 No, ξ.v.cell? ⟨b4, 2, none⟩ = some (.slice v.pA m.phony.length v.pc) := HC.out.1.x (F := No) id 2
  have dt : ∀ ξ : X w3 No, ξ.v.cell? ⟨bb, o, none⟩ = some (S t0) := fun ξ => c0 ⟨ξ.v, X3.out.then_ext ξ.h⟩
  have HCl : Hid (∀ u, Ext w u → Calls Tryz.prog 101 #[.slice (some ⟨bb, o, none⟩) x.2.targets.length x.1.tc] u fun e w' => ∃ A' c', e = .returned (.slice A' x.2.targets.length c') ∧ Fresh strF 9 u w' A' c' x.2.targets) := fun u hu =>
    CloneStrs_f (c := x.1.tc) (by rw [← hA]; exact HX.out.1.ext hu) (fun e => by cases e) (by omega)
  obtain ⟨ph, hph2⟩ : ∃ b, b = inS m.phony t0 := ⟨_, rfl⟩
  have HCo : Hid (∀ u, Ext w u → Calls Tryz.prog 42 #[.slice v.pA m.phony.length v.pc, S t0] u fun e w' => e = .returned (.bool ph) ∧ Ext u w') := fun u hu => by
    rw [hph2]; exact Contains_c (c := v.pc) (HM.out.2.fp.ext hu) (by omega) t0
  have HPh := Lib.hid hph2
  have hgb := grp_build
  have HA := Lib.hid hA
  clear hx c0 ht0 hph2 hA
  go_cut [9] from 14 to 24 (fun p u => ∃ b9 A1 c1, p = rpt b9 ∧ Gr w u b9 b5 b8 (rulL x) ⟨A1, c1, none, 0, none, 0⟩ x.2.targets [] [] ph)
  case first =>
    refine Mix.wp_tree 13 [2, 9, 11, 12] (Cl w3 No) rfl (by kernel_rfl) (by kernel_rfl) (Cl.drew_ (X.here w3 No)) ?_
    obtain ⟨μ0, hμ0⟩ : ∃ u, u = w3.drew := ⟨_, rfl⟩
    have Y : Hid (Ext w3 μ0) := by rw [hμ0]; exact (Only.refl No w3).drew
    rw [← hμ0]
    clear hμ0
    (refine Mix.tree_quiet (i := 0) (by kernel_rfl) rfl rfl rfl rfl ?_; intro K hK; go_big_quiet_op; go_big_quiet_on); (refine Mix.tree_quiet (i := 1) (by kernel_rfl) rfl rfl rfl rfl ?_; intro K hK; go_big_quiet_op; go_big_quiet_on); (refine Mix.tree_quiet (i := 3) (by kernel_rfl) rfl rfl rfl rfl ?_; intro K hK; go_big_quiet_op; go_big_quiet_on); (refine Mix.tree_quiet (i := 4) (by kernel_rfl) rfl rfl rfl rfl ?_; intro K hK; go_big_quiet_op; go_big_quiet_on); (refine Mix.tree_quiet (i := 5) (by kernel_rfl) rfl rfl rfl rfl ?_; intro K hK; go_big_quiet_op; go_big_quiet_on); (refine Mix.tree_quiet (i := 6) (by kernel_rfl) rfl rfl rfl rfl ?_; intro K hK; go_big_quiet_op; go_big_quiet_on); (refine Mix.tree_quiet (i := 7) (by kernel_rfl) rfl rfl rfl rfl ?_; intro K hK; go_big_quiet_op; go_big_quiet_on); (refine Mix.tree_quiet (i := 8) (by kernel_rfl) rfl rfl rfl rfl ?_; intro K hK; go_big_quiet_op; go_big_quiet_on)
    refine Mix.tree_two (i := 2) (j := 11) (by kernel_rfl) (by kernel_rfl) rfl rfl rfl rfl rfl rfl ?_ ?_
    ·
      intro K hK
      go_simp
      refine (HCl.out _ (X3.out.then_ext Y.out)).mono ?_
      rintro e u1 ⟨A1, c1, rfl, hF1⟩
      have F : Hid (Fresh strF 9 w u1 A1 c1 x.2.targets) := hF1.from (X3.out.then_ext Y.out)
      have Y := Lib.hid (Y.out.then_ext hF1.ext)
      refine ⟨_, rfl, hK _ _ (Cl.of Y.out) ?_⟩
      clear hK K hF1
      simp only [Act.put, List.setIfInBounds_toArray, List.set_cons_succ, List.set_cons_zero]
      refine Mix.tree_two (i := 9) (j := 11) (by kernel_rfl) (by kernel_rfl) rfl rfl rfl rfl rfl rfl ?_ ?_
      ·
        intro K hK
        go_simp
        refine (HCo.out _ (X3.out.then_ext Y.out)).mono ?_
        rintro e u2 ⟨rfl, hx2⟩
        have F := Lib.hid (F.out.on hx2)
        have Y := Lib.hid (Y.out.then_ext hx2)
        refine ⟨_, rfl, hK _ _ (Cl.of Y.out) ?_⟩
        clear hK K hx2
        simp only [Act.put, List.setIfInBounds_toArray, List.set_cons_succ, List.set_cons_zero]
        (refine Mix.tree_quiet (i := 10) (by kernel_rfl) rfl rfl rfl rfl ?_; intro K hK; go_big_quiet_op; go_big_quiet_on)
        refine Mix.tree_one (i := 11) (by kernel_rfl) (by kernel_rfl) rfl rfl rfl ?_
        intro K hK
        go_simp
        obtain ⟨va, hva⟩ : ∃ u, u = (u2).alloc (.cells #[.slice none 0 0, .slice none 0 0, .slice none 0 0, .bool false] grpT) := ⟨_, rfl⟩
        obtain ⟨b9, hb9⟩ : ∃ g, g = (u2).heap.size := ⟨_, rfl⟩
        have C : Hid (Cs va b9 grpT #[.slice none 0 0, .slice none 0 0, .slice none 0 0, .bool false]) := by rw [hva, hb9]; exact Cs.new _ _ _
        have B9 : Hid (w.heap.size ≤ b9) := by rw [Hid, hb9]; exact (X3.out.then_ext Y.out).size
        have B3 : Hid (w3.heap.size ≤ b9) := by rw [Hid, hb9]; exact Y.out.size
        have yva : Ext u2 va := by rw [hva]; exact (Only.refl No _).alloc _
        have F := Lib.hid (F.out.on yva)
        have Y := Lib.hid (Y.out.then_ext yva)
        rw [← hva, ← hb9]
        refine hK _ _ (Cl.of Y.out) ?_
        clear hK K hva hb9 yva
        simp only [Act.put, List.setIfInBounds_toArray, List.set_cons_succ, List.set_cons_zero]
        refine Mix.tree_one (i := 12) (by kernel_rfl) (by kernel_rfl) rfl rfl rfl ?_
        intro K hK
        have k0 := C.out.cell 0
        have k1 := C.out.cell 1
        have k2 := C.out.cell 2
        have k3 := C.out.cell 3
        simp only [List.getElem?_toArray, List.getElem?_cons_succ, List.getElem?_cons_zero] at k0 k1 k2 k3
        have z0 := C.out.frozen 0
        have z1 := C.out.frozen 1
        have z2 := C.out.frozen 2
        have z3 := C.out.frozen 3
        go_simp
        obtain ⟨v9, hv9⟩ : ∃ u, u = ((((va).setCell ⟨b9, 0, none⟩ (.slice A1 x.2.targets.length c1)).setCell ⟨b9, 1, none⟩ (.slice none 0 0)).setCell ⟨b9, 2, none⟩ (.slice none 0 0)).setCell ⟨b9, 3, none⟩ (.bool ph) := ⟨_, rfl⟩
        have O9 : Only (fun q => q = b9) (va) v9 := by rw [hv9]; exact ((((Only.refl _ _).at_ 0 _).at_ 1 _).at_ 2 _).at_ 3 _
        have C9 : Cs v9 b9 grpT #[.slice A1 x.2.targets.length c1, .slice none 0 0, .slice none 0 0, .bool ph] := by rw [hv9]; exact (((C.out.set_ 0 _).set_ 1 _).set_ 2 _).set_ 3 _
        have x9 : Ext w v9 := (X3.out.then_ext Y.out).trans O9 fun q hq e => by have e : q = b9 := e; have := B9.out; omega
        have F9 : Fresh strF 9 w v9 A1 c1 x.2.targets := ⟨own_keep F.out.own O9 (own_ne_cs F.out.own C.out (by decide)), x9, F.out.new⟩
        have y9 : Ext w3 v9 := Y.out.trans O9 fun q hq e => by have e : q = b9 := e; have := B3.out; omega
        rw [← hv9]
        refine hK _ _ (Cl.of y9) ?_
        clear hK K hv9 k0 k1 k2 k3 z0 z1 z2 z3
        simp only [Act.put, List.setIfInBounds_toArray, List.set_cons_succ, List.set_cons_zero]
        refine Mix.tree_nil ?_
        go_wp2_with fail
        go_meet
        exact ⟨b9, A1, c1, rfl, C9, HC.out.2.1.keep y9 id, HC.out.2.2.keep y9 id, F9, Fresh.nil _ _ _ _ x9, Fresh.nil _ _ _ _ x9, B9.out, HB.out.2.2, by have := HC.out.2.2.lt; have := B3.out; omega, fun q _ h2 => by simp [Value.ownBlock] at h2, fun q _ h2 => by simp [Value.ownBlock] at h2, fun q _ h2 => by simp [Value.ownBlock] at h2⟩
      ·
        intro K hK
        go_simp
        obtain ⟨va, hva⟩ : ∃ u, u = (u1).alloc (.cells #[.slice none 0 0, .slice none 0 0, .slice none 0 0, .bool false] grpT) := ⟨_, rfl⟩
        obtain ⟨b9, hb9⟩ : ∃ g, g = (u1).heap.size := ⟨_, rfl⟩
        have C : Hid (Cs va b9 grpT #[.slice none 0 0, .slice none 0 0, .slice none 0 0, .bool false]) := by rw [hva, hb9]; exact Cs.new _ _ _
        have B9 : Hid (w.heap.size ≤ b9) := by rw [Hid, hb9]; exact (X3.out.then_ext Y.out).size
        have B3 : Hid (w3.heap.size ≤ b9) := by rw [Hid, hb9]; exact Y.out.size
        have yva : Ext u1 va := by rw [hva]; exact (Only.refl No _).alloc _
        have F := Lib.hid (F.out.on yva)
        have Y := Lib.hid (Y.out.then_ext yva)
        rw [← hva, ← hb9]
        refine hK _ _ (Cl.of Y.out) ?_
        clear hK K hva hb9 yva
        simp only [Act.put, List.setIfInBounds_toArray, List.set_cons_succ, List.set_cons_zero]
        refine Mix.tree_one (i := 9) (by kernel_rfl) (by kernel_rfl) rfl rfl rfl ?_
        intro K hK
        go_simp
        refine (HCo.out _ (X3.out.then_ext Y.out)).mono ?_
        rintro e u2 ⟨rfl, hx2⟩
        have F := Lib.hid (F.out.on hx2)
        have C := Lib.hid (C.out.keep hx2 id)
        have Y := Lib.hid (Y.out.then_ext hx2)
        refine ⟨_, rfl, hK _ _ (Cl.of Y.out) ?_⟩
        clear hK K hx2
        simp only [Act.put, List.setIfInBounds_toArray, List.set_cons_succ, List.set_cons_zero]
        (refine Mix.tree_quiet (i := 10) (by kernel_rfl) rfl rfl rfl rfl ?_; intro K hK; go_big_quiet_op; go_big_quiet_on)
        refine Mix.tree_one (i := 12) (by kernel_rfl) (by kernel_rfl) rfl rfl rfl ?_
        intro K hK
        have k0 := C.out.cell 0
        have k1 := C.out.cell 1
        have k2 := C.out.cell 2
        have k3 := C.out.cell 3
        simp only [List.getElem?_toArray, List.getElem?_cons_succ, List.getElem?_cons_zero] at k0 k1 k2 k3
        have z0 := C.out.frozen 0
        have z1 := C.out.frozen 1
        have z2 := C.out.frozen 2
        have z3 := C.out.frozen 3
        go_simp
        obtain ⟨v9, hv9⟩ : ∃ u, u = ((((u2).setCell ⟨b9, 0, none⟩ (.slice A1 x.2.targets.length c1)).setCell ⟨b9, 1, none⟩ (.slice none 0 0)).setCell ⟨b9, 2, none⟩ (.slice none 0 0)).setCell ⟨b9, 3, none⟩ (.bool ph) := ⟨_, rfl⟩
        have O9 : Only (fun q => q = b9) (u2) v9 := by rw [hv9]; exact ((((Only.refl _ _).at_ 0 _).at_ 1 _).at_ 2 _).at_ 3 _
        have C9 : Cs v9 b9 grpT #[.slice A1 x.2.targets.length c1, .slice none 0 0, .slice none 0 0, .bool ph] := by rw [hv9]; exact (((C.out.set_ 0 _).set_ 1 _).set_ 2 _).set_ 3 _
        have x9 : Ext w v9 := (X3.out.then_ext Y.out).trans O9 fun q hq e => by have e : q = b9 := e; have := B9.out; omega
        have F9 : Fresh strF 9 w v9 A1 c1 x.2.targets := ⟨own_keep F.out.own O9 (own_ne_cs F.out.own C.out (by decide)), x9, F.out.new⟩
        have y9 : Ext w3 v9 := Y.out.trans O9 fun q hq e => by have e : q = b9 := e; have := B3.out; omega
        rw [← hv9]
        refine hK _ _ (Cl.of y9) ?_
        clear hK K hv9 k0 k1 k2 k3 z0 z1 z2 z3
        simp only [Act.put, List.setIfInBounds_toArray, List.set_cons_succ, List.set_cons_zero]
        refine Mix.tree_nil ?_
        go_wp2_with fail
        go_meet
        exact ⟨b9, A1, c1, rfl, C9, HC.out.2.1.keep y9 id, HC.out.2.2.keep y9 id, F9, Fresh.nil _ _ _ _ x9, Fresh.nil _ _ _ _ x9, B9.out, HB.out.2.2, by have := HC.out.2.2.lt; have := B3.out; omega, fun q _ h2 => by simp [Value.ownBlock] at h2, fun q _ h2 => by simp [Value.ownBlock] at h2, fun q _ h2 => by simp [Value.ownBlock] at h2⟩
    ·
      intro K hK
      go_simp
      obtain ⟨va, hva⟩ : ∃ u, u = (μ0).alloc (.cells #[.slice none 0 0, .slice none 0 0, .slice none 0 0, .bool false] grpT) := ⟨_, rfl⟩
      obtain ⟨b9, hb9⟩ : ∃ g, g = (μ0).heap.size := ⟨_, rfl⟩
      have C : Hid (Cs va b9 grpT #[.slice none 0 0, .slice none 0 0, .slice none 0 0, .bool false]) := by rw [hva, hb9]; exact Cs.new _ _ _
      have B9 : Hid (w.heap.size ≤ b9) := by rw [Hid, hb9]; exact (X3.out.then_ext Y.out).size
      have B3 : Hid (w3.heap.size ≤ b9) := by rw [Hid, hb9]; exact Y.out.size
      have yva : Ext μ0 va := by rw [hva]; exact (Only.refl No _).alloc _
      have Y := Lib.hid (Y.out.then_ext yva)
      rw [← hva, ← hb9]
      refine hK _ _ (Cl.of Y.out) ?_
      clear hK K hva hb9 yva
      simp only [Act.put, List.setIfInBounds_toArray, List.set_cons_succ, List.set_cons_zero]
      refine Mix.tree_one (i := 2) (by kernel_rfl) (by kernel_rfl) rfl rfl rfl ?_
      intro K hK
      go_simp
      refine (HCl.out _ (X3.out.then_ext Y.out)).mono ?_
      rintro e u1 ⟨A1, c1, rfl, hF1⟩
      have F : Hid (Fresh strF 9 w u1 A1 c1 x.2.targets) := hF1.from (X3.out.then_ext Y.out)
      have C := Lib.hid (C.out.keep hF1.ext id)
      have Y := Lib.hid (Y.out.then_ext hF1.ext)
      refine ⟨_, rfl, hK _ _ (Cl.of Y.out) ?_⟩
      clear hK K hF1
      simp only [Act.put, List.setIfInBounds_toArray, List.set_cons_succ, List.set_cons_zero]
      refine Mix.tree_one (i := 9) (by kernel_rfl) (by kernel_rfl) rfl rfl rfl ?_
      intro K hK
      go_simp
      refine (HCo.out _ (X3.out.then_ext Y.out)).mono ?_
      rintro e u2 ⟨rfl, hx2⟩
      have F := Lib.hid (F.out.on hx2)
      have C := Lib.hid (C.out.keep hx2 id)
      have Y := Lib.hid (Y.out.then_ext hx2)
      refine ⟨_, rfl, hK _ _ (Cl.of Y.out) ?_⟩
      clear hK K hx2
      simp only [Act.put, List.setIfInBounds_toArray, List.set_cons_succ, List.set_cons_zero]
      (refine Mix.tree_quiet (i := 10) (by kernel_rfl) rfl rfl rfl rfl ?_; intro K hK; go_big_quiet_op; go_big_quiet_on)
      refine Mix.tree_one (i := 12) (by kernel_rfl) (by kernel_rfl) rfl rfl rfl ?_
      intro K hK
      have k0 := C.out.cell 0
      have k1 := C.out.cell 1
      have k2 := C.out.cell 2
      have k3 := C.out.cell 3
      simp only [List.getElem?_toArray, List.getElem?_cons_succ, List.getElem?_cons_zero] at k0 k1 k2 k3
      have z0 := C.out.frozen 0
      have z1 := C.out.frozen 1
      have z2 := C.out.frozen 2
      have z3 := C.out.frozen 3
      go_simp
      obtain ⟨v9, hv9⟩ : ∃ u, u = ((((u2).setCell ⟨b9, 0, none⟩ (.slice A1 x.2.targets.length c1)).setCell ⟨b9, 1, none⟩ (.slice none 0 0)).setCell ⟨b9, 2, none⟩ (.slice none 0 0)).setCell ⟨b9, 3, none⟩ (.bool ph) := ⟨_, rfl⟩
      have O9 : Only (fun q => q = b9) (u2) v9 := by rw [hv9]; exact ((((Only.refl _ _).at_ 0 _).at_ 1 _).at_ 2 _).at_ 3 _
      have C9 : Cs v9 b9 grpT #[.slice A1 x.2.targets.length c1, .slice none 0 0, .slice none 0 0, .bool ph] := by rw [hv9]; exact (((C.out.set_ 0 _).set_ 1 _).set_ 2 _).set_ 3 _
      have x9 : Ext w v9 := (X3.out.then_ext Y.out).trans O9 fun q hq e => by have e : q = b9 := e; have := B9.out; omega
      have F9 : Fresh strF 9 w v9 A1 c1 x.2.targets := ⟨own_keep F.out.own O9 (own_ne_cs F.out.own C.out (by decide)), x9, F.out.new⟩
      have y9 : Ext w3 v9 := Y.out.trans O9 fun q hq e => by have e : q = b9 := e; have := B3.out; omega
      rw [← hv9]
      refine hK _ _ (Cl.of y9) ?_
      clear hK K hv9 k0 k1 k2 k3 z0 z1 z2 z3
      simp only [Act.put, List.setIfInBounds_toArray, List.set_cons_succ, List.set_cons_zero]
      refine Mix.tree_nil ?_
      go_wp2_with fail
      go_meet
      exact ⟨b9, A1, c1, rfl, C9, HC.out.2.1.keep y9 id, HC.out.2.2.keep y9 id, F9, Fresh.nil _ _ _ _ x9, Fresh.nil _ _ _ _ x9, B9.out, HB.out.2.2, by have := HC.out.2.2.lt; have := B3.out; omega, fun q _ h2 => by simp [Value.ownBlock] at h2, fun q _ h2 => by simp [Value.ownBlock] at h2, fun q _ h2 => by simp [Value.ownBlock] at h2⟩
  case rest =>
    obtain ⟨b9, A1, c1, rfl, hG⟩ := hcut
    have G1 := Lib.hid hG
    clear hG HCl HCo d5 d4 dt hgb
    obtain ⟨ts, hts⟩ : ∃ l, l = tgtOf x.2 name stem := ⟨_, rfl⟩
    have HTs := Lib.hid hts
    clear hts
    go_upto_region 2 with fail
    go_cut [9, 26] from 25 to 26 (fun p c u => p = rpt b9 ∧ (∃ cb, c = .bool cb ∧ (cb = true ↔ stem ≠ [])) ∧ u = wc)
    case first =>
      by_cases hst : stem = []
      · subst hst
        go_wp2_with fail
        go_meet
        exact ⟨rfl, ⟨false, rfl, by simp⟩, rfl⟩
      · have q1 : (stem == ([] : Str)) = false := by rw [beq_eq_false_iff_ne]; exact hst
        go_wp2_with fail
        go_meet
        exact ⟨rfl, ⟨true, rfl, by simp [hst]⟩, rfl⟩
    case rest =>
    obtain ⟨rfl, ⟨cb, rfl, hcb⟩, hwc⟩ := hcut
    subst hwc
    have HCB := Lib.hid hcb
    clear hcb
    go_upto_if 26 with fail
    go_cut [9] from 27 to 29 (fun p u => ∃ A1 c1, p = rpt b9 ∧ Gr w u b9 b5 b8 (rulL x) ⟨A1, c1, none, 0, none, 0⟩ ts [] [] ph)
    case first =>
      cases cb with
      | false =>
        have hst : stem = [] := Classical.byContradiction fun h => absurd (HCB.out.2 h) (by decide)
        go_wp2_with fail
        go_meet
        exact ⟨A1, c1, rfl, by rw [HTs.out, hst]; exact G1.out⟩
      | true =>
        have hst := HCB.out.1 rfl
        have HT2 : Hid (ts = [name]) := HTs.out.trans (if_neg hst)
        have k0 := G1.out.cs.cell 0
        have z0 := G1.out.cs.frozen 0
        simp only [List.getElem?_toArray, List.getElem?_cons_succ, List.getElem?_cons_zero] at k0
        have G2 := Lib.hid (G1.out.ext ((Only.refl No wc).alloc (.cells #[S name] 9)))
        have k2 : (wc.alloc (.cells #[S name] 9)).cell? ⟨b9, 0, none⟩ = some (.slice A1 x.2.targets.length c1) := G2.out.cs.cell 0
        have z2 := G2.out.cs.frozen 0
        clear hst
        go_wp2_with fail
        go_meet
        exact ⟨_, 1, rfl, by rw [HT2.out]; exact G1.out.newT rfl rfl (fresh_one G1.out.ft.ext name) ((Only.refl No wc).alloc _)⟩
    case rest =>
      obtain ⟨A2, c2, rfl, hG⟩ := hcut
      have G2 := Lib.hid hG
      clear hG G1
      have htl1 : 1 ≤ ts.length := by
        rw [HTs.out]; unfold tgtOf
        split
        · exact h1
        · exact Nat.le_refl 1
      have htl2 : Hid (∀ t ∈ ts, t.length ≤ 1000) := by
        rw [HTs.out]; unfold tgtOf
        split
        · exact fun t ht => by have := HL.out.1 t ht; omega
        · intro t ht; simp at ht; rw [ht]; omega
      obtain ⟨nA0, hnA⟩ : ∃ A, A = x.1.nA := ⟨_, rfl⟩
      obtain ⟨cA0, hcA⟩ : ∃ A, A = x.1.cA := ⟨_, rfl⟩
      have HN0 : Hid (SlR strF w nA0 x.2.needs.length x.2.needs) := by rw [Hid, hnA]; exact HX.out.2.1
      have HC0 : Hid (SlR strF w cA0 x.2.cmds.length x.2.cmds) := by rw [Hid, hcA]; exact HX.out.2.2
      have d1 : wc.cell? ⟨b5, 1, none⟩ = some (.slice nA0 x.2.needs.length x.1.nc) := by rw [hnA]; exact G2.out.c5.cell 1
      have HD2 : Hid (∀ u, Cs u b5 ruleT (rulL x) → u.cell? ⟨b5, 2, none⟩ = some (.slice cA0 x.2.cmds.length x.1.cc)) := fun u hu => by rw [hcA]; exact hu.cell 2
      have HRp : Hid (∀ t, t.length ≤ 1000 → ∀ u, Ext w u → Calls Tryz.prog 117 #[S t, S [37], S stem, .int .i64 1] u fun e w' => e = .returned (S (onceF t stem)) ∧ Ext u w') := fun t ht u hu => Rep1_c (HM.out.1.ext hu) t stem (by omega) (by omega)
      clear hnA hcA
      go_wp2_with fail
      go_loopw [33] (fun i wr => ∃ k : Nat, k ≤ x.2.needs.length ∧ i = .int .i64 k ∧ ∃ nA nc ns, ns = (x.2.needs.take k).map (fun n => onceF n stem) ∧ Gr w wr b9 b5 b8 (rulL x) ⟨A2, c2, nA, nc, none, 0⟩ ts ns [] ph) (fun i _ => x.2.needs.length - (intOf i).toNat)
      case atStart => exact ⟨0, Nat.zero_le _, rfl, none, 0, [], rfl, G2.out⟩
      case round =>
        clear G2 d1
        obtain ⟨k, hk, rfl, nA, nc, ns, hns, hG⟩ := hrel
        have G3 := Lib.hid hG
        have HNs := Lib.hid hns
        have hnl : ns.length = k := by rw [hns, List.length_map, List.length_take]; omega
        clear hG hns
        by_cases hlt : k < x.2.needs.length
        · obtain ⟨bn, o, t, rfl, ht, ct⟩ := strs_get HN0.out hlt
          have HT := Lib.hid ht
          have htl : t.length ≤ 1000 := by have := HL.out.2.1 t (List.mem_of_getElem? ht); omega
          have ct' : wr.cell? ⟨bn, o + k, none⟩ = some (S t) := ct ⟨wr, G3.out.ft.ext⟩
          clear ht
          obtain ⟨F, hF⟩ : ∃ F : Nat → Prop, F = fun q => (Value.slice nA ns.length nc).ownBlock = some q := ⟨_, rfl⟩
          have hF9 : ¬ F b9 := by
            rw [hF]
            exact fun e => own_ne_cs G3.out.fn.own G3.out.cs (by decide) _ e rfl
          obtain ⟨wd, hwd⟩ : ∃ v, v = wr.drew := ⟨_, rfl⟩
          have GD : Hid (Gr w wd b9 b5 b8 (rulL x) ⟨A2, c2, nA, nc, none, 0⟩ ts ns [] ph) := by rw [hwd]; exact G3.out.ext (Only.refl No _).drew
          have c0 : ∀ ξ : X wd F, ξ.v.cell? ⟨b9, 1, none⟩ = some (.slice nA ns.length nc) := GD.out.cs.x hF9 1
          have HFq := Lib.hid hF
          have HNl := Lib.hid hnl
          have hn3 : ns.length ≤ 3 := by omega
          clear hF hF9 hnl
          go_upto_region 7 with fail
          refine Mix.wp_draw [4, 5, 6, 8] 8 (Cl wd F) (by kernel_rfl) (by kernel_rfl) (by rw [hwd]; exact Cl.of (Only.refl _ _)) ?_
          rw [← hwd]
          clear hwd ct ct'
          (repeat' (refine Mix.lex_quiet0 rfl rfl rfl ?_; intro K hK; go_big_quiet_op; go_big_quiet_on))
          ((first | refine Mix.lex_goes0 rfl rfl ?_ | refine Mix.lex_goesG rfl rfl rfl (by with_reducible rfl) rfl ?_); intro K hK; go_simp)
          refine (HRp.out t htl _ GD.out.ft.ext).mono ?_
          rintro e u5 ⟨rfl, hx5⟩
          have G5 := Lib.hid (GD.out.ext hx5)
          have O5 : Hid (Only F wd u5) := hx5.weak fun b _ e => e.elim
          refine ⟨_, rfl, hK _ _ (fun _ => Cl.of O5.out) ?_⟩
          clear hK K hx5 GD
          simp only [Act.put, List.setIfInBounds_toArray, List.set_cons_succ, List.set_cons_zero]
          obtain ⟨y, hy⟩ : ∃ y, y = onceF t stem := ⟨_, rfl⟩
          rw [← hy]
          have HY := Lib.hid hy
          clear hy
          ((first | refine Mix.lex_goes0 rfl rfl ?_ | refine Mix.lex_goesG rfl rfl rfl (by with_reducible rfl) rfl ?_); intro K hK; go_simp)
          have G6 := Lib.hid (G5.out.ext ((Only.refl No u5).alloc (.cells #[S y] 9)))
          refine hK _ _ (fun _ => Cl.of (O5.out.alloc _)) ?_
          clear hK K
          simp only [Act.put, List.setIfInBounds_toArray, List.set_cons_succ, List.set_cons_zero]
          refine Mix.lex_goes0 rfl rfl ?_
          intro K hK
          refine goes_append (v := .slice nA ns.length nc) (n := ns.length) (xs := ns.flatMap strF.enc) st_ty rfl rfl rfl G6.out.fn.own (rd_one u5 _ [S y]) (by simp [Value.oneCell']) (by omega) ?_
          intro A' c' w5 hown5 hg5 hb5
          have P7 := Lib.hid (G6.out.growN (t := y) hown5 hg5 hb5)
          have O7 : Hid (Only F wd w5) := (O5.out.alloc (.cells #[S y] 9)).grown hg5 fun g hg => .inr (by rw [HFq.out]; exact hg)
          refine hK _ _ (fun _ => Cl.of O7.out) ?_
          clear hK K
          simp only [Act.put, List.setIfInBounds_toArray, List.set_cons_succ, List.set_cons_zero]
          have C7 := G6.out.cs.keep ((Only.refl (fun b => (Value.slice nA ns.length nc).ownBlock = some b) _).grown hg5 fun g hg => .inr hg) (fun e => own_ne_cs G6.out.fn.own G6.out.cs (by decide) _ e rfl)
          have y0 : w5.cell? ⟨b9, 1, none⟩ = some (.slice nA ns.length nc) := C7.cell 1
          have z0 := C7.frozen 1
          clear C7 hown5 hg5 hb5 G6 G5
          (repeat' (refine Mix.lex_quiet0 rfl rfl rfl ?_; intro K hK; go_big_quiet_op; go_big_quiet_on))
          ((first | refine Mix.lex_goes0 rfl rfl ?_ | refine Mix.lex_goesG rfl rfl rfl (by with_reducible rfl) rfl ?_); intro K hK; go_simp)
          refine hK _ _ (fun hne => absurd rfl hne) ?_
          clear hK K y0 z0
          simp only [Act.put, List.setIfInBounds_toArray, List.set_cons_succ, List.set_cons_zero]
          refine Mix.lex_nil ?_
          go_wp2_with fail
          go_roundw
          case rel => exact ⟨k + 1, by omega, by go_num, A', c', ns ++ [y], by rw [HNs.out, HY.out, List.take_add_one, HT.out]; simp, P7.out⟩
          case measure => simp [intOf]; omega
        · obtain rfl : k = x.2.needs.length := by omega
          have HNd : Hid (ns = ndsOf x.2 stem) := by rw [Hid, HNs.out, List.take_of_length_le (Nat.le_refl _)]; rfl
          have hn3 : ns.length ≤ 3 := by omega
          have HNl := Lib.hid hnl
          have d2 : wr.cell? ⟨b5, 2, none⟩ = some (.slice cA0 x.2.cmds.length x.1.cc) := HD2.out wr G3.out.c5
          have htl3 : Hid (∀ t ∈ ns, t.length ≤ 1000) := by
            rw [HNd.out]
            intro t ht
            obtain ⟨y, hy, rfl⟩ := List.mem_map.1 ht
            have a1 := HL.out.2.1 y hy
            have a2 := onceF_len y stem
            omega
          have hcap : ns.length ≤ nc := own_cap G3.out.fn.own
          have HAu : Hid (∀ c, c.length ≤ 1000 → ∀ u, SlR strF u A2 ts.length ts → SlR strF u nA ns.length ns → Calls Tryz.prog 118 #[S c, .slice A2 ts.length c2, .slice nA ns.length nc, S stem] u fun e w' => e = .returned (S (cmdOf ts ns stem c)) ∧ Ext u w') := fun c hc u q1 q2 =>
            Auto_c q1 htl1 q2 (by omega) hcap c stem hc htl2.out htl3.out (by omega)
          clear hcap hnl hlt HNs HRp HN0
          go_wp2_with fail
          go_loopw [49] (fun i wr => ∃ j : Nat, j ≤ x.2.cmds.length ∧ i = .int .i64 j ∧ ∃ cA cc ks, ks = (x.2.cmds.take j).map (cmdOf ts ns stem) ∧ Gr w wr b9 b5 b8 (rulL x) ⟨A2, c2, nA, nc, cA, cc⟩ ts ns ks ph) (fun i _ => x.2.cmds.length - (intOf i).toNat)
          case atStart => exact ⟨0, Nat.zero_le _, rfl, none, 0, [], rfl, G3.out⟩
          case round =>
            clear G3 d2
            obtain ⟨j, hj, rfl, cA, cc, ks, hks, hG⟩ := hrel
            have G4 := Lib.hid hG
            have HKs := Lib.hid hks
            have hkl : ks.length = j := by rw [hks, List.length_map, List.length_take]; omega
            clear hG hks
            by_cases hlt : j < x.2.cmds.length
            · obtain ⟨bn, o, t, rfl, ht, ct⟩ := strs_get HC0.out hlt
              have HT := Lib.hid ht
              have htl : t.length ≤ 1000 := by have := HL.out.2.2 t (List.mem_of_getElem? ht); omega
              have ct' : wr.cell? ⟨bn, o + j, none⟩ = some (S t) := ct ⟨wr, G4.out.ft.ext⟩
              clear ht
              obtain ⟨F, hF⟩ : ∃ F : Nat → Prop, F = fun q => (Value.slice cA ks.length cc).ownBlock = some q := ⟨_, rfl⟩
              have hF9 : ¬ F b9 := by
                rw [hF]
                exact fun e => own_ne_cs G4.out.fc.own G4.out.cs (by decide) _ e rfl
              obtain ⟨wd, hwd⟩ : ∃ v, v = wr.drew := ⟨_, rfl⟩
              have GD : Hid (Gr w wd b9 b5 b8 (rulL x) ⟨A2, c2, nA, nc, cA, cc⟩ ts ns ks ph) := by rw [hwd]; exact G4.out.ext (Only.refl No _).drew
              have c0 : ∀ ξ : X wd F, ξ.v.cell? ⟨b9, 0, none⟩ = some (.slice A2 ts.length c2) := GD.out.cs.x hF9 0
              have c1 : ∀ ξ : X wd F, ξ.v.cell? ⟨b9, 1, none⟩ = some (.slice nA ns.length nc) := GD.out.cs.x hF9 1
              have c3 : ∀ ξ : X wd F, ξ.v.cell? ⟨b9, 2, none⟩ = some (.slice cA ks.length cc) := GD.out.cs.x hF9 2
              have HFq := Lib.hid hF
              have HKl := Lib.hid hkl
              have hk3 : ks.length ≤ 3 := by omega
              clear hF hF9 hkl
              go_upto_region 12 with fail
              refine Mix.wp_draw [8, 9, 10, 12] 12 (Cl wd F) (by kernel_rfl) (by kernel_rfl) (by rw [hwd]; exact Cl.of (Only.refl _ _)) ?_
              rw [← hwd]
              clear hwd ct ct'
              (repeat' (refine Mix.lex_quiet0 rfl rfl rfl ?_; intro K hK; go_big_quiet_op; go_big_quiet_on))
              ((first | refine Mix.lex_goes0 rfl rfl ?_ | refine Mix.lex_goesG rfl rfl rfl (by with_reducible rfl) rfl ?_); intro K hK; go_simp)
              refine (HAu.out t htl _ (GD.out.ft.row (by decide)) (GD.out.fn.row (by decide))).mono ?_
              rintro e u5 ⟨rfl, hx5⟩
              have G5 := Lib.hid (GD.out.ext hx5)
              have O5 : Hid (Only F wd u5) := hx5.weak fun b _ e => e.elim
              refine ⟨_, rfl, hK _ _ (fun _ => Cl.of O5.out) ?_⟩
              clear hK K hx5 GD
              simp only [Act.put, List.setIfInBounds_toArray, List.set_cons_succ, List.set_cons_zero]
              obtain ⟨y, hy⟩ : ∃ y, y = cmdOf ts ns stem t := ⟨_, rfl⟩
              rw [← hy]
              have HY := Lib.hid hy
              clear hy
              ((first | refine Mix.lex_goes0 rfl rfl ?_ | refine Mix.lex_goesG rfl rfl rfl (by with_reducible rfl) rfl ?_); intro K hK; go_simp)
              have G6 := Lib.hid (G5.out.ext ((Only.refl No u5).alloc (.cells #[S y] 9)))
              refine hK _ _ (fun _ => Cl.of (O5.out.alloc _)) ?_
              clear hK K
              simp only [Act.put, List.setIfInBounds_toArray, List.set_cons_succ, List.set_cons_zero]
              refine Mix.lex_goes0 rfl rfl ?_
              intro K hK
              refine goes_append (v := .slice cA ks.length cc) (n := ks.length) (xs := ks.flatMap strF.enc) st_ty rfl rfl rfl G6.out.fc.own (rd_one u5 _ [S y]) (by simp [Value.oneCell']) (by omega) ?_
              intro A' c' w5 hown5 hg5 hb5
              have P7 := Lib.hid (G6.out.growK (t := y) hown5 hg5 hb5)
              have O7 : Hid (Only F wd w5) := (O5.out.alloc (.cells #[S y] 9)).grown hg5 fun g hg => .inr (by rw [HFq.out]; exact hg)
              refine hK _ _ (fun _ => Cl.of O7.out) ?_
              clear hK K
              simp only [Act.put, List.setIfInBounds_toArray, List.set_cons_succ, List.set_cons_zero]
              have C7 := G6.out.cs.keep ((Only.refl (fun b => (Value.slice cA ks.length cc).ownBlock = some b) _).grown hg5 fun g hg => .inr hg) (fun e => own_ne_cs G6.out.fc.own G6.out.cs (by decide) _ e rfl)
              have y0 : w5.cell? ⟨b9, 2, none⟩ = some (.slice cA ks.length cc) := C7.cell 2
              have z0 := C7.frozen 2
              clear C7 hown5 hg5 hb5 G6 G5
              (repeat' (refine Mix.lex_quiet0 rfl rfl rfl ?_; intro K hK; go_big_quiet_op; go_big_quiet_on))
              ((first | refine Mix.lex_goes0 rfl rfl ?_ | refine Mix.lex_goesG rfl rfl rfl (by with_reducible rfl) rfl ?_); intro K hK; go_simp)
              refine hK _ _ (fun hne => absurd rfl hne) ?_
              clear hK K y0 z0
              simp only [Act.put, List.setIfInBounds_toArray, List.set_cons_succ, List.set_cons_zero]
              refine Mix.lex_nil ?_
              go_wp2_with fail
              go_roundw
              case rel => exact ⟨j + 1, by omega, by go_num, A', c', ks ++ [y], by rw [HKs.out, HY.out, List.take_add_one, HT.out]; simp, P7.out⟩
              case measure => simp [intOf]; omega
            · obtain rfl : j = x.2.cmds.length := by omega
              have HKd : Hid (ks = x.2.cmds.map (cmdOf ts ns stem)) := by rw [Hid, HKs.out, List.take_of_length_le (Nat.le_refl _)]
              have HR : Hid (groupF m x.2 name stem = ⟨ts, ns, ks, ph⟩) := by
                rw [Hid, HKd.out, HNd.out, HTs.out, HPh.out, ← HT0.out]
                rfl
              have k0 : wr.cell? ⟨b9, 0, none⟩ = some (.slice A2 ts.length c2) := G4.out.cs.cell 0
              have k1 : wr.cell? ⟨b9, 1, none⟩ = some (.slice nA ns.length nc) := G4.out.cs.cell 1
              have k2 : wr.cell? ⟨b9, 2, none⟩ = some (.slice cA ks.length cc) := G4.out.cs.cell 2
              have k3 : wr.cell? ⟨b9, 3, none⟩ = some (.bool ph) := G4.out.cs.cell 3
              have e0 : wr.cell? ⟨b8, 0, none⟩ = some (.slice none 0 0) := G4.out.c8.cell 0
              have e1 : wr.cell? ⟨b8, 1, none⟩ = some (.slice none 0 0) := G4.out.c8.cell 1
              have e2 : wr.cell? ⟨b8, 2, none⟩ = some (.slice none 0 0) := G4.out.c8.cell 2
              have e3 : wr.cell? ⟨b8, 3, none⟩ = some (.bool false) := G4.out.c8.cell 3
              have z0 := G4.out.c8.frozen 0
              have z1 := G4.out.c8.frozen 1
              have z2 := G4.out.c8.frozen 2
              have z3 := G4.out.c8.frozen 3
              clear hkl hlt HKs HAu
              have HO : Hid (∀ a b c d, Only (fun b => b = b8) wr ((((wr.setCell ⟨b8, 0, none⟩ a).setCell ⟨b8, 1, none⟩ b).setCell ⟨b8, 2, none⟩ c).setCell ⟨b8, 3, none⟩ d)) := fun a b c d => ((((Only.refl _ _).at_ 0 a).at_ 1 b).at_ 2 c).at_ 3 d
              have HS : Hid (∀ a b c d, Cs ((((wr.setCell ⟨b8, 0, none⟩ a).setCell ⟨b8, 1, none⟩ b).setCell ⟨b8, 2, none⟩ c).setCell ⟨b8, 3, none⟩ d) b8 grpT #[a, b, c, d]) := fun a b c d => (((G4.out.c8.set_ 0 a).set_ 1 b).set_ 2 c).set_ 3 d
              go_wp2_with fail
              have hl := load_grp (HS.out (.slice A2 ts.length c2) (.slice nA ns.length nc) (.slice cA ks.length cc) (.bool ph))
              have hO := HO.out (.slice A2 ts.length c2) (.slice nA ns.length nc) (.slice cA ks.length cc) (.bool ph)
              have hE := G4.out.ft.ext.trans hO fun q hq e => by have e : q = b8 := e; have := G4.out.h8; omega
              refine bodyPost_cell1 (p := 8) (ty := grpT) (ad := ⟨b8, 0, none⟩) rfl rfl rfl hl ?_
              rw [HR.out]
              exact ⟨⟨A2, c2, nA, nc, cA, cc⟩, rfl, G4.out.ft.keep hO hE (own_ne_cs G4.out.ft.own G4.out.c8 (by decide)), G4.out.fn.keep hO hE (own_ne_cs G4.out.fn.own G4.out.c8 (by decide)), G4.out.fc.keep hO hE (own_ne_cs G4.out.fc.own G4.out.c8 (by decide)), hE⟩
structure GrM (u : World) (g : Nat) (v : MkV) (rs : List (RulA × Rul)) (m : Mk) (lA : Option Addr) (lc : Nat) (l : List File) : Prop where
  c0 : u.cell? ⟨g, 0, none⟩ = some (.slice v.vA m.vars.length v.vc)
  c1 : u.cell? ⟨g, 1, none⟩ = some (.slice v.rA m.rules.length v.rc)
  c2 : u.cell? ⟨g, 2, none⟩ = some (.slice v.pA m.phony.length v.pc)
  c3 : u.cell? ⟨g, 3, none⟩ = some (.slice lA l.length lc)
  mr : MakeR u v rs m
  fl : SlR fileF u lA l.length l
theorem GrM.ext {u w : World} {g : Nat} {v : MkV} {rs : List (RulA × Rul)} {m : Mk} {lA : Option Addr} {lc : Nat} {l : List File} (h : GrM u g v rs m lA lc l) (hx : Ext u w) : GrM w g v rs m lA lc l :=
  have hb : g < u.heap.size := World.block_lt_of_cell? _ _ h.c0
  ⟨(hx.cell (p := ⟨g, 0, none⟩) hb id).trans h.c0, (hx.cell (p := ⟨g, 1, none⟩) hb id).trans h.c1, (hx.cell (p := ⟨g, 2, none⟩) hb id).trans h.c2, (hx.cell (p := ⟨g, 3, none⟩) hb id).trans h.c3, h.mr.ext hx, h.fl.ext hx⟩
structure GBd (m : Mk) (l : List File) : Prop where
  r : m.rules.length ≤ 100
  t : ∀ r ∈ m.rules, 1 ≤ r.targets.length ∧ r.targets.length ≤ 2 ∧ r.needs.length ≤ 3 ∧ r.cmds.length ≤ 3 ∧ (∀ x ∈ r.targets, x.length ≤ 100) ∧ (∀ x ∈ r.needs, x.length ≤ 100) ∧ (∀ x ∈ r.cmds, x.length ≤ 100)
  p : m.phony.length ≤ 100000
  n : l.length ≤ 900000
  o : Rise fk l
theorem idxI_ge {o : Option Nat} : decide (idxI o ≥ 0) = o.isSome := by
  cases o with
  | none => rfl
  | some k => simp [idxI]
theorem expl_some (rs : List Rul) (n : Str) : (rs.findIdx? fun r => inS r.targets n).isSome = (explF rs n).isSome := by
  unfold explF
  rw [List.findIdx?_isSome, Bool.eq_iff_iff, List.any_eq_true, List.find?_isSome]
set_option maxRecDepth 100000 in
theorem there_c {u : World} {g : Nat} {v : MkV} {rs : List (RulA × Rul)} {m : Mk} {lA : Option Addr} {lc : Nat} {l : List File} (h : GrM u g v rs m lA lc l) (hb : GBd m l) (name : Str) :
    Calls Tryz.prog 90 #[.pointer (some ⟨g, 0, none⟩), S name] u fun e w' => e = .returned (.bool (hereB m l name)) ∧ Ext u w' := by
  have HG := Lib.hid (Get_c (c := lc) h.fl (Nat.le_trans hb.n (by omega)) name hb.o)
  have HM := Lib.hid h
  have HE := Lib.hid (fun w (hx : Ext u w) => explicit_c (h.ext hx).mr hb.r (fun r hr => by have := (hb.t r hr).2.1; omega) name)
  obtain ⟨q, hq⟩ : ∃ q, isF l name = q := ⟨_, rfl⟩
  have HR : Hid (hereB m l name = (q || (explF m.rules name).isSome)) := by rw [Hid, hereB, hq]
  have c3 := h.c3
  have hq2 : getB name l = q := hq
  rw [hq2] at HG
  clear h hq hq2
  go_enter Tryz.func90, Tryz.ntmps90
  go_wp2_with fail
  refine HG.out.mono ?_
  rintro e u1 ⟨rfl, hx⟩
  have M1 := Lib.hid (HM.out.ext hx)
  have X1 := Lib.hid hx
  have c0 := M1.out.c0
  have c1 := M1.out.c1
  have c2 := M1.out.c2
  clear hx HG c3
  cases q with
  | true =>
    go_wp2_with fail
    go_ret
    exact ⟨by rw [HR.out]; rfl, X1.out⟩
  | false =>
    go_wp2_with fail
    refine (HE.out _ X1.out).mono ?_
    rintro e u2 ⟨rfl, hx⟩
    have X2 := Lib.hid (X1.out.then_ext hx)
    obtain ⟨i, hi⟩ : ∃ i, i = idxI (m.rules.findIdx? fun r => inS r.targets name) := ⟨_, rfl⟩
    rw [← hi]
    have HI : Hid (decide (i ≥ 0) = (explF m.rules name).isSome) := by rw [hi, idxI_ge, expl_some]; rfl
    clear hx hi
    go_wp2_with fail
    go_ret
    exact ⟨by rw [HR.out, ← HI.out]; rfl, X2.out⟩
set_option maxRecDepth 100000 in
theorem rul1_c {u : World} {g b : Nat} {v : MkV} {rs : List (RulA × Rul)} {m : Mk} {lA : Option Addr} {lc : Nat} {l : List File} (h : GrM u g v rs m lA lc l) (hb : GBd m l) (cb : u.cell? ⟨b, 0, none⟩ = some (.pointer (some ⟨g, 0, none⟩))) (name : Str) :
    Calls Tryz.prog 89 #[S name, .pointer (some ⟨b, 0, none⟩)] u fun e w' => e = .returned (.bool (!hereB m l name)) ∧ Ext u w' := by
  have HT := Lib.hid (there_c h hb name)
  clear h
  go_enter Tryz.func89, Tryz.ntmps89
  go_wp2_with fail
  refine HT.out.mono ?_
  rintro e u1 ⟨rfl, hx⟩
  have X1 := Lib.hid hx
  clear hx HT
  go_wp2_with fail
  go_ret
  exact ⟨rfl, X1.out⟩
set_option maxRecDepth 100000 in
theorem IdxT_c {w : World} {A : Option Addr} {n c : Nat} {xs : List Str} (h : SlR strF w A n xs) (hn : n ≤ 100000) (p : Str → Bool) (cap : Array Value)
    (hp : ∀ x, ∀ u, Ext w u → Calls Tryz.prog 89 (#[S x] ++ cap) u fun e w' => e = .returned (.bool (p x)) ∧ Ext u w') :
    Calls Tryz.prog 121 #[.slice A n c, .func (.func 89) #[] cap] w fun e w' => e = .returned (.int .i64 (idxI (xs.findIdx? p))) ∧ Ext w w' := by
  have HS := Lib.hid h
  have HPr := Lib.hid hp
  clear h hp
  go_enter Tryz.func121, Tryz.ntmps121
  go_wp2
  go_loopw [8] (fun i wr => ∃ k : Nat, k ≤ n ∧ i = .int .i64 k ∧ (∀ y ∈ xs.take k, p y = false) ∧ ∃ ξ : X w No, wr = ξ.v) (fun i _ => n - (intOf i).toNat)
  case atStart => exact ⟨0, Nat.zero_le _, rfl, by simp, X.here _ _, rfl⟩
  case round =>
    obtain ⟨k, hk, rfl, hT, ξ, rfl⟩ := hrel
    have HT := Lib.hid hT
    clear hT
    by_cases hlt : k < n
    · obtain ⟨b, o, x, rfl, hx, c0⟩ := strs_get HS.out hlt
      have HX := Lib.hid hx
      have HC := Lib.hid (HPr.out x _ ξ.h)
      obtain ⟨q, hq⟩ : ∃ q, p x = q := ⟨_, rfl⟩
      have HP := Lib.hid hq
      rw [hq] at HC
      clear hx hq
      go_wp2_with fail
      refine HC.out.mono ?_
      rintro e u ⟨rfl, hu⟩
      have HU : Hid (Ext w u) := Lib.hid (ξ.h.then_ext hu)
      clear hu HC
      cases q with
      | true =>
        go_wp2_with fail
        go_ret
        exact ⟨by rw [findIdx_at HT.out HX.out HP.out]; rfl, HU.out⟩
      | false =>
        go_wp2_with fail
        go_roundw
        case rel => exact ⟨k + 1, by omega, by go_num, findIdx_none_snoc HT.out HX.out HP.out, ⟨_, HU.out⟩, rfl⟩
        case measure => simp [intOf]; omega
    · obtain rfl : k = n := by omega
      go_wp2_with fail
      go_ret
      have e1 := HT.out
      rw [List.take_of_length_le (by rw [HS.out.1]; exact Nat.le_refl _)] at e1
      exact ⟨by rw [findIdx_no e1]; rfl, ξ.h⟩
theorem AnyT_c {w : World} {A : Option Addr} {n c : Nat} {xs : List Str} (h : SlR strF w A n xs) (hn : n ≤ 100000) (p : Str → Bool) (cap : Array Value)
    (hp : ∀ x, ∀ u, Ext w u → Calls Tryz.prog 89 (#[S x] ++ cap) u fun e w' => e = .returned (.bool (p x)) ∧ Ext u w') :
    Calls Tryz.prog 88 #[.slice A n c, .func (.func 89) #[] cap] w fun e w' => e = .returned (.bool (xs.any p)) ∧ Ext w w' := by
  have HC := Lib.hid (IdxT_c (c := c) h hn p cap hp)
  obtain ⟨i, hi⟩ : ∃ i, i = idxI (xs.findIdx? p) := ⟨_, rfl⟩
  rw [← hi] at HC
  have HI : Hid (decide (i ≥ 0) = xs.any p) := by rw [hi, idxI_ge, List.findIdx?_isSome]; rfl
  clear h hp hi
  go_enter Tryz.func88, Tryz.ntmps88
  go_wp2_with fail
  refine HC.out.mono ?_
  rintro e u ⟨rfl, hu⟩
  have HU := Lib.hid hu
  clear HC hu
  go_wp2_with fail
  go_ret
  exact ⟨by rw [← HI.out]; rfl, HU.out⟩
end Go.Proofs.YtnhaekifcieeoaaGreatDoor
