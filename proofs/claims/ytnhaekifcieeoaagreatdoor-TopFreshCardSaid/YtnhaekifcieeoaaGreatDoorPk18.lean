/- Put together: Pl0, Rfd, Rvf, Rst, Rg1, Rg2, Gx5, Rg3, Rg4, Pl1. -/
import Derived.Test.YtnhaekifcieeoaaGreatDoorPk17
import Derived.Test.YtnhaekifcieeoaaGreatDoorPk01
import Derived.Test.YtnhaekifcieeoaaGreatDoorPk08
import Derived.Test.YtnhaekifcieeoaaGreatDoorPk04
import Derived.Lib.IndexLaws
import Derived.Lib.IndexMore
import Derived.Test.YtnhaekifcieeoaaGreatDoorPk10
import Derived.Test.YtnhaekifcieeoaaGreatDoorPk09
import Derived.Test.YtnhaekifcieeoaaGreatDoorPk03
import Derived.Test.YtnhaekifcieeoaaGreatDoorPk16
import Derived.Test.YtnhaekifcieeoaaGreatDoorPk12
import Derived.Test.YtnhaekifcieeoaaGreatDoorPk06
import Derived.Test.YtnhaekifcieeoaaGreatDoorPk02
import Derived.Laws.MakeOwn
namespace Go.Proofs.YtnhaekifcieeoaaGreatDoor
open Go Go.RowKit
abbrev stB (st : List Bool) (i : Nat) : Bool := st.getD i false
def edgeF (gs : List Grp) (st : List Bool) (i : Nat) (n : Str) : Option Edge :=
  match makerF (gs.take i) n with
  | some k => if (stB st i && stB st k) = true then some (i, k) else none
  | none => none
def ndsAt (gs : List Grp) (i : Nat) : List Str := match gs[i]? with
  | some g => g.needs
  | none => []
def edgesAt (gs : List Grp) (st : List Bool) (i : Nat) : List Edge := (ndsAt gs i).filterMap (edgeF gs st i)
def edgesTo (gs : List Grp) (st : List Bool) (i : Nat) : List Edge := (List.range i).flatMap (edgesAt gs st)
abbrev edgesF (gs : List Grp) (st : List Bool) : List Edge := edgesTo gs st gs.length
def unitAt (n : Nat) (st : List Bool) (r : Nat → Nat) (i : Nat) : List Nat := (List.range n).filter fun k => stB st k && decide (r k = i)
def nphB (gs : List Grp) (k : Nat) : Bool := match gs[k]? with
  | some g => !g.phony
  | none => false
def realB (gs : List Grp) (u : List Nat) : Bool := u.any (nphB gs)
def unit1 (gs : List Grp) (st : List Bool) (r : Nat → Nat) (i : Nat) : Option (List Nat) := if realB gs (unitAt gs.length st r i) = true then some (unitAt gs.length st r i) else none
def unitsTo (gs : List Grp) (st : List Bool) (r : Nat → Nat) (i : Nat) : List (List Nat) := (List.range i).filterMap (unit1 gs st r)
abbrev unitsF (gs : List Grp) (st : List Bool) (r : Nat → Nat) : List (List Nat) := unitsTo gs st r gs.length
theorem edgesTo_succ (gs : List Grp) (st : List Bool) (i : Nat) : edgesTo gs st (i + 1) = edgesTo gs st i ++ edgesAt gs st i := by
  unfold edgesTo
  rw [List.range_succ, List.flatMap_append]
  simp
theorem unitsTo_succ (gs : List Grp) (st : List Bool) (r : Nat → Nat) (i : Nat) : unitsTo gs st r (i + 1) = unitsTo gs st r i ++ (unit1 gs st r i).toList := by
  unfold unitsTo
  rw [List.range_succ, List.filterMap_append]
  congr 1
theorem makerF_lt {out : List Grp} {n : Str} {k : Nat} (h : makerF out n = some k) : k < out.length := by
  unfold makerF at h
  obtain ⟨hk, _⟩ := List.findIdx?_eq_some_iff_getElem.1 h
  exact hk
theorem edge_ok {gs : List Grp} {st : List Bool} {i : Nat} {n : Str} {e : Edge} (h : edgeF gs st i n = some e) : e.1 = i ∧ e.2 < i ∧ stB st e.1 = true ∧ stB st e.2 = true := by
  unfold edgeF at h
  split at h
  · rename_i k hk
    split at h
    · rename_i hs
      cases h
      rw [Bool.and_eq_true] at hs
      have := makerF_lt hk
      rw [List.length_take] at this
      exact ⟨rfl, by show k < i; omega, hs.1, hs.2⟩
    · cases h
  · cases h
theorem edgesTo_ok {gs : List Grp} {st : List Bool} {i : Nat} : ∀ e ∈ edgesTo gs st i, e.1 < i ∧ e.2 < e.1 ∧ stB st e.1 = true ∧ stB st e.2 = true := by
  intro e he
  unfold edgesTo at he
  obtain ⟨j, hj, he⟩ := List.mem_flatMap.1 he
  unfold edgesAt at he
  obtain ⟨n, _, he⟩ := List.mem_filterMap.1 he
  obtain ⟨h1, h2, h3, h4⟩ := edge_ok he
  have := List.mem_range.1 hj
  exact ⟨by omega, by omega, h3, h4⟩
theorem Conn.stale {E : List Edge} {p : Nat → Bool} (hp : ∀ e ∈ E, p e.1 = true ∧ p e.2 = true) {x y : Nat} (h : Conn E x y) : x = y ∨ p y = true := by
  induction h with
  | here => exact .inl rfl
  | down _ e _ => exact .inr (hp _ e).2
  | up _ e _ => exact .inr (hp _ e).1
def UpI (n i : Nat) (E : List Edge) (up : List Nat) : Prop := ∃ U : List Nat, U.length = i ∧ i ≤ n ∧ up = U ++ List.replicate (n - i) 0 ∧ UpOk E U
theorem UpI.start (n : Nat) : UpI n 0 [] (List.replicate n 0) :=
  ⟨[], rfl, Nat.zero_le _, by simp, ⟨fun i hi => absurd hi (Nat.not_lt_zero i), (fun e he => by cases he), fun x y hx _ => absurd hx (Nat.not_lt_zero x)⟩⟩
theorem UpI.len {n i : Nat} {E : List Edge} {up : List Nat} (h : UpI n i E up) : up.length = n := by
  obtain ⟨U, h1, h2, rfl, _⟩ := h
  rw [List.length_append, List.length_replicate]
  omega
theorem pad_get {U : List Nat} {k j : Nat} (h : j < U.length) : (U ++ List.replicate k 0).getD j 0 = U.getD j 0 := by
  rw [List.getD_eq_getElem?_getD, List.getD_eq_getElem?_getD, List.getElem?_append_left h]
theorem pad_low {U : List Nat} {k : Nat} (h : Low U) : Low (U ++ List.replicate k 0) := by
  intro j hj
  rcases Nat.lt_or_ge j U.length with hlt | hge
  · rw [pad_get hlt]; exact h j hlt
  · rw [List.getD_eq_getElem?_getD, List.getElem?_append_right hge, List.getElem?_replicate]
    split <;> exact Nat.zero_le _
theorem UpI.low {n i : Nat} {E : List Edge} {up : List Nat} (h : UpI n i E up) : Low up := by
  obtain ⟨U, h1, h2, rfl, h3⟩ := h
  exact pad_low h3.low
theorem pad_root {U : List Nat} {k : Nat} (h : Low U) : ∀ j, j < U.length → rootA (U ++ List.replicate k 0) j = rootA U j := by
  intro j
  induction j using Nat.strongRecOn with
  | ind j ih =>
    intro hj
    rw [rootA_step (pad_low h) (by rw [List.length_append]; omega), rootA_step h hj, pad_get hj]
    by_cases he : U.getD j 0 = j
    · rw [if_pos he, if_pos he]
    · rw [if_neg he, if_neg he]
      have := h j hj
      exact ih _ (by omega) (by omega)
theorem UpI.new {n i : Nat} {E : List Edge} {up : List Nat} (h : UpI n i E up) (hi : i < n) : UpI n (i + 1) E (up.set i i) := by
  obtain ⟨U, rfl, h2, rfl, h3⟩ := h
  refine ⟨U ++ [U.length], by simp, hi, ?_, h3.new⟩
  have : List.replicate (n - U.length) 0 = 0 :: List.replicate (n - (U.length + 1)) 0 := by
    rw [show n - U.length = (n - (U.length + 1)) + 1 by omega, List.replicate_succ]
  rw [this, List.set_append_right _ _ (Nat.le_refl _), Nat.sub_self]
  simp
theorem UpI.uni {n i : Nat} {E : List Edge} {up : List Nat} (h : UpI n i E up) {e : Edge} (h1 : e.1 < i) (h2 : e.2 < i) : UpI n i (E ++ [e]) (uniF up e) := by
  obtain ⟨U, rfl, h3, rfl, h4⟩ := h
  refine ⟨uniF U e, by unfold uniF; rw [List.length_set], h3, ?_, h4.uni h1 h2⟩
  unfold uniF
  rw [pad_root h4.low _ h1, pad_root h4.low _ h2]
  have l1 := rootA_le h4.low h1
  have l2 := rootA_le h4.low h2
  rw [List.set_append_left _ _ (by omega)]
theorem UpI.fin {n : Nat} {E : List Edge} {up : List Nat} (h : UpI n n E up) : UpOk E up := by
  obtain ⟨U, h1, h2, rfl, h3⟩ := h
  rw [Nat.sub_self, List.replicate_zero, List.append_nil]
  exact h3
def LstOk (E : List Edge) (n : Nat) (r : Nat → Nat) : Prop := ∀ k, k < n → Least E k (r k)
theorem LstOk.of_up {E : List Edge} {up : List Nat} {n : Nat} (h : UpOk E up) (hl : up.length = n) : LstOk E n (rootA up) := fun k hk => h.least (by omega)
theorem unit_mem {n : Nat} {st : List Bool} {r : Nat → Nat} {i k : Nat} : k ∈ unitAt n st r i ↔ k < n ∧ stB st k = true ∧ r k = i := by
  unfold unitAt
  rw [List.mem_filter, List.mem_range, Bool.and_eq_true, decide_eq_true_eq]
theorem unit_skip {gs : List Grp} {st : List Bool} {r : Nat → Nat} (h : LstOk (edgesF gs st) gs.length r) {i : Nat} (hs : stB st i = false ∨ r i ≠ i) : unitAt gs.length st r i = [] := by
  refine List.eq_nil_iff_forall_not_mem.2 fun k hk => ?_
  obtain ⟨h1, h2, rfl⟩ := unit_mem.1 hk
  have hc := (h k h1).1
  have hp : ∀ e ∈ edgesF gs st, stB st e.1 = true ∧ stB st e.2 = true := fun e he => (edgesTo_ok e he).2.2
  have hrl : r k < gs.length := hc.lt (fun e he => by have := edgesTo_ok e he; omega) h1
  rcases hs with hs | hs
  · rcases hc.stale hp with e | e
    · rw [← e, h2] at hs; cases hs
    · rw [e] at hs; cases hs
  · refine hs ?_
    have a1 := h (r k) hrl
    have a2 : Least (edgesF gs st) (r k) (r k) := ⟨.here, fun y hy => (h k h1).2 y (hc.trans hy)⟩
    exact a1.uniq a2
theorem unit1_skip {gs : List Grp} {st : List Bool} {r : Nat → Nat} (h : LstOk (edgesF gs st) gs.length r) {i : Nat} (hs : stB st i = false ∨ r i ≠ i) : unit1 gs st r i = none := by
  unfold unit1
  rw [unit_skip h hs]
  rfl
theorem unit1_some {gs : List Grp} {st : List Bool} {r : Nat → Nat} {i : Nat} {u : List Nat} (h : unit1 gs st r i = some u) : u = unitAt gs.length st r i ∧ realB gs u = true := by
  unfold unit1 at h
  split at h
  · rename_i h1
    cases h
    exact ⟨rfl, h1⟩
  · cases h
def RulRes (w : World) : Option Grp → Ending → World → Prop
  | some g, e, w' => ∃ a : RulA, e = .returned (.tuple #[grpW (a, g), .bool true]) ∧ Fresh strF 9 w w' a.tA a.tc g.targets ∧ Fresh strF 9 w w' a.nA a.nc g.needs ∧ Fresh strF 9 w w' a.cA a.cc g.cmds ∧ Ext w w'
  | none, e, w' => e = .returned (.tuple #[.agg #[.slice none 0 0, .slice none 0 0, .slice none 0 0, .bool false], .bool false]) ∧ Ext w w'
theorem stemL_le (a b : Str) : (stemL a b).1.length ≤ b.length := by
  unfold stemL
  split
  · simp only [List.length_drop, List.length_take]; omega
  · exact Nat.zero_le _
theorem expl_idx (rs : List Rul) (n : Str) : (explF rs n = none ∧ idxI (rs.findIdx? fun r => inS r.targets n) = -1) ∨ ∃ (k : Nat) (r : Rul), rs[k]? = some r ∧ explF rs n = some r ∧ idxI (rs.findIdx? fun r => inS r.targets n) = (k : Int) := by
  unfold explF
  cases h : rs.findIdx? fun r => inS r.targets n with
  | none =>
    refine .inl ⟨?_, rfl⟩
    rw [List.findIdx?_eq_none_iff] at h
    exact List.find?_eq_none.2 fun x hx => by simp [h x hx]
  | some k =>
    obtain ⟨hk, hp, hq⟩ := List.findIdx?_eq_some_iff_getElem.1 h
    refine .inr ⟨k, rs[k], List.getElem?_eq_getElem hk, ?_, rfl⟩
    refine List.find?_eq_some_iff_getElem.2 ⟨hp, k, hk, rfl, fun j hj => by simpa using hq j hj⟩
set_option maxRecDepth 100000 in
set_option maxHeartbeats 8000000 in
theorem rule_c {w : World} {g : Nat} {v : MkV} {rs : List (RulA × Rul)} {m : Mk} {lA : Option Addr} {lc : Nat} {l : List File} (hml : Ml w) (h : GrM w g v rs m lA lc l) (hb : GBd m l) (name : Str) (hnl : name.length ≤ 200) :
    Calls Tryz.prog 60 #[.pointer (some ⟨g, 0, none⟩), S name] w (RulRes w (ruleF m l name)) := by
  obtain ⟨vA, vc, rA, rc, pA, pc⟩ := v
  obtain ⟨w1, hw1⟩ : ∃ u, u = w.alloc (.cells #[.pointer (some ⟨g, 0, none⟩)] 81) := ⟨_, rfl⟩
  obtain ⟨w2, hw2⟩ : ∃ u, u = w1.alloc (.cells #[.slice none 0 0, .slice none 0 0, .slice none 0 0, .bool false] grpT) := ⟨_, rfl⟩
  go_enter Tryz.func60, Tryz.ntmps60
  go_upto_region 1 with fail
  rw [← hw1, ← hw2]
  obtain ⟨b2, hb2⟩ : ∃ b, b = w.heap.size := ⟨_, rfl⟩
  obtain ⟨b4, hb4⟩ : ∃ b, b = w.heap.size + 1 := ⟨_, rfl⟩
  rw [← hb4, ← hb2]
  have s1 : w1.heap.size = w.heap.size + 1 := by rw [hw1]; simp
  have x1 : Ext w w1 := by rw [hw1]; exact (Only.refl No w).alloc _
  have x2 : Ext w1 w2 := by rw [hw2]; exact (Only.refl No w1).alloc _
  have C2 : Cs w2 b2 81 #[.pointer (some ⟨g, 0, none⟩)] := (show Cs w1 b2 _ _ by rw [hw1, hb2]; exact Cs.new _ _ _).keep x2 id
  have C4 : Cs w2 b4 grpT zerG := by rw [hw2, hb4, ← s1]; exact Cs.new _ _ _
  have X2 : Hid (Ext w w2) := x1.then_ext x2
  have hg : g < w.heap.size := World.block_lt_of_cell? _ _ h.c0
  have HB : Hid (g < w.heap.size ∧ w.heap.size ≤ b2 ∧ w.heap.size ≤ b4 ∧ b2 ≠ b4) := by rw [hb2, hb4]; exact ⟨hg, by omega, by omega, by omega⟩
  have HC := Lib.hid (And.intro C2 C4)
  have HM := Lib.hid (h.ext X2.out)
  have HM0 := Lib.hid h
  have HL := Lib.hid (hml.ext X2.out)
  have HE := Lib.hid (explicit_c HM.out.mr hb.r (fun r hr => by have := (hb.t r hr).2.1; omega) name)
  clear hw1 hw2 hb2 hb4 s1 x1 x2 C2 C4 h hml hg
  have HGB := Lib.hid hb
  clear hb
  have k2 : w2.cell? ⟨b2, 0, none⟩ = some (.pointer (some ⟨g, 0, none⟩)) := HC.out.1.cell 0
  have c0 : w2.cell? ⟨g, 0, none⟩ = some (.slice vA m.vars.length vc) := HM.out.c0
  have c1 : w2.cell? ⟨g, 1, none⟩ = some (.slice rA m.rules.length rc) := HM.out.c1
  have c2 : w2.cell? ⟨g, 2, none⟩ = some (.slice pA m.phony.length pc) := HM.out.c2
  have hOf : ∀ u, Ext w2 u → ∀ x ∈ rs, ∀ stem : Str, stem.length ≤ 200 → Calls Tryz.prog 86 #[mkV ⟨vA, vc, rA, rc, pA, pc⟩ m, ruleV x, S name, S stem] u (OfRes u (groupF m x.2 name stem)) := fun u hu x hx stem hst => by
    have hm := HM.out.mr.ext hu
    obtain ⟨q1, q2, q3⟩ := hm.rr x hx
    obtain ⟨p1, p2, p3, p4, p5, p6, p7⟩ := HGB.out.t x.2 (by rw [← hm.rm]; exact List.mem_map_of_mem hx)
    exact of_c (HL.out.ext hu) hm q1 q2 q3 p1 p2 p3 p4 p5 p6 p7 name stem hnl hst HGB.out.p
  have HOf := Lib.hid hOf
  clear hOf
  rcases expl_idx m.rules name with ⟨hn, hi⟩ | ⟨k, r, hr, hs, hi⟩
  · have HR0 : Hid (patF m l name m.rules = ruleF m l name) := by rw [Hid, ruleF, hn]
    rw [hi] at HE
    clear hn hi
    go_wp2_with fail
    refine HE.out.mono ?_
    rintro e u3 ⟨rfl, hx⟩
    have X3 := Lib.hid hx
    have M3 := Lib.hid (HM.out.ext hx)
    have k3 : u3.cell? ⟨b2, 0, none⟩ = some (.pointer (some ⟨g, 0, none⟩)) := (HC.out.1.keep hx id).cell 0
    clear hx HE k2 c0 c1 c2
    have c0 : u3.cell? ⟨g, 0, none⟩ = some (.slice vA m.vars.length vc) := M3.out.c0
    have c1 : u3.cell? ⟨g, 1, none⟩ = some (.slice rA m.rules.length rc) := M3.out.c1
    have c2 : u3.cell? ⟨g, 2, none⟩ = some (.slice pA m.phony.length pc) := M3.out.c2
    go_wp2_with fail
    go_loopw [40] (fun i wr => ∃ k : Nat, k ≤ m.rules.length ∧ i = .int .i64 k ∧ patF m l name (m.rules.drop k) = ruleF m l name ∧ Ext u3 wr) (fun i _ => m.rules.length - (intOf i).toNat)
    case atStart => exact ⟨0, Nat.zero_le _, rfl, HR0.out, Only.refl _ _⟩
    case round =>
      clear k3 c0 c1 c2 HR0
      obtain ⟨k, hk, rfl, hP, hxr⟩ := hrel
      have HP := Lib.hid hP
      have X4 := Lib.hid hxr
      clear hP hxr
      by_cases hlt : k < m.rules.length
      · obtain ⟨b, o, ⟨⟨tA, tc, nA, nc, cA, cc⟩, r⟩, rfl, hx, hbl, d0, d1, d2⟩ := rules_get M3.out.mr.fr hlt
        have e0 : wr.cell? ⟨b, o + k * 3, none⟩ = some (.slice tA r.targets.length tc) := d0 _ X4.out
        have e1 : wr.cell? ⟨b, o + k * 3 + 1, none⟩ = some (.slice nA r.needs.length nc) := d1 _ X4.out
        have e2 : wr.cell? ⟨b, o + k * 3 + 2, none⟩ = some (.slice cA r.cmds.length cc) := d2 _ X4.out
        have hmem := Lib.hid (List.mem_of_getElem? hx)
        have hr : Hid (m.rules[k]? = some r) := by rw [Hid, ← M3.out.mr.rm, List.getElem?_map, hx]; rfl
        clear hx hbl d0 d1 d2
        go_upto_region 7 with fail
        obtain ⟨w8, hw8⟩ : ∃ u, u = wr.alloc (.cells #[.slice tA r.targets.length tc, .slice nA r.needs.length nc, .slice cA r.cmds.length cc] ruleT) := ⟨_, rfl⟩
        obtain ⟨b8, hb8⟩ : ∃ b, b = wr.heap.size := ⟨_, rfl⟩
        rw [← hw8, ← hb8]
        have C8 : Hid (Cs w8 b8 ruleT #[.slice tA r.targets.length tc, .slice nA r.needs.length nc, .slice cA r.cmds.length cc]) := by rw [hw8, hb8]; exact Cs.new _ _ _
        have X8 : Hid (Ext u3 w8) := by rw [hw8]; exact X4.out.then_ext ((Only.refl No _).alloc _)
        clear hw8 hb8 e0 e1 e2
        have HRr := Lib.hid (M3.out.mr.rr _ hmem.out)
        have HBr := Lib.hid (HGB.out.t r (List.mem_of_getElem? hr.out))
        have hrt := HBr.out.1
        have hrl := HGB.out.r
        obtain ⟨bb, oo, t0, rfl, ht, ct⟩ := strs_get (show SlR strF w8 tA r.targets.length r.targets from SlR.ext HRr.out.1 X8.out) (k := 0) (by omega)
        have ht0 : r.targets.headD [] = t0 := by
          cases htt : r.targets with
          | nil => rw [htt] at ht; cases ht
          | cons y ys => rw [htt] at ht; exact Option.some.inj ht
        have htl : t0.length ≤ 100 := HBr.out.2.2.2.2.1 t0 (List.mem_of_getElem? ht)
        have ct' : w8.cell? ⟨bb, oo, none⟩ = some (S t0) := ct (X.here w8 No)
        have d0 : w8.cell? ⟨b8, 0, none⟩ = some (.slice (some ⟨bb, oo, none⟩) r.targets.length tc) := C8.out.cell 0
        have HSt := Lib.hid (Stem_c t0 name (by omega) (by omega) (HL.out.ext (X3.out.then_ext X8.out)))
        have hsl := stemL_le t0 name
        have HPk : Hid (ruleF m l name = if (stemL t0 name).2 = false then patF m l name (m.rules.drop (k + 1)) else if (groupF m r name (stemL t0 name).1).needs.all (hereB m l) = true then some (groupF m r name (stemL t0 name).1) else patF m l name (m.rules.drop (k + 1))) := by
          rw [Hid, ← HP.out, drop_get hr.out, patF, ht0]
        generalize stemL t0 name = q at HSt HPk hsl
        obtain ⟨st, is⟩ := q
        dsimp only at HSt HPk hsl
        have HH0 := Lib.hid ht0
        clear ht ct ht0
        go_wp2_with fail
        refine HSt.out.mono ?_
        rintro e wq ⟨rfl, hx⟩
        have XQ := Lib.hid (X8.out.then_ext hx)
        have CQ := Lib.hid (C8.out.keep hx id)
        clear hx HSt ct' d0 X8 C8
        cases is with
        | false =>
          go_wp2_with fail
          go_roundw
          case rel => exact ⟨k + 1, by omega, by go_num, HPk.out.symm, XQ.out⟩
          case measure => simp [intOf]; omega
        | true =>
          have HPj : Hid (ruleF m l name = if (groupF m r name st).needs.all (hereB m l) = true then some (groupF m r name st) else patF m l name (m.rules.drop (k + 1))) := HPk.out
          have MQ := Lib.hid (M3.out.ext XQ.out)
          have HOq := Lib.hid (fun u (hu : Ext wq u) => HOf.out u (X3.out.then_ext (XQ.out.then_ext hu)) _ hmem.out st (by omega))
          dsimp only at HOq
          have yb : ∀ ξ : X wq No, ξ.v.cell? ⟨b2, 0, none⟩ = some (.pointer (some ⟨g, 0, none⟩)) := (HC.out.1.keep (X3.out.then_ext XQ.out) id).x id 0
          have y0 : ∀ ξ : X wq No, ξ.v.cell? ⟨g, 0, none⟩ = some (.slice vA m.vars.length vc) := fun ξ => (MQ.out.ext ξ.h).c0
          have y1 : ∀ ξ : X wq No, ξ.v.cell? ⟨g, 1, none⟩ = some (.slice (some ⟨b, o, none⟩) m.rules.length rc) := fun ξ => (MQ.out.ext ξ.h).c1
          have y2 : ∀ ξ : X wq No, ξ.v.cell? ⟨g, 2, none⟩ = some (.slice pA m.phony.length pc) := fun ξ => (MQ.out.ext ξ.h).c2
          have e0 : ∀ ξ : X wq No, ξ.v.cell? ⟨b8, 0, none⟩ = some (.slice (some ⟨bb, oo, none⟩) r.targets.length tc) := CQ.out.x id 0
          have e1 : ∀ ξ : X wq No, ξ.v.cell? ⟨b8, 1, none⟩ = some (.slice nA r.needs.length nc) := CQ.out.x id 1
          have e2 : ∀ ξ : X wq No, ξ.v.cell? ⟨b8, 2, none⟩ = some (.slice cA r.cmds.length cc) := CQ.out.x id 2
          clear HPk
          go_upto_region 9 with fail
          go_cut [11] from 55 to 62 (fun p u => ∃ (b9 : Nat) (a : RulA) (G : Grp), p = rpt b9 ∧ G = groupF m r name st ∧ Cs u b9 grpT #[.slice a.tA G.targets.length a.tc, .slice a.nA G.needs.length a.nc, .slice a.cA G.cmds.length a.cc, .bool G.phony] ∧ Fresh strF 9 wq u a.tA a.tc G.targets ∧ Fresh strF 9 wq u a.nA a.nc G.needs ∧ Fresh strF 9 wq u a.cA a.cc G.cmds ∧ Ext wq u ∧ wq.heap.size ≤ b9)
          case first =>
            refine Mix.wp_tree 10 [7, 8, 9] (Cl wq No) rfl (by kernel_rfl) (by kernel_rfl) (Cl.drew_ (X.here wq No)) ?_
            obtain ⟨μ0, hμ0⟩ : ∃ u, u = wq.drew := ⟨_, rfl⟩
            have Y : Hid (Ext wq μ0) := by rw [hμ0]; exact (Only.refl No wq).drew
            rw [← hμ0]
            clear hμ0
            (refine Mix.tree_quiet (i := 0) (by kernel_rfl) rfl rfl rfl rfl ?_; intro K hK; go_big_quiet_op; go_big_quiet_on); (refine Mix.tree_quiet (i := 1) (by kernel_rfl) rfl rfl rfl rfl ?_; intro K hK; go_big_quiet_op; go_big_quiet_on); (refine Mix.tree_quiet (i := 2) (by kernel_rfl) rfl rfl rfl rfl ?_; intro K hK; go_big_quiet_op; go_big_quiet_on); (refine Mix.tree_quiet (i := 3) (by kernel_rfl) rfl rfl rfl rfl ?_; intro K hK; go_big_quiet_op; go_big_quiet_on); (refine Mix.tree_quiet (i := 4) (by kernel_rfl) rfl rfl rfl rfl ?_; intro K hK; go_big_quiet_op; go_big_quiet_on); (refine Mix.tree_quiet (i := 5) (by kernel_rfl) rfl rfl rfl rfl ?_; intro K hK; go_big_quiet_op; go_big_quiet_on); (refine Mix.tree_quiet (i := 6) (by kernel_rfl) rfl rfl rfl rfl ?_; intro K hK; go_big_quiet_op; go_big_quiet_on)
            refine Mix.tree_two (i := 7) (j := 8) (by kernel_rfl) (by kernel_rfl) rfl rfl rfl rfl rfl rfl ?_ ?_
            ·
              intro K hK
              go_simp
              refine (HOq.out _ Y.out).mono ?_
              rintro e u1 ⟨a, rfl, f1, f2, f3, hx5⟩
              have HFr := Lib.hid (And.intro f1 (And.intro f2 f3))
              obtain ⟨G, hG⟩ : ∃ G, G = groupF m r name st := ⟨_, rfl⟩
              rw [← hG] at HFr ⊢
              have HG := Lib.hid hG
              have xs1 : Hid (Ext wq μ0) := Y.out
              have Y := Lib.hid (Y.out.then_ext hx5)
              refine ⟨_, rfl, hK _ _ (Cl.of Y.out) ?_⟩
              clear hK K hx5 f1 f2 f3 hG
              simp only [Act.put, List.setIfInBounds_toArray, List.set_cons_succ, List.set_cons_zero]
              refine Mix.tree_one (i := 8) (by kernel_rfl) (by kernel_rfl) rfl rfl rfl ?_
              intro K hK
              go_simp
              obtain ⟨va, hva⟩ : ∃ u, u = (u1).alloc (.cells #[.slice none 0 0, .slice none 0 0, .slice none 0 0, .bool false] grpT) := ⟨_, rfl⟩
              obtain ⟨b9, hb9⟩ : ∃ g, g = (u1).heap.size := ⟨_, rfl⟩
              have C : Hid (Cs va b9 grpT #[.slice none 0 0, .slice none 0 0, .slice none 0 0, .bool false]) := by rw [hva, hb9]; exact Cs.new _ _ _
              have B3 : Hid (wq.heap.size ≤ b9) := by rw [Hid, hb9]; exact Y.out.size
              have yva : Ext u1 va := by rw [hva]; exact (Only.refl No _).alloc _
              have HFr := Lib.hid (And.intro (HFr.out.1.on yva) (And.intro (HFr.out.2.1.on yva) (HFr.out.2.2.on yva)))
              have Y := Lib.hid (Y.out.then_ext yva)
              rw [← hva, ← hb9]
              refine hK _ _ (Cl.of Y.out) ?_
              clear hK K hva hb9 yva
              simp only [Act.put, List.setIfInBounds_toArray, List.set_cons_succ, List.set_cons_zero]
              refine Mix.tree_one (i := 9) (by kernel_rfl) (by kernel_rfl) rfl rfl rfl ?_
              intro K hK
              have k0 := C.out.cell 0
              have k1 := C.out.cell 1
              have k2 := C.out.cell 2
              have k3 := C.out.cell 3
              simp only [List.getElem?_toArray, List.getElem?_cons_succ, List.getElem?_cons_zero] at k0 k1 k2 k3
              have z0 := C.out.frozen 0
              have z1 := C.out.frozen 1
              have z2 := C.out.frozen 2
              have z3 := C.out.frozen 3
              go_simp
              obtain ⟨v9, hv9⟩ : ∃ u, u = ((((va).setCell ⟨b9, 0, none⟩ (.slice a.tA G.targets.length a.tc)).setCell ⟨b9, 1, none⟩ (.slice a.nA G.needs.length a.nc)).setCell ⟨b9, 2, none⟩ (.slice a.cA G.cmds.length a.cc)).setCell ⟨b9, 3, none⟩ (.bool G.phony) := ⟨_, rfl⟩
              have O9 : Only (fun q => q = b9) (va) v9 := by rw [hv9]; exact ((((Only.refl _ _).at_ 0 _).at_ 1 _).at_ 2 _).at_ 3 _
              have C9 : Cs v9 b9 grpT #[.slice a.tA G.targets.length a.tc, .slice a.nA G.needs.length a.nc, .slice a.cA G.cmds.length a.cc, .bool G.phony] := by rw [hv9]; exact (((C.out.set_ 0 _).set_ 1 _).set_ 2 _).set_ 3 _
              have y9 : Ext wq v9 := Y.out.trans O9 fun q hq e => by have e : q = b9 := e; have := B3.out; omega
              have F1 : Fresh strF 9 wq v9 a.tA a.tc G.targets := (HFr.out.1.from xs1.out).keep O9 y9 (own_ne_cs HFr.out.1.own C.out (by decide))
              have F2 : Fresh strF 9 wq v9 a.nA a.nc G.needs := (HFr.out.2.1.from xs1.out).keep O9 y9 (own_ne_cs HFr.out.2.1.own C.out (by decide))
              have F3 : Fresh strF 9 wq v9 a.cA a.cc G.cmds := (HFr.out.2.2.from xs1.out).keep O9 y9 (own_ne_cs HFr.out.2.2.own C.out (by decide))
              rw [← hv9]
              refine hK _ _ (Cl.of y9) ?_
              have hb3 := B3.out
              clear hK K hv9 k0 k1 k2 k3 z0 z1 z2 z3
              simp only [Act.put, List.setIfInBounds_toArray, List.set_cons_succ, List.set_cons_zero]
              refine Mix.tree_nil ?_
              go_wp2_with fail
              go_meet
              exact ⟨b9, a, G, rfl, HG.out, C9, F1, F2, F3, y9, hb3⟩
            ·
              intro K hK
              go_simp
              obtain ⟨va, hva⟩ : ∃ u, u = (μ0).alloc (.cells #[.slice none 0 0, .slice none 0 0, .slice none 0 0, .bool false] grpT) := ⟨_, rfl⟩
              obtain ⟨b9, hb9⟩ : ∃ g, g = (μ0).heap.size := ⟨_, rfl⟩
              have C : Hid (Cs va b9 grpT #[.slice none 0 0, .slice none 0 0, .slice none 0 0, .bool false]) := by rw [hva, hb9]; exact Cs.new _ _ _
              have B3 : Hid (wq.heap.size ≤ b9) := by rw [Hid, hb9]; exact Y.out.size
              have yva : Ext μ0 va := by rw [hva]; exact (Only.refl No _).alloc _
              have Y := Lib.hid (Y.out.then_ext yva)
              rw [← hva, ← hb9]
              refine hK _ _ (Cl.of Y.out) ?_
              clear hK K hva hb9 yva
              simp only [Act.put, List.setIfInBounds_toArray, List.set_cons_succ, List.set_cons_zero]
              refine Mix.tree_one (i := 7) (by kernel_rfl) (by kernel_rfl) rfl rfl rfl ?_
              intro K hK
              go_simp
              refine (HOq.out _ Y.out).mono ?_
              rintro e u1 ⟨a, rfl, f1, f2, f3, hx5⟩
              have HFr := Lib.hid (And.intro f1 (And.intro f2 f3))
              have C := Lib.hid (C.out.keep hx5 id)
              obtain ⟨G, hG⟩ : ∃ G, G = groupF m r name st := ⟨_, rfl⟩
              rw [← hG] at HFr ⊢
              have HG := Lib.hid hG
              have xs1 : Hid (Ext wq va) := Y.out
              have Y := Lib.hid (Y.out.then_ext hx5)
              refine ⟨_, rfl, hK _ _ (Cl.of Y.out) ?_⟩
              clear hK K hx5 f1 f2 f3 hG
              simp only [Act.put, List.setIfInBounds_toArray, List.set_cons_succ, List.set_cons_zero]
              refine Mix.tree_one (i := 9) (by kernel_rfl) (by kernel_rfl) rfl rfl rfl ?_
              intro K hK
              have k0 := C.out.cell 0
              have k1 := C.out.cell 1
              have k2 := C.out.cell 2
              have k3 := C.out.cell 3
              simp only [List.getElem?_toArray, List.getElem?_cons_succ, List.getElem?_cons_zero] at k0 k1 k2 k3
              have z0 := C.out.frozen 0
              have z1 := C.out.frozen 1
              have z2 := C.out.frozen 2
              have z3 := C.out.frozen 3
              go_simp
              obtain ⟨v9, hv9⟩ : ∃ u, u = ((((u1).setCell ⟨b9, 0, none⟩ (.slice a.tA G.targets.length a.tc)).setCell ⟨b9, 1, none⟩ (.slice a.nA G.needs.length a.nc)).setCell ⟨b9, 2, none⟩ (.slice a.cA G.cmds.length a.cc)).setCell ⟨b9, 3, none⟩ (.bool G.phony) := ⟨_, rfl⟩
              have O9 : Only (fun q => q = b9) (u1) v9 := by rw [hv9]; exact ((((Only.refl _ _).at_ 0 _).at_ 1 _).at_ 2 _).at_ 3 _
              have C9 : Cs v9 b9 grpT #[.slice a.tA G.targets.length a.tc, .slice a.nA G.needs.length a.nc, .slice a.cA G.cmds.length a.cc, .bool G.phony] := by rw [hv9]; exact (((C.out.set_ 0 _).set_ 1 _).set_ 2 _).set_ 3 _
              have y9 : Ext wq v9 := Y.out.trans O9 fun q hq e => by have e : q = b9 := e; have := B3.out; omega
              have F1 : Fresh strF 9 wq v9 a.tA a.tc G.targets := (HFr.out.1.from xs1.out).keep O9 y9 (own_ne_cs HFr.out.1.own C.out (by decide))
              have F2 : Fresh strF 9 wq v9 a.nA a.nc G.needs := (HFr.out.2.1.from xs1.out).keep O9 y9 (own_ne_cs HFr.out.2.1.own C.out (by decide))
              have F3 : Fresh strF 9 wq v9 a.cA a.cc G.cmds := (HFr.out.2.2.from xs1.out).keep O9 y9 (own_ne_cs HFr.out.2.2.own C.out (by decide))
              rw [← hv9]
              refine hK _ _ (Cl.of y9) ?_
              have hb3 := B3.out
              clear hK K hv9 k0 k1 k2 k3 z0 z1 z2 z3
              simp only [Act.put, List.setIfInBounds_toArray, List.set_cons_succ, List.set_cons_zero]
              refine Mix.tree_nil ?_
              go_wp2_with fail
              go_meet
              exact ⟨b9, a, G, rfl, HG.out, C9, F1, F2, F3, y9, hb3⟩
          case rest =>
            obtain ⟨b9, a, G, rfl, hG, hC9, f1, f2, f3, hx9, hb9⟩ := hcut
            have hnn : G.needs.length ≤ 3 := by rw [hG]; show (ndsOf r st).length ≤ 3; unfold ndsOf; rw [List.length_map]; exact HBr.out.2.2.1
            obtain ⟨z, hz⟩ : ∃ z, G.needs.any (fun n => !hereB m l n) = z := ⟨_, rfl⟩
            have HZ : Hid (G.needs.all (hereB m l) = !z) := by rw [Hid, List.all_eq_not_any_not, hz]
            have HAn := Lib.hid (AnyT_c (c := a.nc) (f2.row (by decide)) (by omega) (fun n => !hereB m l n) #[.pointer (some ⟨b2, 0, none⟩)] fun x u hu => rul1_c ((MQ.out.ext hx9).ext hu) HGB.out ((HC.out.1.keep (X3.out.then_ext (XQ.out.then_ext (hx9.then_ext hu))) id).cell 0) x)
            rw [hz] at HAn
            have HFr := Lib.hid (And.intro f1 (And.intro f2 f3))
            have C9 := Lib.hid hC9
            have X9 := Lib.hid hx9
            have HPz : Hid (ruleF m l name = if z = false then some G else patF m l name (m.rules.drop (k + 1))) := by
              rw [Hid, HPj.out, ← hG, HZ.out]
              cases z <;> rfl
            have dk : wc.cell? ⟨b9, 1, none⟩ = some (.slice a.nA G.needs.length a.nc) := C9.out.cell 1
            have hmf : ∀ (fn : Fn) (first cap : Array Value) (w : World), (Instr.makeFunc fn first cap).run Tryz.prog w = .ok (.func fn first cap) w := fun _ _ _ _ => rfl
            clear hG hC9 f1 f2 f3 hx9 hz HZ HPj yb y0 y1 y2 e0 e1 e2 HOq
            go_wp2_with fail
            refine HAn.out.mono ?_
            rintro e u7 ⟨rfl, hx7⟩
            have X7 := Lib.hid (X9.out.then_ext hx7)
            have C7 := Lib.hid (C9.out.keep hx7 id)
            have HF7 := Lib.hid (And.intro (HFr.out.1.on hx7) (And.intro (HFr.out.2.1.on hx7) (HFr.out.2.2.on hx7)))
            clear hx7 HAn dk C9 HFr X9
            cases z with
            | true =>
              go_wp2_with fail
              go_roundw
              case rel => exact ⟨k + 1, by omega, by go_num, HPz.out.symm, XQ.out.then_ext X7.out⟩
              case measure => simp [intOf]; omega
            | false =>
              have D4 := Lib.hid (HC.out.2.keep (X3.out.then_ext (XQ.out.then_ext X7.out)) id)
              have k0 : u7.cell? ⟨b4, 0, none⟩ = some (.slice none 0 0) := D4.out.cell 0
              have k1 : u7.cell? ⟨b4, 1, none⟩ = some (.slice none 0 0) := D4.out.cell 1
              have k2 : u7.cell? ⟨b4, 2, none⟩ = some (.slice none 0 0) := D4.out.cell 2
              have k3 : u7.cell? ⟨b4, 3, none⟩ = some (.bool false) := D4.out.cell 3
              have q0 : u7.cell? ⟨b9, 0, none⟩ = some (.slice a.tA G.targets.length a.tc) := C7.out.cell 0
              have q1 : u7.cell? ⟨b9, 1, none⟩ = some (.slice a.nA G.needs.length a.nc) := C7.out.cell 1
              have q2 : u7.cell? ⟨b9, 2, none⟩ = some (.slice a.cA G.cmds.length a.cc) := C7.out.cell 2
              have q3 : u7.cell? ⟨b9, 3, none⟩ = some (.bool G.phony) := C7.out.cell 3
              have z0 := D4.out.frozen 0
              have z1 := D4.out.frozen 1
              have z2 := D4.out.frozen 2
              have z3 := D4.out.frozen 3
              have HO : Hid (∀ a b c d, Only (fun b => b = b4) u7 ((((u7.setCell ⟨b4, 0, none⟩ a).setCell ⟨b4, 1, none⟩ b).setCell ⟨b4, 2, none⟩ c).setCell ⟨b4, 3, none⟩ d)) := fun a b c d => ((((Only.refl _ _).at_ 0 a).at_ 1 b).at_ 2 c).at_ 3 d
              have HS : Hid (∀ a b c d, Cs ((((u7.setCell ⟨b4, 0, none⟩ a).setCell ⟨b4, 1, none⟩ b).setCell ⟨b4, 2, none⟩ c).setCell ⟨b4, 3, none⟩ d) b4 grpT #[a, b, c, d]) := fun a b c d => (((D4.out.set_ 0 a).set_ 1 b).set_ 2 c).set_ 3 d
              have HPg : Hid (ruleF m l name = some G) := HPz.out
              clear HPz
              go_wp2_with fail
              have hO := HO.out (.slice a.tA G.targets.length a.tc) (.slice a.nA G.needs.length a.nc) (.slice a.cA G.cmds.length a.cc) (.bool G.phony)
              have hl := load_grp (HS.out (.slice a.tA G.targets.length a.tc) (.slice a.nA G.needs.length a.nc) (.slice a.cA G.cmds.length a.cc) (.bool G.phony))
              have xw : Ext w wq := X2.out.then_ext (X3.out.then_ext XQ.out)
              have x6 := (xw.then_ext X7.out).trans hO fun q hq e => by have e : q = b4 := e; have := HB.out; omega
              refine bodyPost_cell (p := 4) (u := 5) (ty := grpT) (ad := ⟨b4, 0, none⟩) rfl rfl rfl hl ?_
              rw [HPg.out]
              obtain ⟨f1, f2, f3⟩ := HF7.out
              exact ⟨a, rfl, (f1.from xw).keep hO x6 (own_ne_cs f1.own D4.out (by decide)), (f2.from xw).keep hO x6 (own_ne_cs f2.own D4.out (by decide)), (f3.from xw).keep hO x6 (own_ne_cs f3.own D4.out (by decide)), x6⟩
      · obtain rfl : k = m.rules.length := by omega
        have HR : Hid (ruleF m l name = none) := by rw [Hid, ← HP.out, List.drop_of_length_le (Nat.le_refl _)]; rfl
        have D4 := Lib.hid (HC.out.2.keep (X3.out.then_ext X4.out) id)
        have k0 : wr.cell? ⟨b4, 0, none⟩ = some (.slice none 0 0) := D4.out.cell 0
        have k1 : wr.cell? ⟨b4, 1, none⟩ = some (.slice none 0 0) := D4.out.cell 1
        have k2 : wr.cell? ⟨b4, 2, none⟩ = some (.slice none 0 0) := D4.out.cell 2
        have k3 : wr.cell? ⟨b4, 3, none⟩ = some (.bool false) := D4.out.cell 3
        have z0 := D4.out.frozen 0
        have z1 := D4.out.frozen 1
        have z2 := D4.out.frozen 2
        have z3 := D4.out.frozen 3
        have HO : Hid (∀ a b c d, Only (fun b => b = b4) wr ((((wr.setCell ⟨b4, 0, none⟩ a).setCell ⟨b4, 1, none⟩ b).setCell ⟨b4, 2, none⟩ c).setCell ⟨b4, 3, none⟩ d)) := fun a b c d => ((((Only.refl _ _).at_ 0 a).at_ 1 b).at_ 2 c).at_ 3 d
        have HS : Hid (∀ a b c d, Cs ((((wr.setCell ⟨b4, 0, none⟩ a).setCell ⟨b4, 1, none⟩ b).setCell ⟨b4, 2, none⟩ c).setCell ⟨b4, 3, none⟩ d) b4 grpT #[a, b, c, d]) := fun a b c d => (((D4.out.set_ 0 a).set_ 1 b).set_ 2 c).set_ 3 d
        have hg0 : ∀ w : World, (Instr.build grpT #[]).run Tryz.prog w = .ok (.agg #[.slice none 0 0, .slice none 0 0, .slice none 0 0, .bool false]) w := fun w => run_build w grpT _ _ (by kernel_rfl)
        go_wp2_with fail
        refine bodyPost_cell (p := 4) (u := 5) (ty := grpT) (ad := ⟨b4, 0, none⟩) rfl rfl rfl (load_grp (HS.out _ _ _ _)) ?_
        rw [HR.out]
        exact ⟨rfl, (X2.out.then_ext (X3.out.then_ext X4.out)).trans (HO.out _ _ _ _) fun q hq e => by have e : q = b4 := e; have := HB.out; omega⟩
  · have hk : k < m.rules.length := (List.getElem?_eq_some_iff.1 hr).1
    obtain ⟨b, o, x, rfl, hx, hbl, d0, d1, d2⟩ := rules_get HM0.out.mr.fr hk
    have hxr : x.2 = r := by
      have h1 := hr
      rw [← HM0.out.mr.rm, List.getElem?_map, hx] at h1
      exact Option.some.inj h1
    have HR : Hid (ruleF m l name = some (groupF m x.2 name [])) := by rw [Hid, ruleF, hs, hxr]
    have HOx := Lib.hid (fun u hu => HOf.out u hu x (List.mem_of_getElem? hx) [] (Nat.zero_le _))
    rw [hi] at HE
    clear hi hr hs hx hxr
    go_wp2_with fail
    refine HE.out.mono ?_
    rintro e u3 ⟨rfl, hx⟩
    have X3 := Lib.hid hx
    clear hx HE
    obtain ⟨F, hF⟩ : ∃ F : Nat → Prop, F = fun q => q = b4 := ⟨_, rfl⟩
    have fb : ¬ F b := by rw [hF]; intro e; have e : b = b4 := e; have := HB.out; omega
    have fg : ¬ F g := by rw [hF]; intro e; have e : g = b4 := e; have := HB.out; omega
    have f2 : ¬ F b2 := by rw [hF]; exact HB.out.2.2.2
    have y0 : ∀ ξ : X u3 F, ξ.v.cell? ⟨g, 0, none⟩ = some (.slice vA m.vars.length vc) := fun ξ => by
      have M3 := HM.out.ext X3.out
      exact (ξ.h.cell (p := ⟨g, 0, none⟩) (World.block_lt_of_cell? _ _ M3.c0) fg).trans M3.c0
    have y1 : ∀ ξ : X u3 F, ξ.v.cell? ⟨g, 1, none⟩ = some (.slice (some ⟨b, o, none⟩) m.rules.length rc) := fun ξ => by
      have M3 := HM.out.ext X3.out
      exact (ξ.h.cell (p := ⟨g, 1, none⟩) (World.block_lt_of_cell? _ _ M3.c1) fg).trans M3.c1
    have y2 : ∀ ξ : X u3 F, ξ.v.cell? ⟨g, 2, none⟩ = some (.slice pA m.phony.length pc) := fun ξ => by
      have M3 := HM.out.ext X3.out
      exact (ξ.h.cell (p := ⟨g, 2, none⟩) (World.block_lt_of_cell? _ _ M3.c2) fg).trans M3.c2
    have yb : ∀ ξ : X u3 F, ξ.v.cell? ⟨b2, 0, none⟩ = some (.pointer (some ⟨g, 0, none⟩)) := (HC.out.1.keep X3.out id).x f2 0
    have e0 : ∀ ξ : X u3 F, ξ.v.cell? ⟨b, o + k * 3, none⟩ = some (.slice x.1.tA x.2.targets.length x.1.tc) := fun ξ => (ξ.h.cell (p := ⟨b, o + k * 3, none⟩) (Nat.lt_of_lt_of_le hbl (X2.out.then_ext X3.out).size) fb).trans (d0 _ (X2.out.then_ext X3.out))
    have e1 : ∀ ξ : X u3 F, ξ.v.cell? ⟨b, o + k * 3 + 1, none⟩ = some (.slice x.1.nA x.2.needs.length x.1.nc) := fun ξ => (ξ.h.cell (p := ⟨b, o + k * 3 + 1, none⟩) (Nat.lt_of_lt_of_le hbl (X2.out.then_ext X3.out).size) fb).trans (d1 _ (X2.out.then_ext X3.out))
    have e2 : ∀ ξ : X u3 F, ξ.v.cell? ⟨b, o + k * 3 + 2, none⟩ = some (.slice x.1.cA x.2.cmds.length x.1.cc) := fun ξ => (ξ.h.cell (p := ⟨b, o + k * 3 + 2, none⟩) (Nat.lt_of_lt_of_le hbl (X2.out.then_ext X3.out).size) fb).trans (d2 _ (X2.out.then_ext X3.out))
    have HF := Lib.hid hF
    clear d0 d1 d2 c0 c1 c2 k2 hF fb fg f2
    obtain ⟨μ, hμ⟩ : ∃ u, u = u3.drew := ⟨_, rfl⟩
    have xμ : Hid (Ext u3 μ) := by rw [hμ]; exact (Only.refl No _).drew
    go_upto_region 3 with fail
    refine Mix.wp_draw [13, 14] 100 (Cl u3 F) (by kernel_rfl) (by kernel_rfl) (Cl.of (Only.refl _ _).drew) ?_
    rw [← hμ]
    clear hμ
    (repeat' (refine Mix.lex_quiet0 rfl rfl rfl ?_; intro K hK; go_big_quiet_op; go_big_quiet_on))
    ((first | refine Mix.lex_goes0 rfl rfl ?_ | refine Mix.lex_goesG rfl rfl rfl (by with_reducible rfl) rfl ?_); intro K hK; go_simp)
    refine (HOx.out _ (X3.out.then_ext xμ.out)).mono ?_
    rintro e u5 ⟨a, rfl, f1, f2, f3, hx5⟩
    have X5 := Lib.hid (xμ.out.then_ext hx5)
    have HFr := Lib.hid (And.intro f1 (And.intro f2 f3))
    obtain ⟨G, hG⟩ : ∃ G, G = groupF m x.2 name [] := ⟨_, rfl⟩
    rw [← hG] at HR HFr ⊢
    have C5 := Lib.hid ((HC.out.2.keep X3.out id).keep X5.out id)
    refine ⟨_, rfl, hK _ _ (fun _ => Cl.of (X5.out.weak fun b _ e => e.elim)) ?_⟩
    clear hK K f1 f2 f3 hx5 hG
    simp only [Act.put, List.setIfInBounds_toArray, List.set_cons_succ, List.set_cons_zero]
    have k0 : u5.cell? ⟨b4, 0, none⟩ = some (.slice none 0 0) := C5.out.cell 0
    have k1 : u5.cell? ⟨b4, 1, none⟩ = some (.slice none 0 0) := C5.out.cell 1
    have k2 : u5.cell? ⟨b4, 2, none⟩ = some (.slice none 0 0) := C5.out.cell 2
    have k3 : u5.cell? ⟨b4, 3, none⟩ = some (.bool false) := C5.out.cell 3
    have z0 := C5.out.frozen 0
    have z1 := C5.out.frozen 1
    have z2 := C5.out.frozen 2
    have z3 := C5.out.frozen 3
    ((first | refine Mix.lex_goes0 rfl rfl ?_ | refine Mix.lex_goesG rfl rfl rfl (by with_reducible rfl) rfl ?_); intro K hK; go_simp)
    obtain ⟨v6, hv6⟩ : ∃ u, u = ((((u5).setCell ⟨b4, 0, none⟩ (.slice a.tA G.targets.length a.tc)).setCell ⟨b4, 1, none⟩ (.slice a.nA G.needs.length a.nc)).setCell ⟨b4, 2, none⟩ (.slice a.cA G.cmds.length a.cc)).setCell ⟨b4, 3, none⟩ (.bool G.phony) := ⟨_, rfl⟩
    have O6 : Only (fun q => q = b4) u5 v6 := by rw [hv6]; exact ((((Only.refl _ _).at_ 0 _).at_ 1 _).at_ 2 _).at_ 3 _
    have C6 : Cs v6 b4 grpT #[.slice a.tA G.targets.length a.tc, .slice a.nA G.needs.length a.nc, .slice a.cA G.cmds.length a.cc, .bool G.phony] := by rw [hv6]; exact (((C5.out.set_ 0 _).set_ 1 _).set_ 2 _).set_ 3 _
    have xw : Ext w u5 := X2.out.then_ext (X3.out.then_ext X5.out)
    have x6 : Ext w v6 := xw.trans O6 fun q hq e => by have e : q = b4 := e; have := HB.out; omega
    have E6 : Hid (RulRes w (some G) (.returned (.tuple #[grpW (a, G), .bool true])) v6) := by
      obtain ⟨f1, f2, f3⟩ := HFr.out
      have hxx : Ext w μ := X2.out.then_ext (X3.out.then_ext xμ.out)
      exact ⟨a, rfl, (f1.from hxx).keep O6 x6 (own_ne_cs f1.own C5.out (by decide)), (f2.from hxx).keep O6 x6 (own_ne_cs f2.own C5.out (by decide)), (f3.from hxx).keep O6 x6 (own_ne_cs f3.own C5.out (by decide)), x6⟩
    have Y6 : Hid (Only F u3 v6) := by
      rw [Hid, HF.out]
      exact (X5.out.weak fun b _ e => e.elim).trans O6 fun _ _ e => e
    rw [← hv6]
    refine hK _ _ (fun _ => Cl.of Y6.out) ?_
    have HC6 := Lib.hid C6
    clear hK K hv6 k0 k1 k2 k3 z0 z1 z2 z3 O6 C6 xw x6
    simp only [Act.put, List.setIfInBounds_toArray, List.set_cons_succ, List.set_cons_zero]
    (repeat' (refine Mix.lex_quiet0 rfl rfl rfl ?_; intro K hK; go_big_quiet_op; go_big_quiet_on))
    refine Mix.lex_nil ?_
    go_wp2_with fail
    refine bodyPost_cell (p := 4) (u := 5) (ty := grpT) (ad := ⟨b4, 0, none⟩) rfl rfl rfl (load_grp HC6.out) ?_
    rw [HR.out]
    exact E6.out
theorem needsF_all {P : Grp → Prop} {rec : List Grp → Str → List Grp × Int} (h : ∀ o n, (∀ g ∈ o, P g) → ∀ g ∈ (rec o n).1, P g) : ∀ (ns : List Str) (o : List Grp), (∀ g ∈ o, P g) → ∀ g ∈ (needsF rec o ns).1, P g
  | [], _, ho => ho
  | n :: ns, o, ho => by
    unfold needsF
    split
    · exact h o n ho
    · exact needsF_all h ns _ (h o n ho)
theorem visitF_all {m : Mk} {l : List File} {P : Grp → Prop} (hP : ∀ n g, ruleF m l n = some g → P g) : ∀ (f : Nat) (way : List Str) (out : List Grp) (n : Str), (∀ g ∈ out, P g) → ∀ g ∈ (visitF m l f way out n).1, P g
  | 0, _, _, _, ho => ho
  | f + 1, way, out, n, ho => by
    have := fun w => needsF_all (rec := visitF m l f w) fun o n h => visitF_all hP f w o n h
    unfold visitF
    split
    · exact ho
    · split
      · exact ho
      · split
        · split <;> exact ho
        · rename_i g hg
          split
          · exact this _ _ _ ho
          · split
            · exact this _ _ _ ho
            · intro x hx
              rcases List.mem_append.1 hx with hx | hx
              · exact this _ _ _ ho x hx
              · obtain rfl := List.mem_singleton.1 hx
                exact hP n x hg
def GB3 (g : Grp) : Prop := g.targets.length ≤ 2 ∧ g.needs.length ≤ 3 ∧ g.cmds.length ≤ 3
theorem ruleF_b3 {m : Mk} {l : List File} (hb : GBd m l) (n : Str) (G : Grp) (h : ruleF m l n = some G) : GB3 G := by
  obtain ⟨_, h2, h3⟩ := ruleF_b hb h
  refine ⟨h2, h3, ?_⟩
  rcases ruleF_some h with ⟨r, hr, rfl⟩ | ⟨_, r, hr, _, rfl, _⟩
  · show (r.cmds.map _).length ≤ 3
    rw [List.length_map]
    exact (hb.t r (explF_some hr).1).2.2.2.1
  · show (r.cmds.map _).length ≤ 3
    rw [List.length_map]
    exact (hb.t r hr).2.2.2.1
abbrev intT : TypeId := 3
abbrev uniT : TypeId := 54
def boF : Flat Bool := ⟨1, fun b => [.bool b], fun _ => rfl⟩
def inF : Flat Nat := ⟨1, fun i => [.int .i64 (i : Int)], fun _ => rfl⟩
def unF : Flat ((Option Addr × Nat) × List Nat) := ⟨1, fun x => [.slice x.1.1 x.2.length x.1.2], fun _ => rfl⟩
theorem bos_get {w : World} {A : Option Addr} {n : Nat} {xs : List Bool} (h : SlR boF w A n xs) {k : Nat} (hk : k < n) :
    ∃ b o s, A = some ⟨b, o, none⟩ ∧ xs[k]? = some s ∧ (∀ ξ : X w No, ξ.v.cell? ⟨b, o + k, none⟩ = some (.bool s)) := by
  obtain ⟨b, o, x, e, hb, hx, hc⟩ := h.get hk
  exact ⟨b, o, x, e, hx, fun ξ => (ξ.h.cell hb id).trans (by simpa [boF] using hc 0 _ rfl)⟩
theorem ins_get {w : World} {A : Option Addr} {n : Nat} {xs : List Nat} (h : SlR inF w A n xs) {k : Nat} (hk : k < n) :
    ∃ b o s, A = some ⟨b, o, none⟩ ∧ xs[k]? = some s ∧ (∀ ξ : X w No, ξ.v.cell? ⟨b, o + k, none⟩ = some (.int .i64 (s : Int))) := by
  obtain ⟨b, o, x, e, hb, hx, hc⟩ := h.get hk
  exact ⟨b, o, x, e, hx, fun ξ => (ξ.h.cell hb id).trans (by simpa [inF] using hc 0 _ rfl)⟩
theorem uns_get {w : World} {A : Option Addr} {n : Nat} {xs : List ((Option Addr × Nat) × List Nat)} (h : SlR unF w A n xs) {k : Nat} (hk : k < n) :
    ∃ b o x, A = some ⟨b, o, none⟩ ∧ xs[k]? = some x ∧ (∀ ξ : X w No, ξ.v.cell? ⟨b, o + k, none⟩ = some (.slice x.1.1 x.2.length x.1.2)) := by
  obtain ⟨b, o, x, e, hb, hx, hc⟩ := h.get hk
  exact ⟨b, o, x, e, hx, fun ξ => (ξ.h.cell hb id).trans (by simpa [unF] using hc 0 _ rfl)⟩
abbrev upV (up : List Nat) : Array Value := (up.map fun k : Nat => Value.int .i64 (k : Int)).toArray
theorem upV_get {up : List Nat} {i : Nat} (h : i < up.length) : (upV up)[i]? = some (.int .i64 (up.getD i 0 : Nat)) := by
  simp [upV, List.getD_eq_getElem?_getD, List.getElem?_eq_getElem h]
theorem upV_set (up : List Nat) (i k : Nat) : (upV up).setIfInBounds i (.int .i64 (k : Int)) = upV (up.set i k) := by
  simp [upV, List.map_set]
theorem Cs.ups {w : World} {g : Nat} {up : List Nat} (h : Cs w g intT (upV up)) (i k : Nat) : Cs (w.setCell ⟨g, i, none⟩ (.int .i64 (k : Int))) g intT (upV (up.set i k)) := by
  have := h.set_ i (.int .i64 (k : Int))
  rwa [upV_set] at this
theorem int_info : (Tryz.prog.info? intT).map (fun i => (i.zero, i.size, i.bytes)) = some (some (.int .i64 0), 1, 8) := by kernel_rfl
theorem int_ty : Ety Tryz.prog 54 intT 1 := Ety.mk' Tryz.underlying54 int_info rfl (by omega) (by omega)
theorem un_info : (Tryz.prog.info? uniT).map (fun i => (i.zero, i.size, i.bytes)) = some (some (.slice none 0 0), 1, 24) := by kernel_rfl
theorem un_ty : Ety Tryz.prog 52 uniT 1 := Ety.mk' Tryz.underlying52 un_info rfl (by omega) (by omega)
theorem make_ints (n : Nat) (hn : n ≤ 1000000) (w : World) : (Instr.makeSlice 54 (.int .i64 (n : Int)) (.int .i64 (n : Int))).run Tryz.prog w =
    .ok (.slice (some ⟨w.heap.size, 0, none⟩) n n) (w.alloc (.cells (upV (List.replicate n 0)) intT)) := by
  obtain ⟨i0, hi, hz, h1, h2⟩ := info_parts int_info
  have hb : (i0.bytes : Int) * (n : Int) ≤ 281474976710656 := by rw [h2]; omega
  have hr := run_make (P := Tryz.prog) w 54 intT i0 (.int .i64 0) Tryz.underlying54 hi hz .i64 .i64 n n (by omega) (by omega) hb (by omega)
  simp only [Int.toNat_natCast] at hr
  rw [hr, h1]
  have : madeCells (Value.int .i64 0).cells (n * 1) = upV (List.replicate n 0) := by
    apply Array.ext
    · simp [madeCells, upV]
    · intro i h1 h2
      simp [madeCells, Value.cells, Nat.mod_one, upV]
  rw [this]
theorem run_max_nat {P : Program} (x y : Nat) (ts : Array TypeId) (t : TypeId) (w : World) : (Builtin.max_ ts t #[.int .i64 (x : Int), .int .i64 (y : Int)]).run P w = .ok (.int .i64 ((max x y : Nat) : Int)) w := by
  by_cases h : (x : Int) < (y : Int)
  · have e : max x y = y := by omega
    (simp [Builtin.max_, Builtin.max2, asBool, h, e]) <;> (intros; omega)
  · have e : max x y = x := by omega
    (simp [Builtin.max_, Builtin.max2, asBool, h, e]) <;> (intros; omega)
theorem run_min_nat {P : Program} (x y : Nat) (ts : Array TypeId) (t : TypeId) (w : World) : (Builtin.min_ ts t #[.int .i64 (x : Int), .int .i64 (y : Int)]).run P w = .ok (.int .i64 ((min x y : Nat) : Int)) w := by
  by_cases h : (x : Int) < (y : Int)
  · have e : min x y = x := by omega
    (simp [Builtin.min_, Builtin.min2, asBool, h, e]) <;> (intros; omega)
  · have e : min x y = y := by omega
    (simp [Builtin.min_, Builtin.min2, asBool, h, e]) <;> (intros; omega)
set_option maxRecDepth 100000 in
theorem root_c {w : World} {g : Nat} {up : List Nat} {n : Nat} (hC : Cs w g intT (upV up)) (hl : up.length = n) (hn : n ≤ 1000) (hL : Low up) (j : Nat) (hj : j < n) (c : Nat) :
    Calls Tryz.prog 47 #[.slice (some ⟨g, 0, none⟩) n c, .int .i64 (j : Int)] w fun e w' => e = .returned (.int .i64 (rootA up j : Nat)) ∧ Ext w w' := by
  have HC := Lib.hid hC
  have HL := Lib.hid hL
  have Hl := Lib.hid hl
  clear hC hL hl
  go_enter Tryz.func47, Tryz.ntmps47
  go_wp2_with fail
  go_loopw [1] (fun i wr => ∃ k : Nat, k < n ∧ i = .int .i64 k ∧ rootA up k = rootA up j ∧ Ext w wr) (fun i _ => (intOf i).toNat)
  case atStart => exact ⟨j, hj, rfl, rfl, Only.refl _ _⟩
  case round =>
    obtain ⟨k, hk, rfl, hE, hx⟩ := hrel
    have HE := Lib.hid hE
    have XR := Lib.hid hx
    obtain ⟨y, hy⟩ : ∃ y, y = up.getD k 0 := ⟨_, rfl⟩
    have c0 : wr.cell? ⟨g, k, none⟩ = some (.int .i64 (y : Int)) := by rw [(HC.out.keep hx id).cell k, hy]; exact upV_get (by rw [Hl.out]; exact hk)
    have hyk : y ≤ k := by rw [hy]; exact HL.out k (by rw [Hl.out]; exact hk)
    have hs : Hid (rootA up k = if y = k then k else rootA up y) := by rw [Hid, hy]; exact rootA_step HL.out (by rw [Hl.out]; exact hk)
    clear hE hx hy
    by_cases he : y = k
    · subst he
      have hR : Hid (rootA up j = y) := by rw [Hid, ← HE.out, hs.out, if_pos rfl]
      clear hs HE
      go_wp2_with fail
      go_ret
      rw [hR.out]
      exact ⟨rfl, XR.out⟩
    · have t1 : decide ((y : Int) = (k : Int)) = false := by rw [decide_eq_false_iff_not]; omega
      have t2 : ((y : Int) == (k : Int)) = false := by rw [beq_eq_false_iff_ne]; omega
      have hR : Hid (rootA up y = rootA up j) := by rw [Hid, ← HE.out, hs.out, if_neg he]
      go_wp2_with fail
      go_roundw
      case rel => exact ⟨y, by omega, rfl, hR.out, XR.out⟩
      case measure => simp [intOf]; omega
end Go.Proofs.YtnhaekifcieeoaaGreatDoor
