/- Put together: Rfd, Rvf, Rst, Rg1, SameT, Rg2, Rg3, Rg4, Pl1, Pl2, Pl3. -/
import Derived.Test.YtnhaekifcieeoaaGreatDoorPk01
import Derived.Test.YtnhaekifcieeoaaGreatDoorPk02
import Derived.Lib.IndexLaws
import Derived.Lib.IndexMore
import Derived.Test.YtnhaekifcieeoaaGreatDoorPk05
import Derived.Test.YtnhaekifcieeoaaGreatDoorPk03
import Derived.Test.YtnhaekifcieeoaaGreatDoorPk11
import Derived.Test.YtnhaekifcieeoaaGreatDoorPk07
import Derived.Test.YtnhaekifcieeoaaGreatDoorPk12
import Derived.Test.YtnhaekifcieeoaaGreatDoorPk04
import Derived.Test.YtnhaekifcieeoaaGreatDoorPk13
import Derived.Test.YtnhaekifcieeoaaGreatDoorPk14
import Derived.Laws.MakeOwn
namespace Go.Proofs.YtnhaekifcieeoaaGreatDoor
open Go Go.RowKit
def GB3 (g : Grp) : Prop := g.targets.length ≤ 2 ∧ g.needs.length ≤ 3 ∧ g.cmds.length ≤ 3
theorem ruleF_b3 {m : Mk} {l : List File} (hb : GBd m l) (n : Str) (G : Grp) (h : ruleF m l n = some G) : GB3 G := by
  obtain ⟨_, h2, h3⟩ := ruleF_b hb h
  refine ⟨h2, h3, ?_⟩
  rcases ruleF_some h with ⟨r, hr, rfl⟩ | ⟨_, r, hr, _, rfl, _⟩
  · show (r.cmds.map _).length ≤ 3
    rw [List.length_map]
    exact (hb.t r (explF_some hr).1).2.2.2.1
  · show (r.cmds.map _).length ≤ 3
    rw [List.length_map]
    exact (hb.t r hr).2.2.2.1
abbrev intT : TypeId := 3
abbrev uniT : TypeId := 54
def boF : Flat Bool := ⟨1, fun b => [.bool b], fun _ => rfl⟩
def inF : Flat Nat := ⟨1, fun i => [.int .i64 (i : Int)], fun _ => rfl⟩
def unF : Flat ((Option Addr × Nat) × List Nat) := ⟨1, fun x => [.slice x.1.1 x.2.length x.1.2], fun _ => rfl⟩
theorem bos_get {w : World} {A : Option Addr} {n : Nat} {xs : List Bool} (h : SlR boF w A n xs) {k : Nat} (hk : k < n) :
    ∃ b o s, A = some ⟨b, o, none⟩ ∧ xs[k]? = some s ∧ (∀ ξ : X w No, ξ.v.cell? ⟨b, o + k, none⟩ = some (.bool s)) := by
  obtain ⟨b, o, x, e, hb, hx, hc⟩ := h.get hk
  exact ⟨b, o, x, e, hx, fun ξ => (ξ.h.cell hb id).trans (by simpa [boF] using hc 0 _ rfl)⟩
theorem ins_get {w : World} {A : Option Addr} {n : Nat} {xs : List Nat} (h : SlR inF w A n xs) {k : Nat} (hk : k < n) :
    ∃ b o s, A = some ⟨b, o, none⟩ ∧ xs[k]? = some s ∧ (∀ ξ : X w No, ξ.v.cell? ⟨b, o + k, none⟩ = some (.int .i64 (s : Int))) := by
  obtain ⟨b, o, x, e, hb, hx, hc⟩ := h.get hk
  exact ⟨b, o, x, e, hx, fun ξ => (ξ.h.cell hb id).trans (by simpa [inF] using hc 0 _ rfl)⟩
theorem uns_get {w : World} {A : Option Addr} {n : Nat} {xs : List ((Option Addr × Nat) × List Nat)} (h : SlR unF w A n xs) {k : Nat} (hk : k < n) :
    ∃ b o x, A = some ⟨b, o, none⟩ ∧ xs[k]? = some x ∧ (∀ ξ : X w No, ξ.v.cell? ⟨b, o + k, none⟩ = some (.slice x.1.1 x.2.length x.1.2)) := by
  obtain ⟨b, o, x, e, hb, hx, hc⟩ := h.get hk
  exact ⟨b, o, x, e, hx, fun ξ => (ξ.h.cell hb id).trans (by simpa [unF] using hc 0 _ rfl)⟩
abbrev upV (up : List Nat) : Array Value := (up.map fun k : Nat => Value.int .i64 (k : Int)).toArray
theorem upV_get {up : List Nat} {i : Nat} (h : i < up.length) : (upV up)[i]? = some (.int .i64 (up.getD i 0 : Nat)) := by
  simp [upV, List.getD_eq_getElem?_getD, List.getElem?_eq_getElem h]
theorem upV_set (up : List Nat) (i k : Nat) : (upV up).setIfInBounds i (.int .i64 (k : Int)) = upV (up.set i k) := by
  simp [upV, List.map_set]
theorem Cs.ups {w : World} {g : Nat} {up : List Nat} (h : Cs w g intT (upV up)) (i k : Nat) : Cs (w.setCell ⟨g, i, none⟩ (.int .i64 (k : Int))) g intT (upV (up.set i k)) := by
  have := h.set_ i (.int .i64 (k : Int))
  rwa [upV_set] at this
theorem int_info : (Tryz.prog.info? intT).map (fun i => (i.zero, i.size, i.bytes)) = some (some (.int .i64 0), 1, 8) := by kernel_rfl
theorem int_ty : Ety Tryz.prog 54 intT 1 := Ety.mk' Tryz.underlying54 int_info rfl (by omega) (by omega)
theorem un_info : (Tryz.prog.info? uniT).map (fun i => (i.zero, i.size, i.bytes)) = some (some (.slice none 0 0), 1, 24) := by kernel_rfl
theorem un_ty : Ety Tryz.prog 52 uniT 1 := Ety.mk' Tryz.underlying52 un_info rfl (by omega) (by omega)
theorem make_ints (n : Nat) (hn : n ≤ 1000000) (w : World) : (Instr.makeSlice 54 (.int .i64 (n : Int)) (.int .i64 (n : Int))).run Tryz.prog w =
    .ok (.slice (some ⟨w.heap.size, 0, none⟩) n n) (w.alloc (.cells (upV (List.replicate n 0)) intT)) := by
  obtain ⟨i0, hi, hz, h1, h2⟩ := info_parts int_info
  have hb : (i0.bytes : Int) * (n : Int) ≤ 281474976710656 := by rw [h2]; omega
  have hr := run_make (P := Tryz.prog) w 54 intT i0 (.int .i64 0) Tryz.underlying54 hi hz .i64 .i64 n n (by omega) (by omega) hb (by omega)
  simp only [Int.toNat_natCast] at hr
  rw [hr, h1]
  have : madeCells (Value.int .i64 0).cells (n * 1) = upV (List.replicate n 0) := by
    apply Array.ext
    · simp [madeCells, upV]
    · intro i h1 h2
      simp [madeCells, Value.cells, Nat.mod_one, upV]
  rw [this]
theorem run_max_nat {P : Program} (x y : Nat) (ts : Array TypeId) (t : TypeId) (w : World) : (Builtin.max_ ts t #[.int .i64 (x : Int), .int .i64 (y : Int)]).run P w = .ok (.int .i64 ((max x y : Nat) : Int)) w := by
  by_cases h : (x : Int) < (y : Int)
  · have e : max x y = y := by omega
    (simp [Builtin.max_, Builtin.max2, asBool, h, e]) <;> (intros; omega)
  · have e : max x y = x := by omega
    (simp [Builtin.max_, Builtin.max2, asBool, h, e]) <;> (intros; omega)
theorem run_min_nat {P : Program} (x y : Nat) (ts : Array TypeId) (t : TypeId) (w : World) : (Builtin.min_ ts t #[.int .i64 (x : Int), .int .i64 (y : Int)]).run P w = .ok (.int .i64 ((min x y : Nat) : Int)) w := by
  by_cases h : (x : Int) < (y : Int)
  · have e : min x y = x := by omega
    (simp [Builtin.min_, Builtin.min2, asBool, h, e]) <;> (intros; omega)
  · have e : min x y = y := by omega
    (simp [Builtin.min_, Builtin.min2, asBool, h, e]) <;> (intros; omega)
set_option maxRecDepth 100000 in
theorem root_c {w : World} {g : Nat} {up : List Nat} {n : Nat} (hC : Cs w g intT (upV up)) (hl : up.length = n) (hn : n ≤ 1000) (hL : Low up) (j : Nat) (hj : j < n) (c : Nat) :
    Calls Tryz.prog 47 #[.slice (some ⟨g, 0, none⟩) n c, .int .i64 (j : Int)] w fun e w' => e = .returned (.int .i64 (rootA up j : Nat)) ∧ Ext w w' := by
  have HC := Lib.hid hC
  have HL := Lib.hid hL
  have Hl := Lib.hid hl
  clear hC hL hl
  go_enter Tryz.func47, Tryz.ntmps47
  go_wp2_with fail
  go_loopw [1] (fun i wr => ∃ k : Nat, k < n ∧ i = .int .i64 k ∧ rootA up k = rootA up j ∧ Ext w wr) (fun i _ => (intOf i).toNat)
  case atStart => exact ⟨j, hj, rfl, rfl, Only.refl _ _⟩
  case round =>
    obtain ⟨k, hk, rfl, hE, hx⟩ := hrel
    have HE := Lib.hid hE
    have XR := Lib.hid hx
    obtain ⟨y, hy⟩ : ∃ y, y = up.getD k 0 := ⟨_, rfl⟩
    have c0 : wr.cell? ⟨g, k, none⟩ = some (.int .i64 (y : Int)) := by rw [(HC.out.keep hx id).cell k, hy]; exact upV_get (by rw [Hl.out]; exact hk)
    have hyk : y ≤ k := by rw [hy]; exact HL.out k (by rw [Hl.out]; exact hk)
    have hs : Hid (rootA up k = if y = k then k else rootA up y) := by rw [Hid, hy]; exact rootA_step HL.out (by rw [Hl.out]; exact hk)
    clear hE hx hy
    by_cases he : y = k
    · subst he
      have hR : Hid (rootA up j = y) := by rw [Hid, ← HE.out, hs.out, if_pos rfl]
      clear hs HE
      go_wp2_with fail
      go_ret
      rw [hR.out]
      exact ⟨rfl, XR.out⟩
    · have t1 : decide ((y : Int) = (k : Int)) = false := by rw [decide_eq_false_iff_not]; omega
      have t2 : ((y : Int) == (k : Int)) = false := by rw [beq_eq_false_iff_ne]; omega
      have hR : Hid (rootA up y = rootA up j) := by rw [Hid, ← HE.out, hs.out, if_neg he]
      go_wp2_with fail
      go_roundw
      case rel => exact ⟨y, by omega, rfl, hR.out, XR.out⟩
      case measure => simp [intOf]; omega
def UnsR (w : World) (A : Option Addr) (xs : List ((Option Addr × Nat) × List Nat)) (us : List (List Nat)) : Prop := SlR unF w A us.length xs ∧ (∀ x ∈ xs, SlR inF w x.1.1 x.2.length x.2) ∧ xs.map (·.2) = us
def UnsRes (w : World) (gs : List Grp) (st : List Bool) (e : Ending) (w' : World) : Prop :=
  ∃ (B : Option Addr) (d : Nat) (xs : List ((Option Addr × Nat) × List Nat)) (r : Nat → Nat), LstOk (edgesF gs st) gs.length r ∧ e = .returned (.slice B (unitsF gs st r).length d) ∧ UnsR w' B xs (unitsF gs st r) ∧ Ext w w'
def RbI (F : Nat → Prop) (u : World) (A : Option Addr) (xs : List Nat) : Prop := ∀ v, Only F u v → SlR inF v A xs.length xs
theorem RbI.step {F F' : Nat → Prop} {u u' : World} {A : Option Addr} {xs : List Nat} (h : RbI F u A xs) (hx : Only F u u') (hf : ∀ b, F' b → F b ∨ u.heap.size ≤ b) : RbI F' u' A xs := fun v hv => h v (hx.trans hv fun b hb e => by
  rcases hf b e with h1 | h1
  · exact h1
  · omega)
theorem RbI.fresh {F : Nat → Prop} {u u' : World} {A : Option Addr} {c : Nat} {xs : List Nat} (h : Fresh inF intT u u' A c xs) (hF : ∀ b, F b → b < u.heap.size) : RbI F u' A xs := fun v hv => SlR.of_own (T := inF) (by decide) (own_keep h.own hv fun g hg e => by
  have := h.new g hg
  have := hF g e
  omega)
theorem stB_at {st : List Bool} {i : Nat} {s : Bool} (h : st[i]? = some s) : stB st i = s := by
  simp [stB, List.getD_eq_getElem?_getD, h]
theorem edgeF_none {gs : List Grp} {st : List Bool} {i : Nat} {n : Str} (h : makerF (gs.take i) n = none) : edgeF gs st i n = none := by unfold edgeF; rw [h]
theorem edgeF_some {gs : List Grp} {st : List Bool} {i k : Nat} {n : Str} (h : makerF (gs.take i) n = some k) : edgeF gs st i n = if (stB st i && stB st k) = true then some (i, k) else none := by unfold edgeF; rw [h]
theorem edgeF_off {gs : List Grp} {st : List Bool} {i : Nat} {n : Str} (h : stB st i = false) : edgeF gs st i n = none := by
  unfold edgeF
  split
  · rw [h]; rfl
  · rfl
theorem take_fm {gs : List Grp} {st : List Bool} {i k : Nat} {ns : List Str} {t : Str} (ht : ns[k]? = some t) : (ns.take (k + 1)).filterMap (edgeF gs st i) = (ns.take k).filterMap (edgeF gs st i) ++ (edgeF gs st i t).toList := by
  rw [List.take_add_one, ht, List.filterMap_append]
  congr 1
theorem filt_succ (p : Nat → Bool) (k : Nat) : (List.range (k + 1)).filter p = (List.range k).filter p ++ if p k = true then [k] else [] := by
  rw [List.range_succ, List.filter_append]
  cases h : p k <;> simp [h]
theorem realB_app {gs : List Grp} {ks : List Nat} {k : Nat} : realB gs (ks ++ [k]) = (realB gs ks || nphB gs k) := by simp [realB]
theorem nphB_at {gs : List Grp} {k : Nat} {G : Grp} (h : gs[k]? = some G) : nphB gs k = !G.phony := by unfold nphB; rw [h]
set_option maxRecDepth 100000 in
set_option maxHeartbeats 8000000 in
theorem Units_c {w : World} {A : Option Addr} {c : Nat} {os : List (RulA × Grp)} {gs : List Grp} (hG : GrpsR w A os gs) (hgs : gs.length ≤ 10) (hcap : gs.length ≤ c) (hb : ∀ g ∈ gs, GB3 g) {sA : Option Addr} {sc : Nat} {st : List Bool} (hS : SlR boF w sA gs.length st) :
    Calls Tryz.prog 21 #[.slice A gs.length c, .slice sA gs.length sc] w (UnsRes w gs st) := by
  have hsl : st.length = gs.length := hS.1
  have HG := Lib.hid hG
  have HS := Lib.hid hS
  have HB := Lib.hid hb
  have Hsl := Lib.hid hsl
  have hmk := make_ints gs.length (by omega)
  obtain ⟨w1, hw1⟩ : ∃ u, u = w.alloc (.cells (upV (List.replicate gs.length 0)) intT) := ⟨_, rfl⟩
  obtain ⟨g5, hg5⟩ : ∃ g, g = w.heap.size := ⟨_, rfl⟩
  have X1 : Hid (Ext w w1) := by rw [hw1]; exact (Only.refl No w).alloc _
  have C1 : Hid (Cs w1 g5 intT (upV (List.replicate gs.length 0))) := by rw [hw1, hg5]; exact Cs.new _ _ _
  have HG5 : Hid (w.heap.size ≤ g5) := Nat.le_of_eq hg5.symm
  clear hG hb hS hsl
  go_enter Tryz.func21, Tryz.ntmps21
  go_upto_region 2 with fail
  rw [← hw1, ← hg5]
  clear hw1 hg5 hmk
  go_wp2_with fail
  go_loopw [23] (fun i wr => ∃ k : Nat, k ≤ gs.length ∧ i = .int .i64 k ∧ ∃ up : List Nat, Cs wr g5 intT (upV up) ∧ UpI gs.length k (edgesTo gs st k) up ∧ Ext w wr) (fun i _ => gs.length - (intOf i).toNat)
  case atStart => exact ⟨0, Nat.zero_le _, rfl, _, C1.out, UpI.start _, X1.out⟩
  case round =>
    clear C1 X1
    obtain ⟨i, hi, rfl, up, hC, hU, hx⟩ := hrel
    have C0 := Lib.hid hC
    have U0 := Lib.hid hU
    have XR := Lib.hid hx
    clear hC hU hx
    by_cases hlt : i < gs.length
    · obtain ⟨bg, o, ⟨⟨tA, tc, nA, nc, cA, cc⟩, G⟩, rfl, hox, c0, c1, c2, c3⟩ := grps_get HG.out.row hlt
      obtain ⟨bs, so, s, rfl, hss, cs⟩ := bos_get HS.out hlt
      have hgi : gs[i]? = some G := by rw [← HG.out.om, List.getElem?_map, hox]; rfl
      have hnn : G.needs.length ≤ 3 := (HB.out G (List.mem_of_getElem? hgi)).2.1
      have HN : Hid (SlR strF w nA G.needs.length G.needs) := (HG.out.rr _ (List.mem_of_getElem? hox)).2.1
      have Hsi := Lib.hid (stB_at hss)
      have HEd : Hid (edgesTo gs st (i + 1) = edgesTo gs st i ++ G.needs.filterMap (edgeF gs st i)) := by
        rw [Hid, edgesTo_succ, edgesAt, ndsAt, hgi]
      have CS : Hid (∀ u, Ext w u → u.cell? ⟨bs, so + i, none⟩ = some (.bool s)) := fun u hu => cs ⟨u, hu⟩
      have HMk : Hid (∀ u, Ext w u → ∀ t, Calls Tryz.prog 15 #[.slice (some ⟨bg, o, none⟩) i c, S t] u fun e w' => e = .returned (.int .i64 (idxI (makerF (gs.take i) t))) ∧ Ext u w') := fun u hu t => by
        have hl : (gs.take i).length = i := by rw [List.length_take]; omega
        have h1 : GrpsR u (some ⟨bg, o, none⟩) (os.take i) (gs.take i) := by
          refine ⟨?_, fun x hx => (HG.out.ext hu).rr x (List.mem_of_mem_take hx), ?_⟩
          · rw [hl]; exact (HG.out.row.ext hu).take (Nat.le_of_lt hlt)
          · rw [List.map_take, HG.out.om]
        have h2 := Maker_c (c := c) h1 (by omega) (fun g hg => by have := (HB.out g (List.mem_of_mem_take hg)).1; omega) t
        rw [hl] at h2
        exact h2
      have q0 : wr.cell? ⟨bg, o + i * 4, none⟩ = some (.slice tA G.targets.length tc) := c0 ⟨wr, XR.out⟩
      have q1 : wr.cell? ⟨bg, o + i * 4 + 1, none⟩ = some (.slice nA G.needs.length nc) := c1 ⟨wr, XR.out⟩
      have q2 : wr.cell? ⟨bg, o + i * 4 + 2, none⟩ = some (.slice cA G.cmds.length cc) := c2 ⟨wr, XR.out⟩
      have q3 : wr.cell? ⟨bg, o + i * 4 + 3, none⟩ = some (.bool G.phony) := c3 ⟨wr, XR.out⟩
      clear c0 c1 c2 c3 cs hox hss hgi
      go_upto_region 5 with fail
      obtain ⟨w2, hw2⟩ : ∃ u, u = wr.alloc (.cells #[.slice tA G.targets.length tc, .slice nA G.needs.length nc, .slice cA G.cmds.length cc, .bool G.phony] grpT) := ⟨_, rfl⟩
      obtain ⟨b7, hb7⟩ : ∃ g, g = wr.heap.size := ⟨_, rfl⟩
      rw [← hw2, ← hb7]
      have x2 : Ext wr w2 := by rw [hw2]; exact (Only.refl No _).alloc _
      have B7 : Hid (Cs w2 b7 grpT #[.slice tA G.targets.length tc, .slice nA G.needs.length nc, .slice cA G.cmds.length cc, .bool G.phony]) := by rw [hw2, hb7]; exact Cs.new _ _ _
      have C2 := Lib.hid (C0.out.keep x2 id)
      have X2 := Lib.hid (XR.out.then_ext x2)
      have hul := U0.out.len
      have y0 : w2.cell? ⟨g5, i, none⟩ = some (.int .i64 (up.getD i 0 : Nat)) := by rw [C2.out.cell i]; exact upV_get (by omega)
      have z0 := C2.out.frozen i
      clear hw2 hb7 x2 q0 q1 q2 q3 C0
      go_upto_region 6 with fail
      obtain ⟨w3, hw3⟩ : ∃ u, u = w2.setCell ⟨g5, i, none⟩ (.int .i64 (i : Int)) := ⟨_, rfl⟩
      rw [← hw3]
      have C3 : Hid (Cs w3 g5 intT (upV (up.set i i))) := by rw [hw3]; exact C2.out.ups i i
      have O3 : Only (fun q => q = g5) w2 w3 := by rw [hw3]; exact (Only.refl _ _).at_ i _
      have X3 : Hid (Ext w w3) := X2.out.trans O3 fun q hq e => by have e : q = g5 := e; have := HG5.out; omega
      have B3 := Lib.hid (B7.out.keep O3 (fun e => Cs.ne_ B7.out C2.out (by decide) e))
      have U3 := Lib.hid (U0.out.new hlt)
      have k1 : w3.cell? ⟨b7, 1, none⟩ = some (.slice nA G.needs.length nc) := B3.out.cell 1
      clear hw3 O3 y0 z0 C2 X2 B7 hul U0
      go_wp2_with fail
      go_loopw [35] (fun j wr => ∃ k : Nat, k ≤ G.needs.length ∧ j = .int .i64 k ∧ ∃ up : List Nat, Cs wr g5 intT (upV up) ∧ UpI gs.length (i + 1) (edgesTo gs st i ++ (G.needs.take k).filterMap (edgeF gs st i)) up ∧ Ext w wr) (fun j _ => G.needs.length - (intOf j).toNat)
      case atStart => exact ⟨0, Nat.zero_le _, rfl, _, C3.out, by simpa using U3.out, X3.out⟩
      case round =>
        clear C3 U3 X3 B3 k1 XR
        obtain ⟨k, hk, rfl, up, hC, hU, hx⟩ := hrel
        have C4 := Lib.hid hC
        have U4 := Lib.hid hU
        have XR := Lib.hid hx
        clear hC hU hx
        by_cases hlk : k < G.needs.length
        · obtain ⟨bn, on, t, rfl, ht, ct⟩ := strs_get HN.out hlk
          have e1 : wr.cell? ⟨bn, on + k, none⟩ = some (S t) := ct ⟨wr, XR.out⟩
          have HTk := Lib.hid (take_fm (gs := gs) (st := st) (i := i) ht)
          have HM2 := Lib.hid (HMk.out wr XR.out t)
          clear ht ct
          go_wp2_with fail
          refine HM2.out.mono ?_
          rintro e u5 ⟨rfl, hx⟩
          have X5 := Lib.hid (XR.out.then_ext hx)
          have C5 := Lib.hid (C4.out.keep hx id)
          have e2 := CS.out u5 X5.out
          clear hx HM2 e1 C4 XR
          cases hmf : makerF (gs.take i) t with
          | none =>
            rw [show idxI none = (-1 : Int) from rfl]
            have HE0 := Lib.hid (edgeF_none (st := st) hmf)
            clear hmf
            cases s with
            | false =>
              go_wp2_with fail
              go_roundw
              case rel => exact ⟨k + 1, by omega, by go_num, up, C5.out, by rw [HTk.out, HE0.out]; simpa using U4.out, X5.out⟩
              case measure => simp [intOf]; omega
            | true =>
              go_wp2_with fail
              go_roundw
              case rel => exact ⟨k + 1, by omega, by go_num, up, C5.out, by rw [HTk.out, HE0.out]; simpa using U4.out, X5.out⟩
              case measure => simp [intOf]; omega
          | some q =>
            have hq : q < i := by have := makerF_lt hmf; rw [List.length_take] at this; omega
            have HEs := Lib.hid (edgeF_some (st := st) hmf)
            rw [show idxI (some q) = (q : Int) from rfl]
            have t1 : decide ((0 : Int) ≤ (q : Int)) = true := by rw [decide_eq_true_iff]; omega
            clear hmf
            cases s with
            | false =>
              have HE0 : Hid (edgeF gs st i t = none) := edgeF_off Hsi.out
              go_wp2_with fail
              go_roundw
              case rel => exact ⟨k + 1, by omega, by go_num, up, C5.out, by rw [HTk.out, HE0.out]; simpa using U4.out, X5.out⟩
              case measure => simp [intOf]; omega
            | true =>
              obtain ⟨b', o', s2, e, hs2, cq⟩ := bos_get HS.out (show q < gs.length by omega)
              obtain ⟨rfl, rfl⟩ : bs = b' ∧ so = o' := by
                injection e with e
                injection e with e1 e2
                exact ⟨e1, e2⟩
              have Hsq := Lib.hid (stB_at hs2)
              have e3 : u5.cell? ⟨bs, so + q, none⟩ = some (.bool s2) := cq ⟨u5, X5.out⟩
              clear e hs2 cq
              cases s2 with
              | false =>
                have HE0 : Hid (edgeF gs st i t = none) := by rw [Hid, HEs.out, Hsi.out, Hsq.out]; rfl
                go_wp2_with fail
                go_roundw
                case rel => exact ⟨k + 1, by omega, by go_num, up, C5.out, by rw [HTk.out, HE0.out]; simpa using U4.out, X5.out⟩
                case measure => simp [intOf]; omega
              | true =>
                have HE0 : Hid (edgeF gs st i t = some (i, q)) := by rw [Hid, HEs.out, Hsi.out, Hsq.out]; rfl
                have hul := Lib.hid U4.out.len
                have HR1 := Lib.hid (root_c C5.out hul.out (by omega) U4.out.low i hlt gs.length)
                go_wp2_with fail
                refine HR1.out.mono ?_
                rintro e u6 ⟨rfl, hx⟩
                have X6 := Lib.hid (X5.out.then_ext hx)
                have C6 := Lib.hid (C5.out.keep hx id)
                have HR2 := Lib.hid (root_c C6.out hul.out (by omega) U4.out.low q (by omega) gs.length)
                clear hx HR1 X5 C5
                go_wp2_with fail
                refine HR2.out.mono ?_
                rintro e u7 ⟨rfl, hx⟩
                have X7 := Lib.hid (X6.out.then_ext hx)
                have C7 := Lib.hid (C6.out.keep hx id)
                have U7 := Lib.hid (U4.out.uni (e := (i, q)) (Nat.lt_succ_self i) (Nat.lt_succ_of_lt hq))
                have la := rootA_le U4.out.low (show i < up.length by rw [hul.out]; exact hlt)
                have lb := rootA_le U4.out.low (show q < up.length by rw [hul.out]; omega)
                have hun : Hid (uniF up (i, q) = up.set (max (rootA up i) (rootA up q)) (min (rootA up i) (rootA up q))) := rfl
                generalize rootA up i = ra at la hun ⊢
                generalize rootA up q = rb at lb hun ⊢
                clear hx HR2 X6 C6
                have hmx := run_max_nat (P := Tryz.prog) ra rb
                have hmn := run_min_nat (P := Tryz.prog) ra rb
                have hmxl : max ra rb < gs.length := by omega
                generalize max ra rb = mx at hun hmx hmxl
                generalize min ra rb = mn at hun hmn
                have y0 : u7.cell? ⟨g5, mx, none⟩ = some (.int .i64 (up.getD mx 0 : Nat)) := by rw [C7.out.cell mx]; exact upV_get (by rw [hul.out]; exact hmxl)
                have z0 := C7.out.frozen mx
                go_upto_region 13 with fail
                obtain ⟨w8, hw8⟩ : ∃ u, u = u7.setCell ⟨g5, mx, none⟩ (.int .i64 (mn : Int)) := ⟨_, rfl⟩
                rw [← hw8]
                have C8 : Hid (Cs w8 g5 intT (upV (uniF up (i, q)))) := by rw [hw8, hun.out]; exact C7.out.ups mx mn
                have X8 : Hid (Ext w w8) := X7.out.trans (show Only (fun b => b = g5) u7 w8 by rw [hw8]; exact (Only.refl _ _).at_ mx _) fun b hb e => by have e : b = g5 := e; have := HG5.out; omega
                clear hw8 y0 z0 hmx hmn
                go_wp2_with fail
                go_roundw
                case rel => exact ⟨k + 1, by omega, by go_num, _, C8.out, by rw [HTk.out, HE0.out, Option.toList_some, ← List.append_assoc]; exact U7.out, X8.out⟩
                case measure => simp [intOf]; omega
        · obtain rfl : k = G.needs.length := by omega
          have U5 : Hid (UpI gs.length (i + 1) (edgesTo gs st (i + 1)) up) := by
            have := U4.out
            rw [List.take_of_length_le (Nat.le_refl _), ← HEd.out] at this
            exact this
          go_wp2_with fail
          go_roundw
          case rel => exact ⟨i + 1, by omega, by go_num, up, C4.out, U5.out, XR.out⟩
          case measure => simp [intOf]; omega
    · obtain rfl : i = gs.length := by omega
      have HOk := Lib.hid U0.out.fin
      have hul := Lib.hid U0.out.len
      have HLs := Lib.hid (LstOk.of_up HOk.out hul.out)
      have HLow := Lib.hid HOk.out.low
      rename World => wb
      have HRt : Hid (∀ u, Ext wb u → ∀ j, j < gs.length → Calls Tryz.prog 47 #[.slice (some ⟨g5, 0, none⟩) gs.length gs.length, .int .i64 (j : Int)] u fun e w' => e = .returned (.int .i64 (rootA up j : Nat)) ∧ Ext u w') := fun u hu j hj => root_c (C0.out.keep hu id) hul.out (by omega) HLow.out j hj gs.length
      clear C0 U0 HOk hul hlt hi
      obtain ⟨r, hr⟩ : ∃ r, r = rootA up := ⟨_, rfl⟩
      rw [← hr] at HRt HLs
      clear hr HLow
      go_wp2_with fail
      go_loopw [13, 76] (fun ov i wr => ∃ k : Nat, k ≤ gs.length ∧ i = .int .i64 k ∧ ∃ (B : Option Addr) (d : Nat) (xs : List ((Option Addr × Nat) × List Nat)), ov = .slice B xs.length d ∧ Fresh unF uniT wb wr B d xs ∧ xs.map (·.2) = unitsTo gs st r k ∧ (∀ x ∈ xs, RbI (fun q => (Value.slice B xs.length d).ownBlock = some q) wr x.1.1 x.2)) (fun _ i _ => gs.length - (intOf i).toNat)
      case atStart => exact ⟨0, Nat.zero_le _, rfl, none, 0, [], rfl, Fresh.nil _ _ _ _ (Only.refl _ _), rfl, fun x hx => by cases hx⟩
      case round =>
        obtain ⟨i, hi, rfl, B, d, xs, rfl, hF, hM, hR⟩ := hrel
        have F0 := Lib.hid hF
        have HM := Lib.hid hM
        have HR := Lib.hid hR
        have XB := Lib.hid hF.ext
        have hxl : xs.length ≤ 10 := by
          have h1 := congrArg List.length hM
          rw [List.length_map, unitsTo] at h1
          have h2 := List.length_filterMap_le (unit1 gs st r) (List.range i)
          rw [List.length_range] at h2
          omega
        clear hF hM hR
        by_cases hlt : i < gs.length
        · obtain ⟨bs, so, s, rfl, hss, cs⟩ := bos_get HS.out hlt
          have Hsi := Lib.hid (stB_at hss)
          have e1 : wr.cell? ⟨bs, so + i, none⟩ = some (.bool s) := cs ⟨wr, XR.out.then_ext XB.out⟩
          have e1x : ∀ ξ : X wr No, ξ.v.cell? ⟨bs, so + i, none⟩ = some (.bool s) := fun ξ => cs ⟨ξ.v, (XR.out.then_ext XB.out).then_ext ξ.h⟩
          have HU := Lib.hid (unitsTo_succ gs st r i)
          clear hss cs
          cases s with
          | false =>
            have HU2 : Hid (unitsTo gs st r (i + 1) = unitsTo gs st r i) := by rw [Hid, HU.out, unit1_skip HLs.out (.inl Hsi.out)]; simp
            go_wp2_with fail
            go_roundw
            case rel => exact ⟨i + 1, by omega, by go_num, B, d, xs, rfl, F0.out, by rw [HU2.out]; exact HM.out, HR.out⟩
            case measure => simp [intOf]; omega
          | true =>
            have HR1 := Lib.hid (HRt.out wr XB.out i hlt)
            have HSk := Lib.hid (fun h => unit1_skip HLs.out (i := i) (.inr h))
            have hri : Hid (r i = r i) := rfl
            generalize r i = ri at HR1 HSk
            go_upto_region 19 with fail
            refine Mix.wp_plain [8] (Cl wr No) (Cl.of (Only.refl _ _)) ?_
            (repeat' (first | (refine Mix.lex_quiet0 rfl rfl rfl ?_; intro K hK; go_big_quiet_op; go_big_quiet_on) | (refine Mix.lex_quietG rfl rfl rfl (by with_reducible rfl) rfl rfl ?_; intro K hK; go_big_quiet_op; go_big_quiet_on) | ((first | refine Mix.lex_skipT rfl rfl rfl (by with_reducible rfl) ?_ | refine Mix.lex_skipF rfl rfl rfl (by with_reducible rfl) ?_ | refine Mix.lex_skipU rfl rfl rfl (by with_reducible rfl) ?_); simp only [Act.put, List.setIfInBounds_toArray, List.set_cons_succ, List.set_cons_zero]) | (refine Mix.lex_part rfl rfl rfl rfl (fun hq => ?_) (fun hq => ?_) <;> (fail_if_success (guard_hyp hq :ₛ true = true)) <;> (fail_if_success (guard_hyp hq :ₛ false = false)) <;> first | (exfalso; cases hq; done) | (exfalso; simp only [decide_eq_true_eq, decide_eq_false_iff_not, beq_iff_eq, beq_eq_false_iff_ne, ne_eq, Int.not_lt, Int.not_le] at hq; omega) | simp only [Act.put, List.setIfInBounds_toArray, List.set_cons_succ, List.set_cons_zero])))
            ((first | refine Mix.lex_goes0 rfl rfl ?_ | refine Mix.lex_goesG rfl rfl rfl (by with_reducible rfl) rfl ?_); intro K hK; go_simp)
            refine HR1.out.mono ?_
            rintro e u5 ⟨rfl, hx⟩
            have X5 := Lib.hid hx
            refine ⟨_, rfl, hK _ _ (fun _ => Cl.of X5.out) ?_⟩
            clear hK K hx HR1 e1 e1x
            simp only [Act.put, List.setIfInBounds_toArray, List.set_cons_succ, List.set_cons_zero]
            by_cases he : ri = i
            · subst he
              (repeat' (first | (refine Mix.lex_quiet0 rfl rfl rfl ?_; intro K hK; go_big_quiet_op; go_big_quiet_on) | (refine Mix.lex_quietG rfl rfl rfl (by with_reducible rfl) rfl rfl ?_; intro K hK; go_big_quiet_op; go_big_quiet_on) | ((first | refine Mix.lex_skipT rfl rfl rfl (by with_reducible rfl) ?_ | refine Mix.lex_skipF rfl rfl rfl (by with_reducible rfl) ?_ | refine Mix.lex_skipU rfl rfl rfl (by with_reducible rfl) ?_); simp only [Act.put, List.setIfInBounds_toArray, List.set_cons_succ, List.set_cons_zero]) | (refine Mix.lex_part rfl rfl rfl rfl (fun hq => ?_) (fun hq => ?_) <;> (fail_if_success (guard_hyp hq :ₛ true = true)) <;> (fail_if_success (guard_hyp hq :ₛ false = false)) <;> first | (exfalso; cases hq; done) | (exfalso; simp only [decide_eq_true_eq, decide_eq_false_iff_not, beq_iff_eq, beq_eq_false_iff_ne, ne_eq, Int.not_lt, Int.not_le] at hq; omega) | simp only [Act.put, List.setIfInBounds_toArray, List.set_cons_succ, List.set_cons_zero])))
              refine Mix.lex_nil ?_
              have F5 := Lib.hid (F0.out.on X5.out)
              have HR5 : Hid (∀ x ∈ xs, RbI (fun q => (Value.slice B xs.length d).ownBlock = some q) u5 x.1.1 x.2) := fun x hx => (HR.out x hx).step (Only.any X5.out) fun _ e => .inl e
              have XB5 := Lib.hid (XB.out.then_ext X5.out)
              have XW5 := Lib.hid (XR.out.then_ext XB5.out)
              have HFB : Hid (∀ q, (Value.slice B xs.length d).ownBlock = some q → q < u5.heap.size) := fun q hq => by
                obtain ⟨_, hc⟩ := own_cs F5.out.own hq
                exact hc.lt
              clear F0 HR XB X5 HSk
              go_wp2_with fail
              go_loopw [15, 16, 93] (fun uv rv j wr => ∃ k : Nat, k ≤ gs.length ∧ j = .int .i64 k ∧ ∃ (C : Option Addr) (e : Nat) (ks : List Nat), uv = .slice C ks.length e ∧ ks = (List.range k).filter (fun k => stB st k && decide (r k = ri)) ∧ rv = .bool (realB gs ks) ∧ Fresh inF intT u5 wr C e ks) (fun _ _ j _ => gs.length - (intOf j).toNat)
              case atStart => exact ⟨0, Nat.zero_le _, rfl, none, 0, [], rfl, rfl, rfl, Fresh.nil _ _ _ _ (Only.refl _ _)⟩
              case round =>
                obtain ⟨k, hk, rfl, C, ce, ks, rfl, hks, rfl, hF⟩ := hrel
                have FU := Lib.hid hF
                have HKs := Lib.hid hks
                have hkl : ks.length ≤ k := by
                  rw [hks]
                  have := List.length_filter_le (fun k => stB st k && decide (r k = ri)) (List.range k)
                  rwa [List.length_range] at this
                clear hF hks
                by_cases hlk : k < gs.length
                · obtain ⟨b', o', s2, e, hs2, cq⟩ := bos_get HS.out hlk
                  obtain ⟨rfl, rfl⟩ : bs = b' ∧ so = o' := by
                    injection e with e
                    injection e with e1 e2
                    exact ⟨e1, e2⟩
                  have Hsk := Lib.hid (stB_at hs2)
                  have XK := Lib.hid (XW5.out.then_ext FU.out.ext)
                  have e1 : wr.cell? ⟨bs, so + k, none⟩ = some (.bool s2) := cq ⟨wr, XK.out⟩
                  have e1x : ∀ ξ : X wr No, ξ.v.cell? ⟨bs, so + k, none⟩ = some (.bool s2) := fun ξ => cq ⟨ξ.v, XK.out.then_ext ξ.h⟩
                  have HF1 := Lib.hid (filt_succ (fun k => stB st k && decide (r k = ri)) k)
                  clear e hs2 cq
                  cases s2 with
                  | false =>
                    have HF2 : Hid ((List.range (k + 1)).filter (fun k => stB st k && decide (r k = ri)) = ks) := by rw [Hid, HF1.out, ← HKs.out, Hsk.out]; simp
                    go_wp2_with fail
                    go_roundw
                    case rel => exact ⟨k + 1, by omega, by go_num, C, ce, ks, rfl, HF2.out.symm, rfl, FU.out⟩
                    case measure => simp [intOf]; omega
                  | true =>
                    have HR1 := Lib.hid (HRt.out wr (XB5.out.then_ext FU.out.ext) k hlk)
                    obtain ⟨rk, hrk⟩ : ∃ rk, rk = r k := ⟨_, rfl⟩
                    rw [← hrk] at HR1
                    have HRk := Lib.hid hrk
                    clear hrk
                    go_upto_region 25 with fail
                    refine Mix.wp_plain [7] (Cl wr No) (Cl.of (Only.refl _ _)) ?_
                    (repeat' (first | (refine Mix.lex_quiet0 rfl rfl rfl ?_; intro K hK; go_big_quiet_op; go_big_quiet_on) | (refine Mix.lex_quietG rfl rfl rfl (by with_reducible rfl) rfl rfl ?_; intro K hK; go_big_quiet_op; go_big_quiet_on) | ((first | refine Mix.lex_skipT rfl rfl rfl (by with_reducible rfl) ?_ | refine Mix.lex_skipF rfl rfl rfl (by with_reducible rfl) ?_ | refine Mix.lex_skipU rfl rfl rfl (by with_reducible rfl) ?_); simp only [Act.put, List.setIfInBounds_toArray, List.set_cons_succ, List.set_cons_zero]) | (refine Mix.lex_part rfl rfl rfl rfl (fun hq => ?_) (fun hq => ?_) <;> (fail_if_success (guard_hyp hq :ₛ true = true)) <;> (fail_if_success (guard_hyp hq :ₛ false = false)) <;> first | (exfalso; cases hq; done) | (exfalso; simp only [decide_eq_true_eq, decide_eq_false_iff_not, beq_iff_eq, beq_eq_false_iff_ne, ne_eq, Int.not_lt, Int.not_le] at hq; omega) | simp only [Act.put, List.setIfInBounds_toArray, List.set_cons_succ, List.set_cons_zero])))
                    ((first | refine Mix.lex_goes0 rfl rfl ?_ | refine Mix.lex_goesG rfl rfl rfl (by with_reducible rfl) rfl ?_); intro K hK; go_simp)
                    refine HR1.out.mono ?_
                    rintro e u6 ⟨rfl, hx⟩
                    have FU6 := Lib.hid (FU.out.on hx)
                    have X6 := Lib.hid hx
                    refine ⟨_, rfl, hK _ _ (fun _ => Cl.of X6.out) ?_⟩
                    clear hK K hx HR1 e1 e1x
                    simp only [Act.put, List.setIfInBounds_toArray, List.set_cons_succ, List.set_cons_zero]
                    by_cases he : rk = ri
                    · subst he
                      have HF2 : Hid ((List.range (k + 1)).filter (fun k => stB st k && decide (r k = rk)) = ks ++ [k]) := by rw [Hid, HF1.out, ← HKs.out, Hsk.out, ← HRk.out]; simp
                      (repeat' (first | (refine Mix.lex_quiet0 rfl rfl rfl ?_; intro K hK; go_big_quiet_op; go_big_quiet_on) | (refine Mix.lex_quietG rfl rfl rfl (by with_reducible rfl) rfl rfl ?_; intro K hK; go_big_quiet_op; go_big_quiet_on) | ((first | refine Mix.lex_skipT rfl rfl rfl (by with_reducible rfl) ?_ | refine Mix.lex_skipF rfl rfl rfl (by with_reducible rfl) ?_ | refine Mix.lex_skipU rfl rfl rfl (by with_reducible rfl) ?_); simp only [Act.put, List.setIfInBounds_toArray, List.set_cons_succ, List.set_cons_zero]) | (refine Mix.lex_part rfl rfl rfl rfl (fun hq => ?_) (fun hq => ?_) <;> (fail_if_success (guard_hyp hq :ₛ true = true)) <;> (fail_if_success (guard_hyp hq :ₛ false = false)) <;> first | (exfalso; cases hq; done) | (exfalso; simp only [decide_eq_true_eq, decide_eq_false_iff_not, beq_iff_eq, beq_eq_false_iff_ne, ne_eq, Int.not_lt, Int.not_le] at hq; omega) | simp only [Act.put, List.setIfInBounds_toArray, List.set_cons_succ, List.set_cons_zero])))
                      refine Mix.lex_nil ?_
                      obtain ⟨F2, hF2⟩ : ∃ F2 : Nat → Prop, F2 = fun q => (Value.slice C ks.length ce).ownBlock = some q := ⟨_, rfl⟩
                      have HFq := Lib.hid hF2
                      clear hF2
                      go_upto_region 26 with fail
                      refine Mix.wp_plain [2, 3] (Cl u6 F2) (Cl.of (Only.refl _ _)) ?_
                      (repeat' (refine Mix.lex_quiet0 rfl rfl rfl ?_; intro K hK; go_big_quiet_op; go_big_quiet_on))
                      ((first | refine Mix.lex_goes0 rfl rfl ?_ | refine Mix.lex_goesG rfl rfl rfl (by with_reducible rfl) rfl ?_); intro K hK; go_simp)
                      have F6 := Lib.hid (FU6.out.on ((Only.refl No u6).alloc (.cells #[.int .i64 (k : Int)] intT)))
                      refine hK _ _ (fun _ => Cl.of ((Only.refl F2 u6).alloc _)) ?_
                      clear hK K
                      simp only [Act.put, List.setIfInBounds_toArray, List.set_cons_succ, List.set_cons_zero]
                      refine Mix.lex_goes0 rfl rfl ?_
                      intro K hK
                      refine goes_append (v := .slice C ks.length ce) (n := ks.length) (xs := ks.flatMap inF.enc) int_ty rfl rfl rfl F6.out.own (rd_one u6 _ [.int .i64 (k : Int)]) (by simp [Value.oneCell']) (by omega) ?_
                      intro C' ce' w7 hown5 hgr5 hb5
                      have F7 : Hid (Fresh inF intT u5 w7 C' ce' (ks ++ [k])) := F6.out.grow (m := 1) (ys := [k]) rfl hown5 hgr5 hb5
                      have O7 : Hid (Only F2 u6 w7) := ((Only.refl F2 u6).alloc _).grown hgr5 fun g hg => .inr (by rw [HFq.out]; exact hg)
                      refine hK _ _ (fun _ => Cl.of O7.out) ?_
                      clear hK K hown5 hgr5 hb5
                      simp only [Act.put, List.setIfInBounds_toArray, List.set_cons_succ, List.set_cons_zero]
                      (repeat' (refine Mix.lex_quiet0 rfl rfl rfl ?_; intro K hK; go_big_quiet_op; go_big_quiet_on))
                      refine Mix.lex_nil ?_
                      obtain ⟨bg, og, ⟨⟨tA, tc, nA, nc, cA, cc⟩, G⟩, rfl, hox, _, _, _, c3⟩ := grps_get HG.out.row hlk
                      have hgi : gs[k]? = some G := by rw [← HG.out.om, List.getElem?_map, hox]; rfl
                      have Hph := Lib.hid (nphB_at hgi)
                      have q3 : w7.cell? ⟨bg, og + k * 4 + 3, none⟩ = some (.bool G.phony) := c3 ⟨w7, XW5.out.then_ext F7.out.ext⟩
                      generalize G.phony = ph at Hph q3
                      clear hox hgi c3
                      obtain ⟨rb, hrb⟩ : ∃ b, b = realB gs ks := ⟨_, rfl⟩
                      rw [← hrb]
                      have HRb := Lib.hid hrb
                      clear hrb
                      cases rb with
                      | true =>
                        have HR2 : Hid (realB gs (ks ++ [k]) = true) := by rw [Hid, realB_app, ← HRb.out]; rfl
                        go_wp2_with fail
                        go_roundw
                        case rel => exact ⟨k + 1, by omega, by go_num, C', ce', ks ++ [k], by simp, HF2.out.symm, by rw [HR2.out], F7.out⟩
                        case measure => simp [intOf]; omega
                      | false =>
                        cases ph with
                        | true =>
                          have HR2 : Hid (realB gs (ks ++ [k]) = false) := by rw [Hid, realB_app, ← HRb.out, Hph.out]; rfl
                          go_wp2_with fail
                          go_roundw
                          case rel => exact ⟨k + 1, by omega, by go_num, C', ce', ks ++ [k], by simp, HF2.out.symm, by rw [HR2.out], F7.out⟩
                          case measure => simp [intOf]; omega
                        | false =>
                          have HR2 : Hid (realB gs (ks ++ [k]) = true) := by rw [Hid, realB_app, ← HRb.out, Hph.out]; rfl
                          go_wp2_with fail
                          go_roundw
                          case rel => exact ⟨k + 1, by omega, by go_num, C', ce', ks ++ [k], by simp, HF2.out.symm, by rw [HR2.out], F7.out⟩
                          case measure => simp [intOf]; omega
                    · have t1 : decide ((rk : Int) = (ri : Int)) = false := by rw [decide_eq_false_iff_not]; omega
                      have t2 : ((rk : Int) == (ri : Int)) = false := by rw [beq_eq_false_iff_ne]; omega
                      have HF2 : Hid ((List.range (k + 1)).filter (fun k => stB st k && decide (r k = ri)) = ks) := by rw [Hid, HF1.out, ← HKs.out, Hsk.out, ← HRk.out]; simp [he]
                      (repeat' (first | (refine Mix.lex_quiet0 rfl rfl rfl ?_; intro K hK; go_big_quiet_op; go_big_quiet_on) | (refine Mix.lex_quietG rfl rfl rfl (by with_reducible rfl) rfl rfl ?_; intro K hK; go_big_quiet_op; go_big_quiet_on) | ((first | refine Mix.lex_skipT rfl rfl rfl (by with_reducible rfl) ?_ | refine Mix.lex_skipF rfl rfl rfl (by with_reducible rfl) ?_ | refine Mix.lex_skipU rfl rfl rfl (by with_reducible rfl) ?_); simp only [Act.put, List.setIfInBounds_toArray, List.set_cons_succ, List.set_cons_zero]) | (refine Mix.lex_part rfl rfl rfl rfl (fun hq => ?_) (fun hq => ?_) <;> (fail_if_success (guard_hyp hq :ₛ true = true)) <;> (fail_if_success (guard_hyp hq :ₛ false = false)) <;> first | (exfalso; cases hq; done) | (exfalso; simp only [decide_eq_true_eq, decide_eq_false_iff_not, beq_iff_eq, beq_eq_false_iff_ne, ne_eq, Int.not_lt, Int.not_le] at hq; omega) | simp only [Act.put, List.setIfInBounds_toArray, List.set_cons_succ, List.set_cons_zero])))
                      refine Mix.lex_nil ?_
                      go_wp2_with fail
                      go_roundw
                      case rel => exact ⟨k + 1, by omega, by go_num, C, ce, ks, rfl, HF2.out.symm, rfl, FU6.out⟩
                      case measure => simp [intOf]; omega
                · obtain rfl : k = gs.length := by omega
                  have HKs2 : Hid (ks = unitAt gs.length st r ri) := HKs.out
                  obtain ⟨rb, hrb⟩ : ∃ b, b = realB gs ks := ⟨_, rfl⟩
                  rw [← hrb]
                  have HRb := Lib.hid hrb
                  clear hrb
                  cases rb with
                  | false =>
                    have HU2 : Hid (unitsTo gs st r (ri + 1) = unitsTo gs st r ri) := by
                      rw [Hid, HU.out, unit1, ← HKs2.out, ← HRb.out]; simp
                    go_wp2_with fail
                    go_roundw
                    case rel => exact ⟨ri + 1, by omega, by go_num, B, d, xs, rfl, F5.out.on FU.out.ext, by rw [HU2.out]; exact HM.out, fun x hx => (HR5.out x hx).step (Only.any FU.out.ext) fun _ e => .inl e⟩
                    case measure => simp [intOf]; omega
                  | true =>
                    have HU2 : Hid (unitsTo gs st r (ri + 1) = unitsTo gs st r ri ++ [ks]) := by
                      rw [Hid, HU.out, unit1, ← HKs2.out, ← HRb.out]; simp
                    obtain ⟨F2, hF2⟩ : ∃ F2 : Nat → Prop, F2 = fun q => (Value.slice B xs.length d).ownBlock = some q := ⟨_, rfl⟩
                    have HFq := Lib.hid hF2
                    have HRI : Hid (RbI F2 wr C ks) := RbI.fresh FU.out (by rw [hF2]; exact HFB.out)
                    clear hF2
                    have X6 := Lib.hid FU.out.ext
                    go_upto_region 30 with fail
                    refine Mix.wp_plain [2, 3] (Cl wr F2) (Cl.of (Only.refl _ _)) ?_
                    (repeat' (refine Mix.lex_quiet0 rfl rfl rfl ?_; intro K hK; go_big_quiet_op; go_big_quiet_on))
                    ((first | refine Mix.lex_goes0 rfl rfl ?_ | refine Mix.lex_goesG rfl rfl rfl (by with_reducible rfl) rfl ?_); intro K hK; go_simp)
                    have xa : Ext wr (wr.alloc (.cells #[.slice C ks.length ce] uniT)) := (Only.refl No wr).alloc _
                    have F6 := Lib.hid (F5.out.on (X6.out.then_ext xa))
                    refine hK _ _ (fun _ => Cl.of ((Only.refl F2 wr).alloc _)) ?_
                    clear hK K
                    simp only [Act.put, List.setIfInBounds_toArray, List.set_cons_succ, List.set_cons_zero]
                    refine Mix.lex_goes0 rfl rfl ?_
                    intro K hK
                    refine goes_append (v := .slice B xs.length d) (n := xs.length) (xs := xs.flatMap unF.enc) un_ty rfl rfl rfl F6.out.own (rd_one wr _ [.slice C ks.length ce]) (by simp [Value.oneCell']) (by omega) ?_
                    intro B' d' w7 hown5 hgr5 hb5
                    have F7 : Hid (Fresh unF uniT wb w7 B' d' (xs ++ [((C, ce), ks)])) := F6.out.grow (m := 1) (ys := [((C, ce), ks)]) rfl hown5 hgr5 hb5
                    have O7 : Hid (Only F2 wr w7) := ((Only.refl F2 wr).alloc _).grown hgr5 fun g hg => .inr (by rw [HFq.out]; exact hg)
                    have HS7 : Hid (∀ q, (Value.slice B' (xs ++ [((C, ce), ks)]).length d').ownBlock = some q → F2 q ∨ wr.heap.size ≤ q) := fun q hq => by
                      rw [List.length_append] at hq
                      rcases hb5 with hb | hb
                      · exact .inl (by rw [HFq.out]; exact hb.symm.trans hq)
                      · have h3 : some (wr.alloc (.cells #[.slice C ks.length ce] uniT)).heap.size = some q := hb.symm.trans hq
                        injection h3 with h3
                        exact .inr (by rw [← h3]; exact xa.size)
                    refine hK _ _ (fun _ => Cl.of O7.out) ?_
                    clear hK K hown5 hgr5 hb5 xa
                    simp only [Act.put, List.setIfInBounds_toArray, List.set_cons_succ, List.set_cons_zero]
                    (repeat' (refine Mix.lex_quiet0 rfl rfl rfl ?_; intro K hK; go_big_quiet_op; go_big_quiet_on))
                    refine Mix.lex_nil ?_
                    go_wp2_with fail
                    go_roundw
                    case rel =>
                      refine ⟨ri + 1, by omega, by go_num, B', d', xs ++ [((C, ce), ks)], by simp, F7.out, by rw [HU2.out, List.map_append, HM.out]; rfl, fun x hx => ?_⟩
                      rcases List.mem_append.1 hx with hx | hx
                      · exact ((HR5.out x hx).step (Only.any X6.out) (fun q e => .inl (by rw [HFq.out] at e; exact e)) : RbI F2 wr x.1.1 x.2).step O7.out HS7.out
                      · obtain rfl := List.mem_singleton.1 hx
                        exact HRI.out.step O7.out HS7.out
                    case measure => simp [intOf]; omega
            · have t1 : decide ((ri : Int) = (i : Int)) = false := by rw [decide_eq_false_iff_not]; omega
              have t2 : ((ri : Int) == (i : Int)) = false := by rw [beq_eq_false_iff_ne]; omega
              have HU2 : Hid (unitsTo gs st r (i + 1) = unitsTo gs st r i) := by rw [Hid, HU.out, HSk.out he]; simp
              (repeat' (first | (refine Mix.lex_quiet0 rfl rfl rfl ?_; intro K hK; go_big_quiet_op; go_big_quiet_on) | (refine Mix.lex_quietG rfl rfl rfl (by with_reducible rfl) rfl rfl ?_; intro K hK; go_big_quiet_op; go_big_quiet_on) | ((first | refine Mix.lex_skipT rfl rfl rfl (by with_reducible rfl) ?_ | refine Mix.lex_skipF rfl rfl rfl (by with_reducible rfl) ?_ | refine Mix.lex_skipU rfl rfl rfl (by with_reducible rfl) ?_); simp only [Act.put, List.setIfInBounds_toArray, List.set_cons_succ, List.set_cons_zero]) | (refine Mix.lex_part rfl rfl rfl rfl (fun hq => ?_) (fun hq => ?_) <;> (fail_if_success (guard_hyp hq :ₛ true = true)) <;> (fail_if_success (guard_hyp hq :ₛ false = false)) <;> first | (exfalso; cases hq; done) | (exfalso; simp only [decide_eq_true_eq, decide_eq_false_iff_not, beq_iff_eq, beq_eq_false_iff_ne, ne_eq, Int.not_lt, Int.not_le] at hq; omega) | simp only [Act.put, List.setIfInBounds_toArray, List.set_cons_succ, List.set_cons_zero])))
              refine Mix.lex_nil ?_
              go_wp2_with fail
              go_roundw
              case rel => exact ⟨i + 1, by omega, by go_num, B, d, xs, rfl, F0.out.on X5.out, by rw [HU2.out]; exact HM.out, fun x hx => (HR.out x hx).step (Only.any X5.out) fun _ e => .inl e⟩
              case measure => simp [intOf]; omega
        · obtain rfl : i = gs.length := by omega
          have hxl2 : xs.length = (unitsTo gs st r gs.length).length := by rw [← HM.out, List.length_map]
          have HXL := Lib.hid hxl2
          clear hxl2
          go_wp2_with fail
          go_ret
          refine ⟨B, d, xs, r, HLs.out, by rw [show (unitsF gs st r).length = xs.length from HXL.out.symm]; rfl, ⟨?_, fun x hx => HR.out x hx _ (Only.refl _ _), HM.out⟩, XR.out.then_ext XB.out⟩
          rw [show (unitsF gs st r).length = xs.length from HXL.out.symm]
          exact F0.out.row (by decide)
theorem unit_sorted (n : Nat) (st : List Bool) (r : Nat → Nat) (i : Nat) : (unitAt n st r i).Pairwise (· < ·) := List.Pairwise.filter _ List.pairwise_lt_range
section
variable {gs : List Grp} {st : List Bool} {r : Nat → Nat}
theorem lst_root (h : LstOk (edgesF gs st) gs.length r) {k : Nat} (hk : k < gs.length) : r k < gs.length ∧ r (r k) = r k ∧ r k ≤ k := by
  have hc := (h k hk).1
  have hrl : r k < gs.length := hc.lt (fun e he => by have := edgesTo_ok e he; omega) hk
  have a1 := h (r k) hrl
  have a2 : Least (edgesF gs st) (r k) (r k) := ⟨.here, fun y hy => (h k hk).2 y (hc.trans hy)⟩
  exact ⟨hrl, a1.uniq a2, (h k hk).2 k .here⟩
theorem lst_conn (h : LstOk (edgesF gs st) gs.length r) {x y : Nat} (hx : x < gs.length) (hy : y < gs.length) (hc : Conn (edgesF gs st) x y) : r x = r y := by
  have a1 := h x hx
  have a2 : Least (edgesF gs st) x (r y) := ⟨hc.trans (h y hy).1, fun z hz => (h y hy).2 z (hc.symm.trans hz)⟩
  exact a1.uniq a2
theorem unit_head (h : LstOk (edgesF gs st) gs.length r) {i : Nat} (hne : unitAt gs.length st r i ≠ []) : (unitAt gs.length st r i)[0]? = some i := by
  obtain ⟨k, hk⟩ := List.exists_mem_of_ne_nil _ hne
  obtain ⟨h1, h2, rfl⟩ := unit_mem.1 hk
  obtain ⟨q1, q2, q3⟩ := lst_root h h1
  have hp : ∀ e ∈ edgesF gs st, stB st e.1 = true ∧ stB st e.2 = true := fun e he => (edgesTo_ok e he).2.2
  have hs : stB st (r k) = true := by
    rcases (h k h1).1.stale hp with e | e
    · rw [← e]; exact h2
    · exact e
  have hin : r k ∈ unitAt gs.length st r (r k) := unit_mem.2 ⟨q1, hs, q2⟩
  have hsrt := unit_sorted gs.length st r (r k)
  cases hu : unitAt gs.length st r (r k) with
  | nil => rw [hu] at hin; cases hin
  | cons a t =>
    rw [hu] at hin hsrt
    have ha : a ∈ unitAt gs.length st r (r k) := by rw [hu]; simp
    obtain ⟨a1, a2, a3⟩ := unit_mem.1 ha
    have hle := (lst_root h a1).2.2
    rcases List.mem_cons.1 hin with e | e
    · rw [e]; rfl
    · have := (List.pairwise_cons.1 hsrt).1 _ e
      omega
theorem real_ne {us : List Nat} (h : realB gs us = true) : us ≠ [] := by rintro rfl; cases h
theorem units_at {i : Nat} {u : List Nat} (h : u ∈ unitsTo gs st r i) : ∃ p, p < i ∧ u = unitAt gs.length st r p ∧ realB gs u = true := by
  unfold unitsTo at h
  obtain ⟨p, hp, hu⟩ := List.mem_filterMap.1 h
  obtain ⟨h1, h2⟩ := unit1_some hu
  exact ⟨p, List.mem_range.1 hp, h1, h2⟩
theorem units_rise (h : LstOk (edgesF gs st) gs.length r) : ∀ i, (unitsTo gs st r i).Pairwise fun a b => a.headD 0 < b.headD 0
  | 0 => by simp [unitsTo]
  | i + 1 => by
    rw [unitsTo_succ]
    refine List.pairwise_append.2 ⟨units_rise h i, ?_, fun a ha b hb => ?_⟩
    · cases unit1 gs st r i <;> simp
    · obtain ⟨p, hp, rfl, hr⟩ := units_at ha
      cases hu : unit1 gs st r i with
      | none => rw [hu] at hb; cases hb
      | some u =>
        rw [hu] at hb
        simp at hb
        subst hb
        obtain ⟨rfl, hr2⟩ := unit1_some hu
        have e1 := unit_head h (real_ne hr)
        have e2 := unit_head h (real_ne hr2)
        rw [← List.head?_eq_getElem?] at e1 e2
        rw [List.headD_eq_head?_getD, List.headD_eq_head?_getD, e1, e2]
        exact hp
theorem units_whole (h : LstOk (edgesF gs st) gs.length r) {k : Nat} (hk : k < gs.length) (hs : stB st k = true) (hp : nphB gs k = true) : unitAt gs.length st r (r k) ∈ unitsF gs st r := by
  obtain ⟨q1, _, _⟩ := lst_root h hk
  refine List.mem_filterMap.2 ⟨r k, List.mem_range.2 q1, ?_⟩
  unfold unit1
  rw [if_pos]
  unfold realB
  rw [List.any_eq_true]
  exact ⟨k, unit_mem.2 ⟨hk, hs, rfl⟩, hp⟩
structure InOk (us : List (List Nat)) (n i p : Nat) (arr : List Nat) : Prop where
  len : arr.length = n
  back : ∀ k, k < n → arr.getD k 0 = 0 ∨ (∃ j u, j < i ∧ us[j]? = some u ∧ k ∈ u ∧ arr.getD k 0 = j + 1) ∨ (∃ u, us[i]? = some u ∧ k ∈ u.take p ∧ arr.getD k 0 = i + 1)
  on : ∀ j u k, j < i → us[j]? = some u → k ∈ u → arr.getD k 0 = j + 1
  here : ∀ u k, us[i]? = some u → k ∈ u.take p → arr.getD k 0 = i + 1
theorem InOk.start (us : List (List Nat)) (n : Nat) : InOk us n 0 0 (List.replicate n 0) := by
  have : ∀ k, (List.replicate n 0).getD k 0 = 0 := fun k => by
    rw [List.getD_eq_getElem?_getD, List.getElem?_replicate]
    split <;> rfl
  exact ⟨List.length_replicate, fun k _ => .inl (this k), fun j u k hj => absurd hj (Nat.not_lt_zero j), fun u k _ hk => by simp at hk⟩
theorem InOk.next {us : List (List Nat)} {n i : Nat} {u : List Nat} {arr : List Nat} (h : InOk us n i u.length arr) (hu : us[i]? = some u) : InOk us n (i + 1) 0 arr := by
  refine ⟨h.len, fun k hk => ?_, fun j v k hj hv hk => ?_, fun v k _ hk => by simp at hk⟩
  · rcases h.back k hk with h1 | ⟨j, v, h1, h2, h3, h4⟩ | ⟨v, h1, h2, h3⟩
    · exact .inl h1
    · exact .inr (.inl ⟨j, v, by omega, h2, h3, h4⟩)
    · exact .inr (.inl ⟨i, v, by omega, h1, List.mem_of_mem_take h2, h3⟩)
  · rcases Nat.lt_or_ge j i with hlt | hge
    · exact h.on j v k hlt hv hk
    · obtain rfl : j = i := by omega
      obtain rfl : u = v := by rw [hu] at hv; exact Option.some.inj hv
      exact h.here u k hu (by rw [List.take_of_length_le (Nat.le_refl _)]; exact hk)
variable {us : List (List Nat)}
theorem units_apart (h : LstOk (edgesF gs st) gs.length r) (hus : us = unitsF gs st r) {i j : Nat} {u v : List Nat} {k : Nat} (hi : us[i]? = some u) (hj : us[j]? = some v) (h1 : k ∈ u) (h2 : k ∈ v) : i = j := by
  subst hus
  obtain ⟨p, _, rfl, hr1⟩ := units_at (List.mem_of_getElem? hi)
  obtain ⟨q, _, rfl, hr2⟩ := units_at (List.mem_of_getElem? hj)
  have e1 := (unit_mem.1 h1).2.2
  have e2 := (unit_mem.1 h2).2.2
  have hpq : p = q := e1.symm.trans e2
  subst hpq
  obtain ⟨hil, ei⟩ := List.getElem?_eq_some_iff.1 hi
  obtain ⟨hjl, ej⟩ := List.getElem?_eq_some_iff.1 hj
  have hp := List.pairwise_iff_getElem.1 (units_rise h gs.length)
  rcases Nat.lt_trichotomy i j with hlt | heq | hgt
  · have := hp i j hil hjl hlt
    rw [ei, ej] at this
    omega
  · exact heq
  · have := hp j i hjl hil hgt
    rw [ei, ej] at this
    omega
theorem InOk.step (h : LstOk (edgesF gs st) gs.length r) (hus : us = unitsF gs st r) {i p k : Nat} {u arr : List Nat} (hI : InOk us gs.length i p arr) (hu : us[i]? = some u) (hk : u[p]? = some k) :
    k < gs.length ∧ stB st k = true ∧ arr.getD k 0 = 0 ∧ (∀ q, p = q + 1 → ∃ m, u[q]? = some m ∧ m < k) ∧ InOk us gs.length i (p + 1) (arr.set k (i + 1)) := by
  have hmem : u ∈ unitsF gs st r := by rw [← hus]; exact List.mem_of_getElem? hu
  obtain ⟨ρ, _, hρ, _⟩ := units_at hmem
  have hkm := List.mem_of_getElem? hk
  have hk2 := hkm
  rw [hρ] at hk2
  obtain ⟨h1, h2, h3⟩ := unit_mem.1 hk2
  have hsrt : u.Pairwise (· < ·) := by rw [hρ]; exact unit_sorted _ _ _ _
  obtain ⟨hpl, ep⟩ := List.getElem?_eq_some_iff.1 hk
  have hnt : k ∉ u.take p := fun hm => by
    obtain ⟨q, hq, e⟩ := List.getElem_of_mem hm
    rw [List.length_take] at hq
    rw [List.getElem_take] at e
    have := List.pairwise_iff_getElem.1 hsrt q p (by omega) hpl (by omega)
    omega
  have h0 : arr.getD k 0 = 0 := by
    rcases hI.back k h1 with h0 | ⟨j, v, b1, b2, b3, _⟩ | ⟨v, b1, b2, _⟩
    · exact h0
    · have := units_apart h hus hu b2 hkm b3
      omega
    · obtain rfl : u = v := by rw [hu] at b1; exact Option.some.inj b1
      exact absurd b2 hnt
  have hset : ∀ x, (arr.set k (i + 1)).getD x 0 = if x = k then i + 1 else arr.getD x 0 := fun x => getD_set (by rw [hI.len]; exact h1)
  have htk : ∀ x, x ∈ u.take (p + 1) ↔ x ∈ u.take p ∨ x = k := fun x => by
    rw [List.take_add_one, hk, List.mem_append]
    simp
  refine ⟨h1, h2, h0, fun q hq => ?_, ⟨by rw [List.length_set]; exact hI.len, fun x hx => ?_, fun j v x hj hv hx => ?_, fun v x hv hx => ?_⟩⟩
  · subst hq
    refine ⟨u[q], List.getElem?_eq_getElem (by omega), ?_⟩
    have := List.pairwise_iff_getElem.1 hsrt q (q + 1) (by omega) hpl (by omega)
    omega
  · rw [hset]
    by_cases e : x = k
    · rw [if_pos e]
      exact .inr (.inr ⟨u, hu, (htk x).2 (.inr e), rfl⟩)
    · rw [if_neg e]
      rcases hI.back x hx with b | b | ⟨v, b1, b2, b3⟩
      · exact .inl b
      · exact .inr (.inl b)
      · obtain rfl : u = v := by rw [hu] at b1; exact Option.some.inj b1
        exact .inr (.inr ⟨u, hu, (htk x).2 (.inl b2), b3⟩)
  · rw [hset, if_neg (fun e => by subst e; have := units_apart h hus hu hv hkm hx; omega)]
    exact hI.on j v x hj hv hx
  · obtain rfl : u = v := by rw [hu] at hv; exact Option.some.inj hv
    rw [hset]
    by_cases e : x = k
    · rw [if_pos e]
    · rw [if_neg e]
      rcases (htk x).1 hx with b | b
      · exact hI.here u x hu b
      · exact absurd b e
theorem InOk.real (h : LstOk (edgesF gs st) gs.length r) (hus : us = unitsF gs st r) {arr : List Nat} (hI : InOk us gs.length us.length 0 arr) {k : Nat} (hk : k < gs.length) (hs : stB st k = true) (hp : nphB gs k = true) : arr.getD k 0 ≠ 0 := by
  have hm := units_whole h hk hs hp
  rw [← hus] at hm
  obtain ⟨j, hj, e⟩ := List.getElem_of_mem hm
  have := hI.on j _ k hj (List.getElem?_eq_getElem hj) (by rw [e]; exact unit_mem.2 ⟨hk, hs, rfl⟩)
  omega
theorem InOk.same (h : LstOk (edgesF gs st) gs.length r) (hus : us = unitsF gs st r) {arr : List Nat} (hI : InOk us gs.length us.length 0 arr) {x y : Nat} (hx : x < gs.length) (hy : y < gs.length) (sx : stB st x = true) (sy : stB st y = true) (hr : r x = r y) : arr.getD x 0 = arr.getD y 0 := by
  have key : ∀ x y, x < gs.length → y < gs.length → stB st x = true → stB st y = true → r x = r y → ∀ j, arr.getD x 0 = j + 1 → arr.getD y 0 = j + 1 := by
    intro x y hx hy sx sy hr j hj
    rcases hI.back x hx with b | ⟨i, v, b1, b2, b3, b4⟩ | ⟨v, b1, _⟩
    · omega
    · have hv : v ∈ unitsF gs st r := by rw [← hus]; exact List.mem_of_getElem? b2
      obtain ⟨ρ, _, hρ, _⟩ := units_at hv
      have e := b3
      rw [hρ] at e
      have hym : y ∈ v := by rw [hρ]; exact unit_mem.2 ⟨hy, sy, hr.symm.trans (unit_mem.1 e).2.2⟩
      have := hI.on i v y b1 b2 hym
      omega
    · rw [List.getElem?_eq_none (Nat.le_refl _)] at b1
      cases b1
  cases hxa : arr.getD x 0 with
  | zero =>
    cases hya : arr.getD y 0 with
    | zero => rfl
    | succ j =>
      have := key y x hy hx sy sx hr.symm j hya
      omega
  | succ j => exact (key x y hx hy sx sy hr j hxa).symm
theorem makerF_take {out : List Grp} {n : Str} {k i : Nat} (h : makerF out n = some k) (hk : k < i) : makerF (out.take i) n = some k := by
  unfold makerF at h ⊢
  obtain ⟨h1, h2, h3⟩ := List.findIdx?_eq_some_iff_getElem.1 h
  refine List.findIdx?_eq_some_iff_getElem.2 ⟨by rw [List.length_take]; omega, by rw [List.getElem_take]; exact h2, fun j hj => ?_⟩
  rw [List.getElem_take]
  exact h3 j hj
theorem edge_in {gs : List Grp} {st : List Bool} {i k : Nat} {G : Grp} {t : Str} (hi : gs[i]? = some G) (ht : t ∈ G.needs) (hm : makerF gs t = some k) (hk : k < i) (h1 : stB st i = true) (h2 : stB st k = true) : (i, k) ∈ edgesF gs st := by
  have hl := (List.getElem?_eq_some_iff.1 hi).1
  refine List.mem_flatMap.2 ⟨i, List.mem_range.2 hl, List.mem_filterMap.2 ⟨t, by rw [ndsAt, hi]; exact ht, ?_⟩⟩
  unfold edgeF
  rw [makerF_take hm hk]
  show (if (stB st i && stB st k) = true then some (i, k) else none) = _
  rw [h1, h2]; rfl
end
end Go.Proofs.YtnhaekifcieeoaaGreatDoor
