/- Put together: Pl2. -/
import Derived.Test.YtnhaekifcieeoaaGreatDoorPk18
namespace Go.Proofs.YtnhaekifcieeoaaGreatDoor
open Go Go.RowKit
def UnsR (w : World) (A : Option Addr) (xs : List ((Option Addr × Nat) × List Nat)) (us : List (List Nat)) : Prop := SlR unF w A us.length xs ∧ (∀ x ∈ xs, SlR inF w x.1.1 x.2.length x.2) ∧ xs.map (·.2) = us
def UnsRes (w : World) (gs : List Grp) (st : List Bool) (e : Ending) (w' : World) : Prop :=
  ∃ (B : Option Addr) (d : Nat) (xs : List ((Option Addr × Nat) × List Nat)) (r : Nat → Nat), LstOk (edgesF gs st) gs.length r ∧ e = .returned (.slice B (unitsF gs st r).length d) ∧ UnsR w' B xs (unitsF gs st r) ∧ Ext w w'
def RbI (F : Nat → Prop) (u : World) (A : Option Addr) (xs : List Nat) : Prop := ∀ v, Only F u v → SlR inF v A xs.length xs
theorem RbI.step {F F' : Nat → Prop} {u u' : World} {A : Option Addr} {xs : List Nat} (h : RbI F u A xs) (hx : Only F u u') (hf : ∀ b, F' b → F b ∨ u.heap.size ≤ b) : RbI F' u' A xs := fun v hv => h v (hx.trans hv fun b hb e => by
  rcases hf b e with h1 | h1
  · exact h1
  · omega)
theorem RbI.fresh {F : Nat → Prop} {u u' : World} {A : Option Addr} {c : Nat} {xs : List Nat} (h : Fresh inF intT u u' A c xs) (hF : ∀ b, F b → b < u.heap.size) : RbI F u' A xs := fun v hv => SlR.of_own (T := inF) (by decide) (own_keep h.own hv fun g hg e => by
  have := h.new g hg
  have := hF g e
  omega)
theorem stB_at {st : List Bool} {i : Nat} {s : Bool} (h : st[i]? = some s) : stB st i = s := by
  simp [stB, List.getD_eq_getElem?_getD, h]
theorem edgeF_none {gs : List Grp} {st : List Bool} {i : Nat} {n : Str} (h : makerF (gs.take i) n = none) : edgeF gs st i n = none := by unfold edgeF; rw [h]
theorem edgeF_some {gs : List Grp} {st : List Bool} {i k : Nat} {n : Str} (h : makerF (gs.take i) n = some k) : edgeF gs st i n = if (stB st i && stB st k) = true then some (i, k) else none := by unfold edgeF; rw [h]
theorem edgeF_off {gs : List Grp} {st : List Bool} {i : Nat} {n : Str} (h : stB st i = false) : edgeF gs st i n = none := by
  unfold edgeF
  split
  · rw [h]; rfl
  · rfl
theorem take_fm {gs : List Grp} {st : List Bool} {i k : Nat} {ns : List Str} {t : Str} (ht : ns[k]? = some t) : (ns.take (k + 1)).filterMap (edgeF gs st i) = (ns.take k).filterMap (edgeF gs st i) ++ (edgeF gs st i t).toList := by
  rw [List.take_add_one, ht, List.filterMap_append]
  congr 1
theorem filt_succ (p : Nat → Bool) (k : Nat) : (List.range (k + 1)).filter p = (List.range k).filter p ++ if p k = true then [k] else [] := by
  rw [List.range_succ, List.filter_append]
  cases h : p k <;> simp [h]
theorem realB_app {gs : List Grp} {ks : List Nat} {k : Nat} : realB gs (ks ++ [k]) = (realB gs ks || nphB gs k) := by simp [realB]
theorem nphB_at {gs : List Grp} {k : Nat} {G : Grp} (h : gs[k]? = some G) : nphB gs k = !G.phony := by unfold nphB; rw [h]
set_option maxRecDepth 100000 in
set_option maxHeartbeats 8000000 in
theorem Units_c {w : World} {A : Option Addr} {c : Nat} {os : List (RulA × Grp)} {gs : List Grp} (hG : GrpsR w A os gs) (hgs : gs.length ≤ 10) (hcap : gs.length ≤ c) (hb : ∀ g ∈ gs, GB3 g) {sA : Option Addr} {sc : Nat} {st : List Bool} (hS : SlR boF w sA gs.length st) :
    Calls Tryz.prog 21 #[.slice A gs.length c, .slice sA gs.length sc] w (UnsRes w gs st) := by
  have hsl : st.length = gs.length := hS.1
  have HG := Lib.hid hG
  have HS := Lib.hid hS
  have HB := Lib.hid hb
  have Hsl := Lib.hid hsl
  have hmk := make_ints gs.length (by omega)
  obtain ⟨w1, hw1⟩ : ∃ u, u = w.alloc (.cells (upV (List.replicate gs.length 0)) intT) := ⟨_, rfl⟩
  obtain ⟨g5, hg5⟩ : ∃ g, g = w.heap.size := ⟨_, rfl⟩
  have X1 : Hid (Ext w w1) := by rw [hw1]; exact (Only.refl No w).alloc _
  have C1 : Hid (Cs w1 g5 intT (upV (List.replicate gs.length 0))) := by rw [hw1, hg5]; exact Cs.new _ _ _
  have HG5 : Hid (w.heap.size ≤ g5) := Nat.le_of_eq hg5.symm
  clear hG hb hS hsl
  go_enter Tryz.func21, Tryz.ntmps21
  go_upto_region 2 with fail
  rw [← hw1, ← hg5]
  clear hw1 hg5 hmk
  go_wp2_with fail
  go_loopw [23] (fun i wr => ∃ k : Nat, k ≤ gs.length ∧ i = .int .i64 k ∧ ∃ up : List Nat, Cs wr g5 intT (upV up) ∧ UpI gs.length k (edgesTo gs st k) up ∧ Ext w wr) (fun i _ => gs.length - (intOf i).toNat)
  case atStart => exact ⟨0, Nat.zero_le _, rfl, _, C1.out, UpI.start _, X1.out⟩
  case round =>
    clear C1 X1
    obtain ⟨i, hi, rfl, up, hC, hU, hx⟩ := hrel
    have C0 := Lib.hid hC
    have U0 := Lib.hid hU
    have XR := Lib.hid hx
    clear hC hU hx
    by_cases hlt : i < gs.length
    · obtain ⟨bg, o, ⟨⟨tA, tc, nA, nc, cA, cc⟩, G⟩, rfl, hox, c0, c1, c2, c3⟩ := grps_get HG.out.row hlt
      obtain ⟨bs, so, s, rfl, hss, cs⟩ := bos_get HS.out hlt
      have hgi : gs[i]? = some G := by rw [← HG.out.om, List.getElem?_map, hox]; rfl
      have hnn : G.needs.length ≤ 3 := (HB.out G (List.mem_of_getElem? hgi)).2.1
      have HN : Hid (SlR strF w nA G.needs.length G.needs) := (HG.out.rr _ (List.mem_of_getElem? hox)).2.1
      have Hsi := Lib.hid (stB_at hss)
      have HEd : Hid (edgesTo gs st (i + 1) = edgesTo gs st i ++ G.needs.filterMap (edgeF gs st i)) := by
        rw [Hid, edgesTo_succ, edgesAt, ndsAt, hgi]
      have CS : Hid (∀ u, Ext w u → u.cell? ⟨bs, so + i, none⟩ = some (.bool s)) := fun u hu => cs ⟨u, hu⟩
      have HMk : Hid (∀ u, Ext w u → ∀ t, Calls Tryz.prog 15 #[.slice (some ⟨bg, o, none⟩) i c, S t] u fun e w' => e = .returned (.int .i64 (idxI (makerF (gs.take i) t))) ∧ Ext u w') := fun u hu t => by
        have hl : (gs.take i).length = i := by rw [List.length_take]; omega
        have h1 : GrpsR u (some ⟨bg, o, none⟩) (os.take i) (gs.take i) := by
          refine ⟨?_, fun x hx => (HG.out.ext hu).rr x (List.mem_of_mem_take hx), ?_⟩
          · rw [hl]; exact (HG.out.row.ext hu).take (Nat.le_of_lt hlt)
          · rw [List.map_take, HG.out.om]
        have h2 := Maker_c (c := c) h1 (by omega) (fun g hg => by have := (HB.out g (List.mem_of_mem_take hg)).1; omega) t
        rw [hl] at h2
        exact h2
      have q0 : wr.cell? ⟨bg, o + i * 4, none⟩ = some (.slice tA G.targets.length tc) := c0 ⟨wr, XR.out⟩
      have q1 : wr.cell? ⟨bg, o + i * 4 + 1, none⟩ = some (.slice nA G.needs.length nc) := c1 ⟨wr, XR.out⟩
      have q2 : wr.cell? ⟨bg, o + i * 4 + 2, none⟩ = some (.slice cA G.cmds.length cc) := c2 ⟨wr, XR.out⟩
      have q3 : wr.cell? ⟨bg, o + i * 4 + 3, none⟩ = some (.bool G.phony) := c3 ⟨wr, XR.out⟩
      clear c0 c1 c2 c3 cs hox hss hgi
      go_upto_region 5 with fail
      obtain ⟨w2, hw2⟩ : ∃ u, u = wr.alloc (.cells #[.slice tA G.targets.length tc, .slice nA G.needs.length nc, .slice cA G.cmds.length cc, .bool G.phony] grpT) := ⟨_, rfl⟩
      obtain ⟨b7, hb7⟩ : ∃ g, g = wr.heap.size := ⟨_, rfl⟩
      rw [← hw2, ← hb7]
      have x2 : Ext wr w2 := by rw [hw2]; exact (Only.refl No _).alloc _
      have B7 : Hid (Cs w2 b7 grpT #[.slice tA G.targets.length tc, .slice nA G.needs.length nc, .slice cA G.cmds.length cc, .bool G.phony]) := by rw [hw2, hb7]; exact Cs.new _ _ _
      have C2 := Lib.hid (C0.out.keep x2 id)
      have X2 := Lib.hid (XR.out.then_ext x2)
      have hul := U0.out.len
      have y0 : w2.cell? ⟨g5, i, none⟩ = some (.int .i64 (up.getD i 0 : Nat)) := by rw [C2.out.cell i]; exact upV_get (by omega)
      have z0 := C2.out.frozen i
      clear hw2 hb7 x2 q0 q1 q2 q3 C0
      go_upto_region 6 with fail
      obtain ⟨w3, hw3⟩ : ∃ u, u = w2.setCell ⟨g5, i, none⟩ (.int .i64 (i : Int)) := ⟨_, rfl⟩
      rw [← hw3]
      have C3 : Hid (Cs w3 g5 intT (upV (up.set i i))) := by rw [hw3]; exact C2.out.ups i i
      have O3 : Only (fun q => q = g5) w2 w3 := by rw [hw3]; exact (Only.refl _ _).at_ i _
      have X3 : Hid (Ext w w3) := X2.out.trans O3 fun q hq e => by have e : q = g5 := e; have := HG5.out; omega
      have B3 := Lib.hid (B7.out.keep O3 (fun e => Cs.ne_ B7.out C2.out (by decide) e))
      have U3 := Lib.hid (U0.out.new hlt)
      have k1 : w3.cell? ⟨b7, 1, none⟩ = some (.slice nA G.needs.length nc) := B3.out.cell 1
      clear hw3 O3 y0 z0 C2 X2 B7 hul U0
      go_wp2_with fail
      go_loopw [35] (fun j wr => ∃ k : Nat, k ≤ G.needs.length ∧ j = .int .i64 k ∧ ∃ up : List Nat, Cs wr g5 intT (upV up) ∧ UpI gs.length (i + 1) (edgesTo gs st i ++ (G.needs.take k).filterMap (edgeF gs st i)) up ∧ Ext w wr) (fun j _ => G.needs.length - (intOf j).toNat)
      case atStart => exact ⟨0, Nat.zero_le _, rfl, _, C3.out, by simpa using U3.out, X3.out⟩
      case round =>
        clear C3 U3 X3 B3 k1 XR
        obtain ⟨k, hk, rfl, up, hC, hU, hx⟩ := hrel
        have C4 := Lib.hid hC
        have U4 := Lib.hid hU
        have XR := Lib.hid hx
        clear hC hU hx
        by_cases hlk : k < G.needs.length
        · obtain ⟨bn, on, t, rfl, ht, ct⟩ := strs_get HN.out hlk
          have e1 : wr.cell? ⟨bn, on + k, none⟩ = some (S t) := ct ⟨wr, XR.out⟩
          have HTk := Lib.hid (take_fm (gs := gs) (st := st) (i := i) ht)
          have HM2 := Lib.hid (HMk.out wr XR.out t)
          clear ht ct
          go_wp2_with fail
          refine HM2.out.mono ?_
          rintro e u5 ⟨rfl, hx⟩
          have X5 := Lib.hid (XR.out.then_ext hx)
          have C5 := Lib.hid (C4.out.keep hx id)
          have e2 := CS.out u5 X5.out
          clear hx HM2 e1 C4 XR
          cases hmf : makerF (gs.take i) t with
          | none =>
            rw [show idxI none = (-1 : Int) from rfl]
            have HE0 := Lib.hid (edgeF_none (st := st) hmf)
            clear hmf
            cases s with
            | false =>
              go_wp2_with fail
              go_roundw
              case rel => exact ⟨k + 1, by omega, by go_num, up, C5.out, by rw [HTk.out, HE0.out]; simpa using U4.out, X5.out⟩
              case measure => simp [intOf]; omega
            | true =>
              go_wp2_with fail
              go_roundw
              case rel => exact ⟨k + 1, by omega, by go_num, up, C5.out, by rw [HTk.out, HE0.out]; simpa using U4.out, X5.out⟩
              case measure => simp [intOf]; omega
          | some q =>
            have hq : q < i := by have := makerF_lt hmf; rw [List.length_take] at this; omega
            have HEs := Lib.hid (edgeF_some (st := st) hmf)
            rw [show idxI (some q) = (q : Int) from rfl]
            have t1 : decide ((0 : Int) ≤ (q : Int)) = true := by rw [decide_eq_true_iff]; omega
            clear hmf
            cases s with
            | false =>
              have HE0 : Hid (edgeF gs st i t = none) := edgeF_off Hsi.out
              go_wp2_with fail
              go_roundw
              case rel => exact ⟨k + 1, by omega, by go_num, up, C5.out, by rw [HTk.out, HE0.out]; simpa using U4.out, X5.out⟩
              case measure => simp [intOf]; omega
            | true =>
              obtain ⟨b', o', s2, e, hs2, cq⟩ := bos_get HS.out (show q < gs.length by omega)
              obtain ⟨rfl, rfl⟩ : bs = b' ∧ so = o' := by
                injection e with e
                injection e with e1 e2
                exact ⟨e1, e2⟩
              have Hsq := Lib.hid (stB_at hs2)
              have e3 : u5.cell? ⟨bs, so + q, none⟩ = some (.bool s2) := cq ⟨u5, X5.out⟩
              clear e hs2 cq
              cases s2 with
              | false =>
                have HE0 : Hid (edgeF gs st i t = none) := by rw [Hid, HEs.out, Hsi.out, Hsq.out]; rfl
                go_wp2_with fail
                go_roundw
                case rel => exact ⟨k + 1, by omega, by go_num, up, C5.out, by rw [HTk.out, HE0.out]; simpa using U4.out, X5.out⟩
                case measure => simp [intOf]; omega
              | true =>
                have HE0 : Hid (edgeF gs st i t = some (i, q)) := by rw [Hid, HEs.out, Hsi.out, Hsq.out]; rfl
                have hul := Lib.hid U4.out.len
                have HR1 := Lib.hid (root_c C5.out hul.out (by omega) U4.out.low i hlt gs.length)
                go_wp2_with fail
                refine HR1.out.mono ?_
                rintro e u6 ⟨rfl, hx⟩
                have X6 := Lib.hid (X5.out.then_ext hx)
                have C6 := Lib.hid (C5.out.keep hx id)
                have HR2 := Lib.hid (root_c C6.out hul.out (by omega) U4.out.low q (by omega) gs.length)
                clear hx HR1 X5 C5
                go_wp2_with fail
                refine HR2.out.mono ?_
                rintro e u7 ⟨rfl, hx⟩
                have X7 := Lib.hid (X6.out.then_ext hx)
                have C7 := Lib.hid (C6.out.keep hx id)
                have U7 := Lib.hid (U4.out.uni (e := (i, q)) (Nat.lt_succ_self i) (Nat.lt_succ_of_lt hq))
                have la := rootA_le U4.out.low (show i < up.length by rw [hul.out]; exact hlt)
                have lb := rootA_le U4.out.low (show q < up.length by rw [hul.out]; omega)
                have hun : Hid (uniF up (i, q) = up.set (max (rootA up i) (rootA up q)) (min (rootA up i) (rootA up q))) := rfl
                generalize rootA up i = ra at la hun ⊢
                generalize rootA up q = rb at lb hun ⊢
                clear hx HR2 X6 C6
                have hmx := run_max_nat (P := Tryz.prog) ra rb
                have hmn := run_min_nat (P := Tryz.prog) ra rb
                have hmxl : max ra rb < gs.length := by omega
                generalize max ra rb = mx at hun hmx hmxl
                generalize min ra rb = mn at hun hmn
                have y0 : u7.cell? ⟨g5, mx, none⟩ = some (.int .i64 (up.getD mx 0 : Nat)) := by rw [C7.out.cell mx]; exact upV_get (by rw [hul.out]; exact hmxl)
                have z0 := C7.out.frozen mx
                go_upto_region 13 with fail
                obtain ⟨w8, hw8⟩ : ∃ u, u = u7.setCell ⟨g5, mx, none⟩ (.int .i64 (mn : Int)) := ⟨_, rfl⟩
                rw [← hw8]
                have C8 : Hid (Cs w8 g5 intT (upV (uniF up (i, q)))) := by rw [hw8, hun.out]; exact C7.out.ups mx mn
                have X8 : Hid (Ext w w8) := X7.out.trans (show Only (fun b => b = g5) u7 w8 by rw [hw8]; exact (Only.refl _ _).at_ mx _) fun b hb e => by have e : b = g5 := e; have := HG5.out; omega
                clear hw8 y0 z0 hmx hmn
                go_wp2_with fail
                go_roundw
                case rel => exact ⟨k + 1, by omega, by go_num, _, C8.out, by rw [HTk.out, HE0.out, Option.toList_some, ← List.append_assoc]; exact U7.out, X8.out⟩
                case measure => simp [intOf]; omega
        · obtain rfl : k = G.needs.length := by omega
          have U5 : Hid (UpI gs.length (i + 1) (edgesTo gs st (i + 1)) up) := by
            have := U4.out
            rw [List.take_of_length_le (Nat.le_refl _), ← HEd.out] at this
            exact this
          go_wp2_with fail
          go_roundw
          case rel => exact ⟨i + 1, by omega, by go_num, up, C4.out, U5.out, XR.out⟩
          case measure => simp [intOf]; omega
    · obtain rfl : i = gs.length := by omega
      have HOk := Lib.hid U0.out.fin
      have hul := Lib.hid U0.out.len
      have HLs := Lib.hid (LstOk.of_up HOk.out hul.out)
      have HLow := Lib.hid HOk.out.low
      rename World => wb
      have HRt : Hid (∀ u, Ext wb u → ∀ j, j < gs.length → Calls Tryz.prog 47 #[.slice (some ⟨g5, 0, none⟩) gs.length gs.length, .int .i64 (j : Int)] u fun e w' => e = .returned (.int .i64 (rootA up j : Nat)) ∧ Ext u w') := fun u hu j hj => root_c (C0.out.keep hu id) hul.out (by omega) HLow.out j hj gs.length
      clear C0 U0 HOk hul hlt hi
      obtain ⟨r, hr⟩ : ∃ r, r = rootA up := ⟨_, rfl⟩
      rw [← hr] at HRt HLs
      clear hr HLow
      go_wp2_with fail
      go_loopw [13, 76] (fun ov i wr => ∃ k : Nat, k ≤ gs.length ∧ i = .int .i64 k ∧ ∃ (B : Option Addr) (d : Nat) (xs : List ((Option Addr × Nat) × List Nat)), ov = .slice B xs.length d ∧ Fresh unF uniT wb wr B d xs ∧ xs.map (·.2) = unitsTo gs st r k ∧ (∀ x ∈ xs, RbI (fun q => (Value.slice B xs.length d).ownBlock = some q) wr x.1.1 x.2)) (fun _ i _ => gs.length - (intOf i).toNat)
      case atStart => exact ⟨0, Nat.zero_le _, rfl, none, 0, [], rfl, Fresh.nil _ _ _ _ (Only.refl _ _), rfl, fun x hx => by cases hx⟩
      case round =>
        obtain ⟨i, hi, rfl, B, d, xs, rfl, hF, hM, hR⟩ := hrel
        have F0 := Lib.hid hF
        have HM := Lib.hid hM
        have HR := Lib.hid hR
        have XB := Lib.hid hF.ext
        have hxl : xs.length ≤ 10 := by
          have h1 := congrArg List.length hM
          rw [List.length_map, unitsTo] at h1
          have h2 := List.length_filterMap_le (unit1 gs st r) (List.range i)
          rw [List.length_range] at h2
          omega
        clear hF hM hR
        by_cases hlt : i < gs.length
        · obtain ⟨bs, so, s, rfl, hss, cs⟩ := bos_get HS.out hlt
          have Hsi := Lib.hid (stB_at hss)
          have e1 : wr.cell? ⟨bs, so + i, none⟩ = some (.bool s) := cs ⟨wr, XR.out.then_ext XB.out⟩
          have e1x : ∀ ξ : X wr No, ξ.v.cell? ⟨bs, so + i, none⟩ = some (.bool s) := fun ξ => cs ⟨ξ.v, (XR.out.then_ext XB.out).then_ext ξ.h⟩
          have HU := Lib.hid (unitsTo_succ gs st r i)
          clear hss cs
          cases s with
          | false =>
            have HU2 : Hid (unitsTo gs st r (i + 1) = unitsTo gs st r i) := by rw [Hid, HU.out, unit1_skip HLs.out (.inl Hsi.out)]; simp
            go_wp2_with fail
            go_roundw
            case rel => exact ⟨i + 1, by omega, by go_num, B, d, xs, rfl, F0.out, by rw [HU2.out]; exact HM.out, HR.out⟩
            case measure => simp [intOf]; omega
          | true =>
            have HR1 := Lib.hid (HRt.out wr XB.out i hlt)
            have HSk := Lib.hid (fun h => unit1_skip HLs.out (i := i) (.inr h))
            have hri : Hid (r i = r i) := rfl
            generalize r i = ri at HR1 HSk
            go_upto_region 19 with fail
            refine Mix.wp_plain [8] (Cl wr No) (Cl.of (Only.refl _ _)) ?_
            (repeat' (first | (refine Mix.lex_quiet0 rfl rfl rfl ?_; intro K hK; go_big_quiet_op; go_big_quiet_on) | (refine Mix.lex_quietG rfl rfl rfl (by with_reducible rfl) rfl rfl ?_; intro K hK; go_big_quiet_op; go_big_quiet_on) | ((first | refine Mix.lex_skipT rfl rfl rfl (by with_reducible rfl) ?_ | refine Mix.lex_skipF rfl rfl rfl (by with_reducible rfl) ?_ | refine Mix.lex_skipU rfl rfl rfl (by with_reducible rfl) ?_); simp only [Act.put, List.setIfInBounds_toArray, List.set_cons_succ, List.set_cons_zero]) | (refine Mix.lex_part rfl rfl rfl rfl (fun hq => ?_) (fun hq => ?_) <;> (fail_if_success (guard_hyp hq :ₛ true = true)) <;> (fail_if_success (guard_hyp hq :ₛ false = false)) <;> first | (exfalso; cases hq; done) | (exfalso; simp only [decide_eq_true_eq, decide_eq_false_iff_not, beq_iff_eq, beq_eq_false_iff_ne, ne_eq, Int.not_lt, Int.not_le] at hq; omega) | simp only [Act.put, List.setIfInBounds_toArray, List.set_cons_succ, List.set_cons_zero])))
            ((first | refine Mix.lex_goes0 rfl rfl ?_ | refine Mix.lex_goesG rfl rfl rfl (by with_reducible rfl) rfl ?_); intro K hK; go_simp)
            refine HR1.out.mono ?_
            rintro e u5 ⟨rfl, hx⟩
            have X5 := Lib.hid hx
            refine ⟨_, rfl, hK _ _ (fun _ => Cl.of X5.out) ?_⟩
            clear hK K hx HR1 e1 e1x
            simp only [Act.put, List.setIfInBounds_toArray, List.set_cons_succ, List.set_cons_zero]
            by_cases he : ri = i
            · subst he
              (repeat' (first | (refine Mix.lex_quiet0 rfl rfl rfl ?_; intro K hK; go_big_quiet_op; go_big_quiet_on) | (refine Mix.lex_quietG rfl rfl rfl (by with_reducible rfl) rfl rfl ?_; intro K hK; go_big_quiet_op; go_big_quiet_on) | ((first | refine Mix.lex_skipT rfl rfl rfl (by with_reducible rfl) ?_ | refine Mix.lex_skipF rfl rfl rfl (by with_reducible rfl) ?_ | refine Mix.lex_skipU rfl rfl rfl (by with_reducible rfl) ?_); simp only [Act.put, List.setIfInBounds_toArray, List.set_cons_succ, List.set_cons_zero]) | (refine Mix.lex_part rfl rfl rfl rfl (fun hq => ?_) (fun hq => ?_) <;> (fail_if_success (guard_hyp hq :ₛ true = true)) <;> (fail_if_success (guard_hyp hq :ₛ false = false)) <;> first | (exfalso; cases hq; done) | (exfalso; simp only [decide_eq_true_eq, decide_eq_false_iff_not, beq_iff_eq, beq_eq_false_iff_ne, ne_eq, Int.not_lt, Int.not_le] at hq; omega) | simp only [Act.put, List.setIfInBounds_toArray, List.set_cons_succ, List.set_cons_zero])))
              refine Mix.lex_nil ?_
              have F5 := Lib.hid (F0.out.on X5.out)
              have HR5 : Hid (∀ x ∈ xs, RbI (fun q => (Value.slice B xs.length d).ownBlock = some q) u5 x.1.1 x.2) := fun x hx => (HR.out x hx).step (Only.any X5.out) fun _ e => .inl e
              have XB5 := Lib.hid (XB.out.then_ext X5.out)
              have XW5 := Lib.hid (XR.out.then_ext XB5.out)
              have HFB : Hid (∀ q, (Value.slice B xs.length d).ownBlock = some q → q < u5.heap.size) := fun q hq => by
                obtain ⟨_, hc⟩ := own_cs F5.out.own hq
                exact hc.lt
              clear F0 HR XB X5 HSk
              go_wp2_with fail
              go_loopw [15, 16, 93] (fun uv rv j wr => ∃ k : Nat, k ≤ gs.length ∧ j = .int .i64 k ∧ ∃ (C : Option Addr) (e : Nat) (ks : List Nat), uv = .slice C ks.length e ∧ ks = (List.range k).filter (fun k => stB st k && decide (r k = ri)) ∧ rv = .bool (realB gs ks) ∧ Fresh inF intT u5 wr C e ks) (fun _ _ j _ => gs.length - (intOf j).toNat)
              case atStart => exact ⟨0, Nat.zero_le _, rfl, none, 0, [], rfl, rfl, rfl, Fresh.nil _ _ _ _ (Only.refl _ _)⟩
              case round =>
                obtain ⟨k, hk, rfl, C, ce, ks, rfl, hks, rfl, hF⟩ := hrel
                have FU := Lib.hid hF
                have HKs := Lib.hid hks
                have hkl : ks.length ≤ k := by
                  rw [hks]
                  have := List.length_filter_le (fun k => stB st k && decide (r k = ri)) (List.range k)
                  rwa [List.length_range] at this
                clear hF hks
                by_cases hlk : k < gs.length
                · obtain ⟨b', o', s2, e, hs2, cq⟩ := bos_get HS.out hlk
                  obtain ⟨rfl, rfl⟩ : bs = b' ∧ so = o' := by
                    injection e with e
                    injection e with e1 e2
                    exact ⟨e1, e2⟩
                  have Hsk := Lib.hid (stB_at hs2)
                  have XK := Lib.hid (XW5.out.then_ext FU.out.ext)
                  have e1 : wr.cell? ⟨bs, so + k, none⟩ = some (.bool s2) := cq ⟨wr, XK.out⟩
                  have e1x : ∀ ξ : X wr No, ξ.v.cell? ⟨bs, so + k, none⟩ = some (.bool s2) := fun ξ => cq ⟨ξ.v, XK.out.then_ext ξ.h⟩
                  have HF1 := Lib.hid (filt_succ (fun k => stB st k && decide (r k = ri)) k)
                  clear e hs2 cq
                  cases s2 with
                  | false =>
                    have HF2 : Hid ((List.range (k + 1)).filter (fun k => stB st k && decide (r k = ri)) = ks) := by rw [Hid, HF1.out, ← HKs.out, Hsk.out]; simp
                    go_wp2_with fail
                    go_roundw
                    case rel => exact ⟨k + 1, by omega, by go_num, C, ce, ks, rfl, HF2.out.symm, rfl, FU.out⟩
                    case measure => simp [intOf]; omega
                  | true =>
                    have HR1 := Lib.hid (HRt.out wr (XB5.out.then_ext FU.out.ext) k hlk)
                    obtain ⟨rk, hrk⟩ : ∃ rk, rk = r k := ⟨_, rfl⟩
                    rw [← hrk] at HR1
                    have HRk := Lib.hid hrk
                    clear hrk
                    go_upto_region 25 with fail
                    refine Mix.wp_plain [7] (Cl wr No) (Cl.of (Only.refl _ _)) ?_
                    (repeat' (first | (refine Mix.lex_quiet0 rfl rfl rfl ?_; intro K hK; go_big_quiet_op; go_big_quiet_on) | (refine Mix.lex_quietG rfl rfl rfl (by with_reducible rfl) rfl rfl ?_; intro K hK; go_big_quiet_op; go_big_quiet_on) | ((first | refine Mix.lex_skipT rfl rfl rfl (by with_reducible rfl) ?_ | refine Mix.lex_skipF rfl rfl rfl (by with_reducible rfl) ?_ | refine Mix.lex_skipU rfl rfl rfl (by with_reducible rfl) ?_); simp only [Act.put, List.setIfInBounds_toArray, List.set_cons_succ, List.set_cons_zero]) | (refine Mix.lex_part rfl rfl rfl rfl (fun hq => ?_) (fun hq => ?_) <;> (fail_if_success (guard_hyp hq :ₛ true = true)) <;> (fail_if_success (guard_hyp hq :ₛ false = false)) <;> first | (exfalso; cases hq; done) | (exfalso; simp only [decide_eq_true_eq, decide_eq_false_iff_not, beq_iff_eq, beq_eq_false_iff_ne, ne_eq, Int.not_lt, Int.not_le] at hq; omega) | simp only [Act.put, List.setIfInBounds_toArray, List.set_cons_succ, List.set_cons_zero])))
                    ((first | refine Mix.lex_goes0 rfl rfl ?_ | refine Mix.lex_goesG rfl rfl rfl (by with_reducible rfl) rfl ?_); intro K hK; go_simp)
                    refine HR1.out.mono ?_
                    rintro e u6 ⟨rfl, hx⟩
                    have FU6 := Lib.hid (FU.out.on hx)
                    have X6 := Lib.hid hx
                    refine ⟨_, rfl, hK _ _ (fun _ => Cl.of X6.out) ?_⟩
                    clear hK K hx HR1 e1 e1x
                    simp only [Act.put, List.setIfInBounds_toArray, List.set_cons_succ, List.set_cons_zero]
                    by_cases he : rk = ri
                    · subst he
                      have HF2 : Hid ((List.range (k + 1)).filter (fun k => stB st k && decide (r k = rk)) = ks ++ [k]) := by rw [Hid, HF1.out, ← HKs.out, Hsk.out, ← HRk.out]; simp
                      (repeat' (first | (refine Mix.lex_quiet0 rfl rfl rfl ?_; intro K hK; go_big_quiet_op; go_big_quiet_on) | (refine Mix.lex_quietG rfl rfl rfl (by with_reducible rfl) rfl rfl ?_; intro K hK; go_big_quiet_op; go_big_quiet_on) | ((first | refine Mix.lex_skipT rfl rfl rfl (by with_reducible rfl) ?_ | refine Mix.lex_skipF rfl rfl rfl (by with_reducible rfl) ?_ | refine Mix.lex_skipU rfl rfl rfl (by with_reducible rfl) ?_); simp only [Act.put, List.setIfInBounds_toArray, List.set_cons_succ, List.set_cons_zero]) | (refine Mix.lex_part rfl rfl rfl rfl (fun hq => ?_) (fun hq => ?_) <;> (fail_if_success (guard_hyp hq :ₛ true = true)) <;> (fail_if_success (guard_hyp hq :ₛ false = false)) <;> first | (exfalso; cases hq; done) | (exfalso; simp only [decide_eq_true_eq, decide_eq_false_iff_not, beq_iff_eq, beq_eq_false_iff_ne, ne_eq, Int.not_lt, Int.not_le] at hq; omega) | simp only [Act.put, List.setIfInBounds_toArray, List.set_cons_succ, List.set_cons_zero])))
                      refine Mix.lex_nil ?_
                      obtain ⟨F2, hF2⟩ : ∃ F2 : Nat → Prop, F2 = fun q => (Value.slice C ks.length ce).ownBlock = some q := ⟨_, rfl⟩
                      have HFq := Lib.hid hF2
                      clear hF2
                      go_upto_region 26 with fail
                      refine Mix.wp_plain [2, 3] (Cl u6 F2) (Cl.of (Only.refl _ _)) ?_
                      (repeat' (refine Mix.lex_quiet0 rfl rfl rfl ?_; intro K hK; go_big_quiet_op; go_big_quiet_on))
                      ((first | refine Mix.lex_goes0 rfl rfl ?_ | refine Mix.lex_goesG rfl rfl rfl (by with_reducible rfl) rfl ?_); intro K hK; go_simp)
                      have F6 := Lib.hid (FU6.out.on ((Only.refl No u6).alloc (.cells #[.int .i64 (k : Int)] intT)))
                      refine hK _ _ (fun _ => Cl.of ((Only.refl F2 u6).alloc _)) ?_
                      clear hK K
                      simp only [Act.put, List.setIfInBounds_toArray, List.set_cons_succ, List.set_cons_zero]
                      refine Mix.lex_goes0 rfl rfl ?_
                      intro K hK
                      refine goes_append (v := .slice C ks.length ce) (n := ks.length) (xs := ks.flatMap inF.enc) int_ty rfl rfl rfl F6.out.own (rd_one u6 _ [.int .i64 (k : Int)]) (by simp [Value.oneCell']) (by omega) ?_
                      intro C' ce' w7 hown5 hgr5 hb5
                      have F7 : Hid (Fresh inF intT u5 w7 C' ce' (ks ++ [k])) := F6.out.grow (m := 1) (ys := [k]) rfl hown5 hgr5 hb5
                      have O7 : Hid (Only F2 u6 w7) := ((Only.refl F2 u6).alloc _).grown hgr5 fun g hg => .inr (by rw [HFq.out]; exact hg)
                      refine hK _ _ (fun _ => Cl.of O7.out) ?_
                      clear hK K hown5 hgr5 hb5
                      simp only [Act.put, List.setIfInBounds_toArray, List.set_cons_succ, List.set_cons_zero]
                      (repeat' (refine Mix.lex_quiet0 rfl rfl rfl ?_; intro K hK; go_big_quiet_op; go_big_quiet_on))
                      refine Mix.lex_nil ?_
                      obtain ⟨bg, og, ⟨⟨tA, tc, nA, nc, cA, cc⟩, G⟩, rfl, hox, _, _, _, c3⟩ := grps_get HG.out.row hlk
                      have hgi : gs[k]? = some G := by rw [← HG.out.om, List.getElem?_map, hox]; rfl
                      have Hph := Lib.hid (nphB_at hgi)
                      have q3 : w7.cell? ⟨bg, og + k * 4 + 3, none⟩ = some (.bool G.phony) := c3 ⟨w7, XW5.out.then_ext F7.out.ext⟩
                      generalize G.phony = ph at Hph q3
                      clear hox hgi c3
                      obtain ⟨rb, hrb⟩ : ∃ b, b = realB gs ks := ⟨_, rfl⟩
                      rw [← hrb]
                      have HRb := Lib.hid hrb
                      clear hrb
                      cases rb with
                      | true =>
                        have HR2 : Hid (realB gs (ks ++ [k]) = true) := by rw [Hid, realB_app, ← HRb.out]; rfl
                        go_wp2_with fail
                        go_roundw
                        case rel => exact ⟨k + 1, by omega, by go_num, C', ce', ks ++ [k], by simp, HF2.out.symm, by rw [HR2.out], F7.out⟩
                        case measure => simp [intOf]; omega
                      | false =>
                        cases ph with
                        | true =>
                          have HR2 : Hid (realB gs (ks ++ [k]) = false) := by rw [Hid, realB_app, ← HRb.out, Hph.out]; rfl
                          go_wp2_with fail
                          go_roundw
                          case rel => exact ⟨k + 1, by omega, by go_num, C', ce', ks ++ [k], by simp, HF2.out.symm, by rw [HR2.out], F7.out⟩
                          case measure => simp [intOf]; omega
                        | false =>
                          have HR2 : Hid (realB gs (ks ++ [k]) = true) := by rw [Hid, realB_app, ← HRb.out, Hph.out]; rfl
                          go_wp2_with fail
                          go_roundw
                          case rel => exact ⟨k + 1, by omega, by go_num, C', ce', ks ++ [k], by simp, HF2.out.symm, by rw [HR2.out], F7.out⟩
                          case measure => simp [intOf]; omega
                    · have t1 : decide ((rk : Int) = (ri : Int)) = false := by rw [decide_eq_false_iff_not]; omega
                      have t2 : ((rk : Int) == (ri : Int)) = false := by rw [beq_eq_false_iff_ne]; omega
                      have HF2 : Hid ((List.range (k + 1)).filter (fun k => stB st k && decide (r k = ri)) = ks) := by rw [Hid, HF1.out, ← HKs.out, Hsk.out, ← HRk.out]; simp [he]
                      (repeat' (first | (refine Mix.lex_quiet0 rfl rfl rfl ?_; intro K hK; go_big_quiet_op; go_big_quiet_on) | (refine Mix.lex_quietG rfl rfl rfl (by with_reducible rfl) rfl rfl ?_; intro K hK; go_big_quiet_op; go_big_quiet_on) | ((first | refine Mix.lex_skipT rfl rfl rfl (by with_reducible rfl) ?_ | refine Mix.lex_skipF rfl rfl rfl (by with_reducible rfl) ?_ | refine Mix.lex_skipU rfl rfl rfl (by with_reducible rfl) ?_); simp only [Act.put, List.setIfInBounds_toArray, List.set_cons_succ, List.set_cons_zero]) | (refine Mix.lex_part rfl rfl rfl rfl (fun hq => ?_) (fun hq => ?_) <;> (fail_if_success (guard_hyp hq :ₛ true = true)) <;> (fail_if_success (guard_hyp hq :ₛ false = false)) <;> first | (exfalso; cases hq; done) | (exfalso; simp only [decide_eq_true_eq, decide_eq_false_iff_not, beq_iff_eq, beq_eq_false_iff_ne, ne_eq, Int.not_lt, Int.not_le] at hq; omega) | simp only [Act.put, List.setIfInBounds_toArray, List.set_cons_succ, List.set_cons_zero])))
                      refine Mix.lex_nil ?_
                      go_wp2_with fail
                      go_roundw
                      case rel => exact ⟨k + 1, by omega, by go_num, C, ce, ks, rfl, HF2.out.symm, rfl, FU6.out⟩
                      case measure => simp [intOf]; omega
                · obtain rfl : k = gs.length := by omega
                  have HKs2 : Hid (ks = unitAt gs.length st r ri) := HKs.out
                  obtain ⟨rb, hrb⟩ : ∃ b, b = realB gs ks := ⟨_, rfl⟩
                  rw [← hrb]
                  have HRb := Lib.hid hrb
                  clear hrb
                  cases rb with
                  | false =>
                    have HU2 : Hid (unitsTo gs st r (ri + 1) = unitsTo gs st r ri) := by
                      rw [Hid, HU.out, unit1, ← HKs2.out, ← HRb.out]; simp
                    go_wp2_with fail
                    go_roundw
                    case rel => exact ⟨ri + 1, by omega, by go_num, B, d, xs, rfl, F5.out.on FU.out.ext, by rw [HU2.out]; exact HM.out, fun x hx => (HR5.out x hx).step (Only.any FU.out.ext) fun _ e => .inl e⟩
                    case measure => simp [intOf]; omega
                  | true =>
                    have HU2 : Hid (unitsTo gs st r (ri + 1) = unitsTo gs st r ri ++ [ks]) := by
                      rw [Hid, HU.out, unit1, ← HKs2.out, ← HRb.out]; simp
                    obtain ⟨F2, hF2⟩ : ∃ F2 : Nat → Prop, F2 = fun q => (Value.slice B xs.length d).ownBlock = some q := ⟨_, rfl⟩
                    have HFq := Lib.hid hF2
                    have HRI : Hid (RbI F2 wr C ks) := RbI.fresh FU.out (by rw [hF2]; exact HFB.out)
                    clear hF2
                    have X6 := Lib.hid FU.out.ext
                    go_upto_region 30 with fail
                    refine Mix.wp_plain [2, 3] (Cl wr F2) (Cl.of (Only.refl _ _)) ?_
                    (repeat' (refine Mix.lex_quiet0 rfl rfl rfl ?_; intro K hK; go_big_quiet_op; go_big_quiet_on))
                    ((first | refine Mix.lex_goes0 rfl rfl ?_ | refine Mix.lex_goesG rfl rfl rfl (by with_reducible rfl) rfl ?_); intro K hK; go_simp)
                    have xa : Ext wr (wr.alloc (.cells #[.slice C ks.length ce] uniT)) := (Only.refl No wr).alloc _
                    have F6 := Lib.hid (F5.out.on (X6.out.then_ext xa))
                    refine hK _ _ (fun _ => Cl.of ((Only.refl F2 wr).alloc _)) ?_
                    clear hK K
                    simp only [Act.put, List.setIfInBounds_toArray, List.set_cons_succ, List.set_cons_zero]
                    refine Mix.lex_goes0 rfl rfl ?_
                    intro K hK
                    refine goes_append (v := .slice B xs.length d) (n := xs.length) (xs := xs.flatMap unF.enc) un_ty rfl rfl rfl F6.out.own (rd_one wr _ [.slice C ks.length ce]) (by simp [Value.oneCell']) (by omega) ?_
                    intro B' d' w7 hown5 hgr5 hb5
                    have F7 : Hid (Fresh unF uniT wb w7 B' d' (xs ++ [((C, ce), ks)])) := F6.out.grow (m := 1) (ys := [((C, ce), ks)]) rfl hown5 hgr5 hb5
                    have O7 : Hid (Only F2 wr w7) := ((Only.refl F2 wr).alloc _).grown hgr5 fun g hg => .inr (by rw [HFq.out]; exact hg)
                    have HS7 : Hid (∀ q, (Value.slice B' (xs ++ [((C, ce), ks)]).length d').ownBlock = some q → F2 q ∨ wr.heap.size ≤ q) := fun q hq => by
                      rw [List.length_append] at hq
                      rcases hb5 with hb | hb
                      · exact .inl (by rw [HFq.out]; exact hb.symm.trans hq)
                      · have h3 : some (wr.alloc (.cells #[.slice C ks.length ce] uniT)).heap.size = some q := hb.symm.trans hq
                        injection h3 with h3
                        exact .inr (by rw [← h3]; exact xa.size)
                    refine hK _ _ (fun _ => Cl.of O7.out) ?_
                    clear hK K hown5 hgr5 hb5 xa
                    simp only [Act.put, List.setIfInBounds_toArray, List.set_cons_succ, List.set_cons_zero]
                    (repeat' (refine Mix.lex_quiet0 rfl rfl rfl ?_; intro K hK; go_big_quiet_op; go_big_quiet_on))
                    refine Mix.lex_nil ?_
                    go_wp2_with fail
                    go_roundw
                    case rel =>
                      refine ⟨ri + 1, by omega, by go_num, B', d', xs ++ [((C, ce), ks)], by simp, F7.out, by rw [HU2.out, List.map_append, HM.out]; rfl, fun x hx => ?_⟩
                      rcases List.mem_append.1 hx with hx | hx
                      · exact ((HR5.out x hx).step (Only.any X6.out) (fun q e => .inl (by rw [HFq.out] at e; exact e)) : RbI F2 wr x.1.1 x.2).step O7.out HS7.out
                      · obtain rfl := List.mem_singleton.1 hx
                        exact HRI.out.step O7.out HS7.out
                    case measure => simp [intOf]; omega
            · have t1 : decide ((ri : Int) = (i : Int)) = false := by rw [decide_eq_false_iff_not]; omega
              have t2 : ((ri : Int) == (i : Int)) = false := by rw [beq_eq_false_iff_ne]; omega
              have HU2 : Hid (unitsTo gs st r (i + 1) = unitsTo gs st r i) := by rw [Hid, HU.out, HSk.out he]; simp
              (repeat' (first | (refine Mix.lex_quiet0 rfl rfl rfl ?_; intro K hK; go_big_quiet_op; go_big_quiet_on) | (refine Mix.lex_quietG rfl rfl rfl (by with_reducible rfl) rfl rfl ?_; intro K hK; go_big_quiet_op; go_big_quiet_on) | ((first | refine Mix.lex_skipT rfl rfl rfl (by with_reducible rfl) ?_ | refine Mix.lex_skipF rfl rfl rfl (by with_reducible rfl) ?_ | refine Mix.lex_skipU rfl rfl rfl (by with_reducible rfl) ?_); simp only [Act.put, List.setIfInBounds_toArray, List.set_cons_succ, List.set_cons_zero]) | (refine Mix.lex_part rfl rfl rfl rfl (fun hq => ?_) (fun hq => ?_) <;> (fail_if_success (guard_hyp hq :ₛ true = true)) <;> (fail_if_success (guard_hyp hq :ₛ false = false)) <;> first | (exfalso; cases hq; done) | (exfalso; simp only [decide_eq_true_eq, decide_eq_false_iff_not, beq_iff_eq, beq_eq_false_iff_ne, ne_eq, Int.not_lt, Int.not_le] at hq; omega) | simp only [Act.put, List.setIfInBounds_toArray, List.set_cons_succ, List.set_cons_zero])))
              refine Mix.lex_nil ?_
              go_wp2_with fail
              go_roundw
              case rel => exact ⟨i + 1, by omega, by go_num, B, d, xs, rfl, F0.out.on X5.out, by rw [HU2.out]; exact HM.out, fun x hx => (HR.out x hx).step (Only.any X5.out) fun _ e => .inl e⟩
              case measure => simp [intOf]; omega
        · obtain rfl : i = gs.length := by omega
          have hxl2 : xs.length = (unitsTo gs st r gs.length).length := by rw [← HM.out, List.length_map]
          have HXL := Lib.hid hxl2
          clear hxl2
          go_wp2_with fail
          go_ret
          refine ⟨B, d, xs, r, HLs.out, by rw [show (unitsF gs st r).length = xs.length from HXL.out.symm]; rfl, ⟨?_, fun x hx => HR.out x hx _ (Only.refl _ _), HM.out⟩, XR.out.then_ext XB.out⟩
          rw [show (unitsF gs st r).length = xs.length from HXL.out.symm]
          exact F0.out.row (by decide)
end Go.Proofs.YtnhaekifcieeoaaGreatDoor
