/- Put together: Un2, Un4, Unk, Pl2, Stl, Sun, Pl3, Plc. -/
import Derived.Test.YtnhaekifcieeoaaGreatDoorPk10
import Derived.Test.YtnhaekifcieeoaaGreatDoorPk11
import Derived.Test.YtnhaekifcieeoaaGreatDoorPk15
namespace Go.Proofs.YtnhaekifcieeoaaGreatDoor
open Go Go.RowKit
def klast (K : List (Str × Rcd)) : Str → Option Rcd := K.foldl (fun f p s => if s = p.1 then some p.2 else f s) fun _ => none
theorem klast_snoc (K : List (Str × Rcd)) (p : Str × Rcd) : klast (K ++ [p]) = fun s => if s = p.1 then some p.2 else klast K s := by
  unfold klast
  rw [List.foldl_append]
  rfl
theorem kpF_put {F : Str → Option (RcdV × Rcd)} (s : Str) (V : RcdV) (R : Rcd) : kpF (fun k => if k = s then some (V, R) else F k) = fun k => if k = s then some (rcdV V R) else kpF F k := by
  funext k
  show Option.map _ (if k = s then some (V, R) else F k) = _
  split <;> rfl
structure KmR (w : World) (b n : Nat) (K : List (Str × Rcd)) (F : Str → Option (RcdV × Rcd)) : Prop where
  m : MapR w b n (kpF F)
  r : KpR w F
  k : ∀ s, (F s).map (·.2) = klast K s
theorem KmR.ext {w v : World} {b n : Nat} {K : List (Str × Rcd)} {F : Str → Option (RcdV × Rcd)} (h : KmR w b n K F) (hx : Ext w v) : KmR v b n K F := ⟨h.m.keep hx id, h.r.ext hx, h.k⟩
theorem MapR.row {w v : World} {b n : Nat} {f : Str → Option Value} (h : MapR w b n f) (hx : Only (fun q => q = b) w v) {α : Type} {T : Flat α} {A : Option Addr} {m : Nat} {xs : List α} (hs : SlR T w A m xs) : SlR T v A m xs :=
  ⟨hs.1, fun h0 => by
    obtain ⟨g, o, e, hg, hc⟩ := hs.2 h0
    exact ⟨g, o, e, Nat.lt_of_lt_of_le hg hx.size, fun k x hk j u hu => h.cell hx hg (hc k x hk j u hu)⟩⟩
theorem MapR.rcd {w v : World} {b n : Nat} {f : Str → Option Value} (h : MapR w b n f) (hx : Only (fun q => q = b) w v) {V : RcdV} {r : Rcd} (hs : RcdR w V r) : RcdR v V r := ⟨h.row hx hs.c, h.row hx hs.n, h.row hx hs.o⟩
theorem KmR.put {w : World} {b n : Nat} {K : List (Str × Rcd)} {F : Str → Option (RcdV × Rcd)} (h : KmR w b n K F) (hn : n < maxLen) (s : Str) (hs : s.length ≤ maxLen) {V : RcdV} {R : Rcd} (hr : RcdR w V R) (hl : R.cmds.length ≤ 10000 ∧ R.needs.length ≤ 10000 ∧ R.out.length ≤ 10000) :
    ∃ w' F', (Instr.mapUpdate rmapT (.map (some b)) (S s) (rcdV V R)).run Tryz.prog w = .ok () w' ∧ KmR w' b (n + 1) (K ++ [(s, R)]) F' ∧ Only (fun q => q = b) w w' := by
  obtain ⟨w', h1, h2, h3⟩ := h.m.put hn s hs (rcdV V R)
  refine ⟨w', fun k => if k = s then some (V, R) else F k, h1, ⟨?_, fun t p e => ?_, fun t => ?_⟩, h3⟩
  · rw [kpF_put]; exact h2
  · by_cases ht : t = s
    · have e : (if t = s then some (V, R) else F t) = some p := e
      rw [if_pos ht] at e
      cases e
      exact ⟨h.m.rcd h3 hr, hl⟩
    · have e : (if t = s then some (V, R) else F t) = some p := e
      rw [if_neg ht] at e
      obtain ⟨q1, q2⟩ := h.r t p e
      exact ⟨h.m.rcd h3 q1, q2⟩
  · rw [klast_snoc]
    show (if t = s then some (V, R) else F t).map _ = if t = s then some R else klast K t
    by_cases ht : t = s
    · rw [if_pos ht, if_pos ht]; rfl
    · rw [if_neg ht, if_neg ht]; exact h.k t
def UnitRes (w : World) (R : (List File × List (Str × Rcd)) × Int) (e : Ending) (w' : World) : Prop :=
  Ext w w' ∧ ((R.2 = 0 ∧ ∃ (A : Option Addr) (c b n : Nat) (F : Str → Option (RcdV × Rcd)), e = .returned (.tuple #[.slice A R.1.1.length c, .map (some b), .nilIface]) ∧ SlR fileF w' A R.1.1.length R.1.1 ∧ KmR w' b n R.1.2 F ∧ w.heap.size ≤ b ∧ n ≤ 1000) ∨
    (R.2 ≠ 0 ∧ e = .returned (.tuple #[.slice none 0 0, .map none, errV R.2])))
theorem unitM_step {gs : List Grp} {u : List Nat} {i k : Nat} {G : Grp} {l out : List File} {K : List (Str × Rcd)} (hk : u[i]? = some k) (hG : gs[k]? = some G) :
    unitM gs (u.drop i) l out K = if G.phony = true then unitM gs (u.drop (i + 1)) l out K else if (oneF l G).2 ≠ 0 then (([], []), (oneF l G).2)
      else unitM gs (u.drop (i + 1)) (putAll (oneF l G).1.1 l) (putAll (oneF l G).1.1 out) (K ++ [(G.targets.headD [], (oneF l G).1.2)]) := by
  obtain ⟨h1, h2⟩ := List.getElem?_eq_some_iff.1 hk
  rw [List.drop_eq_getElem_cons h1, h2, unitM, hG]
theorem putAll_snoc (own l : List File) (f : File) : putAll (own ++ [f]) l = putL fk f (putAll own l) := by
  unfold putAll
  rw [List.foldl_append]
  rfl
theorem putAll_take {own : List File} {j : Nat} {f : File} (hf : own[j]? = some f) (l : List File) : putAll (own.take (j + 1)) l = putL fk f (putAll (own.take j) l) := by
  rw [List.take_add_one, hf]
  exact putAll_snoc _ _ _
theorem oneF_fit {l : List File} {G : Grp} (hb : GBu G) (hf : FBu l) : Rise fk (oneF l G).1.1 ∧ (oneF l G).1.1.length ≤ 100 ∧ (∀ f ∈ (oneF l G).1.1, f.1.length ≤ 10000 ∧ f.2.length ≤ 1000) ∧ (oneF l G).1.2.Lim := by
  have h1 := allF_fit l G
  have h2 := allF_names (xs := l) hb.lt
  have h0 : rcd0.Lim := ⟨by decide, by decide, by decide, (fun x hx => by cases hx), (fun x hx => by cases hx), (fun x hx => by cases hx)⟩
  have hol : (allF l G).1.length ≤ 100 := Nat.le_trans h1.2.1 hb.c
  unfold oneF
  split
  · exact ⟨List.Pairwise.nil, Nat.zero_le _, (fun f hf => by cases hf), h0⟩
  · split
    · exact ⟨List.Pairwise.nil, Nat.zero_le _, (fun f hf => by cases hf), h0⟩
    · exact ⟨h1.1, hol, h2, recOf_lim hf.x h2 hb.c hb.n hol (fun x hx => by have := hb.lc x hx; omega) hb.ln⟩
theorem FBu.put {l : List File} (h : FBu l) {own : List File} (ho : ∀ f ∈ own, f.1.length ≤ 10000 ∧ f.2.length ≤ 1000) (hn : l.length + own.length ≤ 1000) : FBu (putAll own l) :=
  ⟨Nat.le_trans (putAll_len own l) hn, putAll_rise own h.r, fun f hf => (putAll_mem own hf).elim (ho f) (h.x f)⟩
set_option maxRecDepth 100000 in
set_option maxHeartbeats 1000000 in
theorem Unit_c {w : World} (hE : EnvT w) {A : Option Addr} {c : Nat} {os : List (RulA × Grp)} {gs : List Grp} (hG : GrpsR w A os gs) (hb : ∀ g ∈ gs, GBu g ∧ 1 ≤ g.targets.length ∧ g.cmds.length ≤ 3)
    {uA : Option Addr} {uc : Nat} {u : List Nat} (hu : SlR inF w uA u.length u) (hun : u.length ≤ 10) (hul : ∀ k ∈ u, k < gs.length) {lA : Option Addr} {lc : Nat} {l : List File} (hl : SlR fileF w lA l.length l) (hf : FBu l) (hln : l.length ≤ 500) :
    Calls Tryz.prog 24 #[.slice A gs.length c, .slice uA u.length uc, .slice lA l.length lc] w (UnitRes w (unitM gs u l [] [])) := by
  have HG := Lib.hid hG
  have HB := Lib.hid hb
  have HU := Lib.hid hu
  have HUl := Lib.hid hul
  have HE := Lib.hid hE
  have HL := Lib.hid hl
  have HF := Lib.hid hf
  have hmm := @run_makeMap Tryz.prog
  obtain ⟨w1, hw1⟩ : ∃ u, u = w.alloc (.map #[] 0) := ⟨_, rfl⟩
  obtain ⟨b, hbb⟩ : ∃ b, b = w.heap.size := ⟨_, rfl⟩
  have M1 : Hid (KmR w1 b 0 [] fun _ => none) := ⟨by rw [hw1, hbb]; exact MapR.made w, (fun s p e => by cases e), fun s => rfl⟩
  have X1 : Hid (Ext w w1) := by rw [hw1]; exact (Only.refl No w).alloc _
  have HBb : Hid (w.heap.size ≤ b) := Nat.le_of_eq hbb.symm
  clear hG hb hu hul hE hl hf
  go_enter Tryz.func24, Tryz.ntmps24
  go_upto_region 3 with fail
  rw [← hw1, ← hbb]
  clear hw1 hbb hmm
  go_wp2_with fail
  go_loopw [22, 9, 2] (fun iv ov lv wr => ∃ i : Nat, i ≤ u.length ∧ iv = .int .i64 i ∧ ∃ (oA : Option Addr) (oc : Nat) (O : List File) (LA : Option Addr) (Lc : Nat) (L : List File) (K : List (Str × Rcd)) (F : Str → Option (RcdV × Rcd)) (n : Nat),
    ov = .slice oA O.length oc ∧ lv = .slice LA L.length Lc ∧ SlR fileF wr oA O.length O ∧ SlR fileF wr LA L.length L ∧ Rise fk O ∧ O.length ≤ 3 * i ∧ FBu L ∧ L.length ≤ l.length + 3 * i ∧ KmR wr b n K F ∧ n ≤ i ∧ unitM gs (u.drop i) L O K = unitM gs u l [] [] ∧ Ext w wr) (fun iv _ _ _ => u.length - (intOf iv).toNat)
  case atStart => exact ⟨0, Nat.zero_le _, rfl, none, 0, [], lA, lc, l, [], _, 0, rfl, rfl, SlR.none_, HL.out.ext X1.out, List.Pairwise.nil, Nat.le_refl _, HF.out, by omega, M1.out, Nat.le_refl _, rfl, X1.out⟩
  case round =>
    clear M1 X1 HL HF
    obtain ⟨i, hi, rfl, oA, oc, O, LA, Lc, L, K, F, n, rfl, rfl, hO, hL, hRO, hOl, hFL, hLl, hM, hni, hEq, hx⟩ := hrel
    have HO := Lib.hid hO
    have HL := Lib.hid hL
    have HRO := Lib.hid hRO
    have HFL := Lib.hid hFL
    have HM := Lib.hid hM
    have HEq := Lib.hid hEq
    have XR := Lib.hid hx
    clear hO hL hRO hFL hM hEq hx
    by_cases hlt : i < u.length
    · obtain ⟨bu, ou, k, rfl, huk, cu⟩ := ins_get HU.out hlt
      have hkg : k < gs.length := HUl.out k (List.mem_of_getElem? huk)
      obtain ⟨bg, o, ⟨⟨tA, tc, nA, nc, cA, cc⟩, G⟩, rfl, hox, c0, c1, c2, c3⟩ := grps_get HG.out.row hkg
      have hgi : gs[k]? = some G := by rw [← HG.out.om, List.getElem?_map, hox]; rfl
      obtain ⟨hGb, hG1, hG3⟩ := HB.out G (List.mem_of_getElem? hgi)
      have HGb := Lib.hid hGb
      have HGr : Hid (SlR strF w tA G.targets.length G.targets ∧ SlR strF w nA G.needs.length G.needs ∧ SlR strF w cA G.cmds.length G.cmds) := HG.out.rr _ (List.mem_of_getElem? hox)
      have HSt := Lib.hid (unitM_step (l := L) (out := O) (K := K) huk hgi)
      have e0 : wr.cell? ⟨bu, ou + i, none⟩ = some (.int .i64 (k : Int)) := cu ⟨wr, XR.out⟩
      have q0 : wr.cell? ⟨bg, o + k * 4, none⟩ = some (.slice tA G.targets.length tc) := c0 ⟨wr, XR.out⟩
      have q1 : wr.cell? ⟨bg, o + k * 4 + 1, none⟩ = some (.slice nA G.needs.length nc) := c1 ⟨wr, XR.out⟩
      have q2 : wr.cell? ⟨bg, o + k * 4 + 2, none⟩ = some (.slice cA G.cmds.length cc) := c2 ⟨wr, XR.out⟩
      have q3 : wr.cell? ⟨bg, o + k * 4 + 3, none⟩ = some (.bool G.phony) := c3 ⟨wr, XR.out⟩
      clear cu c0 c1 c2 c3 hox hgi huk hGb
      go_upto_region 7 with fail
      obtain ⟨w2, hw2⟩ : ∃ u, u = wr.alloc (.cells #[.slice tA G.targets.length tc, .slice nA G.needs.length nc, .slice cA G.cmds.length cc, .bool G.phony] grpT) := ⟨_, rfl⟩
      obtain ⟨b7, hb7⟩ : ∃ g, g = wr.heap.size := ⟨_, rfl⟩
      rw [← hw2, ← hb7]
      have x2 : Ext wr w2 := by rw [hw2]; exact (Only.refl No _).alloc _
      have B7 : Hid (Cs w2 b7 grpT #[.slice tA G.targets.length tc, .slice nA G.needs.length nc, .slice cA G.cmds.length cc, .bool G.phony]) := by rw [hw2, hb7]; exact Cs.new _ _ _
      have X2 := Lib.hid (XR.out.then_ext x2)
      have HO2 := Lib.hid (HO.out.ext x2)
      have HL2 := Lib.hid (HL.out.ext x2)
      have HM2 := Lib.hid (HM.out.ext x2)
      have HSz : Hid (wr.heap.size ≤ b7) := Nat.le_of_eq hb7.symm
      have y0 : w2.cell? ⟨b7, 0, none⟩ = some (.slice tA G.targets.length tc) := B7.out.cell 0
      have y1 : w2.cell? ⟨b7, 1, none⟩ = some (.slice nA G.needs.length nc) := B7.out.cell 1
      have y2 : w2.cell? ⟨b7, 2, none⟩ = some (.slice cA G.cmds.length cc) := B7.out.cell 2
      have y3 : w2.cell? ⟨b7, 3, none⟩ = some (.bool G.phony) := B7.out.cell 3
      have HOne : Hid (Calls Tryz.prog 48 #[.agg #[.slice tA G.targets.length tc, .slice nA G.needs.length nc, .slice cA G.cmds.length cc, .bool G.phony], .slice LA L.length Lc] w2 (OneRes w2 L G)) := One_c (a := ⟨tA, tc, nA, nc, cA, cc⟩) (HE.out.ext X2.out) (HGr.out.1.ext X2.out) (HGr.out.2.1.ext X2.out) (HGr.out.2.2.ext X2.out) HGb.out HL2.out HFL.out
      clear hw2 hb7 x2 q0 q1 q2 q3 e0 HO HL HM XR
      obtain ⟨ph, hph⟩ : ∃ b, b = G.phony := ⟨_, rfl⟩
      rw [← hph] at HSt y3 HOne B7
      clear hph
      cases ph with
      | true =>
        have HEq2 : Hid (unitM gs (u.drop (i + 1)) L O K = unitM gs u l [] []) := by rw [Hid, ← HEq.out, HSt.out, if_pos rfl]
        go_wp2_with fail
        go_roundw
        case rel => exact ⟨i + 1, by omega, by go_num, oA, oc, O, LA, Lc, L, K, F, n, rfl, rfl, HO2.out, HL2.out, HRO.out, by omega, HFL.out, by omega, HM2.out, by omega, HEq2.out, X2.out⟩
        case measure => simp [intOf]; omega
      | false =>
        have HFit := Lib.hid (oneF_fit HGb.out HFL.out)
        have HAl := Lib.hid (show (oneF L G).1.1.length ≤ 3 by
          have := (allF_fit L G).2.1
          unfold oneF
          split
          · exact Nat.zero_le _
          · split
            · exact Nat.zero_le _
            · exact Nat.le_trans this hG3)
        have HOne2 : Hid (Calls Tryz.prog 48 #[.agg #[.slice tA G.targets.length tc, .slice nA G.needs.length nc, .slice cA G.cmds.length cc, .bool false], .slice LA L.length Lc] w2 fun e w' => ∃ (B : Option Addr) (d : Nat) (V : RcdV), e = .returned (.tuple #[.slice B (oneF L G).1.1.length d, rcdV V (oneF L G).1.2, errV (oneF L G).2]) ∧ SlR fileF w' B (oneF L G).1.1.length (oneF L G).1.1 ∧ RcdR w' V (oneF L G).1.2 ∧ Ext w2 w') := HOne.out
        obtain ⟨⟨⟨own, R⟩, f⟩, hof⟩ : ∃ R, R = oneF L G := ⟨_, rfl⟩
        rw [← hof] at HFit HAl HOne2 HSt
        have HSt2 : Hid (unitM gs (u.drop i) L O K = if f ≠ 0 then (([], []), f) else unitM gs (u.drop (i + 1)) (putAll own L) (putAll own O) (K ++ [(G.targets.headD [], R)])) := by rw [Hid, HSt.out, if_neg (by decide)]
        have hal : own.length ≤ 3 := HAl.out
        clear hof HSt HOne HAl
        go_wp2_with fail
        refine HOne2.out.mono ?_
        rintro e u3 ⟨B, d, ⟨p1, e1, p2, e2, p3, e3⟩, he, hw, hr, hx⟩
        have he : e = .returned (.tuple #[.slice B own.length d, .agg #[.slice p1 R.cmds.length e1, .slice p2 R.needs.length e2, .slice p3 R.out.length e3], errV f]) := he
        subst he
        have X3 := Lib.hid (X2.out.then_ext hx)
        have HW := Lib.hid (show SlR fileF u3 B own.length own from hw)
        have HRr := Lib.hid (show RcdR u3 ⟨p1, e1, p2, e2, p3, e3⟩ R from hr)
        have B73 := Lib.hid (B7.out.keep hx id)
        have HO3 := Lib.hid (HO2.out.ext hx)
        have HL3 := Lib.hid (HL2.out.ext hx)
        have HM3 := Lib.hid (HM2.out.ext hx)
        clear hw hr hx HOne2 y0 y1 y2 y3 HO2 HL2 HM2 B7
        go_upto_region 9 with fail
        obtain ⟨w4, hw4⟩ : ∃ u, u = u3.alloc (.cells #[.slice p1 R.cmds.length e1, .slice p2 R.needs.length e2, .slice p3 R.out.length e3] rcT) := ⟨_, rfl⟩
        obtain ⟨b15, hb15⟩ : ∃ b, b = u3.heap.size := ⟨_, rfl⟩
        rw [← hw4, ← hb15]
        have x4 : Ext u3 w4 := by rw [hw4]; exact (Only.refl No u3).alloc _
        have C15 : Hid (Cs w4 b15 rcT #[.slice p1 R.cmds.length e1, .slice p2 R.needs.length e2, .slice p3 R.out.length e3]) := by rw [hw4, hb15]; exact Cs.new _ _ _
        have X4 := Lib.hid (X3.out.then_ext x4)
        have HW4 := Lib.hid (HW.out.ext x4)
        have HRr4 := Lib.hid (HRr.out.ext x4)
        have B74 := Lib.hid (B73.out.keep x4 id)
        have HO4 := Lib.hid (HO3.out.ext x4)
        have HL4 := Lib.hid (HL3.out.ext x4)
        have HM4 := Lib.hid (HM3.out.ext x4)
        clear hw4 hb15 x4 HW HRr B73 HO3 HL3 HM3 X3 X2
        by_cases hf : f = 0
        case neg =>
          have HV : Hid (unitM gs u l [] [] = (([], []), f)) := by rw [Hid, ← HEq.out, HSt2.out, if_pos hf]
          have HE := Lib.hid (errV_pos hf)
          rw [errV_pos hf]
          go_wp2_with fail
          go_ret3
          rw [HV.out]
          exact ⟨X4.out, .inr ⟨hf, by rw [HE.out]; rfl⟩⟩
        subst hf
        rw [errV_zero]
        have HSt3 : Hid (unitM gs (u.drop (i + 1)) (putAll own L) (putAll own O) (K ++ [(G.targets.headD [], R)]) = unitM gs u l [] []) := by rw [Hid, ← HEq.out, HSt2.out, if_neg (fun h => h rfl)]
        clear HSt2 HEq
        go_wp2_with fail
        go_loopw [44, 2, 9] (fun jv lv ov wr => ∃ j : Nat, j ≤ own.length ∧ jv = .int .i64 j ∧ ∃ (oA : Option Addr) (oc : Nat) (LA : Option Addr) (Lc : Nat), ov = .slice oA (putAll (own.take j) O).length oc ∧ lv = .slice LA (putAll (own.take j) L).length Lc ∧
          SlR fileF wr oA (putAll (own.take j) O).length (putAll (own.take j) O) ∧ SlR fileF wr LA (putAll (own.take j) L).length (putAll (own.take j) L) ∧ Ext w4 wr) (fun jv _ _ _ => own.length - (intOf jv).toNat)
        case atStart => exact ⟨0, Nat.zero_le _, rfl, oA, oc, LA, Lc, rfl, rfl, HO4.out, HL4.out, Only.refl _ _⟩
        case round =>
          clear HO4 HL4
          obtain ⟨j, hj, rfl, oA, oc, LA, Lc, rfl, rfl, hO, hL, hx⟩ := hrel
          have HO5 := Lib.hid hO
          have HL5 := Lib.hid hL
          have XJ := Lib.hid hx
          clear hO hL hx
          have hPl := putAll_len (own.take j) L
          have hPo := putAll_len (own.take j) O
          have hTk : (own.take j).length ≤ j := by rw [List.length_take]; omega
          have HPr := Lib.hid (putAll_rise (own.take j) HFL.out.r)
          have HPo := Lib.hid (putAll_rise (own.take j) HRO.out)
          by_cases hlj : j < own.length
          · obtain ⟨bw, ow, ⟨fn, ft⟩, rfl, hfj, d0, d1⟩ := files_get HW4.out hlj
            have HT1 := Lib.hid (putAll_take hfj L)
            have HT2 := Lib.hid (putAll_take hfj O)
            have g0 : wr.cell? ⟨bw, ow + j * 2, none⟩ = some (S fn) := d0 ⟨wr, XJ.out⟩
            have g1 : wr.cell? ⟨bw, ow + j * 2 + 1, none⟩ = some (S ft) := d1 ⟨wr, XJ.out⟩
            clear d0 d1 hfj
            obtain ⟨Lj, hLj⟩ : ∃ x, x = putAll (own.take j) L := ⟨_, rfl⟩
            obtain ⟨Oj, hOj⟩ : ∃ x, x = putAll (own.take j) O := ⟨_, rfl⟩
            rw [← hLj] at HL5 hPl HPr HT1 ⊢
            rw [← hOj] at HO5 hPo HPo HT2 ⊢
            clear hLj hOj
            go_upto_region 14 with fail
            obtain ⟨w5, hw5⟩ : ∃ u, u = wr.alloc (.cells #[S fn, S ft] 75) := ⟨_, rfl⟩
            obtain ⟨b18, hb18⟩ : ∃ b, b = wr.heap.size := ⟨_, rfl⟩
            rw [← hw5, ← hb18]
            have x5 : Ext wr w5 := by rw [hw5]; exact (Only.refl No wr).alloc _
            have C18 : Hid (Cs w5 b18 75 #[S fn, S ft]) := by rw [hw5, hb18]; exact Cs.new _ _ _
            have XJ5 := Lib.hid (XJ.out.then_ext x5)
            have HP1 := Lib.hid (Put_c (c := Lc) (HL5.out.ext x5) (by omega) (fn, ft) HPr.out)
            have HO6 := Lib.hid (HO5.out.ext x5)
            have j0 : w5.cell? ⟨b18, 0, none⟩ = some (S fn) := C18.out.cell 0
            have j1 : w5.cell? ⟨b18, 1, none⟩ = some (S ft) := C18.out.cell 1
            obtain ⟨Lk, hLk⟩ : ∃ x, x = putL fk (fn, ft) Lj := ⟨_, rfl⟩
            obtain ⟨Ok, hOk⟩ : ∃ x, x = putL fk (fn, ft) Oj := ⟨_, rfl⟩
            rw [← hLk] at HP1 HT1
            rw [← hOk] at HT2
            have HOk := Lib.hid hOk
            clear hw5 hb18 x5 g0 g1 HL5 HO5 hLk hOk
            go_wp2_with fail
            refine HP1.out.mono ?_
            rintro e u6 ⟨A6, c6, rfl, hF6⟩
            have X6 := Lib.hid (XJ5.out.then_ext hF6.ext)
            have R6 := Lib.hid (hF6.row (by decide))
            have HP2 := Lib.hid (Put_c (c := oc) (HO6.out.ext hF6.ext) (by omega) (fn, ft) HPo.out)
            have C186 := C18.out.keep hF6.ext id
            clear j0 j1 hF6 HP1
            rw [← HOk.out] at HP2
            have j0 : u6.cell? ⟨b18, 0, none⟩ = some (S fn) := C186.cell 0
            have j1 : u6.cell? ⟨b18, 1, none⟩ = some (S ft) := C186.cell 1
            clear C186
            go_wp2_with fail
            refine HP2.out.mono ?_
            rintro e u7 ⟨A7, c7, rfl, hF7⟩
            have X7 := Lib.hid (X6.out.then_ext hF7.ext)
            have R7 := Lib.hid (hF7.row (by decide))
            have R67 := Lib.hid (R6.out.ext hF7.ext)
            clear hF7 HP2 j0 j1
            go_wp2_with fail
            go_roundw
            case rel => exact ⟨j + 1, by omega, by go_num, A7, c7, A6, c6, by rw [HT2.out], by rw [HT1.out], by rw [HT2.out]; exact R7.out, by rw [HT1.out]; exact R67.out, X7.out⟩
            case measure => simp [intOf]; omega
          · obtain rfl : j = own.length := by omega
            rw [List.take_of_length_le (Nat.le_refl _)] at HO5 HL5 hPl hPo HPr HPo ⊢
            obtain ⟨bt, ot, t, hAt, hti, ct⟩ := strs_get HGr.out.1 (k := 0) (by omega)
            have htt : G.targets.headD [] = t := by
              cases htl : G.targets with
              | nil => rw [htl] at hti; cases hti
              | cons p r => rw [htl] at hti; exact Option.some.inj hti
            subst hAt
            have hTl : t.length ≤ 10000 := HGb.out.lt t (List.mem_of_getElem? hti)
            have xd : Ext wr wr.drew := (Only.refl No _).drew
            obtain ⟨w9, F', r1, r2, r3⟩ := ((HM4.out.ext XJ.out).ext xd).put (show n < maxLen by unfold maxLen; omega) t (by unfold maxLen; omega) ((HRr4.out.ext XJ.out).ext xd) (by have := HFit.out.2.2.2; exact ⟨by have := this.c; omega, by have := this.n; omega, by have := this.o; omega⟩)
            have R2 := Lib.hid r2
            have HSt4 : Hid (unitM gs (u.drop (i + 1)) (putAll own L) (putAll own O) (K ++ [(t, R)]) = unitM gs u l [] []) := by rw [Hid, ← htt]; exact HSt3.out
            have HM' := HM4.out.ext XJ.out
            have X9 : Hid (Ext w w9) := ((X4.out.then_ext XJ.out).then_ext xd).trans r3 fun q hq e => by have e : q = b := e; have := HBb.out; omega
            have HO9 : Hid (SlR fileF w9 oA (putAll own O).length (putAll own O)) := (HM'.ext xd).m.row r3 (HO5.out.ext xd)
            have HL9 : Hid (SlR fileF w9 LA (putAll own L).length (putAll own L)) := (HM'.ext xd).m.row r3 (HL5.out.ext xd)
            have hmu : (Instr.mapUpdate rmapT (.map (some b)) (S t) (.agg #[.slice p1 R.cmds.length e1, .slice p2 R.needs.length e2, .slice p3 R.out.length e3])).run Tryz.prog wr.drew = .ok () w9 := r1
            have f0 : ∀ ξ : X wr No, ξ.v.cell? ⟨b7, 0, none⟩ = some (.slice (some ⟨bt, ot, none⟩) G.targets.length tc) := (B74.out.keep XJ.out id).x id 0
            have f1 : ∀ ξ : X wr No, ξ.v.cell? ⟨bt, ot, none⟩ = some (S t) := fun ξ => ct ⟨ξ.v, (X4.out.then_ext XJ.out).then_ext ξ.h⟩
            have f2 : ∀ ξ : X wr No, ξ.v.cell? ⟨b15, 0, none⟩ = some (.slice p1 R.cmds.length e1) := (C15.out.keep XJ.out id).x id 0
            have f3 : ∀ ξ : X wr No, ξ.v.cell? ⟨b15, 1, none⟩ = some (.slice p2 R.needs.length e2) := (C15.out.keep XJ.out id).x id 1
            have f4 : ∀ ξ : X wr No, ξ.v.cell? ⟨b15, 2, none⟩ = some (.slice p3 R.out.length e3) := (C15.out.keep XJ.out id).x id 2
            have hlt0 : 0 < G.targets.length := by omega
            have HFL2 := Lib.hid (HFL.out.put HFit.out.2.2.1 (by omega))
            have HQl : Hid ((putAll own L).length ≤ L.length + own.length ∧ (putAll own O).length ≤ O.length + own.length) := ⟨putAll_len _ _, putAll_len _ _⟩
            clear hti ct htt xd r1 r2 r3 HM'
            go_upto_region 17 with fail
            refine Mix.wp_draw [6] 6 (Cl wr No) (by kernel_rfl) (by kernel_rfl) (Cl.of (Only.refl _ _).drew) ?_
            (repeat' (refine Mix.lex_quiet0 rfl rfl rfl ?_; intro K hK; go_big_quiet_op; go_big_quiet_on))
            ((first | refine Mix.lex_goes0 rfl rfl ?_ | refine Mix.lex_goesG rfl rfl rfl (by with_reducible rfl) rfl ?_); intro K hK; go_simp)
            refine hK _ _ (fun hne => absurd rfl hne) ?_
            clear hK K f0 f1 f2 f3 f4 hmu
            simp only [Act.put, List.setIfInBounds_toArray, List.set_cons_succ, List.set_cons_zero]
            refine Mix.lex_nil ?_
            go_wp2_with fail
            go_roundw
            case rel => exact ⟨i + 1, by omega, by go_num, oA, oc, putAll own O, LA, Lc, putAll own L, _, F', n + 1, rfl, rfl, HO9.out, HL9.out, HPo.out, by have := HQl.out.2; omega, HFL2.out, by have := HQl.out.1; omega, R2.out, by omega, HSt4.out, X9.out⟩
            case measure => simp [intOf]; omega
    · obtain rfl : i = u.length := by omega
      have HV : Hid (unitM gs u l [] [] = ((O, K), 0)) := by rw [Hid, ← HEq.out, List.drop_of_length_le (Nat.le_refl _)]; rfl
      go_wp2_with fail
      go_ret3
      rw [HV.out]
      exact ⟨XR.out, .inl ⟨rfl, oA, oc, b, n, F, rfl, HO.out, HM.out, HBb.out, by omega⟩⟩
theorem namesF_snoc {gs : List Grp} {u : List Nat} {i k : Nat} {G : Grp} (hk : u[i]? = some k) (hG : gs[k]? = some G) : namesF gs (u.take (i + 1)) = namesF gs (u.take i) ++ if G.phony = true then [] else [G.targets.headD []] := by
  unfold namesF
  rw [List.take_add_one, hk, List.filterMap_append]
  congr 1
  simp only [Option.toList_some, List.filterMap_cons, List.filterMap_nil, nameU, hG]
  split <;> simp_all
theorem namesF_len (gs : List Grp) (u : List Nat) : (namesF gs u).length ≤ u.length := List.length_filterMap_le _ _
set_option maxRecDepth 100000 in
set_option maxHeartbeats 1000000 in
theorem Names_c {w : World} {A : Option Addr} {c : Nat} {os : List (RulA × Grp)} {gs : List Grp} (hG : GrpsR w A os gs) (hb : ∀ g ∈ gs, 1 ≤ g.targets.length)
    {uA : Option Addr} {uc : Nat} {u : List Nat} (hu : SlR inF w uA u.length u) (hun : u.length ≤ 1000) (hul : ∀ k ∈ u, k < gs.length) :
    Calls Tryz.prog 28 #[.slice A gs.length c, .slice uA u.length uc] w fun e w' => ∃ B d, e = .returned (.slice B (namesF gs u).length d) ∧ Fresh strF 9 w w' B d (namesF gs u) := by
  have HG := Lib.hid hG
  have HB := Lib.hid hb
  have HU := Lib.hid hu
  have HUl := Lib.hid hul
  clear hG hb hu hul
  go_enter Tryz.func28, Tryz.ntmps28
  go_wp2_with fail
  go_loopw [10, 5] (fun iv ov wr => ∃ i : Nat, i ≤ u.length ∧ iv = .int .i64 i ∧ ∃ (B : Option Addr) (d : Nat) (ns : List Str), ov = .slice B ns.length d ∧ ns = namesF gs (u.take i) ∧ ns.length ≤ i ∧ Fresh strF 9 w wr B d ns) (fun iv _ _ => u.length - (intOf iv).toNat)
  case atStart => exact ⟨0, Nat.zero_le _, rfl, none, 0, [], rfl, rfl, Nat.le_refl _, Fresh.nil _ _ _ _ (Only.refl _ _)⟩
  case round =>
    obtain ⟨i, hi, rfl, B, d, ns, rfl, hns, hnl, hF⟩ := hrel
    have HNs := Lib.hid hns
    have HF := Lib.hid hF
    have XR := Lib.hid hF.ext
    clear hns hF
    by_cases hlt : i < u.length
    · obtain ⟨bu, ou, k, rfl, huk, cu⟩ := ins_get HU.out hlt
      have hkg : k < gs.length := HUl.out k (List.mem_of_getElem? huk)
      obtain ⟨bg, o, ⟨⟨tA, tc, nA, nc, cA, cc⟩, G⟩, rfl, hox, c0, c1, c2, c3⟩ := grps_get HG.out.row hkg
      have hgi : gs[k]? = some G := by rw [← HG.out.om, List.getElem?_map, hox]; rfl
      have hG1 := HB.out G (List.mem_of_getElem? hgi)
      have HTg : Hid (SlR strF w tA G.targets.length G.targets) := (HG.out.rr _ (List.mem_of_getElem? hox)).1
      obtain ⟨bt, ot, t, hAt, hti, ct⟩ := strs_get HTg.out (k := 0) (by omega)
      have htt : G.targets.headD [] = t := by
        cases htl : G.targets with
        | nil => rw [htl] at hti; cases hti
        | cons p r => rw [htl] at hti; exact Option.some.inj hti
      have hAt : tA = some ⟨bt, ot, none⟩ := hAt
      subst hAt
      have HSn := Lib.hid (namesF_snoc huk hgi)
      rw [htt] at HSn
      have e0 : wr.cell? ⟨bu, ou + i, none⟩ = some (.int .i64 (k : Int)) := cu ⟨wr, XR.out⟩
      have q3 : wr.cell? ⟨bg, o + k * 4 + 3, none⟩ = some (.bool G.phony) := c3 ⟨wr, XR.out⟩
      have hlt0 : 0 < G.targets.length := by omega
      obtain ⟨FF, hFF⟩ : ∃ FF : Nat → Prop, FF = fun q => (Value.slice B ns.length d).ownBlock = some q := ⟨_, rfl⟩
      have HFq := Lib.hid hFF
      have HXF : ∀ v, Only FF wr v → Ext w v := fun v hv => XR.out.trans hv fun q hq e => by rw [hFF] at e; have := HF.out.new q e; omega
      have f0 : ∀ ξ : X wr FF, ξ.v.cell? ⟨bg, o + k * 4, none⟩ = some (.slice (some ⟨bt, ot, none⟩) G.targets.length tc) := fun ξ => c0 ⟨ξ.v, HXF _ ξ.h⟩
      have f1 : ∀ ξ : X wr FF, ξ.v.cell? ⟨bt, ot, none⟩ = some (S t) := fun ξ => ct ⟨ξ.v, HXF _ ξ.h⟩
      obtain ⟨ph, hph⟩ : ∃ b, b = G.phony := ⟨_, rfl⟩
      rw [← hph] at HSn q3
      clear cu c0 c1 c2 c3 hox hgi huk hti ct htt hFF hph HXF
      cases ph with
      | true =>
        have HE : Hid (namesF gs (u.take (i + 1)) = ns) := by rw [Hid, HSn.out, HNs.out, if_pos rfl, List.append_nil]
        go_wp2_with fail
        go_roundw
        case rel => exact ⟨i + 1, by omega, by go_num, B, d, ns, rfl, HE.out.symm, by omega, HF.out⟩
        case measure => simp [intOf]; omega
      | false =>
        have HE : Hid (namesF gs (u.take (i + 1)) = ns ++ [t]) := by rw [Hid, HSn.out, HNs.out, if_neg (by decide)]
        go_upto_region 6 with fail
        refine Mix.wp_plain [8, 9] (Cl wr FF) (Cl.of (Only.refl _ _)) ?_
        (repeat' (refine Mix.lex_quiet0 rfl rfl rfl ?_; intro K hK; go_big_quiet_op; go_big_quiet_on))
        ((first | refine Mix.lex_goes0 rfl rfl ?_ | refine Mix.lex_goesG rfl rfl rfl (by with_reducible rfl) rfl ?_); intro K hK; go_simp)
        have F6 := Lib.hid (HF.out.on ((Only.refl No wr).alloc (.cells #[S t] 9)))
        refine hK _ _ (fun _ => Cl.of ((Only.refl FF wr).alloc _)) ?_
        clear hK K f0 f1
        simp only [Act.put, List.setIfInBounds_toArray, List.set_cons_succ, List.set_cons_zero]
        refine Mix.lex_goes0 rfl rfl ?_
        intro K hK
        refine goes_append (v := .slice B ns.length d) (n := ns.length) (xs := ns.flatMap strF.enc) st_ty rfl rfl rfl F6.out.own (rd_one wr _ [S t]) (by simp [Value.oneCell']) (by omega) ?_
        intro B' d' w7 hown5 hgr5 hb5
        have F7 : Hid (Fresh strF 9 w w7 B' d' (ns ++ [t])) := F6.out.grow (m := 1) (ys := [t]) rfl hown5 hgr5 hb5
        have O7 : Hid (Only FF wr w7) := ((Only.refl FF wr).alloc _).grown hgr5 fun g hg => .inr (by rw [HFq.out]; exact hg)
        refine hK _ _ (fun _ => Cl.of O7.out) ?_
        clear hK K hown5 hgr5 hb5
        simp only [Act.put, List.setIfInBounds_toArray, List.set_cons_succ, List.set_cons_zero]
        (repeat' (refine Mix.lex_quiet0 rfl rfl rfl ?_; intro K hK; go_big_quiet_op; go_big_quiet_on))
        refine Mix.lex_nil ?_
        go_wp2_with fail
        go_roundw
        case rel => exact ⟨i + 1, by omega, by go_num, B', d', ns ++ [t], by simp, HE.out.symm, by simp; omega, F7.out⟩
        case measure => simp [intOf]; omega
    · obtain rfl : i = u.length := by omega
      rw [List.take_of_length_le (Nat.le_refl _)] at HNs
      go_wp2_with fail
      go_ret
      have h := HF.out
      rw [HNs.out] at h
      exact ⟨B, d, by rw [HNs.out]; rfl, h⟩
set_option maxRecDepth 100000 in
set_option maxHeartbeats 1000000 in
theorem RNames_c {w : World} {A : Option Addr} {c : Nat} {os : List (RulA × Grp)} {gs : List Grp} (hG : GrpsR w A os gs) (hb : ∀ g ∈ gs, 1 ≤ g.targets.length)
    {uA : Option Addr} {uc : Nat} {u : List Nat} (hu : SlR inF w uA u.length u) (hun : u.length ≤ 1000) (hul : ∀ k ∈ u, k < gs.length) :
    Calls Tryz.prog 29 #[.slice A gs.length c, .slice uA u.length uc] w fun e w' => ∃ B d, e = .returned (.slice B (namesF gs u).length d) ∧ Fresh strF 9 w w' B d (namesF gs u) := by
  have HG := Lib.hid hG
  have HB := Lib.hid hb
  have HU := Lib.hid hu
  have HUl := Lib.hid hul
  clear hG hb hu hul
  go_enter Tryz.func29, Tryz.ntmps29
  go_wp2_with fail
  go_loopw [6, 5] (fun iv ov wr => ∃ i : Nat, i ≤ u.length ∧ iv = .int .i64 i ∧ ∃ (B : Option Addr) (d : Nat) (ns : List Str), ov = .slice B ns.length d ∧ ns = namesF gs (u.take i) ∧ ns.length ≤ i ∧ Fresh strF 9 w wr B d ns) (fun iv _ _ => u.length - (intOf iv).toNat)
  case atStart => exact ⟨0, Nat.zero_le _, rfl, none, 0, [], rfl, rfl, Nat.le_refl _, Fresh.nil _ _ _ _ (Only.refl _ _)⟩
  case round =>
    obtain ⟨i, hi, rfl, B, d, ns, rfl, hns, hnl, hF⟩ := hrel
    have HNs := Lib.hid hns
    have HF := Lib.hid hF
    have XR := Lib.hid hF.ext
    clear hns hF
    by_cases hlt : i < u.length
    · obtain ⟨bu, ou, k, rfl, huk, cu⟩ := ins_get HU.out hlt
      have hkg : k < gs.length := HUl.out k (List.mem_of_getElem? huk)
      obtain ⟨bg, o, ⟨⟨tA, tc, nA, nc, cA, cc⟩, G⟩, rfl, hox, c0, c1, c2, c3⟩ := grps_get HG.out.row hkg
      have hgi : gs[k]? = some G := by rw [← HG.out.om, List.getElem?_map, hox]; rfl
      have hG1 := HB.out G (List.mem_of_getElem? hgi)
      have HTg : Hid (SlR strF w tA G.targets.length G.targets) := (HG.out.rr _ (List.mem_of_getElem? hox)).1
      obtain ⟨bt, ot, t, hAt, hti, ct⟩ := strs_get HTg.out (k := 0) (by omega)
      have htt : G.targets.headD [] = t := by
        cases htl : G.targets with
        | nil => rw [htl] at hti; cases hti
        | cons p r => rw [htl] at hti; exact Option.some.inj hti
      have hAt : tA = some ⟨bt, ot, none⟩ := hAt
      subst hAt
      have HSn := Lib.hid (namesF_snoc huk hgi)
      rw [htt] at HSn
      have e0 : wr.cell? ⟨bu, ou + i, none⟩ = some (.int .i64 (k : Int)) := cu ⟨wr, XR.out⟩
      have q3 : wr.cell? ⟨bg, o + k * 4 + 3, none⟩ = some (.bool G.phony) := c3 ⟨wr, XR.out⟩
      have hlt0 : 0 < G.targets.length := by omega
      obtain ⟨FF, hFF⟩ : ∃ FF : Nat → Prop, FF = fun q => (Value.slice B ns.length d).ownBlock = some q := ⟨_, rfl⟩
      have HFq := Lib.hid hFF
      have HXF : ∀ v, Only FF wr v → Ext w v := fun v hv => XR.out.trans hv fun q hq e => by rw [hFF] at e; have := HF.out.new q e; omega
      have f0 : ∀ ξ : X wr FF, ξ.v.cell? ⟨bg, o + k * 4, none⟩ = some (.slice (some ⟨bt, ot, none⟩) G.targets.length tc) := fun ξ => c0 ⟨ξ.v, HXF _ ξ.h⟩
      have f2 : ∀ ξ : X wr FF, ξ.v.cell? ⟨bu, ou + i, none⟩ = some (.int .i64 (k : Int)) := fun ξ => cu ⟨ξ.v, HXF _ ξ.h⟩
      have f1 : ∀ ξ : X wr FF, ξ.v.cell? ⟨bt, ot, none⟩ = some (S t) := fun ξ => ct ⟨ξ.v, HXF _ ξ.h⟩
      obtain ⟨ph, hph⟩ : ∃ b, b = G.phony := ⟨_, rfl⟩
      rw [← hph] at HSn q3
      clear cu c0 c1 c2 c3 hox hgi huk hti ct htt hFF hph HXF
      cases ph with
      | true =>
        have HE : Hid (namesF gs (u.take (i + 1)) = ns) := by rw [Hid, HSn.out, HNs.out, if_pos rfl, List.append_nil]
        go_wp2_with fail
        go_roundw
        case rel => exact ⟨i + 1, by omega, by go_num, B, d, ns, rfl, HE.out.symm, by omega, HF.out⟩
        case measure => simp [intOf]; omega
      | false =>
        have HE : Hid (namesF gs (u.take (i + 1)) = ns ++ [t]) := by rw [Hid, HSn.out, HNs.out, if_neg (by decide)]
        go_upto_region 6 with fail
        refine Mix.wp_plain [11, 12] (Cl wr FF) (Cl.of (Only.refl _ _)) ?_
        (repeat' (refine Mix.lex_quiet0 rfl rfl rfl ?_; intro K hK; go_big_quiet_op; go_big_quiet_on))
        ((first | refine Mix.lex_goes0 rfl rfl ?_ | refine Mix.lex_goesG rfl rfl rfl (by with_reducible rfl) rfl ?_); intro K hK; go_simp)
        have F6 := Lib.hid (HF.out.on ((Only.refl No wr).alloc (.cells #[S t] 9)))
        refine hK _ _ (fun _ => Cl.of ((Only.refl FF wr).alloc _)) ?_
        clear hK K f0 f1 f2
        simp only [Act.put, List.setIfInBounds_toArray, List.set_cons_succ, List.set_cons_zero]
        refine Mix.lex_goes0 rfl rfl ?_
        intro K hK
        refine goes_append (v := .slice B ns.length d) (n := ns.length) (xs := ns.flatMap strF.enc) st_ty rfl rfl rfl F6.out.own (rd_one wr _ [S t]) (by simp [Value.oneCell']) (by omega) ?_
        intro B' d' w7 hown5 hgr5 hb5
        have F7 : Hid (Fresh strF 9 w w7 B' d' (ns ++ [t])) := F6.out.grow (m := 1) (ys := [t]) rfl hown5 hgr5 hb5
        have O7 : Hid (Only FF wr w7) := ((Only.refl FF wr).alloc _).grown hgr5 fun g hg => .inr (by rw [HFq.out]; exact hg)
        refine hK _ _ (fun _ => Cl.of O7.out) ?_
        clear hK K hown5 hgr5 hb5
        simp only [Act.put, List.setIfInBounds_toArray, List.set_cons_succ, List.set_cons_zero]
        (repeat' (refine Mix.lex_quiet0 rfl rfl rfl ?_; intro K hK; go_big_quiet_op; go_big_quiet_on))
        refine Mix.lex_nil ?_
        go_wp2_with fail
        go_roundw
        case rel => exact ⟨i + 1, by omega, by go_num, B', d', ns ++ [t], by simp, HE.out.symm, by simp; omega, F7.out⟩
        case measure => simp [intOf]; omega
    · obtain rfl : i = u.length := by omega
      rw [List.take_of_length_le (Nat.le_refl _)] at HNs
      go_wp2_with fail
      go_ret
      have h := HF.out
      rw [HNs.out] at h
      exact ⟨B, d, by rw [HNs.out]; rfl, h⟩
theorem unit_keys (gs : List Grp) : ∀ (u : List Nat) (l out : List File) (K : List (Str × Rcd)), (unitM gs u l out K).2 = 0 → (unitM gs u l out K).1.2.map (·.1) = K.map (·.1) ++ namesF gs u
  | [], l, out, K, _ => by simp [unitM, namesF]
  | k :: ks, l, out, K, h => by
    rw [unitM] at h ⊢
    have hn : namesF gs (k :: ks) = (nameU gs k).toList ++ namesF gs ks := by
      unfold namesF
      rw [List.filterMap_cons]
      cases nameU gs k <;> rfl
    rw [hn]
    cases hg : gs[k]? with
    | none =>
      rw [hg] at h
      simp only at h ⊢
      rw [unit_keys gs ks _ _ _ h]
      simp [nameU, hg]
    | some g =>
      rw [hg] at h
      simp only at h ⊢
      by_cases hp : g.phony = true
      · rw [if_pos hp] at h ⊢
        rw [unit_keys gs ks _ _ _ h]
        simp [nameU, hg, hp]
      · rw [if_neg hp] at h ⊢
        by_cases ho : (oneF l g).2 ≠ 0
        · rw [if_pos ho] at h; exact absurd h ho
        · rw [if_neg ho] at h ⊢
          rw [unit_keys gs ks _ _ _ h]
          simp [nameU, hg, hp]
theorem names_nodup {gs : List Grp} (hd : gs.Pairwise fun a b => ∀ t ∈ a.targets, t ∉ b.targets) (h1 : ∀ g ∈ gs, 1 ≤ g.targets.length) {u : List Nat} (hu : u.Pairwise (· < ·)) : (namesF gs u).Nodup := by
  have hh : ∀ (g : Grp), 1 ≤ g.targets.length → g.targets.headD [] ∈ g.targets := fun g hg => by
    cases ht : g.targets with
    | nil => rw [ht] at hg; simp at hg
    | cons a r => simp
  have hs : ∀ (k : Nat) (a : Str), nameU gs k = some a → ∃ g, gs[k]? = some g ∧ a ∈ g.targets := fun k a h => by
    unfold nameU at h
    cases hg : gs[k]? with
    | none => rw [hg] at h; cases h
    | some g =>
      rw [hg] at h
      simp only at h
      split at h
      · cases h
      · cases h
        exact ⟨g, rfl, hh g (h1 g (List.mem_of_getElem? hg))⟩
  refine List.Pairwise.filterMap (R := (· < ·)) (S := (· ≠ ·)) (nameU gs) (fun i j hij a ha b hb e => ?_) hu
  obtain ⟨g, hg, hga⟩ := hs i a ha
  obtain ⟨q, hq, hqb⟩ := hs j b hb
  obtain ⟨hi, ei⟩ := List.getElem?_eq_some_iff.1 hg
  obtain ⟨hj, ej⟩ := List.getElem?_eq_some_iff.1 hq
  have := List.pairwise_iff_getElem.1 hd i j hi hj hij
  rw [ei, ej] at this
  exact this a hga (e ▸ hqb)
theorem snoc_ind {α : Type} {P : List α → Prop} (h0 : P []) (h1 : ∀ K p, P K → P (K ++ [p])) (K : List α) : P K := by
  rw [← List.reverse_reverse K]
  generalize K.reverse = L
  induction L with
  | nil => exact h0
  | cons a L ih => rw [List.reverse_cons]; exact h1 _ _ ih
theorem klast_none (K : List (Str × Rcd)) : ∀ (s : Str), s ∉ K.map (·.1) → klast K s = none := by
  refine snoc_ind (P := fun K => ∀ (s : Str), s ∉ K.map (·.1) → klast K s = none) (fun s _ => rfl) (fun K p ih => ?_) K
  · intro s hs
    rw [klast_snoc]
    simp only [List.map_append, List.map_cons, List.map_nil, List.mem_append, List.mem_singleton, not_or] at hs
    show (if s = p.1 then some p.2 else klast K s) = none
    rw [if_neg hs.2]
    exact ih s hs.1
theorem klast_mem (K : List (Str × Rcd)) : (K.map (·.1)).Nodup → ∀ p ∈ K, klast K p.1 = some p.2 := by
  refine snoc_ind (P := fun K => (K.map (·.1)).Nodup → ∀ p ∈ K, klast K p.1 = some p.2) (fun _ p hp => by cases hp) (fun K q ih => ?_) K
  · intro hn p hp
    rw [klast_snoc]
    show (if p.1 = q.1 then some q.2 else klast K p.1) = some p.2
    rw [List.map_append, List.nodup_append] at hn
    rcases List.mem_append.1 hp with hp | hp
    · rw [if_neg (fun e => hn.2.2 _ (List.mem_map_of_mem hp) _ (by simp) e)]
      exact ih hn.1 p hp
    · obtain rfl := List.mem_singleton.1 hp
      rw [if_pos rfl]
theorem klast_some {K : List (Str × Rcd)} (hn : (K.map (·.1)).Nodup) (s : Str) : s ∈ K.map (·.1) ↔ (klast K s).isSome = true := by
  constructor
  · intro h
    obtain ⟨p, hp, rfl⟩ := List.mem_map.1 h
    rw [klast_mem K hn p hp]
    rfl
  · intro h
    by_cases hm : s ∈ K.map (·.1)
    · exact hm
    · rw [klast_none K s hm] at h; cases h
theorem KmR.len {w : World} {b n : Nat} {K : List (Str × Rcd)} {F : Str → Option (RcdV × Rcd)} (h : KmR w b n K F) (hn : (K.map (·.1)).Nodup) (ty : TypeId) :
    (Builtin.len_ #[rmapT] ty #[.map (some b)]).run Tryz.prog w = .ok (.int .i64 (K.length : Int)) w := by
  have := h.m.len (L := K.map (·.1)) hn (fun s => by
    rw [klast_some hn s, ← h.k s]
    show _ ↔ (Option.map _ (F s)).isSome = true
    cases F s <;> simp) ty
  rwa [List.length_map] at this
theorem KmR.at {w : World} {b n : Nat} {K : List (Str × Rcd)} {F : Str → Option (RcdV × Rcd)} (h : KmR w b n K F) (hn : (K.map (·.1)).Nodup) {p : Str × Rcd} (hp : p ∈ K) : ∃ V, F p.1 = some (V, p.2) := by
  have h1 := h.k p.1
  rw [klast_mem K hn p hp] at h1
  cases hF : F p.1 with
  | none => rw [hF] at h1; cases h1
  | some q =>
    rw [hF] at h1
    have h1 : some q.2 = some p.2 := h1
    exact ⟨q.1, by rw [← Option.some.inj h1]⟩
def UnsR (w : World) (A : Option Addr) (xs : List ((Option Addr × Nat) × List Nat)) (us : List (List Nat)) : Prop := SlR unF w A us.length xs ∧ (∀ x ∈ xs, SlR inF w x.1.1 x.2.length x.2) ∧ xs.map (·.2) = us
def UnsRes (w : World) (gs : List Grp) (st : List Bool) (e : Ending) (w' : World) : Prop :=
  ∃ (B : Option Addr) (d : Nat) (xs : List ((Option Addr × Nat) × List Nat)) (r : Nat → Nat), LstOk (edgesF gs st) gs.length r ∧ e = .returned (.slice B (unitsF gs st r).length d) ∧ UnsR w' B xs (unitsF gs st r) ∧ Ext w w'
def RbI (F : Nat → Prop) (u : World) (A : Option Addr) (xs : List Nat) : Prop := ∀ v, Only F u v → SlR inF v A xs.length xs
theorem RbI.step {F F' : Nat → Prop} {u u' : World} {A : Option Addr} {xs : List Nat} (h : RbI F u A xs) (hx : Only F u u') (hf : ∀ b, F' b → F b ∨ u.heap.size ≤ b) : RbI F' u' A xs := fun v hv => h v (hx.trans hv fun b hb e => by
  rcases hf b e with h1 | h1
  · exact h1
  · omega)
theorem RbI.fresh {F : Nat → Prop} {u u' : World} {A : Option Addr} {c : Nat} {xs : List Nat} (h : Fresh inF intT u u' A c xs) (hF : ∀ b, F b → b < u.heap.size) : RbI F u' A xs := fun v hv => SlR.of_own (T := inF) (by decide) (own_keep h.own hv fun g hg e => by
  have := h.new g hg
  have := hF g e
  omega)
theorem stB_at {st : List Bool} {i : Nat} {s : Bool} (h : st[i]? = some s) : stB st i = s := by
  simp [stB, List.getD_eq_getElem?_getD, h]
theorem edgeF_none {gs : List Grp} {st : List Bool} {i : Nat} {n : Str} (h : makerF (gs.take i) n = none) : edgeF gs st i n = none := by unfold edgeF; rw [h]
theorem edgeF_some {gs : List Grp} {st : List Bool} {i k : Nat} {n : Str} (h : makerF (gs.take i) n = some k) : edgeF gs st i n = if (stB st i && stB st k) = true then some (i, k) else none := by unfold edgeF; rw [h]
theorem edgeF_off {gs : List Grp} {st : List Bool} {i : Nat} {n : Str} (h : stB st i = false) : edgeF gs st i n = none := by
  unfold edgeF
  split
  · rw [h]; rfl
  · rfl
theorem take_fm {gs : List Grp} {st : List Bool} {i k : Nat} {ns : List Str} {t : Str} (ht : ns[k]? = some t) : (ns.take (k + 1)).filterMap (edgeF gs st i) = (ns.take k).filterMap (edgeF gs st i) ++ (edgeF gs st i t).toList := by
  rw [List.take_add_one, ht, List.filterMap_append]
  congr 1
theorem filt_succ (p : Nat → Bool) (k : Nat) : (List.range (k + 1)).filter p = (List.range k).filter p ++ if p k = true then [k] else [] := by
  rw [List.range_succ, List.filter_append]
  cases h : p k <;> simp [h]
theorem realB_app {gs : List Grp} {ks : List Nat} {k : Nat} : realB gs (ks ++ [k]) = (realB gs ks || nphB gs k) := by simp [realB]
theorem nphB_at {gs : List Grp} {k : Nat} {G : Grp} (h : gs[k]? = some G) : nphB gs k = !G.phony := by unfold nphB; rw [h]
theorem unit_sorted (n : Nat) (st : List Bool) (r : Nat → Nat) (i : Nat) : (unitAt n st r i).Pairwise (· < ·) := List.Pairwise.filter _ List.pairwise_lt_range
section
variable {gs : List Grp} {st : List Bool} {r : Nat → Nat}
theorem lst_root (h : LstOk (edgesF gs st) gs.length r) {k : Nat} (hk : k < gs.length) : r k < gs.length ∧ r (r k) = r k ∧ r k ≤ k := by
  have hc := (h k hk).1
  have hrl : r k < gs.length := hc.lt (fun e he => by have := edgesTo_ok e he; omega) hk
  have a1 := h (r k) hrl
  have a2 : Least (edgesF gs st) (r k) (r k) := ⟨.here, fun y hy => (h k hk).2 y (hc.trans hy)⟩
  exact ⟨hrl, a1.uniq a2, (h k hk).2 k .here⟩
theorem unit_head (h : LstOk (edgesF gs st) gs.length r) {i : Nat} (hne : unitAt gs.length st r i ≠ []) : (unitAt gs.length st r i)[0]? = some i := by
  obtain ⟨k, hk⟩ := List.exists_mem_of_ne_nil _ hne
  obtain ⟨h1, h2, rfl⟩ := unit_mem.1 hk
  obtain ⟨q1, q2, q3⟩ := lst_root h h1
  have hp : ∀ e ∈ edgesF gs st, stB st e.1 = true ∧ stB st e.2 = true := fun e he => (edgesTo_ok e he).2.2
  have hs : stB st (r k) = true := by
    rcases (h k h1).1.stale hp with e | e
    · rw [← e]; exact h2
    · exact e
  have hin : r k ∈ unitAt gs.length st r (r k) := unit_mem.2 ⟨q1, hs, q2⟩
  have hsrt := unit_sorted gs.length st r (r k)
  cases hu : unitAt gs.length st r (r k) with
  | nil => rw [hu] at hin; cases hin
  | cons a t =>
    rw [hu] at hin hsrt
    have ha : a ∈ unitAt gs.length st r (r k) := by rw [hu]; simp
    obtain ⟨a1, a2, a3⟩ := unit_mem.1 ha
    have hle := (lst_root h a1).2.2
    rcases List.mem_cons.1 hin with e | e
    · rw [e]; rfl
    · have := (List.pairwise_cons.1 hsrt).1 _ e
      omega
theorem real_ne {us : List Nat} (h : realB gs us = true) : us ≠ [] := by rintro rfl; cases h
theorem units_at {i : Nat} {u : List Nat} (h : u ∈ unitsTo gs st r i) : ∃ p, p < i ∧ u = unitAt gs.length st r p ∧ realB gs u = true := by
  unfold unitsTo at h
  obtain ⟨p, hp, hu⟩ := List.mem_filterMap.1 h
  obtain ⟨h1, h2⟩ := unit1_some hu
  exact ⟨p, List.mem_range.1 hp, h1, h2⟩
theorem units_rise (h : LstOk (edgesF gs st) gs.length r) : ∀ i, (unitsTo gs st r i).Pairwise fun a b => a.headD 0 < b.headD 0
  | 0 => by simp [unitsTo]
  | i + 1 => by
    rw [unitsTo_succ]
    refine List.pairwise_append.2 ⟨units_rise h i, ?_, fun a ha b hb => ?_⟩
    · cases unit1 gs st r i <;> simp
    · obtain ⟨p, hp, rfl, hr⟩ := units_at ha
      cases hu : unit1 gs st r i with
      | none => rw [hu] at hb; cases hb
      | some u =>
        rw [hu] at hb
        simp at hb
        subst hb
        obtain ⟨rfl, hr2⟩ := unit1_some hu
        have e1 := unit_head h (real_ne hr)
        have e2 := unit_head h (real_ne hr2)
        rw [← List.head?_eq_getElem?] at e1 e2
        rw [List.headD_eq_head?_getD, List.headD_eq_head?_getD, e1, e2]
        exact hp
structure InOk (us : List (List Nat)) (n i p : Nat) (arr : List Nat) : Prop where
  len : arr.length = n
  back : ∀ k, k < n → arr.getD k 0 = 0 ∨ (∃ j u, j < i ∧ us[j]? = some u ∧ k ∈ u ∧ arr.getD k 0 = j + 1) ∨ (∃ u, us[i]? = some u ∧ k ∈ u.take p ∧ arr.getD k 0 = i + 1)
  on : ∀ j u k, j < i → us[j]? = some u → k ∈ u → arr.getD k 0 = j + 1
  here : ∀ u k, us[i]? = some u → k ∈ u.take p → arr.getD k 0 = i + 1
variable {us : List (List Nat)}
theorem units_apart (h : LstOk (edgesF gs st) gs.length r) (hus : us = unitsF gs st r) {i j : Nat} {u v : List Nat} {k : Nat} (hi : us[i]? = some u) (hj : us[j]? = some v) (h1 : k ∈ u) (h2 : k ∈ v) : i = j := by
  subst hus
  obtain ⟨p, _, rfl, hr1⟩ := units_at (List.mem_of_getElem? hi)
  obtain ⟨q, _, rfl, hr2⟩ := units_at (List.mem_of_getElem? hj)
  have e1 := (unit_mem.1 h1).2.2
  have e2 := (unit_mem.1 h2).2.2
  have hpq : p = q := e1.symm.trans e2
  subst hpq
  obtain ⟨hil, ei⟩ := List.getElem?_eq_some_iff.1 hi
  obtain ⟨hjl, ej⟩ := List.getElem?_eq_some_iff.1 hj
  have hp := List.pairwise_iff_getElem.1 (units_rise h gs.length)
  rcases Nat.lt_trichotomy i j with hlt | heq | hgt
  · have := hp i j hil hjl hlt
    rw [ei, ej] at this
    omega
  · exact heq
  · have := hp j i hjl hil hgt
    rw [ei, ej] at this
    omega
theorem InOk.step (h : LstOk (edgesF gs st) gs.length r) (hus : us = unitsF gs st r) {i p k : Nat} {u arr : List Nat} (hI : InOk us gs.length i p arr) (hu : us[i]? = some u) (hk : u[p]? = some k) :
    k < gs.length ∧ stB st k = true ∧ arr.getD k 0 = 0 ∧ (∀ q, p = q + 1 → ∃ m, u[q]? = some m ∧ m < k) ∧ InOk us gs.length i (p + 1) (arr.set k (i + 1)) := by
  have hmem : u ∈ unitsF gs st r := by rw [← hus]; exact List.mem_of_getElem? hu
  obtain ⟨ρ, _, hρ, _⟩ := units_at hmem
  have hkm := List.mem_of_getElem? hk
  have hk2 := hkm
  rw [hρ] at hk2
  obtain ⟨h1, h2, h3⟩ := unit_mem.1 hk2
  have hsrt : u.Pairwise (· < ·) := by rw [hρ]; exact unit_sorted _ _ _ _
  obtain ⟨hpl, ep⟩ := List.getElem?_eq_some_iff.1 hk
  have hnt : k ∉ u.take p := fun hm => by
    obtain ⟨q, hq, e⟩ := List.getElem_of_mem hm
    rw [List.length_take] at hq
    rw [List.getElem_take] at e
    have := List.pairwise_iff_getElem.1 hsrt q p (by omega) hpl (by omega)
    omega
  have h0 : arr.getD k 0 = 0 := by
    rcases hI.back k h1 with h0 | ⟨j, v, b1, b2, b3, _⟩ | ⟨v, b1, b2, _⟩
    · exact h0
    · have := units_apart h hus hu b2 hkm b3
      omega
    · obtain rfl : u = v := by rw [hu] at b1; exact Option.some.inj b1
      exact absurd b2 hnt
  have hset : ∀ x, (arr.set k (i + 1)).getD x 0 = if x = k then i + 1 else arr.getD x 0 := fun x => getD_set (by rw [hI.len]; exact h1)
  have htk : ∀ x, x ∈ u.take (p + 1) ↔ x ∈ u.take p ∨ x = k := fun x => by
    rw [List.take_add_one, hk, List.mem_append]
    simp
  refine ⟨h1, h2, h0, fun q hq => ?_, ⟨by rw [List.length_set]; exact hI.len, fun x hx => ?_, fun j v x hj hv hx => ?_, fun v x hv hx => ?_⟩⟩
  · subst hq
    refine ⟨u[q], List.getElem?_eq_getElem (by omega), ?_⟩
    have := List.pairwise_iff_getElem.1 hsrt q (q + 1) (by omega) hpl (by omega)
    omega
  · rw [hset]
    by_cases e : x = k
    · rw [if_pos e]
      exact .inr (.inr ⟨u, hu, (htk x).2 (.inr e), rfl⟩)
    · rw [if_neg e]
      rcases hI.back x hx with b | b | ⟨v, b1, b2, b3⟩
      · exact .inl b
      · exact .inr (.inl b)
      · obtain rfl : u = v := by rw [hu] at b1; exact Option.some.inj b1
        exact .inr (.inr ⟨u, hu, (htk x).2 (.inl b2), b3⟩)
  · rw [hset, if_neg (fun e => by subst e; have := units_apart h hus hu hv hkm hx; omega)]
    exact hI.on j v x hj hv hx
  · obtain rfl : u = v := by rw [hu] at hv; exact Option.some.inj hv
    rw [hset]
    by_cases e : x = k
    · rw [if_pos e]
    · rw [if_neg e]
      rcases (htk x).1 hx with b | b
      · exact hI.here u x hu b
      · exact absurd b e
end
def plG : Grp := ⟨[[98]], [], [[112, 117, 116, 32, 98, 32, 120]], false⟩
theorem units_len {gs : List Grp} {st : List Bool} {r : Nat → Nat} : (unitsF gs st r).length ≤ gs.length := by
  have h := List.length_filterMap_le (unit1 gs st r) (List.range gs.length)
  rwa [List.length_range] at h
theorem unit_len {gs : List Grp} {st : List Bool} {r : Nat → Nat} : ∀ u ∈ unitsF gs st r, u.length ≤ gs.length := by
  intro u hu
  obtain ⟨p, _, rfl, _⟩ := units_at hu
  have := List.length_filter_le (fun k => stB st k && decide (r k = p)) (List.range gs.length)
  rwa [List.length_range] at this
end Go.Proofs.YtnhaekifcieeoaaGreatDoor
