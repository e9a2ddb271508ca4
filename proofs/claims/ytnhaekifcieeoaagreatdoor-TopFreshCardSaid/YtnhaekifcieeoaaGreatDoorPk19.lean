/- Put together: Un2, Un4, Unk. -/
import Derived.Test.YtnhaekifcieeoaaGreatDoorPk12
import Derived.Test.YtnhaekifcieeoaaGreatDoorPk17
import Derived.Test.YtnhaekifcieeoaaGreatDoorPk18
namespace Go.Proofs.YtnhaekifcieeoaaGreatDoor
open Go Go.RowKit
def klast (K : List (Str × Rcd)) : Str → Option Rcd := K.foldl (fun f p s => if s = p.1 then some p.2 else f s) fun _ => none
theorem klast_snoc (K : List (Str × Rcd)) (p : Str × Rcd) : klast (K ++ [p]) = fun s => if s = p.1 then some p.2 else klast K s := by
  unfold klast
  rw [List.foldl_append]
  rfl
theorem kpF_put {F : Str → Option (RcdV × Rcd)} (s : Str) (V : RcdV) (R : Rcd) : kpF (fun k => if k = s then some (V, R) else F k) = fun k => if k = s then some (rcdV V R) else kpF F k := by
  funext k
  show Option.map _ (if k = s then some (V, R) else F k) = _
  split <;> rfl
structure KmR (w : World) (b n : Nat) (K : List (Str × Rcd)) (F : Str → Option (RcdV × Rcd)) : Prop where
  m : MapR w b n (kpF F)
  r : KpR w F
  k : ∀ s, (F s).map (·.2) = klast K s
theorem KmR.ext {w v : World} {b n : Nat} {K : List (Str × Rcd)} {F : Str → Option (RcdV × Rcd)} (h : KmR w b n K F) (hx : Ext w v) : KmR v b n K F := ⟨h.m.keep hx id, h.r.ext hx, h.k⟩
theorem MapR.row {w v : World} {b n : Nat} {f : Str → Option Value} (h : MapR w b n f) (hx : Only (fun q => q = b) w v) {α : Type} {T : Flat α} {A : Option Addr} {m : Nat} {xs : List α} (hs : SlR T w A m xs) : SlR T v A m xs :=
  ⟨hs.1, fun h0 => by
    obtain ⟨g, o, e, hg, hc⟩ := hs.2 h0
    exact ⟨g, o, e, Nat.lt_of_lt_of_le hg hx.size, fun k x hk j u hu => h.cell hx hg (hc k x hk j u hu)⟩⟩
theorem MapR.rcd {w v : World} {b n : Nat} {f : Str → Option Value} (h : MapR w b n f) (hx : Only (fun q => q = b) w v) {V : RcdV} {r : Rcd} (hs : RcdR w V r) : RcdR v V r := ⟨h.row hx hs.c, h.row hx hs.n, h.row hx hs.o⟩
theorem KmR.put {w : World} {b n : Nat} {K : List (Str × Rcd)} {F : Str → Option (RcdV × Rcd)} (h : KmR w b n K F) (hn : n < maxLen) (s : Str) (hs : s.length ≤ maxLen) {V : RcdV} {R : Rcd} (hr : RcdR w V R) (hl : R.cmds.length ≤ 10000 ∧ R.needs.length ≤ 10000 ∧ R.out.length ≤ 10000) :
    ∃ w' F', (Instr.mapUpdate rmapT (.map (some b)) (S s) (rcdV V R)).run Tryz.prog w = .ok () w' ∧ KmR w' b (n + 1) (K ++ [(s, R)]) F' ∧ Only (fun q => q = b) w w' := by
  obtain ⟨w', h1, h2, h3⟩ := h.m.put hn s hs (rcdV V R)
  refine ⟨w', fun k => if k = s then some (V, R) else F k, h1, ⟨?_, fun t p e => ?_, fun t => ?_⟩, h3⟩
  · rw [kpF_put]; exact h2
  · by_cases ht : t = s
    · have e : (if t = s then some (V, R) else F t) = some p := e
      rw [if_pos ht] at e
      cases e
      exact ⟨h.m.rcd h3 hr, hl⟩
    · have e : (if t = s then some (V, R) else F t) = some p := e
      rw [if_neg ht] at e
      obtain ⟨q1, q2⟩ := h.r t p e
      exact ⟨h.m.rcd h3 q1, q2⟩
  · rw [klast_snoc]
    show (if t = s then some (V, R) else F t).map _ = if t = s then some R else klast K t
    by_cases ht : t = s
    · rw [if_pos ht, if_pos ht]; rfl
    · rw [if_neg ht, if_neg ht]; exact h.k t
def UnitRes (w : World) (R : (List File × List (Str × Rcd)) × Int) (e : Ending) (w' : World) : Prop :=
  Ext w w' ∧ ((R.2 = 0 ∧ ∃ (A : Option Addr) (c b n : Nat) (F : Str → Option (RcdV × Rcd)), e = .returned (.tuple #[.slice A R.1.1.length c, .map (some b), .nilIface]) ∧ SlR fileF w' A R.1.1.length R.1.1 ∧ KmR w' b n R.1.2 F ∧ w.heap.size ≤ b ∧ n ≤ 1000) ∨
    (R.2 ≠ 0 ∧ e = .returned (.tuple #[.slice none 0 0, .map none, errV R.2])))
theorem unitM_step {gs : List Grp} {u : List Nat} {i k : Nat} {G : Grp} {l out : List File} {K : List (Str × Rcd)} (hk : u[i]? = some k) (hG : gs[k]? = some G) :
    unitM gs (u.drop i) l out K = if G.phony = true then unitM gs (u.drop (i + 1)) l out K else if (oneF l G).2 ≠ 0 then (([], []), (oneF l G).2)
      else unitM gs (u.drop (i + 1)) (putAll (oneF l G).1.1 l) (putAll (oneF l G).1.1 out) (K ++ [(G.targets.headD [], (oneF l G).1.2)]) := by
  obtain ⟨h1, h2⟩ := List.getElem?_eq_some_iff.1 hk
  rw [List.drop_eq_getElem_cons h1, h2, unitM, hG]
theorem putAll_snoc (own l : List File) (f : File) : putAll (own ++ [f]) l = putL fk f (putAll own l) := by
  unfold putAll
  rw [List.foldl_append]
  rfl
theorem putAll_take {own : List File} {j : Nat} {f : File} (hf : own[j]? = some f) (l : List File) : putAll (own.take (j + 1)) l = putL fk f (putAll (own.take j) l) := by
  rw [List.take_add_one, hf]
  exact putAll_snoc _ _ _
theorem oneF_fit {l : List File} {G : Grp} (hb : GBu G) (hf : FBu l) : Rise fk (oneF l G).1.1 ∧ (oneF l G).1.1.length ≤ 100 ∧ (∀ f ∈ (oneF l G).1.1, f.1.length ≤ 10000 ∧ f.2.length ≤ 1000) ∧ (oneF l G).1.2.Lim := by
  have h1 := allF_fit l G
  have h2 := allF_names (xs := l) hb.lt
  have h0 : rcd0.Lim := ⟨by decide, by decide, by decide, (fun x hx => by cases hx), (fun x hx => by cases hx), (fun x hx => by cases hx)⟩
  have hol : (allF l G).1.length ≤ 100 := Nat.le_trans h1.2.1 hb.c
  unfold oneF
  split
  · exact ⟨List.Pairwise.nil, Nat.zero_le _, (fun f hf => by cases hf), h0⟩
  · split
    · exact ⟨List.Pairwise.nil, Nat.zero_le _, (fun f hf => by cases hf), h0⟩
    · exact ⟨h1.1, hol, h2, recOf_lim hf.x h2 hb.c hb.n hol (fun x hx => by have := hb.lc x hx; omega) hb.ln⟩
theorem FBu.put {l : List File} (h : FBu l) {own : List File} (ho : ∀ f ∈ own, f.1.length ≤ 10000 ∧ f.2.length ≤ 1000) (hn : l.length + own.length ≤ 1000) : FBu (putAll own l) :=
  ⟨Nat.le_trans (putAll_len own l) hn, putAll_rise own h.r, fun f hf => (putAll_mem own hf).elim (ho f) (h.x f)⟩
set_option maxRecDepth 100000 in
set_option maxHeartbeats 1000000 in
theorem Unit_c {w : World} (hE : EnvT w) {A : Option Addr} {c : Nat} {os : List (RulA × Grp)} {gs : List Grp} (hG : GrpsR w A os gs) (hb : ∀ g ∈ gs, GBu g ∧ 1 ≤ g.targets.length ∧ g.cmds.length ≤ 3)
    {uA : Option Addr} {uc : Nat} {u : List Nat} (hu : SlR inF w uA u.length u) (hun : u.length ≤ 10) (hul : ∀ k ∈ u, k < gs.length) {lA : Option Addr} {lc : Nat} {l : List File} (hl : SlR fileF w lA l.length l) (hf : FBu l) (hln : l.length ≤ 500) :
    Calls Tryz.prog 24 #[.slice A gs.length c, .slice uA u.length uc, .slice lA l.length lc] w (UnitRes w (unitM gs u l [] [])) := by
  have HG := Lib.hid hG
  have HB := Lib.hid hb
  have HU := Lib.hid hu
  have HUl := Lib.hid hul
  have HE := Lib.hid hE
  have HL := Lib.hid hl
  have HF := Lib.hid hf
  have hmm := @run_makeMap Tryz.prog
  obtain ⟨w1, hw1⟩ : ∃ u, u = w.alloc (.map #[] 0) := ⟨_, rfl⟩
  obtain ⟨b, hbb⟩ : ∃ b, b = w.heap.size := ⟨_, rfl⟩
  have M1 : Hid (KmR w1 b 0 [] fun _ => none) := ⟨by rw [hw1, hbb]; exact MapR.made w, (fun s p e => by cases e), fun s => rfl⟩
  have X1 : Hid (Ext w w1) := by rw [hw1]; exact (Only.refl No w).alloc _
  have HBb : Hid (w.heap.size ≤ b) := Nat.le_of_eq hbb.symm
  clear hG hb hu hul hE hl hf
  go_enter Tryz.func24, Tryz.ntmps24
  go_upto_region 3 with fail
  rw [← hw1, ← hbb]
  clear hw1 hbb hmm
  go_wp2_with fail
  go_loopw [22, 9, 2] (fun iv ov lv wr => ∃ i : Nat, i ≤ u.length ∧ iv = .int .i64 i ∧ ∃ (oA : Option Addr) (oc : Nat) (O : List File) (LA : Option Addr) (Lc : Nat) (L : List File) (K : List (Str × Rcd)) (F : Str → Option (RcdV × Rcd)) (n : Nat),
    ov = .slice oA O.length oc ∧ lv = .slice LA L.length Lc ∧ SlR fileF wr oA O.length O ∧ SlR fileF wr LA L.length L ∧ Rise fk O ∧ O.length ≤ 3 * i ∧ FBu L ∧ L.length ≤ l.length + 3 * i ∧ KmR wr b n K F ∧ n ≤ i ∧ unitM gs (u.drop i) L O K = unitM gs u l [] [] ∧ Ext w wr) (fun iv _ _ _ => u.length - (intOf iv).toNat)
  case atStart => exact ⟨0, Nat.zero_le _, rfl, none, 0, [], lA, lc, l, [], _, 0, rfl, rfl, SlR.none_, HL.out.ext X1.out, List.Pairwise.nil, Nat.le_refl _, HF.out, by omega, M1.out, Nat.le_refl _, rfl, X1.out⟩
  case round =>
    clear M1 X1 HL HF
    obtain ⟨i, hi, rfl, oA, oc, O, LA, Lc, L, K, F, n, rfl, rfl, hO, hL, hRO, hOl, hFL, hLl, hM, hni, hEq, hx⟩ := hrel
    have HO := Lib.hid hO
    have HL := Lib.hid hL
    have HRO := Lib.hid hRO
    have HFL := Lib.hid hFL
    have HM := Lib.hid hM
    have HEq := Lib.hid hEq
    have XR := Lib.hid hx
    clear hO hL hRO hFL hM hEq hx
    by_cases hlt : i < u.length
    · obtain ⟨bu, ou, k, rfl, huk, cu⟩ := ins_get HU.out hlt
      have hkg : k < gs.length := HUl.out k (List.mem_of_getElem? huk)
      obtain ⟨bg, o, ⟨⟨tA, tc, nA, nc, cA, cc⟩, G⟩, rfl, hox, c0, c1, c2, c3⟩ := grps_get HG.out.row hkg
      have hgi : gs[k]? = some G := by rw [← HG.out.om, List.getElem?_map, hox]; rfl
      obtain ⟨hGb, hG1, hG3⟩ := HB.out G (List.mem_of_getElem? hgi)
      have HGb := Lib.hid hGb
      have HGr : Hid (SlR strF w tA G.targets.length G.targets ∧ SlR strF w nA G.needs.length G.needs ∧ SlR strF w cA G.cmds.length G.cmds) := HG.out.rr _ (List.mem_of_getElem? hox)
      have HSt := Lib.hid (unitM_step (l := L) (out := O) (K := K) huk hgi)
      have e0 : wr.cell? ⟨bu, ou + i, none⟩ = some (.int .i64 (k : Int)) := cu ⟨wr, XR.out⟩
      have q0 : wr.cell? ⟨bg, o + k * 4, none⟩ = some (.slice tA G.targets.length tc) := c0 ⟨wr, XR.out⟩
      have q1 : wr.cell? ⟨bg, o + k * 4 + 1, none⟩ = some (.slice nA G.needs.length nc) := c1 ⟨wr, XR.out⟩
      have q2 : wr.cell? ⟨bg, o + k * 4 + 2, none⟩ = some (.slice cA G.cmds.length cc) := c2 ⟨wr, XR.out⟩
      have q3 : wr.cell? ⟨bg, o + k * 4 + 3, none⟩ = some (.bool G.phony) := c3 ⟨wr, XR.out⟩
      clear cu c0 c1 c2 c3 hox hgi huk hGb
      go_upto_region 7 with fail
      obtain ⟨w2, hw2⟩ : ∃ u, u = wr.alloc (.cells #[.slice tA G.targets.length tc, .slice nA G.needs.length nc, .slice cA G.cmds.length cc, .bool G.phony] grpT) := ⟨_, rfl⟩
      obtain ⟨b7, hb7⟩ : ∃ g, g = wr.heap.size := ⟨_, rfl⟩
      rw [← hw2, ← hb7]
      have x2 : Ext wr w2 := by rw [hw2]; exact (Only.refl No _).alloc _
      have B7 : Hid (Cs w2 b7 grpT #[.slice tA G.targets.length tc, .slice nA G.needs.length nc, .slice cA G.cmds.length cc, .bool G.phony]) := by rw [hw2, hb7]; exact Cs.new _ _ _
      have X2 := Lib.hid (XR.out.then_ext x2)
      have HO2 := Lib.hid (HO.out.ext x2)
      have HL2 := Lib.hid (HL.out.ext x2)
      have HM2 := Lib.hid (HM.out.ext x2)
      have HSz : Hid (wr.heap.size ≤ b7) := Nat.le_of_eq hb7.symm
      have y0 : w2.cell? ⟨b7, 0, none⟩ = some (.slice tA G.targets.length tc) := B7.out.cell 0
      have y1 : w2.cell? ⟨b7, 1, none⟩ = some (.slice nA G.needs.length nc) := B7.out.cell 1
      have y2 : w2.cell? ⟨b7, 2, none⟩ = some (.slice cA G.cmds.length cc) := B7.out.cell 2
      have y3 : w2.cell? ⟨b7, 3, none⟩ = some (.bool G.phony) := B7.out.cell 3
      have HOne : Hid (Calls Tryz.prog 48 #[.agg #[.slice tA G.targets.length tc, .slice nA G.needs.length nc, .slice cA G.cmds.length cc, .bool G.phony], .slice LA L.length Lc] w2 (OneRes w2 L G)) := One_c (a := ⟨tA, tc, nA, nc, cA, cc⟩) (HE.out.ext X2.out) (HGr.out.1.ext X2.out) (HGr.out.2.1.ext X2.out) (HGr.out.2.2.ext X2.out) HGb.out HL2.out HFL.out
      clear hw2 hb7 x2 q0 q1 q2 q3 e0 HO HL HM XR
      obtain ⟨ph, hph⟩ : ∃ b, b = G.phony := ⟨_, rfl⟩
      rw [← hph] at HSt y3 HOne B7
      clear hph
      cases ph with
      | true =>
        have HEq2 : Hid (unitM gs (u.drop (i + 1)) L O K = unitM gs u l [] []) := by rw [Hid, ← HEq.out, HSt.out, if_pos rfl]
        go_wp2_with fail
        go_roundw
        case rel => exact ⟨i + 1, by omega, by go_num, oA, oc, O, LA, Lc, L, K, F, n, rfl, rfl, HO2.out, HL2.out, HRO.out, by omega, HFL.out, by omega, HM2.out, by omega, HEq2.out, X2.out⟩
        case measure => simp [intOf]; omega
      | false =>
        have HFit := Lib.hid (oneF_fit HGb.out HFL.out)
        have HAl := Lib.hid (show (oneF L G).1.1.length ≤ 3 by
          have := (allF_fit L G).2.1
          unfold oneF
          split
          · exact Nat.zero_le _
          · split
            · exact Nat.zero_le _
            · exact Nat.le_trans this hG3)
        have HOne2 : Hid (Calls Tryz.prog 48 #[.agg #[.slice tA G.targets.length tc, .slice nA G.needs.length nc, .slice cA G.cmds.length cc, .bool false], .slice LA L.length Lc] w2 fun e w' => ∃ (B : Option Addr) (d : Nat) (V : RcdV), e = .returned (.tuple #[.slice B (oneF L G).1.1.length d, rcdV V (oneF L G).1.2, errV (oneF L G).2]) ∧ SlR fileF w' B (oneF L G).1.1.length (oneF L G).1.1 ∧ RcdR w' V (oneF L G).1.2 ∧ Ext w2 w') := HOne.out
        obtain ⟨⟨⟨own, R⟩, f⟩, hof⟩ : ∃ R, R = oneF L G := ⟨_, rfl⟩
        rw [← hof] at HFit HAl HOne2 HSt
        have HSt2 : Hid (unitM gs (u.drop i) L O K = if f ≠ 0 then (([], []), f) else unitM gs (u.drop (i + 1)) (putAll own L) (putAll own O) (K ++ [(G.targets.headD [], R)])) := by rw [Hid, HSt.out, if_neg (by decide)]
        have hal : own.length ≤ 3 := HAl.out
        clear hof HSt HOne HAl
        go_wp2_with fail
        refine HOne2.out.mono ?_
        rintro e u3 ⟨B, d, ⟨p1, e1, p2, e2, p3, e3⟩, he, hw, hr, hx⟩
        have he : e = .returned (.tuple #[.slice B own.length d, .agg #[.slice p1 R.cmds.length e1, .slice p2 R.needs.length e2, .slice p3 R.out.length e3], errV f]) := he
        subst he
        have X3 := Lib.hid (X2.out.then_ext hx)
        have HW := Lib.hid (show SlR fileF u3 B own.length own from hw)
        have HRr := Lib.hid (show RcdR u3 ⟨p1, e1, p2, e2, p3, e3⟩ R from hr)
        have B73 := Lib.hid (B7.out.keep hx id)
        have HO3 := Lib.hid (HO2.out.ext hx)
        have HL3 := Lib.hid (HL2.out.ext hx)
        have HM3 := Lib.hid (HM2.out.ext hx)
        clear hw hr hx HOne2 y0 y1 y2 y3 HO2 HL2 HM2 B7
        go_upto_region 9 with fail
        obtain ⟨w4, hw4⟩ : ∃ u, u = u3.alloc (.cells #[.slice p1 R.cmds.length e1, .slice p2 R.needs.length e2, .slice p3 R.out.length e3] rcT) := ⟨_, rfl⟩
        obtain ⟨b15, hb15⟩ : ∃ b, b = u3.heap.size := ⟨_, rfl⟩
        rw [← hw4, ← hb15]
        have x4 : Ext u3 w4 := by rw [hw4]; exact (Only.refl No u3).alloc _
        have C15 : Hid (Cs w4 b15 rcT #[.slice p1 R.cmds.length e1, .slice p2 R.needs.length e2, .slice p3 R.out.length e3]) := by rw [hw4, hb15]; exact Cs.new _ _ _
        have X4 := Lib.hid (X3.out.then_ext x4)
        have HW4 := Lib.hid (HW.out.ext x4)
        have HRr4 := Lib.hid (HRr.out.ext x4)
        have B74 := Lib.hid (B73.out.keep x4 id)
        have HO4 := Lib.hid (HO3.out.ext x4)
        have HL4 := Lib.hid (HL3.out.ext x4)
        have HM4 := Lib.hid (HM3.out.ext x4)
        clear hw4 hb15 x4 HW HRr B73 HO3 HL3 HM3 X3 X2
        by_cases hf : f = 0
        case neg =>
          have HV : Hid (unitM gs u l [] [] = (([], []), f)) := by rw [Hid, ← HEq.out, HSt2.out, if_pos hf]
          have HE := Lib.hid (errV_pos hf)
          rw [errV_pos hf]
          go_wp2_with fail
          go_ret3
          rw [HV.out]
          exact ⟨X4.out, .inr ⟨hf, by rw [HE.out]; rfl⟩⟩
        subst hf
        rw [errV_zero]
        have HSt3 : Hid (unitM gs (u.drop (i + 1)) (putAll own L) (putAll own O) (K ++ [(G.targets.headD [], R)]) = unitM gs u l [] []) := by rw [Hid, ← HEq.out, HSt2.out, if_neg (fun h => h rfl)]
        clear HSt2 HEq
        go_wp2_with fail
        go_loopw [44, 2, 9] (fun jv lv ov wr => ∃ j : Nat, j ≤ own.length ∧ jv = .int .i64 j ∧ ∃ (oA : Option Addr) (oc : Nat) (LA : Option Addr) (Lc : Nat), ov = .slice oA (putAll (own.take j) O).length oc ∧ lv = .slice LA (putAll (own.take j) L).length Lc ∧
          SlR fileF wr oA (putAll (own.take j) O).length (putAll (own.take j) O) ∧ SlR fileF wr LA (putAll (own.take j) L).length (putAll (own.take j) L) ∧ Ext w4 wr) (fun jv _ _ _ => own.length - (intOf jv).toNat)
        case atStart => exact ⟨0, Nat.zero_le _, rfl, oA, oc, LA, Lc, rfl, rfl, HO4.out, HL4.out, Only.refl _ _⟩
        case round =>
          clear HO4 HL4
          obtain ⟨j, hj, rfl, oA, oc, LA, Lc, rfl, rfl, hO, hL, hx⟩ := hrel
          have HO5 := Lib.hid hO
          have HL5 := Lib.hid hL
          have XJ := Lib.hid hx
          clear hO hL hx
          have hPl := putAll_len (own.take j) L
          have hPo := putAll_len (own.take j) O
          have hTk : (own.take j).length ≤ j := by rw [List.length_take]; omega
          have HPr := Lib.hid (putAll_rise (own.take j) HFL.out.r)
          have HPo := Lib.hid (putAll_rise (own.take j) HRO.out)
          by_cases hlj : j < own.length
          · obtain ⟨bw, ow, ⟨fn, ft⟩, rfl, hfj, d0, d1⟩ := files_get HW4.out hlj
            have HT1 := Lib.hid (putAll_take hfj L)
            have HT2 := Lib.hid (putAll_take hfj O)
            have g0 : wr.cell? ⟨bw, ow + j * 2, none⟩ = some (S fn) := d0 ⟨wr, XJ.out⟩
            have g1 : wr.cell? ⟨bw, ow + j * 2 + 1, none⟩ = some (S ft) := d1 ⟨wr, XJ.out⟩
            clear d0 d1 hfj
            obtain ⟨Lj, hLj⟩ : ∃ x, x = putAll (own.take j) L := ⟨_, rfl⟩
            obtain ⟨Oj, hOj⟩ : ∃ x, x = putAll (own.take j) O := ⟨_, rfl⟩
            rw [← hLj] at HL5 hPl HPr HT1 ⊢
            rw [← hOj] at HO5 hPo HPo HT2 ⊢
            clear hLj hOj
            go_upto_region 14 with fail
            obtain ⟨w5, hw5⟩ : ∃ u, u = wr.alloc (.cells #[S fn, S ft] 75) := ⟨_, rfl⟩
            obtain ⟨b18, hb18⟩ : ∃ b, b = wr.heap.size := ⟨_, rfl⟩
            rw [← hw5, ← hb18]
            have x5 : Ext wr w5 := by rw [hw5]; exact (Only.refl No wr).alloc _
            have C18 : Hid (Cs w5 b18 75 #[S fn, S ft]) := by rw [hw5, hb18]; exact Cs.new _ _ _
            have XJ5 := Lib.hid (XJ.out.then_ext x5)
            have HP1 := Lib.hid (Put_c (c := Lc) (HL5.out.ext x5) (by omega) (fn, ft) HPr.out)
            have HO6 := Lib.hid (HO5.out.ext x5)
            have j0 : w5.cell? ⟨b18, 0, none⟩ = some (S fn) := C18.out.cell 0
            have j1 : w5.cell? ⟨b18, 1, none⟩ = some (S ft) := C18.out.cell 1
            obtain ⟨Lk, hLk⟩ : ∃ x, x = putL fk (fn, ft) Lj := ⟨_, rfl⟩
            obtain ⟨Ok, hOk⟩ : ∃ x, x = putL fk (fn, ft) Oj := ⟨_, rfl⟩
            rw [← hLk] at HP1 HT1
            rw [← hOk] at HT2
            have HOk := Lib.hid hOk
            clear hw5 hb18 x5 g0 g1 HL5 HO5 hLk hOk
            go_wp2_with fail
            refine HP1.out.mono ?_
            rintro e u6 ⟨A6, c6, rfl, hF6⟩
            have X6 := Lib.hid (XJ5.out.then_ext hF6.ext)
            have R6 := Lib.hid (hF6.row (by decide))
            have HP2 := Lib.hid (Put_c (c := oc) (HO6.out.ext hF6.ext) (by omega) (fn, ft) HPo.out)
            have C186 := C18.out.keep hF6.ext id
            clear j0 j1 hF6 HP1
            rw [← HOk.out] at HP2
            have j0 : u6.cell? ⟨b18, 0, none⟩ = some (S fn) := C186.cell 0
            have j1 : u6.cell? ⟨b18, 1, none⟩ = some (S ft) := C186.cell 1
            clear C186
            go_wp2_with fail
            refine HP2.out.mono ?_
            rintro e u7 ⟨A7, c7, rfl, hF7⟩
            have X7 := Lib.hid (X6.out.then_ext hF7.ext)
            have R7 := Lib.hid (hF7.row (by decide))
            have R67 := Lib.hid (R6.out.ext hF7.ext)
            clear hF7 HP2 j0 j1
            go_wp2_with fail
            go_roundw
            case rel => exact ⟨j + 1, by omega, by go_num, A7, c7, A6, c6, by rw [HT2.out], by rw [HT1.out], by rw [HT2.out]; exact R7.out, by rw [HT1.out]; exact R67.out, X7.out⟩
            case measure => simp [intOf]; omega
          · obtain rfl : j = own.length := by omega
            rw [List.take_of_length_le (Nat.le_refl _)] at HO5 HL5 hPl hPo HPr HPo ⊢
            obtain ⟨bt, ot, t, hAt, hti, ct⟩ := strs_get HGr.out.1 (k := 0) (by omega)
            have htt : G.targets.headD [] = t := by
              cases htl : G.targets with
              | nil => rw [htl] at hti; cases hti
              | cons p r => rw [htl] at hti; exact Option.some.inj hti
            subst hAt
            have hTl : t.length ≤ 10000 := HGb.out.lt t (List.mem_of_getElem? hti)
            have xd : Ext wr wr.drew := (Only.refl No _).drew
            obtain ⟨w9, F', r1, r2, r3⟩ := ((HM4.out.ext XJ.out).ext xd).put (show n < maxLen by unfold maxLen; omega) t (by unfold maxLen; omega) ((HRr4.out.ext XJ.out).ext xd) (by have := HFit.out.2.2.2; exact ⟨by have := this.c; omega, by have := this.n; omega, by have := this.o; omega⟩)
            have R2 := Lib.hid r2
            have HSt4 : Hid (unitM gs (u.drop (i + 1)) (putAll own L) (putAll own O) (K ++ [(t, R)]) = unitM gs u l [] []) := by rw [Hid, ← htt]; exact HSt3.out
            have HM' := HM4.out.ext XJ.out
            have X9 : Hid (Ext w w9) := ((X4.out.then_ext XJ.out).then_ext xd).trans r3 fun q hq e => by have e : q = b := e; have := HBb.out; omega
            have HO9 : Hid (SlR fileF w9 oA (putAll own O).length (putAll own O)) := (HM'.ext xd).m.row r3 (HO5.out.ext xd)
            have HL9 : Hid (SlR fileF w9 LA (putAll own L).length (putAll own L)) := (HM'.ext xd).m.row r3 (HL5.out.ext xd)
            have hmu : (Instr.mapUpdate rmapT (.map (some b)) (S t) (.agg #[.slice p1 R.cmds.length e1, .slice p2 R.needs.length e2, .slice p3 R.out.length e3])).run Tryz.prog wr.drew = .ok () w9 := r1
            have f0 : ∀ ξ : X wr No, ξ.v.cell? ⟨b7, 0, none⟩ = some (.slice (some ⟨bt, ot, none⟩) G.targets.length tc) := (B74.out.keep XJ.out id).x id 0
            have f1 : ∀ ξ : X wr No, ξ.v.cell? ⟨bt, ot, none⟩ = some (S t) := fun ξ => ct ⟨ξ.v, (X4.out.then_ext XJ.out).then_ext ξ.h⟩
            have f2 : ∀ ξ : X wr No, ξ.v.cell? ⟨b15, 0, none⟩ = some (.slice p1 R.cmds.length e1) := (C15.out.keep XJ.out id).x id 0
            have f3 : ∀ ξ : X wr No, ξ.v.cell? ⟨b15, 1, none⟩ = some (.slice p2 R.needs.length e2) := (C15.out.keep XJ.out id).x id 1
            have f4 : ∀ ξ : X wr No, ξ.v.cell? ⟨b15, 2, none⟩ = some (.slice p3 R.out.length e3) := (C15.out.keep XJ.out id).x id 2
            have hlt0 : 0 < G.targets.length := by omega
            have HFL2 := Lib.hid (HFL.out.put HFit.out.2.2.1 (by omega))
            have HQl : Hid ((putAll own L).length ≤ L.length + own.length ∧ (putAll own O).length ≤ O.length + own.length) := ⟨putAll_len _ _, putAll_len _ _⟩
            clear hti ct htt xd r1 r2 r3 HM'
            go_upto_region 17 with fail
            refine Mix.wp_draw [6] 6 (Cl wr No) (by kernel_rfl) (by kernel_rfl) (Cl.of (Only.refl _ _).drew) ?_
            (repeat' (refine Mix.lex_quiet0 rfl rfl rfl ?_; intro K hK; go_big_quiet_op; go_big_quiet_on))
            ((first | refine Mix.lex_goes0 rfl rfl ?_ | refine Mix.lex_goesG rfl rfl rfl (by with_reducible rfl) rfl ?_); intro K hK; go_simp)
            refine hK _ _ (fun hne => absurd rfl hne) ?_
            clear hK K f0 f1 f2 f3 f4 hmu
            simp only [Act.put, List.setIfInBounds_toArray, List.set_cons_succ, List.set_cons_zero]
            refine Mix.lex_nil ?_
            go_wp2_with fail
            go_roundw
            case rel => exact ⟨i + 1, by omega, by go_num, oA, oc, putAll own O, LA, Lc, putAll own L, _, F', n + 1, rfl, rfl, HO9.out, HL9.out, HPo.out, by have := HQl.out.2; omega, HFL2.out, by have := HQl.out.1; omega, R2.out, by omega, HSt4.out, X9.out⟩
            case measure => simp [intOf]; omega
    · obtain rfl : i = u.length := by omega
      have HV : Hid (unitM gs u l [] [] = ((O, K), 0)) := by rw [Hid, ← HEq.out, List.drop_of_length_le (Nat.le_refl _)]; rfl
      go_wp2_with fail
      go_ret3
      rw [HV.out]
      exact ⟨XR.out, .inl ⟨rfl, oA, oc, b, n, F, rfl, HO.out, HM.out, HBb.out, by omega⟩⟩
theorem snoc_ind {α : Type} {P : List α → Prop} (h0 : P []) (h1 : ∀ K p, P K → P (K ++ [p])) (K : List α) : P K := by
  rw [← List.reverse_reverse K]
  generalize K.reverse = L
  induction L with
  | nil => exact h0
  | cons a L ih => rw [List.reverse_cons]; exact h1 _ _ ih
theorem klast_none (K : List (Str × Rcd)) : ∀ (s : Str), s ∉ K.map (·.1) → klast K s = none := by
  refine snoc_ind (P := fun K => ∀ (s : Str), s ∉ K.map (·.1) → klast K s = none) (fun s _ => rfl) (fun K p ih => ?_) K
  · intro s hs
    rw [klast_snoc]
    simp only [List.map_append, List.map_cons, List.map_nil, List.mem_append, List.mem_singleton, not_or] at hs
    show (if s = p.1 then some p.2 else klast K s) = none
    rw [if_neg hs.2]
    exact ih s hs.1
theorem klast_mem (K : List (Str × Rcd)) : (K.map (·.1)).Nodup → ∀ p ∈ K, klast K p.1 = some p.2 := by
  refine snoc_ind (P := fun K => (K.map (·.1)).Nodup → ∀ p ∈ K, klast K p.1 = some p.2) (fun _ p hp => by cases hp) (fun K q ih => ?_) K
  · intro hn p hp
    rw [klast_snoc]
    show (if p.1 = q.1 then some q.2 else klast K p.1) = some p.2
    rw [List.map_append, List.nodup_append] at hn
    rcases List.mem_append.1 hp with hp | hp
    · rw [if_neg (fun e => hn.2.2 _ (List.mem_map_of_mem hp) _ (by simp) e)]
      exact ih hn.1 p hp
    · obtain rfl := List.mem_singleton.1 hp
      rw [if_pos rfl]
theorem klast_some {K : List (Str × Rcd)} (hn : (K.map (·.1)).Nodup) (s : Str) : s ∈ K.map (·.1) ↔ (klast K s).isSome = true := by
  constructor
  · intro h
    obtain ⟨p, hp, rfl⟩ := List.mem_map.1 h
    rw [klast_mem K hn p hp]
    rfl
  · intro h
    by_cases hm : s ∈ K.map (·.1)
    · exact hm
    · rw [klast_none K s hm] at h; cases h
theorem KmR.len {w : World} {b n : Nat} {K : List (Str × Rcd)} {F : Str → Option (RcdV × Rcd)} (h : KmR w b n K F) (hn : (K.map (·.1)).Nodup) (ty : TypeId) :
    (Builtin.len_ #[rmapT] ty #[.map (some b)]).run Tryz.prog w = .ok (.int .i64 (K.length : Int)) w := by
  have := h.m.len (L := K.map (·.1)) hn (fun s => by
    rw [klast_some hn s, ← h.k s]
    show _ ↔ (Option.map _ (F s)).isSome = true
    cases F s <;> simp) ty
  rwa [List.length_map] at this
theorem KmR.at {w : World} {b n : Nat} {K : List (Str × Rcd)} {F : Str → Option (RcdV × Rcd)} (h : KmR w b n K F) (hn : (K.map (·.1)).Nodup) {p : Str × Rcd} (hp : p ∈ K) : ∃ V, F p.1 = some (V, p.2) := by
  have h1 := h.k p.1
  rw [klast_mem K hn p hp] at h1
  cases hF : F p.1 with
  | none => rw [hF] at h1; cases h1
  | some q =>
    rw [hF] at h1
    have h1 : some q.2 = some p.2 := h1
    exact ⟨q.1, by rw [← Option.some.inj h1]⟩
end Go.Proofs.YtnhaekifcieeoaaGreatDoor
