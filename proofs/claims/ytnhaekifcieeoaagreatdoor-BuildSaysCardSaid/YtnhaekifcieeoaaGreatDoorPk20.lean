/- Put together: Pl4, Gx6, Gx7, Gx8, Gx9, Ton, Rex. -/
import Derived.Test.YtnhaekifcieeoaaGreatDoorPk16
import Derived.Test.YtnhaekifcieeoaaGreatDoorPk13
import Derived.Test.YtnhaekifcieeoaaGreatDoorPk11
import Derived.Test.YtnhaekifcieeoaaGreatDoorPk04
import Derived.Test.YtnhaekifcieeoaaGreatDoorPk19
import Derived.Test.YtnhaekifcieeoaaGreatDoorPk12
import Derived.Test.YtnhaekifcieeoaaGreatDoorPk09
namespace Go.Proofs.YtnhaekifcieeoaaGreatDoor
open Go Go.RowKit
theorem least_ex {P : Nat → Prop} : ∀ n, P n → ∃ m, P m ∧ ∀ y, P y → m ≤ y := by
  intro n
  induction n using Nat.strongRecOn with
  | ind n ih =>
    intro hn
    by_cases h : ∃ k, k < n ∧ P k
    · obtain ⟨k, hk, hp⟩ := h
      exact ih k hk hp
    · refine ⟨n, hn, fun y hy => ?_⟩
      rcases Nat.lt_or_ge y n with hlt | hge
      · exact absurd ⟨y, hlt, hy⟩ h
      · exact hge
theorem marks_ok (gs : List Grp) (st : List Bool) : LstOk (edgesF gs st) gs.length (fun k => (sweepsF (edgesF gs st) gs.length (List.range gs.length)).getD k 0) := by
  intro k hk
  obtain ⟨m, h1, h2⟩ := least_ex (P := Conn (edgesF gs st) k) k .here
  have := marks_least (fun e he => by have := edgesTo_ok e he; omega) hk (show Least (edgesF gs st) k m from ⟨h1, h2⟩)
  show Least _ _ ((sweepsF (edgesF gs st) gs.length (List.range gs.length)).getD k 0)
  rw [this]
  exact ⟨h1, h2⟩
theorem sweep_app (A B : List Edge) (mk : List Nat) : sweepF (A ++ B) mk = sweepF B (sweepF A mk) := List.foldl_append ..
theorem sweep_len : ∀ (E : List Edge) (mk : List Nat), (sweepF E mk).length = mk.length
  | [], _ => rfl
  | e :: E, mk => by
    show (sweepF E (relaxF mk e)).length = _
    rw [sweep_len E]
    unfold relaxF
    rw [List.length_set, List.length_set]
theorem pad_set {n i : Nat} (hi : i < n) : (List.range i ++ List.replicate (n - i) 0).set i i = List.range (i + 1) ++ List.replicate (n - (i + 1)) 0 := by
  have : List.replicate (n - i) 0 = 0 :: List.replicate (n - (i + 1)) 0 := by
    rw [show n - i = (n - (i + 1)) + 1 by omega, List.replicate_succ]
  rw [this, List.set_append_right _ _ (by simp), List.length_range, Nat.sub_self, List.range_succ]
  simp
set_option maxRecDepth 100000 in
set_option maxHeartbeats 8000000 in
theorem RUnits_c {w : World} {A : Option Addr} {c : Nat} {os : List (RulA × Grp)} {gs : List Grp} (hG : GrpsR w A os gs) (hgs : gs.length ≤ 10) (hcap : gs.length ≤ c) (hb : ∀ g ∈ gs, GB3 g) {sA : Option Addr} {sc : Nat} {st : List Bool} (hS : SlR boF w sA gs.length st) :
    Calls Tryz.prog 23 #[.slice A gs.length c, .slice sA gs.length sc] w (UnsRes w gs st) := by
  have hsl : st.length = gs.length := hS.1
  have HG := Lib.hid hG
  have HS := Lib.hid hS
  have HB := Lib.hid hb
  have hmk := make_ints gs.length (by omega)
  obtain ⟨w1, hw1⟩ : ∃ u, u = w.alloc (.cells (upV (List.replicate gs.length 0)) intT) := ⟨_, rfl⟩
  obtain ⟨g5, hg5⟩ : ∃ g, g = w.heap.size := ⟨_, rfl⟩
  have X1 : Hid (Ext w w1) := by rw [hw1]; exact (Only.refl No w).alloc _
  have C1 : Hid (Cs w1 g5 intT (upV (List.replicate gs.length 0))) := by rw [hw1, hg5]; exact Cs.new _ _ _
  have HG5 : Hid (w.heap.size ≤ g5) := Nat.le_of_eq hg5.symm
  clear hG hb hS hsl
  go_enter Tryz.func23, Tryz.ntmps23
  go_upto_region 3 with fail
  rw [← hw1, ← hg5]
  clear hw1 hg5 hmk
  go_wp2_with fail
  go_loopw [7] (fun i wr => ∃ k : Nat, k ≤ gs.length ∧ i = .int .i64 k ∧ Cs wr g5 intT (upV (List.range k ++ List.replicate (gs.length - k) 0)) ∧ Ext w wr) (fun i _ => gs.length - (intOf i).toNat)
  case atStart => exact ⟨0, Nat.zero_le _, rfl, by simpa using C1.out, X1.out⟩
  case round =>
    clear C1 X1
    obtain ⟨i, hi, rfl, hC, hx⟩ := hrel
    have C0 := Lib.hid hC
    have XR := Lib.hid hx
    clear hC hx
    by_cases hlt : i < gs.length
    · obtain ⟨y, hy⟩ : ∃ y, y = (List.range i ++ List.replicate (gs.length - i) 0).getD i 0 := ⟨_, rfl⟩
      have y0 : wr.cell? ⟨g5, i, none⟩ = some (.int .i64 (y : Nat)) := by rw [C0.out.cell i, hy]; exact upV_get (by rw [List.length_append, List.length_range, List.length_replicate]; omega)
      have z0 := C0.out.frozen i
      have CN : Hid (Cs (wr.setCell ⟨g5, i, none⟩ (.int .i64 (i : Int))) g5 intT (upV (List.range (i + 1) ++ List.replicate (gs.length - (i + 1)) 0))) := by
        have := C0.out.ups i i
        rw [pad_set hlt] at this
        exact this
      have XN : Hid (Ext w (wr.setCell ⟨g5, i, none⟩ (.int .i64 (i : Int)))) := XR.out.trans ((Only.refl (fun b => b = g5) _).at_ i _) fun q hq e => by have e : q = g5 := e; have := HG5.out; omega
      clear hy
      go_wp2_with fail
      go_roundw
      case rel => exact ⟨i + 1, by omega, by go_num, CN.out, XN.out⟩
      case measure => simp [intOf]; omega
    · obtain rfl : i = gs.length := by omega
      have CR : Hid (Cs wr g5 intT (upV (List.range gs.length))) := by have := C0.out; rw [Nat.sub_self, List.replicate_zero, List.append_nil] at this; exact this
      have HFin : Hid (∃ fin, fin = sweepsF (edgesF gs st) gs.length (List.range gs.length)) := ⟨_, rfl⟩
      obtain ⟨fin, hfin⟩ := HFin.out
      have HFn := Lib.hid hfin
      clear HFin hfin C0 hlt hi
      go_wp2_with fail
      go_loopw [8] (fun i wr => ∃ k : Nat, k ≤ gs.length ∧ i = .int .i64 k ∧ ∃ mk : List Nat, mk.length = gs.length ∧ sweepsF (edgesF gs st) (gs.length - k) mk = fin ∧ Cs wr g5 intT (upV mk) ∧ Ext w wr) (fun i _ => gs.length - (intOf i).toNat)
      case atStart => exact ⟨0, Nat.zero_le _, rfl, _, List.length_range, HFn.out.symm, CR.out, XR.out⟩
      case round =>
        clear CR XR
        obtain ⟨t, ht, rfl, mk, hml, hE, hC, hx⟩ := hrel
        have HE := Lib.hid hE
        have Hml := Lib.hid hml
        have C0 := Lib.hid hC
        have XR := Lib.hid hx
        clear hE hml hC hx
        by_cases hlt : t < gs.length
        · have HE2 : Hid (sweepsF (edgesF gs st) (gs.length - (t + 1)) (sweepF (edgesF gs st) mk) = fin) := by
            have := HE.out
            rw [show gs.length - t = (gs.length - (t + 1)) + 1 by omega] at this
            exact this
          go_wp2_with fail
          go_loopw [9] (fun i wr => ∃ k : Nat, k ≤ gs.length ∧ i = .int .i64 k ∧ Cs wr g5 intT (upV (sweepF (edgesTo gs st k) mk)) ∧ Ext w wr) (fun i _ => gs.length - (intOf i).toNat)
          case atStart => exact ⟨0, Nat.zero_le _, rfl, C0.out, XR.out⟩
          case round =>
            clear C0 XR
            obtain ⟨i, hi, rfl, hC, hx⟩ := hrel
            have C0 := Lib.hid hC
            have XR := Lib.hid hx
            clear hC hx
            by_cases hlt2 : i < gs.length
            · obtain ⟨bg, o, ⟨⟨tA, tc, nA, nc, cA, cc⟩, G⟩, rfl, hox, c0, c1, c2, c3⟩ := grps_get HG.out.row hlt2
              obtain ⟨bs, so, s, rfl, hss, cs⟩ := bos_get HS.out hlt2
              have hgi : gs[i]? = some G := by rw [← HG.out.om, List.getElem?_map, hox]; rfl
              have hnn : G.needs.length ≤ 3 := (HB.out G (List.mem_of_getElem? hgi)).2.1
              have HN : Hid (SlR strF w nA G.needs.length G.needs) := (HG.out.rr _ (List.mem_of_getElem? hox)).2.1
              have Hsi := Lib.hid (stB_at hss)
              have HEd : Hid (edgesTo gs st (i + 1) = edgesTo gs st i ++ G.needs.filterMap (edgeF gs st i)) := by
                rw [Hid, edgesTo_succ, edgesAt, ndsAt, hgi]
              have CS : Hid (∀ u, Ext w u → u.cell? ⟨bs, so + i, none⟩ = some (.bool s)) := fun u hu => cs ⟨u, hu⟩
              have CN : Hid (∀ u, Ext w u → u.cell? ⟨bg, o + i * 4 + 1, none⟩ = some (.slice nA G.needs.length nc)) := fun u hu => c1 ⟨u, hu⟩
              have HMk : Hid (∀ u, Ext w u → ∀ t, Calls Tryz.prog 16 #[.slice (some ⟨bg, o, none⟩) i c, S t] u fun e w' => e = .returned (.int .i64 (idxI (makerF (gs.take i) t))) ∧ Ext u w') := fun u hu t => by
                have hl : (gs.take i).length = i := by rw [List.length_take]; omega
                have h1 : GrpsR u (some ⟨bg, o, none⟩) (os.take i) (gs.take i) := by
                  refine ⟨?_, fun x hx => (HG.out.ext hu).rr x (List.mem_of_mem_take hx), ?_⟩
                  · rw [hl]; exact (HG.out.row.ext hu).take (Nat.le_of_lt hlt2)
                  · rw [List.map_take, HG.out.om]
                have h2 := RMaker_c (c := c) h1 (by omega) (fun g hg => by have := (HB.out g (List.mem_of_mem_take hg)).1; omega) t
                rw [hl] at h2
                exact h2
              clear c0 c1 c2 c3 cs hox hss hgi
              go_wp2_with fail
              go_loopw [10] (fun j wr => ∃ k : Nat, k ≤ G.needs.length ∧ j = .int .i64 k ∧ Cs wr g5 intT (upV (sweepF (edgesTo gs st i ++ (G.needs.take k).filterMap (edgeF gs st i)) mk)) ∧ Ext w wr) (fun j _ => G.needs.length - (intOf j).toNat)
              case atStart => exact ⟨0, Nat.zero_le _, rfl, by simpa using C0.out, XR.out⟩
              case round =>
                clear C0 XR
                obtain ⟨k, hk, rfl, hC, hx⟩ := hrel
                have C4 := Lib.hid hC
                have XR := Lib.hid hx
                have d1 := CN.out wr hx
                clear hC hx
                obtain ⟨mp, hmp⟩ : ∃ mp, mp = sweepF (edgesTo gs st i ++ (G.needs.take k).filterMap (edgeF gs st i)) mk := ⟨_, rfl⟩
                rw [← hmp] at C4
                have Hmp := Lib.hid hmp
                have Hmpl : Hid (mp.length = gs.length) := by rw [Hid, hmp, sweep_len]; exact Hml.out
                clear hmp
                by_cases hlk : k < G.needs.length
                · obtain ⟨bn, on, t0, rfl, ht0, ct⟩ := strs_get HN.out hlk
                  have HTk := Lib.hid (take_fm (gs := gs) (st := st) (i := i) ht0)
                  have HM2 := Lib.hid (HMk.out wr.drew XR.out.drew t0)
                  have f1 : ∀ ξ : X wr No, ξ.v.cell? ⟨bg, o + i * 4 + 1, none⟩ = some (.slice (some ⟨bn, on, none⟩) G.needs.length nc) := fun ξ => CN.out _ (XR.out.then_ext ξ.h)
                  have f2 : ∀ ξ : X wr No, ξ.v.cell? ⟨bn, on + k, none⟩ = some (S t0) := fun ξ => ct ⟨ξ.v, XR.out.then_ext ξ.h⟩
                  clear ht0 ct
                  go_upto_region 16 with fail
                  refine Mix.wp_draw [11] 100 (Cl wr No) (by kernel_rfl) (by kernel_rfl) (Cl.of (Only.refl _ _).drew) ?_
                  (repeat' (refine Mix.lex_quiet0 rfl rfl rfl ?_; intro K hK; go_big_quiet_op; go_big_quiet_on))
                  ((first | refine Mix.lex_goes0 rfl rfl ?_ | refine Mix.lex_goesG rfl rfl rfl (by with_reducible rfl) rfl ?_); intro K hK; go_simp)
                  refine HM2.out.mono ?_
                  rintro e u5 ⟨rfl, hx⟩
                  have Y5 : Hid (Ext wr u5) := (Only.refl No wr).drew.then_ext hx
                  have X5 := Lib.hid (XR.out.then_ext Y5.out)
                  have C5 := Lib.hid (C4.out.keep Y5.out id)
                  have e2 := CS.out u5 X5.out
                  refine ⟨_, rfl, hK _ _ (fun _ => Cl.of Y5.out) ?_⟩
                  clear hK K hx f1 f2 HM2 d1
                  simp only [Act.put, List.setIfInBounds_toArray, List.set_cons_succ, List.set_cons_zero]
                  (repeat' (refine Mix.lex_quiet0 rfl rfl rfl ?_; intro K hK; go_big_quiet_op; go_big_quiet_on))
                  refine Mix.lex_nil ?_
                  cases hmf : makerF (gs.take i) t0 with
                  | none =>
                    rw [show idxI none = (-1 : Int) from rfl]
                    have HE0 := Lib.hid (edgeF_none (st := st) hmf)
                    clear hmf
                    go_wp2_with fail
                    go_roundw
                    case rel => exact ⟨k + 1, by omega, by go_num, by rw [HTk.out, HE0.out, Option.toList_none, List.append_nil, ← Hmp.out]; exact C5.out, X5.out⟩
                    case measure => simp [intOf]; omega
                  | some q =>
                    have hq : q < i := by have := makerF_lt hmf; rw [List.length_take] at this; omega
                    have HEs := Lib.hid (edgeF_some (st := st) hmf)
                    rw [show idxI (some q) = (q : Int) from rfl]
                    have t1 : decide ((0 : Int) ≤ (q : Int)) = true := by rw [decide_eq_true_iff]; omega
                    clear hmf
                    cases s with
                    | false =>
                      have HE0 : Hid (edgeF gs st i t0 = none) := edgeF_off Hsi.out
                      go_wp2_with fail
                      go_roundw
                      case rel => exact ⟨k + 1, by omega, by go_num, by rw [HTk.out, HE0.out, Option.toList_none, List.append_nil, ← Hmp.out]; exact C5.out, X5.out⟩
                      case measure => simp [intOf]; omega
                    | true =>
                      obtain ⟨b', o', s2, e, hs2, cq⟩ := bos_get HS.out (show q < gs.length by omega)
                      obtain ⟨rfl, rfl⟩ : bs = b' ∧ so = o' := by
                        injection e with e
                        injection e with e1 e2
                        exact ⟨e1, e2⟩
                      have Hsq := Lib.hid (stB_at hs2)
                      have e3 : u5.cell? ⟨bs, so + q, none⟩ = some (.bool s2) := cq ⟨u5, X5.out⟩
                      clear e hs2 cq
                      cases s2 with
                      | false =>
                        have HE0 : Hid (edgeF gs st i t0 = none) := by rw [Hid, HEs.out, Hsi.out, Hsq.out]; rfl
                        go_wp2_with fail
                        go_roundw
                        case rel => exact ⟨k + 1, by omega, by go_num, by rw [HTk.out, HE0.out, Option.toList_none, List.append_nil, ← Hmp.out]; exact C5.out, X5.out⟩
                        case measure => simp [intOf]; omega
                      | true =>
                        have HE0 : Hid (edgeF gs st i t0 = some (i, q)) := by rw [Hid, HEs.out, Hsi.out, Hsq.out]; rfl
                        obtain ⟨va, hva⟩ : ∃ y, y = mp.getD i 0 := ⟨_, rfl⟩
                        obtain ⟨vb, hvb⟩ : ∃ y, y = mp.getD q 0 := ⟨_, rfl⟩
                        have f1 : ∀ ξ : X u5 No, ξ.v.cell? ⟨g5, i, none⟩ = some (.int .i64 (va : Nat)) := fun ξ => by rw [(C5.out.keep ξ.h id).cell i, hva]; exact upV_get (by rw [Hmpl.out]; exact hlt2)
                        have f2 : ∀ ξ : X u5 No, ξ.v.cell? ⟨g5, q, none⟩ = some (.int .i64 (vb : Nat)) := fun ξ => by rw [(C5.out.keep ξ.h id).cell q, hvb]; exact upV_get (by rw [Hmpl.out]; omega)
                        have hrl : Hid (relaxF mp (i, q) = (mp.set i (min va vb)).set q (min va vb)) := by rw [hva, hvb]; rfl
                        have hmn := run_min_nat (P := Tryz.prog) va vb
                        generalize min va vb = mn at hmn hrl
                        clear hva hvb
                        go_wp2_with fail
                        refine Mix.wp_draw [8] 100 (Cl u5 No) (by kernel_rfl) (by kernel_rfl) (Cl.of (Only.refl _ _).drew) ?_
                        (repeat' (refine Mix.lex_quiet0 rfl rfl rfl ?_; intro K hK; go_big_quiet_op; go_big_quiet_on))
                        ((first | refine Mix.lex_goes0 rfl rfl ?_ | refine Mix.lex_goesG rfl rfl rfl (by with_reducible rfl) rfl ?_); intro K hK; go_simp)
                        refine hK _ _ (fun _ => Cl.of (Only.refl _ _).drew) ?_
                        clear hK K f1 f2 hmn
                        simp only [Act.put, List.setIfInBounds_toArray, List.set_cons_succ, List.set_cons_zero]
                        (repeat' (refine Mix.lex_quiet0 rfl rfl rfl ?_; intro K hK; go_big_quiet_op; go_big_quiet_on))
                        refine Mix.lex_nil ?_
                        have C6 : Hid (Cs u5.drew g5 intT (upV mp)) := C5.out
                        have y0 : u5.drew.cell? ⟨g5, i, none⟩ = some (.int .i64 (mp.getD i 0 : Nat)) := by rw [C6.out.cell i]; exact upV_get (by rw [Hmpl.out]; exact hlt2)
                        have z0 := C6.out.frozen i
                        go_upto_region 20 with fail
                        obtain ⟨w7, hw7⟩ : ∃ z, z = (u5.setCell ⟨g5, i, none⟩ (.int .i64 (mn : Int))).drew := ⟨_, rfl⟩
                        rw [← hw7]
                        have C7 : Hid (Cs w7 g5 intT (upV (mp.set i mn))) := by rw [hw7]; exact C5.out.ups i mn
                        have X7 : Hid (Ext w w7) := by
                          rw [Hid, hw7]
                          exact (X5.out.trans ((Only.refl (fun b => b = g5) _).at_ i _) fun b hb e => by have e : b = g5 := e; have := HG5.out; omega).drew
                        have y1 : w7.cell? ⟨g5, q, none⟩ = some (.int .i64 ((mp.set i mn).getD q 0 : Nat)) := by rw [C7.out.cell q]; exact upV_get (by rw [List.length_set, Hmpl.out]; omega)
                        have z1 := C7.out.frozen q
                        clear hw7 y0 z0 C6
                        have C8 : Hid (Cs (w7.setCell ⟨g5, q, none⟩ (.int .i64 (mn : Int))) g5 intT (upV (sweepF (edgesTo gs st i ++ (G.needs.take (k + 1)).filterMap (edgeF gs st i)) mk))) := by
                          rw [Hid, HTk.out, HE0.out, ← List.append_assoc, sweep_app, ← Hmp.out]
                          show Cs _ _ _ (upV (relaxF mp (i, q)))
                          rw [hrl.out]
                          exact C7.out.ups q mn
                        have X8 : Hid (Ext w (w7.setCell ⟨g5, q, none⟩ (.int .i64 (mn : Int)))) := X7.out.trans ((Only.refl (fun b => b = g5) _).at_ q _) fun b hb e => by have e : b = g5 := e; have := HG5.out; omega
                        go_wp2_with fail
                        go_roundw
                        case rel => exact ⟨k + 1, by omega, by go_num, C8.out, X8.out⟩
                        case measure => simp [intOf]; omega
                · obtain rfl : k = G.needs.length := by omega
                  have C5 : Hid (Cs wr g5 intT (upV (sweepF (edgesTo gs st (i + 1)) mk))) := by
                    have h1 := C4.out
                    rw [Hmp.out, List.take_of_length_le (Nat.le_refl _), ← HEd.out] at h1
                    exact h1
                  go_wp2_with fail
                  go_roundw
                  case rel => exact ⟨i + 1, by omega, by go_num, C5.out, XR.out⟩
                  case measure => simp [intOf]; omega
            · obtain rfl : i = gs.length := by omega
              go_wp2_with fail
              go_roundw
              case rel => exact ⟨t + 1, by omega, by go_num, _, by rw [sweep_len]; exact Hml.out, HE2.out, C0.out, XR.out⟩
              case measure => simp [intOf]; omega
        · obtain rfl : t = gs.length := by omega
          have hmf : mk = fin := by have := HE.out; rw [Nat.sub_self] at this; exact this
          have HLs : Hid (LstOk (edgesF gs st) gs.length (fun k => fin.getD k 0)) := by rw [Hid, HFn.out]; exact marks_ok gs st
          have hfl : fin.length = gs.length := by rw [← hmf]; exact Hml.out
          rename World => wb
          have CA : Hid (∀ z, Ext wb z → ∀ k, k < gs.length → z.cell? ⟨g5, k, none⟩ = some (.int .i64 (fin.getD k 0 : Nat))) := fun z hz k hk => by
            rw [(C0.out.keep hz id).cell k, hmf]; exact upV_get (by rw [hfl]; exact hk)
          obtain ⟨r, hr⟩ : ∃ r : Nat → Nat, r = fun k => fin.getD k 0 := ⟨_, rfl⟩
          have CR : Hid (∀ z, Ext wb z → ∀ k, k < gs.length → z.cell? ⟨g5, k, none⟩ = some (.int .i64 (r k : Nat))) := fun z hz k hk => by rw [hr]; exact CA.out z hz k hk
          rw [← hr] at HLs
          clear hr hfl hmf C0 Hml HE hlt ht CA HFn
          go_wp2_with fail
          go_loopw [13, 14] (fun ov i wr => ∃ k : Nat, k ≤ gs.length ∧ i = .int .i64 k ∧ ∃ (B : Option Addr) (d : Nat) (xs : List ((Option Addr × Nat) × List Nat)), ov = .slice B xs.length d ∧ Fresh unF uniT wb wr B d xs ∧ xs.map (·.2) = unitsTo gs st r k ∧ (∀ x ∈ xs, RbI (fun q => (Value.slice B xs.length d).ownBlock = some q) wr x.1.1 x.2)) (fun _ i _ => gs.length - (intOf i).toNat)
          case atStart => exact ⟨0, Nat.zero_le _, rfl, none, 0, [], rfl, Fresh.nil _ _ _ _ (Only.refl _ _), rfl, fun x hx => by cases hx⟩
          case round =>
            obtain ⟨ri, hri, rfl, B, d, xs, rfl, hF, hM, hR⟩ := hrel
            have F5 := Lib.hid hF
            have HM := Lib.hid hM
            have HR5 := Lib.hid hR
            have XB5 := Lib.hid hF.ext
            have hxl : xs.length ≤ 10 := by
              have h1 := congrArg List.length hM
              rw [List.length_map, unitsTo] at h1
              have h2 := List.length_filterMap_le (unit1 gs st r) (List.range ri)
              rw [List.length_range] at h2
              omega
            clear hF hM hR
            by_cases hlt : ri < gs.length
            · have HU := Lib.hid (unitsTo_succ gs st r ri)
              rename World => u5
              have XW5 := Lib.hid (XR.out.then_ext XB5.out)
              have HFB : Hid (∀ q, (Value.slice B xs.length d).ownBlock = some q → q < u5.heap.size) := fun q hq => by
                obtain ⟨_, hc⟩ := own_cs F5.out.own hq
                exact hc.lt
              go_wp2_with fail
              go_loopw [15, 16, 17] (fun uv rv j wr => ∃ k : Nat, k ≤ gs.length ∧ j = .int .i64 k ∧ ∃ (C : Option Addr) (e : Nat) (ks : List Nat), uv = .slice C ks.length e ∧ ks = (List.range k).filter (fun k => stB st k && decide (r k = ri)) ∧ rv = .bool (realB gs ks) ∧ Fresh inF intT u5 wr C e ks) (fun _ _ j _ => gs.length - (intOf j).toNat)
              case atStart => exact ⟨0, Nat.zero_le _, rfl, none, 0, [], rfl, rfl, rfl, Fresh.nil _ _ _ _ (Only.refl _ _)⟩
              case round =>
                obtain ⟨k, hk, rfl, C, ce, ks, rfl, hks, rfl, hF⟩ := hrel
                have FU := Lib.hid hF
                have HKs := Lib.hid hks
                have hkl : ks.length ≤ k := by
                  rw [hks]
                  have := List.length_filter_le (fun k => stB st k && decide (r k = ri)) (List.range k)
                  rwa [List.length_range] at this
                clear hF hks
                by_cases hlk : k < gs.length
                · obtain ⟨bs, so, s2, rfl, hs2, cq⟩ := bos_get HS.out hlk
                  have Hsk := Lib.hid (stB_at hs2)
                  have XK := Lib.hid (XW5.out.then_ext FU.out.ext)
                  have e1 : wr.cell? ⟨bs, so + k, none⟩ = some (.bool s2) := cq ⟨wr, XK.out⟩
                  have e5 := CR.out wr (XB5.out.then_ext FU.out.ext) k hlk
                  have HF1 := Lib.hid (filt_succ (fun k => stB st k && decide (r k = ri)) k)
                  clear hs2 cq
                  obtain ⟨rk, hrk⟩ : ∃ rk, rk = r k := ⟨_, rfl⟩
                  rw [← hrk] at e5
                  have HRk := Lib.hid hrk
                  clear hrk
                  cases s2 with
                  | false =>
                    have HF2 : Hid ((List.range (k + 1)).filter (fun k => stB st k && decide (r k = ri)) = ks) := by rw [Hid, HF1.out, ← HKs.out, Hsk.out]; simp
                    go_wp2_with fail
                    go_roundw
                    case rel => exact ⟨k + 1, by omega, by go_num, C, ce, ks, rfl, HF2.out.symm, rfl, FU.out⟩
                    case measure => simp [intOf]; omega
                  | true =>
                    by_cases he : rk = ri
                    · subst he
                      have HF2 : Hid ((List.range (k + 1)).filter (fun k => stB st k && decide (r k = rk)) = ks ++ [k]) := by rw [Hid, HF1.out, ← HKs.out, Hsk.out, ← HRk.out]; simp
                      obtain ⟨F2, hF2⟩ : ∃ F2 : Nat → Prop, F2 = fun q => (Value.slice C ks.length ce).ownBlock = some q := ⟨_, rfl⟩
                      have HFq := Lib.hid hF2
                      clear hF2
                      go_upto_region 31 with fail
                      refine Mix.wp_plain [2, 3] (Cl wr F2) (Cl.of (Only.refl _ _)) ?_
                      (repeat' (refine Mix.lex_quiet0 rfl rfl rfl ?_; intro K hK; go_big_quiet_op; go_big_quiet_on))
                      ((first | refine Mix.lex_goes0 rfl rfl ?_ | refine Mix.lex_goesG rfl rfl rfl (by with_reducible rfl) rfl ?_); intro K hK; go_simp)
                      have F6 := Lib.hid (FU.out.on ((Only.refl No wr).alloc (.cells #[.int .i64 (k : Int)] intT)))
                      refine hK _ _ (fun _ => Cl.of ((Only.refl F2 wr).alloc _)) ?_
                      clear hK K
                      simp only [Act.put, List.setIfInBounds_toArray, List.set_cons_succ, List.set_cons_zero]
                      refine Mix.lex_goes0 rfl rfl ?_
                      intro K hK
                      refine goes_append (v := .slice C ks.length ce) (n := ks.length) (xs := ks.flatMap inF.enc) int_ty rfl rfl rfl F6.out.own (rd_one wr _ [.int .i64 (k : Int)]) (by simp [Value.oneCell']) (by omega) ?_
                      intro C' ce' w7 hown5 hgr5 hb5
                      have F7 : Hid (Fresh inF intT u5 w7 C' ce' (ks ++ [k])) := F6.out.grow (m := 1) (ys := [k]) rfl hown5 hgr5 hb5
                      have O7 : Hid (Only F2 wr w7) := ((Only.refl F2 wr).alloc _).grown hgr5 fun g hg => .inr (by rw [HFq.out]; exact hg)
                      refine hK _ _ (fun _ => Cl.of O7.out) ?_
                      clear hK K hown5 hgr5 hb5
                      simp only [Act.put, List.setIfInBounds_toArray, List.set_cons_succ, List.set_cons_zero]
                      (repeat' (refine Mix.lex_quiet0 rfl rfl rfl ?_; intro K hK; go_big_quiet_op; go_big_quiet_on))
                      refine Mix.lex_nil ?_
                      obtain ⟨bg, og, ⟨⟨tA, tc, nA, nc, cA, cc⟩, G⟩, rfl, hox, _, _, _, c3⟩ := grps_get HG.out.row hlk
                      have hgi : gs[k]? = some G := by rw [← HG.out.om, List.getElem?_map, hox]; rfl
                      have Hph := Lib.hid (nphB_at hgi)
                      have q3 : w7.cell? ⟨bg, og + k * 4 + 3, none⟩ = some (.bool G.phony) := c3 ⟨w7, XW5.out.then_ext F7.out.ext⟩
                      generalize G.phony = ph at Hph q3
                      clear hox hgi c3
                      obtain ⟨rb, hrb⟩ : ∃ b, b = realB gs ks := ⟨_, rfl⟩
                      rw [← hrb]
                      have HRb := Lib.hid hrb
                      clear hrb
                      cases rb with
                      | true =>
                        have HR2 : Hid (realB gs (ks ++ [k]) = true) := by rw [Hid, realB_app, ← HRb.out]; rfl
                        go_wp2_with fail
                        go_roundw
                        case rel => exact ⟨k + 1, by omega, by go_num, C', ce', ks ++ [k], by simp, HF2.out.symm, by rw [HR2.out], F7.out⟩
                        case measure => simp [intOf]; omega
                      | false =>
                        cases ph with
                        | true =>
                          have HR2 : Hid (realB gs (ks ++ [k]) = false) := by rw [Hid, realB_app, ← HRb.out, Hph.out]; rfl
                          go_wp2_with fail
                          go_roundw
                          case rel => exact ⟨k + 1, by omega, by go_num, C', ce', ks ++ [k], by simp, HF2.out.symm, by rw [HR2.out], F7.out⟩
                          case measure => simp [intOf]; omega
                        | false =>
                          have HR2 : Hid (realB gs (ks ++ [k]) = true) := by rw [Hid, realB_app, ← HRb.out, Hph.out]; rfl
                          go_wp2_with fail
                          go_roundw
                          case rel => exact ⟨k + 1, by omega, by go_num, C', ce', ks ++ [k], by simp, HF2.out.symm, by rw [HR2.out], F7.out⟩
                          case measure => simp [intOf]; omega
                    · have t1 : decide ((rk : Int) = (ri : Int)) = false := by rw [decide_eq_false_iff_not]; omega
                      have t2 : ((rk : Int) == (ri : Int)) = false := by rw [beq_eq_false_iff_ne]; omega
                      have HF2 : Hid ((List.range (k + 1)).filter (fun k => stB st k && decide (r k = ri)) = ks) := by rw [Hid, HF1.out, ← HKs.out, Hsk.out, ← HRk.out]; simp [he]
                      go_wp2_with fail
                      go_roundw
                      case rel => exact ⟨k + 1, by omega, by go_num, C, ce, ks, rfl, HF2.out.symm, rfl, FU.out⟩
                      case measure => simp [intOf]; omega
                · obtain rfl : k = gs.length := by omega
                  have HKs2 : Hid (ks = unitAt gs.length st r ri) := HKs.out
                  obtain ⟨rb, hrb⟩ : ∃ b, b = realB gs ks := ⟨_, rfl⟩
                  rw [← hrb]
                  have HRb := Lib.hid hrb
                  clear hrb
                  cases rb with
                  | false =>
                    have HU2 : Hid (unitsTo gs st r (ri + 1) = unitsTo gs st r ri) := by
                      rw [Hid, HU.out, unit1, ← HKs2.out, ← HRb.out]; simp
                    go_wp2_with fail
                    go_roundw
                    case rel => exact ⟨ri + 1, by omega, by go_num, B, d, xs, rfl, F5.out.on FU.out.ext, by rw [HU2.out]; exact HM.out, fun x hx => (HR5.out x hx).step (Only.any FU.out.ext) fun _ e => .inl e⟩
                    case measure => simp [intOf]; omega
                  | true =>
                    have HU2 : Hid (unitsTo gs st r (ri + 1) = unitsTo gs st r ri ++ [ks]) := by
                      rw [Hid, HU.out, unit1, ← HKs2.out, ← HRb.out]; simp
                    obtain ⟨F2, hF2⟩ : ∃ F2 : Nat → Prop, F2 = fun q => (Value.slice B xs.length d).ownBlock = some q := ⟨_, rfl⟩
                    have HFq := Lib.hid hF2
                    have HRI : Hid (RbI F2 wr C ks) := RbI.fresh FU.out (by rw [hF2]; exact HFB.out)
                    clear hF2
                    have X6 := Lib.hid FU.out.ext
                    go_upto_region 34 with fail
                    refine Mix.wp_plain [2, 3] (Cl wr F2) (Cl.of (Only.refl _ _)) ?_
                    (repeat' (refine Mix.lex_quiet0 rfl rfl rfl ?_; intro K hK; go_big_quiet_op; go_big_quiet_on))
                    ((first | refine Mix.lex_goes0 rfl rfl ?_ | refine Mix.lex_goesG rfl rfl rfl (by with_reducible rfl) rfl ?_); intro K hK; go_simp)
                    have xa : Ext wr (wr.alloc (.cells #[.slice C ks.length ce] uniT)) := (Only.refl No wr).alloc _
                    have F6 := Lib.hid (F5.out.on (X6.out.then_ext xa))
                    refine hK _ _ (fun _ => Cl.of ((Only.refl F2 wr).alloc _)) ?_
                    clear hK K
                    simp only [Act.put, List.setIfInBounds_toArray, List.set_cons_succ, List.set_cons_zero]
                    refine Mix.lex_goes0 rfl rfl ?_
                    intro K hK
                    refine goes_append (v := .slice B xs.length d) (n := xs.length) (xs := xs.flatMap unF.enc) un_ty rfl rfl rfl F6.out.own (rd_one wr _ [.slice C ks.length ce]) (by simp [Value.oneCell']) (by omega) ?_
                    intro B' d' w7 hown5 hgr5 hb5
                    have F7 : Hid (Fresh unF uniT wb w7 B' d' (xs ++ [((C, ce), ks)])) := F6.out.grow (m := 1) (ys := [((C, ce), ks)]) rfl hown5 hgr5 hb5
                    have O7 : Hid (Only F2 wr w7) := ((Only.refl F2 wr).alloc _).grown hgr5 fun g hg => .inr (by rw [HFq.out]; exact hg)
                    have HS7 : Hid (∀ q, (Value.slice B' (xs ++ [((C, ce), ks)]).length d').ownBlock = some q → F2 q ∨ wr.heap.size ≤ q) := fun q hq => by
                      rw [List.length_append] at hq
                      rcases hb5 with hb | hb
                      · exact .inl (by rw [HFq.out]; exact hb.symm.trans hq)
                      · have h3 : some (wr.alloc (.cells #[.slice C ks.length ce] uniT)).heap.size = some q := hb.symm.trans hq
                        injection h3 with h3
                        exact .inr (by rw [← h3]; exact xa.size)
                    refine hK _ _ (fun _ => Cl.of O7.out) ?_
                    clear hK K hown5 hgr5 hb5 xa
                    simp only [Act.put, List.setIfInBounds_toArray, List.set_cons_succ, List.set_cons_zero]
                    (repeat' (refine Mix.lex_quiet0 rfl rfl rfl ?_; intro K hK; go_big_quiet_op; go_big_quiet_on))
                    refine Mix.lex_nil ?_
                    go_wp2_with fail
                    go_roundw
                    case rel =>
                      refine ⟨ri + 1, by omega, by go_num, B', d', xs ++ [((C, ce), ks)], by simp, F7.out, by rw [HU2.out, List.map_append, HM.out]; rfl, fun x hx => ?_⟩
                      rcases List.mem_append.1 hx with hx | hx
                      · exact ((HR5.out x hx).step (Only.any X6.out) (fun q e => .inl (by rw [HFq.out] at e; exact e)) : RbI F2 wr x.1.1 x.2).step O7.out HS7.out
                      · obtain rfl := List.mem_singleton.1 hx
                        exact HRI.out.step O7.out HS7.out
                    case measure => simp [intOf]; omega
            · obtain rfl : ri = gs.length := by omega
              have hxl2 : xs.length = (unitsTo gs st r gs.length).length := by rw [← HM.out, List.length_map]
              have HXL := Lib.hid hxl2
              clear hxl2
              go_wp2_with fail
              go_ret
              refine ⟨B, d, xs, r, HLs.out, by rw [show (unitsF gs st r).length = xs.length from HXL.out.symm]; rfl, ⟨?_, fun x hx => HR5.out x hx _ (Only.refl _ _), HM.out⟩, XR.out.then_ext XB5.out⟩
              rw [show (unitsF gs st r).length = xs.length from HXL.out.symm]
              exact F5.out.row (by decide)
abbrev grwT : TypeId := 83
structure GrwA where
  wA : Option Addr
  wc : Nat
  dA : Option Addr
  dc : Nat
  oA : Option Addr
  oc : Nat
def Gfp (g : Nat) (a : GrwA) (wn dn on : Nat) : Nat → Prop := fun b => b = g ∨ (Value.slice a.wA wn a.wc).ownBlock = some b ∨ (Value.slice a.dA dn a.dc).ownBlock = some b ∨ (Value.slice a.oA on a.oc).ownBlock = some b
def RbS (F : Nat → Prop) (u : World) (A : Option Addr) (xs : List Str) : Prop := ∀ v, Only F u v → SlR strF v A xs.length xs
section
variable {F F' : Nat → Prop} {u u' : World} {A : Option Addr} {xs : List Str} {c : Nat}
theorem RbS.step (h : RbS F u A xs) (hx : Only F u u') (hf : ∀ b, F' b → F b ∨ u.heap.size ≤ b) : RbS F' u' A xs := fun v hv => h v (hx.trans hv fun b hb e => by
  rcases hf b e with h1 | h1
  · exact h1
  · omega)
theorem RbS.ext (h : RbS F u A xs) (hx : Ext u u') : RbS F u' A xs := h.step (Only.any hx) fun _ e => .inl e
theorem RbS.here (h : RbS F u A xs) : SlR strF u A xs.length xs := h u (Only.refl _ _)
theorem RbS.fresh (h : Fresh strF 9 u u' A c xs) (hF : ∀ b, F b → b < u.heap.size) : RbS F u' A xs := fun v hv => SlR.of_own (T := strF) (by decide) (own_keep h.own hv fun g hg e => by
  have := h.new g hg
  have := hF g e
  omega)
end
structure Gw (w u : World) (g : Nat) (v : MkV) (m : Mk) (lA : Option Addr) (lc ll : Nat) (a : GrwA) (way done : List Str) (gs : List (RulA × Grp)) : Prop where
  cs : Cs u g grwT #[.slice v.vA m.vars.length v.vc, .slice v.rA m.rules.length v.rc, .slice v.pA m.phony.length v.pc, .slice lA ll lc, .slice a.wA way.length a.wc, .slice a.dA done.length a.dc, .slice a.oA gs.length a.oc]
  fw : Fresh strF 9 w u a.wA a.wc way
  fd : Fresh strF 9 w u a.dA a.dc done
  fo : Fresh grpF grpT w u a.oA a.oc gs
  hg : w.heap.size ≤ g
  wd : ∀ b, (Value.slice a.wA way.length a.wc).ownBlock = some b → (Value.slice a.dA done.length a.dc).ownBlock ≠ some b
  rw : ∀ x ∈ gs, RbS (Gfp g a way.length done.length gs.length) u x.1.tA x.2.targets ∧ RbS (Gfp g a way.length done.length gs.length) u x.1.nA x.2.needs ∧ RbS (Gfp g a way.length done.length gs.length) u x.1.cA x.2.cmds
section
variable {w u u' : World} {g : Nat} {v : MkV} {m : Mk} {lA : Option Addr} {lc ll : Nat} {a : GrwA} {way done : List Str} {gs : List (RulA × Grp)}
theorem Gw.x (h : Gw w u g v m lA lc ll a way done gs) : Ext w u := h.fw.ext
theorem Gw.ext (h : Gw w u g v m lA lc ll a way done gs) (hx : Ext u u') : Gw w u' g v m lA lc ll a way done gs :=
  ⟨h.cs.keep hx id, h.fw.on hx, h.fd.on hx, h.fo.on hx, h.hg, h.wd, fun x hm => ⟨(h.rw x hm).1.ext hx, (h.rw x hm).2.1.ext hx, (h.rw x hm).2.2.ext hx⟩⟩
end
def DoneOk (m : Mk) (l : List File) (done : List Str) (out : List Grp) : Prop :=
  ∃ fs : List Str, fs.Nodup ∧ (∀ x ∈ fs, isF l x = true ∧ ruleF m l x = none) ∧ done.length = fs.length + (out.flatMap (·.targets)).length ∧ ∀ n, n ∈ done ↔ n ∈ fs ∨ n ∈ out.flatMap (·.targets)
section
variable {m : Mk} {l : List File} {done way : List Str} {out : List Grp} {n : Str}
theorem DoneOk.nil : DoneOk m l [] [] := ⟨[], by simp, (fun x hx => by cases hx), rfl, by simp⟩
theorem nodup_sub : ∀ {a b : List Str}, a.Nodup → (∀ x ∈ a, x ∈ b) → a.length ≤ b.length
  | [], _, _, _ => Nat.zero_le _
  | x :: xs, b, hn, hs => by
    have hx := hs x (by simp)
    rw [List.nodup_cons] at hn
    have := nodup_sub (b := b.erase x) hn.2 fun y hy => (List.mem_erase_of_ne (show y ≠ x from fun e => hn.1 (by rw [← e]; exact hy))).2 (hs y (List.mem_cons_of_mem _ hy))
    rw [List.length_erase_of_mem hx] at this
    have := List.length_pos_of_mem hx
    simp only [List.length_cons]
    omega
theorem flat_le : ∀ {out : List Grp}, (∀ g ∈ out, g.targets.length ≤ 2) → (out.flatMap (·.targets)).length ≤ 2 * out.length
  | [], _ => by simp
  | g :: gs, h => by
    have h1 := h g (by simp)
    have h2 := flat_le (out := gs) fun x hx => h x (List.mem_cons_of_mem _ hx)
    simp only [List.flatMap_cons, List.length_append, List.length_cons]
    omega
theorem DoneOk.len (h : DoneOk m l done out) (ho : out.length ≤ 10) (ht : ∀ g ∈ out, g.targets.length ≤ 2) : done.length ≤ l.length + 20 := by
  obtain ⟨fs, h1, h2, h3, h4⟩ := h
  have a1 := flat_le ht
  have a2 : fs.length ≤ (l.map (·.1)).length := by
    refine nodup_sub h1 fun x hx => ?_
    obtain ⟨y, hy⟩ := Option.isSome_iff_exists.1 (h2 x hx).1
    unfold getL at hy
    have e := List.find?_some hy
    simp only [decide_eq_true_eq] at e
    exact e ▸ List.mem_map_of_mem (List.mem_of_find?_eq_some hy)
  rw [List.length_map] at a2
  omega
end
theorem parse_short {s : Str} (h : (parseF s).2 = 0) : s.length ≤ 600 ∧ chkF (parseF s).1 = 0 := by
  unfold parseF at h ⊢
  by_cases h1 : 600 < s.length
  · rw [if_pos h1] at h
    cases h
  · refine ⟨by omega, ?_⟩
    rw [if_neg h1] at h ⊢
    by_cases h2 : (foldF (splB 10 s) mk0).2 ≠ 0
    · rw [if_pos h2] at h
      exact absurd h h2
    · rw [if_neg h2] at h ⊢
      by_cases h3 : chkF (foldF (splB 10 s) mk0).1 = 0
      · rw [if_pos h3] at h ⊢
        exact h3
      · rw [if_neg h3] at h
        exact absurd h h3
theorem fndL_succ {k : Str} {xs : List File} {j : Nat} {f : File} (h : xs[j]? = some f) : fndL k (xs.take (j + 1)) = if f.1 = k then some f else fndL k (xs.take j) := by
  unfold fndL
  rw [take_succ_get h, List.reverse_append]
  show List.find? _ (f :: _) = _
  rw [List.find?_cons]
  by_cases hk : f.1 = k
  · rw [decide_eq_true hk, if_pos hk]
  · rw [decide_eq_false hk, if_neg hk]
    rfl
def fT (o : Option File) : Str := (o.map (·.2)).getD []
theorem cutB_from (s : Str) (c : UInt8) (f : Nat) : (cutB c (s.drop f) = (s.drop f, [], false) ∧ fndI s [c] f = -1) ∨ ∃ i : Nat, fndI s [c] f = ((f + i : Nat) : Int) ∧ i + 1 ≤ (s.drop f).length ∧ cutB c (s.drop f) = ((s.drop f).take i, (s.drop f).drop (i + 1), true) := by
  have := fndI_from s [c] f
  rw [cut_byte] at this
  exact this
set_option maxRecDepth 100000 in
set_option maxHeartbeats 4000000 in
theorem RExp_c {w : World} {A : Option Addr} {n c : Nat} {xs : List File} (h : SlR fileF w A n xs) (hn : n ≤ 100000) (hx : ∀ f ∈ xs, f.2.length ≤ 100000) : ∀ (d : Nat), d ≤ 6 → ∀ (s : Str), s.length ≤ 100000 → ∀ v, Ext w v →
    Calls Tryz.prog 56 #[.slice A n c, S s, .int .i64 (6 - d : Int)] v fun e w' => e = .returned (.tuple #[S (exp xs d s).1, .int .i64 (exp xs d s).2]) ∧ Ext v w' := by
  have H := Lib.hid h
  have HX := Lib.hid hx
  have hxl := h.1
  clear h hx
  intro d
  induction d with
  | zero =>
    intro _ s hs v hv
    show Calls Tryz.prog 56 #[.slice A n c, S s, .int .i64 6] v fun e w' => e = .returned (.tuple #[S [], .int .i64 9]) ∧ Ext v w'
    go_enter Tryz.func56, Tryz.ntmps56
    go_wp2_with fail
    go_ret2
    exact ⟨rfl, Only.refl _ _⟩
  | succ d ih =>
    intro hd s hs v hv
    have HI := Lib.hid (ih (by omega))
    clear ih
    have hk : ((6 : Int) - ((d + 1 : Nat) : Int)) = ((5 - d : Nat) : Int) := by omega
    obtain ⟨k, hkk⟩ : ∃ k, k = 5 - d := ⟨_, rfl⟩
    have hk5 : k ≤ 5 := by omega
    have hk1 : ((6 : Int) - (d : Int)) = ((k + 1 : Nat) : Int) := by omega
    rw [hk, ← hkk]
    have HI2 : Hid (∀ (t : Str), t.length ≤ 100000 → ∀ v, Ext w v → Calls Tryz.prog 56 #[.slice A n c, S t, .int .i64 ((k : Int) + 1)] v fun e w' => e = .returned (.tuple #[S (exp xs d t).1, .int .i64 (exp xs d t).2]) ∧ Ext v w') := fun t ht v hv => by
      have := HI.out t ht v hv
      rw [hk1] at this
      exact this
    have HE : Hid (exp xs (d + 1) s = expL xs (exp xs d) (s.length + 1) s []) := rfl
    have HBd := Lib.hid (exp_bound xs d)
    have HNn := Lib.hid (exp_nonneg xs d)
    generalize exp xs (d + 1) s = R at HE ⊢
    generalize exp xs d = rec at HI2 HE HBd HNn
    obtain ⟨F0, hF0⟩ : ∃ f, f = s.length + 1 := ⟨_, rfl⟩
    have hsF : s.length < F0 := by omega
    rw [← hF0] at HE
    have g5 : decide ((5 : Int) < (k : Int)) = false := by rw [decide_eq_false_iff_not]; omega
    clear HI hk hkk hk1 hF0
    go_enter Tryz.func56, Tryz.ntmps56
    go_wp2_with fail
    go_loopw [8, 9] (fun ov pv wr => ∃ (f p : Nat) (out : Str), ov = S out ∧ pv = .int .i64 p ∧ p ≤ s.length ∧ s.length - p < f ∧ out.length ≤ 600 ∧ R = expL xs rec f (s.drop p) out ∧ ∃ ξ : X v No, wr = ξ.v) (fun _ pv _ => s.length - (intOf pv).toNat)
    case atStart => exact ⟨F0, 0, [], rfl, rfl, Nat.zero_le _, by omega, Nat.zero_le _, HE.out, X.here _ _, rfl⟩
    case round =>
      obtain ⟨f, p, out, rfl, rfl, hps, hpf, hout, hR, ξ, rfl⟩ := hrel
      obtain ⟨g, rfl⟩ : ∃ g, f = g + 1 := ⟨f - 1, by omega⟩
      have hdl : (s.drop p).length = s.length - p := List.length_drop
      have HR : Hid (R = if (Lib.cut (s.drop p) dlr).2.2 = false then (if 600 < (out ++ (Lib.cut (s.drop p) dlr).1).length then ([], 2) else (out ++ (Lib.cut (s.drop p) dlr).1, 0))
        else if (cutB 41 (Lib.cut (s.drop p) dlr).2.1).2.2 = false ∨ varB (cutB 41 (Lib.cut (s.drop p) dlr).2.1).1 = false then ([], 4)
        else match fndL (cutB 41 (Lib.cut (s.drop p) dlr).2.1).1 xs with
          | none => ([], 5)
          | some v => if (rec v.2).2 ≠ 0 then ([], (rec v.2).2) else if 600 < (out ++ (Lib.cut (s.drop p) dlr).1 ++ (rec v.2).1).length then ([], 2) else expL xs rec g (cutB 41 (Lib.cut (s.drop p) dlr).2.1).2.1 (out ++ (Lib.cut (s.drop p) dlr).1 ++ (rec v.2).1)) := hR
      clear hR HE
      have HC := Lib.hid (rfind2_c s (by omega) 36 40 p hps ξ.v)
      rcases fndI_from s dlr p with ⟨h1, h2⟩ | ⟨i, h1, h2, h3⟩
      · rw [h2] at HC
        rw [h1] at HR
        dsimp only at HR
        obtain ⟨t, ht⟩ : ∃ t, s.drop p = t := ⟨_, rfl⟩
        rw [ht] at HR hdl
        clear h1 h2
        by_cases hl : 600 < (out ++ t).length
        · have HR2 : Hid (R = ([], 2)) := by rw [Hid, HR.out, if_pos rfl, if_pos hl]
          rw [List.length_append] at hl
          have g6 : decide ((600 : Int) < (out.length : Int) + (t.length : Int)) = true := by rw [decide_eq_true_iff]; omega
          clear HR
          go_wp2_with fail
          refine (HC.out).mono ?_; rintro e uu ⟨rfl, hu⟩; obtain ⟨ξ1, hnew⟩ : ∃ ξ : X v No, ξ.v = uu := ⟨⟨uu, ξ.h.then_ext hu⟩, rfl⟩; subst hnew; have Hξ1 := Lib.hid hu; clear hu
          go_wp2_with fail
          go_ret2
          rw [HR2.out]
          exact ⟨rfl, ξ1.h⟩
        · have HR2 : Hid (R = (out ++ t, 0)) := by rw [Hid, HR.out, if_pos rfl, if_neg hl]
          rw [List.length_append] at hl
          have g6 : decide ((600 : Int) < (out.length : Int) + (t.length : Int)) = false := by rw [decide_eq_false_iff_not]; omega
          clear HR
          go_wp2_with fail
          refine (HC.out).mono ?_; rintro e uu ⟨rfl, hu⟩; obtain ⟨ξ1, hnew⟩ : ∃ ξ : X v No, ξ.v = uu := ⟨⟨uu, ξ.h.then_ext hu⟩, rfl⟩; subst hnew; have Hξ1 := Lib.hid hu; clear hu
          go_wp2_with fail
          go_ret2
          rw [HR2.out]
          exact ⟨rfl, ξ1.h⟩
      · rw [h3] at HR
        dsimp only at HR
        rw [h1] at HC
        obtain ⟨I, hI⟩ : ∃ I, I = p + i := ⟨_, rfl⟩
        rw [← hI] at HC
        have hb : (s.drop p).drop (i + dlr.length) = s.drop (I + 2) := by rw [List.drop_drop, hI]; rfl
        have ha : (s.take I).drop p = (s.drop p).take i := by
          rw [List.drop_take, hI, show p + i - p = i by omega]
        rw [hb] at HR
        have hI2 : I + 2 ≤ s.length := by
          have : dlr.length = 2 := rfl
          omega
        obtain ⟨a, haa⟩ : ∃ a, a = (s.drop p).take i := ⟨_, rfl⟩
        rw [← haa] at HR ha
        have hal : a.length ≤ s.length := by rw [haa, List.length_take]; omega
        have hd2 : (s.drop (I + 2)).length = s.length - (I + 2) := List.length_drop
        have HR1 : Hid (R = if (cutB 41 (s.drop (I + 2))).2.2 = false ∨ varB (cutB 41 (s.drop (I + 2))).1 = false then ([], 4)
          else match fndL (cutB 41 (s.drop (I + 2))).1 xs with
            | none => ([], 5)
            | some v => if (rec v.2).2 ≠ 0 then ([], (rec v.2).2) else if 600 < (out ++ a ++ (rec v.2).1).length then ([], 2) else expL xs rec g (cutB 41 (s.drop (I + 2))).2.1 (out ++ a ++ (rec v.2).1)) := HR.out.trans (if_neg (by decide))
        have HC2 := Lib.hid (fun v => rfind1_c s (by omega) 41 (I + 2) hI2 v)
        have hpI : p ≤ I := by omega
        clear h1 h2 h3 hI hb haa HR
        go_wp2_with fail
        refine (HC.out).mono ?_; rintro e uu ⟨rfl, hu⟩; obtain ⟨ξ1, hnew⟩ : ∃ ξ : X v No, ξ.v = uu := ⟨⟨uu, ξ.h.then_ext hu⟩, rfl⟩; subst hnew; have Hξ1 := Lib.hid hu; clear hu
        clear HC
        rcases cutB_from s 41 (I + 2) with ⟨h1, h2⟩ | ⟨j, h1, h2, h3⟩
        · rw [h2] at HC2
          have HR2 : Hid (R = ([], 4)) := by rw [Hid, HR1.out, h1]; exact if_pos (.inl rfl)
          clear HR1 h1 h2
          go_wp2_with fail
          refine (HC2.out _).mono ?_; rintro e uu ⟨rfl, hu⟩; obtain ⟨ξ2, hnew⟩ : ∃ ξ : X v No, ξ.v = uu := ⟨⟨uu, ξ1.h.then_ext hu⟩, rfl⟩; subst hnew; have Hξ2 := Lib.hid hu; clear hu
          go_wp2_with fail
          go_ret2
          rw [HR2.out]
          exact ⟨rfl, ξ2.h⟩
        · rw [h1] at HC2
          obtain ⟨N, hN⟩ : ∃ N, N = I + 2 + j := ⟨_, rfl⟩
          rw [← hN] at HC2
          have hnm : (s.take N).drop (I + 2) = (s.drop (I + 2)).take j := by
            rw [List.drop_take, hN, show I + 2 + j - (I + 2) = j by omega]
          have hrest : (s.drop (I + 2)).drop (j + 1) = s.drop (N + 1) := by rw [List.drop_drop, hN]; rfl
          rw [h3, hrest] at HR1
          dsimp only at HR1
          have hN1 : N + 1 ≤ s.length := by omega
          have hNI : I + 2 ≤ N := by omega
          obtain ⟨nm, hnn0⟩ : ∃ nm, nm = (s.drop (I + 2)).take j := ⟨_, rfl⟩
          rw [← hnn0] at hnm HR1
          have hnml : nm.length ≤ s.length := by rw [hnn0, List.length_take]; omega
          have HV := Lib.hid (fun v => RVar_c nm (by omega) v)
          clear h1 h2 h3 hN hrest hnn0
          go_wp2_with fail
          refine (HC2.out _).mono ?_; rintro e uu ⟨rfl, hu⟩; obtain ⟨ξ2, hnew⟩ : ∃ ξ : X v No, ξ.v = uu := ⟨⟨uu, ξ1.h.then_ext hu⟩, rfl⟩; subst hnew; have Hξ2 := Lib.hid hu; clear hu
          clear HC2
          obtain ⟨vb, hvb⟩ : ∃ b, b = varB nm := ⟨_, rfl⟩
          rw [← hvb] at HV HR1
          clear hvb
          cases vb with
          | false =>
            have HR2 : Hid (R = ([], 4)) := by rw [Hid, HR1.out]; exact if_pos (.inr rfl)
            clear HR1
            go_wp2_with fail
            refine (HV.out _).mono ?_; rintro e uu ⟨rfl, hu⟩; obtain ⟨ξ3, hnew⟩ : ∃ ξ : X v No, ξ.v = uu := ⟨⟨uu, ξ2.h.then_ext hu⟩, rfl⟩; subst hnew; have Hξ3 := Lib.hid hu; clear hu
            go_wp2_with fail
            go_ret2
            rw [HR2.out]
            exact ⟨rfl, ξ3.h⟩
          | true =>
            have HR2 : Hid (R = match fndL nm xs with
              | none => ([], 5)
              | some v => if (rec v.2).2 ≠ 0 then ([], (rec v.2).2) else if 600 < (out ++ a ++ (rec v.2).1).length then ([], 2) else expL xs rec g (s.drop (N + 1)) (out ++ a ++ (rec v.2).1)) := HR1.out.trans (if_neg (by simp))
            clear HR1
            go_wp2_with fail
            refine (HV.out _).mono ?_; rintro e uu ⟨rfl, hu⟩; obtain ⟨ξ3, hnew⟩ : ∃ ξ : X v No, ξ.v = uu := ⟨⟨uu, ξ2.h.then_ext hu⟩, rfl⟩; subst hnew; have Hξ3 := Lib.hid hu; clear hu
            clear HV
            go_wp2_with fail
            go_loopw [14, 15, 16] (fun tv bv kv wr => ∃ q : Nat, q ≤ n ∧ kv = .int .i64 q ∧ tv = S (fT (fndL nm (xs.take q))) ∧ bv = .bool (fndL nm (xs.take q)).isSome ∧ ∃ ξ : X v No, wr = ξ.v) (fun _ _ kv _ => n - (intOf kv).toNat)
            case atStart => exact ⟨0, Nat.zero_le _, rfl, rfl, rfl, ξ3, rfl⟩
            case round =>
              obtain ⟨q, hq, rfl, rfl, rfl, ξ4, rfl⟩ := hrel
              by_cases hqn : q < n
              · have HS := Lib.hid (H.out.ext hv)
                obtain ⟨b, o, f, rfl, hfx, cx0, cx1⟩ := files_get HS.out hqn
                have HFx := Lib.hid (fndL_succ (k := nm) hfx)
                clear hfx
                generalize fndL nm (xs.take q) = fo at HFx
                by_cases hfn : f.1 = nm
                · have e1 : (f.1 == nm) = true := by simpa using hfn
                  have HF2 := Lib.hid (HFx.out.trans (if_pos hfn))
                  clear HFx hfn
                  go_wp2_with fail
                  go_roundw
                  case rel => exact ⟨q + 1, by omega, by go_num, by rw [HF2.out]; rfl, by rw [HF2.out]; rfl, ξ4, rfl⟩
                  case measure => simp [intOf]; omega
                · have e1 : (f.1 == nm) = false := by simpa using hfn
                  have HF2 := Lib.hid (HFx.out.trans (if_neg hfn))
                  clear HFx hfn
                  go_wp2_with fail
                  go_roundw
                  case rel => exact ⟨q + 1, by omega, by go_num, by rw [HF2.out], by rw [HF2.out], ξ4, rfl⟩
                  case measure => simp [intOf]; omega
              · have eq1 : xs.take q = xs := List.take_of_length_le (by omega)
                rw [eq1]
                clear eq1
                cases hfn : fndL nm xs with
                | none =>
                  rw [hfn] at HR2
                  have HR3 : Hid (R = ([], 5)) := HR2.out
                  clear HR2 hfn
                  go_wp2_with fail
                  go_ret2
                  rw [HR3.out]
                  exact ⟨rfl, ξ4.h⟩
                | some z =>
                  rw [hfn] at HR2
                  have hzl := HX.out z (fnd_mem hfn)
                  have HR3 : Hid (R = if (rec z.2).2 ≠ 0 then ([], (rec z.2).2) else if 600 < (out ++ a ++ (rec z.2).1).length then ([], 2) else expL xs rec g (s.drop (N + 1)) (out ++ a ++ (rec z.2).1)) := HR2.out
                  have HD := Lib.hid (HI2.out z.2 hzl)
                  have hbd := HBd.out z.2
                  have hnn := HNn.out z.2
                  generalize rec z.2 = r at HR3 HD hbd hnn
                  obtain ⟨rt, rf⟩ := r
                  dsimp only at HR3 HD hbd hnn
                  clear HR2 hfn
                  rw [show fT (some z) = z.2 from rfl]
                  go_wp2_with fail
                  refine (HD.out _ (hv.then_ext ξ4.h)).mono ?_; rintro e uu ⟨rfl, hu⟩; obtain ⟨ξ5, hnew⟩ : ∃ ξ : X v No, ξ.v = uu := ⟨⟨uu, ξ4.h.then_ext hu⟩, rfl⟩; subst hnew; have Hξ5 := Lib.hid hu; clear hu
                  clear HD
                  by_cases hrf : rf = 0
                  · have HR4 : Hid (R = if 600 < (out ++ a ++ rt).length then ([], 2) else expL xs rec g (s.drop (N + 1)) (out ++ a ++ rt)) := by rw [Hid, HR3.out, if_neg (by simpa using hrf)]
                    subst hrf
                    clear HR3
                    by_cases hl : 600 < (out ++ a ++ rt).length
                    · have HR5 : Hid (R = ([], 2)) := by rw [Hid, HR4.out, if_pos hl]
                      rw [List.length_append, List.length_append] at hl
                      clear HR4
                      go_wp2_with fail
                      go_ret2
                      rw [HR5.out]
                      exact ⟨rfl, ξ5.h⟩
                    · have HR5 : Hid (R = expL xs rec g (s.drop (N + 1)) (out ++ a ++ rt)) := by rw [Hid, HR4.out, if_neg hl]
                      rw [List.length_append, List.length_append] at hl
                      clear HR4
                      go_wp2_with fail
                      go_roundw
                      case rel => exact ⟨g, N + 1, out ++ a ++ rt, by simp, by go_num, by omega, by omega, by simp only [List.length_append]; omega, HR5.out, ξ5, rfl⟩
                      case measure => simp [intOf]; omega
                  · have HR4 : Hid (R = ([], rf)) := by rw [Hid, HR3.out, if_pos (by simpa using hrf)]
                    have g7 : decide ((0 : Int) < rf) = true := by rw [decide_eq_true_iff]; omega
                    clear HR3
                    go_wp2_with fail
                    go_ret2
                    rw [HR4.out]
                    exact ⟨rfl, ξ5.h⟩
end Go.Proofs.YtnhaekifcieeoaaGreatDoor
