/- Put together: Rhd. -/
import Derived.Test.YtnhaekifcieeoaaGreatDoorPk20
import Derived.Test.YtnhaekifcieeoaaGreatDoorPk10
import Derived.Deep.CutRange
namespace Go.Proofs.YtnhaekifcieeoaaGreatDoor
open Go Go.RowKit
def BoxT (w : World) : Nat → Prop := fun b => ∃ cs, Cs w b makeT cs
def MakeS (w : World) (v : MkV) (rs : List (RulA × Rul)) (m : Mk) : Prop := ∀ u, Only (BoxT w) w u → MakeR u v rs m
theorem MakeS.here {w : World} {v : MkV} {rs : List (RulA × Rul)} {m : Mk} (h : MakeS w v rs m) : MakeR w v rs m := h w (Only.refl _ _)
theorem makeS0 (w : World) : MakeS w mkV0 [] mk0 := fun u _ => makeR0 u
theorem MakeS.ext {w w' : World} {v : MkV} {rs : List (RulA × Rul)} {m : Mk} (h : MakeS w v rs m) (hx : Ext w w') : MakeS w' v rs m := fun u hu =>
  h u (hx.any.trans hu fun b hb ⟨cs, hc⟩ => ⟨cs, (hx.block b hb id).symm.trans hc⟩)
theorem MakeS.at_ {w w' : World} {g : Nat} {cs : Array Value} {v : MkV} {rs : List (RulA × Rul)} {m : Mk} (h : MakeS w v rs m) (hc : Cs w g makeT cs) (hO : Only (fun b => b = g) w w') : MakeS w' v rs m := fun u hu => by
  refine h u ((hO.weak (G := BoxT w) fun b _ e => by have e : b = g := e; subst e; exact ⟨cs, hc⟩).trans hu fun b hb ⟨ds, hd⟩ => ?_)
  by_cases e : b = g
  · subst e; exact ⟨cs, hc⟩
  · exact ⟨ds, (hO.block b hb e).symm.trans hd⟩
theorem own_box {w u : World} {B : Nat} {e : TypeId} {size n : Nat} {x : Value} {xs : List Value} (h : w.ownsRow B e size x n xs) (hne : e ≠ makeT) (hu : Only (BoxT w) w u) : u.ownsRow B e size x n xs :=
  own_keep h hu fun b hb ⟨_, hc⟩ => own_ne_cs h hc hne b hb rfl
def HdRes (w : World) (R : Mk × Int) (e : Ending) (w' : World) : Prop := ∃ v rs, e = .returned (.tuple #[mkV v R.1, .int .i64 R.2]) ∧ MakeS w' v rs R.1 ∧ Ext w w'
theorem rul_enc1 (rs : List (RulA × Rul)) : ∀ u ∈ rs.flatMap rulF.enc, u.oneCell' = true := by
  intro u hu
  obtain ⟨x, _, hx⟩ := List.mem_flatMap.1 hu
  simp only [rulF, List.mem_cons, List.not_mem_nil, or_false] at hx
  rcases hx with rfl | rfl | rfl <;> rfl
theorem rd_cs {w : World} {g : Nat} {t : TypeId} {cs : List Value} (h : Cs w g t cs.toArray) : Rd w (some ⟨g, 0, none⟩) 1 cs.length cs := by
  refine ⟨by simp, fun _ => ⟨g, 0, rfl, fun j u hu => ?_⟩⟩
  rw [Nat.zero_add, h.cell]
  simpa using hu
theorem hd_done {w w7 w8 wf : World} {g2 g4 : Nat} {vA rA pA A7 tA nA : Option Addr} {vc rc pc c7 tc nc : Nat} {rs : List (RulA × Rul)} {m : Mk} {T N : List Str} {cs ds : Array Value} (hrl : rs.length = m.rules.length) (hS : MakeS w ⟨vA, vc, rA, rc, pA, pc⟩ rs m) (h2 : w.heap.size ≤ g2) (h4 : w.heap.size ≤ g4) (x7 : Ext w w7)
    (hF : w7.ownsRow 0 ruleT 3 (.slice A7 (rs ++ [((⟨tA, tc, nA, nc, none, 0⟩ : RulA), (⟨T, N, []⟩ : Rul))]).length c7) (rs ++ [((⟨tA, tc, nA, nc, none, 0⟩ : RulA), (⟨T, N, []⟩ : Rul))]).length ((rs ++ [((⟨tA, tc, nA, nc, none, 0⟩ : RulA), (⟨T, N, []⟩ : Rul))]).flatMap rulF.enc))
    (hT : w7.ownsRow 0 9 1 (.slice tA T.length tc) T.length (T.flatMap strF.enc)) (hN : w7.ownsRow 0 9 1 (.slice nA N.length nc) N.length (N.flatMap strF.enc))
    (c2 : Cs w7 g2 makeT cs) (O8 : Only (fun q => q = g2) w7 w8) (d4 : Cs w8 g4 makeT ds) (O9 : Only (fun q => q = g4) w8 wf) :
    HdRes w (⟨m.vars, m.rules ++ [⟨T, N, []⟩], m.phony⟩, 0) (.returned (.tuple #[.agg #[.slice vA m.vars.length vc, .slice A7 (m.rules.length + 1 : Nat) c7, .slice pA m.phony.length pc], .int .i64 0])) wf := by
  have E8 : Ext w w8 := x7.trans O8 fun b hb e => by have e : b = g2 := e; omega
  have E9 : Ext w wf := E8.trans O9 fun b hb e => by have e : b = g4 := e; omega
  have two : ∀ {e : TypeId} {size n : Nat} {x : Value} {xs : List Value}, w7.ownsRow 0 e size x n xs → e ≠ makeT → wf.ownsRow 0 e size x n xs := fun hh hne => by
    have k8 := own_keep hh O8 (own_ne_cs hh c2 hne)
    exact own_keep k8 O9 (own_ne_cs k8 d4 hne)
  refine ⟨⟨vA, vc, A7, c7, pA, pc⟩, rs ++ [((⟨tA, tc, nA, nc, none, 0⟩ : RulA), (⟨T, N, []⟩ : Rul))], ?_, fun u hu => ⟨((hS.ext E9) u hu).fv, ?_, ((hS.ext E9) u hu).fp, fun x hx => ?_, ?_⟩, E9⟩
  · show _ = Ending.returned (.tuple #[.agg #[_, .slice A7 (m.rules ++ [(⟨T, N, []⟩ : Rul)]).length c7, _], _])
    rw [List.length_append]
    rfl
  · have := SlR.of_own (T := rulF) (by decide) (own_box (two hF (by decide)) (by decide) hu)
    rw [List.length_append, hrl] at this
    show SlR rulF u A7 (m.rules ++ [(⟨T, N, []⟩ : Rul)]).length _
    rw [List.length_append]
    exact this
  · rcases List.mem_append.1 hx with hx | hx
    · exact ((hS.ext E9) u hu).rr x hx
    · obtain rfl := List.mem_singleton.1 hx
      exact ⟨SlR.of_own (by decide) (own_box (two hT (by decide)) (by decide) hu), SlR.of_own (by decide) (own_box (two hN (by decide)) (by decide) hu), SlR.none_⟩
  · rw [List.map_append, hS.here.rm]
    rfl
theorem fnd_pat (s : Str) : decide (0 ≤ fndI s [37] 0) = patB s := by
  unfold patB
  rcases cutB_fnd 37 s with ⟨h1, h2⟩ | ⟨i, h1, _, h3⟩
  · rw [h1, h2]; rfl
  · rw [h1, h3]
    exact decide_eq_true (by omega)
set_option maxRecDepth 100000 in
set_option maxHeartbeats 8000000 in
theorem Headed_c {w : World} {v : MkV} {rs : List (RulA × Rul)} {m : Mk} {k : Nat} (hS : MakeS w v rs m) (hf : m.Fit k) (s : Str) (hs : s.length ≤ 600) :
    Calls Tryz.prog 59 #[mkV v m, S s] w (HdRes w (headF m s)) := by
  obtain ⟨vA, vc, rA, rc, pA, pc⟩ := v
  obtain ⟨g2, hg2⟩ : ∃ g, g = w.heap.size := ⟨_, rfl⟩
  obtain ⟨w1, hw1⟩ : ∃ u, u = w.alloc (.cells #[.slice vA m.vars.length vc, .slice rA m.rules.length rc, .slice pA m.phony.length pc] makeT) := ⟨_, rfl⟩
  have x1 : Ext w w1 := by rw [hw1]; exact (Only.refl No w).alloc _
  have hc1 : Cs w1 g2 makeT #[.slice vA m.vars.length vc, .slice rA m.rules.length rc, .slice pA m.phony.length pc] := by rw [hw1, hg2]; exact Cs.new _ _ _
  obtain ⟨g4, hg4⟩ : ∃ g, g = w1.heap.size := ⟨_, rfl⟩
  obtain ⟨w2, hw2⟩ : ∃ u, u = w1.alloc (.cells #[.slice none 0 0, .slice none 0 0, .slice none 0 0] makeT) := ⟨_, rfl⟩
  have x2 : Ext w1 w2 := by rw [hw2]; exact (Only.refl No w1).alloc _
  have C4 : Hid (Cs w2 g4 makeT #[.slice none 0 0, .slice none 0 0, .slice none 0 0]) := by rw [hw2, hg4]; exact Cs.new _ _ _
  have CB := Lib.hid (hc1.keep x2 id)
  have hz : g4 = g2 + 1 := by rw [hg4, hg2, hw1]; simp
  have hz2 : w.heap.size ≤ g2 := by omega
  have hz4 : w.heap.size ≤ g4 := by omega
  have hz24 : g2 ≠ g4 := by omega
  have XB := Lib.hid (x1.then_ext x2)
  have HX : Hid (∀ u v', Ext w2 u → Only (fun b => b = g4) u v' → Ext w v') := fun u v' h1 h2 => (XB.out.then_ext h1).trans h2 fun b hb e => by have e : b = g4 := e; omega
  have HSt := Lib.hid hS
  have h := hS.here
  have H := Lib.hid h
  clear hS
  clear x1 x2 hc1
  have HB := Lib.hid (exp_bound m.vars 6 s)
  have HNn := Lib.hid (exp_nonneg m.vars 6 s)
  have hr10 : m.rules.length ≤ 10 := hf.r
  have HF : Hid (headF m s = if (exp m.vars 6 s).2 ≠ 0 then (m, (exp m.vars 6 s).2)
      else if (cutB 58 (exp m.vars 6 s).1).2.2 = false ∨ fieldsF (cutB 58 (exp m.vars 6 s).1).1 = [] then (m, 4)
      else if 2 < (fieldsF (cutB 58 (exp m.vars 6 s).1).1).length ∨ 3 < (fieldsF (cutB 58 (exp m.vars 6 s).1).2.1).length ∨ m.rules.length = 10 then (m, 2)
      else if allOk (fieldsF (cutB 58 (exp m.vars 6 s).1).1) (fieldsF (cutB 58 (exp m.vars 6 s).1).2.1) = true then (⟨m.vars, m.rules ++ [⟨fieldsF (cutB 58 (exp m.vars 6 s).1).1, fieldsF (cutB 58 (exp m.vars 6 s).1).2.1, []⟩], m.phony⟩, 0)
      else (m, 3)) := rfl
  have HT : Hid (Calls Tryz.prog 56 #[.slice vA m.vars.length vc, S s, .int .i64 0] w2 fun e w' => e = .returned (.tuple #[S (exp m.vars 6 s).1, .int .i64 (exp m.vars 6 s).2]) ∧ Ext w2 w') :=
    RExp_c h.fv (by have := hf.v; omega) (fun f hm => by have := (hf.vt f hm).2; omega) 6 (Nat.le_refl _) s (by omega) w2 XB.out
  have c0 : w2.cell? ⟨g2, 0, none⟩ = some (.slice vA m.vars.length vc) := CB.out.cell 0
  clear h hf
  generalize exp m.vars 6 s = ex at HF HT HB HNn
  obtain ⟨t, e⟩ := ex
  dsimp only at HF HT HB HNn
  have htl := HB.out
  have hnn := HNn.out
  show Calls _ _ #[.agg #[.slice vA m.vars.length vc, .slice rA m.rules.length rc, .slice pA m.phony.length pc], S s] _ _
  go_enter Tryz.func59, Tryz.ntmps59
  go_upto_region 1 with fail
  rw [← hw1, ← hg2, ← hw2, ← hz]
  clear hw1 hg2 hw2 hg4 hz
  go_wp2_with fail
  refine HT.out.mono ?_
  rintro e' u1 ⟨rfl, hx⟩
  have X1 := Lib.hid hx
  clear hx HT c0
  by_cases he : e = 0
  · subst he
    have HC := Lib.hid (rfind1_c t (by omega) 58 0 (Nat.zero_le _) u1)
    have HF2 := Lib.hid (HF.out.trans (if_neg (fun h => h rfl)))
    clear HF
    rcases cutB_fnd 58 t with ⟨h1, h2⟩ | ⟨i, h1, h2, h3⟩
    · rw [h2] at HC
      have HF3 : Hid (headF m s = (m, 4)) := HF2.out.trans (if_pos (.inl (by rw [h1])))
      clear h1 h2
      go_wp2_with fail
      refine HC.out.mono ?_
      rintro e' u2 ⟨rfl, hx⟩
      have X2 := Lib.hid (X1.out.then_ext hx)
      clear hx HC X1
      have D2 := Lib.hid (CB.out.keep X2.out id)
      have D4 := Lib.hid (C4.out.keep X2.out id)
      have q0 : u2.cell? ⟨g2, 0, none⟩ = some (.slice vA m.vars.length vc) := D2.out.cell 0
      have q1 : u2.cell? ⟨g2, 1, none⟩ = some (.slice rA m.rules.length rc) := D2.out.cell 1
      have q2 : u2.cell? ⟨g2, 2, none⟩ = some (.slice pA m.phony.length pc) := D2.out.cell 2
      have e0 : u2.cell? ⟨g4, 0, none⟩ = some (.slice none 0 0) := D4.out.cell 0
      have e1 : u2.cell? ⟨g4, 1, none⟩ = some (.slice none 0 0) := D4.out.cell 1
      have e2 : u2.cell? ⟨g4, 2, none⟩ = some (.slice none 0 0) := D4.out.cell 2
      have z0 := D4.out.frozen 0
      have z1 := D4.out.frozen 1
      have z2 := D4.out.frozen 2
      have HO : Hid (∀ a b c, Only (fun b => b = g4) u2 (((u2.setCell ⟨g4, 0, none⟩ a).setCell ⟨g4, 1, none⟩ b).setCell ⟨g4, 2, none⟩ c)) := fun a b c => (((Only.refl _ _).at_ 0 a).at_ 1 b).at_ 2 c
      have HS : Hid (∀ a b c, Cs (((u2.setCell ⟨g4, 0, none⟩ a).setCell ⟨g4, 1, none⟩ b).setCell ⟨g4, 2, none⟩ c) g4 makeT #[a, b, c]) := fun a b c => ((D4.out.set_ 0 a).set_ 1 b).set_ 2 c
      go_wp2_with fail
      have hl := load_mk (HS.out (.slice vA m.vars.length vc) (.slice rA m.rules.length rc) (.slice pA m.phony.length pc))
      refine bodyPost_cell (p := 4) (u := 5) (ty := makeT) (ad := ⟨g4, 0, none⟩) rfl rfl rfl hl ?_
      rw [HF3.out]
      exact ⟨⟨vA, vc, rA, rc, pA, pc⟩, rs, rfl, HSt.out.ext (HX.out _ _ X2.out (HO.out _ _ _)), HX.out _ _ X2.out (HO.out _ _ _)⟩
    · rw [h1] at HC
      rw [h3] at HF2
      dsimp only at HF2
      have htk : (t.take i).length ≤ 600 := by rw [List.length_take]; omega
      have hdk : (t.drop (i + 1)).length ≤ 600 := by rw [List.length_drop]; omega
      have hil : i ≤ t.length := by omega
      have HW1 := Lib.hid (fun v => RFields_c (t.take i) (by omega) v)
      have HW2 := Lib.hid (fun v => RFields_c (t.drop (i + 1)) (by omega) v)
      have HL1 := Lib.hid (fun l (hl : l ∈ fieldsF (t.take i)) => Nat.le_trans (fieldsF_mem hl) htk)
      have HL2 := Lib.hid (fun l (hl : l ∈ fieldsF (t.drop (i + 1))) => Nat.le_trans (fieldsF_mem hl) hdk)
      have hn1 := fieldsF_le (t.take i)
      have hn2 := fieldsF_le (t.drop (i + 1))
      generalize fieldsF (t.take i) = T at HW1 HF2 HL1 hn1
      generalize fieldsF (t.drop (i + 1)) = N at HW2 HF2 HL2 hn2
      have g0 : decide ((i : Int) < 0) = false := by rw [decide_eq_false_iff_not]; omega
      go_wp2_with fail
      refine HC.out.mono ?_
      rintro e' u2 ⟨rfl, hx⟩
      have X2 := Lib.hid (X1.out.then_ext hx)
      clear hx HC X1
      go_upto_region 7 with fail
      go_cut [8] from 31 to 40 (fun r wx => ∃ g9 tA tc nA nc, r = .pointer (some ⟨g9, 0, none⟩) ∧ Ext u2 wx ∧ Cs wx g9 ruleT #[.slice tA T.length tc, .slice nA N.length nc, .slice none 0 0] ∧ wx.ownsRow 0 9 1 (.slice tA T.length tc) T.length (T.flatMap strF.enc) ∧ wx.ownsRow 0 9 1 (.slice nA N.length nc) N.length (N.flatMap strF.enc) ∧ w.heap.size ≤ g9)
      case first =>
        refine Mix.wp_tree 12 [3, 8, 10, 11] (Cl u2 No) rfl (by kernel_rfl) (by kernel_rfl) (Cl.drew_ (X.here u2 No)) ?_
        obtain ⟨μ0, hμ0⟩ : ∃ u, u = u2.drew := ⟨_, rfl⟩
        have xμ : Ext u2 μ0 := by rw [hμ0]; exact (Only.refl No u2).drew
        rw [← hμ0]
        clear hμ0
        (refine Mix.tree_quiet (i := 0) (by kernel_rfl) rfl rfl rfl rfl ?_; intro K hK; go_big_quiet_op; go_big_quiet_on); (refine Mix.tree_quiet (i := 1) (by kernel_rfl) rfl rfl rfl rfl ?_; intro K hK; go_big_quiet_op; go_big_quiet_on); (refine Mix.tree_quiet (i := 2) (by kernel_rfl) rfl rfl rfl rfl ?_; intro K hK; go_big_quiet_op; go_big_quiet_on); (refine Mix.tree_quiet (i := 4) (by kernel_rfl) rfl rfl rfl rfl ?_; intro K hK; go_big_quiet_op; go_big_quiet_on); (refine Mix.tree_quiet (i := 5) (by kernel_rfl) rfl rfl rfl rfl ?_; intro K hK; go_big_quiet_op; go_big_quiet_on); (refine Mix.tree_quiet (i := 6) (by kernel_rfl) rfl rfl rfl rfl ?_; intro K hK; go_big_quiet_op; go_big_quiet_on); (refine Mix.tree_quiet (i := 7) (by kernel_rfl) rfl rfl rfl rfl ?_; intro K hK; go_big_quiet_op; go_big_quiet_on)
        refine Mix.tree_two (i := 3) (j := 10) (by kernel_rfl) (by kernel_rfl) rfl rfl rfl rfl rfl rfl ?_ ?_
        ·
          intro K hK
          go_simp
          refine (HW1.out _).mono ?_
          rintro e' v3 ⟨tA, tc, rfl, hT⟩
          have xv3 : Ext u2 v3 := (xμ).then_ext hT.ext
          refine ⟨_, rfl, hK _ _ (Cl.of xv3) ?_⟩
          clear hK K
          simp only [Act.put, List.setIfInBounds_toArray, List.set_cons_succ, List.set_cons_zero]
          refine Mix.tree_two (i := 8) (j := 10) (by kernel_rfl) (by kernel_rfl) rfl rfl rfl rfl rfl rfl ?_ ?_
          ·
            intro K hK
            go_simp
            refine (HW2.out _).mono ?_
            rintro e' v8 ⟨nA, nc, rfl, hN⟩
            have xv8 : Ext u2 v8 := (xv3).then_ext hN.ext
            refine ⟨_, rfl, hK _ _ (Cl.of xv8) ?_⟩
            clear hK K
            simp only [Act.put, List.setIfInBounds_toArray, List.set_cons_succ, List.set_cons_zero]
            (refine Mix.tree_quiet (i := 9) (by kernel_rfl) rfl rfl rfl rfl ?_; intro K hK; go_big_quiet_op; go_big_quiet_on)
            (refine Mix.tree_one (i := 10) (by kernel_rfl) (by kernel_rfl) rfl rfl rfl ?_; intro K hK; go_simp)
            obtain ⟨va, hva⟩ : ∃ u, u = (v8).alloc (.cells #[.slice none 0 0, .slice none 0 0, .slice none 0 0] ruleT) := ⟨_, rfl⟩
            have yva : Ext (v8) va := by rw [hva]; exact (Only.refl No _).alloc _
            have xva : Ext u2 va := (xv8).then_ext yva
            obtain ⟨g9, hg9⟩ : ∃ g, g = (v8).heap.size := ⟨_, rfl⟩
            have hC : Cs va g9 ruleT #[.slice none 0 0, .slice none 0 0, .slice none 0 0] := by rw [hva, hg9]; exact Cs.new _ _ _
            have hG9 : u2.heap.size ≤ g9 := by rw [hg9]; exact (xv8).size
            rw [← hva, ← hg9]
            refine hK _ _ (Cl.of xva) ?_
            clear hK K hva hg9
            simp only [Act.put, List.setIfInBounds_toArray, List.set_cons_succ, List.set_cons_zero]
            have hCb : Cs va g9 ruleT #[.slice none 0 0, .slice none 0 0, .slice none 0 0] := hC
            have hTb : va.ownsRow 0 9 1 (.slice tA T.length tc) T.length (T.flatMap strF.enc) := own_ext hT.own (hN.ext.then_ext yva)
            have hNb : va.ownsRow 0 9 1 (.slice nA N.length nc) N.length (N.flatMap strF.enc) := own_ext hN.own yva
            have k0 : va.cell? ⟨g9, 0, none⟩ = some (.slice none 0 0) := hCb.cell 0
            have k1 : va.cell? ⟨g9, 1, none⟩ = some (.slice none 0 0) := hCb.cell 1
            have k2 : va.cell? ⟨g9, 2, none⟩ = some (.slice none 0 0) := hCb.cell 2
            have z0 := hCb.frozen 0
            have z1 := hCb.frozen 1
            have z2 := hCb.frozen 2
            obtain ⟨v9, hv9⟩ : ∃ v9, v9 = (((va.setCell ⟨g9, 0, none⟩ (.slice tA T.length tc)).setCell ⟨g9, 1, none⟩ (.slice nA N.length nc)).setCell ⟨g9, 2, none⟩ (.slice none 0 0)) := ⟨_, rfl⟩
            have O9 : Only (fun q => q = g9) va v9 := by rw [hv9]; exact (((Only.refl _ _).at_ 0 _).at_ 1 _).at_ 2 _
            have C9 : Cs v9 g9 ruleT #[.slice tA T.length tc, .slice nA N.length nc, .slice none 0 0] := by rw [hv9]; exact ((hCb.set_ 0 _).set_ 1 _).set_ 2 _
            have x9 : Ext u2 v9 := xva.trans O9 fun q hq e => by have e : q = g9 := e; omega
            have R9 := own_keep hTb O9 (own_ne_cs hTb hCb (by decide))
            have Q9 := own_keep hNb O9 (own_ne_cs hNb hCb (by decide))
            have hG99 : w.heap.size ≤ g9 := Nat.le_trans ((XB.out.then_ext X2.out).size) hG9
            (refine Mix.tree_one (i := 11) (by kernel_rfl) (by kernel_rfl) rfl rfl rfl ?_; intro K hK; go_simp)
            rw [← hv9]
            refine hK _ _ (Cl.of x9) ?_
            clear hK K hv9 k0 k1 k2 z0 z1 z2
            simp only [Act.put, List.setIfInBounds_toArray, List.set_cons_succ, List.set_cons_zero]
            refine Mix.tree_nil ?_
            go_wp2_with fail
            go_meet
            exact ⟨g9, tA, tc, nA, nc, rfl, x9, C9, R9, Q9, hG99⟩
          ·
            intro K hK
            go_simp
            obtain ⟨va, hva⟩ : ∃ u, u = (v3).alloc (.cells #[.slice none 0 0, .slice none 0 0, .slice none 0 0] ruleT) := ⟨_, rfl⟩
            have yva : Ext (v3) va := by rw [hva]; exact (Only.refl No _).alloc _
            have xva : Ext u2 va := (xv3).then_ext yva
            obtain ⟨g9, hg9⟩ : ∃ g, g = (v3).heap.size := ⟨_, rfl⟩
            have hC : Cs va g9 ruleT #[.slice none 0 0, .slice none 0 0, .slice none 0 0] := by rw [hva, hg9]; exact Cs.new _ _ _
            have hG9 : u2.heap.size ≤ g9 := by rw [hg9]; exact (xv3).size
            rw [← hva, ← hg9]
            refine hK _ _ (Cl.of xva) ?_
            clear hK K hva hg9
            simp only [Act.put, List.setIfInBounds_toArray, List.set_cons_succ, List.set_cons_zero]
            (refine Mix.tree_one (i := 8) (by kernel_rfl) (by kernel_rfl) rfl rfl rfl ?_; intro K hK; go_simp)
            refine (HW2.out _).mono ?_
            rintro e' v8 ⟨nA, nc, rfl, hN⟩
            have xv8 : Ext u2 v8 := (xva).then_ext hN.ext
            refine ⟨_, rfl, hK _ _ (Cl.of xv8) ?_⟩
            clear hK K
            simp only [Act.put, List.setIfInBounds_toArray, List.set_cons_succ, List.set_cons_zero]
            (refine Mix.tree_quiet (i := 9) (by kernel_rfl) rfl rfl rfl rfl ?_; intro K hK; go_big_quiet_op; go_big_quiet_on)
            have hCb : Cs v8 g9 ruleT #[.slice none 0 0, .slice none 0 0, .slice none 0 0] := hC.keep hN.ext id
            have hTb : v8.ownsRow 0 9 1 (.slice tA T.length tc) T.length (T.flatMap strF.enc) := own_ext hT.own (yva.then_ext hN.ext)
            have hNb : v8.ownsRow 0 9 1 (.slice nA N.length nc) N.length (N.flatMap strF.enc) := hN.own
            have k0 : v8.cell? ⟨g9, 0, none⟩ = some (.slice none 0 0) := hCb.cell 0
            have k1 : v8.cell? ⟨g9, 1, none⟩ = some (.slice none 0 0) := hCb.cell 1
            have k2 : v8.cell? ⟨g9, 2, none⟩ = some (.slice none 0 0) := hCb.cell 2
            have z0 := hCb.frozen 0
            have z1 := hCb.frozen 1
            have z2 := hCb.frozen 2
            obtain ⟨v9, hv9⟩ : ∃ v9, v9 = (((v8.setCell ⟨g9, 0, none⟩ (.slice tA T.length tc)).setCell ⟨g9, 1, none⟩ (.slice nA N.length nc)).setCell ⟨g9, 2, none⟩ (.slice none 0 0)) := ⟨_, rfl⟩
            have O9 : Only (fun q => q = g9) v8 v9 := by rw [hv9]; exact (((Only.refl _ _).at_ 0 _).at_ 1 _).at_ 2 _
            have C9 : Cs v9 g9 ruleT #[.slice tA T.length tc, .slice nA N.length nc, .slice none 0 0] := by rw [hv9]; exact ((hCb.set_ 0 _).set_ 1 _).set_ 2 _
            have x9 : Ext u2 v9 := xv8.trans O9 fun q hq e => by have e : q = g9 := e; omega
            have R9 := own_keep hTb O9 (own_ne_cs hTb hCb (by decide))
            have Q9 := own_keep hNb O9 (own_ne_cs hNb hCb (by decide))
            have hG99 : w.heap.size ≤ g9 := Nat.le_trans ((XB.out.then_ext X2.out).size) hG9
            (refine Mix.tree_one (i := 11) (by kernel_rfl) (by kernel_rfl) rfl rfl rfl ?_; intro K hK; go_simp)
            rw [← hv9]
            refine hK _ _ (Cl.of x9) ?_
            clear hK K hv9 k0 k1 k2 z0 z1 z2
            simp only [Act.put, List.setIfInBounds_toArray, List.set_cons_succ, List.set_cons_zero]
            refine Mix.tree_nil ?_
            go_wp2_with fail
            go_meet
            exact ⟨g9, tA, tc, nA, nc, rfl, x9, C9, R9, Q9, hG99⟩
        ·
          intro K hK
          go_simp
          obtain ⟨va, hva⟩ : ∃ u, u = (μ0).alloc (.cells #[.slice none 0 0, .slice none 0 0, .slice none 0 0] ruleT) := ⟨_, rfl⟩
          have yva : Ext (μ0) va := by rw [hva]; exact (Only.refl No _).alloc _
          have xva : Ext u2 va := (xμ).then_ext yva
          obtain ⟨g9, hg9⟩ : ∃ g, g = (μ0).heap.size := ⟨_, rfl⟩
          have hC : Cs va g9 ruleT #[.slice none 0 0, .slice none 0 0, .slice none 0 0] := by rw [hva, hg9]; exact Cs.new _ _ _
          have hG9 : u2.heap.size ≤ g9 := by rw [hg9]; exact (xμ).size
          rw [← hva, ← hg9]
          refine hK _ _ (Cl.of xva) ?_
          clear hK K hva hg9
          simp only [Act.put, List.setIfInBounds_toArray, List.set_cons_succ, List.set_cons_zero]
          (refine Mix.tree_one (i := 3) (by kernel_rfl) (by kernel_rfl) rfl rfl rfl ?_; intro K hK; go_simp)
          refine (HW1.out _).mono ?_
          rintro e' v3 ⟨tA, tc, rfl, hT⟩
          have xv3 : Ext u2 v3 := (xva).then_ext hT.ext
          refine ⟨_, rfl, hK _ _ (Cl.of xv3) ?_⟩
          clear hK K
          simp only [Act.put, List.setIfInBounds_toArray, List.set_cons_succ, List.set_cons_zero]
          (refine Mix.tree_one (i := 8) (by kernel_rfl) (by kernel_rfl) rfl rfl rfl ?_; intro K hK; go_simp)
          refine (HW2.out _).mono ?_
          rintro e' v8 ⟨nA, nc, rfl, hN⟩
          have xv8 : Ext u2 v8 := (xv3).then_ext hN.ext
          refine ⟨_, rfl, hK _ _ (Cl.of xv8) ?_⟩
          clear hK K
          simp only [Act.put, List.setIfInBounds_toArray, List.set_cons_succ, List.set_cons_zero]
          (refine Mix.tree_quiet (i := 9) (by kernel_rfl) rfl rfl rfl rfl ?_; intro K hK; go_big_quiet_op; go_big_quiet_on)
          have hCb : Cs v8 g9 ruleT #[.slice none 0 0, .slice none 0 0, .slice none 0 0] := (hC.keep hT.ext id).keep hN.ext id
          have hTb : v8.ownsRow 0 9 1 (.slice tA T.length tc) T.length (T.flatMap strF.enc) := own_ext hT.own hN.ext
          have hNb : v8.ownsRow 0 9 1 (.slice nA N.length nc) N.length (N.flatMap strF.enc) := hN.own
          have k0 : v8.cell? ⟨g9, 0, none⟩ = some (.slice none 0 0) := hCb.cell 0
          have k1 : v8.cell? ⟨g9, 1, none⟩ = some (.slice none 0 0) := hCb.cell 1
          have k2 : v8.cell? ⟨g9, 2, none⟩ = some (.slice none 0 0) := hCb.cell 2
          have z0 := hCb.frozen 0
          have z1 := hCb.frozen 1
          have z2 := hCb.frozen 2
          obtain ⟨v9, hv9⟩ : ∃ v9, v9 = (((v8.setCell ⟨g9, 0, none⟩ (.slice tA T.length tc)).setCell ⟨g9, 1, none⟩ (.slice nA N.length nc)).setCell ⟨g9, 2, none⟩ (.slice none 0 0)) := ⟨_, rfl⟩
          have O9 : Only (fun q => q = g9) v8 v9 := by rw [hv9]; exact (((Only.refl _ _).at_ 0 _).at_ 1 _).at_ 2 _
          have C9 : Cs v9 g9 ruleT #[.slice tA T.length tc, .slice nA N.length nc, .slice none 0 0] := by rw [hv9]; exact ((hCb.set_ 0 _).set_ 1 _).set_ 2 _
          have x9 : Ext u2 v9 := xv8.trans O9 fun q hq e => by have e : q = g9 := e; omega
          have R9 := own_keep hTb O9 (own_ne_cs hTb hCb (by decide))
          have Q9 := own_keep hNb O9 (own_ne_cs hNb hCb (by decide))
          have hG99 : w.heap.size ≤ g9 := Nat.le_trans ((XB.out.then_ext X2.out).size) hG9
          (refine Mix.tree_one (i := 11) (by kernel_rfl) (by kernel_rfl) rfl rfl rfl ?_; intro K hK; go_simp)
          rw [← hv9]
          refine hK _ _ (Cl.of x9) ?_
          clear hK K hv9 k0 k1 k2 z0 z1 z2
          simp only [Act.put, List.setIfInBounds_toArray, List.set_cons_succ, List.set_cons_zero]
          refine Mix.tree_nil ?_
          go_wp2_with fail
          go_meet
          exact ⟨g9, tA, tc, nA, nc, rfl, x9, C9, R9, Q9, hG99⟩
      case rest =>
        obtain ⟨g9, tA, tc, nA, nc, hcr, hx, hC, hT, hN, hG9⟩ := hcut
        subst hcr
        have X5 := Lib.hid (X2.out.then_ext hx)
        have C5 := Lib.hid hC
        have T5 : Hid (SlR strF wc tA T.length T) := SlR.of_own (by decide) hT
        have N5 : Hid (SlR strF wc nA N.length N) := SlR.of_own (by decide) hN
        have OT5 := Lib.hid hT
        have ON5 := Lib.hid hN
        clear hx hC hT hN X2 HW1 HW2
        have d0 : wc.cell? ⟨g9, 0, none⟩ = some (.slice tA T.length tc) := C5.out.cell 0
        have d1 : wc.cell? ⟨g9, 1, none⟩ = some (.slice nA N.length nc) := C5.out.cell 1
        have B5 := Lib.hid (CB.out.keep X5.out id)
        have c1 : wc.cell? ⟨g2, 1, none⟩ = some (.slice rA m.rules.length rc) := B5.out.cell 1
        by_cases h0 : T.length = 0
        · have g0 : decide ((T.length : Int) = 0) = true := by rw [decide_eq_true_iff]; omega
          have g0b : (((T.length : Int)) == 0) = true := by rw [beq_iff_eq]; omega
          have HF3 : Hid (headF m s = (m, 4)) := HF2.out.trans (if_pos (.inr (List.eq_nil_of_length_eq_zero h0)))
          have D2 := Lib.hid (CB.out.keep X5.out id)
          have D4 := Lib.hid (C4.out.keep X5.out id)
          have q0 : wc.cell? ⟨g2, 0, none⟩ = some (.slice vA m.vars.length vc) := D2.out.cell 0
          have q1 : wc.cell? ⟨g2, 1, none⟩ = some (.slice rA m.rules.length rc) := D2.out.cell 1
          have q2 : wc.cell? ⟨g2, 2, none⟩ = some (.slice pA m.phony.length pc) := D2.out.cell 2
          have e0 : wc.cell? ⟨g4, 0, none⟩ = some (.slice none 0 0) := D4.out.cell 0
          have e1 : wc.cell? ⟨g4, 1, none⟩ = some (.slice none 0 0) := D4.out.cell 1
          have e2 : wc.cell? ⟨g4, 2, none⟩ = some (.slice none 0 0) := D4.out.cell 2
          have z0 := D4.out.frozen 0
          have z1 := D4.out.frozen 1
          have z2 := D4.out.frozen 2
          have HO : Hid (∀ a b c, Only (fun b => b = g4) wc (((wc.setCell ⟨g4, 0, none⟩ a).setCell ⟨g4, 1, none⟩ b).setCell ⟨g4, 2, none⟩ c)) := fun a b c => (((Only.refl _ _).at_ 0 a).at_ 1 b).at_ 2 c
          have HS : Hid (∀ a b c, Cs (((wc.setCell ⟨g4, 0, none⟩ a).setCell ⟨g4, 1, none⟩ b).setCell ⟨g4, 2, none⟩ c) g4 makeT #[a, b, c]) := fun a b c => ((D4.out.set_ 0 a).set_ 1 b).set_ 2 c
          go_wp2_with fail
          have hl := load_mk (HS.out (.slice vA m.vars.length vc) (.slice rA m.rules.length rc) (.slice pA m.phony.length pc))
          refine bodyPost_cell (p := 4) (u := 5) (ty := makeT) (ad := ⟨g4, 0, none⟩) rfl rfl rfl hl ?_
          rw [HF3.out]
          exact ⟨⟨vA, vc, rA, rc, pA, pc⟩, rs, rfl, HSt.out.ext (HX.out _ _ X5.out (HO.out _ _ _)), HX.out _ _ X5.out (HO.out _ _ _)⟩
        have g0' : decide ((T.length : Int) = 0) = false := by rw [decide_eq_false_iff_not]; omega
        have g0b : (((T.length : Int)) == 0) = false := by rw [beq_eq_false_iff_ne]; omega
        have HF3 := Lib.hid (HF2.out.trans (if_neg (by rintro (h | h); exact absurd h (by decide); exact h0 (by rw [h]; rfl))))
        clear HF2
        have HFm : Hid ((2 < T.length ∨ 3 < N.length ∨ m.rules.length = 10) → headF m s = (m, 2)) := fun h => HF3.out.trans (if_pos h)
        by_cases h2' : 2 < T.length
        · have g2' : decide ((2 : Int) < (T.length : Int)) = true := by rw [decide_eq_true_iff]; omega
          have HF4 := Lib.hid (HFm.out (.inl h2'))
          have D2 := Lib.hid (CB.out.keep X5.out id)
          have D4 := Lib.hid (C4.out.keep X5.out id)
          have q0 : wc.cell? ⟨g2, 0, none⟩ = some (.slice vA m.vars.length vc) := D2.out.cell 0
          have q1 : wc.cell? ⟨g2, 1, none⟩ = some (.slice rA m.rules.length rc) := D2.out.cell 1
          have q2 : wc.cell? ⟨g2, 2, none⟩ = some (.slice pA m.phony.length pc) := D2.out.cell 2
          have e0 : wc.cell? ⟨g4, 0, none⟩ = some (.slice none 0 0) := D4.out.cell 0
          have e1 : wc.cell? ⟨g4, 1, none⟩ = some (.slice none 0 0) := D4.out.cell 1
          have e2 : wc.cell? ⟨g4, 2, none⟩ = some (.slice none 0 0) := D4.out.cell 2
          have z0 := D4.out.frozen 0
          have z1 := D4.out.frozen 1
          have z2 := D4.out.frozen 2
          have HO : Hid (∀ a b c, Only (fun b => b = g4) wc (((wc.setCell ⟨g4, 0, none⟩ a).setCell ⟨g4, 1, none⟩ b).setCell ⟨g4, 2, none⟩ c)) := fun a b c => (((Only.refl _ _).at_ 0 a).at_ 1 b).at_ 2 c
          have HS : Hid (∀ a b c, Cs (((wc.setCell ⟨g4, 0, none⟩ a).setCell ⟨g4, 1, none⟩ b).setCell ⟨g4, 2, none⟩ c) g4 makeT #[a, b, c]) := fun a b c => ((D4.out.set_ 0 a).set_ 1 b).set_ 2 c
          go_wp2_with fail
          have hl := load_mk (HS.out (.slice vA m.vars.length vc) (.slice rA m.rules.length rc) (.slice pA m.phony.length pc))
          refine bodyPost_cell (p := 4) (u := 5) (ty := makeT) (ad := ⟨g4, 0, none⟩) rfl rfl rfl hl ?_
          rw [HF4.out]
          exact ⟨⟨vA, vc, rA, rc, pA, pc⟩, rs, rfl, HSt.out.ext (HX.out _ _ X5.out (HO.out _ _ _)), HX.out _ _ X5.out (HO.out _ _ _)⟩
        have g2' : decide ((2 : Int) < (T.length : Int)) = false := by rw [decide_eq_false_iff_not]; omega
        by_cases h3' : 3 < N.length
        · have g3' : decide ((3 : Int) < (N.length : Int)) = true := by rw [decide_eq_true_iff]; omega
          have HF4 := Lib.hid (HFm.out (.inr (.inl h3')))
          have D2 := Lib.hid (CB.out.keep X5.out id)
          have D4 := Lib.hid (C4.out.keep X5.out id)
          have q0 : wc.cell? ⟨g2, 0, none⟩ = some (.slice vA m.vars.length vc) := D2.out.cell 0
          have q1 : wc.cell? ⟨g2, 1, none⟩ = some (.slice rA m.rules.length rc) := D2.out.cell 1
          have q2 : wc.cell? ⟨g2, 2, none⟩ = some (.slice pA m.phony.length pc) := D2.out.cell 2
          have e0 : wc.cell? ⟨g4, 0, none⟩ = some (.slice none 0 0) := D4.out.cell 0
          have e1 : wc.cell? ⟨g4, 1, none⟩ = some (.slice none 0 0) := D4.out.cell 1
          have e2 : wc.cell? ⟨g4, 2, none⟩ = some (.slice none 0 0) := D4.out.cell 2
          have z0 := D4.out.frozen 0
          have z1 := D4.out.frozen 1
          have z2 := D4.out.frozen 2
          have HO : Hid (∀ a b c, Only (fun b => b = g4) wc (((wc.setCell ⟨g4, 0, none⟩ a).setCell ⟨g4, 1, none⟩ b).setCell ⟨g4, 2, none⟩ c)) := fun a b c => (((Only.refl _ _).at_ 0 a).at_ 1 b).at_ 2 c
          have HS : Hid (∀ a b c, Cs (((wc.setCell ⟨g4, 0, none⟩ a).setCell ⟨g4, 1, none⟩ b).setCell ⟨g4, 2, none⟩ c) g4 makeT #[a, b, c]) := fun a b c => ((D4.out.set_ 0 a).set_ 1 b).set_ 2 c
          go_wp2_with fail
          have hl := load_mk (HS.out (.slice vA m.vars.length vc) (.slice rA m.rules.length rc) (.slice pA m.phony.length pc))
          refine bodyPost_cell (p := 4) (u := 5) (ty := makeT) (ad := ⟨g4, 0, none⟩) rfl rfl rfl hl ?_
          rw [HF4.out]
          exact ⟨⟨vA, vc, rA, rc, pA, pc⟩, rs, rfl, HSt.out.ext (HX.out _ _ X5.out (HO.out _ _ _)), HX.out _ _ X5.out (HO.out _ _ _)⟩
        have g3' : decide ((3 : Int) < (N.length : Int)) = false := by rw [decide_eq_false_iff_not]; omega
        by_cases h4' : m.rules.length = 10
        · have g4' : decide ((m.rules.length : Int) = 10) = true := by rw [decide_eq_true_iff]; omega
          have g4b : (((m.rules.length : Int)) == 10) = true := by rw [beq_iff_eq]; omega
          have HF4 := Lib.hid (HFm.out (.inr (.inr h4')))
          clear h4'
          have D2 := Lib.hid (CB.out.keep X5.out id)
          have D4 := Lib.hid (C4.out.keep X5.out id)
          have q0 : wc.cell? ⟨g2, 0, none⟩ = some (.slice vA m.vars.length vc) := D2.out.cell 0
          have q1 : wc.cell? ⟨g2, 1, none⟩ = some (.slice rA m.rules.length rc) := D2.out.cell 1
          have q2 : wc.cell? ⟨g2, 2, none⟩ = some (.slice pA m.phony.length pc) := D2.out.cell 2
          have e0 : wc.cell? ⟨g4, 0, none⟩ = some (.slice none 0 0) := D4.out.cell 0
          have e1 : wc.cell? ⟨g4, 1, none⟩ = some (.slice none 0 0) := D4.out.cell 1
          have e2 : wc.cell? ⟨g4, 2, none⟩ = some (.slice none 0 0) := D4.out.cell 2
          have z0 := D4.out.frozen 0
          have z1 := D4.out.frozen 1
          have z2 := D4.out.frozen 2
          have HO : Hid (∀ a b c, Only (fun b => b = g4) wc (((wc.setCell ⟨g4, 0, none⟩ a).setCell ⟨g4, 1, none⟩ b).setCell ⟨g4, 2, none⟩ c)) := fun a b c => (((Only.refl _ _).at_ 0 a).at_ 1 b).at_ 2 c
          have HS : Hid (∀ a b c, Cs (((wc.setCell ⟨g4, 0, none⟩ a).setCell ⟨g4, 1, none⟩ b).setCell ⟨g4, 2, none⟩ c) g4 makeT #[a, b, c]) := fun a b c => ((D4.out.set_ 0 a).set_ 1 b).set_ 2 c
          go_wp2_with fail
          have hl := load_mk (HS.out (.slice vA m.vars.length vc) (.slice rA m.rules.length rc) (.slice pA m.phony.length pc))
          refine bodyPost_cell (p := 4) (u := 5) (ty := makeT) (ad := ⟨g4, 0, none⟩) rfl rfl rfl hl ?_
          rw [HF4.out]
          exact ⟨⟨vA, vc, rA, rc, pA, pc⟩, rs, rfl, HSt.out.ext (HX.out _ _ X5.out (HO.out _ _ _)), HX.out _ _ X5.out (HO.out _ _ _)⟩
        have g4' : decide ((m.rules.length : Int) = 10) = false := by rw [decide_eq_false_iff_not]; omega
        have g4b : (((m.rules.length : Int)) == 10) = false := by rw [beq_eq_false_iff_ne]; omega
        have HF4 := Lib.hid (HF3.out.trans (if_neg (by omega)))
        clear HF3 HFm
        have D0 : ∀ ξ : X wc No, ξ.v.cell? ⟨g9, 0, none⟩ = some (.slice tA T.length tc) := C5.out.x id 0
        have D1 : ∀ ξ : X wc No, ξ.v.cell? ⟨g9, 1, none⟩ = some (.slice nA N.length nc) := C5.out.x id 1
        have HOK : Hid (allOk T N = (okFrom (T.any patB) [] (T ++ N) && !(T.any patB && decide (1 < T.length)))) := rfl
        go_wp2_with fail
        go_loopw [9, 10] (fun pv iv wr => ∃ k : Nat, k ≤ T.length ∧ iv = .int .i64 k ∧ pv = .bool ((T.take k).any patB) ∧ ∃ ξ : X wc No, wr = ξ.v) (fun _ iv _ => T.length - (intOf iv).toNat)
        case atStart => exact ⟨0, Nat.zero_le _, rfl, rfl, X.here _ _, rfl⟩
        case round =>
          obtain ⟨k, hk, rfl, rfl, ξ, rfl⟩ := hrel
          have dd0 := D0 ξ
          by_cases hlt : k < T.length
          · obtain ⟨b, o, x, rfl, hx, cx⟩ := strs_get (w := wc) T5.out hlt
            have HXx := Lib.hid (any_take_succ patB hx)
            have HFd := Lib.hid (fun v => rfind1_c x (by have := HL1.out x (List.mem_of_getElem? hx); omega) 37 0 (Nat.zero_le _) v)
            have HPt := Lib.hid (fnd_pat x)
            clear hx
            have cx' := cx ξ
            generalize (T.take k).any patB = b0 at HXx
            generalize patB x = b1 at HXx HPt
            generalize fndI x [37] 0 = fi at HFd HPt
            have hpt : decide (0 ≤ fi) = b1 := HPt.out
            cases b0 with
            | true =>
              go_upto_region 16 with fail
              refine Mix.wp_plain [7] (Cl wc No) (Cl.of ξ.h) ?_
              (repeat' (first | (refine Mix.lex_quiet0 rfl rfl rfl ?_; intro K hK; go_big_quiet_op; go_big_quiet_on) | (refine Mix.lex_quietG rfl rfl rfl (by with_reducible rfl) rfl rfl ?_; intro K hK; go_big_quiet_op; go_big_quiet_on) | ((first | refine Mix.lex_skipT rfl rfl rfl (by with_reducible rfl) ?_ | refine Mix.lex_skipF rfl rfl rfl (by with_reducible rfl) ?_ | refine Mix.lex_skipU rfl rfl rfl (by with_reducible rfl) ?_); simp only [Act.put, List.setIfInBounds_toArray, List.set_cons_succ, List.set_cons_zero]) | (refine Mix.lex_part rfl rfl rfl rfl (fun hq => ?_) (fun hq => ?_) <;> (fail_if_success (guard_hyp hq :ₛ true = true)) <;> (fail_if_success (guard_hyp hq :ₛ false = false)) <;> first | (exfalso; cases hq; done) | (exfalso; simp only [decide_eq_true_eq, decide_eq_false_iff_not, beq_iff_eq, beq_eq_false_iff_ne, ne_eq, Int.not_lt, Int.not_le] at hq; omega) | simp only [Act.put, List.setIfInBounds_toArray, List.set_cons_succ, List.set_cons_zero])))
              refine Mix.lex_nil ?_
              go_wp2_with fail
              go_roundw
              case rel => exact ⟨k + 1, by omega, by go_num, by rw [HXx.out]; rfl, ξ, rfl⟩
              case measure => simp [intOf]; omega
            | false =>
              go_upto_region 16 with fail
              refine Mix.wp_plain [7] (Cl wc No) (Cl.of ξ.h) ?_
              (repeat' (first | (refine Mix.lex_quiet0 rfl rfl rfl ?_; intro K hK; go_big_quiet_op; go_big_quiet_on) | (refine Mix.lex_quietG rfl rfl rfl (by with_reducible rfl) rfl rfl ?_; intro K hK; go_big_quiet_op; go_big_quiet_on) | ((first | refine Mix.lex_skipT rfl rfl rfl (by with_reducible rfl) ?_ | refine Mix.lex_skipF rfl rfl rfl (by with_reducible rfl) ?_ | refine Mix.lex_skipU rfl rfl rfl (by with_reducible rfl) ?_); simp only [Act.put, List.setIfInBounds_toArray, List.set_cons_succ, List.set_cons_zero]) | (refine Mix.lex_part rfl rfl rfl rfl (fun hq => ?_) (fun hq => ?_) <;> (fail_if_success (guard_hyp hq :ₛ true = true)) <;> (fail_if_success (guard_hyp hq :ₛ false = false)) <;> first | (exfalso; cases hq; done) | (exfalso; simp only [decide_eq_true_eq, decide_eq_false_iff_not, beq_iff_eq, beq_eq_false_iff_ne, ne_eq, Int.not_lt, Int.not_le] at hq; omega) | simp only [Act.put, List.setIfInBounds_toArray, List.set_cons_succ, List.set_cons_zero])))
              ((first | refine Mix.lex_goes0 rfl rfl ?_ | refine Mix.lex_goesG rfl rfl rfl (by with_reducible rfl) rfl ?_); intro K hK; go_simp); refine (HFd.out _).mono ?_; rintro e uu ⟨rfl, hu⟩; obtain ⟨η, hnew⟩ : ∃ ξ : X wc No, ξ.v = uu := ⟨⟨uu, ξ.h.then_ext hu⟩, rfl⟩; subst hnew; have Hη := Lib.hid hu; refine ⟨_, rfl, hK _ _ (fun _ => ⟨η, rfl⟩) ?_⟩; clear hK K hu; simp only [Act.put, List.setIfInBounds_toArray, List.set_cons_succ, List.set_cons_zero]; (repeat' (first | (refine Mix.lex_quiet0 rfl rfl rfl ?_; intro K hK; go_big_quiet_op; go_big_quiet_on) | (refine Mix.lex_quietG rfl rfl rfl (by with_reducible rfl) rfl rfl ?_; intro K hK; go_big_quiet_op; go_big_quiet_on) | ((first | refine Mix.lex_skipT rfl rfl rfl (by with_reducible rfl) ?_ | refine Mix.lex_skipF rfl rfl rfl (by with_reducible rfl) ?_ | refine Mix.lex_skipU rfl rfl rfl (by with_reducible rfl) ?_); simp only [Act.put, List.setIfInBounds_toArray, List.set_cons_succ, List.set_cons_zero]) | (refine Mix.lex_part rfl rfl rfl rfl (fun hq => ?_) (fun hq => ?_) <;> (fail_if_success (guard_hyp hq :ₛ true = true)) <;> (fail_if_success (guard_hyp hq :ₛ false = false)) <;> first | (exfalso; cases hq; done) | (exfalso; simp only [decide_eq_true_eq, decide_eq_false_iff_not, beq_iff_eq, beq_eq_false_iff_ne, ne_eq, Int.not_lt, Int.not_le] at hq; omega) | simp only [Act.put, List.setIfInBounds_toArray, List.set_cons_succ, List.set_cons_zero])))
              refine Mix.lex_nil ?_
              clear HFd
              go_wp2_with fail
              go_roundw
              case rel => exact ⟨k + 1, by omega, by go_num, by rw [HXx.out, Bool.false_or], η, rfl⟩
              case measure => simp [intOf]; omega
          · obtain rfl : k = T.length := by omega
            rw [List.take_of_length_le (Nat.le_refl _)]
            generalize T.any patB = p at HOK
            clear d0 d1 c1 dd0
            go_upto_region 17 with fail
            refine Mix.wp_draw [2, 5] 100 (Cl wc No) (by kernel_rfl) (by kernel_rfl) (Cl.of ξ.h.drew) ?_
            (repeat' (refine Mix.lex_quiet0 rfl rfl rfl ?_; intro K hK; go_big_quiet_op; go_big_quiet_on))
            have TD := Lib.hid (T5.out.ext (ξ.h.drew))
            refine Mix.lex_goes0 rfl rfl ?_
            intro K hK
            refine goes_append (v := .slice none 0 0) (n := 0) (xs := []) st_ty rfl rfl rfl (World.ownsRow_nil _ _ _ _) (TD.out.rd (by decide)) (str_enc1 T) (by omega) ?_
            intro A6 c6 w6 hown6 hg6 hb6
            have F6 : Hid (Fresh strF 9 ξ.v.drew w6 A6 c6 T) := by
              have := (Fresh.nil strF 9 ξ.v.drew ξ.v.drew (Only.refl _ _)).grow (ys := T) rfl hown6 hg6 hb6
              exact this
            rw [Nat.zero_add]
            have x6 : Ext wc w6 := ξ.h.drew.then_ext F6.out.ext
            refine hK _ _ (fun _ => Cl.of x6) ?_
            clear hK K hown6 hg6 hb6 TD
            simp only [Act.put, List.setIfInBounds_toArray, List.set_cons_succ, List.set_cons_zero]
            (repeat' (refine Mix.lex_quiet0 rfl rfl rfl ?_; intro K hK; go_big_quiet_op; go_big_quiet_on))
            have N6 := Lib.hid (N5.out.ext x6)
            refine Mix.lex_goes0 rfl rfl ?_
            intro K hK
            refine goes_append (v := .slice A6 T.length c6) (n := T.length) (xs := T.flatMap strF.enc) st_ty rfl rfl rfl F6.out.own (N6.out.rd (by decide)) (str_enc1 N) (by omega) ?_
            intro A7 c7 w7 hown7 hg7 hb7
            have F7 := Lib.hid (F6.out.grow (ys := N) rfl hown7 hg7 hb7)
            have x7 : Ext wc w7 := ξ.h.drew.then_ext F7.out.ext
            refine hK _ _ (fun _ => Cl.of x7) ?_
            clear hK K hown7 hg7 hb7 F6 N6 x6
            simp only [Act.put, List.setIfInBounds_toArray, List.set_cons_succ, List.set_cons_zero]
            (repeat' (refine Mix.lex_quiet0 rfl rfl rfl ?_; intro K hK; go_big_quiet_op; go_big_quiet_on))
            refine Mix.lex_nil ?_
            have R7 : Hid (SlR strF w7 A7 (T.length + N.length) (T ++ N)) := by
              have := F7.out.row (by decide)
              rw [List.length_append] at this
              exact this
            have hc7 : T.length + N.length ≤ c7 := by
              have q := F7.out.own
              rw [List.length_append] at q
              obtain ⟨_, _, _, _, _, _, q, _⟩ := own_block q (by omega) (by decide)
              exact q
            have X7 := Lib.hid (X5.out.then_ext x7)
            have C7 := Lib.hid (C5.out.keep x7 id)
            have OT7 := Lib.hid (own_ext OT5.out x7)
            have ON7 := Lib.hid (own_ext ON5.out x7)
            have hAll : ∀ x ∈ T ++ N, x.length ≤ 600 := fun x hx => by
              rcases List.mem_append.1 hx with hx | hx
              · exact HL1.out x hx
              · exact HL2.out x hx
            have HAll := Lib.hid hAll
            clear F7 x7 hAll HL1 HL2 X5 C5 T5 N5 B5 D0 D1 OT5 ON5
            go_wp2_with fail
            go_loopw [12] (fun iv wr => ∃ j : Nat, j ≤ T.length + N.length ∧ iv = .int .i64 j ∧ okFrom p [] (T ++ N) = okFrom p ((T ++ N).take j) ((T ++ N).drop j) ∧ ∃ ξ : X w7 No, wr = ξ.v) (fun iv _ => T.length + N.length - (intOf iv).toNat)
            case atStart => exact ⟨0, Nat.zero_le _, rfl, rfl, X.here _ _, rfl⟩
            case round =>
              obtain ⟨j, hj, rfl, hO, ξ, rfl⟩ := hrel
              have HO := Lib.hid hO
              clear hO
              by_cases hlt : j < T.length + N.length
              · obtain ⟨b, o, x, rfl, hx, cx⟩ := strs_get (w := w7) R7.out hlt
                have HXx := Lib.hid hx
                have HO2 : Hid (okFrom p [] (T ++ N) = (wordB x && !inS ((T ++ N).take j) x && (p || !patB x) && okFrom p ((T ++ N).take (j + 1)) ((T ++ N).drop (j + 1)))) := by
                  rw [Hid, HO.out, drop_get HXx.out, okFrom_cons, take_succ_get HXx.out]
                have hxl : x.length ≤ 600 := HAll.out x (List.mem_of_getElem? hx)
                have hjc : j < c7 := by omega
                have hjc' : ((j : Nat) : Int) ≤ (c7 : Int) := by omega
                have HOn := Lib.hid (fun v => ROnce_c x [97] (by omega) (by decide) v)
                have HNm := Lib.hid (fun v => NameMay_c (onceF x [97]) v (by have := onceF_len x [97]; simp at this; omega))
                have HIn := Lib.hid (fun v (hv : Ext w7 v) => In_c (c := c7) ((R7.out.take (Nat.le_of_lt hlt)).ext hv) (by omega) x)
                have HFd := Lib.hid (fun v => rfind1_c x (by omega) 37 0 (Nat.zero_le _) v)
                have HPt := Lib.hid (fnd_pat x)
                have HW : Hid (nameB (onceF x [97]) = wordB x) := rfl
                clear hx HO
                generalize onceF x [97] = ox at HOn HNm HW
                rw [HW.out] at HNm
                generalize wordB x = b1 at HNm HO2
                generalize inS ((T ++ N).take j) x = b2 at HIn HO2
                generalize patB x = b3 at HPt HO2
                generalize fndI x [37] 0 = fi at HFd HPt
                have hpt : decide (0 ≤ fi) = b3 := HPt.out
                clear HW
                have cx' := cx ξ
                go_wp2_with fail
                refine (HOn.out _).mono ?_
                rintro e' u ⟨rfl, hu⟩
                obtain ⟨ξ1, hξ1⟩ : ∃ η : X w7 No, u = η.v := ⟨⟨u, ξ.h.then_ext hu⟩, rfl⟩
                subst hξ1
                clear hu HOn cx'
                go_wp2_with fail
                refine (HNm.out _).mono ?_
                rintro e' u ⟨rfl, hu⟩
                obtain ⟨ξ2, hξ2⟩ : ∃ η : X w7 No, u = η.v := ⟨⟨u, ξ1.h.then_ext hu⟩, rfl⟩
                subst hξ2
                clear hu HNm
                go_upto_region 22 with fail
                refine Mix.wp_draw [7] 100 (Cl w7 No) (by kernel_rfl) (by kernel_rfl) (Cl.drew_ ξ2) ?_
                (repeat' (refine Mix.lex_quiet0 rfl rfl rfl ?_; intro K hK; go_big_quiet_op; go_big_quiet_on))
                ((first | refine Mix.lex_goes0 rfl rfl ?_ | refine Mix.lex_goesG rfl rfl rfl (by with_reducible rfl) rfl ?_); intro K hK; go_simp)
                refine (HIn.out _ (ξ2.h.then_ext (Only.refl No _).drew)).mono ?_
                rintro e' u ⟨rfl, hu⟩
                obtain ⟨ξ3, hξ3⟩ : ∃ η : X w7 No, u = η.v := ⟨⟨u, (ξ2.h.then_ext (Only.refl No _).drew).then_ext hu⟩, rfl⟩
                subst hξ3
                refine ⟨_, rfl, hK _ _ (fun _ => ⟨ξ3, rfl⟩) ?_⟩
                clear hK K hu HIn
                simp only [Act.put, List.setIfInBounds_toArray, List.set_cons_succ, List.set_cons_zero]
                (repeat' (refine Mix.lex_quiet0 rfl rfl rfl ?_; intro K hK; go_big_quiet_op; go_big_quiet_on))
                refine Mix.lex_nil ?_
                cases b1 with
                | false =>
                  go_upto_region 23 with fail
                  refine Mix.wp_plain [13] (Cl w7 No) (Cl.of ξ3.h) ?_
                  (repeat' (first | (refine Mix.lex_quiet0 rfl rfl rfl ?_; intro K hK; go_big_quiet_op; go_big_quiet_on) | (refine Mix.lex_quietG rfl rfl rfl (by with_reducible rfl) rfl rfl ?_; intro K hK; go_big_quiet_op; go_big_quiet_on) | ((first | refine Mix.lex_skipT rfl rfl rfl (by with_reducible rfl) ?_ | refine Mix.lex_skipF rfl rfl rfl (by with_reducible rfl) ?_ | refine Mix.lex_skipU rfl rfl rfl (by with_reducible rfl) ?_); simp only [Act.put, List.setIfInBounds_toArray, List.set_cons_succ, List.set_cons_zero]) | (refine Mix.lex_part rfl rfl rfl rfl (fun hq => ?_) (fun hq => ?_) <;> (fail_if_success (guard_hyp hq :ₛ true = true)) <;> (fail_if_success (guard_hyp hq :ₛ false = false)) <;> first | (exfalso; cases hq; done) | (exfalso; simp only [decide_eq_true_eq, decide_eq_false_iff_not, beq_iff_eq, beq_eq_false_iff_ne, ne_eq, Int.not_lt, Int.not_le] at hq; omega) | simp only [Act.put, List.setIfInBounds_toArray, List.set_cons_succ, List.set_cons_zero])))
                  refine Mix.lex_nil ?_
                  have HF5 : Hid (headF m s = (m, 3)) := HF4.out.trans (if_neg (by rw [HOK.out, HO2.out]; simp))
                  have XE := Lib.hid (X7.out.then_ext ξ3.h)
                  have D2 := Lib.hid (CB.out.keep XE.out id)
                  have D4 := Lib.hid (C4.out.keep XE.out id)
                  have q0 : ξ3.v.cell? ⟨g2, 0, none⟩ = some (.slice vA m.vars.length vc) := D2.out.cell 0
                  have q1 : ξ3.v.cell? ⟨g2, 1, none⟩ = some (.slice rA m.rules.length rc) := D2.out.cell 1
                  have q2 : ξ3.v.cell? ⟨g2, 2, none⟩ = some (.slice pA m.phony.length pc) := D2.out.cell 2
                  have e0 : ξ3.v.cell? ⟨g4, 0, none⟩ = some (.slice none 0 0) := D4.out.cell 0
                  have e1 : ξ3.v.cell? ⟨g4, 1, none⟩ = some (.slice none 0 0) := D4.out.cell 1
                  have e2 : ξ3.v.cell? ⟨g4, 2, none⟩ = some (.slice none 0 0) := D4.out.cell 2
                  have z0 := D4.out.frozen 0
                  have z1 := D4.out.frozen 1
                  have z2 := D4.out.frozen 2
                  have HO : Hid (∀ a b c, Only (fun b => b = g4) ξ3.v (((ξ3.v.setCell ⟨g4, 0, none⟩ a).setCell ⟨g4, 1, none⟩ b).setCell ⟨g4, 2, none⟩ c)) := fun a b c => (((Only.refl _ _).at_ 0 a).at_ 1 b).at_ 2 c
                  have HS : Hid (∀ a b c, Cs (((ξ3.v.setCell ⟨g4, 0, none⟩ a).setCell ⟨g4, 1, none⟩ b).setCell ⟨g4, 2, none⟩ c) g4 makeT #[a, b, c]) := fun a b c => ((D4.out.set_ 0 a).set_ 1 b).set_ 2 c
                  go_wp2_with fail
                  have hl := load_mk (HS.out (.slice vA m.vars.length vc) (.slice rA m.rules.length rc) (.slice pA m.phony.length pc))
                  refine bodyPost_cell (p := 4) (u := 5) (ty := makeT) (ad := ⟨g4, 0, none⟩) rfl rfl rfl hl ?_
                  rw [HF5.out]
                  exact ⟨⟨vA, vc, rA, rc, pA, pc⟩, rs, rfl, HSt.out.ext (HX.out _ _ XE.out (HO.out _ _ _)), HX.out _ _ XE.out (HO.out _ _ _)⟩
                | true =>
                  cases b2 with
                  | true =>
                    go_upto_region 23 with fail
                    refine Mix.wp_plain [13] (Cl w7 No) (Cl.of ξ3.h) ?_
                    (repeat' (first | (refine Mix.lex_quiet0 rfl rfl rfl ?_; intro K hK; go_big_quiet_op; go_big_quiet_on) | (refine Mix.lex_quietG rfl rfl rfl (by with_reducible rfl) rfl rfl ?_; intro K hK; go_big_quiet_op; go_big_quiet_on) | ((first | refine Mix.lex_skipT rfl rfl rfl (by with_reducible rfl) ?_ | refine Mix.lex_skipF rfl rfl rfl (by with_reducible rfl) ?_ | refine Mix.lex_skipU rfl rfl rfl (by with_reducible rfl) ?_); simp only [Act.put, List.setIfInBounds_toArray, List.set_cons_succ, List.set_cons_zero]) | (refine Mix.lex_part rfl rfl rfl rfl (fun hq => ?_) (fun hq => ?_) <;> (fail_if_success (guard_hyp hq :ₛ true = true)) <;> (fail_if_success (guard_hyp hq :ₛ false = false)) <;> first | (exfalso; cases hq; done) | (exfalso; simp only [decide_eq_true_eq, decide_eq_false_iff_not, beq_iff_eq, beq_eq_false_iff_ne, ne_eq, Int.not_lt, Int.not_le] at hq; omega) | simp only [Act.put, List.setIfInBounds_toArray, List.set_cons_succ, List.set_cons_zero])))
                    refine Mix.lex_nil ?_
                    have HF5 : Hid (headF m s = (m, 3)) := HF4.out.trans (if_neg (by rw [HOK.out, HO2.out]; simp))
                    have XE := Lib.hid (X7.out.then_ext ξ3.h)
                    have D2 := Lib.hid (CB.out.keep XE.out id)
                    have D4 := Lib.hid (C4.out.keep XE.out id)
                    have q0 : ξ3.v.cell? ⟨g2, 0, none⟩ = some (.slice vA m.vars.length vc) := D2.out.cell 0
                    have q1 : ξ3.v.cell? ⟨g2, 1, none⟩ = some (.slice rA m.rules.length rc) := D2.out.cell 1
                    have q2 : ξ3.v.cell? ⟨g2, 2, none⟩ = some (.slice pA m.phony.length pc) := D2.out.cell 2
                    have e0 : ξ3.v.cell? ⟨g4, 0, none⟩ = some (.slice none 0 0) := D4.out.cell 0
                    have e1 : ξ3.v.cell? ⟨g4, 1, none⟩ = some (.slice none 0 0) := D4.out.cell 1
                    have e2 : ξ3.v.cell? ⟨g4, 2, none⟩ = some (.slice none 0 0) := D4.out.cell 2
                    have z0 := D4.out.frozen 0
                    have z1 := D4.out.frozen 1
                    have z2 := D4.out.frozen 2
                    have HO : Hid (∀ a b c, Only (fun b => b = g4) ξ3.v (((ξ3.v.setCell ⟨g4, 0, none⟩ a).setCell ⟨g4, 1, none⟩ b).setCell ⟨g4, 2, none⟩ c)) := fun a b c => (((Only.refl _ _).at_ 0 a).at_ 1 b).at_ 2 c
                    have HS : Hid (∀ a b c, Cs (((ξ3.v.setCell ⟨g4, 0, none⟩ a).setCell ⟨g4, 1, none⟩ b).setCell ⟨g4, 2, none⟩ c) g4 makeT #[a, b, c]) := fun a b c => ((D4.out.set_ 0 a).set_ 1 b).set_ 2 c
                    go_wp2_with fail
                    have hl := load_mk (HS.out (.slice vA m.vars.length vc) (.slice rA m.rules.length rc) (.slice pA m.phony.length pc))
                    refine bodyPost_cell (p := 4) (u := 5) (ty := makeT) (ad := ⟨g4, 0, none⟩) rfl rfl rfl hl ?_
                    rw [HF5.out]
                    exact ⟨⟨vA, vc, rA, rc, pA, pc⟩, rs, rfl, HSt.out.ext (HX.out _ _ XE.out (HO.out _ _ _)), HX.out _ _ XE.out (HO.out _ _ _)⟩
                  | false =>
                    cases p with
                    | true =>
                      go_upto_region 23 with fail
                      refine Mix.wp_plain [13] (Cl w7 No) (Cl.of ξ3.h) ?_
                      (repeat' (first | (refine Mix.lex_quiet0 rfl rfl rfl ?_; intro K hK; go_big_quiet_op; go_big_quiet_on) | (refine Mix.lex_quietG rfl rfl rfl (by with_reducible rfl) rfl rfl ?_; intro K hK; go_big_quiet_op; go_big_quiet_on) | ((first | refine Mix.lex_skipT rfl rfl rfl (by with_reducible rfl) ?_ | refine Mix.lex_skipF rfl rfl rfl (by with_reducible rfl) ?_ | refine Mix.lex_skipU rfl rfl rfl (by with_reducible rfl) ?_); simp only [Act.put, List.setIfInBounds_toArray, List.set_cons_succ, List.set_cons_zero]) | (refine Mix.lex_part rfl rfl rfl rfl (fun hq => ?_) (fun hq => ?_) <;> (fail_if_success (guard_hyp hq :ₛ true = true)) <;> (fail_if_success (guard_hyp hq :ₛ false = false)) <;> first | (exfalso; cases hq; done) | (exfalso; simp only [decide_eq_true_eq, decide_eq_false_iff_not, beq_iff_eq, beq_eq_false_iff_ne, ne_eq, Int.not_lt, Int.not_le] at hq; omega) | simp only [Act.put, List.setIfInBounds_toArray, List.set_cons_succ, List.set_cons_zero])))
                      refine Mix.lex_nil ?_
                      go_wp2_with fail
                      go_roundw
                      case rel => exact ⟨j + 1, by omega, by go_num, by rw [HO2.out]; rfl, ξ3, rfl⟩
                      case measure => simp [intOf]; omega
                    | false =>
                      go_upto_region 23 with fail
                      refine Mix.wp_plain [13] (Cl w7 No) (Cl.of ξ3.h) ?_
                      (repeat' (first | (refine Mix.lex_quiet0 rfl rfl rfl ?_; intro K hK; go_big_quiet_op; go_big_quiet_on) | (refine Mix.lex_quietG rfl rfl rfl (by with_reducible rfl) rfl rfl ?_; intro K hK; go_big_quiet_op; go_big_quiet_on) | ((first | refine Mix.lex_skipT rfl rfl rfl (by with_reducible rfl) ?_ | refine Mix.lex_skipF rfl rfl rfl (by with_reducible rfl) ?_ | refine Mix.lex_skipU rfl rfl rfl (by with_reducible rfl) ?_); simp only [Act.put, List.setIfInBounds_toArray, List.set_cons_succ, List.set_cons_zero]) | (refine Mix.lex_part rfl rfl rfl rfl (fun hq => ?_) (fun hq => ?_) <;> (fail_if_success (guard_hyp hq :ₛ true = true)) <;> (fail_if_success (guard_hyp hq :ₛ false = false)) <;> first | (exfalso; cases hq; done) | (exfalso; simp only [decide_eq_true_eq, decide_eq_false_iff_not, beq_iff_eq, beq_eq_false_iff_ne, ne_eq, Int.not_lt, Int.not_le] at hq; omega) | simp only [Act.put, List.setIfInBounds_toArray, List.set_cons_succ, List.set_cons_zero])))
                      ((first | refine Mix.lex_goes0 rfl rfl ?_ | refine Mix.lex_goesG rfl rfl rfl (by with_reducible rfl) rfl ?_); intro K hK; go_simp); refine (HFd.out _).mono ?_; rintro e uu ⟨rfl, hu⟩; obtain ⟨ξ4, hnew⟩ : ∃ ξ : X w7 No, ξ.v = uu := ⟨⟨uu, ξ3.h.then_ext hu⟩, rfl⟩; subst hnew; have Hξ4 := Lib.hid hu; refine ⟨_, rfl, hK _ _ (fun _ => ⟨ξ4, rfl⟩) ?_⟩; clear hK K hu; simp only [Act.put, List.setIfInBounds_toArray, List.set_cons_succ, List.set_cons_zero]; (repeat' (first | (refine Mix.lex_quiet0 rfl rfl rfl ?_; intro K hK; go_big_quiet_op; go_big_quiet_on) | (refine Mix.lex_quietG rfl rfl rfl (by with_reducible rfl) rfl rfl ?_; intro K hK; go_big_quiet_op; go_big_quiet_on) | ((first | refine Mix.lex_skipT rfl rfl rfl (by with_reducible rfl) ?_ | refine Mix.lex_skipF rfl rfl rfl (by with_reducible rfl) ?_ | refine Mix.lex_skipU rfl rfl rfl (by with_reducible rfl) ?_); simp only [Act.put, List.setIfInBounds_toArray, List.set_cons_succ, List.set_cons_zero]) | (refine Mix.lex_part rfl rfl rfl rfl (fun hq => ?_) (fun hq => ?_) <;> (fail_if_success (guard_hyp hq :ₛ true = true)) <;> (fail_if_success (guard_hyp hq :ₛ false = false)) <;> first | (exfalso; cases hq; done) | (exfalso; simp only [decide_eq_true_eq, decide_eq_false_iff_not, beq_iff_eq, beq_eq_false_iff_ne, ne_eq, Int.not_lt, Int.not_le] at hq; omega) | simp only [Act.put, List.setIfInBounds_toArray, List.set_cons_succ, List.set_cons_zero])))
                      (repeat' (refine Mix.lex_quiet0 rfl rfl rfl ?_; intro K hK; go_big_quiet_op; go_big_quiet_on))
                      refine Mix.lex_nil ?_
                      clear HFd
                      cases b3 with
                      | true =>
                        have HF5 : Hid (headF m s = (m, 3)) := HF4.out.trans (if_neg (by rw [HOK.out, HO2.out]; simp))
                        have XE := Lib.hid (X7.out.then_ext ξ4.h)
                        have D2 := Lib.hid (CB.out.keep XE.out id)
                        have D4 := Lib.hid (C4.out.keep XE.out id)
                        have q0 : ξ4.v.cell? ⟨g2, 0, none⟩ = some (.slice vA m.vars.length vc) := D2.out.cell 0
                        have q1 : ξ4.v.cell? ⟨g2, 1, none⟩ = some (.slice rA m.rules.length rc) := D2.out.cell 1
                        have q2 : ξ4.v.cell? ⟨g2, 2, none⟩ = some (.slice pA m.phony.length pc) := D2.out.cell 2
                        have e0 : ξ4.v.cell? ⟨g4, 0, none⟩ = some (.slice none 0 0) := D4.out.cell 0
                        have e1 : ξ4.v.cell? ⟨g4, 1, none⟩ = some (.slice none 0 0) := D4.out.cell 1
                        have e2 : ξ4.v.cell? ⟨g4, 2, none⟩ = some (.slice none 0 0) := D4.out.cell 2
                        have z0 := D4.out.frozen 0
                        have z1 := D4.out.frozen 1
                        have z2 := D4.out.frozen 2
                        have HO : Hid (∀ a b c, Only (fun b => b = g4) ξ4.v (((ξ4.v.setCell ⟨g4, 0, none⟩ a).setCell ⟨g4, 1, none⟩ b).setCell ⟨g4, 2, none⟩ c)) := fun a b c => (((Only.refl _ _).at_ 0 a).at_ 1 b).at_ 2 c
                        have HS : Hid (∀ a b c, Cs (((ξ4.v.setCell ⟨g4, 0, none⟩ a).setCell ⟨g4, 1, none⟩ b).setCell ⟨g4, 2, none⟩ c) g4 makeT #[a, b, c]) := fun a b c => ((D4.out.set_ 0 a).set_ 1 b).set_ 2 c
                        go_wp2_with fail
                        have hl := load_mk (HS.out (.slice vA m.vars.length vc) (.slice rA m.rules.length rc) (.slice pA m.phony.length pc))
                        refine bodyPost_cell (p := 4) (u := 5) (ty := makeT) (ad := ⟨g4, 0, none⟩) rfl rfl rfl hl ?_
                        rw [HF5.out]
                        exact ⟨⟨vA, vc, rA, rc, pA, pc⟩, rs, rfl, HSt.out.ext (HX.out _ _ XE.out (HO.out _ _ _)), HX.out _ _ XE.out (HO.out _ _ _)⟩
                      | false =>
                        go_wp2_with fail
                        go_roundw
                        case rel => exact ⟨j + 1, by omega, by go_num, by rw [HO2.out]; rfl, ξ4, rfl⟩
                        case measure => simp [intOf]; omega
              · obtain rfl : j = T.length + N.length := by omega
                have HO2 : Hid (okFrom p [] (T ++ N) = true) := by
                  rw [Hid, HO.out, List.drop_of_length_le (by rw [List.length_append]; exact Nat.le_refl _)]
                  rfl
                have X9 := Lib.hid (X7.out.then_ext ξ.h)
                have C9 := Lib.hid (C7.out.keep ξ.h id)
                have OT9 := Lib.hid (own_ext OT7.out ξ.h)
                have ON9 := Lib.hid (own_ext ON7.out ξ.h)
                have d0 : ξ.v.cell? ⟨g9, 0, none⟩ = some (.slice tA T.length tc) := C9.out.cell 0
                clear HO X7 C7 OT7 ON7
                by_cases hpp : p = true ∧ 1 < T.length
                · obtain ⟨rfl, h1⟩ := hpp
                  have g1 : decide ((1 : Int) < (T.length : Int)) = true := by rw [decide_eq_true_iff]; omega
                  have HF5 : Hid (headF m s = (m, 3)) := HF4.out.trans (if_neg (by rw [HOK.out, HO2.out, decide_eq_true h1]; simp))
                  have D2 := Lib.hid (CB.out.keep X9.out id)
                  have D4 := Lib.hid (C4.out.keep X9.out id)
                  have q0 : ξ.v.cell? ⟨g2, 0, none⟩ = some (.slice vA m.vars.length vc) := D2.out.cell 0
                  have q1 : ξ.v.cell? ⟨g2, 1, none⟩ = some (.slice rA m.rules.length rc) := D2.out.cell 1
                  have q2 : ξ.v.cell? ⟨g2, 2, none⟩ = some (.slice pA m.phony.length pc) := D2.out.cell 2
                  have e0 : ξ.v.cell? ⟨g4, 0, none⟩ = some (.slice none 0 0) := D4.out.cell 0
                  have e1 : ξ.v.cell? ⟨g4, 1, none⟩ = some (.slice none 0 0) := D4.out.cell 1
                  have e2 : ξ.v.cell? ⟨g4, 2, none⟩ = some (.slice none 0 0) := D4.out.cell 2
                  have z0 := D4.out.frozen 0
                  have z1 := D4.out.frozen 1
                  have z2 := D4.out.frozen 2
                  have HO : Hid (∀ a b c, Only (fun b => b = g4) ξ.v (((ξ.v.setCell ⟨g4, 0, none⟩ a).setCell ⟨g4, 1, none⟩ b).setCell ⟨g4, 2, none⟩ c)) := fun a b c => (((Only.refl _ _).at_ 0 a).at_ 1 b).at_ 2 c
                  have HS : Hid (∀ a b c, Cs (((ξ.v.setCell ⟨g4, 0, none⟩ a).setCell ⟨g4, 1, none⟩ b).setCell ⟨g4, 2, none⟩ c) g4 makeT #[a, b, c]) := fun a b c => ((D4.out.set_ 0 a).set_ 1 b).set_ 2 c
                  go_wp2_with fail
                  have hl := load_mk (HS.out (.slice vA m.vars.length vc) (.slice rA m.rules.length rc) (.slice pA m.phony.length pc))
                  refine bodyPost_cell (p := 4) (u := 5) (ty := makeT) (ad := ⟨g4, 0, none⟩) rfl rfl rfl hl ?_
                  rw [HF5.out]
                  exact ⟨⟨vA, vc, rA, rc, pA, pc⟩, rs, rfl, HSt.out.ext (HX.out _ _ X9.out (HO.out _ _ _)), HX.out _ _ X9.out (HO.out _ _ _)⟩
                · have hpp2 : p = false ∨ (p = true ∧ ¬ 1 < T.length) := by
                    cases p with
                    | false => exact .inl rfl
                    | true => exact .inr ⟨rfl, fun h => hpp ⟨rfl, h⟩⟩
                  have HF5 : Hid (headF m s = (⟨m.vars, m.rules ++ [⟨T, N, []⟩], m.phony⟩, 0)) := HF4.out.trans (if_pos (by
                    rw [HOK.out, HO2.out]
                    rcases hpp2 with e | ⟨e, h1⟩
                    · rw [e]; rfl
                    · rw [decide_eq_false h1]; simp))
                  have CW := Lib.hid (CB.out.keep X9.out id)
                  have DW := Lib.hid (C4.out.keep X9.out id)
                  have hrl : rs.length = m.rules.length := by rw [← H.out.rm, List.length_map]
                  have HRd : Hid (∀ u, Ext ξ.v u → SlR rulF u rA m.rules.length rs) := fun u hu => H.out.fr.ext ((XB.out.then_ext X9.out).then_ext hu)
                  have D0 : ∀ η : X ξ.v (fun q => q = g2), η.v.cell? ⟨g9, 0, none⟩ = some (.slice tA T.length tc) := C9.out.x (fun e => Cs.ne_ C9.out CW.out (by decide) e) 0
                  have D1 : ∀ η : X ξ.v (fun q => q = g2), η.v.cell? ⟨g9, 1, none⟩ = some (.slice nA N.length nc) := C9.out.x (fun e => Cs.ne_ C9.out CW.out (by decide) e) 1
                  have D2 : ∀ η : X ξ.v (fun q => q = g2), η.v.cell? ⟨g9, 2, none⟩ = some (.slice none 0 0) := C9.out.x (fun e => Cs.ne_ C9.out CW.out (by decide) e) 2
                  have d2 : ξ.v.cell? ⟨g2, 1, none⟩ = some (.slice rA m.rules.length rc) := CW.out.cell 1
                  obtain ⟨wz, hwz⟩ : ∃ u, u = ξ.v := ⟨_, rfl⟩
                  rcases hpp2 with rfl | ⟨rfl, h1⟩ <;>
                  · try have g1 : decide ((1 : Int) < (T.length : Int)) = false := by rw [decide_eq_false_iff_not]; omega
                    go_upto_region 27 with fail
                    refine Mix.wp_tree 8 [1, 2, 4, 5, 7] (Cl ξ.v (fun q => q = g2)) rfl (by kernel_rfl) (by kernel_rfl) (Cl.of (Only.refl _ _).drew) ?_
                    obtain ⟨μ0, hμ0⟩ : ∃ u, u = ξ.v.drew := ⟨_, rfl⟩
                    have xμ : Ext ξ.v μ0 := by rw [hμ0]; exact (Only.refl No ξ.v).drew
                    have cμ := CW.out.keep xμ id
                    rw [← hμ0]
                    clear hμ0 d2 d0
                    (refine Mix.tree_quiet (i := 0) (by kernel_rfl) rfl rfl rfl rfl ?_; intro K hK; go_big_quiet_op; go_big_quiet_on); (refine Mix.tree_quiet (i := 3) (by kernel_rfl) rfl rfl rfl rfl ?_; intro K hK; go_big_quiet_op; go_big_quiet_on)
                    clear D0 D1 D2
                    refine Mix.tree_two (i := 1) (j := 4) (by kernel_rfl) (by kernel_rfl) rfl rfl rfl rfl rfl rfl ?_ ?_
                    · intro K hK
                      have dμ3 : μ0.cell? ⟨g2, 1, none⟩ = some (.slice rA m.rules.length rc) := cμ.cell 1
                      go_simp
                      refine hK _ _ (Cl.of xμ.any) ?_
                      clear hK K dμ3
                      simp only [Act.put, List.setIfInBounds_toArray, List.set_cons_succ, List.set_cons_zero]
                      refine Mix.tree_two (i := 2) (j := 4) (by kernel_rfl) (by kernel_rfl) rfl rfl rfl rfl rfl rfl ?_ ?_
                      · intro K hK
                        refine goes_append (v := .slice none 0 0) (n := 0) (xs := []) ru_ty rfl rfl rfl (World.ownsRow_nil _ _ _ _) ((HRd.out _ xμ).rd (by decide)) (rul_enc1 rs) (by omega) ?_
                        intro A6 c6 w6 hown6 hg6 hb6
                        have F6 : Fresh rulF ruleT μ0 w6 A6 c6 rs := (Fresh.nil rulF ruleT μ0 μ0 (Only.refl _ _)).grow (ys := rs) hrl hown6 hg6 hb6
                        rw [Nat.zero_add]
                        have x6 : Ext ξ.v w6 := xμ.then_ext F6.ext
                        refine hK _ _ (Cl.of x6.any) ?_
                        clear hK K hown6 hg6 hb6
                        simp only [Act.put, List.setIfInBounds_toArray, List.set_cons_succ, List.set_cons_zero]
                        (refine Mix.tree_one (i := 4) (by kernel_rfl) (by kernel_rfl) rfl rfl rfl ?_; intro K hK; go_simp)
                        obtain ⟨wb, hwb⟩ : ∃ u, u = w6.alloc (.cells #[.slice tA T.length tc, .slice nA N.length nc, .slice none 0 0] ruleT) := ⟨_, rfl⟩
                        obtain ⟨gb, hgb⟩ : ∃ g, g = w6.heap.size := ⟨_, rfl⟩
                        have hCb : Cs wb gb ruleT #[.slice tA T.length tc, .slice nA N.length nc, .slice none 0 0] := by rw [hwb, hgb]; exact Cs.new _ _ _
                        have xb : Ext w6 wb := by rw [hwb]; exact (Only.refl No _).alloc _
                        rw [← hwb, ← hgb]
                        refine hK _ _ (Cl.of (x6.then_ext xb).any) ?_
                        clear hK K hwb hgb
                        simp only [Act.put, List.setIfInBounds_toArray, List.set_cons_succ, List.set_cons_zero]
                        refine Mix.tree_one (i := 5) (by kernel_rfl) (by kernel_rfl) rfl rfl rfl ?_
                        intro K hK
                        have F6b := F6.on xb
                        have own6 : wb.ownsRow 0 ruleT 3 (.slice A6 m.rules.length c6) m.rules.length (rs.flatMap rulF.enc) := by rw [← hrl]; exact F6b.own
                        refine goes_append (v := .slice A6 m.rules.length c6) (n := m.rules.length) (xs := rs.flatMap rulF.enc) ru_ty rfl rfl rfl own6 (rd_cs (cs := [.slice tA T.length tc, .slice nA N.length nc, .slice none 0 0]) hCb) (by simp [Value.oneCell']) (by omega) ?_
                        intro A7 c7' w7 hown7 hg7 hb7
                        have F7 : Fresh rulF ruleT μ0 w7 A7 c7' (rs ++ [((⟨tA, tc, nA, nc, none, 0⟩ : RulA), (⟨T, N, []⟩ : Rul))]) := F6b.grow (m := 1) (ys := [((⟨tA, tc, nA, nc, none, 0⟩ : RulA), (⟨T, N, []⟩ : Rul))]) rfl (by rw [hrl]; exact hown7) (by rw [hrl]; exact hg7) (by rw [hrl]; exact hb7)
                        have x7 : Ext ξ.v w7 := xμ.then_ext F7.ext
                        refine hK _ _ (Cl.of x7.any) ?_
                        clear hown7 hg7 hb7 own6 F6b F6 x6 xb hCb
                        clear hK K
                        simp only [Act.put, List.setIfInBounds_toArray, List.set_cons_succ, List.set_cons_zero]
                        have C2e : Cs w7 g2 makeT #[.slice vA m.vars.length vc, .slice rA m.rules.length rc, .slice pA m.phony.length pc] := CW.out.keep x7 id
                        have C4e : Cs w7 g4 makeT #[.slice none 0 0, .slice none 0 0, .slice none 0 0] := DW.out.keep x7 id
                        have y0 : w7.cell? ⟨g2, 1, none⟩ = some (.slice rA m.rules.length rc) := C2e.cell 1
                        have yz := C2e.frozen 1
                        obtain ⟨w8, hw8⟩ : ∃ u, u = w7.setCell ⟨g2, 1, none⟩ (.slice A7 (m.rules.length + 1 : Nat) c7') := ⟨_, rfl⟩
                        have O8 : Only (fun q => q = g2) w7 w8 := by rw [hw8]; exact (Only.refl _ _).at_ 1 _
                        have C8 : Cs w8 g2 makeT #[.slice vA m.vars.length vc, .slice A7 (m.rules.length + 1 : Nat) c7', .slice pA m.phony.length pc] := by rw [hw8]; exact C2e.set_ 1 _
                        have D8 : Cs w8 g4 makeT #[.slice none 0 0, .slice none 0 0, .slice none 0 0] := C4e.keep O8 (fun e => hz24 e.symm)
                        (refine Mix.tree_quiet (i := 6) (by kernel_rfl) rfl rfl rfl rfl ?_; intro K hK; go_big_quiet_op; go_big_quiet_on)
                        (refine Mix.tree_one (i := 7) (by kernel_rfl) (by kernel_rfl) rfl rfl rfl ?_; intro K hK; go_simp)
                        rw [← hw8]
                        refine hK _ _ (Cl.of (x7.any.trans O8 fun q _ e => e)) ?_
                        clear hK K hw8 y0 yz
                        simp only [Act.put, List.setIfInBounds_toArray, List.set_cons_succ, List.set_cons_zero]
                        refine Mix.tree_nil ?_
                        have q0 : w8.cell? ⟨g2, 0, none⟩ = some (.slice vA m.vars.length vc) := C8.cell 0
                        have q1 : w8.cell? ⟨g2, 1, none⟩ = some (.slice A7 (m.rules.length + 1 : Nat) c7') := C8.cell 1
                        have q2 : w8.cell? ⟨g2, 2, none⟩ = some (.slice pA m.phony.length pc) := C8.cell 2
                        have e0 : w8.cell? ⟨g4, 0, none⟩ = some (.slice none 0 0) := D8.cell 0
                        have e1 : w8.cell? ⟨g4, 1, none⟩ = some (.slice none 0 0) := D8.cell 1
                        have e2 : w8.cell? ⟨g4, 2, none⟩ = some (.slice none 0 0) := D8.cell 2
                        have z0 := D8.frozen 0
                        have z1 := D8.frozen 1
                        have z2 := D8.frozen 2
                        have HO : Hid (∀ a b c, Only (fun b => b = g4) w8 (((w8.setCell ⟨g4, 0, none⟩ a).setCell ⟨g4, 1, none⟩ b).setCell ⟨g4, 2, none⟩ c)) := fun a b c => (((Only.refl _ _).at_ 0 a).at_ 1 b).at_ 2 c
                        have HS : Hid (∀ a b c, Cs (((w8.setCell ⟨g4, 0, none⟩ a).setCell ⟨g4, 1, none⟩ b).setCell ⟨g4, 2, none⟩ c) g4 makeT #[a, b, c]) := fun a b c => ((D8.set_ 0 a).set_ 1 b).set_ 2 c
                        have HFin : Hid (∀ wf, Only (fun q => q = g4) w8 wf → HdRes w (⟨m.vars, m.rules ++ [⟨T, N, []⟩], m.phony⟩, 0) (.returned (.tuple #[.agg #[.slice vA m.vars.length vc, .slice A7 (m.rules.length + 1 : Nat) c7', .slice pA m.phony.length pc], .int .i64 0])) wf) := fun wf h9 =>
                          hd_done (w7 := w7) (w8 := w8) (g2 := g2) (g4 := g4) (tA := tA) (nA := nA) (tc := tc) (nc := nc) (rs := rs) hrl HSt.out hz2 hz4 ((XB.out.then_ext X9.out).then_ext x7) F7.own (own_ext OT9.out x7) (own_ext ON9.out x7) C2e O8 D8 h9
                        clear O8 C8 D8 C2e C4e F7 x7 xμ cμ
                        go_wp2_with fail
                        have hl := load_mk (HS.out (.slice vA m.vars.length vc) (.slice A7 (m.rules.length + 1 : Nat) c7') (.slice pA m.phony.length pc))
                        refine bodyPost_cell (p := 4) (u := 5) (ty := makeT) (ad := ⟨g4, 0, none⟩) rfl rfl rfl hl ?_
                        rw [HF5.out]
                        obtain ⟨v', rs', he', hM', hE'⟩ := HFin.out _ (HO.out (.slice vA m.vars.length vc) (.slice A7 (m.rules.length + 1 : Nat) c7') (.slice pA m.phony.length pc))
                        exact ⟨v', rs', he', hM', hE'⟩
                      · intro K hK
                        go_simp
                        obtain ⟨wb, hwb⟩ : ∃ u, u = μ0.alloc (.cells #[.slice tA T.length tc, .slice nA N.length nc, .slice none 0 0] ruleT) := ⟨_, rfl⟩
                        obtain ⟨gb, hgb⟩ : ∃ g, g = μ0.heap.size := ⟨_, rfl⟩
                        have hCb : Cs wb gb ruleT #[.slice tA T.length tc, .slice nA N.length nc, .slice none 0 0] := by rw [hwb, hgb]; exact Cs.new _ _ _
                        have xb : Ext μ0 wb := by rw [hwb]; exact (Only.refl No _).alloc _
                        rw [← hwb, ← hgb]
                        refine hK _ _ (Cl.of (xμ.then_ext xb).any) ?_
                        clear hK K hwb hgb
                        simp only [Act.put, List.setIfInBounds_toArray, List.set_cons_succ, List.set_cons_zero]
                        refine Mix.tree_one (i := 2) (by kernel_rfl) (by kernel_rfl) rfl rfl rfl ?_
                        intro K hK
                        refine goes_append (v := .slice none 0 0) (n := 0) (xs := []) ru_ty rfl rfl rfl (World.ownsRow_nil _ _ _ _) ((HRd.out _ (xμ.then_ext xb)).rd (by decide)) (rul_enc1 rs) (by omega) ?_
                        intro A6 c6 w6 hown6 hg6 hb6
                        have F6 : Fresh rulF ruleT wb w6 A6 c6 rs := (Fresh.nil rulF ruleT wb wb (Only.refl _ _)).grow (ys := rs) hrl hown6 hg6 hb6
                        rw [Nat.zero_add]
                        have x6 : Ext ξ.v w6 := (xμ.then_ext xb).then_ext F6.ext
                        have hCb6 := hCb.keep F6.ext id
                        refine hK _ _ (Cl.of x6.any) ?_
                        clear hK K hown6 hg6 hb6
                        simp only [Act.put, List.setIfInBounds_toArray, List.set_cons_succ, List.set_cons_zero]
                        refine Mix.tree_one (i := 5) (by kernel_rfl) (by kernel_rfl) rfl rfl rfl ?_
                        intro K hK
                        have own6 : w6.ownsRow 0 ruleT 3 (.slice A6 m.rules.length c6) m.rules.length (rs.flatMap rulF.enc) := by rw [← hrl]; exact F6.own
                        refine goes_append (v := .slice A6 m.rules.length c6) (n := m.rules.length) (xs := rs.flatMap rulF.enc) ru_ty rfl rfl rfl own6 (rd_cs (cs := [.slice tA T.length tc, .slice nA N.length nc, .slice none 0 0]) hCb6) (by simp [Value.oneCell']) (by omega) ?_
                        intro A7 c7' w7 hown7 hg7 hb7
                        have F7 : Fresh rulF ruleT wb w7 A7 c7' (rs ++ [((⟨tA, tc, nA, nc, none, 0⟩ : RulA), (⟨T, N, []⟩ : Rul))]) := F6.grow (m := 1) (ys := [((⟨tA, tc, nA, nc, none, 0⟩ : RulA), (⟨T, N, []⟩ : Rul))]) rfl (by rw [hrl]; exact hown7) (by rw [hrl]; exact hg7) (by rw [hrl]; exact hb7)
                        have x7 : Ext ξ.v w7 := (xμ.then_ext xb).then_ext F7.ext
                        refine hK _ _ (Cl.of x7.any) ?_
                        clear hown7 hg7 hb7 own6 F6 x6 xb hCb hCb6
                        clear hK K
                        simp only [Act.put, List.setIfInBounds_toArray, List.set_cons_succ, List.set_cons_zero]
                        have C2e : Cs w7 g2 makeT #[.slice vA m.vars.length vc, .slice rA m.rules.length rc, .slice pA m.phony.length pc] := CW.out.keep x7 id
                        have C4e : Cs w7 g4 makeT #[.slice none 0 0, .slice none 0 0, .slice none 0 0] := DW.out.keep x7 id
                        have y0 : w7.cell? ⟨g2, 1, none⟩ = some (.slice rA m.rules.length rc) := C2e.cell 1
                        have yz := C2e.frozen 1
                        obtain ⟨w8, hw8⟩ : ∃ u, u = w7.setCell ⟨g2, 1, none⟩ (.slice A7 (m.rules.length + 1 : Nat) c7') := ⟨_, rfl⟩
                        have O8 : Only (fun q => q = g2) w7 w8 := by rw [hw8]; exact (Only.refl _ _).at_ 1 _
                        have C8 : Cs w8 g2 makeT #[.slice vA m.vars.length vc, .slice A7 (m.rules.length + 1 : Nat) c7', .slice pA m.phony.length pc] := by rw [hw8]; exact C2e.set_ 1 _
                        have D8 : Cs w8 g4 makeT #[.slice none 0 0, .slice none 0 0, .slice none 0 0] := C4e.keep O8 (fun e => hz24 e.symm)
                        (refine Mix.tree_quiet (i := 6) (by kernel_rfl) rfl rfl rfl rfl ?_; intro K hK; go_big_quiet_op; go_big_quiet_on)
                        (refine Mix.tree_one (i := 7) (by kernel_rfl) (by kernel_rfl) rfl rfl rfl ?_; intro K hK; go_simp)
                        rw [← hw8]
                        refine hK _ _ (Cl.of (x7.any.trans O8 fun q _ e => e)) ?_
                        clear hK K hw8 y0 yz
                        simp only [Act.put, List.setIfInBounds_toArray, List.set_cons_succ, List.set_cons_zero]
                        refine Mix.tree_nil ?_
                        have q0 : w8.cell? ⟨g2, 0, none⟩ = some (.slice vA m.vars.length vc) := C8.cell 0
                        have q1 : w8.cell? ⟨g2, 1, none⟩ = some (.slice A7 (m.rules.length + 1 : Nat) c7') := C8.cell 1
                        have q2 : w8.cell? ⟨g2, 2, none⟩ = some (.slice pA m.phony.length pc) := C8.cell 2
                        have e0 : w8.cell? ⟨g4, 0, none⟩ = some (.slice none 0 0) := D8.cell 0
                        have e1 : w8.cell? ⟨g4, 1, none⟩ = some (.slice none 0 0) := D8.cell 1
                        have e2 : w8.cell? ⟨g4, 2, none⟩ = some (.slice none 0 0) := D8.cell 2
                        have z0 := D8.frozen 0
                        have z1 := D8.frozen 1
                        have z2 := D8.frozen 2
                        have HO : Hid (∀ a b c, Only (fun b => b = g4) w8 (((w8.setCell ⟨g4, 0, none⟩ a).setCell ⟨g4, 1, none⟩ b).setCell ⟨g4, 2, none⟩ c)) := fun a b c => (((Only.refl _ _).at_ 0 a).at_ 1 b).at_ 2 c
                        have HS : Hid (∀ a b c, Cs (((w8.setCell ⟨g4, 0, none⟩ a).setCell ⟨g4, 1, none⟩ b).setCell ⟨g4, 2, none⟩ c) g4 makeT #[a, b, c]) := fun a b c => ((D8.set_ 0 a).set_ 1 b).set_ 2 c
                        have HFin : Hid (∀ wf, Only (fun q => q = g4) w8 wf → HdRes w (⟨m.vars, m.rules ++ [⟨T, N, []⟩], m.phony⟩, 0) (.returned (.tuple #[.agg #[.slice vA m.vars.length vc, .slice A7 (m.rules.length + 1 : Nat) c7', .slice pA m.phony.length pc], .int .i64 0])) wf) := fun wf h9 =>
                          hd_done (w7 := w7) (w8 := w8) (g2 := g2) (g4 := g4) (tA := tA) (nA := nA) (tc := tc) (nc := nc) (rs := rs) hrl HSt.out hz2 hz4 ((XB.out.then_ext X9.out).then_ext x7) F7.own (own_ext OT9.out x7) (own_ext ON9.out x7) C2e O8 D8 h9
                        clear O8 C8 D8 C2e C4e F7 x7 xμ cμ
                        go_wp2_with fail
                        have hl := load_mk (HS.out (.slice vA m.vars.length vc) (.slice A7 (m.rules.length + 1 : Nat) c7') (.slice pA m.phony.length pc))
                        refine bodyPost_cell (p := 4) (u := 5) (ty := makeT) (ad := ⟨g4, 0, none⟩) rfl rfl rfl hl ?_
                        rw [HF5.out]
                        obtain ⟨v', rs', he', hM', hE'⟩ := HFin.out _ (HO.out (.slice vA m.vars.length vc) (.slice A7 (m.rules.length + 1 : Nat) c7') (.slice pA m.phony.length pc))
                        exact ⟨v', rs', he', hM', hE'⟩
                    · intro K hK
                      go_simp
                      obtain ⟨wb, hwb⟩ : ∃ u, u = μ0.alloc (.cells #[.slice tA T.length tc, .slice nA N.length nc, .slice none 0 0] ruleT) := ⟨_, rfl⟩
                      obtain ⟨gb, hgb⟩ : ∃ g, g = μ0.heap.size := ⟨_, rfl⟩
                      have hCb : Cs wb gb ruleT #[.slice tA T.length tc, .slice nA N.length nc, .slice none 0 0] := by rw [hwb, hgb]; exact Cs.new _ _ _
                      have xb : Ext μ0 wb := by rw [hwb]; exact (Only.refl No _).alloc _
                      rw [← hwb, ← hgb]
                      refine hK _ _ (Cl.of (xμ.then_ext xb).any) ?_
                      clear hK K hwb hgb
                      simp only [Act.put, List.setIfInBounds_toArray, List.set_cons_succ, List.set_cons_zero]
                      have dμ3 : wb.cell? ⟨g2, 1, none⟩ = some (.slice rA m.rules.length rc) := (cμ.keep xb id).cell 1
                      (refine Mix.tree_one (i := 1) (by kernel_rfl) (by kernel_rfl) rfl rfl rfl ?_; intro K hK; go_simp)
                      refine hK _ _ (Cl.of (xμ.then_ext xb).any) ?_
                      clear hK K dμ3
                      simp only [Act.put, List.setIfInBounds_toArray, List.set_cons_succ, List.set_cons_zero]
                      refine Mix.tree_one (i := 2) (by kernel_rfl) (by kernel_rfl) rfl rfl rfl ?_
                      intro K hK
                      refine goes_append (v := .slice none 0 0) (n := 0) (xs := []) ru_ty rfl rfl rfl (World.ownsRow_nil _ _ _ _) ((HRd.out _ (xμ.then_ext xb)).rd (by decide)) (rul_enc1 rs) (by omega) ?_
                      intro A6 c6 w6 hown6 hg6 hb6
                      have F6 : Fresh rulF ruleT wb w6 A6 c6 rs := (Fresh.nil rulF ruleT wb wb (Only.refl _ _)).grow (ys := rs) hrl hown6 hg6 hb6
                      rw [Nat.zero_add]
                      have x6 : Ext ξ.v w6 := (xμ.then_ext xb).then_ext F6.ext
                      have hCb6 := hCb.keep F6.ext id
                      refine hK _ _ (Cl.of x6.any) ?_
                      clear hK K hown6 hg6 hb6
                      simp only [Act.put, List.setIfInBounds_toArray, List.set_cons_succ, List.set_cons_zero]
                      refine Mix.tree_one (i := 5) (by kernel_rfl) (by kernel_rfl) rfl rfl rfl ?_
                      intro K hK
                      have own6 : w6.ownsRow 0 ruleT 3 (.slice A6 m.rules.length c6) m.rules.length (rs.flatMap rulF.enc) := by rw [← hrl]; exact F6.own
                      refine goes_append (v := .slice A6 m.rules.length c6) (n := m.rules.length) (xs := rs.flatMap rulF.enc) ru_ty rfl rfl rfl own6 (rd_cs (cs := [.slice tA T.length tc, .slice nA N.length nc, .slice none 0 0]) hCb6) (by simp [Value.oneCell']) (by omega) ?_
                      intro A7 c7' w7 hown7 hg7 hb7
                      have F7 : Fresh rulF ruleT wb w7 A7 c7' (rs ++ [((⟨tA, tc, nA, nc, none, 0⟩ : RulA), (⟨T, N, []⟩ : Rul))]) := F6.grow (m := 1) (ys := [((⟨tA, tc, nA, nc, none, 0⟩ : RulA), (⟨T, N, []⟩ : Rul))]) rfl (by rw [hrl]; exact hown7) (by rw [hrl]; exact hg7) (by rw [hrl]; exact hb7)
                      have x7 : Ext ξ.v w7 := (xμ.then_ext xb).then_ext F7.ext
                      refine hK _ _ (Cl.of x7.any) ?_
                      clear hown7 hg7 hb7 own6 F6 x6 xb hCb hCb6
                      clear hK K
                      simp only [Act.put, List.setIfInBounds_toArray, List.set_cons_succ, List.set_cons_zero]
                      have C2e : Cs w7 g2 makeT #[.slice vA m.vars.length vc, .slice rA m.rules.length rc, .slice pA m.phony.length pc] := CW.out.keep x7 id
                      have C4e : Cs w7 g4 makeT #[.slice none 0 0, .slice none 0 0, .slice none 0 0] := DW.out.keep x7 id
                      have y0 : w7.cell? ⟨g2, 1, none⟩ = some (.slice rA m.rules.length rc) := C2e.cell 1
                      have yz := C2e.frozen 1
                      obtain ⟨w8, hw8⟩ : ∃ u, u = w7.setCell ⟨g2, 1, none⟩ (.slice A7 (m.rules.length + 1 : Nat) c7') := ⟨_, rfl⟩
                      have O8 : Only (fun q => q = g2) w7 w8 := by rw [hw8]; exact (Only.refl _ _).at_ 1 _
                      have C8 : Cs w8 g2 makeT #[.slice vA m.vars.length vc, .slice A7 (m.rules.length + 1 : Nat) c7', .slice pA m.phony.length pc] := by rw [hw8]; exact C2e.set_ 1 _
                      have D8 : Cs w8 g4 makeT #[.slice none 0 0, .slice none 0 0, .slice none 0 0] := C4e.keep O8 (fun e => hz24 e.symm)
                      (refine Mix.tree_quiet (i := 6) (by kernel_rfl) rfl rfl rfl rfl ?_; intro K hK; go_big_quiet_op; go_big_quiet_on)
                      (refine Mix.tree_one (i := 7) (by kernel_rfl) (by kernel_rfl) rfl rfl rfl ?_; intro K hK; go_simp)
                      rw [← hw8]
                      refine hK _ _ (Cl.of (x7.any.trans O8 fun q _ e => e)) ?_
                      clear hK K hw8 y0 yz
                      simp only [Act.put, List.setIfInBounds_toArray, List.set_cons_succ, List.set_cons_zero]
                      refine Mix.tree_nil ?_
                      have q0 : w8.cell? ⟨g2, 0, none⟩ = some (.slice vA m.vars.length vc) := C8.cell 0
                      have q1 : w8.cell? ⟨g2, 1, none⟩ = some (.slice A7 (m.rules.length + 1 : Nat) c7') := C8.cell 1
                      have q2 : w8.cell? ⟨g2, 2, none⟩ = some (.slice pA m.phony.length pc) := C8.cell 2
                      have e0 : w8.cell? ⟨g4, 0, none⟩ = some (.slice none 0 0) := D8.cell 0
                      have e1 : w8.cell? ⟨g4, 1, none⟩ = some (.slice none 0 0) := D8.cell 1
                      have e2 : w8.cell? ⟨g4, 2, none⟩ = some (.slice none 0 0) := D8.cell 2
                      have z0 := D8.frozen 0
                      have z1 := D8.frozen 1
                      have z2 := D8.frozen 2
                      have HO : Hid (∀ a b c, Only (fun b => b = g4) w8 (((w8.setCell ⟨g4, 0, none⟩ a).setCell ⟨g4, 1, none⟩ b).setCell ⟨g4, 2, none⟩ c)) := fun a b c => (((Only.refl _ _).at_ 0 a).at_ 1 b).at_ 2 c
                      have HS : Hid (∀ a b c, Cs (((w8.setCell ⟨g4, 0, none⟩ a).setCell ⟨g4, 1, none⟩ b).setCell ⟨g4, 2, none⟩ c) g4 makeT #[a, b, c]) := fun a b c => ((D8.set_ 0 a).set_ 1 b).set_ 2 c
                      have HFin : Hid (∀ wf, Only (fun q => q = g4) w8 wf → HdRes w (⟨m.vars, m.rules ++ [⟨T, N, []⟩], m.phony⟩, 0) (.returned (.tuple #[.agg #[.slice vA m.vars.length vc, .slice A7 (m.rules.length + 1 : Nat) c7', .slice pA m.phony.length pc], .int .i64 0])) wf) := fun wf h9 =>
                        hd_done (w7 := w7) (w8 := w8) (g2 := g2) (g4 := g4) (tA := tA) (nA := nA) (tc := tc) (nc := nc) (rs := rs) hrl HSt.out hz2 hz4 ((XB.out.then_ext X9.out).then_ext x7) F7.own (own_ext OT9.out x7) (own_ext ON9.out x7) C2e O8 D8 h9
                      clear O8 C8 D8 C2e C4e F7 x7 xμ cμ
                      go_wp2_with fail
                      have hl := load_mk (HS.out (.slice vA m.vars.length vc) (.slice A7 (m.rules.length + 1 : Nat) c7') (.slice pA m.phony.length pc))
                      refine bodyPost_cell (p := 4) (u := 5) (ty := makeT) (ad := ⟨g4, 0, none⟩) rfl rfl rfl hl ?_
                      rw [HF5.out]
                      obtain ⟨v', rs', he', hM', hE'⟩ := HFin.out _ (HO.out (.slice vA m.vars.length vc) (.slice A7 (m.rules.length + 1 : Nat) c7') (.slice pA m.phony.length pc))
                      exact ⟨v', rs', he', hM', hE'⟩
  · have HF2 : Hid (headF m s = (m, e)) := HF.out.trans (if_pos he)
    have g7 : decide ((0 : Int) < e) = true := by rw [decide_eq_true_iff]; omega
    have D2 := Lib.hid (CB.out.keep X1.out id)
    have D4 := Lib.hid (C4.out.keep X1.out id)
    have q0 : u1.cell? ⟨g2, 0, none⟩ = some (.slice vA m.vars.length vc) := D2.out.cell 0
    have q1 : u1.cell? ⟨g2, 1, none⟩ = some (.slice rA m.rules.length rc) := D2.out.cell 1
    have q2 : u1.cell? ⟨g2, 2, none⟩ = some (.slice pA m.phony.length pc) := D2.out.cell 2
    have e0 : u1.cell? ⟨g4, 0, none⟩ = some (.slice none 0 0) := D4.out.cell 0
    have e1 : u1.cell? ⟨g4, 1, none⟩ = some (.slice none 0 0) := D4.out.cell 1
    have e2 : u1.cell? ⟨g4, 2, none⟩ = some (.slice none 0 0) := D4.out.cell 2
    have z0 := D4.out.frozen 0
    have z1 := D4.out.frozen 1
    have z2 := D4.out.frozen 2
    have HO : Hid (∀ a b c, Only (fun b => b = g4) u1 (((u1.setCell ⟨g4, 0, none⟩ a).setCell ⟨g4, 1, none⟩ b).setCell ⟨g4, 2, none⟩ c)) := fun a b c => (((Only.refl _ _).at_ 0 a).at_ 1 b).at_ 2 c
    have HS : Hid (∀ a b c, Cs (((u1.setCell ⟨g4, 0, none⟩ a).setCell ⟨g4, 1, none⟩ b).setCell ⟨g4, 2, none⟩ c) g4 makeT #[a, b, c]) := fun a b c => ((D4.out.set_ 0 a).set_ 1 b).set_ 2 c
    go_wp2_with fail
    have hl := load_mk (HS.out (.slice vA m.vars.length vc) (.slice rA m.rules.length rc) (.slice pA m.phony.length pc))
    refine bodyPost_cell (p := 4) (u := 5) (ty := makeT) (ad := ⟨g4, 0, none⟩) rfl rfl rfl hl ?_
    rw [HF2.out]
    exact ⟨⟨vA, vc, rA, rc, pA, pc⟩, rs, rfl, HSt.out.ext (HX.out _ _ X1.out (HO.out _ _ _)), HX.out _ _ X1.out (HO.out _ _ _)⟩
end Go.Proofs.YtnhaekifcieeoaaGreatDoor
