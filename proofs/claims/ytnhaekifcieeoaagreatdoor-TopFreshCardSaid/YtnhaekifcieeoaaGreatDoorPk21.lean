/- Put together: Stl, Pl3, FilesM, Frp. -/
import Derived.Test.YtnhaekifcieeoaaGreatDoorPk17
import Derived.Test.YtnhaekifcieeoaaGreatDoorPk20
import Derived.Test.YtnhaekifcieeoaaGreatDoorPk18
import Derived.Test.YtnhaekifcieeoaaGreatDoorPk02
import Derived.Test.YtnhaekifcieeoaaGreatDoorPk19
namespace Go.Proofs.YtnhaekifcieeoaaGreatDoor
open Go Go.RowKit
abbrev boolT : TypeId := 4
abbrev boV (st : List Bool) : Array Value := (st.map Value.bool).toArray
theorem boV_get {st : List Bool} {i : Nat} (h : i < st.length) : (boV st)[i]? = some (.bool (st.getD i false)) := by
  simp [boV, List.getD_eq_getElem?_getD, List.getElem?_eq_getElem h]
theorem boV_set (st : List Bool) (i : Nat) (b : Bool) : (boV st).setIfInBounds i (.bool b) = boV (st.set i b) := by
  simp [boV, List.map_set]
theorem Cs.bos {w : World} {g : Nat} {st : List Bool} (h : Cs w g boolT (boV st)) (i : Nat) (b : Bool) : Cs (w.setCell ⟨g, i, none⟩ (.bool b)) g boolT (boV (st.set i b)) := by
  have := h.set_ i (.bool b)
  rwa [boV_set] at this
theorem bool_info : (Tryz.prog.info? boolT).map (fun i => (i.zero, i.size, i.bytes)) = some (some (.bool false), 1, 1) := by kernel_rfl
theorem make_bools (n : Nat) (hn : n ≤ 1000000) (w : World) : (Instr.makeSlice 51 (.int .i64 (n : Int)) (.int .i64 (n : Int))).run Tryz.prog w =
    .ok (.slice (some ⟨w.heap.size, 0, none⟩) n n) (w.alloc (.cells (boV (List.replicate n false)) boolT)) := by
  obtain ⟨i0, hi, hz, h1, h2⟩ := info_parts bool_info
  have hb : (i0.bytes : Int) * (n : Int) ≤ 281474976710656 := by rw [h2]; omega
  have hr := run_make (P := Tryz.prog) w 51 boolT i0 (.bool false) Tryz.underlying51 hi hz .i64 .i64 n n (by omega) (by omega) hb (by omega)
  simp only [Int.toNat_natCast] at hr
  rw [hr, h1]
  have : madeCells (Value.bool false).cells (n * 1) = boV (List.replicate n false) := by
    apply Array.ext
    · simp [madeCells, boV]
    · intro i h1 h2
      simp [madeCells, Value.cells, Nat.mod_one, boV]
  rw [this]
def nedB (gs : List Grp) (st : List Bool) (i : Nat) (n : Str) : Bool := match makerF (gs.take i) n with
  | some k => st.getD k false
  | none => false
def staleAt (l : List File) (F : Str → Option (RcdV × Rcd)) (gs : List Grp) (st : List Bool) (i : Nat) (G : Grp) : Bool := (!G.phony && !freshF l F G) || G.needs.any (nedB gs st i)
def staleTo (l : List File) (F : Str → Option (RcdV × Rcd)) (gs : List Grp) : Nat → List Bool
  | 0 => []
  | i + 1 => staleTo l F gs i ++ [match gs[i]? with
    | some G => staleAt l F gs (staleTo l F gs i) i G
    | none => false]
abbrev staleF (l : List File) (F : Str → Option (RcdV × Rcd)) (gs : List Grp) : List Bool := staleTo l F gs gs.length
theorem staleTo_len (l : List File) (F : Str → Option (RcdV × Rcd)) (gs : List Grp) : ∀ i, (staleTo l F gs i).length = i
  | 0 => rfl
  | i + 1 => by rw [staleTo, List.length_append, staleTo_len l F gs i]; rfl
theorem any_succ {ns : List Str} {k : Nat} {t : Str} (p : Str → Bool) (ht : ns[k]? = some t) : (ns.take (k + 1)).any p = ((ns.take k).any p || p t) := by
  rw [List.take_add_one, ht, List.any_append]
  simp
theorem mid_set {A : List Bool} {n : Nat} {x y : Bool} : (A ++ x :: List.replicate n false).set A.length y = A ++ y :: List.replicate n false := by
  rw [List.set_append, if_neg (Nat.lt_irrefl _)]
  simp
theorem mid_get {A : List Bool} {n : Nat} {x : Bool} : (A ++ x :: List.replicate n false).getD A.length false = x := by
  simp [List.getD_eq_getElem?_getD]
theorem mid_low {A B : List Bool} {q : Nat} (h : q < A.length) : (A ++ B).getD q false = A.getD q false := by
  simp [List.getD_eq_getElem?_getD, List.getElem?_append_left h]
theorem SlR.bos {w : World} {g n : Nat} {st : List Bool} (h : Cs w g boolT (boV st)) (hl : st.length = n) : SlR boF w (some ⟨g, 0, none⟩) n st := by
  refine ⟨hl, fun _ => ⟨g, 0, rfl, h.lt, fun k x hk j u hu => ?_⟩⟩
  match j, hu with
  | 0, hu =>
    injection hu with hu
    obtain ⟨h1, h2⟩ := List.getElem?_eq_some_iff.1 hk
    rw [show (0 + k * boF.size + 0 : Nat) = k by show 0 + k * 1 + 0 = k; omega, h.cell k, boV_get h1, ← hu, List.getD_eq_getElem?_getD, hk]
    rfl
set_option maxRecDepth 100000 in
set_option maxHeartbeats 8000000 in
theorem Stale_c {w : World} {A : Option Addr} {c : Nat} {os : List (RulA × Grp)} {gs : List Grp} (hG : GrpsR w A os gs) (hgs : gs.length ≤ 10) (hcap : gs.length ≤ c) (hb : ∀ g ∈ gs, GB3 g ∧ 1 ≤ g.targets.length ∧ (g.targets.headD []).length ≤ 1000000)
    {m : Option Nat} {F : Str → Option (RcdV × Rcd)} (hM : KpM w m (kpF F)) (hF : KpR w F) {lA : Option Addr} {lc : Nat} {l : List File} (hl : SlR fileF w lA l.length l) (hln : l.length ≤ 1000) (hr : Rise fk l) :
    Calls Tryz.prog 31 #[.slice A gs.length c, .slice lA l.length lc, .map m] w fun e w' => ∃ B d, e = .returned (.slice B gs.length d) ∧ SlR boF w' B gs.length (staleF l F gs) ∧ Ext w w' := by
  have HG := Lib.hid hG
  have HB := Lib.hid hb
  have hmk := make_bools gs.length (by omega)
  obtain ⟨w1, hw1⟩ : ∃ u, u = w.alloc (.cells (boV (List.replicate gs.length false)) boolT) := ⟨_, rfl⟩
  obtain ⟨g5, hg5⟩ : ∃ g, g = w.heap.size := ⟨_, rfl⟩
  have X1 : Hid (Ext w w1) := by rw [hw1]; exact (Only.refl No w).alloc _
  have C1 : Hid (Cs w1 g5 boolT (boV (List.replicate gs.length false))) := by rw [hw1, hg5]; exact Cs.new _ _ _
  have HG5 : Hid (w.heap.size ≤ g5) := Nat.le_of_eq hg5.symm
  have HFr : Hid (∀ u, Ext w u → ∀ (x : RulA × Grp), x ∈ os → Calls Tryz.prog 53 #[grpW x, .slice lA l.length lc, .map m] u fun e w' => e = .returned (.bool (freshF l F x.2)) ∧ Ext u w') := fun u hu x hx => by
    obtain ⟨a, G⟩ := x
    have h1 := (hG.ext hu).rr _ hx
    have hm : G ∈ gs := by rw [← hG.om]; exact List.mem_map_of_mem hx
    obtain ⟨⟨b1, b2, b3⟩, b4, b5⟩ := hb G hm
    have d1 : G.targets.length ≤ 100 := by omega
    have d2 : G.needs.length ≤ 1000 := by omega
    have d3 : G.cmds.length ≤ 1000 := by omega
    exact fresh_c (hM.ext hu) (hF.ext hu) h1.1 h1.2.1 h1.2.2 b4 d1 d2 d3 b5 (hl.ext hu) hln hr
  clear hG hb hM hF hl hr
  go_enter Tryz.func31, Tryz.ntmps31
  go_upto_region 2 with fail
  rw [← hw1, ← hg5]
  clear hw1 hg5 hmk
  go_wp2_with fail
  go_loopw [18] (fun i wr => ∃ k : Nat, k ≤ gs.length ∧ i = .int .i64 k ∧ Cs wr g5 boolT (boV (staleTo l F gs k ++ List.replicate (gs.length - k) false)) ∧ Ext w wr) (fun i _ => gs.length - (intOf i).toNat)
  case atStart => exact ⟨0, Nat.zero_le _, rfl, C1.out, X1.out⟩
  case round =>
    clear C1 X1
    obtain ⟨i, hi, rfl, hC, hx⟩ := hrel
    have C0 := Lib.hid hC
    have XR := Lib.hid hx
    clear hC hx
    by_cases hlt : i < gs.length
    · obtain ⟨bg, o, ⟨⟨tA, tc, nA, nc, cA, cc⟩, G⟩, rfl, hox, c0, c1, c2, c3⟩ := grps_get HG.out.row hlt
      have hgi : gs[i]? = some G := by rw [← HG.out.om, List.getElem?_map, hox]; rfl
      have HN : Hid (SlR strF w nA G.needs.length G.needs) := (HG.out.rr _ (List.mem_of_getElem? hox)).2.1
      have hnn : G.needs.length ≤ 3 := (HB.out G (List.mem_of_getElem? hgi)).1.2.1
      have HF2 : Hid (∀ u, Ext w u → Calls Tryz.prog 53 #[.agg #[.slice tA G.targets.length tc, .slice nA G.needs.length nc, .slice cA G.cmds.length cc, .bool G.phony], .slice lA l.length lc, .map m] u fun e w' => e = .returned (.bool (freshF l F G)) ∧ Ext u w') := fun u hu => HFr.out u hu _ (List.mem_of_getElem? hox)
      have HMk : Hid (∀ u, Ext w u → ∀ t, Calls Tryz.prog 15 #[.slice (some ⟨bg, o, none⟩) i c, S t] u fun e w' => e = .returned (.int .i64 (idxI (makerF (gs.take i) t))) ∧ Ext u w') := fun u hu t => by
        have hl : (gs.take i).length = i := by rw [List.length_take]; omega
        have h1 : GrpsR u (some ⟨bg, o, none⟩) (os.take i) (gs.take i) := by
          refine ⟨?_, fun x hx => (HG.out.ext hu).rr x (List.mem_of_mem_take hx), ?_⟩
          · rw [hl]; exact (HG.out.row.ext hu).take (Nat.le_of_lt hlt)
          · rw [List.map_take, HG.out.om]
        have h2 := Maker_c (c := c) h1 (by omega) (fun g hg => by have := (HB.out g (List.mem_of_mem_take hg)).1.1; omega) t
        rw [hl] at h2
        exact h2
      obtain ⟨ST, hST⟩ : ∃ s, s = staleTo l F gs i := ⟨_, rfl⟩
      have HSl : Hid (ST.length = i) := by rw [hST]; exact staleTo_len _ _ _ _
      have HSn : Hid (staleTo l F gs (i + 1) = ST ++ [(!G.phony && !freshF l F G) || G.needs.any (nedB gs ST i)]) := by rw [Hid, staleTo, hgi, hST]; rfl
      have hrn : List.replicate (gs.length - i) false = false :: List.replicate (gs.length - (i + 1)) false := by rw [show gs.length - i = gs.length - (i + 1) + 1 by omega]; rfl
      rw [← hST, hrn] at C0
      have HNl : Hid (∀ x, (ST ++ x :: List.replicate (gs.length - (i + 1)) false).length = gs.length) := fun x => by rw [List.length_append, List.length_cons, List.length_replicate, HSl.out]; omega
      have q0 : wr.cell? ⟨bg, o + i * 4, none⟩ = some (.slice tA G.targets.length tc) := c0 ⟨wr, XR.out⟩
      have q1 : wr.cell? ⟨bg, o + i * 4 + 1, none⟩ = some (.slice nA G.needs.length nc) := c1 ⟨wr, XR.out⟩
      have q2 : wr.cell? ⟨bg, o + i * 4 + 2, none⟩ = some (.slice cA G.cmds.length cc) := c2 ⟨wr, XR.out⟩
      have q3 : wr.cell? ⟨bg, o + i * 4 + 3, none⟩ = some (.bool G.phony) := c3 ⟨wr, XR.out⟩
      clear c0 c1 c2 c3 hox hgi hST hrn
      go_upto_region 5 with fail
      obtain ⟨w2, hw2⟩ : ∃ u, u = wr.alloc (.cells #[.slice tA G.targets.length tc, .slice nA G.needs.length nc, .slice cA G.cmds.length cc, .bool G.phony] grpT) := ⟨_, rfl⟩
      obtain ⟨b7, hb7⟩ : ∃ g, g = wr.heap.size := ⟨_, rfl⟩
      rw [← hw2, ← hb7]
      have x2 : Ext wr w2 := by rw [hw2]; exact (Only.refl No _).alloc _
      have B7 : Hid (Cs w2 b7 grpT #[.slice tA G.targets.length tc, .slice nA G.needs.length nc, .slice cA G.cmds.length cc, .bool G.phony]) := by rw [hw2, hb7]; exact Cs.new _ _ _
      have C2 := Lib.hid (C0.out.keep x2 id)
      have X2 := Lib.hid (XR.out.then_ext x2)
      have y0 : w2.cell? ⟨b7, 0, none⟩ = some (.slice tA G.targets.length tc) := B7.out.cell 0
      have y1 : w2.cell? ⟨b7, 1, none⟩ = some (.slice nA G.needs.length nc) := B7.out.cell 1
      have y2 : w2.cell? ⟨b7, 2, none⟩ = some (.slice cA G.cmds.length cc) := B7.out.cell 2
      have y3 : w2.cell? ⟨b7, 3, none⟩ = some (.bool G.phony) := B7.out.cell 3
      have HFw := HF2.out w2 X2.out
      clear hw2 hb7 x2 q0 q1 q2 q3 C0 HF2
      have z0 : w2.cell? ⟨g5, i, none⟩ = some (.bool false) := by rw [C2.out.cell i, boV_get (by rw [HNl.out]; exact hlt), show i = ST.length from HSl.out.symm, mid_get]
      have z1 := C2.out.frozen i
      obtain ⟨fr, hfr⟩ : ∃ b, b = freshF l F G := ⟨_, rfl⟩
      rw [← hfr] at HFw HSn
      have HFW := Lib.hid HFw
      obtain ⟨ph, hph⟩ : ∃ b, b = G.phony := ⟨_, rfl⟩
      rw [← hph] at HSn B7 HFW y3
      have H5 : Hid (∀ w5, Ext w2 w5 → ∀ b, Cs (w5.setCell ⟨g5, i, none⟩ (.bool b)) g5 boolT (boV (ST ++ b :: List.replicate (gs.length - (i + 1)) false)) ∧ Ext w (w5.setCell ⟨g5, i, none⟩ (.bool b)) ∧ Cs (w5.setCell ⟨g5, i, none⟩ (.bool b)) b7 grpT #[.slice tA G.targets.length tc, .slice nA G.needs.length nc, .slice cA G.cmds.length cc, .bool ph]) := fun w5 hx5 b => by
        have h6 := (C2.out.keep hx5 id).bos i b
        have O6 : Only (fun q => q = g5) w5 (w5.setCell ⟨g5, i, none⟩ (.bool b)) := (Only.refl _ _).at_ i _
        refine ⟨?_, (X2.out.then_ext hx5).trans O6 fun q hq e => by have e : q = g5 := e; have := HG5.out; omega, (B7.out.keep hx5 id).keep O6 fun e => Cs.ne_ B7.out C2.out (by decide) e⟩
        have e1 : (ST ++ false :: List.replicate (gs.length - (i + 1)) false).set i b = ST ++ b :: List.replicate (gs.length - (i + 1)) false := by rw [← HSl.out]; exact mid_set
        rw [← e1]
        exact h6
      clear hfr HFw hph
      have v0 : ∀ ξ : X w2 No, ξ.v.cell? ⟨b7, 0, none⟩ = some (.slice tA G.targets.length tc) := B7.out.x id 0
      have v1 : ∀ ξ : X w2 No, ξ.v.cell? ⟨b7, 1, none⟩ = some (.slice nA G.needs.length nc) := B7.out.x id 1
      have v2 : ∀ ξ : X w2 No, ξ.v.cell? ⟨b7, 2, none⟩ = some (.slice cA G.cmds.length cc) := B7.out.x id 2
      have v3 : ∀ ξ : X w2 No, ξ.v.cell? ⟨b7, 3, none⟩ = some (.bool ph) := B7.out.x id 3
      have v4 : ∀ ξ : X w2 No, ξ.v.cell? ⟨g5, i, none⟩ = some (.bool false) := fun ξ => by rw [(C2.out.keep ξ.h id).cell i, ← C2.out.cell i, z0]
      have v5 : ∀ ξ : X w2 No, ξ.v.frozen? ⟨g5, i, none⟩ = false := fun ξ => (C2.out.keep ξ.h id).frozen i
      have HSn2 : Hid (∀ x, x = (!ph && !fr) → staleTo l F gs (i + 1) = ST ++ [x || G.needs.any (nedB gs ST i)]) := fun x e => by rw [e]; exact HSn.out
      clear HSn C2 XR X2
      cases ph
      case' true =>
        go_upto_region 5 with fail
        refine Mix.wp_plain [13] (Cl w2 No) (Cl.of (Only.refl _ _)) ?_
        (repeat' (first | (refine Mix.lex_quiet0 rfl rfl rfl ?_; intro K hK; go_big_quiet_op; go_big_quiet_on) | (refine Mix.lex_quietG rfl rfl rfl (by with_reducible rfl) rfl rfl ?_; intro K hK; go_big_quiet_op; go_big_quiet_on) | ((first | refine Mix.lex_skipT rfl rfl rfl (by with_reducible rfl) ?_ | refine Mix.lex_skipF rfl rfl rfl (by with_reducible rfl) ?_ | refine Mix.lex_skipU rfl rfl rfl (by with_reducible rfl) ?_); simp only [Act.put, List.setIfInBounds_toArray, List.set_cons_succ, List.set_cons_zero]) | (refine Mix.lex_part rfl rfl rfl rfl (fun hq => ?_) (fun hq => ?_) <;> (fail_if_success (guard_hyp hq :ₛ true = true)) <;> (fail_if_success (guard_hyp hq :ₛ false = false)) <;> first | (exfalso; cases hq; done) | (exfalso; simp only [decide_eq_true_eq, decide_eq_false_iff_not, beq_iff_eq, beq_eq_false_iff_ne, ne_eq, Int.not_lt, Int.not_le] at hq; omega) | simp only [Act.put, List.setIfInBounds_toArray, List.set_cons_succ, List.set_cons_zero])))
        ((first | refine Mix.lex_goes0 rfl rfl ?_ | refine Mix.lex_goesG rfl rfl rfl (by with_reducible rfl) rfl ?_); intro K hK; go_simp)
        refine hK _ _ (fun hne => absurd rfl hne) ?_
        clear hK K
        simp only [Act.put, List.setIfInBounds_toArray, List.set_cons_succ, List.set_cons_zero]
        refine Mix.lex_nil ?_
        obtain ⟨x, hx⟩ : ∃ x, x = false := ⟨_, rfl⟩
        have H6 := H5.out w2 (Only.refl _ _) x
        obtain ⟨w6, hw6⟩ : ∃ u, u = w2.setCell ⟨g5, i, none⟩ (.bool x) := ⟨_, rfl⟩
      case' false =>
        go_upto_region 5 with fail
        refine Mix.wp_plain [9, 13] (Cl w2 No) (Cl.of (Only.refl _ _)) ?_
        (repeat' (first | (refine Mix.lex_quiet0 rfl rfl rfl ?_; intro K hK; go_big_quiet_op; go_big_quiet_on) | (refine Mix.lex_quietG rfl rfl rfl (by with_reducible rfl) rfl rfl ?_; intro K hK; go_big_quiet_op; go_big_quiet_on) | ((first | refine Mix.lex_skipT rfl rfl rfl (by with_reducible rfl) ?_ | refine Mix.lex_skipF rfl rfl rfl (by with_reducible rfl) ?_ | refine Mix.lex_skipU rfl rfl rfl (by with_reducible rfl) ?_); simp only [Act.put, List.setIfInBounds_toArray, List.set_cons_succ, List.set_cons_zero]) | (refine Mix.lex_part rfl rfl rfl rfl (fun hq => ?_) (fun hq => ?_) <;> (fail_if_success (guard_hyp hq :ₛ true = true)) <;> (fail_if_success (guard_hyp hq :ₛ false = false)) <;> first | (exfalso; cases hq; done) | (exfalso; simp only [decide_eq_true_eq, decide_eq_false_iff_not, beq_iff_eq, beq_eq_false_iff_ne, ne_eq, Int.not_lt, Int.not_le] at hq; omega) | simp only [Act.put, List.setIfInBounds_toArray, List.set_cons_succ, List.set_cons_zero])))
        ((first | refine Mix.lex_goes0 rfl rfl ?_ | refine Mix.lex_goesG rfl rfl rfl (by with_reducible rfl) rfl ?_); intro K hK; go_simp)
        refine HFW.out.mono ?_
        rintro e u ⟨rfl, hu⟩
        refine ⟨_, rfl, hK _ _ (fun _ => Cl.of hu) ?_⟩
        clear hK K
        obtain ⟨x, hx⟩ : ∃ x, x = !fr := ⟨_, rfl⟩
        have H6 := H5.out u hu x
        obtain ⟨w6, hw6⟩ : ∃ z, z = u.setCell ⟨g5, i, none⟩ (.bool x) := ⟨_, rfl⟩
        rw [← hw6] at H6
        have HH6 := Lib.hid H6
        have Hw6 := Lib.hid hw6
        have Hx := Lib.hid hx
        clear H6 hw6 hx
        obtain ⟨ξu, rfl⟩ : ∃ ξ : X w2 No, u = ξ.v := ⟨⟨u, hu⟩, rfl⟩
        simp only [Act.put, List.setIfInBounds_toArray, List.set_cons_succ, List.set_cons_zero]
        (repeat' (first | (refine Mix.lex_quiet0 rfl rfl rfl ?_; intro K hK; go_big_quiet_op; go_big_quiet_on) | (refine Mix.lex_quietG rfl rfl rfl (by with_reducible rfl) rfl rfl ?_; intro K hK; go_big_quiet_op; go_big_quiet_on) | ((first | refine Mix.lex_skipT rfl rfl rfl (by with_reducible rfl) ?_ | refine Mix.lex_skipF rfl rfl rfl (by with_reducible rfl) ?_ | refine Mix.lex_skipU rfl rfl rfl (by with_reducible rfl) ?_); simp only [Act.put, List.setIfInBounds_toArray, List.set_cons_succ, List.set_cons_zero]) | (refine Mix.lex_part rfl rfl rfl rfl (fun hq => ?_) (fun hq => ?_) <;> (fail_if_success (guard_hyp hq :ₛ true = true)) <;> (fail_if_success (guard_hyp hq :ₛ false = false)) <;> first | (exfalso; cases hq; done) | (exfalso; simp only [decide_eq_true_eq, decide_eq_false_iff_not, beq_iff_eq, beq_eq_false_iff_ne, ne_eq, Int.not_lt, Int.not_le] at hq; omega) | simp only [Act.put, List.setIfInBounds_toArray, List.set_cons_succ, List.set_cons_zero])))
        ((first | refine Mix.lex_goes0 rfl rfl ?_ | refine Mix.lex_goesG rfl rfl rfl (by with_reducible rfl) rfl ?_); intro K hK; go_simp)
        refine hK _ _ (fun hne => absurd rfl hne) ?_
        clear hK K
        simp only [Act.put, List.setIfInBounds_toArray, List.set_cons_succ, List.set_cons_zero]
        refine Mix.lex_nil ?_
        have hw6 := Hw6.out
        have hx := Hx.out
        have H6 := HH6.out
        rw [hw6] at H6
      all_goals
        have HSm := Lib.hid (HSn2.out x hx)
        rw [← hw6] at H6
        rw [hx] at hw6
        rw [← hw6]
        have C6 := Lib.hid H6.1
        have X6 := Lib.hid H6.2.1
        have k1 : w6.cell? ⟨b7, 1, none⟩ = some (.slice nA G.needs.length nc) := H6.2.2.cell 1
        clear hw6 hx H6 H5 HSn2 HFW v0 v1 v2 v3 v4 v5 z0 z1 y0 y1 y2 y3 B7
        go_wp2_with fail
        go_loopw [39] (fun j wr => ∃ k : Nat, k ≤ G.needs.length ∧ j = .int .i64 k ∧ Cs wr g5 boolT (boV (ST ++ (x || (G.needs.take k).any (nedB gs ST i)) :: List.replicate (gs.length - (i + 1)) false)) ∧ Ext w wr) (fun j _ => G.needs.length - (intOf j).toNat)
        case atStart => exact ⟨0, Nat.zero_le _, rfl, by rw [List.take_zero, List.any_nil, Bool.or_false]; exact C6.out, X6.out⟩
        case round =>
          clear C6 X6 k1
          obtain ⟨k, hk, rfl, hC, hx⟩ := hrel
          have C4 := Lib.hid hC
          have XR := Lib.hid hx
          clear hC hx
          by_cases hlk : k < G.needs.length
          · obtain ⟨bn, on, t, rfl, ht, ct⟩ := strs_get HN.out hlk
            have e1 : wr.cell? ⟨bn, on + k, none⟩ = some (S t) := ct ⟨wr, XR.out⟩
            have HTk := Lib.hid (any_succ (nedB gs ST i) ht)
            have HM2 := Lib.hid (HMk.out wr XR.out t)
            clear ht ct
            obtain ⟨cu, hcu⟩ : ∃ b, b = (x || (G.needs.take k).any (nedB gs ST i)) := ⟨_, rfl⟩
            rw [← hcu] at C4
            have HCu : Hid ((x || (G.needs.take (k + 1)).any (nedB gs ST i)) = (cu || nedB gs ST i t)) := by rw [Hid, HTk.out, hcu, Bool.or_assoc]
            clear hcu HTk
            go_upto_region 10 with (refine HM2.out.mono ?_; rintro e u5 ⟨rfl, hx⟩)
            have X5 := Lib.hid (XR.out.then_ext hx)
            have C5 := Lib.hid (C4.out.keep hx id)
            clear hx HM2 e1 C4 XR
            have y0 : u5.cell? ⟨g5, i, none⟩ = some (.bool cu) := by rw [C5.out.cell i, boV_get (by rw [HNl.out]; exact hlt), show i = ST.length from HSl.out.symm, mid_get]
            have v0 : ∀ ξ : X u5 No, ξ.v.cell? ⟨g5, i, none⟩ = some (.bool cu) := fun ξ => by rw [(C5.out.keep ξ.h id).cell i, ← C5.out.cell i, y0]
            have v1 : ∀ ξ : X u5 No, ξ.v.frozen? ⟨g5, i, none⟩ = false := fun ξ => (C5.out.keep ξ.h id).frozen i
            have z1 := C5.out.frozen i
            have H8 : Hid (∀ w5, Ext u5 w5 → ∀ b, Cs (w5.setCell ⟨g5, i, none⟩ (.bool b)) g5 boolT (boV (ST ++ b :: List.replicate (gs.length - (i + 1)) false)) ∧ Ext w (w5.setCell ⟨g5, i, none⟩ (.bool b))) := fun w5 hx5 b => by
              have h6 := (C5.out.keep hx5 id).bos i b
              have O6 : Only (fun q => q = g5) w5 (w5.setCell ⟨g5, i, none⟩ (.bool b)) := (Only.refl _ _).at_ i _
              refine ⟨?_, (X5.out.then_ext hx5).trans O6 fun q hq e => by have e : q = g5 := e; have := HG5.out; omega⟩
              have e1 : (ST ++ cu :: List.replicate (gs.length - (i + 1)) false).set i b = ST ++ b :: List.replicate (gs.length - (i + 1)) false := by rw [← HSl.out]; exact mid_set
              rw [← e1]
              exact h6
            cases cu with
            | true =>
              have HCv : Hid ((x || (G.needs.take (k + 1)).any (nedB gs ST i)) = true) := by rw [Hid, HCu.out, Bool.true_or]
              go_upto_region 10 with fail
              refine Mix.wp_plain [17] (Cl u5 No) (Cl.of (Only.refl _ _)) ?_
              (repeat' (first | (refine Mix.lex_quiet0 rfl rfl rfl ?_; intro K hK; go_big_quiet_op; go_big_quiet_on) | (refine Mix.lex_quietG rfl rfl rfl (by with_reducible rfl) rfl rfl ?_; intro K hK; go_big_quiet_op; go_big_quiet_on) | ((first | refine Mix.lex_skipT rfl rfl rfl (by with_reducible rfl) ?_ | refine Mix.lex_skipF rfl rfl rfl (by with_reducible rfl) ?_ | refine Mix.lex_skipU rfl rfl rfl (by with_reducible rfl) ?_); simp only [Act.put, List.setIfInBounds_toArray, List.set_cons_succ, List.set_cons_zero]) | (refine Mix.lex_part rfl rfl rfl rfl (fun hq => ?_) (fun hq => ?_) <;> (fail_if_success (guard_hyp hq :ₛ true = true)) <;> (fail_if_success (guard_hyp hq :ₛ false = false)) <;> first | (exfalso; cases hq; done) | (exfalso; simp only [decide_eq_true_eq, decide_eq_false_iff_not, beq_iff_eq, beq_eq_false_iff_ne, ne_eq, Int.not_lt, Int.not_le] at hq; omega) | simp only [Act.put, List.setIfInBounds_toArray, List.set_cons_succ, List.set_cons_zero])))
              ((first | refine Mix.lex_goes0 rfl rfl ?_ | refine Mix.lex_goesG rfl rfl rfl (by with_reducible rfl) rfl ?_); intro K hK; go_simp)
              refine hK _ _ (fun hne => absurd rfl hne) ?_
              clear hK K
              simp only [Act.put, List.setIfInBounds_toArray, List.set_cons_succ, List.set_cons_zero]
              refine Mix.lex_nil ?_
              have C8 := Lib.hid (H8.out u5 (Only.refl _ _) true)
              go_wp2_with fail
              go_roundw
              case rel => exact ⟨k + 1, by omega, by go_num, by rw [HCv.out]; exact C8.out.1, C8.out.2⟩
              case measure => simp [intOf]; omega
            | false =>
              cases hmf : makerF (gs.take i) t with
              | none =>
                rw [show idxI none = (-1 : Int) from rfl]
                have HCv : Hid ((x || (G.needs.take (k + 1)).any (nedB gs ST i)) = false) := by rw [Hid, HCu.out, Bool.false_or, nedB, hmf]
                clear hmf
                go_upto_region 10 with fail
                refine Mix.wp_plain [17] (Cl u5 No) (Cl.of (Only.refl _ _)) ?_
                (repeat' (first | (refine Mix.lex_quiet0 rfl rfl rfl ?_; intro K hK; go_big_quiet_op; go_big_quiet_on) | (refine Mix.lex_quietG rfl rfl rfl (by with_reducible rfl) rfl rfl ?_; intro K hK; go_big_quiet_op; go_big_quiet_on) | ((first | refine Mix.lex_skipT rfl rfl rfl (by with_reducible rfl) ?_ | refine Mix.lex_skipF rfl rfl rfl (by with_reducible rfl) ?_ | refine Mix.lex_skipU rfl rfl rfl (by with_reducible rfl) ?_); simp only [Act.put, List.setIfInBounds_toArray, List.set_cons_succ, List.set_cons_zero]) | (refine Mix.lex_part rfl rfl rfl rfl (fun hq => ?_) (fun hq => ?_) <;> (fail_if_success (guard_hyp hq :ₛ true = true)) <;> (fail_if_success (guard_hyp hq :ₛ false = false)) <;> first | (exfalso; cases hq; done) | (exfalso; simp only [decide_eq_true_eq, decide_eq_false_iff_not, beq_iff_eq, beq_eq_false_iff_ne, ne_eq, Int.not_lt, Int.not_le] at hq; omega) | simp only [Act.put, List.setIfInBounds_toArray, List.set_cons_succ, List.set_cons_zero])))
                ((first | refine Mix.lex_goes0 rfl rfl ?_ | refine Mix.lex_goesG rfl rfl rfl (by with_reducible rfl) rfl ?_); intro K hK; go_simp)
                refine hK _ _ (fun hne => absurd rfl hne) ?_
                clear hK K
                simp only [Act.put, List.setIfInBounds_toArray, List.set_cons_succ, List.set_cons_zero]
                refine Mix.lex_nil ?_
                have C8 := Lib.hid (H8.out u5 (Only.refl _ _) false)
                go_wp2_with fail
                go_roundw
                case rel => exact ⟨k + 1, by omega, by go_num, by rw [HCv.out]; exact C8.out.1, C8.out.2⟩
                case measure => simp [intOf]; omega
              | some q =>
                have hq : q < i := by have := makerF_lt hmf; rw [List.length_take] at this; omega
                have HCu2 : Hid ((x || (G.needs.take (k + 1)).any (nedB gs ST i)) = ST.getD q false) := by rw [Hid, HCu.out, Bool.false_or, nedB, hmf]
                rw [show idxI (some q) = (q : Int) from rfl]
                have t1 : decide ((0 : Int) ≤ (q : Int)) = true := by rw [decide_eq_true_iff]; omega
                have y2 : u5.cell? ⟨g5, q, none⟩ = some (.bool (ST.getD q false)) := by rw [C5.out.cell q, boV_get (by rw [HNl.out]; omega), mid_low (by rw [HSl.out]; exact hq)]
                generalize ST.getD q false = s2 at HCu2 y2
                have v2 : ∀ ξ : X u5 No, ξ.v.cell? ⟨g5, q, none⟩ = some (.bool s2) := fun ξ => by rw [(C5.out.keep ξ.h id).cell q, ← C5.out.cell q, y2]
                clear hmf
                go_upto_region 10 with fail
                refine Mix.wp_plain [17] (Cl u5 No) (Cl.of (Only.refl _ _)) ?_
                (repeat' (first | (refine Mix.lex_quiet0 rfl rfl rfl ?_; intro K hK; go_big_quiet_op; go_big_quiet_on) | (refine Mix.lex_quietG rfl rfl rfl (by with_reducible rfl) rfl rfl ?_; intro K hK; go_big_quiet_op; go_big_quiet_on) | ((first | refine Mix.lex_skipT rfl rfl rfl (by with_reducible rfl) ?_ | refine Mix.lex_skipF rfl rfl rfl (by with_reducible rfl) ?_ | refine Mix.lex_skipU rfl rfl rfl (by with_reducible rfl) ?_); simp only [Act.put, List.setIfInBounds_toArray, List.set_cons_succ, List.set_cons_zero]) | (refine Mix.lex_part rfl rfl rfl rfl (fun hq => ?_) (fun hq => ?_) <;> (fail_if_success (guard_hyp hq :ₛ true = true)) <;> (fail_if_success (guard_hyp hq :ₛ false = false)) <;> first | (exfalso; cases hq; done) | (exfalso; simp only [decide_eq_true_eq, decide_eq_false_iff_not, beq_iff_eq, beq_eq_false_iff_ne, ne_eq, Int.not_lt, Int.not_le] at hq; omega) | simp only [Act.put, List.setIfInBounds_toArray, List.set_cons_succ, List.set_cons_zero])))
                ((first | refine Mix.lex_goes0 rfl rfl ?_ | refine Mix.lex_goesG rfl rfl rfl (by with_reducible rfl) rfl ?_); intro K hK; go_simp)
                refine hK _ _ (fun hne => absurd rfl hne) ?_
                clear hK K
                simp only [Act.put, List.setIfInBounds_toArray, List.set_cons_succ, List.set_cons_zero]
                refine Mix.lex_nil ?_
                have C8 := Lib.hid (H8.out u5 (Only.refl _ _) s2)
                go_wp2_with fail
                go_roundw
                case rel => exact ⟨k + 1, by omega, by go_num, by rw [HCu2.out]; exact C8.out.1, C8.out.2⟩
                case measure => simp [intOf]; omega
          · obtain rfl : k = G.needs.length := by omega
            have C7 : Hid (Cs wr g5 boolT (boV (staleTo l F gs (i + 1) ++ List.replicate (gs.length - (i + 1)) false))) := by
              have h := C4.out
              rw [List.take_of_length_le (Nat.le_refl _)] at h
              rw [Hid, HSm.out, List.append_assoc]
              exact h
            go_wp2_with fail
            go_roundw
            case rel => exact ⟨i + 1, by omega, by go_num, C7.out, XR.out⟩
            case measure => simp [intOf]; omega
    · obtain rfl : i = gs.length := by omega
      have C7 : Hid (Cs wr g5 boolT (boV (staleF l F gs))) := by
        have h := C0.out
        rw [Nat.sub_self, List.replicate_zero, List.append_nil] at h
        exact h
      go_wp2_with fail
      go_ret
      exact ⟨_, _, rfl, SlR.bos C7.out (staleTo_len _ _ _ _), XR.out⟩
theorem unit_sorted (n : Nat) (st : List Bool) (r : Nat → Nat) (i : Nat) : (unitAt n st r i).Pairwise (· < ·) := List.Pairwise.filter _ List.pairwise_lt_range
section
variable {gs : List Grp} {st : List Bool} {r : Nat → Nat}
theorem lst_root (h : LstOk (edgesF gs st) gs.length r) {k : Nat} (hk : k < gs.length) : r k < gs.length ∧ r (r k) = r k ∧ r k ≤ k := by
  have hc := (h k hk).1
  have hrl : r k < gs.length := hc.lt (fun e he => by have := edgesTo_ok e he; omega) hk
  have a1 := h (r k) hrl
  have a2 : Least (edgesF gs st) (r k) (r k) := ⟨.here, fun y hy => (h k hk).2 y (hc.trans hy)⟩
  exact ⟨hrl, a1.uniq a2, (h k hk).2 k .here⟩
theorem lst_conn (h : LstOk (edgesF gs st) gs.length r) {x y : Nat} (hx : x < gs.length) (hy : y < gs.length) (hc : Conn (edgesF gs st) x y) : r x = r y := by
  have a1 := h x hx
  have a2 : Least (edgesF gs st) x (r y) := ⟨hc.trans (h y hy).1, fun z hz => (h y hy).2 z (hc.symm.trans hz)⟩
  exact a1.uniq a2
theorem unit_head (h : LstOk (edgesF gs st) gs.length r) {i : Nat} (hne : unitAt gs.length st r i ≠ []) : (unitAt gs.length st r i)[0]? = some i := by
  obtain ⟨k, hk⟩ := List.exists_mem_of_ne_nil _ hne
  obtain ⟨h1, h2, rfl⟩ := unit_mem.1 hk
  obtain ⟨q1, q2, q3⟩ := lst_root h h1
  have hp : ∀ e ∈ edgesF gs st, stB st e.1 = true ∧ stB st e.2 = true := fun e he => (edgesTo_ok e he).2.2
  have hs : stB st (r k) = true := by
    rcases (h k h1).1.stale hp with e | e
    · rw [← e]; exact h2
    · exact e
  have hin : r k ∈ unitAt gs.length st r (r k) := unit_mem.2 ⟨q1, hs, q2⟩
  have hsrt := unit_sorted gs.length st r (r k)
  cases hu : unitAt gs.length st r (r k) with
  | nil => rw [hu] at hin; cases hin
  | cons a t =>
    rw [hu] at hin hsrt
    have ha : a ∈ unitAt gs.length st r (r k) := by rw [hu]; simp
    obtain ⟨a1, a2, a3⟩ := unit_mem.1 ha
    have hle := (lst_root h a1).2.2
    rcases List.mem_cons.1 hin with e | e
    · rw [e]; rfl
    · have := (List.pairwise_cons.1 hsrt).1 _ e
      omega
theorem real_ne {us : List Nat} (h : realB gs us = true) : us ≠ [] := by rintro rfl; cases h
theorem units_at {i : Nat} {u : List Nat} (h : u ∈ unitsTo gs st r i) : ∃ p, p < i ∧ u = unitAt gs.length st r p ∧ realB gs u = true := by
  unfold unitsTo at h
  obtain ⟨p, hp, hu⟩ := List.mem_filterMap.1 h
  obtain ⟨h1, h2⟩ := unit1_some hu
  exact ⟨p, List.mem_range.1 hp, h1, h2⟩
theorem units_rise (h : LstOk (edgesF gs st) gs.length r) : ∀ i, (unitsTo gs st r i).Pairwise fun a b => a.headD 0 < b.headD 0
  | 0 => by simp [unitsTo]
  | i + 1 => by
    rw [unitsTo_succ]
    refine List.pairwise_append.2 ⟨units_rise h i, ?_, fun a ha b hb => ?_⟩
    · cases unit1 gs st r i <;> simp
    · obtain ⟨p, hp, rfl, hr⟩ := units_at ha
      cases hu : unit1 gs st r i with
      | none => rw [hu] at hb; cases hb
      | some u =>
        rw [hu] at hb
        simp at hb
        subst hb
        obtain ⟨rfl, hr2⟩ := unit1_some hu
        have e1 := unit_head h (real_ne hr)
        have e2 := unit_head h (real_ne hr2)
        rw [← List.head?_eq_getElem?] at e1 e2
        rw [List.headD_eq_head?_getD, List.headD_eq_head?_getD, e1, e2]
        exact hp
theorem units_whole (h : LstOk (edgesF gs st) gs.length r) {k : Nat} (hk : k < gs.length) (hs : stB st k = true) (hp : nphB gs k = true) : unitAt gs.length st r (r k) ∈ unitsF gs st r := by
  obtain ⟨q1, _, _⟩ := lst_root h hk
  refine List.mem_filterMap.2 ⟨r k, List.mem_range.2 q1, ?_⟩
  unfold unit1
  rw [if_pos]
  unfold realB
  rw [List.any_eq_true]
  exact ⟨k, unit_mem.2 ⟨hk, hs, rfl⟩, hp⟩
structure InOk (us : List (List Nat)) (n i p : Nat) (arr : List Nat) : Prop where
  len : arr.length = n
  back : ∀ k, k < n → arr.getD k 0 = 0 ∨ (∃ j u, j < i ∧ us[j]? = some u ∧ k ∈ u ∧ arr.getD k 0 = j + 1) ∨ (∃ u, us[i]? = some u ∧ k ∈ u.take p ∧ arr.getD k 0 = i + 1)
  on : ∀ j u k, j < i → us[j]? = some u → k ∈ u → arr.getD k 0 = j + 1
  here : ∀ u k, us[i]? = some u → k ∈ u.take p → arr.getD k 0 = i + 1
theorem InOk.start (us : List (List Nat)) (n : Nat) : InOk us n 0 0 (List.replicate n 0) := by
  have : ∀ k, (List.replicate n 0).getD k 0 = 0 := fun k => by
    rw [List.getD_eq_getElem?_getD, List.getElem?_replicate]
    split <;> rfl
  exact ⟨List.length_replicate, fun k _ => .inl (this k), fun j u k hj => absurd hj (Nat.not_lt_zero j), fun u k _ hk => by simp at hk⟩
theorem InOk.next {us : List (List Nat)} {n i : Nat} {u : List Nat} {arr : List Nat} (h : InOk us n i u.length arr) (hu : us[i]? = some u) : InOk us n (i + 1) 0 arr := by
  refine ⟨h.len, fun k hk => ?_, fun j v k hj hv hk => ?_, fun v k _ hk => by simp at hk⟩
  · rcases h.back k hk with h1 | ⟨j, v, h1, h2, h3, h4⟩ | ⟨v, h1, h2, h3⟩
    · exact .inl h1
    · exact .inr (.inl ⟨j, v, by omega, h2, h3, h4⟩)
    · exact .inr (.inl ⟨i, v, by omega, h1, List.mem_of_mem_take h2, h3⟩)
  · rcases Nat.lt_or_ge j i with hlt | hge
    · exact h.on j v k hlt hv hk
    · obtain rfl : j = i := by omega
      obtain rfl : u = v := by rw [hu] at hv; exact Option.some.inj hv
      exact h.here u k hu (by rw [List.take_of_length_le (Nat.le_refl _)]; exact hk)
variable {us : List (List Nat)}
theorem units_apart (h : LstOk (edgesF gs st) gs.length r) (hus : us = unitsF gs st r) {i j : Nat} {u v : List Nat} {k : Nat} (hi : us[i]? = some u) (hj : us[j]? = some v) (h1 : k ∈ u) (h2 : k ∈ v) : i = j := by
  subst hus
  obtain ⟨p, _, rfl, hr1⟩ := units_at (List.mem_of_getElem? hi)
  obtain ⟨q, _, rfl, hr2⟩ := units_at (List.mem_of_getElem? hj)
  have e1 := (unit_mem.1 h1).2.2
  have e2 := (unit_mem.1 h2).2.2
  have hpq : p = q := e1.symm.trans e2
  subst hpq
  obtain ⟨hil, ei⟩ := List.getElem?_eq_some_iff.1 hi
  obtain ⟨hjl, ej⟩ := List.getElem?_eq_some_iff.1 hj
  have hp := List.pairwise_iff_getElem.1 (units_rise h gs.length)
  rcases Nat.lt_trichotomy i j with hlt | heq | hgt
  · have := hp i j hil hjl hlt
    rw [ei, ej] at this
    omega
  · exact heq
  · have := hp j i hjl hil hgt
    rw [ei, ej] at this
    omega
theorem InOk.step (h : LstOk (edgesF gs st) gs.length r) (hus : us = unitsF gs st r) {i p k : Nat} {u arr : List Nat} (hI : InOk us gs.length i p arr) (hu : us[i]? = some u) (hk : u[p]? = some k) :
    k < gs.length ∧ stB st k = true ∧ arr.getD k 0 = 0 ∧ (∀ q, p = q + 1 → ∃ m, u[q]? = some m ∧ m < k) ∧ InOk us gs.length i (p + 1) (arr.set k (i + 1)) := by
  have hmem : u ∈ unitsF gs st r := by rw [← hus]; exact List.mem_of_getElem? hu
  obtain ⟨ρ, _, hρ, _⟩ := units_at hmem
  have hkm := List.mem_of_getElem? hk
  have hk2 := hkm
  rw [hρ] at hk2
  obtain ⟨h1, h2, h3⟩ := unit_mem.1 hk2
  have hsrt : u.Pairwise (· < ·) := by rw [hρ]; exact unit_sorted _ _ _ _
  obtain ⟨hpl, ep⟩ := List.getElem?_eq_some_iff.1 hk
  have hnt : k ∉ u.take p := fun hm => by
    obtain ⟨q, hq, e⟩ := List.getElem_of_mem hm
    rw [List.length_take] at hq
    rw [List.getElem_take] at e
    have := List.pairwise_iff_getElem.1 hsrt q p (by omega) hpl (by omega)
    omega
  have h0 : arr.getD k 0 = 0 := by
    rcases hI.back k h1 with h0 | ⟨j, v, b1, b2, b3, _⟩ | ⟨v, b1, b2, _⟩
    · exact h0
    · have := units_apart h hus hu b2 hkm b3
      omega
    · obtain rfl : u = v := by rw [hu] at b1; exact Option.some.inj b1
      exact absurd b2 hnt
  have hset : ∀ x, (arr.set k (i + 1)).getD x 0 = if x = k then i + 1 else arr.getD x 0 := fun x => getD_set (by rw [hI.len]; exact h1)
  have htk : ∀ x, x ∈ u.take (p + 1) ↔ x ∈ u.take p ∨ x = k := fun x => by
    rw [List.take_add_one, hk, List.mem_append]
    simp
  refine ⟨h1, h2, h0, fun q hq => ?_, ⟨by rw [List.length_set]; exact hI.len, fun x hx => ?_, fun j v x hj hv hx => ?_, fun v x hv hx => ?_⟩⟩
  · subst hq
    refine ⟨u[q], List.getElem?_eq_getElem (by omega), ?_⟩
    have := List.pairwise_iff_getElem.1 hsrt q (q + 1) (by omega) hpl (by omega)
    omega
  · rw [hset]
    by_cases e : x = k
    · rw [if_pos e]
      exact .inr (.inr ⟨u, hu, (htk x).2 (.inr e), rfl⟩)
    · rw [if_neg e]
      rcases hI.back x hx with b | b | ⟨v, b1, b2, b3⟩
      · exact .inl b
      · exact .inr (.inl b)
      · obtain rfl : u = v := by rw [hu] at b1; exact Option.some.inj b1
        exact .inr (.inr ⟨u, hu, (htk x).2 (.inl b2), b3⟩)
  · rw [hset, if_neg (fun e => by subst e; have := units_apart h hus hu hv hkm hx; omega)]
    exact hI.on j v x hj hv hx
  · obtain rfl : u = v := by rw [hu] at hv; exact Option.some.inj hv
    rw [hset]
    by_cases e : x = k
    · rw [if_pos e]
    · rw [if_neg e]
      rcases (htk x).1 hx with b | b
      · exact hI.here u x hu b
      · exact absurd b e
theorem InOk.same (h : LstOk (edgesF gs st) gs.length r) (hus : us = unitsF gs st r) {arr : List Nat} (hI : InOk us gs.length us.length 0 arr) {x y : Nat} (hx : x < gs.length) (hy : y < gs.length) (sx : stB st x = true) (sy : stB st y = true) (hr : r x = r y) : arr.getD x 0 = arr.getD y 0 := by
  have key : ∀ x y, x < gs.length → y < gs.length → stB st x = true → stB st y = true → r x = r y → ∀ j, arr.getD x 0 = j + 1 → arr.getD y 0 = j + 1 := by
    intro x y hx hy sx sy hr j hj
    rcases hI.back x hx with b | ⟨i, v, b1, b2, b3, b4⟩ | ⟨v, b1, _⟩
    · omega
    · have hv : v ∈ unitsF gs st r := by rw [← hus]; exact List.mem_of_getElem? b2
      obtain ⟨ρ, _, hρ, _⟩ := units_at hv
      have e := b3
      rw [hρ] at e
      have hym : y ∈ v := by rw [hρ]; exact unit_mem.2 ⟨hy, sy, hr.symm.trans (unit_mem.1 e).2.2⟩
      have := hI.on i v y b1 b2 hym
      omega
    · rw [List.getElem?_eq_none (Nat.le_refl _)] at b1
      cases b1
  cases hxa : arr.getD x 0 with
  | zero =>
    cases hya : arr.getD y 0 with
    | zero => rfl
    | succ j =>
      have := key y x hy hx sy sx hr.symm j hya
      omega
  | succ j => exact (key x y hx hy sx sy hr j hxa).symm
theorem makerF_take {out : List Grp} {n : Str} {k i : Nat} (h : makerF out n = some k) (hk : k < i) : makerF (out.take i) n = some k := by
  unfold makerF at h ⊢
  obtain ⟨h1, h2, h3⟩ := List.findIdx?_eq_some_iff_getElem.1 h
  refine List.findIdx?_eq_some_iff_getElem.2 ⟨by rw [List.length_take]; omega, by rw [List.getElem_take]; exact h2, fun j hj => ?_⟩
  rw [List.getElem_take]
  exact h3 j hj
theorem edge_in {gs : List Grp} {st : List Bool} {i k : Nat} {G : Grp} {t : Str} (hi : gs[i]? = some G) (ht : t ∈ G.needs) (hm : makerF gs t = some k) (hk : k < i) (h1 : stB st i = true) (h2 : stB st k = true) : (i, k) ∈ edgesF gs st := by
  have hl := (List.getElem?_eq_some_iff.1 hi).1
  refine List.mem_flatMap.2 ⟨i, List.mem_range.2 hl, List.mem_filterMap.2 ⟨t, by rw [ndsAt, hi]; exact ht, ?_⟩⟩
  unfold edgeF
  rw [makerF_take hm hk]
  show (if (stB st i && stB st k) = true then some (i, k) else none) = _
  rw [h1, h2]; rfl
end
section
variable {α : Type} {key : α → Str}
theorem getL_cons (k : Str) (x : α) (l : List α) : getL key k (x :: l) = if key x = k then some x else getL key k l := by
  unfold getL
  rw [List.find?_cons]
  by_cases h : key x = k <;> simp [h]
theorem getL_filter {k k' : Str} (hne : k ≠ k') (l : List α) : getL key k (l.filter fun y => decide (key y ≠ k')) = getL key k l := by
  induction l with
  | nil => rfl
  | cons x l ih =>
    rw [List.filter_cons, getL_cons]
    by_cases h : key x = k
    · have : key x ≠ k' := fun e => hne (h ▸ e)
      rw [if_pos (by simpa using this), getL_cons, if_pos h, if_pos h]
    · rw [if_neg h]
      split
      · rw [getL_cons, if_neg h, ih]
      · exact ih
theorem getL_put (f : α) (l : List α) : getL key (key f) (putL key f l) = some f := by
  induction l with
  | nil => simp [putL, getL]
  | cons x l ih =>
    unfold putL
    split
    · rw [getL_cons, if_pos rfl]
    · rename_i h
      rw [getL_cons, if_neg (slt_ne (leB_false (by simpa using h))), ih]
theorem getL_put_ne {k : Str} (f : α) (hne : k ≠ key f) (l : List α) : getL key k (putL key f l) = getL key k l := by
  induction l with
  | nil => simp [putL, getL, Ne.symm hne]
  | cons x l ih =>
    unfold putL
    split
    · rw [getL_cons, if_neg (Ne.symm hne), getL_filter hne]
    · rw [getL_cons, getL_cons, ih]
end
theorem mem_of_getF {k : Str} {l : List File} {x : File} (h : getL fk k l = some x) : x ∈ l ∧ x.1 = k := by
  unfold getL at h
  have h2 := List.find?_some h
  exact ⟨List.mem_of_find?_eq_some h, by simpa using h2⟩
theorem rise_extF : ∀ {l m : List File}, Rise fk l → Rise fk m → (∀ k, getL fk k l = getL fk k m) → l = m
  | [], [], _, _, _ => rfl
  | [], y :: m, _, _, h => by
    have := h (fk y)
    rw [getL_cons, if_pos rfl] at this
    simp [getL] at this
  | x :: l, [], _, _, h => by
    have := h (fk x)
    rw [getL_cons, if_pos rfl] at this
    simp [getL] at this
  | x :: l, y :: m, hl, hm, h => by
    have hxy : fk x = fk y := by
      by_cases h1 : fk x = fk y
      · exact h1
      · exfalso
        have e1 := h (fk x)
        rw [getL_cons, if_pos rfl, getL_cons, if_neg (Ne.symm h1)] at e1
        have e2 := h (fk y)
        rw [getL_cons, if_neg h1, getL_cons, if_pos rfl] at e2
        have l1 := hm.head _ (mem_of_getF e1.symm).1
        have l2 := hl.head _ (mem_of_getF e2).1
        exact slt_asymm l1 l2
    have e : x = y := by
      have e1 := h (fk x)
      rw [getL_cons, if_pos rfl, getL_cons, if_pos hxy.symm] at e1
      exact Option.some.inj e1
    subst e
    rw [rise_extF hl.tail hm.tail fun k => ?_]
    by_cases hk : fk x = k
    · have n1 : getL fk k l = none := by
        cases hg : getL fk k l with
        | none => rfl
        | some z => obtain ⟨z1, z2⟩ := mem_of_getF hg; exact absurd (hk.trans z2.symm) (slt_ne (hl.head z z1))
      have n2 : getL fk k m = none := by
        cases hg : getL fk k m with
        | none => rfl
        | some z => obtain ⟨z1, z2⟩ := mem_of_getF hg; exact absurd (hk.trans z2.symm) (slt_ne (hm.head z z1))
      rw [n1, n2]
    · have := h k
      rwa [getL_cons, if_neg hk, getL_cons, if_neg hk] at this
theorem getL_putAll (k : Str) : ∀ (own : List File) (l : List File), (own.map fk).Nodup → getL fk k (putAll own l) = (getL fk k own).or (getL fk k l)
  | [], l, _ => rfl
  | f :: own, l, h => by
    show getL fk k (putAll own (putL fk f l)) = _
    have hn := List.nodup_cons.1 h
    rw [getL_putAll k own _ hn.2, getL_cons]
    by_cases hk : fk f = k
    · subst hk
      have h0 : getL fk (fk f) own = none := by
        cases hg : getL fk (fk f) own with
        | none => rfl
        | some z => obtain ⟨z1, z2⟩ := mem_of_getF hg; exact absurd (z2 ▸ List.mem_map_of_mem z1) hn.1
      rw [if_pos rfl, getL_put, h0]
      rfl
    · rw [if_neg hk, getL_put_ne f (fun e => hk e.symm)]
theorem rise_nodup {l : List File} (h : Rise fk l) : (l.map fk).Nodup := by
  unfold Rise at h
  exact List.pairwise_map.2 (h.imp fun h => slt_ne h)
theorem getL_all {k : Str} {own l : List File} (h : Rise fk own) : getL fk k (putAll own l) = (getL fk k own).or (getL fk k l) := getL_putAll k own l (rise_nodup h)
theorem putAll_again {own out l l0 : List File} (ho : Rise fk own) (hout : Rise fk out) (hl0 : Rise fk l0) (h : l = putAll out l0) : putAll own l = putAll (putAll own out) l0 := by
  subst h
  refine rise_extF (putAll_rise own (putAll_rise out hl0)) (putAll_rise _ hl0) fun k => ?_
  rw [getL_all ho, getL_all hout, getL_all (putAll_rise own hout), getL_all ho]
  cases getL fk k own <;> rfl
def freshK (l : List File) (K : Str → Option Rcd) (g : Grp) : Bool := match K (g.targets.headD []), outsF l g.targets [] with
  | some r, some o => sameR r (recOf g l o)
  | _, _ => false
theorem freshF_K (l : List File) (F : Str → Option (RcdV × Rcd)) (g : Grp) : freshF l F g = freshK l (fun s => (F s).map (·.2)) g := by
  unfold freshF freshK
  show _ = (match (F (g.targets.headD [])).map (·.2), outsF l g.targets [] with
    | some r, some o => sameR r (recOf g l o)
    | _, _ => false)
  cases F (g.targets.headD []) <;> cases outsF l g.targets [] <;> rfl
def runG (gs : List Grp) : List Nat → List File → (Str → Option Rcd) → Option (List File × (Str → Option Rcd))
  | [], l, K => some (l, K)
  | k :: ks, l, K => match gs[k]? with
    | none => runG gs ks l K
    | some g => if g.phony = true then runG gs ks l K
      else if (oneF l g).2 ≠ 0 then none
      else runG gs ks (putAll (oneF l g).1.1 l) (fun s => if s = g.targets.headD [] then some (oneF l g).1.2 else K s)
theorem runG_app (gs : List Grp) : ∀ (a b : List Nat) (l : List File) (K : Str → Option Rcd), runG gs (a ++ b) l K = (runG gs a l K).bind fun s => runG gs b s.1 s.2
  | [], b, l, K => rfl
  | k :: a, b, l, K => by
    show runG gs (k :: (a ++ b)) l K = _
    rw [runG, runG]
    cases gs[k]? with
    | none => exact runG_app gs a b l K
    | some g =>
      simp only
      split
      · exact runG_app gs a b l K
      · split
        · rfl
        · exact runG_app gs a b _ _
def overK (A B : Str → Option Rcd) : Str → Option Rcd := fun s => (A s).or (B s)
theorem overK_put (A B : Str → Option Rcd) (n : Str) (r : Rcd) : overK (fun s => if s = n then some r else A s) B = fun s => if s = n then some r else overK A B s := by
  funext s
  show (if s = n then some r else A s).or (B s) = if s = n then some r else (A s).or (B s)
  split <;> rfl
theorem unit_runG (gs : List Grp) : ∀ (u : List Nat) (l out l0 : List File) (K : List (Str × Rcd)) (K0 : Str → Option Rcd), Rise fk out → Rise fk l0 → l = putAll out l0 → (unitM gs u l out K).2 = 0 →
    runG gs u l (overK (klast K) K0) = some (putAll (unitM gs u l out K).1.1 l0, overK (klast (unitM gs u l out K).1.2) K0)
  | [], l, out, l0, K, K0, _, _, h, _ => by rw [runG, unitM, h]
  | k :: ks, l, out, l0, K, K0, ho, h0, h, hz => by
    rw [unitM] at hz ⊢
    rw [runG]
    cases hg : gs[k]? with
    | none => rw [hg] at hz; exact unit_runG gs ks l out l0 K K0 ho h0 h hz
    | some g =>
      rw [hg] at hz
      simp only at hz ⊢
      by_cases hp : g.phony = true
      · rw [if_pos hp] at hz ⊢
        rw [if_pos hp]
        exact unit_runG gs ks l out l0 K K0 ho h0 h hz
      · rw [if_neg hp] at hz ⊢
        rw [if_neg hp]
        by_cases hw : (oneF l g).2 ≠ 0
        · rw [if_pos hw] at hz; exact absurd hz hw
        · rw [if_neg hw] at hz ⊢
          rw [if_neg hw]
          have hr : Rise fk (oneF l g).1.1 := by
            have := (allF_fit l g).1
            unfold oneF
            split
            · exact List.Pairwise.nil
            · split
              · exact List.Pairwise.nil
              · exact this
          rw [← unit_runG gs ks _ _ l0 _ K0 (putAll_rise _ ho) h0 (putAll_again hr ho h0 h) hz, klast_snoc, overK_put]
theorem pigeon : ∀ (a b : List Str), (∀ x ∈ a, x ∈ b) → a.Nodup → b.length ≤ a.length → ∀ y ∈ b, y ∈ a
  | [], b, _, _, h, y, hy => by
    have : b = [] := List.eq_nil_of_length_eq_zero (by simpa using h)
    rw [this] at hy; exact hy
  | x :: a, b, hs, hn, h, y, hy => by
    have hn := List.nodup_cons.1 hn
    by_cases e : y = x
    · rw [e]; exact List.mem_cons_self
    · refine List.mem_cons_of_mem _ (pigeon a (b.erase x) (fun z hz => (List.mem_erase_of_ne (fun e : z = x => hn.1 (e ▸ hz))).2 (hs z (List.mem_cons_of_mem _ hz))) hn.2 ?_ y ((List.mem_erase_of_ne e).2 hy))
      rw [List.length_erase_of_mem (hs x List.mem_cons_self)]
      rw [List.length_cons] at h
      omega
theorem outsF_get {l : List File} : ∀ {ts : List Str} {out o : List File}, Rise fk out → outsF l ts out = some o → Rise fk o ∧ (∀ t ∈ ts, getB t l = true) ∧ ∀ k, getL fk k o = if k ∈ ts then some (k, getT k l) else getL fk k out
  | [], out, o, hr, h => by cases h; exact ⟨hr, (fun t ht => by cases ht), fun k => by simp⟩
  | t :: ts, out, o, hr, h => by
    rw [outsF] at h
    by_cases hb : getB t l = true
    · rw [if_pos hb] at h
      obtain ⟨h1, h2, h3⟩ := outsF_get (rise_putL hr _) h
      refine ⟨h1, fun u hu => ?_, fun k => ?_⟩
      · rcases List.mem_cons.1 hu with rfl | hu
        · exact hb
        · exact h2 u hu
      · rw [h3 k]
        by_cases hk : k ∈ ts
        · rw [if_pos hk, if_pos (List.mem_cons_of_mem _ hk)]
        · rw [if_neg hk]
          by_cases e : k = t
          · subst e
            rw [if_pos List.mem_cons_self]
            exact getL_put (key := fk) (k, getT k l) out
          · rw [if_neg (fun hm => (List.mem_cons.1 hm).elim e hk)]
            exact getL_put_ne (key := fk) (t, getT t l) e out
    · rw [if_neg hb] at h; cases h
theorem outsF_some {l : List File} : ∀ {ts : List Str} {out : List File}, (∀ t ∈ ts, getB t l = true) → ∃ o, outsF l ts out = some o
  | [], out, _ => ⟨out, rfl⟩
  | t :: ts, out, h => by
    rw [outsF, if_pos (h t List.mem_cons_self)]
    exact outsF_some fun u hu => h u (List.mem_cons_of_mem _ hu)
theorem outsF_congr {l m : List File} : ∀ {ts : List Str} {out : List File}, (∀ t ∈ ts, getL fk t l = getL fk t m) → outsF l ts out = outsF m ts out
  | [], out, _ => rfl
  | t :: ts, out, h => by
    have h1 := h t List.mem_cons_self
    rw [outsF, outsF, show getB t l = getB t m by unfold getB; rw [h1], show getT t l = getT t m by unfold getT; rw [h1], outsF_congr fun u hu => h u (List.mem_cons_of_mem _ hu)]
theorem nedF_congr {l m : List File} : ∀ {ns : List Str}, (∀ t ∈ ns, getL fk t l = getL fk t m) → nedF l ns = nedF m ns
  | [], _ => rfl
  | t :: ns, h => by
    have h1 := h t List.mem_cons_self
    have h2 := nedF_congr (l := l) (m := m) (ns := ns) fun u hu => h u (List.mem_cons_of_mem _ hu)
    unfold nedF at h2 ⊢
    rw [List.flatMap_cons, List.flatMap_cons, h2, show getB t l = getB t m by unfold getB; rw [h1], show getT t l = getT t m by unfold getT; rw [h1]]
structure GrOk (gs : List Grp) : Prop where
  ds : gs.Pairwise fun a b => ∀ t ∈ a.targets, t ∉ b.targets
  t1 : ∀ g ∈ gs, 1 ≤ g.targets.length
  od : ∀ (i : Nat) g, gs[i]? = some g → ∀ n ∈ g.needs, ∀ (j : Nat) q, gs[j]? = some q → n ∈ q.targets → j < i
theorem GrOk.apart {gs : List Grp} (h : GrOk gs) {i j : Nat} {g q : Grp} (hi : gs[i]? = some g) (hj : gs[j]? = some q) {t : Str} (h1 : t ∈ g.targets) (h2 : t ∈ q.targets) : i = j := by
  obtain ⟨li, ei⟩ := List.getElem?_eq_some_iff.1 hi
  obtain ⟨lj, ej⟩ := List.getElem?_eq_some_iff.1 hj
  rcases Nat.lt_trichotomy i j with h3 | h3 | h3
  · have := List.pairwise_iff_getElem.1 h.ds i j li lj h3 t (ei ▸ h1)
    exact absurd (ej ▸ h2) this
  · exact h3
  · have := List.pairwise_iff_getElem.1 h.ds j i lj li h3 t (ej ▸ h2)
    exact absurd (ei ▸ h1) this
theorem GrOk.head {gs : List Grp} (h : GrOk gs) {g : Grp} (hg : g ∈ gs) : g.targets.headD [] ∈ g.targets := by
  have := h.t1 g hg
  cases ht : g.targets with
  | nil => rw [ht] at this; simp at this
  | cons a r => simp
theorem oneF_ok {l : List File} {g : Grp} (h : (oneF l g).2 = 0) : ∃ own, (oneF l g).1 = (own, recOf g l own) ∧ Rise fk own ∧ ∀ k, k ∈ own.map fk ↔ k ∈ g.targets := by
  unfold oneF at h ⊢
  by_cases h1 : (allF l g).2 ≠ 0
  · rw [if_pos h1] at h; exact absurd h h1
  · rw [if_neg h1] at h ⊢
    by_cases h2 : 300 < (recT (recOf g l (allF l g).1)).length
    · rw [if_pos h2] at h; cases h
    · rw [if_neg h2]
      have hr := (allF_fit l g).1
      have hs : ∀ k ∈ (allF l g).1.map fk, k ∈ g.targets := fun k hk => by
        obtain ⟨f, hf, rfl⟩ := List.mem_map.1 hk
        have := allF_targets l g f hf
        simpa [inS] using this
      refine ⟨_, rfl, hr, fun k => ⟨hs k, fun hk => ?_⟩⟩
      have hl : g.targets.length ≤ ((allF l g).1.map fk).length := by
        rw [List.length_map]
        have h1 : (allF l g).2 = 0 := by simpa using h1
        unfold allF at h1 ⊢
        split at h1
        · split at h1
          · cases h1
          · rename_i a b
            rw [if_pos a, if_neg b]
            exact Nat.le_of_not_lt b
        · rename_i a; exact absurd h1 a
      exact pigeon _ _ hs (rise_nodup hr) hl k hk
def OrdS (gs : List Grp) (S : List Nat) : Prop := ∀ (a : List Nat) (i : Nat) (b : List Nat), S = a ++ i :: b → ∀ g, gs[i]? = some g → g.phony = false → ∀ n ∈ g.needs, ∀ (j : Nat) q, gs[j]? = some q → q.phony = false → n ∈ q.targets → j ∈ a
def DoneG (gs : List Grp) (D : List Nat) (l : List File) (K : Str → Option Rcd) : Prop := ∀ i ∈ D, ∀ g, gs[i]? = some g → g.phony = false → freshK l K g = true
theorem getL_none_of {own : List File} {k : Str} (h : k ∉ own.map fk) : getL fk k own = none := by
  cases hg : getL fk k own with
  | none => rfl
  | some z => obtain ⟨z1, z2⟩ := mem_of_getF hg; exact absurd (z2 ▸ List.mem_map_of_mem z1) h
theorem runG_fresh {gs : List Grp} (hok : GrOk gs) : ∀ (seq D : List Nat) (l : List File) (K : Str → Option Rcd) (l' : List File) (K' : Str → Option Rcd), (D ++ seq).Nodup → OrdS gs (D ++ seq) → DoneG gs D l K → runG gs seq l K = some (l', K') → DoneG gs (D ++ seq) l' K'
  | [], D, l, K, l', K', _, _, hd, h => by
    rw [runG] at h
    cases h
    rw [List.append_nil]; exact hd
  | k :: ks, D, l, K, l', K', hn, ho, hd, h => by
    have e : D ++ k :: ks = (D ++ [k]) ++ ks := by rw [List.append_assoc]; rfl
    rw [runG] at h
    rw [e] at hn ho ⊢
    have hkD : k ∉ D := by
      have := (List.nodup_append.1 hn).1
      intro hk
      exact (List.nodup_append.1 this).2.2 k hk k (by simp) rfl
    cases hg : gs[k]? with
    | none =>
      rw [hg] at h
      refine runG_fresh hok ks (D ++ [k]) l K l' K' hn ho (fun i hi g hg' hp => ?_) h
      rcases List.mem_append.1 hi with hi | hi
      · exact hd i hi g hg' hp
      · obtain rfl := List.mem_singleton.1 hi
        rw [hg] at hg'; cases hg'
    | some g =>
      rw [hg] at h
      simp only at h
      by_cases hp : g.phony = true
      · rw [if_pos hp] at h
        refine runG_fresh hok ks (D ++ [k]) l K l' K' hn ho (fun i hi q hg' hq => ?_) h
        rcases List.mem_append.1 hi with hi | hi
        · exact hd i hi q hg' hq
        · obtain rfl := List.mem_singleton.1 hi
          rw [hg] at hg'
          cases hg'
          rw [hp] at hq; cases hq
      · rw [if_neg hp] at h
        have hp : g.phony = false := by simpa using hp
        by_cases hw : (oneF l g).2 ≠ 0
        · rw [if_pos hw] at h; cases h
        rw [if_neg hw] at h
        obtain ⟨own, h1, hr, hnm⟩ := oneF_ok (show (oneF l g).2 = 0 by simpa using hw)
        rw [h1] at h
        have hgm := List.mem_of_getElem? hg
        have hfar : ∀ t, t ∉ g.targets → getL fk t (putAll own l) = getL fk t l := fun t ht => by
          rw [getL_all hr, getL_none_of (fun h => ht ((hnm t).1 h))]
          rfl
        refine runG_fresh hok ks (D ++ [k]) _ _ l' K' hn ho (fun i hi q hg' hq => ?_) h
        rcases List.mem_append.1 hi with hi | hi
        · have hne : i ≠ k := fun e => hkD (e ▸ hi)
          have hd1 := hd i hi q hg' hq
          have hqm := List.mem_of_getElem? hg'
          unfold freshK at hd1 ⊢
          have hh : q.targets.headD [] ≠ g.targets.headD [] := fun e => hne (hok.apart hg' hg (hok.head hqm) (by rw [e]; exact hok.head hgm))
          have ht : ∀ t ∈ q.targets, t ∉ g.targets := fun t h1 h2 => hne (hok.apart hg' hg h1 h2)
          have hne2 : ∀ t ∈ q.needs, t ∉ g.targets := fun t h1 h2 => by
            obtain ⟨a, b, hab⟩ := List.append_of_mem hi
            have := ho a i (b ++ [k] ++ ks) (by rw [hab]; simp) q hg' hq t h1 k g hg hp h2
            exact hkD (by rw [hab]; exact List.mem_append_left _ this)
          show (match (if q.targets.headD [] = g.targets.headD [] then some (recOf g l own) else K (q.targets.headD [])), outsF (putAll own l) q.targets [] with
            | some r, some o => sameR r (recOf q (putAll own l) o)
            | _, _ => false) = true
          rw [if_neg hh, outsF_congr (m := l) fun t h => hfar t (ht t h)]
          have hned : nedF (putAll own l) q.needs = nedF l q.needs := nedF_congr fun t h => hfar t (hne2 t h)
          unfold recOf at hd1 ⊢
          rw [hned]
          exact hd1
        · obtain rfl := List.mem_singleton.1 hi
          rw [hg] at hg'
          cases hg'
          have hob : ∀ t ∈ g.targets, ∃ f, getL fk t own = some f ∧ getL fk t (putAll own l) = some f := fun t ht => by
            obtain ⟨f, hf, e⟩ := List.mem_map.1 ((hnm t).2 ht)
            have h2 : getL fk t own ≠ none := fun e2 => by
              unfold getL at e2
              have := List.find?_eq_none.1 e2 f hf
              simp at this
              exact this e
            obtain ⟨x, hx⟩ := Option.ne_none_iff_exists'.1 h2
            exact ⟨x, hx, by rw [getL_all hr, hx]; rfl⟩
          obtain ⟨o, ho'⟩ := outsF_some (l := putAll own l) (ts := g.targets) (out := []) fun t ht => by
            obtain ⟨f, _, h2⟩ := hob t ht
            unfold getB; rw [h2]; rfl
          obtain ⟨o1, _, o3⟩ := outsF_get List.Pairwise.nil ho'
          have heq : o = own := rise_extF o1 hr fun t => by
            rw [o3 t]
            by_cases ht : t ∈ g.targets
            · rw [if_pos ht]
              obtain ⟨f, e1, e2⟩ := hob t ht
              rw [e1]
              have := (mem_of_getF e1).2
              unfold getT
              rw [e2, ← this]
              rfl
            · rw [if_neg ht, getL_none_of (fun h => ht ((hnm t).1 h))]
              rfl
          subst heq
          unfold freshK
          show (match (if g.targets.headD [] = g.targets.headD [] then some (recOf g l o) else K (g.targets.headD [])), outsF (putAll o l) g.targets [] with
            | some r, some o' => sameR r (recOf g (putAll o l) o')
            | _, _ => false) = true
          rw [if_pos rfl, ho']
          have hned : nedF (putAll o l) g.needs = nedF l g.needs := nedF_congr fun t h => hfar t fun h2 => by
            have := hok.od _ g hg t h _ g hg h2
            omega
          show sameR (recOf g l o) (recOf g (putAll o l) o) = true
          unfold recOf
          rw [hned]
          exact sameR_self _
end Go.Proofs.YtnhaekifcieeoaaGreatDoor
