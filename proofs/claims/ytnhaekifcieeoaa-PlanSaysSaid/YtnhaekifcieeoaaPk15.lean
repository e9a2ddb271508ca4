/- Put together: Stl, Sun, Pl3, Plc. -/
import Derived.Test.YtnhaekifcieeoaaPk09
import Derived.Test.YtnhaekifcieeoaaPk14
import Derived.Test.YtnhaekifcieeoaaPk10
namespace Go.Proofs.Ytnhaekifcieeoaa
open Go Go.RowKit
abbrev boolT : TypeId := 4
abbrev boV (st : List Bool) : Array Value := (st.map Value.bool).toArray
theorem boV_get {st : List Bool} {i : Nat} (h : i < st.length) : (boV st)[i]? = some (.bool (st.getD i false)) := by
  simp [boV, List.getD_eq_getElem?_getD, List.getElem?_eq_getElem h]
theorem boV_set (st : List Bool) (i : Nat) (b : Bool) : (boV st).setIfInBounds i (.bool b) = boV (st.set i b) := by
  simp [boV, List.map_set]
theorem Cs.bos {w : World} {g : Nat} {st : List Bool} (h : Cs w g boolT (boV st)) (i : Nat) (b : Bool) : Cs (w.setCell ⟨g, i, none⟩ (.bool b)) g boolT (boV (st.set i b)) := by
  have := h.set_ i (.bool b)
  rwa [boV_set] at this
theorem bool_info : (Try.prog.info? boolT).map (fun i => (i.zero, i.size, i.bytes)) = some (some (.bool false), 1, 1) := by kernel_rfl
theorem make_bools (n : Nat) (hn : n ≤ 1000000) (w : World) : (Instr.makeSlice 42 (.int .i64 (n : Int)) (.int .i64 (n : Int))).run Try.prog w =
    .ok (.slice (some ⟨w.heap.size, 0, none⟩) n n) (w.alloc (.cells (boV (List.replicate n false)) boolT)) := by
  obtain ⟨i0, hi, hz, h1, h2⟩ := info_parts bool_info
  have hb : (i0.bytes : Int) * (n : Int) ≤ 281474976710656 := by rw [h2]; omega
  have hr := run_make (P := Try.prog) w 42 boolT i0 (.bool false) Try.underlying42 hi hz .i64 .i64 n n (by omega) (by omega) hb (by omega)
  simp only [Int.toNat_natCast] at hr
  rw [hr, h1]
  have : madeCells (Value.bool false).cells (n * 1) = boV (List.replicate n false) := by
    apply Array.ext
    · simp [madeCells, boV]
    · intro i h1 h2
      simp [madeCells, Value.cells, Nat.mod_one, boV]
  rw [this]
def nedB (gs : List Grp) (st : List Bool) (i : Nat) (n : Str) : Bool := match makerF (gs.take i) n with
  | some k => st.getD k false
  | none => false
def staleAt (l : List File) (F : Str → Option (RcdV × Rcd)) (gs : List Grp) (st : List Bool) (i : Nat) (G : Grp) : Bool := (!G.phony && !freshF l F G) || G.needs.any (nedB gs st i)
def staleTo (l : List File) (F : Str → Option (RcdV × Rcd)) (gs : List Grp) : Nat → List Bool
  | 0 => []
  | i + 1 => staleTo l F gs i ++ [match gs[i]? with
    | some G => staleAt l F gs (staleTo l F gs i) i G
    | none => false]
abbrev staleF (l : List File) (F : Str → Option (RcdV × Rcd)) (gs : List Grp) : List Bool := staleTo l F gs gs.length
theorem staleTo_len (l : List File) (F : Str → Option (RcdV × Rcd)) (gs : List Grp) : ∀ i, (staleTo l F gs i).length = i
  | 0 => rfl
  | i + 1 => by rw [staleTo, List.length_append, staleTo_len l F gs i]; rfl
theorem any_succ {ns : List Str} {k : Nat} {t : Str} (p : Str → Bool) (ht : ns[k]? = some t) : (ns.take (k + 1)).any p = ((ns.take k).any p || p t) := by
  rw [List.take_add_one, ht, List.any_append]
  simp
theorem mid_set {A : List Bool} {n : Nat} {x y : Bool} : (A ++ x :: List.replicate n false).set A.length y = A ++ y :: List.replicate n false := by
  rw [List.set_append, if_neg (Nat.lt_irrefl _)]
  simp
theorem mid_get {A : List Bool} {n : Nat} {x : Bool} : (A ++ x :: List.replicate n false).getD A.length false = x := by
  simp [List.getD_eq_getElem?_getD]
theorem mid_low {A B : List Bool} {q : Nat} (h : q < A.length) : (A ++ B).getD q false = A.getD q false := by
  simp [List.getD_eq_getElem?_getD, List.getElem?_append_left h]
theorem SlR.bos {w : World} {g n : Nat} {st : List Bool} (h : Cs w g boolT (boV st)) (hl : st.length = n) : SlR boF w (some ⟨g, 0, none⟩) n st := by
  refine ⟨hl, fun _ => ⟨g, 0, rfl, h.lt, fun k x hk j u hu => ?_⟩⟩
  match j, hu with
  | 0, hu =>
    injection hu with hu
    obtain ⟨h1, h2⟩ := List.getElem?_eq_some_iff.1 hk
    rw [show (0 + k * boF.size + 0 : Nat) = k by show 0 + k * 1 + 0 = k; omega, h.cell k, boV_get h1, ← hu, List.getD_eq_getElem?_getD, hk]
    rfl
set_option maxRecDepth 100000 in
set_option maxHeartbeats 8000000 in
theorem Stale_c {w : World} {A : Option Addr} {c : Nat} {os : List (RulA × Grp)} {gs : List Grp} (hG : GrpsR w A os gs) (hgs : gs.length ≤ 10) (hcap : gs.length ≤ c) (hb : ∀ g ∈ gs, GB3 g ∧ 1 ≤ g.targets.length ∧ (g.targets.headD []).length ≤ 1000000)
    {m : Option Nat} {F : Str → Option (RcdV × Rcd)} (hM : KpM w m (kpF F)) (hF : KpR w F) {lA : Option Addr} {lc : Nat} {l : List File} (hl : SlR fileF w lA l.length l) (hln : l.length ≤ 1000) (hr : Rise fk l) :
    Calls Try.prog 21 #[.slice A gs.length c, .slice lA l.length lc, .map m] w fun e w' => ∃ B d, e = .returned (.slice B gs.length d) ∧ SlR boF w' B gs.length (staleF l F gs) ∧ Ext w w' := by
  have HG := Lib.hid hG
  have HB := Lib.hid hb
  have hmk := make_bools gs.length (by omega)
  obtain ⟨w1, hw1⟩ : ∃ u, u = w.alloc (.cells (boV (List.replicate gs.length false)) boolT) := ⟨_, rfl⟩
  obtain ⟨g5, hg5⟩ : ∃ g, g = w.heap.size := ⟨_, rfl⟩
  have X1 : Hid (Ext w w1) := by rw [hw1]; exact (Only.refl No w).alloc _
  have C1 : Hid (Cs w1 g5 boolT (boV (List.replicate gs.length false))) := by rw [hw1, hg5]; exact Cs.new _ _ _
  have HG5 : Hid (w.heap.size ≤ g5) := Nat.le_of_eq hg5.symm
  have HFr : Hid (∀ u, Ext w u → ∀ (x : RulA × Grp), x ∈ os → Calls Try.prog 42 #[grpW x, .slice lA l.length lc, .map m] u fun e w' => e = .returned (.bool (freshF l F x.2)) ∧ Ext u w') := fun u hu x hx => by
    obtain ⟨a, G⟩ := x
    have h1 := (hG.ext hu).rr _ hx
    have hm : G ∈ gs := by rw [← hG.om]; exact List.mem_map_of_mem hx
    obtain ⟨⟨b1, b2, b3⟩, b4, b5⟩ := hb G hm
    have d1 : G.targets.length ≤ 100 := by omega
    have d2 : G.needs.length ≤ 1000 := by omega
    have d3 : G.cmds.length ≤ 1000 := by omega
    exact fresh_c (hM.ext hu) (hF.ext hu) h1.1 h1.2.1 h1.2.2 b4 d1 d2 d3 b5 (hl.ext hu) hln hr
  clear hG hb hM hF hl hr
  go_enter Try.func21, Try.ntmps21
  go_upto_region 2 with fail
  rw [← hw1, ← hg5]
  clear hw1 hg5 hmk
  go_wp2_with fail
  go_loopw [18] (fun i wr => ∃ k : Nat, k ≤ gs.length ∧ i = .int .i64 k ∧ Cs wr g5 boolT (boV (staleTo l F gs k ++ List.replicate (gs.length - k) false)) ∧ Ext w wr) (fun i _ => gs.length - (intOf i).toNat)
  case atStart => exact ⟨0, Nat.zero_le _, rfl, C1.out, X1.out⟩
  case round =>
    clear C1 X1
    obtain ⟨i, hi, rfl, hC, hx⟩ := hrel
    have C0 := Lib.hid hC
    have XR := Lib.hid hx
    clear hC hx
    by_cases hlt : i < gs.length
    · obtain ⟨bg, o, ⟨⟨tA, tc, nA, nc, cA, cc⟩, G⟩, rfl, hox, c0, c1, c2, c3⟩ := grps_get HG.out.row hlt
      have hgi : gs[i]? = some G := by rw [← HG.out.om, List.getElem?_map, hox]; rfl
      have HN : Hid (SlR strF w nA G.needs.length G.needs) := (HG.out.rr _ (List.mem_of_getElem? hox)).2.1
      have hnn : G.needs.length ≤ 3 := (HB.out G (List.mem_of_getElem? hgi)).1.2.1
      have HF2 : Hid (∀ u, Ext w u → Calls Try.prog 42 #[.agg #[.slice tA G.targets.length tc, .slice nA G.needs.length nc, .slice cA G.cmds.length cc, .bool G.phony], .slice lA l.length lc, .map m] u fun e w' => e = .returned (.bool (freshF l F G)) ∧ Ext u w') := fun u hu => HFr.out u hu _ (List.mem_of_getElem? hox)
      have HMk : Hid (∀ u, Ext w u → ∀ t, Calls Try.prog 43 #[.slice (some ⟨bg, o, none⟩) i c, S t] u fun e w' => e = .returned (.int .i64 (idxI (makerF (gs.take i) t))) ∧ Ext u w') := fun u hu t => by
        have hl : (gs.take i).length = i := by rw [List.length_take]; omega
        have h1 : GrpsR u (some ⟨bg, o, none⟩) (os.take i) (gs.take i) := by
          refine ⟨?_, fun x hx => (HG.out.ext hu).rr x (List.mem_of_mem_take hx), ?_⟩
          · rw [hl]; exact (HG.out.row.ext hu).take (Nat.le_of_lt hlt)
          · rw [List.map_take, HG.out.om]
        have h2 := Maker_c (c := c) h1 (by omega) (fun g hg => by have := (HB.out g (List.mem_of_mem_take hg)).1.1; omega) t
        rw [hl] at h2
        exact h2
      obtain ⟨ST, hST⟩ : ∃ s, s = staleTo l F gs i := ⟨_, rfl⟩
      have HSl : Hid (ST.length = i) := by rw [hST]; exact staleTo_len _ _ _ _
      have HSn : Hid (staleTo l F gs (i + 1) = ST ++ [(!G.phony && !freshF l F G) || G.needs.any (nedB gs ST i)]) := by rw [Hid, staleTo, hgi, hST]; rfl
      have hrn : List.replicate (gs.length - i) false = false :: List.replicate (gs.length - (i + 1)) false := by rw [show gs.length - i = gs.length - (i + 1) + 1 by omega]; rfl
      rw [← hST, hrn] at C0
      have HNl : Hid (∀ x, (ST ++ x :: List.replicate (gs.length - (i + 1)) false).length = gs.length) := fun x => by rw [List.length_append, List.length_cons, List.length_replicate, HSl.out]; omega
      have q0 : wr.cell? ⟨bg, o + i * 4, none⟩ = some (.slice tA G.targets.length tc) := c0 ⟨wr, XR.out⟩
      have q1 : wr.cell? ⟨bg, o + i * 4 + 1, none⟩ = some (.slice nA G.needs.length nc) := c1 ⟨wr, XR.out⟩
      have q2 : wr.cell? ⟨bg, o + i * 4 + 2, none⟩ = some (.slice cA G.cmds.length cc) := c2 ⟨wr, XR.out⟩
      have q3 : wr.cell? ⟨bg, o + i * 4 + 3, none⟩ = some (.bool G.phony) := c3 ⟨wr, XR.out⟩
      clear c0 c1 c2 c3 hox hgi hST hrn
      go_upto_region 5 with fail
      obtain ⟨w2, hw2⟩ : ∃ u, u = wr.alloc (.cells #[.slice tA G.targets.length tc, .slice nA G.needs.length nc, .slice cA G.cmds.length cc, .bool G.phony] grpT) := ⟨_, rfl⟩
      obtain ⟨b7, hb7⟩ : ∃ g, g = wr.heap.size := ⟨_, rfl⟩
      rw [← hw2, ← hb7]
      have x2 : Ext wr w2 := by rw [hw2]; exact (Only.refl No _).alloc _
      have B7 : Hid (Cs w2 b7 grpT #[.slice tA G.targets.length tc, .slice nA G.needs.length nc, .slice cA G.cmds.length cc, .bool G.phony]) := by rw [hw2, hb7]; exact Cs.new _ _ _
      have C2 := Lib.hid (C0.out.keep x2 id)
      have X2 := Lib.hid (XR.out.then_ext x2)
      have y0 : w2.cell? ⟨b7, 0, none⟩ = some (.slice tA G.targets.length tc) := B7.out.cell 0
      have y1 : w2.cell? ⟨b7, 1, none⟩ = some (.slice nA G.needs.length nc) := B7.out.cell 1
      have y2 : w2.cell? ⟨b7, 2, none⟩ = some (.slice cA G.cmds.length cc) := B7.out.cell 2
      have y3 : w2.cell? ⟨b7, 3, none⟩ = some (.bool G.phony) := B7.out.cell 3
      have HFw := HF2.out w2 X2.out
      clear hw2 hb7 x2 q0 q1 q2 q3 C0 HF2
      have z0 : w2.cell? ⟨g5, i, none⟩ = some (.bool false) := by rw [C2.out.cell i, boV_get (by rw [HNl.out]; exact hlt), show i = ST.length from HSl.out.symm, mid_get]
      have z1 := C2.out.frozen i
      obtain ⟨fr, hfr⟩ : ∃ b, b = freshF l F G := ⟨_, rfl⟩
      rw [← hfr] at HFw HSn
      have HFW := Lib.hid HFw
      obtain ⟨ph, hph⟩ : ∃ b, b = G.phony := ⟨_, rfl⟩
      rw [← hph] at HSn B7 HFW y3
      have H5 : Hid (∀ w5, Ext w2 w5 → ∀ b, Cs (w5.setCell ⟨g5, i, none⟩ (.bool b)) g5 boolT (boV (ST ++ b :: List.replicate (gs.length - (i + 1)) false)) ∧ Ext w (w5.setCell ⟨g5, i, none⟩ (.bool b)) ∧ Cs (w5.setCell ⟨g5, i, none⟩ (.bool b)) b7 grpT #[.slice tA G.targets.length tc, .slice nA G.needs.length nc, .slice cA G.cmds.length cc, .bool ph]) := fun w5 hx5 b => by
        have h6 := (C2.out.keep hx5 id).bos i b
        have O6 : Only (fun q => q = g5) w5 (w5.setCell ⟨g5, i, none⟩ (.bool b)) := (Only.refl _ _).at_ i _
        refine ⟨?_, (X2.out.then_ext hx5).trans O6 fun q hq e => by have e : q = g5 := e; have := HG5.out; omega, (B7.out.keep hx5 id).keep O6 fun e => Cs.ne_ B7.out C2.out (by decide) e⟩
        have e1 : (ST ++ false :: List.replicate (gs.length - (i + 1)) false).set i b = ST ++ b :: List.replicate (gs.length - (i + 1)) false := by rw [← HSl.out]; exact mid_set
        rw [← e1]
        exact h6
      clear hfr HFw hph
      have v0 : ∀ ξ : X w2 No, ξ.v.cell? ⟨b7, 0, none⟩ = some (.slice tA G.targets.length tc) := B7.out.x id 0
      have v1 : ∀ ξ : X w2 No, ξ.v.cell? ⟨b7, 1, none⟩ = some (.slice nA G.needs.length nc) := B7.out.x id 1
      have v2 : ∀ ξ : X w2 No, ξ.v.cell? ⟨b7, 2, none⟩ = some (.slice cA G.cmds.length cc) := B7.out.x id 2
      have v3 : ∀ ξ : X w2 No, ξ.v.cell? ⟨b7, 3, none⟩ = some (.bool ph) := B7.out.x id 3
      have v4 : ∀ ξ : X w2 No, ξ.v.cell? ⟨g5, i, none⟩ = some (.bool false) := fun ξ => by rw [(C2.out.keep ξ.h id).cell i, ← C2.out.cell i, z0]
      have v5 : ∀ ξ : X w2 No, ξ.v.frozen? ⟨g5, i, none⟩ = false := fun ξ => (C2.out.keep ξ.h id).frozen i
      have HSn2 : Hid (∀ x, x = (!ph && !fr) → staleTo l F gs (i + 1) = ST ++ [x || G.needs.any (nedB gs ST i)]) := fun x e => by rw [e]; exact HSn.out
      clear HSn C2 XR X2
      cases ph
      case' true =>
        go_upto_region 5 with fail
        refine Mix.wp_plain [13] (Cl w2 No) (Cl.of (Only.refl _ _)) ?_
        (repeat' (first | (refine Mix.lex_quiet0 rfl rfl rfl ?_; intro K hK; go_big_quiet_op; go_big_quiet_on) | (refine Mix.lex_quietG rfl rfl rfl (by with_reducible rfl) rfl rfl ?_; intro K hK; go_big_quiet_op; go_big_quiet_on) | ((first | refine Mix.lex_skipT rfl rfl rfl (by with_reducible rfl) ?_ | refine Mix.lex_skipF rfl rfl rfl (by with_reducible rfl) ?_ | refine Mix.lex_skipU rfl rfl rfl (by with_reducible rfl) ?_); simp only [Act.put, List.setIfInBounds_toArray, List.set_cons_succ, List.set_cons_zero]) | (refine Mix.lex_part rfl rfl rfl rfl (fun hq => ?_) (fun hq => ?_) <;> (fail_if_success (guard_hyp hq :ₛ true = true)) <;> (fail_if_success (guard_hyp hq :ₛ false = false)) <;> first | (exfalso; cases hq; done) | (exfalso; simp only [decide_eq_true_eq, decide_eq_false_iff_not, beq_iff_eq, beq_eq_false_iff_ne, ne_eq, Int.not_lt, Int.not_le] at hq; omega) | simp only [Act.put, List.setIfInBounds_toArray, List.set_cons_succ, List.set_cons_zero])))
        ((first | refine Mix.lex_goes0 rfl rfl ?_ | refine Mix.lex_goesG rfl rfl rfl (by with_reducible rfl) rfl ?_); intro K hK; go_simp)
        refine hK _ _ (fun hne => absurd rfl hne) ?_
        clear hK K
        simp only [Act.put, List.setIfInBounds_toArray, List.set_cons_succ, List.set_cons_zero]
        refine Mix.lex_nil ?_
        obtain ⟨x, hx⟩ : ∃ x, x = false := ⟨_, rfl⟩
        have H6 := H5.out w2 (Only.refl _ _) x
        obtain ⟨w6, hw6⟩ : ∃ u, u = w2.setCell ⟨g5, i, none⟩ (.bool x) := ⟨_, rfl⟩
      case' false =>
        go_upto_region 5 with fail
        refine Mix.wp_plain [9, 13] (Cl w2 No) (Cl.of (Only.refl _ _)) ?_
        (repeat' (first | (refine Mix.lex_quiet0 rfl rfl rfl ?_; intro K hK; go_big_quiet_op; go_big_quiet_on) | (refine Mix.lex_quietG rfl rfl rfl (by with_reducible rfl) rfl rfl ?_; intro K hK; go_big_quiet_op; go_big_quiet_on) | ((first | refine Mix.lex_skipT rfl rfl rfl (by with_reducible rfl) ?_ | refine Mix.lex_skipF rfl rfl rfl (by with_reducible rfl) ?_ | refine Mix.lex_skipU rfl rfl rfl (by with_reducible rfl) ?_); simp only [Act.put, List.setIfInBounds_toArray, List.set_cons_succ, List.set_cons_zero]) | (refine Mix.lex_part rfl rfl rfl rfl (fun hq => ?_) (fun hq => ?_) <;> (fail_if_success (guard_hyp hq :ₛ true = true)) <;> (fail_if_success (guard_hyp hq :ₛ false = false)) <;> first | (exfalso; cases hq; done) | (exfalso; simp only [decide_eq_true_eq, decide_eq_false_iff_not, beq_iff_eq, beq_eq_false_iff_ne, ne_eq, Int.not_lt, Int.not_le] at hq; omega) | simp only [Act.put, List.setIfInBounds_toArray, List.set_cons_succ, List.set_cons_zero])))
        ((first | refine Mix.lex_goes0 rfl rfl ?_ | refine Mix.lex_goesG rfl rfl rfl (by with_reducible rfl) rfl ?_); intro K hK; go_simp)
        refine HFW.out.mono ?_
        rintro e u ⟨rfl, hu⟩
        refine ⟨_, rfl, hK _ _ (fun _ => Cl.of hu) ?_⟩
        clear hK K
        obtain ⟨x, hx⟩ : ∃ x, x = !fr := ⟨_, rfl⟩
        have H6 := H5.out u hu x
        obtain ⟨w6, hw6⟩ : ∃ z, z = u.setCell ⟨g5, i, none⟩ (.bool x) := ⟨_, rfl⟩
        rw [← hw6] at H6
        have HH6 := Lib.hid H6
        have Hw6 := Lib.hid hw6
        have Hx := Lib.hid hx
        clear H6 hw6 hx
        obtain ⟨ξu, rfl⟩ : ∃ ξ : X w2 No, u = ξ.v := ⟨⟨u, hu⟩, rfl⟩
        simp only [Act.put, List.setIfInBounds_toArray, List.set_cons_succ, List.set_cons_zero]
        (repeat' (first | (refine Mix.lex_quiet0 rfl rfl rfl ?_; intro K hK; go_big_quiet_op; go_big_quiet_on) | (refine Mix.lex_quietG rfl rfl rfl (by with_reducible rfl) rfl rfl ?_; intro K hK; go_big_quiet_op; go_big_quiet_on) | ((first | refine Mix.lex_skipT rfl rfl rfl (by with_reducible rfl) ?_ | refine Mix.lex_skipF rfl rfl rfl (by with_reducible rfl) ?_ | refine Mix.lex_skipU rfl rfl rfl (by with_reducible rfl) ?_); simp only [Act.put, List.setIfInBounds_toArray, List.set_cons_succ, List.set_cons_zero]) | (refine Mix.lex_part rfl rfl rfl rfl (fun hq => ?_) (fun hq => ?_) <;> (fail_if_success (guard_hyp hq :ₛ true = true)) <;> (fail_if_success (guard_hyp hq :ₛ false = false)) <;> first | (exfalso; cases hq; done) | (exfalso; simp only [decide_eq_true_eq, decide_eq_false_iff_not, beq_iff_eq, beq_eq_false_iff_ne, ne_eq, Int.not_lt, Int.not_le] at hq; omega) | simp only [Act.put, List.setIfInBounds_toArray, List.set_cons_succ, List.set_cons_zero])))
        ((first | refine Mix.lex_goes0 rfl rfl ?_ | refine Mix.lex_goesG rfl rfl rfl (by with_reducible rfl) rfl ?_); intro K hK; go_simp)
        refine hK _ _ (fun hne => absurd rfl hne) ?_
        clear hK K
        simp only [Act.put, List.setIfInBounds_toArray, List.set_cons_succ, List.set_cons_zero]
        refine Mix.lex_nil ?_
        have hw6 := Hw6.out
        have hx := Hx.out
        have H6 := HH6.out
        rw [hw6] at H6
      all_goals
        have HSm := Lib.hid (HSn2.out x hx)
        rw [← hw6] at H6
        rw [hx] at hw6
        rw [← hw6]
        have C6 := Lib.hid H6.1
        have X6 := Lib.hid H6.2.1
        have k1 : w6.cell? ⟨b7, 1, none⟩ = some (.slice nA G.needs.length nc) := H6.2.2.cell 1
        clear hw6 hx H6 H5 HSn2 HFW v0 v1 v2 v3 v4 v5 z0 z1 y0 y1 y2 y3 B7
        go_wp2_with fail
        go_loopw [39] (fun j wr => ∃ k : Nat, k ≤ G.needs.length ∧ j = .int .i64 k ∧ Cs wr g5 boolT (boV (ST ++ (x || (G.needs.take k).any (nedB gs ST i)) :: List.replicate (gs.length - (i + 1)) false)) ∧ Ext w wr) (fun j _ => G.needs.length - (intOf j).toNat)
        case atStart => exact ⟨0, Nat.zero_le _, rfl, by rw [List.take_zero, List.any_nil, Bool.or_false]; exact C6.out, X6.out⟩
        case round =>
          clear C6 X6 k1
          obtain ⟨k, hk, rfl, hC, hx⟩ := hrel
          have C4 := Lib.hid hC
          have XR := Lib.hid hx
          clear hC hx
          by_cases hlk : k < G.needs.length
          · obtain ⟨bn, on, t, rfl, ht, ct⟩ := strs_get HN.out hlk
            have e1 : wr.cell? ⟨bn, on + k, none⟩ = some (S t) := ct ⟨wr, XR.out⟩
            have HTk := Lib.hid (any_succ (nedB gs ST i) ht)
            have HM2 := Lib.hid (HMk.out wr XR.out t)
            clear ht ct
            obtain ⟨cu, hcu⟩ : ∃ b, b = (x || (G.needs.take k).any (nedB gs ST i)) := ⟨_, rfl⟩
            rw [← hcu] at C4
            have HCu : Hid ((x || (G.needs.take (k + 1)).any (nedB gs ST i)) = (cu || nedB gs ST i t)) := by rw [Hid, HTk.out, hcu, Bool.or_assoc]
            clear hcu HTk
            go_upto_region 10 with (refine HM2.out.mono ?_; rintro e u5 ⟨rfl, hx⟩)
            have X5 := Lib.hid (XR.out.then_ext hx)
            have C5 := Lib.hid (C4.out.keep hx id)
            clear hx HM2 e1 C4 XR
            have y0 : u5.cell? ⟨g5, i, none⟩ = some (.bool cu) := by rw [C5.out.cell i, boV_get (by rw [HNl.out]; exact hlt), show i = ST.length from HSl.out.symm, mid_get]
            have v0 : ∀ ξ : X u5 No, ξ.v.cell? ⟨g5, i, none⟩ = some (.bool cu) := fun ξ => by rw [(C5.out.keep ξ.h id).cell i, ← C5.out.cell i, y0]
            have v1 : ∀ ξ : X u5 No, ξ.v.frozen? ⟨g5, i, none⟩ = false := fun ξ => (C5.out.keep ξ.h id).frozen i
            have z1 := C5.out.frozen i
            have H8 : Hid (∀ w5, Ext u5 w5 → ∀ b, Cs (w5.setCell ⟨g5, i, none⟩ (.bool b)) g5 boolT (boV (ST ++ b :: List.replicate (gs.length - (i + 1)) false)) ∧ Ext w (w5.setCell ⟨g5, i, none⟩ (.bool b))) := fun w5 hx5 b => by
              have h6 := (C5.out.keep hx5 id).bos i b
              have O6 : Only (fun q => q = g5) w5 (w5.setCell ⟨g5, i, none⟩ (.bool b)) := (Only.refl _ _).at_ i _
              refine ⟨?_, (X5.out.then_ext hx5).trans O6 fun q hq e => by have e : q = g5 := e; have := HG5.out; omega⟩
              have e1 : (ST ++ cu :: List.replicate (gs.length - (i + 1)) false).set i b = ST ++ b :: List.replicate (gs.length - (i + 1)) false := by rw [← HSl.out]; exact mid_set
              rw [← e1]
              exact h6
            cases cu with
            | true =>
              have HCv : Hid ((x || (G.needs.take (k + 1)).any (nedB gs ST i)) = true) := by rw [Hid, HCu.out, Bool.true_or]
              go_upto_region 10 with fail
              refine Mix.wp_plain [17] (Cl u5 No) (Cl.of (Only.refl _ _)) ?_
              (repeat' (first | (refine Mix.lex_quiet0 rfl rfl rfl ?_; intro K hK; go_big_quiet_op; go_big_quiet_on) | (refine Mix.lex_quietG rfl rfl rfl (by with_reducible rfl) rfl rfl ?_; intro K hK; go_big_quiet_op; go_big_quiet_on) | ((first | refine Mix.lex_skipT rfl rfl rfl (by with_reducible rfl) ?_ | refine Mix.lex_skipF rfl rfl rfl (by with_reducible rfl) ?_ | refine Mix.lex_skipU rfl rfl rfl (by with_reducible rfl) ?_); simp only [Act.put, List.setIfInBounds_toArray, List.set_cons_succ, List.set_cons_zero]) | (refine Mix.lex_part rfl rfl rfl rfl (fun hq => ?_) (fun hq => ?_) <;> (fail_if_success (guard_hyp hq :ₛ true = true)) <;> (fail_if_success (guard_hyp hq :ₛ false = false)) <;> first | (exfalso; cases hq; done) | (exfalso; simp only [decide_eq_true_eq, decide_eq_false_iff_not, beq_iff_eq, beq_eq_false_iff_ne, ne_eq, Int.not_lt, Int.not_le] at hq; omega) | simp only [Act.put, List.setIfInBounds_toArray, List.set_cons_succ, List.set_cons_zero])))
              ((first | refine Mix.lex_goes0 rfl rfl ?_ | refine Mix.lex_goesG rfl rfl rfl (by with_reducible rfl) rfl ?_); intro K hK; go_simp)
              refine hK _ _ (fun hne => absurd rfl hne) ?_
              clear hK K
              simp only [Act.put, List.setIfInBounds_toArray, List.set_cons_succ, List.set_cons_zero]
              refine Mix.lex_nil ?_
              have C8 := Lib.hid (H8.out u5 (Only.refl _ _) true)
              go_wp2_with fail
              go_roundw
              case rel => exact ⟨k + 1, by omega, by go_num, by rw [HCv.out]; exact C8.out.1, C8.out.2⟩
              case measure => simp [intOf]; omega
            | false =>
              cases hmf : makerF (gs.take i) t with
              | none =>
                rw [show idxI none = (-1 : Int) from rfl]
                have HCv : Hid ((x || (G.needs.take (k + 1)).any (nedB gs ST i)) = false) := by rw [Hid, HCu.out, Bool.false_or, nedB, hmf]
                clear hmf
                go_upto_region 10 with fail
                refine Mix.wp_plain [17] (Cl u5 No) (Cl.of (Only.refl _ _)) ?_
                (repeat' (first | (refine Mix.lex_quiet0 rfl rfl rfl ?_; intro K hK; go_big_quiet_op; go_big_quiet_on) | (refine Mix.lex_quietG rfl rfl rfl (by with_reducible rfl) rfl rfl ?_; intro K hK; go_big_quiet_op; go_big_quiet_on) | ((first | refine Mix.lex_skipT rfl rfl rfl (by with_reducible rfl) ?_ | refine Mix.lex_skipF rfl rfl rfl (by with_reducible rfl) ?_ | refine Mix.lex_skipU rfl rfl rfl (by with_reducible rfl) ?_); simp only [Act.put, List.setIfInBounds_toArray, List.set_cons_succ, List.set_cons_zero]) | (refine Mix.lex_part rfl rfl rfl rfl (fun hq => ?_) (fun hq => ?_) <;> (fail_if_success (guard_hyp hq :ₛ true = true)) <;> (fail_if_success (guard_hyp hq :ₛ false = false)) <;> first | (exfalso; cases hq; done) | (exfalso; simp only [decide_eq_true_eq, decide_eq_false_iff_not, beq_iff_eq, beq_eq_false_iff_ne, ne_eq, Int.not_lt, Int.not_le] at hq; omega) | simp only [Act.put, List.setIfInBounds_toArray, List.set_cons_succ, List.set_cons_zero])))
                ((first | refine Mix.lex_goes0 rfl rfl ?_ | refine Mix.lex_goesG rfl rfl rfl (by with_reducible rfl) rfl ?_); intro K hK; go_simp)
                refine hK _ _ (fun hne => absurd rfl hne) ?_
                clear hK K
                simp only [Act.put, List.setIfInBounds_toArray, List.set_cons_succ, List.set_cons_zero]
                refine Mix.lex_nil ?_
                have C8 := Lib.hid (H8.out u5 (Only.refl _ _) false)
                go_wp2_with fail
                go_roundw
                case rel => exact ⟨k + 1, by omega, by go_num, by rw [HCv.out]; exact C8.out.1, C8.out.2⟩
                case measure => simp [intOf]; omega
              | some q =>
                have hq : q < i := by have := makerF_lt hmf; rw [List.length_take] at this; omega
                have HCu2 : Hid ((x || (G.needs.take (k + 1)).any (nedB gs ST i)) = ST.getD q false) := by rw [Hid, HCu.out, Bool.false_or, nedB, hmf]
                rw [show idxI (some q) = (q : Int) from rfl]
                have t1 : decide ((0 : Int) ≤ (q : Int)) = true := by rw [decide_eq_true_iff]; omega
                have y2 : u5.cell? ⟨g5, q, none⟩ = some (.bool (ST.getD q false)) := by rw [C5.out.cell q, boV_get (by rw [HNl.out]; omega), mid_low (by rw [HSl.out]; exact hq)]
                generalize ST.getD q false = s2 at HCu2 y2
                have v2 : ∀ ξ : X u5 No, ξ.v.cell? ⟨g5, q, none⟩ = some (.bool s2) := fun ξ => by rw [(C5.out.keep ξ.h id).cell q, ← C5.out.cell q, y2]
                clear hmf
                go_upto_region 10 with fail
                refine Mix.wp_plain [17] (Cl u5 No) (Cl.of (Only.refl _ _)) ?_
                (repeat' (first | (refine Mix.lex_quiet0 rfl rfl rfl ?_; intro K hK; go_big_quiet_op; go_big_quiet_on) | (refine Mix.lex_quietG rfl rfl rfl (by with_reducible rfl) rfl rfl ?_; intro K hK; go_big_quiet_op; go_big_quiet_on) | ((first | refine Mix.lex_skipT rfl rfl rfl (by with_reducible rfl) ?_ | refine Mix.lex_skipF rfl rfl rfl (by with_reducible rfl) ?_ | refine Mix.lex_skipU rfl rfl rfl (by with_reducible rfl) ?_); simp only [Act.put, List.setIfInBounds_toArray, List.set_cons_succ, List.set_cons_zero]) | (refine Mix.lex_part rfl rfl rfl rfl (fun hq => ?_) (fun hq => ?_) <;> (fail_if_success (guard_hyp hq :ₛ true = true)) <;> (fail_if_success (guard_hyp hq :ₛ false = false)) <;> first | (exfalso; cases hq; done) | (exfalso; simp only [decide_eq_true_eq, decide_eq_false_iff_not, beq_iff_eq, beq_eq_false_iff_ne, ne_eq, Int.not_lt, Int.not_le] at hq; omega) | simp only [Act.put, List.setIfInBounds_toArray, List.set_cons_succ, List.set_cons_zero])))
                ((first | refine Mix.lex_goes0 rfl rfl ?_ | refine Mix.lex_goesG rfl rfl rfl (by with_reducible rfl) rfl ?_); intro K hK; go_simp)
                refine hK _ _ (fun hne => absurd rfl hne) ?_
                clear hK K
                simp only [Act.put, List.setIfInBounds_toArray, List.set_cons_succ, List.set_cons_zero]
                refine Mix.lex_nil ?_
                have C8 := Lib.hid (H8.out u5 (Only.refl _ _) s2)
                go_wp2_with fail
                go_roundw
                case rel => exact ⟨k + 1, by omega, by go_num, by rw [HCu2.out]; exact C8.out.1, C8.out.2⟩
                case measure => simp [intOf]; omega
          · obtain rfl : k = G.needs.length := by omega
            have C7 : Hid (Cs wr g5 boolT (boV (staleTo l F gs (i + 1) ++ List.replicate (gs.length - (i + 1)) false))) := by
              have h := C4.out
              rw [List.take_of_length_le (Nat.le_refl _)] at h
              rw [Hid, HSm.out, List.append_assoc]
              exact h
            go_wp2_with fail
            go_roundw
            case rel => exact ⟨i + 1, by omega, by go_num, C7.out, XR.out⟩
            case measure => simp [intOf]; omega
    · obtain rfl : i = gs.length := by omega
      have C7 : Hid (Cs wr g5 boolT (boV (staleF l F gs))) := by
        have h := C0.out
        rw [Nat.sub_self, List.replicate_zero, List.append_nil] at h
        exact h
      go_wp2_with fail
      go_ret
      exact ⟨_, _, rfl, SlR.bos C7.out (staleTo_len _ _ _ _), XR.out⟩
set_option maxRecDepth 100000 in
theorem SameNums_c {w : World} {A B : Option Addr} {n c d : Nat} {xs : List Nat} (h1 : SlR inF w A n xs) (h2 : SlR inF w B n xs) (hn : n ≤ 10000) :
    Calls Try.prog 48 #[.slice A n c, .slice B n d] w fun e w' => e = .returned (.bool true) ∧ Ext w w' := by
  have H1 := Lib.hid h1
  have H2 := Lib.hid h2
  clear h1 h2
  go_enter Try.func48, Try.ntmps48
  go_wp2_with fail
  go_loopw [5] (fun i wr => ∃ k : Nat, k ≤ n ∧ i = .int .i64 k ∧ Ext w wr) (fun i _ => n - (intOf i).toNat)
  case atStart => exact ⟨0, Nat.zero_le _, rfl, Only.refl _ _⟩
  case round =>
    obtain ⟨k, hk, rfl, hx⟩ := hrel
    have XR := Lib.hid hx
    clear hx
    by_cases hlt : k < n
    · obtain ⟨b, o, s, rfl, hs, c1⟩ := ins_get H1.out hlt
      obtain ⟨b', o', s', rfl, hs', c2⟩ := ins_get H2.out hlt
      obtain rfl : s = s' := by rw [hs] at hs'; exact Option.some.inj hs'
      have f1 : ∀ ξ : X wr No, ξ.v.cell? ⟨b, o + k, none⟩ = some (.int .i64 (s : Int)) := fun ξ => c1 ⟨ξ.v, XR.out.then_ext ξ.h⟩
      have f2 : ∀ ξ : X wr No, ξ.v.cell? ⟨b', o' + k, none⟩ = some (.int .i64 (s : Int)) := fun ξ => c2 ⟨ξ.v, XR.out.then_ext ξ.h⟩
      clear hs hs' c1 c2
      have XD : Hid (Ext w wr.drew) := XR.out.drew
      go_upto_region 6 with fail
      refine Mix.wp_draw [] 100 (Cl wr No) (by kernel_rfl) (by kernel_rfl) (Cl.of (Only.refl _ _).drew) ?_
      (repeat' (refine Mix.lex_quiet0 rfl rfl rfl ?_; intro K hK; go_big_quiet_op; go_big_quiet_on))
      refine Mix.lex_nil ?_
      go_wp2_with fail
      go_roundw
      case rel => exact ⟨k + 1, by omega, by go_num, XD.out⟩
      case measure => simp [intOf]; omega
    · obtain rfl : k = n := by omega
      go_wp2_with fail
      go_ret
      exact ⟨rfl, XR.out⟩
set_option maxRecDepth 100000 in
theorem SameUnits_c {w : World} {A B : Option Addr} {c d : Nat} {xs ys : List ((Option Addr × Nat) × List Nat)} {us : List (List Nat)} (h : UnsR w A xs us) (h' : UnsR w B ys us) (hl : us.length ≤ 100) (hu : ∀ u ∈ us, u.length ≤ 100) :
    Calls Try.prog 26 #[.slice A us.length c, .slice B us.length d] w fun e w' => e = .returned (.bool true) ∧ Ext w w' := by
  have H := Lib.hid h
  have K := Lib.hid h'
  have HU := Lib.hid hu
  clear h h' hu
  go_enter Try.func26, Try.ntmps26
  go_wp2_with fail
  go_loopw [5] (fun i wr => ∃ k : Nat, k ≤ us.length ∧ i = .int .i64 k ∧ Ext w wr) (fun i _ => us.length - (intOf i).toNat)
  case atStart => exact ⟨0, Nat.zero_le _, rfl, Only.refl _ _⟩
  case round =>
    obtain ⟨k, hk, rfl, hx⟩ := hrel
    have XR := Lib.hid hx
    clear hx
    by_cases hlt : k < us.length
    · obtain ⟨b, o, ⟨⟨C, ce⟩, u⟩, rfl, hx1, c1⟩ := uns_get H.out.1 hlt
      obtain ⟨b', o', ⟨⟨C', ce'⟩, u'⟩, rfl, hx2, c2⟩ := uns_get K.out.1 hlt
      have hu1 : us[k]? = some u := by rw [← H.out.2.2, List.getElem?_map, hx1]; rfl
      have hu2 : us[k]? = some u' := by rw [← K.out.2.2, List.getElem?_map, hx2]; rfl
      obtain rfl : u = u' := by rw [hu1] at hu2; exact Option.some.inj hu2
      have hul := HU.out u (List.mem_of_getElem? hu1)
      have HS := Lib.hid (fun z (hz : Ext w z) => SameNums_c (c := ce) (d := ce') ((H.out.2.1 _ (List.mem_of_getElem? hx1)).ext hz) ((K.out.2.1 _ (List.mem_of_getElem? hx2)).ext hz) (by dsimp only; omega))
      have f1 : ∀ ξ : X wr No, ξ.v.cell? ⟨b, o + k, none⟩ = some (.slice C u.length ce) := fun ξ => c1 ⟨ξ.v, XR.out.then_ext ξ.h⟩
      have f2 : ∀ ξ : X wr No, ξ.v.cell? ⟨b', o' + k, none⟩ = some (.slice C' u.length ce') := fun ξ => c2 ⟨ξ.v, XR.out.then_ext ξ.h⟩
      clear hx1 hx2 c1 c2 hu1 hu2
      go_upto_region 6 with fail
      refine Mix.wp_draw [8] 100 (Cl wr No) (by kernel_rfl) (by kernel_rfl) (Cl.of (Only.refl _ _).drew) ?_
      (repeat' (refine Mix.lex_quiet0 rfl rfl rfl ?_; intro K hK; go_big_quiet_op; go_big_quiet_on))
      ((first | refine Mix.lex_goes0 rfl rfl ?_ | refine Mix.lex_goesG rfl rfl rfl (by with_reducible rfl) rfl ?_); intro K hK; go_simp)
      refine (HS.out _ (XR.out.then_ext (Only.refl No wr).drew)).mono ?_
      rintro e u1 ⟨rfl, hu⟩
      have U1 : Hid (Ext wr u1) := (Only.refl No wr).drew.then_ext hu
      refine ⟨_, rfl, hK _ _ (fun _ => Cl.of U1.out) ?_⟩
      clear hK K hu f1 f2
      simp only [Act.put, List.setIfInBounds_toArray, List.set_cons_succ, List.set_cons_zero]
      (repeat' (refine Mix.lex_quiet0 rfl rfl rfl ?_; intro K hK; go_big_quiet_op; go_big_quiet_on))
      refine Mix.lex_nil ?_
      go_wp2_with fail
      go_roundw
      case rel => exact ⟨k + 1, by omega, by go_num, XR.out.then_ext U1.out⟩
      case measure => simp [intOf]; omega
    · obtain rfl : k = us.length := by omega
      go_wp2_with fail
      go_ret
      exact ⟨rfl, XR.out⟩
theorem unit_sorted (n : Nat) (st : List Bool) (r : Nat → Nat) (i : Nat) : (unitAt n st r i).Pairwise (· < ·) := List.Pairwise.filter _ List.pairwise_lt_range
section
variable {gs : List Grp} {st : List Bool} {r : Nat → Nat}
theorem lst_root (h : LstOk (edgesF gs st) gs.length r) {k : Nat} (hk : k < gs.length) : r k < gs.length ∧ r (r k) = r k ∧ r k ≤ k := by
  have hc := (h k hk).1
  have hrl : r k < gs.length := hc.lt (fun e he => by have := edgesTo_ok e he; omega) hk
  have a1 := h (r k) hrl
  have a2 : Least (edgesF gs st) (r k) (r k) := ⟨.here, fun y hy => (h k hk).2 y (hc.trans hy)⟩
  exact ⟨hrl, a1.uniq a2, (h k hk).2 k .here⟩
theorem unit_head (h : LstOk (edgesF gs st) gs.length r) {i : Nat} (hne : unitAt gs.length st r i ≠ []) : (unitAt gs.length st r i)[0]? = some i := by
  obtain ⟨k, hk⟩ := List.exists_mem_of_ne_nil _ hne
  obtain ⟨h1, h2, rfl⟩ := unit_mem.1 hk
  obtain ⟨q1, q2, q3⟩ := lst_root h h1
  have hp : ∀ e ∈ edgesF gs st, stB st e.1 = true ∧ stB st e.2 = true := fun e he => (edgesTo_ok e he).2.2
  have hs : stB st (r k) = true := by
    rcases (h k h1).1.stale hp with e | e
    · rw [← e]; exact h2
    · exact e
  have hin : r k ∈ unitAt gs.length st r (r k) := unit_mem.2 ⟨q1, hs, q2⟩
  have hsrt := unit_sorted gs.length st r (r k)
  cases hu : unitAt gs.length st r (r k) with
  | nil => rw [hu] at hin; cases hin
  | cons a t =>
    rw [hu] at hin hsrt
    have ha : a ∈ unitAt gs.length st r (r k) := by rw [hu]; simp
    obtain ⟨a1, a2, a3⟩ := unit_mem.1 ha
    have hle := (lst_root h a1).2.2
    rcases List.mem_cons.1 hin with e | e
    · rw [e]; rfl
    · have := (List.pairwise_cons.1 hsrt).1 _ e
      omega
theorem real_ne {us : List Nat} (h : realB gs us = true) : us ≠ [] := by rintro rfl; cases h
theorem units_at {i : Nat} {u : List Nat} (h : u ∈ unitsTo gs st r i) : ∃ p, p < i ∧ u = unitAt gs.length st r p ∧ realB gs u = true := by
  unfold unitsTo at h
  obtain ⟨p, hp, hu⟩ := List.mem_filterMap.1 h
  obtain ⟨h1, h2⟩ := unit1_some hu
  exact ⟨p, List.mem_range.1 hp, h1, h2⟩
theorem units_rise (h : LstOk (edgesF gs st) gs.length r) : ∀ i, (unitsTo gs st r i).Pairwise fun a b => a.headD 0 < b.headD 0
  | 0 => by simp [unitsTo]
  | i + 1 => by
    rw [unitsTo_succ]
    refine List.pairwise_append.2 ⟨units_rise h i, ?_, fun a ha b hb => ?_⟩
    · cases unit1 gs st r i <;> simp
    · obtain ⟨p, hp, rfl, hr⟩ := units_at ha
      cases hu : unit1 gs st r i with
      | none => rw [hu] at hb; cases hb
      | some u =>
        rw [hu] at hb
        simp at hb
        subst hb
        obtain ⟨rfl, hr2⟩ := unit1_some hu
        have e1 := unit_head h (real_ne hr)
        have e2 := unit_head h (real_ne hr2)
        rw [← List.head?_eq_getElem?] at e1 e2
        rw [List.headD_eq_head?_getD, List.headD_eq_head?_getD, e1, e2]
        exact hp
structure InOk (us : List (List Nat)) (n i p : Nat) (arr : List Nat) : Prop where
  len : arr.length = n
  back : ∀ k, k < n → arr.getD k 0 = 0 ∨ (∃ j u, j < i ∧ us[j]? = some u ∧ k ∈ u ∧ arr.getD k 0 = j + 1) ∨ (∃ u, us[i]? = some u ∧ k ∈ u.take p ∧ arr.getD k 0 = i + 1)
  on : ∀ j u k, j < i → us[j]? = some u → k ∈ u → arr.getD k 0 = j + 1
  here : ∀ u k, us[i]? = some u → k ∈ u.take p → arr.getD k 0 = i + 1
theorem InOk.start (us : List (List Nat)) (n : Nat) : InOk us n 0 0 (List.replicate n 0) := by
  have : ∀ k, (List.replicate n 0).getD k 0 = 0 := fun k => by
    rw [List.getD_eq_getElem?_getD, List.getElem?_replicate]
    split <;> rfl
  exact ⟨List.length_replicate, fun k _ => .inl (this k), fun j u k hj => absurd hj (Nat.not_lt_zero j), fun u k _ hk => by simp at hk⟩
variable {us : List (List Nat)}
theorem units_apart (h : LstOk (edgesF gs st) gs.length r) (hus : us = unitsF gs st r) {i j : Nat} {u v : List Nat} {k : Nat} (hi : us[i]? = some u) (hj : us[j]? = some v) (h1 : k ∈ u) (h2 : k ∈ v) : i = j := by
  subst hus
  obtain ⟨p, _, rfl, hr1⟩ := units_at (List.mem_of_getElem? hi)
  obtain ⟨q, _, rfl, hr2⟩ := units_at (List.mem_of_getElem? hj)
  have e1 := (unit_mem.1 h1).2.2
  have e2 := (unit_mem.1 h2).2.2
  have hpq : p = q := e1.symm.trans e2
  subst hpq
  obtain ⟨hil, ei⟩ := List.getElem?_eq_some_iff.1 hi
  obtain ⟨hjl, ej⟩ := List.getElem?_eq_some_iff.1 hj
  have hp := List.pairwise_iff_getElem.1 (units_rise h gs.length)
  rcases Nat.lt_trichotomy i j with hlt | heq | hgt
  · have := hp i j hil hjl hlt
    rw [ei, ej] at this
    omega
  · exact heq
  · have := hp j i hjl hil hgt
    rw [ei, ej] at this
    omega
theorem InOk.step (h : LstOk (edgesF gs st) gs.length r) (hus : us = unitsF gs st r) {i p k : Nat} {u arr : List Nat} (hI : InOk us gs.length i p arr) (hu : us[i]? = some u) (hk : u[p]? = some k) :
    k < gs.length ∧ stB st k = true ∧ arr.getD k 0 = 0 ∧ (∀ q, p = q + 1 → ∃ m, u[q]? = some m ∧ m < k) ∧ InOk us gs.length i (p + 1) (arr.set k (i + 1)) := by
  have hmem : u ∈ unitsF gs st r := by rw [← hus]; exact List.mem_of_getElem? hu
  obtain ⟨ρ, _, hρ, _⟩ := units_at hmem
  have hkm := List.mem_of_getElem? hk
  have hk2 := hkm
  rw [hρ] at hk2
  obtain ⟨h1, h2, h3⟩ := unit_mem.1 hk2
  have hsrt : u.Pairwise (· < ·) := by rw [hρ]; exact unit_sorted _ _ _ _
  obtain ⟨hpl, ep⟩ := List.getElem?_eq_some_iff.1 hk
  have hnt : k ∉ u.take p := fun hm => by
    obtain ⟨q, hq, e⟩ := List.getElem_of_mem hm
    rw [List.length_take] at hq
    rw [List.getElem_take] at e
    have := List.pairwise_iff_getElem.1 hsrt q p (by omega) hpl (by omega)
    omega
  have h0 : arr.getD k 0 = 0 := by
    rcases hI.back k h1 with h0 | ⟨j, v, b1, b2, b3, _⟩ | ⟨v, b1, b2, _⟩
    · exact h0
    · have := units_apart h hus hu b2 hkm b3
      omega
    · obtain rfl : u = v := by rw [hu] at b1; exact Option.some.inj b1
      exact absurd b2 hnt
  have hset : ∀ x, (arr.set k (i + 1)).getD x 0 = if x = k then i + 1 else arr.getD x 0 := fun x => getD_set (by rw [hI.len]; exact h1)
  have htk : ∀ x, x ∈ u.take (p + 1) ↔ x ∈ u.take p ∨ x = k := fun x => by
    rw [List.take_add_one, hk, List.mem_append]
    simp
  refine ⟨h1, h2, h0, fun q hq => ?_, ⟨by rw [List.length_set]; exact hI.len, fun x hx => ?_, fun j v x hj hv hx => ?_, fun v x hv hx => ?_⟩⟩
  · subst hq
    refine ⟨u[q], List.getElem?_eq_getElem (by omega), ?_⟩
    have := List.pairwise_iff_getElem.1 hsrt q (q + 1) (by omega) hpl (by omega)
    omega
  · rw [hset]
    by_cases e : x = k
    · rw [if_pos e]
      exact .inr (.inr ⟨u, hu, (htk x).2 (.inr e), rfl⟩)
    · rw [if_neg e]
      rcases hI.back x hx with b | b | ⟨v, b1, b2, b3⟩
      · exact .inl b
      · exact .inr (.inl b)
      · obtain rfl : u = v := by rw [hu] at b1; exact Option.some.inj b1
        exact .inr (.inr ⟨u, hu, (htk x).2 (.inl b2), b3⟩)
  · rw [hset, if_neg (fun e => by subst e; have := units_apart h hus hu hv hkm hx; omega)]
    exact hI.on j v x hj hv hx
  · obtain rfl : u = v := by rw [hu] at hv; exact Option.some.inj hv
    rw [hset]
    by_cases e : x = k
    · rw [if_pos e]
    · rw [if_neg e]
      rcases (htk x).1 hx with b | b
      · exact hI.here u x hu b
      · exact absurd b e
end
def plG : Grp := ⟨[[98]], [], [[112, 117, 116, 32, 98, 32, 120]], false⟩
theorem plG_stale : staleF [] (fun _ => none) [plG] = [true] := by decide +kernel
theorem plG_units {r : Nat → Nat} (h : LstOk (edgesF [plG] [true]) [plG].length r) : unitsF [plG] [true] r = [[0]] := by
  have h0 : r 0 = 0 := by have := (lst_root h (k := 0) (by decide)).2.2; omega
  show unitsTo [plG] [true] r 1 = [[0]]
  simp [unitsTo, unit1, unitAt, realB, nphB, plG, stB, h0, List.range_succ]
theorem units_len {gs : List Grp} {st : List Bool} {r : Nat → Nat} : (unitsF gs st r).length ≤ gs.length := by
  have h := List.length_filterMap_le (unit1 gs st r) (List.range gs.length)
  rwa [List.length_range] at h
theorem unit_len {gs : List Grp} {st : List Bool} {r : Nat → Nat} : ∀ u ∈ unitsF gs st r, u.length ≤ gs.length := by
  intro u hu
  obtain ⟨p, _, rfl, _⟩ := units_at hu
  have := List.length_filter_le (fun k => stB st k && decide (r k = p)) (List.range gs.length)
  rwa [List.length_range] at this
set_option maxRecDepth 100000 in
set_option maxHeartbeats 4000000 in
theorem plans_c {w : World} : Calls Try.prog 16 #[] w fun e w' => e = .returned (.bool true) ∧ Ext w w' := by
  obtain ⟨w1, hw1⟩ : ∃ u, u = w.alloc (.cells #[Value.string ⟨#[98]⟩] 9) := ⟨_, rfl⟩
  obtain ⟨w2, hw2⟩ : ∃ u, u = w1.alloc (.cells #[Value.string ⟨#[112, 117, 116, 32, 98, 32, 120]⟩] 9) := ⟨_, rfl⟩
  obtain ⟨b1, hb1⟩ : ∃ b, b = w.heap.size := ⟨_, rfl⟩
  obtain ⟨b2, hb2⟩ : ∃ b, b = w1.heap.size := ⟨_, rfl⟩
  obtain ⟨w3, hw3⟩ : ∃ u, u = w2.alloc (.cells #[.slice (some ⟨b1, 0, none⟩) 1 1, .slice none 0 0, .slice (some ⟨b2, 0, none⟩) 1 1, .bool false] grpT) := ⟨_, rfl⟩
  obtain ⟨b3, hb3⟩ : ∃ b, b = w2.heap.size := ⟨_, rfl⟩
  have x1 : Ext w w1 := by rw [hw1]; exact (Only.refl No w).alloc _
  have x2 : Ext w1 w2 := by rw [hw2]; exact (Only.refl No w1).alloc _
  have x3 : Ext w2 w3 := by rw [hw3]; exact (Only.refl No w2).alloc _
  have s1 : SlR strF w1 (some ⟨b1, 0, none⟩) 1 [[98]] := by rw [hw1, hb1]; exact SlR.one strF w _ _ rfl
  have s2 : SlR strF w2 (some ⟨b2, 0, none⟩) 1 [[112, 117, 116, 32, 98, 32, 120]] := by rw [hw2, hb2]; exact SlR.one strF w1 _ _ rfl
  have s3 : SlR grpF w3 (some ⟨b3, 0, none⟩) 1 [((⟨some ⟨b1, 0, none⟩, 1, none, 0, some ⟨b2, 0, none⟩, 1⟩ : RulA), plG)] := by rw [hw3, hb3]; exact SlR.one grpF w2 _ _ rfl
  have HG : Hid (GrpsR w3 (some ⟨b3, 0, none⟩) [((⟨some ⟨b1, 0, none⟩, 1, none, 0, some ⟨b2, 0, none⟩, 1⟩ : RulA), plG)] [plG]) := ⟨s3, fun x hx => by
    obtain rfl := List.mem_singleton.1 hx
    exact ⟨s1.ext (x2.then_ext x3), SlR.none_, s2.ext x3⟩, rfl⟩
  have X3 := Lib.hid (x1.then_ext (x2.then_ext x3))
  have hgb : ∀ g ∈ [plG], GB3 g := fun g hg => by obtain rfl := List.mem_singleton.1 hg; exact ⟨by decide, by decide, by decide⟩
  have hgb2 : ∀ g ∈ [plG], GB3 g ∧ 1 ≤ g.targets.length ∧ (g.targets.headD []).length ≤ 1000000 := fun g hg => by obtain rfl := List.mem_singleton.1 hg; exact ⟨⟨by decide, by decide, by decide⟩, by decide, by decide⟩
  have HSt := Lib.hid (Stale_c (c := 1) HG.out (by decide) (by decide) hgb2 (KpM.nil w3) (F := fun _ => none) (fun s p e => by cases e) (lA := none) (lc := 0) (l := []) SlR.none_ (by decide) List.Pairwise.nil)
  rw [plG_stale] at HSt
  have HUn := Lib.hid (fun u (hu : Ext w3 u) (B : Option Addr) (d : Nat) (hS : SlR boF u B 1 [true]) => Units_c (c := 1) (sc := d) (HG.out.ext hu) (by decide) (by decide) hgb hS)
  clear x1 x2 x3 s1 s2 s3 hgb hgb2
  go_enter Try.func16, Try.ntmps16
  go_upto_region 2 with fail
  rw [show w.heap.size + 1 + 1 = b3 by rw [hb3, hw2, hw1]; simp, show w.heap.size + 1 = b2 by rw [hb2, hw1]; simp, ← hb1, ← hw1, ← hw2, ← hw3]
  clear hw1 hw2 hw3 hb1 hb2 hb3
  go_wp2_with fail
  refine HSt.out.mono ?_
  rintro e u4 ⟨B, d, rfl, hS, hu⟩
  have X4 := Lib.hid (X3.out.then_ext hu)
  have HU := Lib.hid (HUn.out u4 hu B d hS)
  have HG4 := Lib.hid (HG.out.ext hu)
  obtain ⟨bs, so, s, rfl, hs, cq⟩ := bos_get hS (show 0 < 1 by decide)
  obtain rfl : true = s := Option.some.inj hs
  have y0 : u4.cell? ⟨bs, so, none⟩ = some (.bool true) := cq (X.here u4 No)
  have v0 : ∀ ξ : X u4 No, ξ.v.cell? ⟨bs, so, none⟩ = some (.bool true) := cq
  clear hu HSt HUn hS hs cq
  go_upto_region 3 with fail
  refine Mix.wp_plain [11, 12, 13, 14] (Cl u4 No) (Cl.of (Only.refl _ _)) ?_
  (repeat' (first | (refine Mix.lex_quiet0 rfl rfl rfl ?_; intro K hK; go_big_quiet_op; go_big_quiet_on) | (refine Mix.lex_quietG rfl rfl rfl (by with_reducible rfl) rfl rfl ?_; intro K hK; go_big_quiet_op; go_big_quiet_on) | ((first | refine Mix.lex_skipT rfl rfl rfl (by with_reducible rfl) ?_ | refine Mix.lex_skipF rfl rfl rfl (by with_reducible rfl) ?_ | refine Mix.lex_skipU rfl rfl rfl (by with_reducible rfl) ?_); simp only [Act.put, List.setIfInBounds_toArray, List.set_cons_succ, List.set_cons_zero]) | (refine Mix.lex_part rfl rfl rfl rfl (fun hq => ?_) (fun hq => ?_) <;> (fail_if_success (guard_hyp hq :ₛ true = true)) <;> (fail_if_success (guard_hyp hq :ₛ false = false)) <;> first | (exfalso; cases hq; done) | (exfalso; simp only [decide_eq_true_eq, decide_eq_false_iff_not, beq_iff_eq, beq_eq_false_iff_ne, ne_eq, Int.not_lt, Int.not_le] at hq; omega) | simp only [Act.put, List.setIfInBounds_toArray, List.set_cons_succ, List.set_cons_zero])))
  ((first | refine Mix.lex_goes0 rfl rfl ?_ | refine Mix.lex_goesG rfl rfl rfl (by with_reducible rfl) rfl ?_); intro K hK; go_simp)
  refine HU.out.mono ?_
  rintro e u5 ⟨B5, d5, xs5, r, hL, rfl, hU5, hx⟩
  have hL : LstOk (edgesF [plG] [true]) [plG].length r := hL
  have hU5 : UnsR u5 B5 xs5 (unitsF [plG] [true] r) := hU5
  rw [plG_units hL] at hU5
  have he := plG_units hL
  have HU5 := Lib.hid hU5
  have X5 := Lib.hid hx
  refine ⟨_, rfl, hK _ _ (fun _ => Cl.of hx) ?_⟩
  rw [show (unitsF [plG] [true] r).length = 1 by rw [he]; rfl]
  clear hK K hx hU5 hL he
  simp only [Act.put, List.setIfInBounds_toArray, List.set_cons_succ, List.set_cons_zero]
  (repeat' (refine Mix.lex_quiet0 rfl rfl rfl ?_; intro K hK; go_big_quiet_op; go_big_quiet_on))
  ((first | refine Mix.lex_goes0 rfl rfl ?_ | refine Mix.lex_goesG rfl rfl rfl (by with_reducible rfl) rfl ?_); intro K hK; go_simp)
  obtain ⟨u6, hu6⟩ : ∃ u, u = u5.alloc (.cells #[Value.int IntKind.i64 0] 3) := ⟨_, rfl⟩
  obtain ⟨b6, hb6⟩ : ∃ b, b = u5.heap.size := ⟨_, rfl⟩
  have x6 : Ext u5 u6 := by rw [hu6]; exact (Only.refl No u5).alloc _
  have I6 : Hid (SlR inF u6 (some ⟨b6, 0, none⟩) 1 [0]) := by rw [hu6, hb6]; exact SlR.one inF u5 _ _ rfl
  have X6 := Lib.hid (X5.out.then_ext x6)
  have HU6 : Hid (UnsR u6 B5 xs5 [[0]]) := ⟨HU5.out.1.ext x6, fun x hx => (HU5.out.2.1 x hx).ext x6, HU5.out.2.2⟩
  rw [← hu6, ← hb6]
  refine hK _ _ (fun _ => Cl.of X6.out) ?_
  clear hK K hu6 hb6 x6 HU5
  simp only [Act.put, List.setIfInBounds_toArray, List.set_cons_succ, List.set_cons_zero]
  (repeat' (refine Mix.lex_quiet0 rfl rfl rfl ?_; intro K hK; go_big_quiet_op; go_big_quiet_on))
  ((first | refine Mix.lex_goes0 rfl rfl ?_ | refine Mix.lex_goesG rfl rfl rfl (by with_reducible rfl) rfl ?_); intro K hK; go_simp)
  obtain ⟨u7, hu7⟩ : ∃ u, u = u6.alloc (.cells #[Value.slice (some ⟨b6, 0, none⟩) 1 1] 81) := ⟨_, rfl⟩
  obtain ⟨b7, hb7⟩ : ∃ b, b = u6.heap.size := ⟨_, rfl⟩
  have x7 : Ext u6 u7 := by rw [hu7]; exact (Only.refl No u6).alloc _
  have I7 : SlR unF u7 (some ⟨b7, 0, none⟩) 1 [((some ⟨b6, 0, none⟩, 1), [0])] := by rw [hu7, hb7]; exact SlR.one unF u6 _ _ rfl
  have HV7 : UnsR u7 (some ⟨b7, 0, none⟩) [((some ⟨b6, 0, none⟩, 1), [0])] [[0]] := ⟨I7, fun x hx => by
    obtain rfl := List.mem_singleton.1 hx
    exact I6.out.ext x7, rfl⟩
  have HU7 : UnsR u7 B5 xs5 [[0]] := ⟨HU6.out.1.ext x7, fun x hx => (HU6.out.2.1 x hx).ext x7, HU6.out.2.2⟩
  have HSU := Lib.hid (SameUnits_c (c := d5) (d := 1) HU7 HV7 (by decide) (by decide))
  have X7 := Lib.hid (X6.out.then_ext x7)
  rw [← hu7, ← hb7]
  refine hK _ _ (fun _ => Cl.of X7.out) ?_
  clear hK K hu7 hb7 x7 HU6 I7 HV7 HU7
  simp only [Act.put, List.setIfInBounds_toArray, List.set_cons_succ, List.set_cons_zero]
  (repeat' (refine Mix.lex_quiet0 rfl rfl rfl ?_; intro K hK; go_big_quiet_op; go_big_quiet_on))
  ((first | refine Mix.lex_goes0 rfl rfl ?_ | refine Mix.lex_goesG rfl rfl rfl (by with_reducible rfl) rfl ?_); intro K hK; go_simp)
  refine HSU.out.mono ?_
  rintro e u8 ⟨rfl, hx⟩
  have X8 := Lib.hid (X7.out.then_ext hx)
  refine ⟨_, rfl, hK _ _ (fun _ => Cl.of X8.out) ?_⟩
  clear hK K hx
  simp only [Act.put, List.setIfInBounds_toArray, List.set_cons_succ, List.set_cons_zero]
  (repeat' (refine Mix.lex_quiet0 rfl rfl rfl ?_; intro K hK; go_big_quiet_op; go_big_quiet_on))
  refine Mix.lex_nil ?_
  go_wp2_with fail
  go_ret
  exact ⟨rfl, X4.out.then_ext X8.out⟩
end Go.Proofs.Ytnhaekifcieeoaa
