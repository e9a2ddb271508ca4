/- Put together: Gx9, MkW. -/
import Derived.Test.YtnhaekifcieeoaaGreatDoorMa33
import Derived.Test.YtnhaekifcieeoaaGreatDoorMa11
/- graph.Of: the groups that are needed for a goal. -/
namespace Go.Proofs.YtnhaekifcieeoaaGreatDoor
open Go Go.RowKit
/-- Groups and a fault. -/
def OfsRes (w : World) (r : List Grp × Int) (e : Ending) (w' : World) : Prop :=
  ∃ (A : Option Addr) (c : Nat) (os : List (RulA × Grp)), e = .returned (.tuple #[.slice A r.1.length c, errV r.2]) ∧ GrpsR w' A os r.1 ∧ Ext w w'
theorem GrpsR.nil (w : World) : GrpsR w none [] [] := ⟨⟨rfl, fun h => absurd h (by decide)⟩, (fun x hx => by cases hx), rfl⟩
theorem Gw.start {w u : World} {g : Nat} {v : MkV} {m : Mk} {lA : Option Addr} {lc ll : Nat} (hx : Ext w u) (hg : w.heap.size ≤ g)
    (hc : Cs u g grwT #[.slice v.vA m.vars.length v.vc, .slice v.rA m.rules.length v.rc, .slice v.pA m.phony.length v.pc, .slice lA ll lc, .slice none 0 0, .slice none 0 0, .slice none 0 0]) :
    Gw w u g v m lA lc ll ⟨none, 0, none, 0, none, 0⟩ [] [] [] :=
  ⟨hc, Fresh.nil _ _ _ _ hx, Fresh.nil _ _ _ _ hx, Fresh.nil _ _ _ _ hx, hg, (fun b h => by simp [Value.ownBlock] at h), (fun x hx => by cases hx)⟩
theorem Gw.grps {w u : World} {g : Nat} {v : MkV} {m : Mk} {lA : Option Addr} {lc ll : Nat} {a : GrwA} {way done : List Str} {gs : List (RulA × Grp)} (h : Gw w u g v m lA lc ll a way done gs) : GrpsR u a.oA gs (gs.map (·.2)) :=
  ⟨by rw [List.length_map]; exact h.fo.row (by decide), fun x hx => ⟨(h.rw x hx).1.here, (h.rw x hx).2.1.here, (h.rw x hx).2.2.here⟩, rfl⟩
theorem leftF_le (c way : List Str) : leftF c way ≤ c.length := List.length_filter_le _ _
set_option maxRecDepth 100000 in
set_option maxHeartbeats 8000000 in
theorem Of_c {w : World} (hml : Ml w) {v : MkV} {rs : List (RulA × Rul)} {m : Mk} {lA : Option Addr} {lc : Nat} {l : List File} (hmk : MakeR w v rs m) (hfl : SlR fileF w lA l.length l) (hgb : GBd m l) (goal : Str) (hgl : goal.length ≤ 10000) (hcb : nameB goal = true → ∀ x ∈ candF m l goal, x.length ≤ 200) (hcl : (candF m l goal).length < 100) :
    Calls Tryz.prog 11 #[mkV v m, .slice lA l.length lc, S goal] w (OfsRes w (groupsF m l goal)) := by
  have HN := Lib.hid (fun w => Name_c goal w hgl)
  obtain ⟨nb, hnb⟩ : ∃ b, b = nameB goal := ⟨_, rfl⟩
  rw [← hnb] at HN hcb
  have HNb := Lib.hid hnb
  have HML := Lib.hid hml
  have HMK := Lib.hid hmk
  have HFL := Lib.hid hfl
  have HGB := Lib.hid hgb
  have HCB := Lib.hid hcb
  have HCL := Lib.hid hcl
  obtain ⟨w1, hw1⟩ : ∃ u, u = w.alloc (.cells #[.slice v.vA m.vars.length v.vc, .slice v.rA m.rules.length v.rc, .slice v.pA m.phony.length v.pc] makeT) := ⟨_, rfl⟩
  have X1 : Hid (Ext w w1) := by rw [hw1]; exact (Only.refl No w).alloc _
  have C1 : Hid (Cs w1 w.heap.size makeT #[.slice v.vA m.vars.length v.vc, .slice v.rA m.rules.length v.rc, .slice v.pA m.phony.length v.pc]) := by rw [hw1]; exact Cs.new _ _ _
  clear hml hmk hfl hgb hcb hcl hnb
  go_enter Tryz.func11, Tryz.ntmps11
  go_upto_region 1 with fail
  rw [← hw1]
  clear hw1
  go_wp2_with (first | ((first | refine Mix.wpList_guarded rfl ?_ | refine Mix.wp_still (by kernel_rfl) (by kernel_rfl) ?_); (repeat' (first | (refine Mix.lex_quiet0 rfl rfl rfl ?_; intro K hK; go_big_quiet_op; go_big_quiet_on) | (refine Mix.lex_quietG rfl rfl rfl (by with_reducible rfl) rfl rfl ?_; intro K hK; go_big_quiet_op; go_big_quiet_on) | ((first | refine Mix.lex_skipT rfl rfl rfl (by with_reducible rfl) ?_ | refine Mix.lex_skipF rfl rfl rfl (by with_reducible rfl) ?_ | refine Mix.lex_skipU rfl rfl rfl (by with_reducible rfl) ?_); simp only [Act.put, List.setIfInBounds_toArray, List.set_cons_succ, List.set_cons_zero]) | (refine Mix.lex_part rfl rfl rfl rfl (fun hq => ?_) (fun hq => ?_) <;> (fail_if_success (guard_hyp hq :ₛ true = true)) <;> (fail_if_success (guard_hyp hq :ₛ false = false)) <;> first | (exfalso; cases hq; done) | (exfalso; simp only [decide_eq_true_eq, decide_eq_false_iff_not, beq_iff_eq, beq_eq_false_iff_ne, ne_eq, Int.not_lt, Int.not_le] at hq; omega) | simp only [Act.put, List.setIfInBounds_toArray, List.set_cons_succ, List.set_cons_zero]))); all_goals (refine Mix.lex_nil ?_)))
  refine (HN.out w1).mono ?_
  rintro e u2 ⟨rfl, hx2⟩
  have C2 := Lib.hid (C1.out.keep hx2 id)
  have X2 := Lib.hid (X1.out.then_ext hx2)
  clear hx2 HN X1 C1
  cases nb with
  | false =>
    go_wp2_with (first | ((first | refine Mix.wpList_guarded rfl ?_ | refine Mix.wp_still (by kernel_rfl) (by kernel_rfl) ?_); (repeat' (first | (refine Mix.lex_quiet0 rfl rfl rfl ?_; intro K hK; go_big_quiet_op; go_big_quiet_on) | (refine Mix.lex_quietG rfl rfl rfl (by with_reducible rfl) rfl rfl ?_; intro K hK; go_big_quiet_op; go_big_quiet_on) | ((first | refine Mix.lex_skipT rfl rfl rfl (by with_reducible rfl) ?_ | refine Mix.lex_skipF rfl rfl rfl (by with_reducible rfl) ?_ | refine Mix.lex_skipU rfl rfl rfl (by with_reducible rfl) ?_); simp only [Act.put, List.setIfInBounds_toArray, List.set_cons_succ, List.set_cons_zero]) | (refine Mix.lex_part rfl rfl rfl rfl (fun hq => ?_) (fun hq => ?_) <;> (fail_if_success (guard_hyp hq :ₛ true = true)) <;> (fail_if_success (guard_hyp hq :ₛ false = false)) <;> first | (exfalso; cases hq; done) | (exfalso; simp only [decide_eq_true_eq, decide_eq_false_iff_not, beq_iff_eq, beq_eq_false_iff_ne, ne_eq, Int.not_lt, Int.not_le] at hq; omega) | simp only [Act.put, List.setIfInBounds_toArray, List.set_cons_succ, List.set_cons_zero]))); all_goals (refine Mix.lex_nil ?_)))
    go_ret2
    have hv : groupsF m l goal = ([], 3) := by rw [groupsF, if_pos HNb.out.symm]
    rw [hv]
    exact ⟨none, 0, [], rfl, GrpsR.nil _, X2.out⟩
  | true =>
    have k0 : u2.cell? ⟨w.heap.size, 0, none⟩ = some (.slice v.vA m.vars.length v.vc) := C2.out.cell 0
    have k1 : u2.cell? ⟨w.heap.size, 1, none⟩ = some (.slice v.rA m.rules.length v.rc) := C2.out.cell 1
    have k2 : u2.cell? ⟨w.heap.size, 2, none⟩ = some (.slice v.pA m.phony.length v.pc) := C2.out.cell 2
    go_upto_region 4 with fail
    obtain ⟨g, hg⟩ : ∃ g, g = u2.heap.size := ⟨_, rfl⟩
    obtain ⟨u3, hu3⟩ : ∃ u, u = u2.alloc (.cells #[.slice v.vA m.vars.length v.vc, .slice v.rA m.rules.length v.rc, .slice v.pA m.phony.length v.pc, .slice lA l.length lc, .slice none 0 0, .slice none 0 0, .slice none 0 0] grwT) := ⟨_, rfl⟩
    have hx3 : Ext u2 u3 := by rw [hu3]; exact (Only.refl No _).alloc _
    have X3 := Lib.hid (X2.out.then_ext hx3)
    have HG : Hid (w.heap.size ≤ g) := by rw [Hid, hg]; exact X2.out.size
    have G3 : Hid (Gw w u3 g v m lA lc l.length ⟨none, 0, none, 0, none, 0⟩ [] [] []) := Gw.start X3.out HG.out (by rw [hu3, hg]; exact Cs.new _ _ _)
    have HV := Lib.hid (visit_c HML.out HMK.out HFL.out HGB.out g goal (HCB.out (by first | trivial | rfl)) 100 (Nat.le_refl _) u3 _ [] [] [] goal G3.out DoneOk.nil (fun x hx => by cases hx) (Nat.zero_le _) (Nat.zero_le _) (by unfold candF; simp) (Nat.lt_of_le_of_lt (leftF_le _ _) HCL.out))
    obtain ⟨⟨out, code⟩, hr⟩ : ∃ r, r = visitF m l 100 [] [] goal := ⟨_, rfl⟩
    have hgr : Hid (groupsF m l goal = if code ≠ 0 then ([], code) else (out, 0)) := by
      rw [Hid, groupsF, if_neg (by rw [← HNb.out]; decide), ← hr]
    rw [List.map_nil, ← hr] at HV
    rw [← hu3, ← hg]
    clear hu3 hg hx3 k0 k1 k2 hr
    go_wp2_with (first | ((first | refine Mix.wpList_guarded rfl ?_ | refine Mix.wp_still (by kernel_rfl) (by kernel_rfl) ?_); (repeat' (first | (refine Mix.lex_quiet0 rfl rfl rfl ?_; intro K hK; go_big_quiet_op; go_big_quiet_on) | (refine Mix.lex_quietG rfl rfl rfl (by with_reducible rfl) rfl rfl ?_; intro K hK; go_big_quiet_op; go_big_quiet_on) | ((first | refine Mix.lex_skipT rfl rfl rfl (by with_reducible rfl) ?_ | refine Mix.lex_skipF rfl rfl rfl (by with_reducible rfl) ?_ | refine Mix.lex_skipU rfl rfl rfl (by with_reducible rfl) ?_); simp only [Act.put, List.setIfInBounds_toArray, List.set_cons_succ, List.set_cons_zero]) | (refine Mix.lex_part rfl rfl rfl rfl (fun hq => ?_) (fun hq => ?_) <;> (fail_if_success (guard_hyp hq :ₛ true = true)) <;> (fail_if_success (guard_hyp hq :ₛ false = false)) <;> first | (exfalso; cases hq; done) | (exfalso; simp only [decide_eq_true_eq, decide_eq_false_iff_not, beq_iff_eq, beq_eq_false_iff_ne, ne_eq, Int.not_lt, Int.not_le] at hq; omega) | simp only [Act.put, List.setIfInBounds_toArray, List.set_cons_succ, List.set_cons_zero]))); all_goals (refine Mix.lex_nil ?_)))
    refine HV.out.mono ?_
    rintro e u4 ⟨he, o4, hz⟩
    have he : e = .returned (errV code) := he
    subst he
    have X4 : Hid (Ext w u4) := X3.out.trans o4 fun q hq e => by
      rcases e with rfl | e | e | e
      · have := HG.out; omega
      · cases e
      · cases e
      · cases e
    by_cases h0 : code = 0
    · subst h0
      obtain ⟨a, done, gs, G4, hm, _, _, _, _⟩ := hz (by first | trivial | rfl)
      have hm : gs.map (·.2) = out := hm
      have k6 : u4.cell? ⟨g, 6, none⟩ = some (.slice a.oA gs.length a.oc) := G4.cs.cell 6
      have HG4 := Lib.hid G4
      have HM := Lib.hid hm
      rw [errV_zero]
      clear hz o4 HV G4 hm
      go_wp2_with (first | ((first | refine Mix.wpList_guarded rfl ?_ | refine Mix.wp_still (by kernel_rfl) (by kernel_rfl) ?_); (repeat' (first | (refine Mix.lex_quiet0 rfl rfl rfl ?_; intro K hK; go_big_quiet_op; go_big_quiet_on) | (refine Mix.lex_quietG rfl rfl rfl (by with_reducible rfl) rfl rfl ?_; intro K hK; go_big_quiet_op; go_big_quiet_on) | ((first | refine Mix.lex_skipT rfl rfl rfl (by with_reducible rfl) ?_ | refine Mix.lex_skipF rfl rfl rfl (by with_reducible rfl) ?_ | refine Mix.lex_skipU rfl rfl rfl (by with_reducible rfl) ?_); simp only [Act.put, List.setIfInBounds_toArray, List.set_cons_succ, List.set_cons_zero]) | (refine Mix.lex_part rfl rfl rfl rfl (fun hq => ?_) (fun hq => ?_) <;> (fail_if_success (guard_hyp hq :ₛ true = true)) <;> (fail_if_success (guard_hyp hq :ₛ false = false)) <;> first | (exfalso; cases hq; done) | (exfalso; simp only [decide_eq_true_eq, decide_eq_false_iff_not, beq_iff_eq, beq_eq_false_iff_ne, ne_eq, Int.not_lt, Int.not_le] at hq; omega) | simp only [Act.put, List.setIfInBounds_toArray, List.set_cons_succ, List.set_cons_zero]))); all_goals (refine Mix.lex_nil ?_)))
      go_ret2
      rw [hgr.out, if_neg (by simp)]
      refine ⟨a.oA, a.oc, gs, ?_, ?_, X4.out⟩
      · rw [← HM.out, List.length_map]; rfl
      · have := HG4.out.grps
        rw [HM.out] at this
        exact this
    · rw [errV_pos h0]
      clear hz o4 HV
      go_wp2_with (first | ((first | refine Mix.wpList_guarded rfl ?_ | refine Mix.wp_still (by kernel_rfl) (by kernel_rfl) ?_); (repeat' (first | (refine Mix.lex_quiet0 rfl rfl rfl ?_; intro K hK; go_big_quiet_op; go_big_quiet_on) | (refine Mix.lex_quietG rfl rfl rfl (by with_reducible rfl) rfl rfl ?_; intro K hK; go_big_quiet_op; go_big_quiet_on) | ((first | refine Mix.lex_skipT rfl rfl rfl (by with_reducible rfl) ?_ | refine Mix.lex_skipF rfl rfl rfl (by with_reducible rfl) ?_ | refine Mix.lex_skipU rfl rfl rfl (by with_reducible rfl) ?_); simp only [Act.put, List.setIfInBounds_toArray, List.set_cons_succ, List.set_cons_zero]) | (refine Mix.lex_part rfl rfl rfl rfl (fun hq => ?_) (fun hq => ?_) <;> (fail_if_success (guard_hyp hq :ₛ true = true)) <;> (fail_if_success (guard_hyp hq :ₛ false = false)) <;> first | (exfalso; cases hq; done) | (exfalso; simp only [decide_eq_true_eq, decide_eq_false_iff_not, beq_iff_eq, beq_eq_false_iff_ne, ne_eq, Int.not_lt, Int.not_le] at hq; omega) | simp only [Act.put, List.setIfInBounds_toArray, List.set_cons_succ, List.set_cons_zero]))); all_goals (refine Mix.lex_nil ?_)))
      go_ret2
      rw [hgr.out, if_pos h0]
      exact ⟨none, 0, [], by rw [show ((([] : List Grp), code).2) = code from rfl, errV_pos h0]; rfl, GrpsR.nil _, X4.out⟩
end Go.Proofs.YtnhaekifcieeoaaGreatDoor

/- How long the texts of a rule are. Plain: no program. -/
namespace Go.Proofs.YtnhaekifcieeoaaGreatDoor
open Go Go.RowKit
theorem word_len {s : Str} (h : wordB s = true) : s.length ≤ 8 := by
  unfold wordB nameB at h
  simp only [Bool.and_eq_true, decide_eq_true_eq] at h
  obtain ⟨⟨_, h⟩, _⟩ := h
  unfold onceF at h
  split at h
  · rename_i hc
    have := congrArg List.length (cut_parts 37 s hc)
    simp only [List.length_append, List.length_cons, List.length_nil] at this h
    omega
  · exact h
theorem okFrom_len {p : Bool} : ∀ {l seen : List Str}, okFrom p seen l = true → ∀ x ∈ l, x.length ≤ 8
  | [], _, _, x, hx => by cases hx
  | y :: r, seen, h, x, hx => by
    unfold okFrom at h
    simp only [Bool.and_eq_true] at h
    rcases List.mem_cons.1 hx with rfl | hx
    · exact word_len h.1.1.1
    · exact okFrom_len h.2 x hx
structure RLen (r : Rul) : Prop where
  t : ∀ x ∈ r.targets, x.length ≤ 8
  n : ∀ x ∈ r.needs, x.length ≤ 8
  c : ∀ x ∈ r.cmds, x.length ≤ 28
structure MLen (m : Mk) : Prop where
  r : ∀ x ∈ m.rules, RLen x
  p : ∀ x ∈ m.phony, x.length ≤ 8
theorem mk0_len : MLen mk0 := ⟨(fun x hx => by cases hx), (fun x hx => by cases hx)⟩
theorem headF_mlen {m : Mk} (h : MLen m) (s : Str) : MLen (headF m s).1 := by
  unfold headF
  split
  · exact h
  · split
    · exact h
    · split
      · exact h
      · split
        · rename_i h4
          unfold allOk at h4
          rw [Bool.and_eq_true] at h4
          have h5 := okFrom_len h4.1
          refine ⟨fun x hx => ?_, h.p⟩
          rcases List.mem_append.1 hx with hx | hx
          · exact h.r x hx
          · obtain rfl := List.mem_singleton.1 hx
            exact ⟨fun y hy => h5 y (List.mem_append_left _ hy), fun y hy => h5 y (List.mem_append_right _ hy), (fun y hy => by cases hy)⟩
        · exact h
theorem cmdF_mlen {m : Mk} (h : MLen m) (s : Str) : MLen (cmdF m s).1 := by
  unfold cmdF
  split
  · exact h
  · rename_i r hr
    split
    · exact h
    · split
      · exact h
      · rename_i h3
        have hm := h.r r (List.mem_of_getLast? hr)
        refine ⟨fun x hx => ?_, h.p⟩
        rcases List.mem_append.1 hx with hx | hx
        · exact h.r x (List.dropLast_subset _ hx)
        · obtain rfl := List.mem_singleton.1 hx
          refine ⟨hm.t, hm.n, fun y hy => ?_⟩
          rcases List.mem_append.1 hy with hy | hy
          · exact hm.c y hy
          · obtain rfl := List.mem_singleton.1 hy
            omega
theorem lineF_mlen {m : Mk} (h : MLen m) (s : Str) : MLen (lineF m s).1 := by
  cases s with
  | nil => exact h
  | cons x r =>
    rw [lineF_cons]
    split
    · exact h
    · split
      · exact cmdF_mlen h r
      · split
        · unfold phoF
          split
          · exact h
          · rename_i h1
            refine ⟨h.r, fun y hy => ?_⟩
            rcases List.mem_append.1 hy with hy | hy
            · exact h.p y hy
            · obtain rfl := List.mem_singleton.1 hy
              rw [not_or] at h1
              have h2 := h1.1
              rw [Bool.not_eq_false] at h2
              unfold nameB at h2
              simp only [Bool.and_eq_true, decide_eq_true_eq] at h2
              exact h2.1.2
        · split
          · unfold varF
            split
            · exact h
            · split
              · exact h
              · exact ⟨h.r, h.p⟩
          · exact headF_mlen h _
theorem foldF_mlen : ∀ (ls : List Str) (m : Mk), MLen m → MLen (foldF ls m).1
  | [], _, h => h
  | l :: ls, m, h => by
    unfold foldF
    split
    · exact foldF_mlen ls _ (lineF_mlen h l)
    · exact mk0_len
theorem parseF_mlen (s : Str) : MLen (parseF s).1 := by
  unfold parseF
  split
  · exact mk0_len
  · split
    · exact mk0_len
    · split
      · exact foldF_mlen _ _ mk0_len
      · exact mk0_len
end Go.Proofs.YtnhaekifcieeoaaGreatDoor
