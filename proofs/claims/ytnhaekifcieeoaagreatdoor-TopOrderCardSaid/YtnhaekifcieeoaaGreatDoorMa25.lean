/- Put together: Rp5, Once. -/
import Derived.Lib.FrozenHead
import Derived.Lib.AppendStr
import Derived.Stop.Asserts
import Derived.Test.YtnhaekifcieeoaaGreatDoorMa24
import Derived.Defers
import Derived.Laws.Pointers
import Derived.Laws.LoneSync
import Derived.RegionTactic
import Derived.RegionCalls
import Derived.ChangeAlike
import Derived.Test.YtnhaekifcieeoaaGreatDoorProg
import Derived.Test.YtnhaekifcieeoaaGreatDoorMa01
/- strings.Replacer: what is written. -/
namespace Go.Proofs.YtnhaekifcieeoaaGreatDoor
open Go Go.RowKit
abbrev aswT : TypeId := 294
abbrev byT5 : TypeId := 5
theorem by_info5 : (Tryz.prog.info? byT5).map (fun i => (i.zero, i.size, i.bytes)) = some (some (.int .u8 0), 1, 1) := by kernel_rfl
/-- A buffer that holds 'l'. -/
structure Buf (w u : World) (b : Nat) (A : Option Addr) (c : Nat) (l : Str) : Prop where
  cs : Cs u b aswT #[.slice A l.length c]
  own : u.ownsRow w.heap.size byT5 1 (.slice A l.length c) l.length (Lib.strCells ⟨l.toArray⟩)
  x : Ext w u
  hb : w.heap.size ≤ b
theorem strCells_app (l s : Str) : Lib.strCells ⟨l.toArray⟩ ++ Lib.strCells ⟨s.toArray⟩ = Lib.strCells ⟨(l ++ s).toArray⟩ := by simp [Lib.strCells]
theorem Buf.ext {w u v : World} {b : Nat} {A : Option Addr} {c : Nat} {l : Str} (h : Buf w u b A c l) (hx : Ext u v) : Buf w v b A c l := ⟨h.cs.keep hx id, own_keep h.own hx (fun _ _ => id), h.x.then_ext hx, h.hb⟩
set_option maxRecDepth 100000 in
set_option maxHeartbeats 1000000 in
theorem aswWrite_c {w u : World} {b : Nat} {A : Option Addr} {c : Nat} {l : Str} (h : Buf w u b A c l) (s : Str) (hl : l.length + s.length ≤ 1000000000) :
    Calls Tryz.prog 243 #[rpt b, S s] u fun e u' => e = .returned (.tuple #[.int .i64 s.length, .nilIface]) ∧ ∃ A' c', Buf w u' b A' c' (l ++ s) := by
  obtain ⟨i0, hi, hz0, hz1, hz2⟩ := info_parts by_info5
  have c0 : u.cell? ⟨b, 0, none⟩ = some (.slice A l.length c) := h.cs.cell 0
  have H := Lib.hid h
  have hown := h.own
  have hsz := h.x.size
  clear h
  go_enter Tryz.func243, Tryz.ntmps243
  go_wp2_with (at_builtin; refine Lib.wpList_append_own_string _ rfl _ _ 294 9 rfl w.heap.size byT5 i0 Tryz.underlying294 Tryz.underlying9 hi hz0 hz1 hz2 _ _ _ rfl hown ⟨s.toArray⟩ rfl ?c3 ?c4 ?c5 ?_)
  case c3 => show l.length + s.length ≤ maxLen; unfold maxLen; omega
  case c4 => show l.length + s.length ≤ 140737488355328; omega
  case c5 => exact hsz
  intro v' w2 hown2 hgrow _
  obtain ⟨A', c', rfl⟩ := own_slice hown2
  rw [strCells_app, ← List.length_append] at hown2
  have hne : ∀ g, (Value.slice A l.length c).ownBlock = some g → ¬ g = b := own_ne_cs H.out.own H.out.cs (by decide)
  have hcs2 : Cs w2 b aswT #[.slice A l.length c] := by
    unfold Cs
    rw [hgrow.block b H.out.cs.lt (fun e => hne b e.symm rfl)]
    exact H.out.cs
  have d0 : w2.cell? ⟨b, 0, none⟩ = some (.slice A l.length c) := hcs2.cell 0
  have z0 := hcs2.frozen 0
  have HB : Hid (∀ n, n = (l ++ s).length → Buf w (w2.setCell ⟨b, 0, none⟩ (.slice A' n c')) b A' c' (l ++ s)) := fun n hn => by
    subst hn
    have x2 : Ext w w2 := H.out.x.grown hgrow fun g hg => .inl (by
      rcases H.out.own.2 with ⟨hv, _⟩ | ⟨g', cap, cur, hv, hb, _⟩
      · rw [hv] at hg; simp [Value.ownBlock] at hg
      · rw [hv] at hg; simp [Value.ownBlock] at hg; omega)
    have hne2 : ∀ g, (Value.slice A' (l ++ s).length c').ownBlock = some g → ¬ g = b := own_ne_cs hown2 hcs2 (by decide)
    exact ⟨hcs2.set_ 0 _, own_keep hown2 ((Only.refl (fun x => x = b) w2).at_ 0 _) hne2, x2.setCell (.inl H.out.hb) _, H.out.hb⟩
  clear hown2 hgrow hcs2 hown c0
  go_wp2
  go_ret2
  exact ⟨rfl, A', c', HB.out _ (List.length_append).symm⟩
set_option maxRecDepth 100000 in
theorem getSW_c (b : Nat) (w : World) : Calls Tryz.prog 235 #[.iface 295 (rpt b)] w fun e w' => e = .returned (.iface 295 (rpt b)) ∧ w' = w := by
  have hta : ∀ u, (Instr.typeAssert (.iface 295 (rpt b)) 297 299 true).run Tryz.prog u = .ok (.tuple #[.iface 295 (rpt b), .bool true]) u := fun u =>
    run_typeAssert_hasB Tryz.underlying299 (by kernel_rfl) (rpt b) _ u
  go_enter Tryz.func235, Tryz.ntmps235
  go_wp2_with (first | ((first | refine Mix.wpList_guarded rfl ?_ | refine Mix.wp_still (by kernel_rfl) (by kernel_rfl) ?_); (repeat' (first | (refine Mix.lex_quiet0 rfl rfl rfl ?_; intro K hK; go_big_quiet_op; go_big_quiet_on) | (refine Mix.lex_quietG rfl rfl rfl (by with_reducible rfl) rfl rfl ?_; intro K hK; go_big_quiet_op; go_big_quiet_on) | ((first | refine Mix.lex_skipT rfl rfl rfl (by with_reducible rfl) ?_ | refine Mix.lex_skipF rfl rfl rfl (by with_reducible rfl) ?_ | refine Mix.lex_skipU rfl rfl rfl (by with_reducible rfl) ?_); simp only [Act.put, List.setIfInBounds_toArray, List.set_cons_succ, List.set_cons_zero]) | (refine Mix.lex_part rfl rfl rfl rfl (fun hq => ?_) (fun hq => ?_) <;> (fail_if_success (guard_hyp hq :ₛ true = true)) <;> (fail_if_success (guard_hyp hq :ₛ false = false)) <;> first | (exfalso; cases hq; done) | (exfalso; simp only [decide_eq_true_eq, decide_eq_false_iff_not, beq_iff_eq, beq_eq_false_iff_ne, ne_eq, Int.not_lt, Int.not_le] at hq; omega) | simp only [Act.put, List.setIfInBounds_toArray, List.set_cons_succ, List.set_cons_zero]))); all_goals (refine Mix.lex_nil ?_)))
  go_ret
  exact ⟨rfl, rfl⟩
theorem na_fact : ((Tryz.prog.info? 295).bind fun i => i.methods.find? fun m => m.name == "WriteString").map (fun m => (m.path.toList, m.func)) = some ([], some (243, true)) := by kernel_rfl
theorem na_size : (Tryz.prog.types.size == 0) = false := by kernel_rfl
theorem na_c (b : Nat) (w : World) : (nilAhead (Tryz.prog.types.size + Made.depth) 295 (rpt b) "WriteString").run Tryz.prog w = .ok (some false) w := by
  obtain ⟨m, hm, he⟩ := Option.map_eq_some_iff.1 na_fact
  obtain ⟨i, hi, hf⟩ := Option.bind_eq_some_iff.1 hm
  obtain ⟨n, hn⟩ : ∃ n, Tryz.prog.types.size + Made.depth = n + 1 := ⟨Tryz.prog.types.size + Made.depth - 1, by have := beq_eq_false_iff_ne.1 na_size; omega⟩
  simp only [Prod.mk.injEq] at he
  rw [hn]
  simp [nilAhead, typeInfo, hi, hf, he.1, he.2, followBlind]
theorem mth_c (k b : Nat) (w : World) (hk : k ≠ 0) : (method k 295 (rpt b) "WriteString").run Tryz.prog w = .ok (243, rpt b) w := by
  obtain ⟨m, hm, he⟩ := Option.map_eq_some_iff.1 na_fact
  obtain ⟨i, hi, hf⟩ := Option.bind_eq_some_iff.1 hm
  obtain ⟨n, rfl⟩ : ∃ n, k = n + 1 := ⟨k - 1, by omega⟩
  simp only [Prod.mk.injEq] at he
  simp [method, typeInfo, hi, hf, he.1, he.2, follow, receiverAt, run_underlying Tryz.underlying295, Place.get]
theorem wr64 (n : Int) (h : -9223372036854775808 ≤ n ∧ n ≤ 9223372036854775807) : wrap64 n = n := by unfold wrap64; omega
set_option maxRecDepth 100000 in
set_option maxHeartbeats 4000000 in
theorem genWrite_c {w : World} {g t0 n1 t1 n2 n3 n4 n5 : Nat} {gs : Array Value} {a b c d : Str} (h : Trie w g t0 n1 t1 n2 n3 n4 n5 gs a b c d) (s : Str) (hs : s.length ≤ 1000000) (hL : (autoF (keyV a b c d) s).length ≤ 100000000)
    {u : World} {bb : Nat} {A : Option Addr} {cc : Nat} (hB : Buf w u bb A cc []) :
    Calls Tryz.prog 234 #[rpt g, .iface 295 (rpt bb), S s] u fun e u' => (∃ v, e = .returned v) ∧ ∃ A' c', Buf w u' bb A' c' (autoF (keyV a b c d) s) := by
  have H := Lib.hid h
  have HB := Lib.hid hB
  clear h hB
  obtain ⟨v, hv⟩ : ∃ v, v = keyV a b c d := ⟨_, rfl⟩
  have HLk : Hid (∀ (r : Str) u, r.length ≤ 1000000 → Ext w u → Calls Tryz.prog 236 #[rpt g, S r, .bool false] u fun e w' => e = .returned (lookV v r) ∧ Ext u w') := fun r u hr hu => by
    rw [hv]; exact Lookup_c (H.out.ext hu) r hr
  rw [← hv] at hL ⊢
  have HLn := Lib.hid hL
  clear hv hL
  go_enter Tryz.func234, Tryz.ntmps234
  go_wp2_with (first | ((first | refine Mix.wpList_guarded rfl ?_ | refine Mix.wp_still (by kernel_rfl) (by kernel_rfl) ?_); (repeat' (first | (refine Mix.lex_quiet0 rfl rfl rfl ?_; intro K hK; go_big_quiet_op; go_big_quiet_on) | (refine Mix.lex_quietG rfl rfl rfl (by with_reducible rfl) rfl rfl ?_; intro K hK; go_big_quiet_op; go_big_quiet_on) | ((first | refine Mix.lex_skipT rfl rfl rfl (by with_reducible rfl) ?_ | refine Mix.lex_skipF rfl rfl rfl (by with_reducible rfl) ?_ | refine Mix.lex_skipU rfl rfl rfl (by with_reducible rfl) ?_); simp only [Act.put, List.setIfInBounds_toArray, List.set_cons_succ, List.set_cons_zero]) | (refine Mix.lex_part rfl rfl rfl rfl (fun hq => ?_) (fun hq => ?_) <;> (fail_if_success (guard_hyp hq :ₛ true = true)) <;> (fail_if_success (guard_hyp hq :ₛ false = false)) <;> first | (exfalso; cases hq; done) | (exfalso; simp only [decide_eq_true_eq, decide_eq_false_iff_not, beq_iff_eq, beq_eq_false_iff_ne, ne_eq, Int.not_lt, Int.not_le] at hq; omega) | simp only [Act.put, List.setIfInBounds_toArray, List.set_cons_succ, List.set_cons_zero]))); all_goals (refine Mix.lex_nil ?_)))
  refine (getSW_c bb u).mono ?_
  rintro e u1 ⟨rfl, rfl⟩
  go_wp2_with (first | ((first | refine Mix.wpList_guarded rfl ?_ | refine Mix.wp_still (by kernel_rfl) (by kernel_rfl) ?_); (repeat' (first | (refine Mix.lex_quiet0 rfl rfl rfl ?_; intro K hK; go_big_quiet_op; go_big_quiet_on) | (refine Mix.lex_quietG rfl rfl rfl (by with_reducible rfl) rfl rfl ?_; intro K hK; go_big_quiet_op; go_big_quiet_on) | ((first | refine Mix.lex_skipT rfl rfl rfl (by with_reducible rfl) ?_ | refine Mix.lex_skipF rfl rfl rfl (by with_reducible rfl) ?_ | refine Mix.lex_skipU rfl rfl rfl (by with_reducible rfl) ?_); simp only [Act.put, List.setIfInBounds_toArray, List.set_cons_succ, List.set_cons_zero]) | (refine Mix.lex_part rfl rfl rfl rfl (fun hq => ?_) (fun hq => ?_) <;> (fail_if_success (guard_hyp hq :ₛ true = true)) <;> (fail_if_success (guard_hyp hq :ₛ false = false)) <;> first | (exfalso; cases hq; done) | (exfalso; simp only [decide_eq_true_eq, decide_eq_false_iff_not, beq_iff_eq, beq_eq_false_iff_ne, ne_eq, Int.not_lt, Int.not_le] at hq; omega) | simp only [Act.put, List.setIfInBounds_toArray, List.set_cons_succ, List.set_cons_zero]))); all_goals (refine Mix.lex_nil ?_)))
  go_loopw [6, 7, 9, 10, 11, 12] (fun x6 x7 x9 x10 x11 x12 wr => ∃ (i l : Nat) (q : Int) (B : Str) (A' : Option Addr) (c' : Nat), i ≤ s.length + 1 ∧ l ≤ i ∧ l ≤ s.length ∧ x6 = .int .i64 (B.length : Int) ∧ x7 = .nilIface ∧ x9 = .int .i64 (l : Int) ∧ x10 = .int .i64 q ∧ x11 = .bool false ∧ x12 = .int .i64 (i : Int) ∧ Buf w wr bb A' c' B ∧ autoF v s = B ++ (s.take i).drop l ++ autoF v (s.drop i)) (fun _ _ _ _ _ x12 _ => s.length + 1 - (intOf x12).toNat)
  case atStart => exact ⟨0, 0, 0, [], A, cc, by omega, Nat.le_refl _, Nat.zero_le _, rfl, rfl, rfl, rfl, rfl, rfl, HB.out, by simp⟩
  case round =>
    clear HB
    obtain ⟨i, l, q, B, A', c', hi, hli, hl, rfl, rfl, rfl, rfl, rfl, rfl, hB, hE⟩ := hrel
    have HB := Lib.hid hB
    have HE := Lib.hid hE
    have XW := Lib.hid hB.x
    clear hB hE
    have g1 : ∀ u, Ext w u → u.cell? ⟨g, 1, none⟩ = some (.int .i64 0) := fun u hu => (hu.cell H.out.gen.lt id).trans ((H.out.gen.cell 1).trans H.out.ok.p1)
    have g1' := g1 _ XW.out
    have g4' : wr.cell? ⟨g, 4, none⟩ = some (.slice (some ⟨t0, 0, none⟩) 5 5) := (XW.out.cell H.out.gen.lt id).trans ((H.out.gen.cell 4).trans H.out.ok.p4)
    have g5' : wr.cell? ⟨g, 5, none⟩ = some (.int .i64 5) := (XW.out.cell H.out.gen.lt id).trans ((H.out.gen.cell 5).trans H.out.ok.p5)
    rcases Nat.lt_trichotomy i s.length with hlt | heq | hgt
    · have hneb : (((i : Nat) : Int) != ((s.length : Nat) : Int)) = true := by rw [bne_iff_ne]; omega
      have hx8 : s[i].toNat < 256 := s[i].toNat_lt
      obtain ⟨m, hm, hM⟩ := H.out.root s[i]
      have cm : ∀ ξ : X wr No, ξ.v.cell? ⟨g, 6 + s[i].toNat, none⟩ = some (.int .u8 m) := fun ξ => (((XW.out.trans ξ.h fun _ _ e => e.elim)).cell H.out.gen.lt id).trans ((H.out.gen.cell _).trans hm)
      clear hm
      go_upto_region 7 with (first | (refine Mix.wpList_guarded rfl ?_; (repeat' (first | (refine Mix.lex_quiet0 rfl rfl rfl ?_; intro K hK; go_big_quiet_op; go_big_quiet_on) | (refine Mix.lex_quietG rfl rfl rfl (by with_reducible rfl) rfl rfl ?_; intro K hK; go_big_quiet_op; go_big_quiet_on) | ((first | refine Mix.lex_skipT rfl rfl rfl (by with_reducible rfl) ?_ | refine Mix.lex_skipF rfl rfl rfl (by with_reducible rfl) ?_ | refine Mix.lex_skipU rfl rfl rfl (by with_reducible rfl) ?_); simp only [Act.put, List.setIfInBounds_toArray, List.set_cons_succ, List.set_cons_zero]) | (refine Mix.lex_part rfl rfl rfl rfl (fun hq => ?_) (fun hq => ?_) <;> (fail_if_success (guard_hyp hq :ₛ true = true)) <;> (fail_if_success (guard_hyp hq :ₛ false = false)) <;> first | (exfalso; cases hq; done) | (exfalso; simp only [decide_eq_true_eq, decide_eq_false_iff_not, beq_iff_eq, beq_eq_false_iff_ne, ne_eq, Int.not_lt, Int.not_le] at hq; omega) | simp only [Act.put, List.setIfInBounds_toArray, List.set_cons_succ, List.set_cons_zero]))); all_goals (refine Mix.lex_nil ?_)))
      (refine Mix.wp_draw [] 100 (Cl (wr) (No)) (by kernel_rfl) (by kernel_rfl) (Cl.drew_ (X.here wr No)) ?_; (repeat' (first | (refine Mix.lex_quiet0 rfl rfl rfl ?_; intro K hK; go_big_quiet_op; go_big_quiet_on) | (refine Mix.lex_quietG rfl rfl rfl (by with_reducible rfl) rfl rfl ?_; intro K hK; go_big_quiet_op; go_big_quiet_on) | ((first | refine Mix.lex_skipT rfl rfl rfl (by with_reducible rfl) ?_ | refine Mix.lex_skipF rfl rfl rfl (by with_reducible rfl) ?_ | refine Mix.lex_skipU rfl rfl rfl (by with_reducible rfl) ?_); simp only [Act.put, List.setIfInBounds_toArray, List.set_cons_succ, List.set_cons_zero]) | (refine Mix.lex_part rfl rfl rfl rfl (fun hq => ?_) (fun hq => ?_) <;> (fail_if_success (guard_hyp hq :ₛ true = true)) <;> (fail_if_success (guard_hyp hq :ₛ false = false)) <;> first | (exfalso; cases hq; done) | (exfalso; simp only [decide_eq_true_eq, decide_eq_false_iff_not, beq_iff_eq, beq_eq_false_iff_ne, ne_eq, Int.not_lt, Int.not_le] at hq; omega) | simp only [Act.put, List.setIfInBounds_toArray, List.set_cons_succ, List.set_cons_zero]))))
      all_goals (refine Mix.lex_nil ?_)
      have hdn : s.drop i = s[i] :: s.drop (i + 1) := List.drop_eq_getElem_cons hlt
      have hstep : lookF v (s.drop i) = none → autoF v s = B ++ (s.take (i + 1)).drop l ++ autoF v (s.drop (i + 1)) := fun hn => by
        rw [HE.out, autoF_drop_miss hn hlt, List.take_add_one, List.getElem?_eq_getElem hlt]
        rw [List.drop_append_of_le_length (by rw [List.length_take]; omega)]
        simp
      have HSt := Lib.hid hstep
      have HDn := Lib.hid hdn
      obtain ⟨w2, hw2⟩ : ∃ u, u = wr.drew := ⟨_, rfl⟩
      have HB2 : Hid (Buf w w2 bb A' c' B) := by rw [hw2]; exact HB.out.ext (Only.refl No wr).drew
      have X2 := Lib.hid HB2.out.x
      rw [← hw2]
      clear hw2 hstep hdn cm g1' g4' g5' HB XW
      have g4' : w2.cell? ⟨g, 4, none⟩ = some (.slice (some ⟨t0, 0, none⟩) 5 5) := (X2.out.cell H.out.gen.lt id).trans ((H.out.gen.cell 4).trans H.out.ok.p4)
      have g5' : w2.cell? ⟨g, 5, none⟩ = some (.int .i64 5) := (X2.out.cell H.out.gen.lt id).trans ((H.out.gen.cell 5).trans H.out.ok.p5)
      rcases hM with ⟨rfl, hx⟩ | ⟨hm5, hx, hc⟩ | ⟨hm5, hx, hc⟩
      · have HX := Lib.hid hx
        clear hx
        go_wp2_with (first | ((first | refine Mix.wpList_guarded rfl ?_ | refine Mix.wp_still (by kernel_rfl) (by kernel_rfl) ?_); (repeat' (first | (refine Mix.lex_quiet0 rfl rfl rfl ?_; intro K hK; go_big_quiet_op; go_big_quiet_on) | (refine Mix.lex_quietG rfl rfl rfl (by with_reducible rfl) rfl rfl ?_; intro K hK; go_big_quiet_op; go_big_quiet_on) | ((first | refine Mix.lex_skipT rfl rfl rfl (by with_reducible rfl) ?_ | refine Mix.lex_skipF rfl rfl rfl (by with_reducible rfl) ?_ | refine Mix.lex_skipU rfl rfl rfl (by with_reducible rfl) ?_); simp only [Act.put, List.setIfInBounds_toArray, List.set_cons_succ, List.set_cons_zero]) | (refine Mix.lex_part rfl rfl rfl rfl (fun hq => ?_) (fun hq => ?_) <;> (fail_if_success (guard_hyp hq :ₛ true = true)) <;> (fail_if_success (guard_hyp hq :ₛ false = false)) <;> first | (exfalso; cases hq; done) | (exfalso; simp only [decide_eq_true_eq, decide_eq_false_iff_not, beq_iff_eq, beq_eq_false_iff_ne, ne_eq, Int.not_lt, Int.not_le] at hq; omega) | simp only [Act.put, List.setIfInBounds_toArray, List.set_cons_succ, List.set_cons_zero]))); all_goals (refine Mix.lex_nil ?_)))
        go_roundw
        case rel => exact ⟨i + 1, l, q, B, A', c', by omega, by omega, hl, rfl, rfl, rfl, rfl, rfl, by go_num, HB2.out, HSt.out (by rw [HDn.out]; exact lookF_ne HX.out)⟩
        case measure => simp [intOf]; omega
      · have hc : w2.cell? ⟨t0, m, none⟩ = some (rpt n1) := (X2.out.cell (World.block_lt_of_cell? _ _ hc) id).trans hc
        have hne : ¬ ((m : Int) = 5) := by omega
        have HX := Lib.hid hx
        clear hx
        go_upto_region 10 with (first | (refine Mix.wpList_guarded rfl ?_; (repeat' (first | (refine Mix.lex_quiet0 rfl rfl rfl ?_; intro K hK; go_big_quiet_op; go_big_quiet_on) | (refine Mix.lex_quietG rfl rfl rfl (by with_reducible rfl) rfl rfl ?_; intro K hK; go_big_quiet_op; go_big_quiet_on) | ((first | refine Mix.lex_skipT rfl rfl rfl (by with_reducible rfl) ?_ | refine Mix.lex_skipF rfl rfl rfl (by with_reducible rfl) ?_ | refine Mix.lex_skipU rfl rfl rfl (by with_reducible rfl) ?_); simp only [Act.put, List.setIfInBounds_toArray, List.set_cons_succ, List.set_cons_zero]) | (refine Mix.lex_part rfl rfl rfl rfl (fun hq => ?_) (fun hq => ?_) <;> (fail_if_success (guard_hyp hq :ₛ true = true)) <;> (fail_if_success (guard_hyp hq :ₛ false = false)) <;> first | (exfalso; cases hq; done) | (exfalso; simp only [decide_eq_true_eq, decide_eq_false_iff_not, beq_iff_eq, beq_eq_false_iff_ne, ne_eq, Int.not_lt, Int.not_le] at hq; omega) | simp only [Act.put, List.setIfInBounds_toArray, List.set_cons_succ, List.set_cons_zero]))); all_goals (refine Mix.lex_nil ?_)))
        have hlk := Lib.hid (HLk.out (s.drop i) w2 (by rw [List.length_drop]; omega) X2.out)
        obtain ⟨t, ht⟩ : ∃ t, t = lookF v (s.drop i) := ⟨_, rfl⟩
        have HT := Lib.hid ht
        clear ht
        cases t with
        | none =>
          have hlk : Hid (Calls Tryz.prog 236 #[rpt g, S (s.drop i), .bool false] w2 fun e w' => e = .returned (.tuple #[S [], .int .i64 0, .bool false]) ∧ Ext w2 w') := by
            have := hlk.out
            rwa [lookV_none HT.out.symm] at this
          go_wp2_with (first | ((first | refine Mix.wpList_guarded rfl ?_ | refine Mix.wp_still (by kernel_rfl) (by kernel_rfl) ?_); (repeat' (first | (refine Mix.lex_quiet0 rfl rfl rfl ?_; intro K hK; go_big_quiet_op; go_big_quiet_on) | (refine Mix.lex_quietG rfl rfl rfl (by with_reducible rfl) rfl rfl ?_; intro K hK; go_big_quiet_op; go_big_quiet_on) | ((first | refine Mix.lex_skipT rfl rfl rfl (by with_reducible rfl) ?_ | refine Mix.lex_skipF rfl rfl rfl (by with_reducible rfl) ?_ | refine Mix.lex_skipU rfl rfl rfl (by with_reducible rfl) ?_); simp only [Act.put, List.setIfInBounds_toArray, List.set_cons_succ, List.set_cons_zero]) | (refine Mix.lex_part rfl rfl rfl rfl (fun hq => ?_) (fun hq => ?_) <;> (fail_if_success (guard_hyp hq :ₛ true = true)) <;> (fail_if_success (guard_hyp hq :ₛ false = false)) <;> first | (exfalso; cases hq; done) | (exfalso; simp only [decide_eq_true_eq, decide_eq_false_iff_not, beq_iff_eq, beq_eq_false_iff_ne, ne_eq, Int.not_lt, Int.not_le] at hq; omega) | simp only [Act.put, List.setIfInBounds_toArray, List.set_cons_succ, List.set_cons_zero]))); all_goals (refine Mix.lex_nil ?_)))
          refine hlk.out.mono ?_
          rintro e w3 ⟨rfl, hx3⟩
          have HB3 := Lib.hid (HB2.out.ext hx3)
          clear hx3 hlk HB2 X2 g4' g5' hc
          go_wp2_with (first | ((first | refine Mix.wpList_guarded rfl ?_ | refine Mix.wp_still (by kernel_rfl) (by kernel_rfl) ?_); (repeat' (first | (refine Mix.lex_quiet0 rfl rfl rfl ?_; intro K hK; go_big_quiet_op; go_big_quiet_on) | (refine Mix.lex_quietG rfl rfl rfl (by with_reducible rfl) rfl rfl ?_; intro K hK; go_big_quiet_op; go_big_quiet_on) | ((first | refine Mix.lex_skipT rfl rfl rfl (by with_reducible rfl) ?_ | refine Mix.lex_skipF rfl rfl rfl (by with_reducible rfl) ?_ | refine Mix.lex_skipU rfl rfl rfl (by with_reducible rfl) ?_); simp only [Act.put, List.setIfInBounds_toArray, List.set_cons_succ, List.set_cons_zero]) | (refine Mix.lex_part rfl rfl rfl rfl (fun hq => ?_) (fun hq => ?_) <;> (fail_if_success (guard_hyp hq :ₛ true = true)) <;> (fail_if_success (guard_hyp hq :ₛ false = false)) <;> first | (exfalso; cases hq; done) | (exfalso; simp only [decide_eq_true_eq, decide_eq_false_iff_not, beq_iff_eq, beq_eq_false_iff_ne, ne_eq, Int.not_lt, Int.not_le] at hq; omega) | simp only [Act.put, List.setIfInBounds_toArray, List.set_cons_succ, List.set_cons_zero]))); all_goals (refine Mix.lex_nil ?_)))
          go_roundw
          case rel => exact ⟨i + 1, l, q, B, A', c', by omega, by omega, hl, rfl, rfl, rfl, rfl, rfl, by go_num, HB3.out, HSt.out HT.out.symm⟩
          case measure => simp [intOf]; omega
        | some t =>
          have hlk : Hid (Calls Tryz.prog 236 #[rpt g, S (s.drop i), .bool false] w2 fun e w' => e = .returned (.tuple #[S t, .int .i64 2, .bool true]) ∧ Ext w2 w') := by
            have := hlk.out
            rwa [lookV_some HT.out.symm] at this
          obtain ⟨hA1, hi2⟩ := autoF_drop_hit HT.out.symm
          have hE3 : autoF v s = (B ++ (s.take i).drop l ++ t) ++ autoF v (s.drop (i + 2)) := by rw [HE.out, hA1]; simp
          have hlen : ((B ++ (s.take i).drop l) ++ t).length ≤ 100000000 := by
            have h1 := congrArg List.length hE3
            rw [List.length_append] at h1
            have := HLn.out
            omega
          have HE3 := Lib.hid hE3
          rw [List.length_append] at hlen
          have hlen1 : B.length + ((s.take i).drop l).length ≤ 100000000 := by
            rw [← List.length_append]; omega
          have HLen := Lib.hid (And.intro hlen hlen1)
          clear hA1 hE3 hlen hlen1 HSt HDn HE
          go_wp2_with (first | ((first | refine Mix.wpList_guarded rfl ?_ | refine Mix.wp_still (by kernel_rfl) (by kernel_rfl) ?_); (repeat' (first | (refine Mix.lex_quiet0 rfl rfl rfl ?_; intro K hK; go_big_quiet_op; go_big_quiet_on) | (refine Mix.lex_quietG rfl rfl rfl (by with_reducible rfl) rfl rfl ?_; intro K hK; go_big_quiet_op; go_big_quiet_on) | ((first | refine Mix.lex_skipT rfl rfl rfl (by with_reducible rfl) ?_ | refine Mix.lex_skipF rfl rfl rfl (by with_reducible rfl) ?_ | refine Mix.lex_skipU rfl rfl rfl (by with_reducible rfl) ?_); simp only [Act.put, List.setIfInBounds_toArray, List.set_cons_succ, List.set_cons_zero]) | (refine Mix.lex_part rfl rfl rfl rfl (fun hq => ?_) (fun hq => ?_) <;> (fail_if_success (guard_hyp hq :ₛ true = true)) <;> (fail_if_success (guard_hyp hq :ₛ false = false)) <;> first | (exfalso; cases hq; done) | (exfalso; simp only [decide_eq_true_eq, decide_eq_false_iff_not, beq_iff_eq, beq_eq_false_iff_ne, ne_eq, Int.not_lt, Int.not_le] at hq; omega) | simp only [Act.put, List.setIfInBounds_toArray, List.set_cons_succ, List.set_cons_zero]))); all_goals (refine Mix.lex_nil ?_)))
          refine hlk.out.mono ?_
          rintro e w3 ⟨rfl, hx3⟩
          have HB3 := Lib.hid (HB2.out.ext hx3)
          clear hx3 hlk HB2 X2 g4' g5' hc
          have HW1 := Lib.hid (aswWrite_c (HB3.out.ext (Only.refl No w3).drew) ((s.take i).drop l) (by have := HLen.out.2; omega))
          go_upto_region 13 with (first | (refine Mix.wpList_guarded rfl ?_; (repeat' (first | (refine Mix.lex_quiet0 rfl rfl rfl ?_; intro K hK; go_big_quiet_op; go_big_quiet_on) | (refine Mix.lex_quietG rfl rfl rfl (by with_reducible rfl) rfl rfl ?_; intro K hK; go_big_quiet_op; go_big_quiet_on) | ((first | refine Mix.lex_skipT rfl rfl rfl (by with_reducible rfl) ?_ | refine Mix.lex_skipF rfl rfl rfl (by with_reducible rfl) ?_ | refine Mix.lex_skipU rfl rfl rfl (by with_reducible rfl) ?_); simp only [Act.put, List.setIfInBounds_toArray, List.set_cons_succ, List.set_cons_zero]) | (refine Mix.lex_part rfl rfl rfl rfl (fun hq => ?_) (fun hq => ?_) <;> (fail_if_success (guard_hyp hq :ₛ true = true)) <;> (fail_if_success (guard_hyp hq :ₛ false = false)) <;> first | (exfalso; cases hq; done) | (exfalso; simp only [decide_eq_true_eq, decide_eq_false_iff_not, beq_iff_eq, beq_eq_false_iff_ne, ne_eq, Int.not_lt, Int.not_le] at hq; omega) | simp only [Act.put, List.setIfInBounds_toArray, List.set_cons_succ, List.set_cons_zero]))); all_goals (refine Mix.lex_nil ?_)))
          have hna := na_c bb
          (refine Mix.wp_draw [6, 8] 100 (Cl (w) (No)) (by kernel_rfl) (by kernel_rfl) (Cl.of HB3.out.x.drew) ?_; (repeat' (first | (refine Mix.lex_quiet0 rfl rfl rfl ?_; intro K hK; go_big_quiet_op; go_big_quiet_on) | (refine Mix.lex_quietG rfl rfl rfl (by with_reducible rfl) rfl rfl ?_; intro K hK; go_big_quiet_op; go_big_quiet_on) | ((first | refine Mix.lex_skipT rfl rfl rfl (by with_reducible rfl) ?_ | refine Mix.lex_skipF rfl rfl rfl (by with_reducible rfl) ?_ | refine Mix.lex_skipU rfl rfl rfl (by with_reducible rfl) ?_); simp only [Act.put, List.setIfInBounds_toArray, List.set_cons_succ, List.set_cons_zero]) | (refine Mix.lex_part rfl rfl rfl rfl (fun hq => ?_) (fun hq => ?_) <;> (fail_if_success (guard_hyp hq :ₛ true = true)) <;> (fail_if_success (guard_hyp hq :ₛ false = false)) <;> first | (exfalso; cases hq; done) | (exfalso; simp only [decide_eq_true_eq, decide_eq_false_iff_not, beq_iff_eq, beq_eq_false_iff_ne, ne_eq, Int.not_lt, Int.not_le] at hq; omega) | simp only [Act.put, List.setIfInBounds_toArray, List.set_cons_succ, List.set_cons_zero]))))
          ((first | refine Mix.lex_goes0 rfl rfl ?_ | refine Mix.lex_goesG rfl rfl rfl (by with_reducible rfl) rfl ?_); intro K hK; go_simp)
          refine hK _ _ (fun _ => Cl.of HB3.out.x.drew) ?_
          clear hK K
          simp only [Act.put, List.setIfInBounds_toArray, List.set_cons_succ, List.set_cons_zero]
          have hmt := fun k u hk => mth_c k bb u hk
          (repeat' (first | (refine Mix.lex_quiet0 rfl rfl rfl ?_; intro K hK; go_big_quiet_op; go_big_quiet_on) | (refine Mix.lex_quietG rfl rfl rfl (by with_reducible rfl) rfl rfl ?_; intro K hK; go_big_quiet_op; go_big_quiet_on) | ((first | refine Mix.lex_skipT rfl rfl rfl (by with_reducible rfl) ?_ | refine Mix.lex_skipF rfl rfl rfl (by with_reducible rfl) ?_ | refine Mix.lex_skipU rfl rfl rfl (by with_reducible rfl) ?_); simp only [Act.put, List.setIfInBounds_toArray, List.set_cons_succ, List.set_cons_zero]) | (refine Mix.lex_part rfl rfl rfl rfl (fun hq => ?_) (fun hq => ?_) <;> (fail_if_success (guard_hyp hq :ₛ true = true)) <;> (fail_if_success (guard_hyp hq :ₛ false = false)) <;> first | (exfalso; cases hq; done) | (exfalso; simp only [decide_eq_true_eq, decide_eq_false_iff_not, beq_iff_eq, beq_eq_false_iff_ne, ne_eq, Int.not_lt, Int.not_le] at hq; omega) | simp only [Act.put, List.setIfInBounds_toArray, List.set_cons_succ, List.set_cons_zero])))
          ((first | refine Mix.lex_goes0 rfl rfl ?_ | refine Mix.lex_goesG rfl rfl rfl (by with_reducible rfl) rfl ?_); intro K hK; go_simp)
          refine HW1.out.mono ?_
          rintro e w4 ⟨rfl, A4, c4, hB4⟩
          refine ⟨_, rfl, hK _ _ (fun _ => Cl.of hB4.x) ?_⟩
          clear hK K
          simp only [Act.put, List.setIfInBounds_toArray, List.set_cons_succ, List.set_cons_zero]
          (repeat' (first | (refine Mix.lex_quiet0 rfl rfl rfl ?_; intro K hK; go_big_quiet_op; go_big_quiet_on) | (refine Mix.lex_quietG rfl rfl rfl (by with_reducible rfl) rfl rfl ?_; intro K hK; go_big_quiet_op; go_big_quiet_on) | ((first | refine Mix.lex_skipT rfl rfl rfl (by with_reducible rfl) ?_ | refine Mix.lex_skipF rfl rfl rfl (by with_reducible rfl) ?_ | refine Mix.lex_skipU rfl rfl rfl (by with_reducible rfl) ?_); simp only [Act.put, List.setIfInBounds_toArray, List.set_cons_succ, List.set_cons_zero]) | (refine Mix.lex_part rfl rfl rfl rfl (fun hq => ?_) (fun hq => ?_) <;> (fail_if_success (guard_hyp hq :ₛ true = true)) <;> (fail_if_success (guard_hyp hq :ₛ false = false)) <;> first | (exfalso; cases hq; done) | (exfalso; simp only [decide_eq_true_eq, decide_eq_false_iff_not, beq_iff_eq, beq_eq_false_iff_ne, ne_eq, Int.not_lt, Int.not_le] at hq; omega) | simp only [Act.put, List.setIfInBounds_toArray, List.set_cons_succ, List.set_cons_zero])))
          refine Mix.lex_nil ?_
          have HB4 := Lib.hid hB4
          have HW2 := Lib.hid (aswWrite_c HB4.out t (by rw [List.length_append]; have := HLen.out.1; rw [List.length_append] at this; omega))
          clear hB4 HW1 HB3
          go_wp2_with (first | ((first | refine Mix.wpList_guarded rfl ?_ | refine Mix.wp_still (by kernel_rfl) (by kernel_rfl) ?_); (repeat' (first | (refine Mix.lex_quiet0 rfl rfl rfl ?_; intro K hK; go_big_quiet_op; go_big_quiet_on) | (refine Mix.lex_quietG rfl rfl rfl (by with_reducible rfl) rfl rfl ?_; intro K hK; go_big_quiet_op; go_big_quiet_on) | ((first | refine Mix.lex_skipT rfl rfl rfl (by with_reducible rfl) ?_ | refine Mix.lex_skipF rfl rfl rfl (by with_reducible rfl) ?_ | refine Mix.lex_skipU rfl rfl rfl (by with_reducible rfl) ?_); simp only [Act.put, List.setIfInBounds_toArray, List.set_cons_succ, List.set_cons_zero]) | (refine Mix.lex_part rfl rfl rfl rfl (fun hq => ?_) (fun hq => ?_) <;> (fail_if_success (guard_hyp hq :ₛ true = true)) <;> (fail_if_success (guard_hyp hq :ₛ false = false)) <;> first | (exfalso; cases hq; done) | (exfalso; simp only [decide_eq_true_eq, decide_eq_false_iff_not, beq_iff_eq, beq_eq_false_iff_ne, ne_eq, Int.not_lt, Int.not_le] at hq; omega) | simp only [Act.put, List.setIfInBounds_toArray, List.set_cons_succ, List.set_cons_zero]))); all_goals (refine Mix.lex_nil ?_)))
          refine HW2.out.mono ?_
          rintro e w5 ⟨rfl, A5, c5, hB5⟩
          have HB5 := Lib.hid hB5
          clear hB5 HW2 HB4
          have hdl : ((s.take i).drop l).length = i - l := by rw [List.length_drop, List.length_take]; omega
          have hb1 : B.length + (i - l) + t.length ≤ 100000000 := by have := HLen.out.1; rw [List.length_append, hdl] at this; exact this
          have hb2 : (B ++ (s.take i).drop l ++ t).length = B.length + (i - l) + t.length := by rw [List.length_append, List.length_append, hdl]
          clear hdl
          have HB2 := Lib.hid hb2
          clear hb2
          go_wp2_with (first | ((first | refine Mix.wpList_guarded rfl ?_ | refine Mix.wp_still (by kernel_rfl) (by kernel_rfl) ?_); (repeat' (first | (refine Mix.lex_quiet0 rfl rfl rfl ?_; intro K hK; go_big_quiet_op; go_big_quiet_on) | (refine Mix.lex_quietG rfl rfl rfl (by with_reducible rfl) rfl rfl ?_; intro K hK; go_big_quiet_op; go_big_quiet_on) | ((first | refine Mix.lex_skipT rfl rfl rfl (by with_reducible rfl) ?_ | refine Mix.lex_skipF rfl rfl rfl (by with_reducible rfl) ?_ | refine Mix.lex_skipU rfl rfl rfl (by with_reducible rfl) ?_); simp only [Act.put, List.setIfInBounds_toArray, List.set_cons_succ, List.set_cons_zero]) | (refine Mix.lex_part rfl rfl rfl rfl (fun hq => ?_) (fun hq => ?_) <;> (fail_if_success (guard_hyp hq :ₛ true = true)) <;> (fail_if_success (guard_hyp hq :ₛ false = false)) <;> first | (exfalso; cases hq; done) | (exfalso; simp only [decide_eq_true_eq, decide_eq_false_iff_not, beq_iff_eq, beq_eq_false_iff_ne, ne_eq, Int.not_lt, Int.not_le] at hq; omega) | simp only [Act.put, List.setIfInBounds_toArray, List.set_cons_succ, List.set_cons_zero]))); all_goals (refine Mix.lex_nil ?_)))
          go_roundw
          case rel => exact ⟨i + 2, i + 2, _, B ++ (s.take i).drop l ++ t, A5, c5, by omega, Nat.le_refl _, by omega, by rw [HB2.out, wr64 _ (by rw [wr64 _ (by omega)]; omega), wr64 _ (by omega)]; go_num, rfl, by go_num, rfl, rfl, by go_num, HB5.out, by rw [show (s.take (i + 2)).drop (i + 2) = [] from List.drop_eq_nil_of_le (by rw [List.length_take]; omega), List.append_nil]; exact HE3.out⟩
          case measure => simp [intOf]; omega
      · have hc : w2.cell? ⟨t0, m, none⟩ = some (.pointer none) := (X2.out.cell (World.block_lt_of_cell? _ _ hc) id).trans hc
        have hne : ¬ ((m : Int) = 5) := by omega
        have HX := Lib.hid hx
        clear hx
        go_wp2_with (first | ((first | refine Mix.wpList_guarded rfl ?_ | refine Mix.wp_still (by kernel_rfl) (by kernel_rfl) ?_); (repeat' (first | (refine Mix.lex_quiet0 rfl rfl rfl ?_; intro K hK; go_big_quiet_op; go_big_quiet_on) | (refine Mix.lex_quietG rfl rfl rfl (by with_reducible rfl) rfl rfl ?_; intro K hK; go_big_quiet_op; go_big_quiet_on) | ((first | refine Mix.lex_skipT rfl rfl rfl (by with_reducible rfl) ?_ | refine Mix.lex_skipF rfl rfl rfl (by with_reducible rfl) ?_ | refine Mix.lex_skipU rfl rfl rfl (by with_reducible rfl) ?_); simp only [Act.put, List.setIfInBounds_toArray, List.set_cons_succ, List.set_cons_zero]) | (refine Mix.lex_part rfl rfl rfl rfl (fun hq => ?_) (fun hq => ?_) <;> (fail_if_success (guard_hyp hq :ₛ true = true)) <;> (fail_if_success (guard_hyp hq :ₛ false = false)) <;> first | (exfalso; cases hq; done) | (exfalso; simp only [decide_eq_true_eq, decide_eq_false_iff_not, beq_iff_eq, beq_eq_false_iff_ne, ne_eq, Int.not_lt, Int.not_le] at hq; omega) | simp only [Act.put, List.setIfInBounds_toArray, List.set_cons_succ, List.set_cons_zero]))); all_goals (refine Mix.lex_nil ?_)))
        go_roundw
        case rel => exact ⟨i + 1, l, q, B, A', c', by omega, by omega, hl, rfl, rfl, rfl, rfl, rfl, by go_num, HB2.out, HSt.out (by rw [HDn.out]; exact lookF_ne HX.out)⟩
        case measure => simp [intOf]; omega
    · have hlk : Hid (Calls Tryz.prog 236 #[rpt g, .string ByteArray.empty, .bool false] wr fun e w' => e = .returned (.tuple #[S [], .int .i64 0, .bool false]) ∧ Ext wr w') := by
        have := HLk.out [] wr (by simp) XW.out
        rwa [lookV_none rfl] at this
      have hneb : (((i : Nat) : Int) != ((s.length : Nat) : Int)) = false := by rw [bne_eq_false_iff_eq]; omega
      have HEq := Lib.hid heq
      clear g1 g1' g4' g5'
      go_wp2_with (first | ((first | refine Mix.wpList_guarded rfl ?_ | refine Mix.wp_still (by kernel_rfl) (by kernel_rfl) ?_); (repeat' (first | (refine Mix.lex_quiet0 rfl rfl rfl ?_; intro K hK; go_big_quiet_op; go_big_quiet_on) | (refine Mix.lex_quietG rfl rfl rfl (by with_reducible rfl) rfl rfl ?_; intro K hK; go_big_quiet_op; go_big_quiet_on) | ((first | refine Mix.lex_skipT rfl rfl rfl (by with_reducible rfl) ?_ | refine Mix.lex_skipF rfl rfl rfl (by with_reducible rfl) ?_ | refine Mix.lex_skipU rfl rfl rfl (by with_reducible rfl) ?_); simp only [Act.put, List.setIfInBounds_toArray, List.set_cons_succ, List.set_cons_zero]) | (refine Mix.lex_part rfl rfl rfl rfl (fun hq => ?_) (fun hq => ?_) <;> (fail_if_success (guard_hyp hq :ₛ true = true)) <;> (fail_if_success (guard_hyp hq :ₛ false = false)) <;> first | (exfalso; cases hq; done) | (exfalso; simp only [decide_eq_true_eq, decide_eq_false_iff_not, beq_iff_eq, beq_eq_false_iff_ne, ne_eq, Int.not_lt, Int.not_le] at hq; omega) | simp only [Act.put, List.setIfInBounds_toArray, List.set_cons_succ, List.set_cons_zero]))); all_goals (refine Mix.lex_nil ?_)))
      refine hlk.out.mono ?_
      rintro e w3 ⟨rfl, hx3⟩
      have HB3 := Lib.hid (HB.out.ext hx3)
      clear hx3 hlk HB
      go_wp2_with (first | ((first | refine Mix.wpList_guarded rfl ?_ | refine Mix.wp_still (by kernel_rfl) (by kernel_rfl) ?_); (repeat' (first | (refine Mix.lex_quiet0 rfl rfl rfl ?_; intro K hK; go_big_quiet_op; go_big_quiet_on) | (refine Mix.lex_quietG rfl rfl rfl (by with_reducible rfl) rfl rfl ?_; intro K hK; go_big_quiet_op; go_big_quiet_on) | ((first | refine Mix.lex_skipT rfl rfl rfl (by with_reducible rfl) ?_ | refine Mix.lex_skipF rfl rfl rfl (by with_reducible rfl) ?_ | refine Mix.lex_skipU rfl rfl rfl (by with_reducible rfl) ?_); simp only [Act.put, List.setIfInBounds_toArray, List.set_cons_succ, List.set_cons_zero]) | (refine Mix.lex_part rfl rfl rfl rfl (fun hq => ?_) (fun hq => ?_) <;> (fail_if_success (guard_hyp hq :ₛ true = true)) <;> (fail_if_success (guard_hyp hq :ₛ false = false)) <;> first | (exfalso; cases hq; done) | (exfalso; simp only [decide_eq_true_eq, decide_eq_false_iff_not, beq_iff_eq, beq_eq_false_iff_ne, ne_eq, Int.not_lt, Int.not_le] at hq; omega) | simp only [Act.put, List.setIfInBounds_toArray, List.set_cons_succ, List.set_cons_zero]))); all_goals (refine Mix.lex_nil ?_)))
      go_roundw
      case rel => exact ⟨i + 1, l, q, B, A', c', by omega, by omega, hl, rfl, rfl, rfl, rfl, rfl, by go_num, HB3.out, by
        have h := HE.out
        rw [show s.take i = s from List.take_of_length_le (by omega), show s.drop i = [] from List.drop_eq_nil_of_le (by omega)] at h
        rw [show s.take (i + 1) = s from List.take_of_length_le (by omega), show s.drop (i + 1) = [] from List.drop_eq_nil_of_le (by omega)]
        exact h⟩
      case measure => simp [intOf]; omega
    · obtain rfl : i = s.length + 1 := by omega
      have hE2 : autoF v s = B ++ s.drop l := by
        have := HE.out
        rwa [show s.take (s.length + 1) = s from List.take_of_length_le (by omega), show s.drop (s.length + 1) = [] from List.drop_eq_nil_of_le (by omega), show autoF v [] = [] from rfl, List.append_nil] at this
      have HE2 := Lib.hid hE2
      have hblen : B.length + (s.drop l).length ≤ 100000000 := by
        have h1 := congrArg List.length hE2
        rw [List.length_append] at h1
        have := HLn.out
        omega
      have HBl := Lib.hid hblen
      clear hE2 HE hblen g1 g1' g4' g5'
      by_cases hll : l = s.length
      · have hlb : (((l : Nat) : Int) != ((s.length : Nat) : Int)) = false := by rw [bne_eq_false_iff_eq]; omega
        have HLl := Lib.hid hll
        clear hll
        go_wp2_with (first | ((first | refine Mix.wpList_guarded rfl ?_ | refine Mix.wp_still (by kernel_rfl) (by kernel_rfl) ?_); (repeat' (first | (refine Mix.lex_quiet0 rfl rfl rfl ?_; intro K hK; go_big_quiet_op; go_big_quiet_on) | (refine Mix.lex_quietG rfl rfl rfl (by with_reducible rfl) rfl rfl ?_; intro K hK; go_big_quiet_op; go_big_quiet_on) | ((first | refine Mix.lex_skipT rfl rfl rfl (by with_reducible rfl) ?_ | refine Mix.lex_skipF rfl rfl rfl (by with_reducible rfl) ?_ | refine Mix.lex_skipU rfl rfl rfl (by with_reducible rfl) ?_); simp only [Act.put, List.setIfInBounds_toArray, List.set_cons_succ, List.set_cons_zero]) | (refine Mix.lex_part rfl rfl rfl rfl (fun hq => ?_) (fun hq => ?_) <;> (fail_if_success (guard_hyp hq :ₛ true = true)) <;> (fail_if_success (guard_hyp hq :ₛ false = false)) <;> first | (exfalso; cases hq; done) | (exfalso; simp only [decide_eq_true_eq, decide_eq_false_iff_not, beq_iff_eq, beq_eq_false_iff_ne, ne_eq, Int.not_lt, Int.not_le] at hq; omega) | simp only [Act.put, List.setIfInBounds_toArray, List.set_cons_succ, List.set_cons_zero]))); all_goals (refine Mix.lex_nil ?_)))
        go_ret2
        exact ⟨⟨_, rfl⟩, A', c', by rw [HE2.out, HLl.out, List.drop_length, List.append_nil]; exact HB.out⟩
      · have hlb : (((l : Nat) : Int) != ((s.length : Nat) : Int)) = true := by rw [bne_iff_ne]; omega
        clear hll
        have HW1 := Lib.hid (aswWrite_c (HB.out.ext (Only.refl No wr).drew) (s.drop l) (by have := HBl.out; omega))
        have hna := na_c bb
        have hmt := fun k u hk => mth_c k bb u hk
        go_upto_region 23 with (first | (refine Mix.wpList_guarded rfl ?_; (repeat' (first | (refine Mix.lex_quiet0 rfl rfl rfl ?_; intro K hK; go_big_quiet_op; go_big_quiet_on) | (refine Mix.lex_quietG rfl rfl rfl (by with_reducible rfl) rfl rfl ?_; intro K hK; go_big_quiet_op; go_big_quiet_on) | ((first | refine Mix.lex_skipT rfl rfl rfl (by with_reducible rfl) ?_ | refine Mix.lex_skipF rfl rfl rfl (by with_reducible rfl) ?_ | refine Mix.lex_skipU rfl rfl rfl (by with_reducible rfl) ?_); simp only [Act.put, List.setIfInBounds_toArray, List.set_cons_succ, List.set_cons_zero]) | (refine Mix.lex_part rfl rfl rfl rfl (fun hq => ?_) (fun hq => ?_) <;> (fail_if_success (guard_hyp hq :ₛ true = true)) <;> (fail_if_success (guard_hyp hq :ₛ false = false)) <;> first | (exfalso; cases hq; done) | (exfalso; simp only [decide_eq_true_eq, decide_eq_false_iff_not, beq_iff_eq, beq_eq_false_iff_ne, ne_eq, Int.not_lt, Int.not_le] at hq; omega) | simp only [Act.put, List.setIfInBounds_toArray, List.set_cons_succ, List.set_cons_zero]))); all_goals (refine Mix.lex_nil ?_)))
        (refine Mix.wp_draw [5, 7] 100 (Cl (w) (No)) (by kernel_rfl) (by kernel_rfl) (Cl.of HB.out.x.drew) ?_; (repeat' (first | (refine Mix.lex_quiet0 rfl rfl rfl ?_; intro K hK; go_big_quiet_op; go_big_quiet_on) | (refine Mix.lex_quietG rfl rfl rfl (by with_reducible rfl) rfl rfl ?_; intro K hK; go_big_quiet_op; go_big_quiet_on) | ((first | refine Mix.lex_skipT rfl rfl rfl (by with_reducible rfl) ?_ | refine Mix.lex_skipF rfl rfl rfl (by with_reducible rfl) ?_ | refine Mix.lex_skipU rfl rfl rfl (by with_reducible rfl) ?_); simp only [Act.put, List.setIfInBounds_toArray, List.set_cons_succ, List.set_cons_zero]) | (refine Mix.lex_part rfl rfl rfl rfl (fun hq => ?_) (fun hq => ?_) <;> (fail_if_success (guard_hyp hq :ₛ true = true)) <;> (fail_if_success (guard_hyp hq :ₛ false = false)) <;> first | (exfalso; cases hq; done) | (exfalso; simp only [decide_eq_true_eq, decide_eq_false_iff_not, beq_iff_eq, beq_eq_false_iff_ne, ne_eq, Int.not_lt, Int.not_le] at hq; omega) | simp only [Act.put, List.setIfInBounds_toArray, List.set_cons_succ, List.set_cons_zero]))))
        ((first | refine Mix.lex_goes0 rfl rfl ?_ | refine Mix.lex_goesG rfl rfl rfl (by with_reducible rfl) rfl ?_); intro K hK; go_simp)
        refine hK _ _ (fun _ => Cl.of HB.out.x.drew) ?_
        clear hK K
        simp only [Act.put, List.setIfInBounds_toArray, List.set_cons_succ, List.set_cons_zero]
        (repeat' (first | (refine Mix.lex_quiet0 rfl rfl rfl ?_; intro K hK; go_big_quiet_op; go_big_quiet_on) | (refine Mix.lex_quietG rfl rfl rfl (by with_reducible rfl) rfl rfl ?_; intro K hK; go_big_quiet_op; go_big_quiet_on) | ((first | refine Mix.lex_skipT rfl rfl rfl (by with_reducible rfl) ?_ | refine Mix.lex_skipF rfl rfl rfl (by with_reducible rfl) ?_ | refine Mix.lex_skipU rfl rfl rfl (by with_reducible rfl) ?_); simp only [Act.put, List.setIfInBounds_toArray, List.set_cons_succ, List.set_cons_zero]) | (refine Mix.lex_part rfl rfl rfl rfl (fun hq => ?_) (fun hq => ?_) <;> (fail_if_success (guard_hyp hq :ₛ true = true)) <;> (fail_if_success (guard_hyp hq :ₛ false = false)) <;> first | (exfalso; cases hq; done) | (exfalso; simp only [decide_eq_true_eq, decide_eq_false_iff_not, beq_iff_eq, beq_eq_false_iff_ne, ne_eq, Int.not_lt, Int.not_le] at hq; omega) | simp only [Act.put, List.setIfInBounds_toArray, List.set_cons_succ, List.set_cons_zero])))
        ((first | refine Mix.lex_goes0 rfl rfl ?_ | refine Mix.lex_goesG rfl rfl rfl (by with_reducible rfl) rfl ?_); intro K hK; go_simp)
        refine HW1.out.mono ?_
        rintro e w4 ⟨rfl, A4, c4, hB4⟩
        refine ⟨_, rfl, hK _ _ (fun _ => Cl.of hB4.x) ?_⟩
        clear hK K
        simp only [Act.put, List.setIfInBounds_toArray, List.set_cons_succ, List.set_cons_zero]
        (repeat' (first | (refine Mix.lex_quiet0 rfl rfl rfl ?_; intro K hK; go_big_quiet_op; go_big_quiet_on) | (refine Mix.lex_quietG rfl rfl rfl (by with_reducible rfl) rfl rfl ?_; intro K hK; go_big_quiet_op; go_big_quiet_on) | ((first | refine Mix.lex_skipT rfl rfl rfl (by with_reducible rfl) ?_ | refine Mix.lex_skipF rfl rfl rfl (by with_reducible rfl) ?_ | refine Mix.lex_skipU rfl rfl rfl (by with_reducible rfl) ?_); simp only [Act.put, List.setIfInBounds_toArray, List.set_cons_succ, List.set_cons_zero]) | (refine Mix.lex_part rfl rfl rfl rfl (fun hq => ?_) (fun hq => ?_) <;> (fail_if_success (guard_hyp hq :ₛ true = true)) <;> (fail_if_success (guard_hyp hq :ₛ false = false)) <;> first | (exfalso; cases hq; done) | (exfalso; simp only [decide_eq_true_eq, decide_eq_false_iff_not, beq_iff_eq, beq_eq_false_iff_ne, ne_eq, Int.not_lt, Int.not_le] at hq; omega) | simp only [Act.put, List.setIfInBounds_toArray, List.set_cons_succ, List.set_cons_zero])))
        refine Mix.lex_nil ?_
        go_wp2_with (first | ((first | refine Mix.wpList_guarded rfl ?_ | refine Mix.wp_still (by kernel_rfl) (by kernel_rfl) ?_); (repeat' (first | (refine Mix.lex_quiet0 rfl rfl rfl ?_; intro K hK; go_big_quiet_op; go_big_quiet_on) | (refine Mix.lex_quietG rfl rfl rfl (by with_reducible rfl) rfl rfl ?_; intro K hK; go_big_quiet_op; go_big_quiet_on) | ((first | refine Mix.lex_skipT rfl rfl rfl (by with_reducible rfl) ?_ | refine Mix.lex_skipF rfl rfl rfl (by with_reducible rfl) ?_ | refine Mix.lex_skipU rfl rfl rfl (by with_reducible rfl) ?_); simp only [Act.put, List.setIfInBounds_toArray, List.set_cons_succ, List.set_cons_zero]) | (refine Mix.lex_part rfl rfl rfl rfl (fun hq => ?_) (fun hq => ?_) <;> (fail_if_success (guard_hyp hq :ₛ true = true)) <;> (fail_if_success (guard_hyp hq :ₛ false = false)) <;> first | (exfalso; cases hq; done) | (exfalso; simp only [decide_eq_true_eq, decide_eq_false_iff_not, beq_iff_eq, beq_eq_false_iff_ne, ne_eq, Int.not_lt, Int.not_le] at hq; omega) | simp only [Act.put, List.setIfInBounds_toArray, List.set_cons_succ, List.set_cons_zero]))); all_goals (refine Mix.lex_nil ?_)))
        go_ret2
        exact ⟨⟨_, rfl⟩, A4, c4, by rw [HE2.out]; exact hB4⟩
end Go.Proofs.YtnhaekifcieeoaaGreatDoor

/- sync.Once's road, not yet done and the lock free: one goroutine. -/
namespace Go.Proofs.YtnhaekifcieeoaaGreatDoor
open Go Go.RowKit
theorem on_disable (w : World) : (callFunc 197 #[]).run Tryz.prog w = .ok (.value (.tuple #[])) w := run_call_mark0 Tryz.func197 (by kernel_rfl) (by kernel_rfl) (by kernel_rfl) .disable (by kernel_rfl) w
theorem on_enable (w : World) : (callFunc 199 #[]).run Tryz.prog w = .ok (.value (.tuple #[])) w := run_call_mark0 Tryz.func199 (by kernel_rfl) (by kernel_rfl) (by kernel_rfl) .enable (by kernel_rfl) w
theorem on_acquire (a : Addr) (w : World) : (callFunc 200 #[.pointer (some a)]).run Tryz.prog w = .ok (.value (.tuple #[])) w := run_call_marked Tryz.func200 (by kernel_rfl) (by kernel_rfl) (by kernel_rfl) .acquire (by kernel_rfl) a w
theorem on_release (a : Addr) (w : World) : (callFunc 202 #[.pointer (some a)]).run Tryz.prog w = .ok (.value (.tuple #[])) w := run_call_marked Tryz.func202 (by kernel_rfl) (by kernel_rfl) (by kernel_rfl) .releaseMerge (by kernel_rfl) a w
theorem on_store (a : Addr) (x : Value) (u : FrameMode) (w : World) (hc : w.cell? a = some x) (hz : w.frozen? a = false) :
    CallsD Tryz.prog 186 #[.pointer (some a), .bool true] u w fun e u' w' => u' = u ∧ (e = .returned (.tuple #[]) ∧ w' = w.drew.setCell a (.int .u32 1)) := by
  have hc' : w.drew.cell? a = some x := by go_simp
  have hz' : w.drew.frozen? a = false := by go_simp
  have hst := run_call_store (P := Tryz.prog) Tryz.func193 (by kernel_rfl) (by kernel_rfl) (by kernel_rfl) (by kernel_rfl) (k := .u32) (y := 1) hc' hz'
  go_enter_d Tryz.func186, Tryz.ntmps186
  go_wp2
  go_region_calls
  all_goals (go_end0; exact ⟨rfl, rfl⟩)
set_option maxRecDepth 100000 in
theorem on_unlock (a : Addr) (u : FrameMode) (w : World) (hc : w.cell? a = some (.int .i32 1)) (hz : w.frozen? a = false) :
    CallsD Tryz.prog 185 #[.pointer (some a)] u w fun e u' w' => u' = u ∧ (e = .returned (.tuple #[]) ∧ w' = w.setCell a (.int .i32 0)) := by
  have hd := on_disable
  have he := on_enable
  have hr := on_release
  have hadd := run_call_add (P := Tryz.prog) Tryz.func203 (by kernel_rfl) (by kernel_rfl) (by kernel_rfl) .i32 (by kernel_rfl) (y := -1) (s := 0) hc hz (by simp [go_sem]; rfl)
  have hcv := run_convert_to_unsafe (P := Tryz.prog) (src := 268) (dst := 226) Tryz.underlying268 Tryz.underlying226 (by kernel_rfl) hc
  go_enter_d Tryz.func185, Tryz.ntmps185
  go_wp2
  go_end0
  go_wp2
  go_end0
  exact ⟨rfl, rfl⟩
set_option maxRecDepth 100000 in
theorem on_lock (a : Addr) (w : World) (hc : w.cell? a = some (.int .i32 0)) (hz : w.frozen? a = false) :
    Calls Tryz.prog 184 #[.pointer (some a)] w fun e w' => e = .returned (.tuple #[]) ∧ w' = w.setCell a (.int .i32 1) := by
  have hd := on_disable
  have he := on_enable
  have ha := on_acquire
  have hcas := run_call_cas_hit (P := Tryz.prog) Tryz.func198 (by kernel_rfl) (by kernel_rfl) (by kernel_rfl) .i32 (by kernel_rfl) (y := 1) hc hz
  have hc' : (w.setCell a (.int .i32 1)).cell? a = some (.int .i32 1) := World.cell?_setCell_same w a _ hc
  have hcv := run_convert_to_unsafe (P := Tryz.prog) (src := 268) (dst := 226) Tryz.underlying268 Tryz.underlying226 (by kernel_rfl) hc'
  go_enter Tryz.func184, Tryz.ntmps184
  go_wp2
  first | go_end0 | (simp only [Exit.inBlock, Exit.then]; refine bodyPost_ret (results_none rfl _ _ _) rfl ?_) | refine bodyPost_ret (results_none rfl _ _ _) rfl ?_
  go_wp2
  go_end0
  exact ⟨rfl, rfl⟩
end Go.Proofs.YtnhaekifcieeoaaGreatDoor
