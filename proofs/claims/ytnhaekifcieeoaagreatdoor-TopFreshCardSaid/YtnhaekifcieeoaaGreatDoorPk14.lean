/- Put together: Rp5, Once, Rp6, Rp7, Rp8, Bld. -/
import Derived.Lib.FrozenHead
import Derived.Lib.AppendStr
import Derived.Stop.Asserts
import Derived.Test.YtnhaekifcieeoaaGreatDoorPk13
import Derived.Test.YtnhaekifcieeoaaGreatDoorPk06
import Derived.Defers
import Derived.Laws.Pointers
import Derived.Laws.LoneSync
import Derived.RegionTactic
import Derived.RegionCalls
import Derived.ChangeAlike
import Derived.Test.YtnhaekifcieeoaaGreatDoorProg
import Derived.Test.YtnhaekifcieeoaaGreatDoorPk01
import Derived.Lib.SlBytesRow
import Derived.Test.YtnhaekifcieeoaaGreatDoorPk03
import Derived.Shelf.Strings.BuilderK
import Derived.Laws.Externs
import Derived.OwnWalk
import Derived.Test.YtnhaekifcieeoaaGreatDoorPkS
import Derived.Test.YtnhaekifcieeoaaGreatDoorPk02
namespace Go.Proofs.YtnhaekifcieeoaaGreatDoor
open Go Go.RowKit
abbrev aswT : TypeId := 294
abbrev byT5 : TypeId := 5
theorem by_info5 : (Tryz.prog.info? byT5).map (fun i => (i.zero, i.size, i.bytes)) = some (some (.int .u8 0), 1, 1) := by kernel_rfl
structure Buf (w u : World) (b : Nat) (A : Option Addr) (c : Nat) (l : Str) : Prop where
  cs : Cs u b aswT #[.slice A l.length c]
  own : u.ownsRow w.heap.size byT5 1 (.slice A l.length c) l.length (Lib.strCells ⟨l.toArray⟩)
  x : Ext w u
  hb : w.heap.size ≤ b
theorem strCells_app (l s : Str) : Lib.strCells ⟨l.toArray⟩ ++ Lib.strCells ⟨s.toArray⟩ = Lib.strCells ⟨(l ++ s).toArray⟩ := by simp [Lib.strCells]
theorem Buf.ext {w u v : World} {b : Nat} {A : Option Addr} {c : Nat} {l : Str} (h : Buf w u b A c l) (hx : Ext u v) : Buf w v b A c l := ⟨h.cs.keep hx id, own_keep h.own hx (fun _ _ => id), h.x.then_ext hx, h.hb⟩
set_option maxRecDepth 100000 in
set_option maxHeartbeats 1000000 in
theorem aswWrite_c {w u : World} {b : Nat} {A : Option Addr} {c : Nat} {l : Str} (h : Buf w u b A c l) (s : Str) (hl : l.length + s.length ≤ 1000000000) :
    Calls Tryz.prog 243 #[rpt b, S s] u fun e u' => e = .returned (.tuple #[.int .i64 s.length, .nilIface]) ∧ ∃ A' c', Buf w u' b A' c' (l ++ s) := by
  obtain ⟨i0, hi, hz0, hz1, hz2⟩ := info_parts by_info5
  have c0 : u.cell? ⟨b, 0, none⟩ = some (.slice A l.length c) := h.cs.cell 0
  have H := Lib.hid h
  have hown := h.own
  have hsz := h.x.size
  clear h
  go_enter Tryz.func243, Tryz.ntmps243
  go_wp2_with (at_builtin; refine Lib.wpList_append_own_string _ rfl _ _ 294 9 rfl w.heap.size byT5 i0 Tryz.underlying294 Tryz.underlying9 hi hz0 hz1 hz2 _ _ _ rfl hown ⟨s.toArray⟩ rfl ?c3 ?c4 ?c5 ?_)
  case c3 => show l.length + s.length ≤ maxLen; unfold maxLen; omega
  case c4 => show l.length + s.length ≤ 140737488355328; omega
  case c5 => exact hsz
  intro v' w2 hown2 hgrow _
  obtain ⟨A', c', rfl⟩ := own_slice hown2
  rw [strCells_app, ← List.length_append] at hown2
  have hne : ∀ g, (Value.slice A l.length c).ownBlock = some g → ¬ g = b := own_ne_cs H.out.own H.out.cs (by decide)
  have hcs2 : Cs w2 b aswT #[.slice A l.length c] := by
    unfold Cs
    rw [hgrow.block b H.out.cs.lt (fun e => hne b e.symm rfl)]
    exact H.out.cs
  have d0 : w2.cell? ⟨b, 0, none⟩ = some (.slice A l.length c) := hcs2.cell 0
  have z0 := hcs2.frozen 0
  have HB : Hid (∀ n, n = (l ++ s).length → Buf w (w2.setCell ⟨b, 0, none⟩ (.slice A' n c')) b A' c' (l ++ s)) := fun n hn => by
    subst hn
    have x2 : Ext w w2 := H.out.x.grown hgrow fun g hg => .inl (by
      rcases H.out.own.2 with ⟨hv, _⟩ | ⟨g', cap, cur, hv, hb, _⟩
      · rw [hv] at hg; simp [Value.ownBlock] at hg
      · rw [hv] at hg; simp [Value.ownBlock] at hg; omega)
    have hne2 : ∀ g, (Value.slice A' (l ++ s).length c').ownBlock = some g → ¬ g = b := own_ne_cs hown2 hcs2 (by decide)
    exact ⟨hcs2.set_ 0 _, own_keep hown2 ((Only.refl (fun x => x = b) w2).at_ 0 _) hne2, x2.setCell (.inl H.out.hb) _, H.out.hb⟩
  clear hown2 hgrow hcs2 hown c0
  go_wp2
  go_ret2
  exact ⟨rfl, A', c', HB.out _ (List.length_append).symm⟩
set_option maxRecDepth 100000 in
theorem getSW_c (b : Nat) (w : World) : Calls Tryz.prog 235 #[.iface 295 (rpt b)] w fun e w' => e = .returned (.iface 295 (rpt b)) ∧ w' = w := by
  have hta : ∀ u, (Instr.typeAssert (.iface 295 (rpt b)) 297 299 true).run Tryz.prog u = .ok (.tuple #[.iface 295 (rpt b), .bool true]) u := fun u =>
    run_typeAssert_hasB Tryz.underlying299 (by kernel_rfl) (rpt b) _ u
  go_enter Tryz.func235, Tryz.ntmps235
  go_wp2_with fail
  go_ret
  exact ⟨rfl, rfl⟩
theorem na_fact : ((Tryz.prog.info? 295).bind fun i => i.methods.find? fun m => m.name == "WriteString").map (fun m => (m.path.toList, m.func)) = some ([], some (243, true)) := by kernel_rfl
theorem na_size : (Tryz.prog.types.size == 0) = false := by kernel_rfl
theorem na_c (b : Nat) (w : World) : (nilAhead (Tryz.prog.types.size + Made.depth) 295 (rpt b) "WriteString").run Tryz.prog w = .ok (some false) w := by
  obtain ⟨m, hm, he⟩ := Option.map_eq_some_iff.1 na_fact
  obtain ⟨i, hi, hf⟩ := Option.bind_eq_some_iff.1 hm
  obtain ⟨n, hn⟩ : ∃ n, Tryz.prog.types.size + Made.depth = n + 1 := ⟨Tryz.prog.types.size + Made.depth - 1, by have := beq_eq_false_iff_ne.1 na_size; omega⟩
  simp only [Prod.mk.injEq] at he
  rw [hn]
  simp [nilAhead, typeInfo, hi, hf, he.1, he.2, followBlind]
theorem mth_c (k b : Nat) (w : World) (hk : k ≠ 0) : (method k 295 (rpt b) "WriteString").run Tryz.prog w = .ok (243, rpt b) w := by
  obtain ⟨m, hm, he⟩ := Option.map_eq_some_iff.1 na_fact
  obtain ⟨i, hi, hf⟩ := Option.bind_eq_some_iff.1 hm
  obtain ⟨n, rfl⟩ : ∃ n, k = n + 1 := ⟨k - 1, by omega⟩
  simp only [Prod.mk.injEq] at he
  simp [method, typeInfo, hi, hf, he.1, he.2, follow, receiverAt, run_underlying Tryz.underlying295, Place.get]
theorem wr64 (n : Int) (h : -9223372036854775808 ≤ n ∧ n ≤ 9223372036854775807) : wrap64 n = n := by unfold wrap64; omega
set_option maxRecDepth 100000 in
set_option maxHeartbeats 4000000 in
theorem genWrite_c {w : World} {g t0 n1 t1 n2 n3 n4 n5 : Nat} {gs : Array Value} {a b c d : Str} (h : Trie w g t0 n1 t1 n2 n3 n4 n5 gs a b c d) (s : Str) (hs : s.length ≤ 1000000) (hL : (autoF (keyV a b c d) s).length ≤ 100000000)
    {u : World} {bb : Nat} {A : Option Addr} {cc : Nat} (hB : Buf w u bb A cc []) :
    Calls Tryz.prog 234 #[rpt g, .iface 295 (rpt bb), S s] u fun e u' => (∃ v, e = .returned v) ∧ ∃ A' c', Buf w u' bb A' c' (autoF (keyV a b c d) s) := by
  have H := Lib.hid h
  have HB := Lib.hid hB
  clear h hB
  obtain ⟨v, hv⟩ : ∃ v, v = keyV a b c d := ⟨_, rfl⟩
  have HLk : Hid (∀ (r : Str) u, r.length ≤ 1000000 → Ext w u → Calls Tryz.prog 236 #[rpt g, S r, .bool false] u fun e w' => e = .returned (lookV v r) ∧ Ext u w') := fun r u hr hu => by
    rw [hv]; exact Lookup_c (H.out.ext hu) r hr
  rw [← hv] at hL ⊢
  have HLn := Lib.hid hL
  clear hv hL
  go_enter Tryz.func234, Tryz.ntmps234
  go_wp2_with fail
  refine (getSW_c bb u).mono ?_
  rintro e u1 ⟨rfl, rfl⟩
  go_wp2_with fail
  go_loopw [6, 7, 9, 10, 11, 12] (fun x6 x7 x9 x10 x11 x12 wr => ∃ (i l : Nat) (q : Int) (B : Str) (A' : Option Addr) (c' : Nat), i ≤ s.length + 1 ∧ l ≤ i ∧ l ≤ s.length ∧ x6 = .int .i64 (B.length : Int) ∧ x7 = .nilIface ∧ x9 = .int .i64 (l : Int) ∧ x10 = .int .i64 q ∧ x11 = .bool false ∧ x12 = .int .i64 (i : Int) ∧ Buf w wr bb A' c' B ∧ autoF v s = B ++ (s.take i).drop l ++ autoF v (s.drop i)) (fun _ _ _ _ _ x12 _ => s.length + 1 - (intOf x12).toNat)
  case atStart => exact ⟨0, 0, 0, [], A, cc, by omega, Nat.le_refl _, Nat.zero_le _, rfl, rfl, rfl, rfl, rfl, rfl, HB.out, by simp⟩
  case round =>
    clear HB
    obtain ⟨i, l, q, B, A', c', hi, hli, hl, rfl, rfl, rfl, rfl, rfl, rfl, hB, hE⟩ := hrel
    have HB := Lib.hid hB
    have HE := Lib.hid hE
    have XW := Lib.hid hB.x
    clear hB hE
    have g1 : ∀ u, Ext w u → u.cell? ⟨g, 1, none⟩ = some (.int .i64 0) := fun u hu => (hu.cell H.out.gen.lt id).trans ((H.out.gen.cell 1).trans H.out.ok.p1)
    have g1' := g1 _ XW.out
    have g4' : wr.cell? ⟨g, 4, none⟩ = some (.slice (some ⟨t0, 0, none⟩) 5 5) := (XW.out.cell H.out.gen.lt id).trans ((H.out.gen.cell 4).trans H.out.ok.p4)
    have g5' : wr.cell? ⟨g, 5, none⟩ = some (.int .i64 5) := (XW.out.cell H.out.gen.lt id).trans ((H.out.gen.cell 5).trans H.out.ok.p5)
    rcases Nat.lt_trichotomy i s.length with hlt | heq | hgt
    · have hneb : (((i : Nat) : Int) != ((s.length : Nat) : Int)) = true := by rw [bne_iff_ne]; omega
      have hx8 : s[i].toNat < 256 := s[i].toNat_lt
      obtain ⟨m, hm, hM⟩ := H.out.root s[i]
      have cm : ∀ ξ : X wr No, ξ.v.cell? ⟨g, 6 + s[i].toNat, none⟩ = some (.int .u8 m) := fun ξ => (((XW.out.trans ξ.h fun _ _ e => e.elim)).cell H.out.gen.lt id).trans ((H.out.gen.cell _).trans hm)
      clear hm
      go_upto_region 7 with (first | (refine Mix.wpList_guarded rfl ?_; (repeat' (first | (refine Mix.lex_quiet0 rfl rfl rfl ?_; intro K hK; go_big_quiet_op; go_big_quiet_on) | (refine Mix.lex_quietG rfl rfl rfl (by with_reducible rfl) rfl rfl ?_; intro K hK; go_big_quiet_op; go_big_quiet_on) | ((first | refine Mix.lex_skipT rfl rfl rfl (by with_reducible rfl) ?_ | refine Mix.lex_skipF rfl rfl rfl (by with_reducible rfl) ?_ | refine Mix.lex_skipU rfl rfl rfl (by with_reducible rfl) ?_); simp only [Act.put, List.setIfInBounds_toArray, List.set_cons_succ, List.set_cons_zero]) | (refine Mix.lex_part rfl rfl rfl rfl (fun hq => ?_) (fun hq => ?_) <;> (fail_if_success (guard_hyp hq :ₛ true = true)) <;> (fail_if_success (guard_hyp hq :ₛ false = false)) <;> first | (exfalso; cases hq; done) | (exfalso; simp only [decide_eq_true_eq, decide_eq_false_iff_not, beq_iff_eq, beq_eq_false_iff_ne, ne_eq, Int.not_lt, Int.not_le] at hq; omega) | simp only [Act.put, List.setIfInBounds_toArray, List.set_cons_succ, List.set_cons_zero]))); all_goals (refine Mix.lex_nil ?_)))
      (refine Mix.wp_draw [] 100 (Cl (wr) (No)) (by kernel_rfl) (by kernel_rfl) (Cl.drew_ (X.here wr No)) ?_; (repeat' (first | (refine Mix.lex_quiet0 rfl rfl rfl ?_; intro K hK; go_big_quiet_op; go_big_quiet_on) | (refine Mix.lex_quietG rfl rfl rfl (by with_reducible rfl) rfl rfl ?_; intro K hK; go_big_quiet_op; go_big_quiet_on) | ((first | refine Mix.lex_skipT rfl rfl rfl (by with_reducible rfl) ?_ | refine Mix.lex_skipF rfl rfl rfl (by with_reducible rfl) ?_ | refine Mix.lex_skipU rfl rfl rfl (by with_reducible rfl) ?_); simp only [Act.put, List.setIfInBounds_toArray, List.set_cons_succ, List.set_cons_zero]) | (refine Mix.lex_part rfl rfl rfl rfl (fun hq => ?_) (fun hq => ?_) <;> (fail_if_success (guard_hyp hq :ₛ true = true)) <;> (fail_if_success (guard_hyp hq :ₛ false = false)) <;> first | (exfalso; cases hq; done) | (exfalso; simp only [decide_eq_true_eq, decide_eq_false_iff_not, beq_iff_eq, beq_eq_false_iff_ne, ne_eq, Int.not_lt, Int.not_le] at hq; omega) | simp only [Act.put, List.setIfInBounds_toArray, List.set_cons_succ, List.set_cons_zero]))))
      all_goals (refine Mix.lex_nil ?_)
      have hdn : s.drop i = s[i] :: s.drop (i + 1) := List.drop_eq_getElem_cons hlt
      have hstep : lookF v (s.drop i) = none → autoF v s = B ++ (s.take (i + 1)).drop l ++ autoF v (s.drop (i + 1)) := fun hn => by
        rw [HE.out, autoF_drop_miss hn hlt, List.take_add_one, List.getElem?_eq_getElem hlt]
        rw [List.drop_append_of_le_length (by rw [List.length_take]; omega)]
        simp
      have HSt := Lib.hid hstep
      have HDn := Lib.hid hdn
      obtain ⟨w2, hw2⟩ : ∃ u, u = wr.drew := ⟨_, rfl⟩
      have HB2 : Hid (Buf w w2 bb A' c' B) := by rw [hw2]; exact HB.out.ext (Only.refl No wr).drew
      have X2 := Lib.hid HB2.out.x
      rw [← hw2]
      clear hw2 hstep hdn cm g1' g4' g5' HB XW
      have g4' : w2.cell? ⟨g, 4, none⟩ = some (.slice (some ⟨t0, 0, none⟩) 5 5) := (X2.out.cell H.out.gen.lt id).trans ((H.out.gen.cell 4).trans H.out.ok.p4)
      have g5' : w2.cell? ⟨g, 5, none⟩ = some (.int .i64 5) := (X2.out.cell H.out.gen.lt id).trans ((H.out.gen.cell 5).trans H.out.ok.p5)
      rcases hM with ⟨rfl, hx⟩ | ⟨hm5, hx, hc⟩ | ⟨hm5, hx, hc⟩
      · have HX := Lib.hid hx
        clear hx
        go_wp2_with fail
        go_roundw
        case rel => exact ⟨i + 1, l, q, B, A', c', by omega, by omega, hl, rfl, rfl, rfl, rfl, rfl, by go_num, HB2.out, HSt.out (by rw [HDn.out]; exact lookF_ne HX.out)⟩
        case measure => simp [intOf]; omega
      · have hc : w2.cell? ⟨t0, m, none⟩ = some (rpt n1) := (X2.out.cell (World.block_lt_of_cell? _ _ hc) id).trans hc
        have hne : ¬ ((m : Int) = 5) := by omega
        have HX := Lib.hid hx
        clear hx
        go_upto_region 10 with (first | (refine Mix.wpList_guarded rfl ?_; (repeat' (first | (refine Mix.lex_quiet0 rfl rfl rfl ?_; intro K hK; go_big_quiet_op; go_big_quiet_on) | (refine Mix.lex_quietG rfl rfl rfl (by with_reducible rfl) rfl rfl ?_; intro K hK; go_big_quiet_op; go_big_quiet_on) | ((first | refine Mix.lex_skipT rfl rfl rfl (by with_reducible rfl) ?_ | refine Mix.lex_skipF rfl rfl rfl (by with_reducible rfl) ?_ | refine Mix.lex_skipU rfl rfl rfl (by with_reducible rfl) ?_); simp only [Act.put, List.setIfInBounds_toArray, List.set_cons_succ, List.set_cons_zero]) | (refine Mix.lex_part rfl rfl rfl rfl (fun hq => ?_) (fun hq => ?_) <;> (fail_if_success (guard_hyp hq :ₛ true = true)) <;> (fail_if_success (guard_hyp hq :ₛ false = false)) <;> first | (exfalso; cases hq; done) | (exfalso; simp only [decide_eq_true_eq, decide_eq_false_iff_not, beq_iff_eq, beq_eq_false_iff_ne, ne_eq, Int.not_lt, Int.not_le] at hq; omega) | simp only [Act.put, List.setIfInBounds_toArray, List.set_cons_succ, List.set_cons_zero]))); all_goals (refine Mix.lex_nil ?_)))
        have hlk := Lib.hid (HLk.out (s.drop i) w2 (by rw [List.length_drop]; omega) X2.out)
        obtain ⟨t, ht⟩ : ∃ t, t = lookF v (s.drop i) := ⟨_, rfl⟩
        have HT := Lib.hid ht
        clear ht
        cases t with
        | none =>
          have hlk : Hid (Calls Tryz.prog 236 #[rpt g, S (s.drop i), .bool false] w2 fun e w' => e = .returned (.tuple #[S [], .int .i64 0, .bool false]) ∧ Ext w2 w') := by
            have := hlk.out
            rwa [lookV_none HT.out.symm] at this
          go_wp2_with fail
          refine hlk.out.mono ?_
          rintro e w3 ⟨rfl, hx3⟩
          have HB3 := Lib.hid (HB2.out.ext hx3)
          clear hx3 hlk HB2 X2 g4' g5' hc
          go_wp2_with fail
          go_roundw
          case rel => exact ⟨i + 1, l, q, B, A', c', by omega, by omega, hl, rfl, rfl, rfl, rfl, rfl, by go_num, HB3.out, HSt.out HT.out.symm⟩
          case measure => simp [intOf]; omega
        | some t =>
          have hlk : Hid (Calls Tryz.prog 236 #[rpt g, S (s.drop i), .bool false] w2 fun e w' => e = .returned (.tuple #[S t, .int .i64 2, .bool true]) ∧ Ext w2 w') := by
            have := hlk.out
            rwa [lookV_some HT.out.symm] at this
          obtain ⟨hA1, hi2⟩ := autoF_drop_hit HT.out.symm
          have hE3 : autoF v s = (B ++ (s.take i).drop l ++ t) ++ autoF v (s.drop (i + 2)) := by rw [HE.out, hA1]; simp
          have hlen : ((B ++ (s.take i).drop l) ++ t).length ≤ 100000000 := by
            have h1 := congrArg List.length hE3
            rw [List.length_append] at h1
            have := HLn.out
            omega
          have HE3 := Lib.hid hE3
          rw [List.length_append] at hlen
          have hlen1 : B.length + ((s.take i).drop l).length ≤ 100000000 := by
            rw [← List.length_append]; omega
          have HLen := Lib.hid (And.intro hlen hlen1)
          clear hA1 hE3 hlen hlen1 HSt HDn HE
          go_wp2_with fail
          refine hlk.out.mono ?_
          rintro e w3 ⟨rfl, hx3⟩
          have HB3 := Lib.hid (HB2.out.ext hx3)
          clear hx3 hlk HB2 X2 g4' g5' hc
          have HW1 := Lib.hid (aswWrite_c (HB3.out.ext (Only.refl No w3).drew) ((s.take i).drop l) (by have := HLen.out.2; omega))
          go_upto_region 13 with (first | (refine Mix.wpList_guarded rfl ?_; (repeat' (first | (refine Mix.lex_quiet0 rfl rfl rfl ?_; intro K hK; go_big_quiet_op; go_big_quiet_on) | (refine Mix.lex_quietG rfl rfl rfl (by with_reducible rfl) rfl rfl ?_; intro K hK; go_big_quiet_op; go_big_quiet_on) | ((first | refine Mix.lex_skipT rfl rfl rfl (by with_reducible rfl) ?_ | refine Mix.lex_skipF rfl rfl rfl (by with_reducible rfl) ?_ | refine Mix.lex_skipU rfl rfl rfl (by with_reducible rfl) ?_); simp only [Act.put, List.setIfInBounds_toArray, List.set_cons_succ, List.set_cons_zero]) | (refine Mix.lex_part rfl rfl rfl rfl (fun hq => ?_) (fun hq => ?_) <;> (fail_if_success (guard_hyp hq :ₛ true = true)) <;> (fail_if_success (guard_hyp hq :ₛ false = false)) <;> first | (exfalso; cases hq; done) | (exfalso; simp only [decide_eq_true_eq, decide_eq_false_iff_not, beq_iff_eq, beq_eq_false_iff_ne, ne_eq, Int.not_lt, Int.not_le] at hq; omega) | simp only [Act.put, List.setIfInBounds_toArray, List.set_cons_succ, List.set_cons_zero]))); all_goals (refine Mix.lex_nil ?_)))
          have hna := na_c bb
          (refine Mix.wp_draw [6, 8] 100 (Cl (w) (No)) (by kernel_rfl) (by kernel_rfl) (Cl.of HB3.out.x.drew) ?_; (repeat' (first | (refine Mix.lex_quiet0 rfl rfl rfl ?_; intro K hK; go_big_quiet_op; go_big_quiet_on) | (refine Mix.lex_quietG rfl rfl rfl (by with_reducible rfl) rfl rfl ?_; intro K hK; go_big_quiet_op; go_big_quiet_on) | ((first | refine Mix.lex_skipT rfl rfl rfl (by with_reducible rfl) ?_ | refine Mix.lex_skipF rfl rfl rfl (by with_reducible rfl) ?_ | refine Mix.lex_skipU rfl rfl rfl (by with_reducible rfl) ?_); simp only [Act.put, List.setIfInBounds_toArray, List.set_cons_succ, List.set_cons_zero]) | (refine Mix.lex_part rfl rfl rfl rfl (fun hq => ?_) (fun hq => ?_) <;> (fail_if_success (guard_hyp hq :ₛ true = true)) <;> (fail_if_success (guard_hyp hq :ₛ false = false)) <;> first | (exfalso; cases hq; done) | (exfalso; simp only [decide_eq_true_eq, decide_eq_false_iff_not, beq_iff_eq, beq_eq_false_iff_ne, ne_eq, Int.not_lt, Int.not_le] at hq; omega) | simp only [Act.put, List.setIfInBounds_toArray, List.set_cons_succ, List.set_cons_zero]))))
          ((first | refine Mix.lex_goes0 rfl rfl ?_ | refine Mix.lex_goesG rfl rfl rfl (by with_reducible rfl) rfl ?_); intro K hK; go_simp)
          refine hK _ _ (fun _ => Cl.of HB3.out.x.drew) ?_
          clear hK K
          simp only [Act.put, List.setIfInBounds_toArray, List.set_cons_succ, List.set_cons_zero]
          have hmt := fun k u hk => mth_c k bb u hk
          (repeat' (refine Mix.lex_quiet0 rfl rfl rfl ?_; intro K hK; go_big_quiet_op; go_big_quiet_on))
          ((first | refine Mix.lex_goes0 rfl rfl ?_ | refine Mix.lex_goesG rfl rfl rfl (by with_reducible rfl) rfl ?_); intro K hK; go_simp)
          refine HW1.out.mono ?_
          rintro e w4 ⟨rfl, A4, c4, hB4⟩
          refine ⟨_, rfl, hK _ _ (fun _ => Cl.of hB4.x) ?_⟩
          clear hK K
          simp only [Act.put, List.setIfInBounds_toArray, List.set_cons_succ, List.set_cons_zero]
          (repeat' (refine Mix.lex_quiet0 rfl rfl rfl ?_; intro K hK; go_big_quiet_op; go_big_quiet_on))
          refine Mix.lex_nil ?_
          have HB4 := Lib.hid hB4
          have HW2 := Lib.hid (aswWrite_c HB4.out t (by rw [List.length_append]; have := HLen.out.1; rw [List.length_append] at this; omega))
          clear hB4 HW1 HB3
          go_wp2_with fail
          refine HW2.out.mono ?_
          rintro e w5 ⟨rfl, A5, c5, hB5⟩
          have HB5 := Lib.hid hB5
          clear hB5 HW2 HB4
          have hdl : ((s.take i).drop l).length = i - l := by rw [List.length_drop, List.length_take]; omega
          have hb1 : B.length + (i - l) + t.length ≤ 100000000 := by have := HLen.out.1; rw [List.length_append, hdl] at this; exact this
          have hb2 : (B ++ (s.take i).drop l ++ t).length = B.length + (i - l) + t.length := by rw [List.length_append, List.length_append, hdl]
          clear hdl
          have HB2 := Lib.hid hb2
          clear hb2
          go_wp2_with fail
          go_roundw
          case rel => exact ⟨i + 2, i + 2, _, B ++ (s.take i).drop l ++ t, A5, c5, by omega, Nat.le_refl _, by omega, by rw [HB2.out, wr64 _ (by rw [wr64 _ (by omega)]; omega), wr64 _ (by omega)]; go_num, rfl, by go_num, rfl, rfl, by go_num, HB5.out, by rw [show (s.take (i + 2)).drop (i + 2) = [] from List.drop_eq_nil_of_le (by rw [List.length_take]; omega), List.append_nil]; exact HE3.out⟩
          case measure => simp [intOf]; omega
      · have hc : w2.cell? ⟨t0, m, none⟩ = some (.pointer none) := (X2.out.cell (World.block_lt_of_cell? _ _ hc) id).trans hc
        have hne : ¬ ((m : Int) = 5) := by omega
        have HX := Lib.hid hx
        clear hx
        go_wp2_with fail
        go_roundw
        case rel => exact ⟨i + 1, l, q, B, A', c', by omega, by omega, hl, rfl, rfl, rfl, rfl, rfl, by go_num, HB2.out, HSt.out (by rw [HDn.out]; exact lookF_ne HX.out)⟩
        case measure => simp [intOf]; omega
    · have hlk : Hid (Calls Tryz.prog 236 #[rpt g, .string ByteArray.empty, .bool false] wr fun e w' => e = .returned (.tuple #[S [], .int .i64 0, .bool false]) ∧ Ext wr w') := by
        have := HLk.out [] wr (by simp) XW.out
        rwa [lookV_none rfl] at this
      have hneb : (((i : Nat) : Int) != ((s.length : Nat) : Int)) = false := by rw [bne_eq_false_iff_eq]; omega
      have HEq := Lib.hid heq
      clear g1 g1' g4' g5'
      go_wp2_with fail
      refine hlk.out.mono ?_
      rintro e w3 ⟨rfl, hx3⟩
      have HB3 := Lib.hid (HB.out.ext hx3)
      clear hx3 hlk HB
      go_wp2_with fail
      go_roundw
      case rel => exact ⟨i + 1, l, q, B, A', c', by omega, by omega, hl, rfl, rfl, rfl, rfl, rfl, by go_num, HB3.out, by
        have h := HE.out
        rw [show s.take i = s from List.take_of_length_le (by omega), show s.drop i = [] from List.drop_eq_nil_of_le (by omega)] at h
        rw [show s.take (i + 1) = s from List.take_of_length_le (by omega), show s.drop (i + 1) = [] from List.drop_eq_nil_of_le (by omega)]
        exact h⟩
      case measure => simp [intOf]; omega
    · obtain rfl : i = s.length + 1 := by omega
      have hE2 : autoF v s = B ++ s.drop l := by
        have := HE.out
        rwa [show s.take (s.length + 1) = s from List.take_of_length_le (by omega), show s.drop (s.length + 1) = [] from List.drop_eq_nil_of_le (by omega), show autoF v [] = [] from rfl, List.append_nil] at this
      have HE2 := Lib.hid hE2
      have hblen : B.length + (s.drop l).length ≤ 100000000 := by
        have h1 := congrArg List.length hE2
        rw [List.length_append] at h1
        have := HLn.out
        omega
      have HBl := Lib.hid hblen
      clear hE2 HE hblen g1 g1' g4' g5'
      by_cases hll : l = s.length
      · have hlb : (((l : Nat) : Int) != ((s.length : Nat) : Int)) = false := by rw [bne_eq_false_iff_eq]; omega
        have HLl := Lib.hid hll
        clear hll
        go_wp2_with fail
        go_ret2
        exact ⟨⟨_, rfl⟩, A', c', by rw [HE2.out, HLl.out, List.drop_length, List.append_nil]; exact HB.out⟩
      · have hlb : (((l : Nat) : Int) != ((s.length : Nat) : Int)) = true := by rw [bne_iff_ne]; omega
        clear hll
        have HW1 := Lib.hid (aswWrite_c (HB.out.ext (Only.refl No wr).drew) (s.drop l) (by have := HBl.out; omega))
        have hna := na_c bb
        have hmt := fun k u hk => mth_c k bb u hk
        go_upto_region 23 with (first | (refine Mix.wpList_guarded rfl ?_; (repeat' (first | (refine Mix.lex_quiet0 rfl rfl rfl ?_; intro K hK; go_big_quiet_op; go_big_quiet_on) | (refine Mix.lex_quietG rfl rfl rfl (by with_reducible rfl) rfl rfl ?_; intro K hK; go_big_quiet_op; go_big_quiet_on) | ((first | refine Mix.lex_skipT rfl rfl rfl (by with_reducible rfl) ?_ | refine Mix.lex_skipF rfl rfl rfl (by with_reducible rfl) ?_ | refine Mix.lex_skipU rfl rfl rfl (by with_reducible rfl) ?_); simp only [Act.put, List.setIfInBounds_toArray, List.set_cons_succ, List.set_cons_zero]) | (refine Mix.lex_part rfl rfl rfl rfl (fun hq => ?_) (fun hq => ?_) <;> (fail_if_success (guard_hyp hq :ₛ true = true)) <;> (fail_if_success (guard_hyp hq :ₛ false = false)) <;> first | (exfalso; cases hq; done) | (exfalso; simp only [decide_eq_true_eq, decide_eq_false_iff_not, beq_iff_eq, beq_eq_false_iff_ne, ne_eq, Int.not_lt, Int.not_le] at hq; omega) | simp only [Act.put, List.setIfInBounds_toArray, List.set_cons_succ, List.set_cons_zero]))); all_goals (refine Mix.lex_nil ?_)))
        (refine Mix.wp_draw [5, 7] 100 (Cl (w) (No)) (by kernel_rfl) (by kernel_rfl) (Cl.of HB.out.x.drew) ?_; (repeat' (first | (refine Mix.lex_quiet0 rfl rfl rfl ?_; intro K hK; go_big_quiet_op; go_big_quiet_on) | (refine Mix.lex_quietG rfl rfl rfl (by with_reducible rfl) rfl rfl ?_; intro K hK; go_big_quiet_op; go_big_quiet_on) | ((first | refine Mix.lex_skipT rfl rfl rfl (by with_reducible rfl) ?_ | refine Mix.lex_skipF rfl rfl rfl (by with_reducible rfl) ?_ | refine Mix.lex_skipU rfl rfl rfl (by with_reducible rfl) ?_); simp only [Act.put, List.setIfInBounds_toArray, List.set_cons_succ, List.set_cons_zero]) | (refine Mix.lex_part rfl rfl rfl rfl (fun hq => ?_) (fun hq => ?_) <;> (fail_if_success (guard_hyp hq :ₛ true = true)) <;> (fail_if_success (guard_hyp hq :ₛ false = false)) <;> first | (exfalso; cases hq; done) | (exfalso; simp only [decide_eq_true_eq, decide_eq_false_iff_not, beq_iff_eq, beq_eq_false_iff_ne, ne_eq, Int.not_lt, Int.not_le] at hq; omega) | simp only [Act.put, List.setIfInBounds_toArray, List.set_cons_succ, List.set_cons_zero]))))
        ((first | refine Mix.lex_goes0 rfl rfl ?_ | refine Mix.lex_goesG rfl rfl rfl (by with_reducible rfl) rfl ?_); intro K hK; go_simp)
        refine hK _ _ (fun _ => Cl.of HB.out.x.drew) ?_
        clear hK K
        simp only [Act.put, List.setIfInBounds_toArray, List.set_cons_succ, List.set_cons_zero]
        (repeat' (refine Mix.lex_quiet0 rfl rfl rfl ?_; intro K hK; go_big_quiet_op; go_big_quiet_on))
        ((first | refine Mix.lex_goes0 rfl rfl ?_ | refine Mix.lex_goesG rfl rfl rfl (by with_reducible rfl) rfl ?_); intro K hK; go_simp)
        refine HW1.out.mono ?_
        rintro e w4 ⟨rfl, A4, c4, hB4⟩
        refine ⟨_, rfl, hK _ _ (fun _ => Cl.of hB4.x) ?_⟩
        clear hK K
        simp only [Act.put, List.setIfInBounds_toArray, List.set_cons_succ, List.set_cons_zero]
        (repeat' (refine Mix.lex_quiet0 rfl rfl rfl ?_; intro K hK; go_big_quiet_op; go_big_quiet_on))
        refine Mix.lex_nil ?_
        go_wp2_with fail
        go_ret2
        exact ⟨⟨_, rfl⟩, A4, c4, by rw [HE2.out]; exact hB4⟩
theorem on_disable (w : World) : (callFunc 197 #[]).run Tryz.prog w = .ok (.value (.tuple #[])) w := run_call_mark0 Tryz.func197 (by kernel_rfl) (by kernel_rfl) (by kernel_rfl) .disable (by kernel_rfl) w
theorem on_enable (w : World) : (callFunc 199 #[]).run Tryz.prog w = .ok (.value (.tuple #[])) w := run_call_mark0 Tryz.func199 (by kernel_rfl) (by kernel_rfl) (by kernel_rfl) .enable (by kernel_rfl) w
theorem on_acquire (a : Addr) (w : World) : (callFunc 200 #[.pointer (some a)]).run Tryz.prog w = .ok (.value (.tuple #[])) w := run_call_marked Tryz.func200 (by kernel_rfl) (by kernel_rfl) (by kernel_rfl) .acquire (by kernel_rfl) a w
theorem on_release (a : Addr) (w : World) : (callFunc 202 #[.pointer (some a)]).run Tryz.prog w = .ok (.value (.tuple #[])) w := run_call_marked Tryz.func202 (by kernel_rfl) (by kernel_rfl) (by kernel_rfl) .releaseMerge (by kernel_rfl) a w
theorem on_store (a : Addr) (x : Value) (u : FrameMode) (w : World) (hc : w.cell? a = some x) (hz : w.frozen? a = false) :
    CallsD Tryz.prog 186 #[.pointer (some a), .bool true] u w fun e u' w' => u' = u ∧ (e = .returned (.tuple #[]) ∧ w' = w.drew.setCell a (.int .u32 1)) := by
  have hc' : w.drew.cell? a = some x := by go_simp
  have hz' : w.drew.frozen? a = false := by go_simp
  have hst := run_call_store (P := Tryz.prog) Tryz.func193 (by kernel_rfl) (by kernel_rfl) (by kernel_rfl) (by kernel_rfl) (k := .u32) (y := 1) hc' hz'
  go_enter_d Tryz.func186, Tryz.ntmps186
  go_wp2
  go_region_calls
  all_goals (go_end0; exact ⟨rfl, rfl⟩)
set_option maxRecDepth 100000 in
theorem on_unlock (a : Addr) (u : FrameMode) (w : World) (hc : w.cell? a = some (.int .i32 1)) (hz : w.frozen? a = false) :
    CallsD Tryz.prog 185 #[.pointer (some a)] u w fun e u' w' => u' = u ∧ (e = .returned (.tuple #[]) ∧ w' = w.setCell a (.int .i32 0)) := by
  have hd := on_disable
  have he := on_enable
  have hr := on_release
  have hadd := run_call_add (P := Tryz.prog) Tryz.func203 (by kernel_rfl) (by kernel_rfl) (by kernel_rfl) .i32 (by kernel_rfl) (y := -1) (s := 0) hc hz (by simp [go_sem]; rfl)
  have hcv := run_convert_to_unsafe (P := Tryz.prog) (src := 268) (dst := 226) Tryz.underlying268 Tryz.underlying226 (by kernel_rfl) hc
  go_enter_d Tryz.func185, Tryz.ntmps185
  go_wp2
  go_end0
  go_wp2
  go_end0
  exact ⟨rfl, rfl⟩
set_option maxRecDepth 100000 in
theorem on_lock (a : Addr) (w : World) (hc : w.cell? a = some (.int .i32 0)) (hz : w.frozen? a = false) :
    Calls Tryz.prog 184 #[.pointer (some a)] w fun e w' => e = .returned (.tuple #[]) ∧ w' = w.setCell a (.int .i32 1) := by
  have hd := on_disable
  have he := on_enable
  have ha := on_acquire
  have hcas := run_call_cas_hit (P := Tryz.prog) Tryz.func198 (by kernel_rfl) (by kernel_rfl) (by kernel_rfl) .i32 (by kernel_rfl) (y := 1) hc hz
  have hc' : (w.setCell a (.int .i32 1)).cell? a = some (.int .i32 1) := World.cell?_setCell_same w a _ hc
  have hcv := run_convert_to_unsafe (P := Tryz.prog) (src := 268) (dst := 226) Tryz.underlying268 Tryz.underlying226 (by kernel_rfl) hc'
  go_enter Tryz.func184, Tryz.ntmps184
  go_wp2
  first | go_end0 | (simp only [Exit.inBlock, Exit.then]; refine bodyPost_ret (results_none rfl _ _ _) rfl ?_) | refine bodyPost_ret (results_none rfl _ _ _) rfl ?_
  go_wp2
  go_end0
  exact ⟨rfl, rfl⟩
theorem mk_asw (n : Nat) (hn : n ≤ 1000000) (w : World) : (Instr.makeSlice aswT (.int .i64 0) (.int .i64 (n : Int))).run Tryz.prog w =
    .ok (.slice (some ⟨w.heap.size, 0, none⟩) 0 n) (w.alloc (.cells (madeCells #[.int .u8 0] n) byT5)) := by
  obtain ⟨i0, hi, hz, h1, h2⟩ := info_parts by_info5
  have hb : (i0.bytes : Int) * (n : Int) ≤ 281474976710656 := by rw [h2]; omega
  have hr := run_make (P := Tryz.prog) w aswT byT5 i0 (.int .u8 0) Tryz.underlying294 hi hz .i64 .i64 0 n (by omega) (by omega) hb (by omega)
  simp only [Int.toNat_natCast] at hr
  rw [hr, h1]
  simp [Value.cells]
set_option maxRecDepth 100000 in
theorem Buf.conv {w u : World} {b : Nat} {A : Option Addr} {c : Nat} {l : Str} (h : Buf w u b A c l) : (convert aswT 9 (.slice A l.length c)).run Tryz.prog u = .ok (S l) u := by
  have hl : (Lib.strCells ⟨l.toArray⟩).length = l.length := by simp [Lib.strCells]
  rcases A with _ | ad
  · rcases h.own.2 with ⟨hv, h0⟩ | ⟨g, cap, cur, hv, _⟩
    · have : l = [] := List.eq_nil_of_length_eq_zero h0
      subst this
      exact run_convert_bytes_nil u aswT byT5 Tryz.underlying294 Tryz.underlying5 _ _ _ Tryz.underlying9
    · injection hv with hv
      cases hv
  · rcases h.own.2 with ⟨hv, h0⟩ | ⟨g, cap, cur, hv, _⟩
    · injection hv with hv
      cases hv
    · injection hv with hv1 hv2 hv3
      injection hv1 with hv1
      subst hv1; subst hv3
      have := Lib.run_convert_whole (P := Tryz.prog) u aswT byT5 9 Tryz.underlying294 Tryz.underlying5 Tryz.underlying9 g 0 ⟨l.toArray⟩ (fun i hi => by
        have hi : i < l.length := hi
        rw [Nat.zero_add, World.ownsRow.cellAt h.own i (by omega)]
        simp [Lib.strCells, hi]
        rfl) c
      exact this
set_option maxRecDepth 100000 in
set_option maxHeartbeats 1000000 in
theorem genReplace_c {w : World} {g t0 n1 t1 n2 n3 n4 n5 : Nat} {gs : Array Value} {a b' c d : Str} (h : Trie w g t0 n1 t1 n2 n3 n4 n5 gs a b' c d) (s : Str) (hs : s.length ≤ 1000000) (hL : (autoF (keyV a b' c d) s).length ≤ 100000000) :
    Calls Tryz.prog 233 #[rpt g, S s] w fun e w' => e = .returned (S (autoF (keyV a b' c d) s)) ∧ Ext w w' := by
  have hmk := mk_asw s.length hs w
  obtain ⟨w1, hw1⟩ : ∃ u, u = w.alloc (.cells (madeCells #[.int .u8 0] s.length) byT5) := ⟨_, rfl⟩
  obtain ⟨w2, hw2⟩ : ∃ u, u = w1.alloc (.cells #[.slice (some ⟨w.heap.size, 0, none⟩) 0 s.length] aswT) := ⟨_, rfl⟩
  obtain ⟨b, hb⟩ : ∃ b, b = w.heap.size + 1 := ⟨_, rfl⟩
  have hB : Buf w w2 b (some ⟨w.heap.size, 0, none⟩) s.length [] := by
    have x1 : Ext w w1 := by rw [hw1]; exact (Only.refl No w).alloc _
    have hb : b = w1.heap.size := by rw [hb, hw1]; simp
    have o1 : w1.ownsRow w.heap.size byT5 1 (.slice (some ⟨w.heap.size, 0, none⟩) 0 s.length) 0 [] := by
      refine ⟨rfl, .inr ⟨w.heap.size, s.length, _, rfl, Nat.le_refl _, by rw [hw1]; exact Cs.new _ _ _, Nat.zero_le _, by unfold maxLen; omega, by simp [madeCells], rfl⟩⟩
    refine ⟨by rw [hw2, hb]; exact Cs.new _ _ _, own_keep o1 (by rw [hw2]; exact (Only.refl No w1).alloc _) (fun _ _ => id), by rw [hw2]; exact x1.alloc _, by rw [hb]; exact x1.size⟩
  have HB := Lib.hid hB
  have HG := Lib.hid (genWrite_c h s hs hL hB)
  clear h hB
  go_enter Tryz.func233, Tryz.ntmps233
  go_upto_region 2 with fail
  rw [← hw1, ← hw2, ← hb]
  clear hw1 hw2 hb hmk
  go_wp2_with fail
  refine HG.out.mono ?_
  rintro e w3 ⟨⟨x, rfl⟩, A3, c3, hB3⟩
  have HB3 := Lib.hid hB3
  have c0 : w3.cell? ⟨b, 0, none⟩ = some (.slice A3 (autoF (keyV a b' c d) s).length c3) := hB3.cs.cell 0
  have hcv := hB3.conv
  clear hB3 HG HB
  go_wp2_with fail
  go_ret
  exact ⟨rfl, HB3.out.x⟩
abbrev repT : TypeId := 209
abbrev pgenT : TypeId := 243
def TrAt (u : World) (g : Nat) (a b c d : Str) : Prop := ∃ t0 n1 t1 n2 n3 n4 n5 gs, Trie u g t0 n1 t1 n2 n3 n4 n5 gs a b c d
theorem TrSt.on {w u v : World} {g t0 r : Nat} {gs : Array Value} {a b c d : Str} (hg : GsOk gs t0) (h : TrSt w g t0 gs a b c d 4 u) (hx : Only (fun x => x = r) u v) (hr : r < w.heap.size) : TrAt v g a b c d := by
  obtain ⟨n1, t1, n2, n3, n4, n5, h, h2, h3, h4, h5⟩ : ∃ n1 t1 n2 n3 n4 n5, Tr2 w u g t0 gs #[.pointer none, rpt n5, rpt n3, rpt n2, rpt n4] n1 t1 ∧ Leaf w u n1 n2 a 8 ∧ Leaf w u n1 n3 b 6 ∧ Leaf w u n1 n4 c 4 ∧ Leaf w u n1 n5 d 2 := h
  have ne : ∀ n, w.heap.size ≤ n → ¬ n = r := fun n hn e => by omega
  exact ⟨t0, n1, t1, n2, n3, n4, n5, gs, hg, h.b.gen.keep hx (ne _ h.b.hg), h.b.tab.keep hx (ne _ h.b.ht), h.c1.keep hx (ne _ h.h1), h.ct.keep hx (ne _ h.h3), h2.c.keep hx (ne _ h2.h), h3.c.keep hx (ne _ h3.h), h4.c.keep hx (ne _ h4.h), h5.c.keep hx (ne _ h5.h)⟩
set_option maxRecDepth 100000 in
set_option maxHeartbeats 1000000 in
theorem build_c {w : World} {r cp : Nat} {A : Option Addr} {x0 x1 x2 : Value} {a b c d : Str} (h : Cs w r repT #[x0, x1, x2, .nilIface, .slice A 8 cp]) (hs : SlR strF w A 8 [[36, 64], a, [36, 60], b, [36, 94], c, [36, 42], d]) :
    Calls Tryz.prog 176 #[rpt r] w fun e w' => ∃ g t0, e = .returned (.iface pgenT (rpt g)) ∧ TrSt w g t0 (genA (.slice (some ⟨t0, 0, none⟩) 5 5) 5 (mB 256)) a b c d 4 w' := by
  have c4 : w.cell? ⟨r, 4, none⟩ = some (.slice A 8 cp) := h.cell 4
  obtain ⟨bb, o, s, rfl, hx, c0⟩ := strs_get hs (k := 0) (by omega)
  obtain rfl : [36, 64] = s := Option.some.inj hx
  have HM := Lib.hid (makeGen_c (cp := cp) hs)
  have c00 : w.cell? ⟨bb, o, none⟩ = some (S [36, 64]) := c0 (X.here w No)
  clear h hs c0 hx
  go_enter Tryz.func176, Tryz.ntmps176
  go_wp2_with fail
  go_loopw [4, 5] (fun x4 x5 wr => x5 = .int .i64 0 ∧ wr = w) (fun _ _ _ => 0)
  case atStart => exact ⟨rfl, rfl⟩
  case round =>
    obtain ⟨rfl, rfl⟩ := hrel
    go_wp2_with fail
    refine HM.out.mono ?_
    rintro e w1 ⟨g, t0, rfl, hT⟩
    have HT := Lib.hid hT
    clear hT HM
    go_wp2_with fail
    go_ret
    exact ⟨g, t0, rfl, HT.out⟩
set_option maxRecDepth 100000 in
set_option maxHeartbeats 1000000 in
theorem buildOnce_c {w : World} {r cp : Nat} {A : Option Addr} {x0 x1 x2 : Value} {a b c d : Str} (h : Cs w r repT #[x0, x1, x2, .nilIface, .slice A 8 cp]) (hs : SlR strF w A 8 [[36, 64], a, [36, 60], b, [36, 94], c, [36, 42], d]) :
    Calls Tryz.prog 164 #[rpt r] w fun e w' => e = .returned (.tuple #[]) ∧ ∃ g, Cs w' r repT #[x0, x1, x2, .iface pgenT (rpt g), .slice none 0 0] ∧ TrAt w' g a b c d ∧ Only (fun x => x = r) w w' := by
  have HB := Lib.hid (build_c h hs)
  have H := Lib.hid h
  clear h hs
  go_enter Tryz.func164, Tryz.ntmps164
  go_wp2_with fail
  refine HB.out.mono ?_
  rintro e w1 ⟨g, t0, rfl, hT⟩
  have h1 := H.out.keep hT.x id
  have c3 : w1.cell? ⟨r, 3, none⟩ = some .nilIface := h1.cell 3
  have c4 : w1.cell? ⟨r, 4, none⟩ = some (.slice A 8 cp) := h1.cell 4
  have z3 := h1.frozen 3
  have z4 := h1.frozen 4
  have HO : Hid (Only (fun x => x = r) w1 ((w1.setCell ⟨r, 3, none⟩ (.iface pgenT (rpt g))).setCell ⟨r, 4, none⟩ (.slice none 0 0))) := ((Only.refl _ w1).at_ 3 _).at_ 4 _
  have HC : Hid (Cs ((w1.setCell ⟨r, 3, none⟩ (.iface pgenT (rpt g))).setCell ⟨r, 4, none⟩ (.slice none 0 0)) r repT #[x0, x1, x2, .iface pgenT (rpt g), .slice none 0 0]) := (h1.set_ 3 _).set_ 4 _
  have HT := Lib.hid hT
  clear hT h1 HB
  go_wp2_with fail
  go_end0
  exact ⟨rfl, g, HC.out, HT.out.on (gs_ok t0) HO.out H.out.lt, HT.out.x.any.trans HO.out fun _ _ e => e⟩
theorem on_load {w : World} (a : Addr) (x : Int) (h : w.cell? a = some (.int .u32 x)) : Calls Tryz.prog 174 #[.pointer (some a)] w fun e w' => e = .returned (.bool (x != 0)) ∧ w' = w := by
  have hl := run_call_load (P := Tryz.prog) Tryz.func183 (by kernel_rfl) (by kernel_rfl) (by kernel_rfl) .u32 (by kernel_rfl) h
  go_enter Tryz.func174, Tryz.ntmps174
  go_wp2_with fail
  go_ret
  exact ⟨rfl, rfl⟩
theorem TrAt.only {u v : World} {g : Nat} {a b c d : Str} {r : Nat} {cs : Array Value} (h : TrAt u g a b c d) (hr : Cs u r repT cs) (hx : Only (fun x => x = r) u v) : TrAt v g a b c d := by
  obtain ⟨t0, n1, t1, n2, n3, n4, n5, gs, h⟩ := h
  have ne : ∀ {n t ds}, Cs u n t ds → t ≠ repT → ¬ n = r := fun hc ht e => (hc.ne_ hr ht) e
  exact ⟨t0, n1, t1, n2, n3, n4, n5, gs, h.ok, h.gen.keep hx (ne h.gen (by decide)), h.tab.keep hx (ne h.tab (by decide)), h.c1.keep hx (ne h.c1 (by decide)), h.ct.keep hx (ne h.ct (by decide)), h.l2.keep hx (ne h.l2 (by decide)), h.l3.keep hx (ne h.l3 (by decide)), h.l4.keep hx (ne h.l4 (by decide)), h.l5.keep hx (ne h.l5 (by decide))⟩
def DoneR (w : World) (r : Nat) (x2 : Value) (a b c d : Str) (w' : World) : Prop := ∃ g, Cs w' r repT #[.int .u32 1, .int .i32 0, x2, .iface pgenT (rpt g), .slice none 0 0] ∧ TrAt w' g a b c d ∧ Only (fun x => x = r) w w'
set_option maxRecDepth 100000 in
set_option maxHeartbeats 1600000 in
theorem slow_c {w : World} {r cp : Nat} {A : Option Addr} {x2 : Value} {a b c d : Str} (h : Cs w r repT #[.int .u32 0, .int .i32 0, x2, .nilIface, .slice A 8 cp]) (hs : ∀ v, Only (fun x => x = r) w v → SlR strF v A 8 [[36, 64], a, [36, 60], b, [36, 94], c, [36, 42], d]) :
    Calls Tryz.prog 175 #[rpt r, .func (.func 164) #[rpt r] #[]] w fun e w' => e = .returned (.tuple #[]) ∧ DoneR w r x2 a b c d w' := by
  have h0 : w.cell? ⟨r, 0, none⟩ = some (.int .u32 0) := h.cell 0
  have h1 : w.cell? ⟨r, 1, none⟩ = some (.int .i32 0) := h.cell 1
  have f1 := h.frozen 1
  obtain ⟨w1, hw1⟩ : ∃ u, u = w.setCell ⟨r, 1, none⟩ (.int .i32 1) := ⟨_, rfl⟩
  have x1 : Only (fun x => x = r) w w1 := by rw [hw1]; exact (Only.refl _ w).at_ 1 _
  have C1 : Cs w1 r repT #[.int .u32 0, .int .i32 1, x2, .nilIface, .slice A 8 cp] := by rw [hw1]; exact h.set_ 1 _
  have HLd := Lib.hid (on_load (w := w1) ⟨r, 0, none⟩ 0 (C1.cell 0))
  have HBo := Lib.hid (buildOnce_c C1 (hs w1 x1))
  have X1 := Lib.hid x1
  have hnot : ∀ (x : Bool) (w : World), (Op.unary .not (.bool x)).run Tryz.prog w = .ok (.bool (!x)) w := fun _ _ => rfl
  clear h hs C1 x1
  go_enter_defers Tryz.func175, Tryz.ntmps175
  go_wp2_with (go_at_call 184; refine (on_lock ⟨r, 1, none⟩ _ (by go_simp) (by go_simp)).mono ?_; rintro e w' ⟨rfl, rfl⟩)
  rw [← hw1]
  clear hw1 h0 h1 f1
  refine HLd.out.mono ?_
  rintro e u ⟨rfl, rfl⟩
  go_wp2_with fail
  refine HBo.out.mono ?_
  rintro e w2 ⟨rfl, g, hC, hT, hO⟩
  have X2 : Hid (Only (fun x => x = r) w w2) := X1.out.trans hO fun _ _ e => e
  have HC := Lib.hid hC
  have HT := Lib.hid hT
  clear hC hT hO HBo HLd X1
  go_wp2_with fail
  refine leaves_cons (f := 186) (args := #[.pointer (some ⟨r, 0, none⟩), .bool true]) (by simp) (by simp [go_sem]) ?_
  refine (on_store ⟨r, 0, none⟩ (.int .u32 0) .returning _ (HC.out.cell 0) (HC.out.frozen 0)).mono ?_
  rintro e u' w3 ⟨rfl, rfl, rfl⟩
  refine leaves_cons (f := 185) (args := #[.pointer (some ⟨r, 1, none⟩)]) (by simp [settle]) (by simp [go_sem]) ?_
  have C3 : Cs (w2.drew.setCell ⟨r, 0, none⟩ (.int .u32 1)) r repT #[.int .u32 1, .int .i32 1, x2, .iface pgenT (rpt g), .slice none 0 0] := HC.out.drew.set_ 0 _
  refine (on_unlock ⟨r, 1, none⟩ _ _ (C3.cell 1) (C3.frozen 1)).mono ?_
  rintro e u' w4 ⟨rfl, rfl, rfl⟩
  have O4 : Only (fun x => x = r) w2 ((w2.drew.setCell ⟨r, 0, none⟩ (.int .u32 1)).setCell ⟨r, 1, none⟩ (.int .i32 0)) := ((Only.refl _ w2).drew.at_ 0 _).at_ 1 _
  have HD : Hid (DoneR w r x2 a b c d ((w2.drew.setCell ⟨r, 0, none⟩ (.int .u32 1)).setCell ⟨r, 1, none⟩ (.int .i32 0))) := ⟨g, C3.set_ 1 _, HT.out.only HC.out O4, X2.out.trans O4 fun _ _ e => e⟩
  simp [Leaves, settle, results, Tryz.results175]
  exact HD.out
set_option maxRecDepth 100000 in
set_option maxHeartbeats 1600000 in
theorem do_c {w : World} {r cp : Nat} {A : Option Addr} {x2 : Value} {a b c d : Str} (h : Cs w r repT #[.int .u32 0, .int .i32 0, x2, .nilIface, .slice A 8 cp]) (hs : ∀ v, Only (fun x => x = r) w v → SlR strF v A 8 [[36, 64], a, [36, 60], b, [36, 94], c, [36, 42], d]) :
    Calls Tryz.prog 163 #[rpt r, .func (.func 164) #[rpt r] #[]] w fun e w' => e = .returned (.tuple #[]) ∧ DoneR w r x2 a b c d w' := by
  have HLd := Lib.hid (on_load (w := w) ⟨r, 0, none⟩ 0 (h.cell 0))
  have HS := Lib.hid (slow_c h hs)
  have hnot : ∀ (x : Bool) (w : World), (Op.unary .not (.bool x)).run Tryz.prog w = .ok (.bool (!x)) w := fun _ _ => rfl
  clear h hs
  go_enter Tryz.func163, Tryz.ntmps163
  go_wp2_with fail
  refine HLd.out.mono ?_
  rintro e u ⟨rfl, rfl⟩
  go_wp2_with fail
  refine HS.out.mono ?_
  rintro e w1 ⟨rfl, hD⟩
  have HD := Lib.hid hD
  clear hD HS HLd
  go_wp2_with fail
  go_end0
  exact ⟨rfl, HD.out⟩
theorem mtr_fact : ((Tryz.prog.info? pgenT).bind fun i => i.methods.find? fun m => m.name == "Replace").map (fun m => (m.path.toList, m.func)) = some ([], some (233, true)) := by kernel_rfl
theorem mtr_c (k b : Nat) (w : World) (hk : k ≠ 0) : (method k pgenT (rpt b) "Replace").run Tryz.prog w = .ok (233, rpt b) w := by
  obtain ⟨m, hm, he⟩ := Option.map_eq_some_iff.1 mtr_fact
  obtain ⟨i, hi, hf⟩ := Option.bind_eq_some_iff.1 hm
  obtain ⟨n, rfl⟩ : ∃ n, k = n + 1 := ⟨k - 1, by omega⟩
  simp only [Prod.mk.injEq] at he
  simp [method, typeInfo, hi, hf, he.1, he.2, follow, receiverAt, run_underlying Tryz.underlying243, Place.get]
set_option maxRecDepth 100000 in
set_option maxHeartbeats 1600000 in
theorem Replace_c {w : World} {r cp : Nat} {A : Option Addr} {x2 : Value} {a b c d : Str} (h : Cs w r repT #[.int .u32 0, .int .i32 0, x2, .nilIface, .slice A 8 cp]) (hs : ∀ v, Only (fun x => x = r) w v → SlR strF v A 8 [[36, 64], a, [36, 60], b, [36, 94], c, [36, 42], d])
    (s : Str) (hl : s.length ≤ 1000000) (hL : (autoF (keyV a b c d) s).length ≤ 100000000) :
    Calls Tryz.prog 150 #[rpt r, S s] w fun e w' => e = .returned (S (autoF (keyV a b c d) s)) ∧ Only (fun x => x = r) w w' := by
  have HD := Lib.hid (do_c h hs)
  have HL := Lib.hid hL
  clear h hs hL
  have hmf : ∀ (fn : Fn) (first cap : Array Value) (w : World), (Instr.makeFunc fn first cap).run Tryz.prog w = .ok (.func fn first cap) w := fun _ _ _ _ => rfl
  go_enter Tryz.func150, Tryz.ntmps150
  go_wp2_with fail
  refine HD.out.mono ?_
  rintro e w1 ⟨rfl, g, hC, ⟨t0, n1, t1, n2, n3, n4, n5, gs, hT⟩, hO⟩
  have c3 : w1.cell? ⟨r, 3, none⟩ = some (.iface pgenT (rpt g)) := hC.cell 3
  have HG := Lib.hid (genReplace_c hT s hl HL.out)
  have HO := Lib.hid hO
  have hmt := fun k u hk => mtr_c k g u hk
  clear hC hT hO HD
  go_wp2_with fail
  refine HG.out.mono ?_
  rintro e w2 ⟨rfl, hx⟩
  have HX := Lib.hid (HO.out.then_ext hx)
  clear hx HG HO
  go_wp2_with fail
  go_ret
  exact ⟨rfl, HX.out⟩
theorem rep_build (A : Option Addr) (n c : Nat) (w : World) : (Instr.build repT #[(2, .slice A n c)]).run Tryz.prog w = .ok (.agg #[.int .u32 0, .int .i32 0, .int .u32 0, .nilIface, .slice A n c]) w := run_build w repT _ _ (by kernel_rfl)
set_option maxRecDepth 100000 in
set_option maxHeartbeats 1600000 in
theorem NewRep_c {w : World} {A : Option Addr} {cp : Nat} {l : List Str} (h : SlR strF w A 8 l) :
    Calls Tryz.prog 148 #[.slice A 8 cp] w fun e w' => ∃ r A' c', e = .returned (rpt r) ∧ w.heap.size ≤ r ∧ Cs w' r repT #[.int .u32 0, .int .i32 0, .int .u32 0, .nilIface, .slice A' 8 c'] ∧ (∀ v, Only (fun x => x = r) w' v → SlR strF v A' 8 l) ∧ Ext w w' := by
  have H := Lib.hid h
  have hb := rep_build
  have st_info : (Tryz.prog.info? 9).map (fun i => (i.zero, i.size, i.bytes)) = some (some (.string ⟨#[]⟩), 1, 16) := by kernel_rfl
  have st_ty : Hid (Ety Tryz.prog 27 9 1) := Ety.mk' Tryz.underlying27 st_info rfl (by omega) (by omega)
  clear h st_info
  go_enter Tryz.func148, Tryz.ntmps148
  go_wp2_with (at_builtin; go_must (refine wpList_append (v := .slice none 0 0) (n := 0) (xs := []) rfl st_ty.out rfl rfl rfl (World.ownsRow_nil _ _ _ _) (H.out.rd (by decide)) (str_enc1 l) (by omega) ?_); intro A' c' w1 hown hg hb2)
  have F : Fresh strF 9 w w1 A' c' l := (Fresh.nil strF 9 w w (Only.refl _ _)).grow (ys := l) H.out.1 hown hg hb2
  have hl8 := H.out.1
  refine bodyPost_ret (results_tmp rfl _ _ _) rfl ?_
  have hne : ∀ g, (Value.slice A' l.length c').ownBlock = some g → ¬ g = w1.heap.size := fun g hg e => by
    obtain ⟨cur, hc⟩ := own_cs F.own hg
    have := hc.lt
    omega
  refine ⟨w1.heap.size, A', c', rfl, F.ext.size, Cs.new _ _ _, fun v hv => ?_, F.ext.alloc _⟩
  rw [← hl8]
  exact SlR.of_own (T := strF) (by decide) (own_keep (F.on ((Only.refl No w1).alloc _)).own hv hne)
abbrev bldT : TypeId := 177
abbrev byT : TypeId := 5
theorem bld_size : (Tryz.prog.info? bldT).map (·.size) = some 2 := by kernel_rfl
theorem bld_lies : liesAt Tryz.prog Tryz.prog.depth bldT (2 / Tryz.prog.cellsOf bldT) 0 bldT 1 = true := by kernel_rfl
theorem by_info : (Tryz.prog.info? byT).map (fun i => (i.zero, i.size, i.bytes)) = some (some (.int .u8 0), 1, 1) := by kernel_rfl
set_option maxHeartbeats 1000000 in
set_option maxRecDepth 100000 in
theorem cc_used (b : Nat) (w : World) (h0 : w.cell? ⟨b, 0, none⟩ = some (.pointer (some ⟨b, 0, none⟩))) :
    Calls Tryz.prog 161 #[.pointer (some ⟨b, 0, none⟩)] w fun e w' => e = .returned (.tuple #[]) ∧ w' = w := by
  obtain ⟨j, hj, _⟩ := Option.map_eq_some_iff.1 bld_size
  go_enter Tryz.func161, Tryz.ntmps161
  go_wp2
  rw [Lib.run_neq_ptr_same w _ Tryz.underlying175 hj]
  go_wp2
  go_end0
  exact ⟨rfl, rfl⟩
set_option maxHeartbeats 1000000 in
set_option maxRecDepth 100000 in
theorem cc_fresh (b : Nat) (w : World) (h0 : w.cell? ⟨b, 0, none⟩ = some (.pointer none)) (hsh : w.shape? b = some (bldT, 2)) (hfz : w.frozen? ⟨b, 0, none⟩ = false) :
    Calls Tryz.prog 161 #[.pointer (some ⟨b, 0, none⟩)] w fun e w' => e = .returned (.tuple #[]) ∧ w' = w.setCell ⟨b, 0, none⟩ (.pointer (some ⟨b, 0, none⟩)) := by
  obtain ⟨j, hj, hjs⟩ := Option.map_eq_some_iff.1 bld_size
  go_enter Tryz.func161, Tryz.ntmps161
  go_wp2
  rw [Lib.run_to_unsafe w ⟨b, 0, none⟩ Tryz.underlying175 Tryz.underlying226 hj (by rw [hjs]; decide) hsh (Nat.zero_lt_succ 1)]
  simp only [Result.andThen]
  rw [Oper.upon_value]
  go_wp2
  rw [run_callFunc_extern Tryz.func172 (by kernel_rfl) (by kernel_rfl) (by kernel_rfl) (e := Extern.AbiNoEscape.same) (by kernel_rfl)]
  rw [Lib.run_noEscape]
  simp only [Result.andThen]
  rw [Oper.upon_value]
  go_wp2
  rw [Lib.run_from_unsafe w ⟨b, 0, none⟩ Tryz.underlying226 Tryz.underlying175 hj hsh bld_lies]
  simp only [Result.andThen]
  rw [Oper.upon_value]
  go_wp2
  go_end0
  exact ⟨rfl, rfl⟩
theorem cc_k (B b : Nat) (bs : List Value) (w : World) (h : Lib.IsBuilderF bldT byT B b bs w) :
    Calls Tryz.prog 161 #[.pointer (some ⟨b, 0, none⟩)] w fun e w' => e = .returned (.tuple #[]) ∧ (Lib.BuilderAtF bldT byT B b (.pointer (some ⟨b, 0, none⟩)) bs w' ∧ Below B w w') := by
  rcases h with h | h
  · refine (cc_fresh b w h.cell0 h.shape h.frozen0).mono ?_
    rintro e w' ⟨rfl, rfl⟩
    exact ⟨rfl, h.used _, (Below.refl B w).setCell (p := ⟨b, 0, none⟩) h.1 _⟩
  · refine (cc_used b w h.cell0).mono ?_
    rintro e w' ⟨rfl, rfl⟩
    exact ⟨rfl, h, Below.refl B _⟩
set_option maxHeartbeats 2000000 in
set_option maxRecDepth 100000 in
theorem WriteStr_k (B b : Nat) (bs : List Value) (s : ByteArray) (w : World) (h : Lib.IsBuilderF bldT byT B b bs w) (hlen : bs.length + s.size ≤ 140737488355328) (hBw : B ≤ w.heap.size) :
    Calls Tryz.prog 146 #[.pointer (some ⟨b, 0, none⟩), .string s] w fun e w' => e = .returned (.tuple #[.int .i64 s.size, .nilIface]) ∧ (Lib.IsBuilderF bldT byT B b (bs ++ Lib.strCells s) w' ∧ Below B w w') := by
  obtain ⟨i0, hi, hz0, hz1, hz2⟩ := info_parts by_info
  go_enter Tryz.func146, Tryz.ntmps146
  go_wp2_with (go_at_call 161; refine (cc_k B b bs _ h).mono ?_)
  rintro e w1 ⟨rfl, h1, hb1⟩
  obtain ⟨hB, v, hbk, hown, hne⟩ := h1
  have c0 : w1.cell? ⟨b, 0, none⟩ = some (.pointer (some ⟨b, 0, none⟩)) := by rw [Lib.cell_of_heap hbk]; rfl
  have c1 : w1.cell? ⟨b, 1, none⟩ = some v := by rw [Lib.cell_of_heap hbk]; rfl
  go_wp2_with (at_builtin; refine Lib.wpList_append_own_stringF _ rfl _ _ 150 9 rfl B byT i0 Tryz.underlying150 Tryz.underlying9 hi hz0 hz1 hz2 _ _ _ rfl hown s rfl ?c3 ?c4 ?c5 ?_)
  case c3 => unfold maxLen; omega
  case c4 => omega
  case c5 => have := hb1.size; omega
  intro v' w2 hown' hgrow _
  have hlt : b < w1.heap.size := by
    rcases Nat.lt_or_ge b w1.heap.size with h' | h'
    · exact h'
    · simp [Array.getElem?_eq_none h'] at hbk
  have hb2 : w2.heap[b]? = some (.cells #[.pointer (some ⟨b, 0, none⟩), v] bldT (0, 0)) := by
    rw [hgrow.block b hlt (fun e => hne e.symm)]
    exact hbk
  have d0 : w2.cell? ⟨b, 0, none⟩ = some (.pointer (some ⟨b, 0, none⟩)) := by rw [Lib.cell_of_heap hb2]; rfl
  have d1 : w2.cell? ⟨b, 1, none⟩ = some v := by rw [Lib.cell_of_heap hb2]; rfl
  have f1 : w2.frozen? ⟨b, 1, none⟩ = false := Lib.frozen_of_heap hb2 1
  obtain ⟨ao, n', cap, rfl⟩ : ∃ ao n' cap, v' = .slice ao n' cap := by
    rcases hown'.2 with ⟨hv, _⟩ | ⟨g, cap, cur, fz, hv, _⟩
    · exact ⟨_, _, _, hv⟩
    · exact ⟨_, _, _, hv⟩
  go_wp2
  go_ret2
  refine ⟨rfl, .inr ?_, ?_⟩
  · exact Lib.BuilderAtF.put (T := bldT) (e := byT) hB hb2 (bs' := bs ++ Lib.strCells s) (by simpa [Lib.strCells_length] using hown') (by decide)
  · exact (hb1.grown hgrow (by have := hb1.size; omega) (fun k hk => (hown.lt k hk).1)).setCell (p := ⟨b, 1, none⟩) hB _
end Go.Proofs.YtnhaekifcieeoaaGreatDoor
