/- Put together: Rsl, MkW, Gxb, Grb, Pl4. -/
import Derived.Test.YtnhaekifcieeoaaPk09
import Derived.Test.YtnhaekifcieeoaaPk15
import Derived.Test.YtnhaekifcieeoaaPk03
import Derived.Test.YtnhaekifcieeoaaPk05
import Derived.Test.YtnhaekifcieeoaaPk04
import Derived.Test.YtnhaekifcieeoaaPk06
import Derived.Test.YtnhaekifcieeoaaPk13
import Derived.Test.YtnhaekifcieeoaaPk14
namespace Go.Proofs.Ytnhaekifcieeoaa
open Go Go.RowKit
theorem bool_ty : Ety Try.prog 42 boolT 1 := Ety.mk' Try.underlying42 bool_info rfl (by omega) (by omega)
set_option maxRecDepth 100000 in
set_option maxHeartbeats 8000000 in
theorem RStale_c {w : World} {A : Option Addr} {c : Nat} {os : List (RulA × Grp)} {gs : List Grp} (hG : GrpsR w A os gs) (hgs : gs.length ≤ 10) (hcap : gs.length ≤ c) (hb : ∀ g ∈ gs, GB3 g ∧ 1 ≤ g.targets.length ∧ (g.targets.headD []).length ≤ 1000000)
    {kA : Option Addr} {kc : Nat} {ks : List (RcdV × Str × Rcd)} (hK : KtsR w kA ks) (hkn : ks.length ≤ 1000) {lA : Option Addr} {lc : Nat} {l : List File} (hl : SlR fileF w lA l.length l) (hln : l.length ≤ 1000) :
    Calls Try.prog 23 #[.slice A gs.length c, .slice lA l.length lc, .slice kA ks.length kc] w fun e w' => ∃ B d, e = .returned (.slice B gs.length d) ∧ SlR boF w' B gs.length (staleF l (ktL ks) gs) ∧ Ext w w' := by
  obtain ⟨F, hFe⟩ : ∃ F, F = ktL ks := ⟨_, rfl⟩
  have HG := Lib.hid hG
  have HB := Lib.hid hb
  have HFr : Hid (∀ u, Ext w u → ∀ (x : RulA × Grp), x ∈ os → Calls Try.prog 44 #[grpW x, .slice lA l.length lc, .slice kA ks.length kc] u fun e w' => e = .returned (.bool (freshF l F x.2)) ∧ Ext u w') := fun u hu x hx => by
    obtain ⟨a, G⟩ := x
    have h1 := (hG.ext hu).rr _ hx
    have hm : G ∈ gs := by rw [← hG.om]; exact List.mem_map_of_mem hx
    obtain ⟨⟨b1, b2, b3⟩, b4, b5⟩ := hb G hm
    have d1 : G.targets.length ≤ 100 := by omega
    have d2 : G.needs.length ≤ 1000 := by omega
    have d3 : G.cmds.length ≤ 1000 := by omega
    rw [hFe]
    exact RFresh_c (hK.ext hu) hkn h1.1 h1.2.1 h1.2.2 b4 d1 d2 d3 (hl.ext hu) hln
  rw [← hFe]
  clear hG hb hK hl hFe
  go_enter Try.func23, Try.ntmps23
  go_wp2_with fail
  go_loopw [7, 8] (fun ov i wr => ∃ k : Nat, k ≤ gs.length ∧ i = .int .i64 k ∧ ∃ (B : Option Addr) (d : Nat), ov = .slice B k d ∧ Fresh boF boolT w wr B d (staleTo l F gs k)) (fun _ i _ => gs.length - (intOf i).toNat)
  case atStart => exact ⟨0, Nat.zero_le _, rfl, none, 0, rfl, Fresh.nil _ _ _ _ (Only.refl _ _)⟩
  case round =>
    obtain ⟨i, hi, rfl, B, d, rfl, hF⟩ := hrel
    have F0 := Lib.hid hF
    have XR := Lib.hid hF.ext
    clear hF
    by_cases hlt : i < gs.length
    · obtain ⟨bg, o, ⟨⟨tA, tc, nA, nc, cA, cc⟩, G⟩, rfl, hox, c0, c1, c2, c3⟩ := grps_get HG.out.row hlt
      have hgi : gs[i]? = some G := by rw [← HG.out.om, List.getElem?_map, hox]; rfl
      have HN : Hid (SlR strF w nA G.needs.length G.needs) := (HG.out.rr _ (List.mem_of_getElem? hox)).2.1
      have hnn : G.needs.length ≤ 3 := (HB.out G (List.mem_of_getElem? hgi)).1.2.1
      have HF2 := Lib.hid (HFr.out wr XR.out _ (List.mem_of_getElem? hox))
      have HMk : Hid (∀ u, Ext w u → ∀ t, Calls Try.prog 45 #[.slice (some ⟨bg, o, none⟩) i c, S t] u fun e w' => e = .returned (.int .i64 (idxI (makerF (gs.take i) t))) ∧ Ext u w') := fun u hu t => by
        have hl : (gs.take i).length = i := by rw [List.length_take]; omega
        have h1 : GrpsR u (some ⟨bg, o, none⟩) (os.take i) (gs.take i) := by
          refine ⟨?_, fun x hx => (HG.out.ext hu).rr x (List.mem_of_mem_take hx), ?_⟩
          · rw [hl]; exact (HG.out.row.ext hu).take (Nat.le_of_lt hlt)
          · rw [List.map_take, HG.out.om]
        have h2 := RMaker_c (c := c) h1 (by omega) (fun g hg => by have := (HB.out g (List.mem_of_mem_take hg)).1.1; omega) t
        rw [hl] at h2
        exact h2
      obtain ⟨ST, hST⟩ : ∃ s, s = staleTo l F gs i := ⟨_, rfl⟩
      have HSl : Hid (ST.length = i) := by rw [hST]; exact staleTo_len _ _ _ _
      have HSn : Hid (staleTo l F gs (i + 1) = ST ++ [(!G.phony && !freshF l F G) || G.needs.any (nedB gs ST i)]) := by rw [Hid, staleTo, hgi, hST]; rfl
      rw [← hST] at F0
      have q0 : wr.cell? ⟨bg, o + i * 4, none⟩ = some (.slice tA G.targets.length tc) := c0 ⟨wr, XR.out⟩
      have q1 : wr.cell? ⟨bg, o + i * 4 + 1, none⟩ = some (.slice nA G.needs.length nc) := c1 ⟨wr, XR.out⟩
      have q2 : wr.cell? ⟨bg, o + i * 4 + 2, none⟩ = some (.slice cA G.cmds.length cc) := c2 ⟨wr, XR.out⟩
      have q3 : wr.cell? ⟨bg, o + i * 4 + 3, none⟩ = some (.bool G.phony) := c3 ⟨wr, XR.out⟩
      have HC1 := Lib.hid c1
      have HC3 := Lib.hid c3
      obtain ⟨fr, hfr⟩ : ∃ b, b = freshF l F G := ⟨_, rfl⟩
      rw [← hfr] at HF2 HSn
      clear c0 c1 c2 c3 hox hgi hST hfr
      go_wp2_with fail
      refine HF2.out.mono ?_
      rintro e u ⟨rfl, hu⟩
      have XU := Lib.hid (XR.out.then_ext hu)
      have F1 := Lib.hid (F0.out.on hu)
      have p3 : u.cell? ⟨bg, o + i * 4 + 3, none⟩ = some (.bool G.phony) := HC3.out ⟨u, XU.out⟩
      have HSn2 : Hid (∀ x, x = (!G.phony && !fr) → staleTo l F gs (i + 1) = ST ++ [x || G.needs.any (nedB gs ST i)]) := fun x e => by rw [e]; exact HSn.out
      clear hu HF2 q0 q1 q2 q3 HSn XR F0
      obtain ⟨ph, hph⟩ : ∃ b, b = G.phony := ⟨_, rfl⟩
      rw [← hph] at HSn2 p3
      clear hph
      cases ph
      case' true =>
        go_upto_region 7 with fail
        obtain ⟨x, hx⟩ : ∃ x, x = false := ⟨_, rfl⟩
      case' false =>
        go_upto_region 7 with fail
        obtain ⟨x, hx⟩ : ∃ x, x = !fr := ⟨_, rfl⟩
      all_goals
        have HSm := Lib.hid (HSn2.out x hx)
        have Hx := Lib.hid hx
        clear HSn2 hx p3
        go_wp2_with fail
        go_loopw [10, 11] (fun sv j wr => ∃ k : Nat, k ≤ G.needs.length ∧ j = .int .i64 k ∧ sv = .bool (x || (G.needs.take k).any (nedB gs ST i)) ∧ Fresh boF boolT w wr B d ST) (fun _ j _ => G.needs.length - (intOf j).toNat)
        case atStart => exact ⟨0, Nat.zero_le _, rfl, by rw [List.take_zero, List.any_nil, Bool.or_false, Hx.out], F1.out⟩
        case round =>
          clear F1 XU Hx
          obtain ⟨k, hk, rfl, rfl, hF⟩ := hrel
          have F2 := Lib.hid hF
          have XK := Lib.hid hF.ext
          have q1 : wr.cell? ⟨bg, o + i * 4 + 1, none⟩ = some (.slice nA G.needs.length nc) := HC1.out ⟨wr, XK.out⟩
          clear hF
          by_cases hlk : k < G.needs.length
          · obtain ⟨bn, on, t, rfl, ht, ct⟩ := strs_get HN.out hlk
            have v1 : ∀ ξ : X wr No, ξ.v.cell? ⟨bg, o + i * 4 + 1, none⟩ = some (.slice (some ⟨bn, on, none⟩) G.needs.length nc) := fun ξ => HC1.out ⟨ξ.v, XK.out.then_ext ξ.h⟩
            have v2 : ∀ ξ : X wr No, ξ.v.cell? ⟨bn, on + k, none⟩ = some (S t) := fun ξ => ct ⟨ξ.v, XK.out.then_ext ξ.h⟩
            have HTk := Lib.hid (any_succ (nedB gs ST i) ht)
            have HM2 := Lib.hid (HMk.out wr.drew XK.out.drew t)
            clear ht ct
            obtain ⟨cu, hcu⟩ : ∃ b, b = (x || (G.needs.take k).any (nedB gs ST i)) := ⟨_, rfl⟩
            have HCu : Hid ((x || (G.needs.take (k + 1)).any (nedB gs ST i)) = (cu || nedB gs ST i t)) := by rw [Hid, HTk.out, hcu, Bool.or_assoc]
            rw [← hcu]
            clear hcu HTk
            go_upto_region 10 with fail
            refine Mix.wp_draw [11] 100 (Cl wr No) (by kernel_rfl) (by kernel_rfl) (Cl.of (Only.refl _ _).drew) ?_
            (repeat' (refine Mix.lex_quiet0 rfl rfl rfl ?_; intro K hK; go_big_quiet_op; go_big_quiet_on))
            ((first | refine Mix.lex_goes0 rfl rfl ?_ | refine Mix.lex_goesG rfl rfl rfl (by with_reducible rfl) rfl ?_); intro K hK; go_simp)
            refine HM2.out.mono ?_
            rintro e u5 ⟨rfl, hx⟩
            have F5 := Lib.hid (F2.out.on ((Only.refl No wr).drew.then_ext hx))
            refine ⟨_, rfl, hK _ _ (fun _ => Cl.of ((Only.refl No wr).drew.then_ext hx)) ?_⟩
            clear hK K hx v1 v2 q1 F2 HM2 XK
            simp only [Act.put, List.setIfInBounds_toArray, List.set_cons_succ, List.set_cons_zero]
            (repeat' (refine Mix.lex_quiet0 rfl rfl rfl ?_; intro K hK; go_big_quiet_op; go_big_quiet_on))
            refine Mix.lex_nil ?_
            cases hmf : makerF (gs.take i) t with
            | none =>
              rw [show idxI none = (-1 : Int) from rfl]
              have HCv : Hid ((x || (G.needs.take (k + 1)).any (nedB gs ST i)) = cu) := by rw [Hid, HCu.out, nedB, hmf]; exact Bool.or_false _
              clear hmf
              go_wp2_with fail
              go_roundw
              case rel => exact ⟨k + 1, by omega, by go_num, by rw [HCv.out], F5.out⟩
              case measure => simp [intOf]; omega
            | some q =>
              have hq : q < i := by have := makerF_lt hmf; rw [List.length_take] at this; omega
              have HCu2 : Hid ((x || (G.needs.take (k + 1)).any (nedB gs ST i)) = (cu || ST.getD q false)) := by rw [Hid, HCu.out, nedB, hmf]
              rw [show idxI (some q) = (q : Int) from rfl]
              have t1 : decide ((0 : Int) ≤ (q : Int)) = true := by rw [decide_eq_true_iff]; omega
              obtain ⟨b', o', s2, rfl, hs2, cq⟩ := bos_get (F5.out.row (by decide)) (show q < ST.length by rw [HSl.out]; exact hq)
              have y2 : u5.cell? ⟨b', o' + q, none⟩ = some (.bool s2) := cq (X.here u5 No)
              rw [List.getD_eq_getElem?_getD, hs2] at HCu2
              have HCv : Hid ((x || (G.needs.take (k + 1)).any (nedB gs ST i)) = (cu || s2)) := HCu2
              clear hmf hs2 cq HCu2
              cases s2 with
              | true =>
                have HCw : Hid ((x || (G.needs.take (k + 1)).any (nedB gs ST i)) = true) := by rw [Hid, HCv.out, Bool.or_true]
                go_wp2_with fail
                go_roundw
                case rel => exact ⟨k + 1, by omega, by go_num, by rw [HCw.out], F5.out⟩
                case measure => simp [intOf]; omega
              | false =>
                have HCw : Hid ((x || (G.needs.take (k + 1)).any (nedB gs ST i)) = cu) := by rw [Hid, HCv.out, Bool.or_false]
                go_wp2_with fail
                go_roundw
                case rel => exact ⟨k + 1, by omega, by go_num, by rw [HCw.out], F5.out⟩
                case measure => simp [intOf]; omega
          · obtain rfl : k = G.needs.length := by omega
            have F7 : Hid (staleTo l F gs (i + 1) = ST ++ [x || (G.needs.take G.needs.length).any (nedB gs ST i)]) := by
              rw [Hid, HSm.out, List.take_of_length_le (Nat.le_refl _)]
            obtain ⟨y, hy⟩ : ∃ y, y = (x || (G.needs.take G.needs.length).any (nedB gs ST i)) := ⟨_, rfl⟩
            rw [← hy] at F7 ⊢
            have h10 : ST.length ≤ 10 := by rw [HSl.out]; omega
            have hsl := HSl.out
            subst hsl
            clear hy
            obtain ⟨FF, hFF⟩ : ∃ FF : Nat → Prop, FF = fun q => (Value.slice B ST.length d).ownBlock = some q := ⟨_, rfl⟩
            have HFq := Lib.hid hFF
            clear hFF
            go_upto_region 13 with fail
            refine Mix.wp_plain [2, 3] (Cl wr FF) (Cl.of (Only.refl _ _)) ?_
            (repeat' (refine Mix.lex_quiet0 rfl rfl rfl ?_; intro K hK; go_big_quiet_op; go_big_quiet_on))
            ((first | refine Mix.lex_goes0 rfl rfl ?_ | refine Mix.lex_goesG rfl rfl rfl (by with_reducible rfl) rfl ?_); intro K hK; go_simp)
            have F6 := Lib.hid (F2.out.on ((Only.refl No wr).alloc (.cells #[.bool y] boolT)))
            refine hK _ _ (fun _ => Cl.of ((Only.refl FF wr).alloc _)) ?_
            clear hK K
            simp only [Act.put, List.setIfInBounds_toArray, List.set_cons_succ, List.set_cons_zero]
            refine Mix.lex_goes0 rfl rfl ?_
            intro K hK
            refine goes_append (v := .slice B ST.length d) (n := ST.length) (xs := ST.flatMap boF.enc) bool_ty rfl rfl rfl F6.out.own (rd_one wr _ [.bool y]) (by simp [Value.oneCell']) (by omega) ?_
            intro B' d' w7 hown5 hgr5 hb5
            have F8 : Hid (Fresh boF boolT w w7 B' d' (ST ++ [y])) := F6.out.grow (m := 1) (ys := [y]) rfl hown5 hgr5 hb5
            have O7 : Hid (Only FF wr w7) := ((Only.refl FF wr).alloc _).grown hgr5 fun g hg => .inr (by rw [HFq.out]; exact hg)
            refine hK _ _ (fun _ => Cl.of O7.out) ?_
            clear hK K hown5 hgr5 hb5
            simp only [Act.put, List.setIfInBounds_toArray, List.set_cons_succ, List.set_cons_zero]
            (repeat' (refine Mix.lex_quiet0 rfl rfl rfl ?_; intro K hK; go_big_quiet_op; go_big_quiet_on))
            refine Mix.lex_nil ?_
            go_wp2_with fail
            go_roundw
            case rel => exact ⟨ST.length + 1, by omega, by go_num, B', d', by simp, by rw [F7.out]; exact F8.out⟩
            case measure => simp [intOf]; omega
    · obtain rfl : i = gs.length := by omega
      go_wp2_with fail
      go_ret
      have h := F0.out.row (by decide)
      rw [staleTo_len] at h
      exact ⟨_, _, rfl, h, XR.out⟩
theorem word_len {s : Str} (h : wordB s = true) : s.length ≤ 8 := by
  unfold wordB nameB at h
  simp only [Bool.and_eq_true, decide_eq_true_eq] at h
  obtain ⟨⟨_, h⟩, _⟩ := h
  unfold onceF at h
  split at h
  · rename_i hc
    have := congrArg List.length (cut_parts 37 s hc)
    simp only [List.length_append, List.length_cons, List.length_nil] at this h
    omega
  · exact h
theorem okFrom_len {p : Bool} : ∀ {l seen : List Str}, okFrom p seen l = true → ∀ x ∈ l, x.length ≤ 8
  | [], _, _, x, hx => by cases hx
  | y :: r, seen, h, x, hx => by
    unfold okFrom at h
    simp only [Bool.and_eq_true] at h
    rcases List.mem_cons.1 hx with rfl | hx
    · exact word_len h.1.1.1
    · exact okFrom_len h.2 x hx
structure RLen (r : Rul) : Prop where
  t : ∀ x ∈ r.targets, x.length ≤ 8
  n : ∀ x ∈ r.needs, x.length ≤ 8
  c : ∀ x ∈ r.cmds, x.length ≤ 28
structure MLen (m : Mk) : Prop where
  r : ∀ x ∈ m.rules, RLen x
  p : ∀ x ∈ m.phony, x.length ≤ 8
theorem mk0_len : MLen mk0 := ⟨(fun x hx => by cases hx), (fun x hx => by cases hx)⟩
theorem headF_mlen {m : Mk} (h : MLen m) (s : Str) : MLen (headF m s).1 := by
  unfold headF
  split
  · exact h
  · split
    · exact h
    · split
      · exact h
      · split
        · rename_i h4
          unfold allOk at h4
          rw [Bool.and_eq_true] at h4
          have h5 := okFrom_len h4.1
          refine ⟨fun x hx => ?_, h.p⟩
          rcases List.mem_append.1 hx with hx | hx
          · exact h.r x hx
          · obtain rfl := List.mem_singleton.1 hx
            exact ⟨fun y hy => h5 y (List.mem_append_left _ hy), fun y hy => h5 y (List.mem_append_right _ hy), (fun y hy => by cases hy)⟩
        · exact h
theorem cmdF_mlen {m : Mk} (h : MLen m) (s : Str) : MLen (cmdF m s).1 := by
  unfold cmdF
  split
  · exact h
  · rename_i r hr
    split
    · exact h
    · split
      · exact h
      · rename_i h3
        have hm := h.r r (List.mem_of_getLast? hr)
        refine ⟨fun x hx => ?_, h.p⟩
        rcases List.mem_append.1 hx with hx | hx
        · exact h.r x (List.dropLast_subset _ hx)
        · obtain rfl := List.mem_singleton.1 hx
          refine ⟨hm.t, hm.n, fun y hy => ?_⟩
          rcases List.mem_append.1 hy with hy | hy
          · exact hm.c y hy
          · obtain rfl := List.mem_singleton.1 hy
            omega
theorem lineF_mlen {m : Mk} (h : MLen m) (s : Str) : MLen (lineF m s).1 := by
  cases s with
  | nil => exact h
  | cons x r =>
    rw [lineF_cons]
    split
    · exact h
    · split
      · exact cmdF_mlen h r
      · split
        · unfold phoF
          split
          · exact h
          · rename_i h1
            refine ⟨h.r, fun y hy => ?_⟩
            rcases List.mem_append.1 hy with hy | hy
            · exact h.p y hy
            · obtain rfl := List.mem_singleton.1 hy
              rw [not_or] at h1
              have h2 := h1.1
              rw [Bool.not_eq_false] at h2
              unfold nameB at h2
              simp only [Bool.and_eq_true, decide_eq_true_eq] at h2
              exact h2.1.2
        · split
          · unfold varF
            split
            · exact h
            · split
              · exact h
              · exact ⟨h.r, h.p⟩
          · exact headF_mlen h _
theorem foldF_mlen : ∀ (ls : List Str) (m : Mk), MLen m → MLen (foldF ls m).1
  | [], _, h => h
  | l :: ls, m, h => by
    unfold foldF
    split
    · exact foldF_mlen ls _ (lineF_mlen h l)
    · exact mk0_len
theorem parseF_mlen (s : Str) : MLen (parseF s).1 := by
  unfold parseF
  split
  · exact mk0_len
  · split
    · exact mk0_len
    · split
      · exact foldF_mlen _ _ mk0_len
      · exact mk0_len
theorem gbd {s : Str} {l : List File} (h : lightF l = true) : GBd (parseF s).1 l := by
  have hf := parseF_fit s
  have hm := parseF_mlen s
  obtain ⟨h1, _, h3⟩ := lightF_facts h
  refine ⟨Nat.le_trans hf.r (by decide), fun r hr => ?_, Nat.le_trans hf.p (by decide), by omega, h3⟩
  obtain ⟨p1, p2, p3, p4⟩ := hf.rt r hr
  have q := hm.r r hr
  exact ⟨p1, p2, p3, p4, fun x hx => by have := q.t x hx; omega, fun x hx => by have := q.n x hx; omega, fun x hx => by have := q.c x hx; omega⟩
theorem flat_len {α β : Type} {f : α → List β} {k : Nat} : ∀ {l : List α}, (∀ x ∈ l, (f x).length ≤ k) → (l.flatMap f).length ≤ k * l.length
  | [], _ => by simp
  | x :: xs, h => by
    have h1 := h x (by simp)
    have h2 := flat_len (l := xs) fun y hy => h y (List.mem_cons_of_mem _ hy)
    simp only [List.flatMap_cons, List.length_append, List.length_cons]
    rw [Nat.mul_add]
    omega
theorem cand_few {s : Str} {l : List File} (h : lightF l = true) (goal : Str) : (candF (parseF s).1 l goal).length < 100 := by
  have hf := parseF_fit s
  obtain ⟨h1, _, _⟩ := lightF_facts h
  have a1 := flat_len (f := fun r : Rul => r.targets) (k := 2) (l := (parseF s).1.rules) fun r hr => (hf.rt r hr).2.1
  have a2 := flat_len (f := fun r : Rul => ndsOf r []) (k := 3) (l := (parseF s).1.rules) fun r hr => by
    show (ndsOf r []).length ≤ 3
    unfold ndsOf
    rw [List.length_map]
    exact (hf.rt r hr).2.2.1
  have a3 := hf.r
  unfold candF
  simp only [List.length_append, List.length_cons, List.length_map]
  omega
theorem cand_len {s : Str} {l : List File} (h : lightF l = true) {goal : Str} (hg : goal.length ≤ 20) : ∀ x ∈ candF (parseF s).1 l goal, x.length ≤ 200 := by
  have hm := parseF_mlen s
  obtain ⟨_, h2, _⟩ := lightF_facts h
  intro x hx
  unfold candF at hx
  simp only [List.mem_append, List.mem_cons, List.mem_map, List.mem_flatMap] at hx
  rcases hx with (((rfl | ⟨y, hy, rfl⟩) | ⟨r, hr, hx⟩)) | ⟨r, hr, hx⟩
  · omega
  · have := (h2 y hy).1; omega
  · have := (hm.r r hr).t x hx; omega
  · unfold ndsOf at hx
    obtain ⟨y, hy, rfl⟩ := List.mem_map.1 hx
    have q1 := (hm.r r hr).n y hy
    have q2 := onceF_len y []
    simp only [List.length_nil] at q2
    omega
theorem needsF_allN {P : Grp → Prop} {N : Str → Prop} {rec : List Grp → Str → List Grp × Int} (h : ∀ o n, N n → (∀ g ∈ o, P g) → ∀ g ∈ (rec o n).1, P g) : ∀ (ns : List Str) (o : List Grp), (∀ n ∈ ns, N n) → (∀ g ∈ o, P g) → ∀ g ∈ (needsF rec o ns).1, P g
  | [], _, _, ho => ho
  | n :: ns, o, hn, ho => by
    unfold needsF
    split
    · exact h o n (hn n List.mem_cons_self) ho
    · exact needsF_allN h ns _ (fun k hk => hn k (List.mem_cons_of_mem _ hk)) (h o n (hn n List.mem_cons_self) ho)
theorem visitF_allN {m : Mk} {l : List File} {P : Grp → Prop} {N : Str → Prop} (hP : ∀ n g, N n → ruleF m l n = some g → P g ∧ ∀ k ∈ g.needs, N k) : ∀ (f : Nat) (way : List Str) (out : List Grp) (n : Str), N n → (∀ g ∈ out, P g) → ∀ g ∈ (visitF m l f way out n).1, P g
  | 0, _, _, _, _, ho => ho
  | f + 1, way, out, n, hn, ho => by
    have := fun w => needsF_allN (rec := visitF m l f w) (N := N) fun o n hn h => visitF_allN hP f w o n hn h
    unfold visitF
    split
    · exact ho
    · split
      · exact ho
      · split
        · split <;> exact ho
        · rename_i g hg
          have hg2 := hP n g hn hg
          split
          · exact this _ _ _ hg2.2 ho
          · split
            · exact this _ _ _ hg2.2 ho
            · intro x hx
              rcases List.mem_append.1 hx with hx | hx
              · exact this _ _ _ hg2.2 ho x hx
              · obtain rfl := List.mem_singleton.1 hx
                exact hg2.1
def GB4 (g : Grp) : Prop := 1 ≤ g.targets.length ∧ (∀ t ∈ g.targets, t.length ≤ 10000) ∧ ∀ t ∈ g.needs, t.length ≤ 10000
theorem ruleF_b4 {m : Mk} {l : List File} (hb : GBd m l) {goal : Str} (hc : ∀ x ∈ candF m l goal, x.length ≤ 200) (n : Str) (g : Grp) (hn : n.length ≤ 10000) (h : ruleF m l n = some g) : GB4 g ∧ ∀ k ∈ g.needs, k.length ≤ 10000 := by
  have h3 : ∀ k ∈ g.needs, k.length ≤ 10000 := fun k hk => by have := hc k (ruleF_cand h k hk); omega
  refine ⟨⟨(ruleF_b hb h).1, fun t ht => ?_, h3⟩, h3⟩
  rcases ruleF_some h with ⟨r, hr, rfl⟩ | ⟨_, r, _, hs, rfl, _⟩
  · rw [groupF_tgt] at ht
    have := (hb.t r (explF_some hr).1).2.2.2.2.1 t ht
    omega
  · have ht : t ∈ tgtOf r n _ := ht
    unfold tgtOf at ht
    rw [if_neg (stemL_ne hs)] at ht
    obtain rfl := List.mem_singleton.1 ht
    exact hn
theorem groupsF_b4 {m : Mk} {l : List File} (hb : GBd m l) {goal : Str} (hg : goal.length ≤ 10000) (hc : ∀ x ∈ candF m l goal, x.length ≤ 200) : ∀ g ∈ (groupsF m l goal).1, GB4 g := by
  unfold groupsF
  split
  · intro g hg; cases hg
  · split
    · intro g hg; cases hg
    · exact visitF_allN (N := fun n => n.length ≤ 10000) (fun n g hn h => ruleF_b4 hb hc n g hn h) 100 [] [] goal hg (fun g hg => by cases hg)
theorem GB4.head {g : Grp} (h : GB4 g) : 1 ≤ g.targets.length ∧ (g.targets.headD []).length ≤ 1000000 := by
  refine ⟨h.1, ?_⟩
  cases ht : g.targets with
  | nil => simp
  | cons a r =>
    have := h.2.1 a (by rw [ht]; exact List.mem_cons_self)
    show a.length ≤ _
    omega
theorem least_ex {P : Nat → Prop} : ∀ n, P n → ∃ m, P m ∧ ∀ y, P y → m ≤ y := by
  intro n
  induction n using Nat.strongRecOn with
  | ind n ih =>
    intro hn
    by_cases h : ∃ k, k < n ∧ P k
    · obtain ⟨k, hk, hp⟩ := h
      exact ih k hk hp
    · refine ⟨n, hn, fun y hy => ?_⟩
      rcases Nat.lt_or_ge y n with hlt | hge
      · exact absurd ⟨y, hlt, hy⟩ h
      · exact hge
theorem marks_ok (gs : List Grp) (st : List Bool) : LstOk (edgesF gs st) gs.length (fun k => (sweepsF (edgesF gs st) gs.length (List.range gs.length)).getD k 0) := by
  intro k hk
  obtain ⟨m, h1, h2⟩ := least_ex (P := Conn (edgesF gs st) k) k .here
  have := marks_least (fun e he => by have := edgesTo_ok e he; omega) hk (show Least (edgesF gs st) k m from ⟨h1, h2⟩)
  show Least _ _ ((sweepsF (edgesF gs st) gs.length (List.range gs.length)).getD k 0)
  rw [this]
  exact ⟨h1, h2⟩
theorem sweep_app (A B : List Edge) (mk : List Nat) : sweepF (A ++ B) mk = sweepF B (sweepF A mk) := List.foldl_append ..
theorem sweep_len : ∀ (E : List Edge) (mk : List Nat), (sweepF E mk).length = mk.length
  | [], _ => rfl
  | e :: E, mk => by
    show (sweepF E (relaxF mk e)).length = _
    rw [sweep_len E]
    unfold relaxF
    rw [List.length_set, List.length_set]
theorem pad_set {n i : Nat} (hi : i < n) : (List.range i ++ List.replicate (n - i) 0).set i i = List.range (i + 1) ++ List.replicate (n - (i + 1)) 0 := by
  have : List.replicate (n - i) 0 = 0 :: List.replicate (n - (i + 1)) 0 := by
    rw [show n - i = (n - (i + 1)) + 1 by omega, List.replicate_succ]
  rw [this, List.set_append_right _ _ (by simp), List.length_range, Nat.sub_self, List.range_succ]
  simp
set_option maxRecDepth 100000 in
set_option maxHeartbeats 8000000 in
theorem RUnits_c {w : World} {A : Option Addr} {c : Nat} {os : List (RulA × Grp)} {gs : List Grp} (hG : GrpsR w A os gs) (hgs : gs.length ≤ 10) (hcap : gs.length ≤ c) (hb : ∀ g ∈ gs, GB3 g) {sA : Option Addr} {sc : Nat} {st : List Bool} (hS : SlR boF w sA gs.length st) :
    Calls Try.prog 28 #[.slice A gs.length c, .slice sA gs.length sc] w (UnsRes w gs st) := by
  have hsl : st.length = gs.length := hS.1
  have HG := Lib.hid hG
  have HS := Lib.hid hS
  have HB := Lib.hid hb
  have hmk := make_ints gs.length (by omega)
  obtain ⟨w1, hw1⟩ : ∃ u, u = w.alloc (.cells (upV (List.replicate gs.length 0)) intT) := ⟨_, rfl⟩
  obtain ⟨g5, hg5⟩ : ∃ g, g = w.heap.size := ⟨_, rfl⟩
  have X1 : Hid (Ext w w1) := by rw [hw1]; exact (Only.refl No w).alloc _
  have C1 : Hid (Cs w1 g5 intT (upV (List.replicate gs.length 0))) := by rw [hw1, hg5]; exact Cs.new _ _ _
  have HG5 : Hid (w.heap.size ≤ g5) := Nat.le_of_eq hg5.symm
  clear hG hb hS hsl
  go_enter Try.func28, Try.ntmps28
  go_upto_region 3 with fail
  rw [← hw1, ← hg5]
  clear hw1 hg5 hmk
  go_wp2_with fail
  go_loopw [7] (fun i wr => ∃ k : Nat, k ≤ gs.length ∧ i = .int .i64 k ∧ Cs wr g5 intT (upV (List.range k ++ List.replicate (gs.length - k) 0)) ∧ Ext w wr) (fun i _ => gs.length - (intOf i).toNat)
  case atStart => exact ⟨0, Nat.zero_le _, rfl, by simpa using C1.out, X1.out⟩
  case round =>
    clear C1 X1
    obtain ⟨i, hi, rfl, hC, hx⟩ := hrel
    have C0 := Lib.hid hC
    have XR := Lib.hid hx
    clear hC hx
    by_cases hlt : i < gs.length
    · obtain ⟨y, hy⟩ : ∃ y, y = (List.range i ++ List.replicate (gs.length - i) 0).getD i 0 := ⟨_, rfl⟩
      have y0 : wr.cell? ⟨g5, i, none⟩ = some (.int .i64 (y : Nat)) := by rw [C0.out.cell i, hy]; exact upV_get (by rw [List.length_append, List.length_range, List.length_replicate]; omega)
      have z0 := C0.out.frozen i
      have CN : Hid (Cs (wr.setCell ⟨g5, i, none⟩ (.int .i64 (i : Int))) g5 intT (upV (List.range (i + 1) ++ List.replicate (gs.length - (i + 1)) 0))) := by
        have := C0.out.ups i i
        rw [pad_set hlt] at this
        exact this
      have XN : Hid (Ext w (wr.setCell ⟨g5, i, none⟩ (.int .i64 (i : Int)))) := XR.out.trans ((Only.refl (fun b => b = g5) _).at_ i _) fun q hq e => by have e : q = g5 := e; have := HG5.out; omega
      clear hy
      go_wp2_with fail
      go_roundw
      case rel => exact ⟨i + 1, by omega, by go_num, CN.out, XN.out⟩
      case measure => simp [intOf]; omega
    · obtain rfl : i = gs.length := by omega
      have CR : Hid (Cs wr g5 intT (upV (List.range gs.length))) := by have := C0.out; rw [Nat.sub_self, List.replicate_zero, List.append_nil] at this; exact this
      have HFin : Hid (∃ fin, fin = sweepsF (edgesF gs st) gs.length (List.range gs.length)) := ⟨_, rfl⟩
      obtain ⟨fin, hfin⟩ := HFin.out
      have HFn := Lib.hid hfin
      clear HFin hfin C0 hlt hi
      go_wp2_with fail
      go_loopw [8] (fun i wr => ∃ k : Nat, k ≤ gs.length ∧ i = .int .i64 k ∧ ∃ mk : List Nat, mk.length = gs.length ∧ sweepsF (edgesF gs st) (gs.length - k) mk = fin ∧ Cs wr g5 intT (upV mk) ∧ Ext w wr) (fun i _ => gs.length - (intOf i).toNat)
      case atStart => exact ⟨0, Nat.zero_le _, rfl, _, List.length_range, HFn.out.symm, CR.out, XR.out⟩
      case round =>
        clear CR XR
        obtain ⟨t, ht, rfl, mk, hml, hE, hC, hx⟩ := hrel
        have HE := Lib.hid hE
        have Hml := Lib.hid hml
        have C0 := Lib.hid hC
        have XR := Lib.hid hx
        clear hE hml hC hx
        by_cases hlt : t < gs.length
        · have HE2 : Hid (sweepsF (edgesF gs st) (gs.length - (t + 1)) (sweepF (edgesF gs st) mk) = fin) := by
            have := HE.out
            rw [show gs.length - t = (gs.length - (t + 1)) + 1 by omega] at this
            exact this
          go_wp2_with fail
          go_loopw [9] (fun i wr => ∃ k : Nat, k ≤ gs.length ∧ i = .int .i64 k ∧ Cs wr g5 intT (upV (sweepF (edgesTo gs st k) mk)) ∧ Ext w wr) (fun i _ => gs.length - (intOf i).toNat)
          case atStart => exact ⟨0, Nat.zero_le _, rfl, C0.out, XR.out⟩
          case round =>
            clear C0 XR
            obtain ⟨i, hi, rfl, hC, hx⟩ := hrel
            have C0 := Lib.hid hC
            have XR := Lib.hid hx
            clear hC hx
            by_cases hlt2 : i < gs.length
            · obtain ⟨bg, o, ⟨⟨tA, tc, nA, nc, cA, cc⟩, G⟩, rfl, hox, c0, c1, c2, c3⟩ := grps_get HG.out.row hlt2
              obtain ⟨bs, so, s, rfl, hss, cs⟩ := bos_get HS.out hlt2
              have hgi : gs[i]? = some G := by rw [← HG.out.om, List.getElem?_map, hox]; rfl
              have hnn : G.needs.length ≤ 3 := (HB.out G (List.mem_of_getElem? hgi)).2.1
              have HN : Hid (SlR strF w nA G.needs.length G.needs) := (HG.out.rr _ (List.mem_of_getElem? hox)).2.1
              have Hsi := Lib.hid (stB_at hss)
              have HEd : Hid (edgesTo gs st (i + 1) = edgesTo gs st i ++ G.needs.filterMap (edgeF gs st i)) := by
                rw [Hid, edgesTo_succ, edgesAt, ndsAt, hgi]
              have CS : Hid (∀ u, Ext w u → u.cell? ⟨bs, so + i, none⟩ = some (.bool s)) := fun u hu => cs ⟨u, hu⟩
              have CN : Hid (∀ u, Ext w u → u.cell? ⟨bg, o + i * 4 + 1, none⟩ = some (.slice nA G.needs.length nc)) := fun u hu => c1 ⟨u, hu⟩
              have HMk : Hid (∀ u, Ext w u → ∀ t, Calls Try.prog 45 #[.slice (some ⟨bg, o, none⟩) i c, S t] u fun e w' => e = .returned (.int .i64 (idxI (makerF (gs.take i) t))) ∧ Ext u w') := fun u hu t => by
                have hl : (gs.take i).length = i := by rw [List.length_take]; omega
                have h1 : GrpsR u (some ⟨bg, o, none⟩) (os.take i) (gs.take i) := by
                  refine ⟨?_, fun x hx => (HG.out.ext hu).rr x (List.mem_of_mem_take hx), ?_⟩
                  · rw [hl]; exact (HG.out.row.ext hu).take (Nat.le_of_lt hlt2)
                  · rw [List.map_take, HG.out.om]
                have h2 := RMaker_c (c := c) h1 (by omega) (fun g hg => by have := (HB.out g (List.mem_of_mem_take hg)).1; omega) t
                rw [hl] at h2
                exact h2
              clear c0 c1 c2 c3 cs hox hss hgi
              go_wp2_with fail
              go_loopw [10] (fun j wr => ∃ k : Nat, k ≤ G.needs.length ∧ j = .int .i64 k ∧ Cs wr g5 intT (upV (sweepF (edgesTo gs st i ++ (G.needs.take k).filterMap (edgeF gs st i)) mk)) ∧ Ext w wr) (fun j _ => G.needs.length - (intOf j).toNat)
              case atStart => exact ⟨0, Nat.zero_le _, rfl, by simpa using C0.out, XR.out⟩
              case round =>
                clear C0 XR
                obtain ⟨k, hk, rfl, hC, hx⟩ := hrel
                have C4 := Lib.hid hC
                have XR := Lib.hid hx
                have d1 := CN.out wr hx
                clear hC hx
                obtain ⟨mp, hmp⟩ : ∃ mp, mp = sweepF (edgesTo gs st i ++ (G.needs.take k).filterMap (edgeF gs st i)) mk := ⟨_, rfl⟩
                rw [← hmp] at C4
                have Hmp := Lib.hid hmp
                have Hmpl : Hid (mp.length = gs.length) := by rw [Hid, hmp, sweep_len]; exact Hml.out
                clear hmp
                by_cases hlk : k < G.needs.length
                · obtain ⟨bn, on, t0, rfl, ht0, ct⟩ := strs_get HN.out hlk
                  have HTk := Lib.hid (take_fm (gs := gs) (st := st) (i := i) ht0)
                  have HM2 := Lib.hid (HMk.out wr.drew XR.out.drew t0)
                  have f1 : ∀ ξ : X wr No, ξ.v.cell? ⟨bg, o + i * 4 + 1, none⟩ = some (.slice (some ⟨bn, on, none⟩) G.needs.length nc) := fun ξ => CN.out _ (XR.out.then_ext ξ.h)
                  have f2 : ∀ ξ : X wr No, ξ.v.cell? ⟨bn, on + k, none⟩ = some (S t0) := fun ξ => ct ⟨ξ.v, XR.out.then_ext ξ.h⟩
                  clear ht0 ct
                  go_upto_region 16 with fail
                  refine Mix.wp_draw [11] 100 (Cl wr No) (by kernel_rfl) (by kernel_rfl) (Cl.of (Only.refl _ _).drew) ?_
                  (repeat' (refine Mix.lex_quiet0 rfl rfl rfl ?_; intro K hK; go_big_quiet_op; go_big_quiet_on))
                  ((first | refine Mix.lex_goes0 rfl rfl ?_ | refine Mix.lex_goesG rfl rfl rfl (by with_reducible rfl) rfl ?_); intro K hK; go_simp)
                  refine HM2.out.mono ?_
                  rintro e u5 ⟨rfl, hx⟩
                  have Y5 : Hid (Ext wr u5) := (Only.refl No wr).drew.then_ext hx
                  have X5 := Lib.hid (XR.out.then_ext Y5.out)
                  have C5 := Lib.hid (C4.out.keep Y5.out id)
                  have e2 := CS.out u5 X5.out
                  refine ⟨_, rfl, hK _ _ (fun _ => Cl.of Y5.out) ?_⟩
                  clear hK K hx f1 f2 HM2 d1
                  simp only [Act.put, List.setIfInBounds_toArray, List.set_cons_succ, List.set_cons_zero]
                  (repeat' (refine Mix.lex_quiet0 rfl rfl rfl ?_; intro K hK; go_big_quiet_op; go_big_quiet_on))
                  refine Mix.lex_nil ?_
                  cases hmf : makerF (gs.take i) t0 with
                  | none =>
                    rw [show idxI none = (-1 : Int) from rfl]
                    have HE0 := Lib.hid (edgeF_none (st := st) hmf)
                    clear hmf
                    go_wp2_with fail
                    go_roundw
                    case rel => exact ⟨k + 1, by omega, by go_num, by rw [HTk.out, HE0.out, Option.toList_none, List.append_nil, ← Hmp.out]; exact C5.out, X5.out⟩
                    case measure => simp [intOf]; omega
                  | some q =>
                    have hq : q < i := by have := makerF_lt hmf; rw [List.length_take] at this; omega
                    have HEs := Lib.hid (edgeF_some (st := st) hmf)
                    rw [show idxI (some q) = (q : Int) from rfl]
                    have t1 : decide ((0 : Int) ≤ (q : Int)) = true := by rw [decide_eq_true_iff]; omega
                    clear hmf
                    cases s with
                    | false =>
                      have HE0 : Hid (edgeF gs st i t0 = none) := edgeF_off Hsi.out
                      go_wp2_with fail
                      go_roundw
                      case rel => exact ⟨k + 1, by omega, by go_num, by rw [HTk.out, HE0.out, Option.toList_none, List.append_nil, ← Hmp.out]; exact C5.out, X5.out⟩
                      case measure => simp [intOf]; omega
                    | true =>
                      obtain ⟨b', o', s2, e, hs2, cq⟩ := bos_get HS.out (show q < gs.length by omega)
                      obtain ⟨rfl, rfl⟩ : bs = b' ∧ so = o' := by
                        injection e with e
                        injection e with e1 e2
                        exact ⟨e1, e2⟩
                      have Hsq := Lib.hid (stB_at hs2)
                      have e3 : u5.cell? ⟨bs, so + q, none⟩ = some (.bool s2) := cq ⟨u5, X5.out⟩
                      clear e hs2 cq
                      cases s2 with
                      | false =>
                        have HE0 : Hid (edgeF gs st i t0 = none) := by rw [Hid, HEs.out, Hsi.out, Hsq.out]; rfl
                        go_wp2_with fail
                        go_roundw
                        case rel => exact ⟨k + 1, by omega, by go_num, by rw [HTk.out, HE0.out, Option.toList_none, List.append_nil, ← Hmp.out]; exact C5.out, X5.out⟩
                        case measure => simp [intOf]; omega
                      | true =>
                        have HE0 : Hid (edgeF gs st i t0 = some (i, q)) := by rw [Hid, HEs.out, Hsi.out, Hsq.out]; rfl
                        obtain ⟨va, hva⟩ : ∃ y, y = mp.getD i 0 := ⟨_, rfl⟩
                        obtain ⟨vb, hvb⟩ : ∃ y, y = mp.getD q 0 := ⟨_, rfl⟩
                        have f1 : ∀ ξ : X u5 No, ξ.v.cell? ⟨g5, i, none⟩ = some (.int .i64 (va : Nat)) := fun ξ => by rw [(C5.out.keep ξ.h id).cell i, hva]; exact upV_get (by rw [Hmpl.out]; exact hlt2)
                        have f2 : ∀ ξ : X u5 No, ξ.v.cell? ⟨g5, q, none⟩ = some (.int .i64 (vb : Nat)) := fun ξ => by rw [(C5.out.keep ξ.h id).cell q, hvb]; exact upV_get (by rw [Hmpl.out]; omega)
                        have hrl : Hid (relaxF mp (i, q) = (mp.set i (min va vb)).set q (min va vb)) := by rw [hva, hvb]; rfl
                        have hmn := run_min_nat (P := Try.prog) va vb
                        generalize min va vb = mn at hmn hrl
                        clear hva hvb
                        go_wp2_with fail
                        refine Mix.wp_draw [8] 100 (Cl u5 No) (by kernel_rfl) (by kernel_rfl) (Cl.of (Only.refl _ _).drew) ?_
                        (repeat' (refine Mix.lex_quiet0 rfl rfl rfl ?_; intro K hK; go_big_quiet_op; go_big_quiet_on))
                        ((first | refine Mix.lex_goes0 rfl rfl ?_ | refine Mix.lex_goesG rfl rfl rfl (by with_reducible rfl) rfl ?_); intro K hK; go_simp)
                        refine hK _ _ (fun _ => Cl.of (Only.refl _ _).drew) ?_
                        clear hK K f1 f2 hmn
                        simp only [Act.put, List.setIfInBounds_toArray, List.set_cons_succ, List.set_cons_zero]
                        (repeat' (refine Mix.lex_quiet0 rfl rfl rfl ?_; intro K hK; go_big_quiet_op; go_big_quiet_on))
                        refine Mix.lex_nil ?_
                        have C6 : Hid (Cs u5.drew g5 intT (upV mp)) := C5.out
                        have y0 : u5.drew.cell? ⟨g5, i, none⟩ = some (.int .i64 (mp.getD i 0 : Nat)) := by rw [C6.out.cell i]; exact upV_get (by rw [Hmpl.out]; exact hlt2)
                        have z0 := C6.out.frozen i
                        go_upto_region 20 with fail
                        obtain ⟨w7, hw7⟩ : ∃ z, z = (u5.setCell ⟨g5, i, none⟩ (.int .i64 (mn : Int))).drew := ⟨_, rfl⟩
                        rw [← hw7]
                        have C7 : Hid (Cs w7 g5 intT (upV (mp.set i mn))) := by rw [hw7]; exact C5.out.ups i mn
                        have X7 : Hid (Ext w w7) := by
                          rw [Hid, hw7]
                          exact (X5.out.trans ((Only.refl (fun b => b = g5) _).at_ i _) fun b hb e => by have e : b = g5 := e; have := HG5.out; omega).drew
                        have y1 : w7.cell? ⟨g5, q, none⟩ = some (.int .i64 ((mp.set i mn).getD q 0 : Nat)) := by rw [C7.out.cell q]; exact upV_get (by rw [List.length_set, Hmpl.out]; omega)
                        have z1 := C7.out.frozen q
                        clear hw7 y0 z0 C6
                        have C8 : Hid (Cs (w7.setCell ⟨g5, q, none⟩ (.int .i64 (mn : Int))) g5 intT (upV (sweepF (edgesTo gs st i ++ (G.needs.take (k + 1)).filterMap (edgeF gs st i)) mk))) := by
                          rw [Hid, HTk.out, HE0.out, ← List.append_assoc, sweep_app, ← Hmp.out]
                          show Cs _ _ _ (upV (relaxF mp (i, q)))
                          rw [hrl.out]
                          exact C7.out.ups q mn
                        have X8 : Hid (Ext w (w7.setCell ⟨g5, q, none⟩ (.int .i64 (mn : Int)))) := X7.out.trans ((Only.refl (fun b => b = g5) _).at_ q _) fun b hb e => by have e : b = g5 := e; have := HG5.out; omega
                        go_wp2_with fail
                        go_roundw
                        case rel => exact ⟨k + 1, by omega, by go_num, C8.out, X8.out⟩
                        case measure => simp [intOf]; omega
                · obtain rfl : k = G.needs.length := by omega
                  have C5 : Hid (Cs wr g5 intT (upV (sweepF (edgesTo gs st (i + 1)) mk))) := by
                    have h1 := C4.out
                    rw [Hmp.out, List.take_of_length_le (Nat.le_refl _), ← HEd.out] at h1
                    exact h1
                  go_wp2_with fail
                  go_roundw
                  case rel => exact ⟨i + 1, by omega, by go_num, C5.out, XR.out⟩
                  case measure => simp [intOf]; omega
            · obtain rfl : i = gs.length := by omega
              go_wp2_with fail
              go_roundw
              case rel => exact ⟨t + 1, by omega, by go_num, _, by rw [sweep_len]; exact Hml.out, HE2.out, C0.out, XR.out⟩
              case measure => simp [intOf]; omega
        · obtain rfl : t = gs.length := by omega
          have hmf : mk = fin := by have := HE.out; rw [Nat.sub_self] at this; exact this
          have HLs : Hid (LstOk (edgesF gs st) gs.length (fun k => fin.getD k 0)) := by rw [Hid, HFn.out]; exact marks_ok gs st
          have hfl : fin.length = gs.length := by rw [← hmf]; exact Hml.out
          rename World => wb
          have CA : Hid (∀ z, Ext wb z → ∀ k, k < gs.length → z.cell? ⟨g5, k, none⟩ = some (.int .i64 (fin.getD k 0 : Nat))) := fun z hz k hk => by
            rw [(C0.out.keep hz id).cell k, hmf]; exact upV_get (by rw [hfl]; exact hk)
          obtain ⟨r, hr⟩ : ∃ r : Nat → Nat, r = fun k => fin.getD k 0 := ⟨_, rfl⟩
          have CR : Hid (∀ z, Ext wb z → ∀ k, k < gs.length → z.cell? ⟨g5, k, none⟩ = some (.int .i64 (r k : Nat))) := fun z hz k hk => by rw [hr]; exact CA.out z hz k hk
          rw [← hr] at HLs
          clear hr hfl hmf C0 Hml HE hlt ht CA HFn
          go_wp2_with fail
          go_loopw [13, 14] (fun ov i wr => ∃ k : Nat, k ≤ gs.length ∧ i = .int .i64 k ∧ ∃ (B : Option Addr) (d : Nat) (xs : List ((Option Addr × Nat) × List Nat)), ov = .slice B xs.length d ∧ Fresh unF uniT wb wr B d xs ∧ xs.map (·.2) = unitsTo gs st r k ∧ (∀ x ∈ xs, RbI (fun q => (Value.slice B xs.length d).ownBlock = some q) wr x.1.1 x.2)) (fun _ i _ => gs.length - (intOf i).toNat)
          case atStart => exact ⟨0, Nat.zero_le _, rfl, none, 0, [], rfl, Fresh.nil _ _ _ _ (Only.refl _ _), rfl, fun x hx => by cases hx⟩
          case round =>
            obtain ⟨ri, hri, rfl, B, d, xs, rfl, hF, hM, hR⟩ := hrel
            have F5 := Lib.hid hF
            have HM := Lib.hid hM
            have HR5 := Lib.hid hR
            have XB5 := Lib.hid hF.ext
            have hxl : xs.length ≤ 10 := by
              have h1 := congrArg List.length hM
              rw [List.length_map, unitsTo] at h1
              have h2 := List.length_filterMap_le (unit1 gs st r) (List.range ri)
              rw [List.length_range] at h2
              omega
            clear hF hM hR
            by_cases hlt : ri < gs.length
            · have HU := Lib.hid (unitsTo_succ gs st r ri)
              rename World => u5
              have XW5 := Lib.hid (XR.out.then_ext XB5.out)
              have HFB : Hid (∀ q, (Value.slice B xs.length d).ownBlock = some q → q < u5.heap.size) := fun q hq => by
                obtain ⟨_, hc⟩ := own_cs F5.out.own hq
                exact hc.lt
              go_wp2_with fail
              go_loopw [15, 16, 17] (fun uv rv j wr => ∃ k : Nat, k ≤ gs.length ∧ j = .int .i64 k ∧ ∃ (C : Option Addr) (e : Nat) (ks : List Nat), uv = .slice C ks.length e ∧ ks = (List.range k).filter (fun k => stB st k && decide (r k = ri)) ∧ rv = .bool (realB gs ks) ∧ Fresh inF intT u5 wr C e ks) (fun _ _ j _ => gs.length - (intOf j).toNat)
              case atStart => exact ⟨0, Nat.zero_le _, rfl, none, 0, [], rfl, rfl, rfl, Fresh.nil _ _ _ _ (Only.refl _ _)⟩
              case round =>
                obtain ⟨k, hk, rfl, C, ce, ks, rfl, hks, rfl, hF⟩ := hrel
                have FU := Lib.hid hF
                have HKs := Lib.hid hks
                have hkl : ks.length ≤ k := by
                  rw [hks]
                  have := List.length_filter_le (fun k => stB st k && decide (r k = ri)) (List.range k)
                  rwa [List.length_range] at this
                clear hF hks
                by_cases hlk : k < gs.length
                · obtain ⟨bs, so, s2, rfl, hs2, cq⟩ := bos_get HS.out hlk
                  have Hsk := Lib.hid (stB_at hs2)
                  have XK := Lib.hid (XW5.out.then_ext FU.out.ext)
                  have e1 : wr.cell? ⟨bs, so + k, none⟩ = some (.bool s2) := cq ⟨wr, XK.out⟩
                  have e5 := CR.out wr (XB5.out.then_ext FU.out.ext) k hlk
                  have HF1 := Lib.hid (filt_succ (fun k => stB st k && decide (r k = ri)) k)
                  clear hs2 cq
                  obtain ⟨rk, hrk⟩ : ∃ rk, rk = r k := ⟨_, rfl⟩
                  rw [← hrk] at e5
                  have HRk := Lib.hid hrk
                  clear hrk
                  cases s2 with
                  | false =>
                    have HF2 : Hid ((List.range (k + 1)).filter (fun k => stB st k && decide (r k = ri)) = ks) := by rw [Hid, HF1.out, ← HKs.out, Hsk.out]; simp
                    go_wp2_with fail
                    go_roundw
                    case rel => exact ⟨k + 1, by omega, by go_num, C, ce, ks, rfl, HF2.out.symm, rfl, FU.out⟩
                    case measure => simp [intOf]; omega
                  | true =>
                    by_cases he : rk = ri
                    · subst he
                      have HF2 : Hid ((List.range (k + 1)).filter (fun k => stB st k && decide (r k = rk)) = ks ++ [k]) := by rw [Hid, HF1.out, ← HKs.out, Hsk.out, ← HRk.out]; simp
                      obtain ⟨F2, hF2⟩ : ∃ F2 : Nat → Prop, F2 = fun q => (Value.slice C ks.length ce).ownBlock = some q := ⟨_, rfl⟩
                      have HFq := Lib.hid hF2
                      clear hF2
                      go_upto_region 31 with fail
                      refine Mix.wp_plain [2, 3] (Cl wr F2) (Cl.of (Only.refl _ _)) ?_
                      (repeat' (refine Mix.lex_quiet0 rfl rfl rfl ?_; intro K hK; go_big_quiet_op; go_big_quiet_on))
                      ((first | refine Mix.lex_goes0 rfl rfl ?_ | refine Mix.lex_goesG rfl rfl rfl (by with_reducible rfl) rfl ?_); intro K hK; go_simp)
                      have F6 := Lib.hid (FU.out.on ((Only.refl No wr).alloc (.cells #[.int .i64 (k : Int)] intT)))
                      refine hK _ _ (fun _ => Cl.of ((Only.refl F2 wr).alloc _)) ?_
                      clear hK K
                      simp only [Act.put, List.setIfInBounds_toArray, List.set_cons_succ, List.set_cons_zero]
                      refine Mix.lex_goes0 rfl rfl ?_
                      intro K hK
                      refine goes_append (v := .slice C ks.length ce) (n := ks.length) (xs := ks.flatMap inF.enc) int_ty rfl rfl rfl F6.out.own (rd_one wr _ [.int .i64 (k : Int)]) (by simp [Value.oneCell']) (by omega) ?_
                      intro C' ce' w7 hown5 hgr5 hb5
                      have F7 : Hid (Fresh inF intT u5 w7 C' ce' (ks ++ [k])) := F6.out.grow (m := 1) (ys := [k]) rfl hown5 hgr5 hb5
                      have O7 : Hid (Only F2 wr w7) := ((Only.refl F2 wr).alloc _).grown hgr5 fun g hg => .inr (by rw [HFq.out]; exact hg)
                      refine hK _ _ (fun _ => Cl.of O7.out) ?_
                      clear hK K hown5 hgr5 hb5
                      simp only [Act.put, List.setIfInBounds_toArray, List.set_cons_succ, List.set_cons_zero]
                      (repeat' (refine Mix.lex_quiet0 rfl rfl rfl ?_; intro K hK; go_big_quiet_op; go_big_quiet_on))
                      refine Mix.lex_nil ?_
                      obtain ⟨bg, og, ⟨⟨tA, tc, nA, nc, cA, cc⟩, G⟩, rfl, hox, _, _, _, c3⟩ := grps_get HG.out.row hlk
                      have hgi : gs[k]? = some G := by rw [← HG.out.om, List.getElem?_map, hox]; rfl
                      have Hph := Lib.hid (nphB_at hgi)
                      have q3 : w7.cell? ⟨bg, og + k * 4 + 3, none⟩ = some (.bool G.phony) := c3 ⟨w7, XW5.out.then_ext F7.out.ext⟩
                      generalize G.phony = ph at Hph q3
                      clear hox hgi c3
                      obtain ⟨rb, hrb⟩ : ∃ b, b = realB gs ks := ⟨_, rfl⟩
                      rw [← hrb]
                      have HRb := Lib.hid hrb
                      clear hrb
                      cases rb with
                      | true =>
                        have HR2 : Hid (realB gs (ks ++ [k]) = true) := by rw [Hid, realB_app, ← HRb.out]; rfl
                        go_wp2_with fail
                        go_roundw
                        case rel => exact ⟨k + 1, by omega, by go_num, C', ce', ks ++ [k], by simp, HF2.out.symm, by rw [HR2.out], F7.out⟩
                        case measure => simp [intOf]; omega
                      | false =>
                        cases ph with
                        | true =>
                          have HR2 : Hid (realB gs (ks ++ [k]) = false) := by rw [Hid, realB_app, ← HRb.out, Hph.out]; rfl
                          go_wp2_with fail
                          go_roundw
                          case rel => exact ⟨k + 1, by omega, by go_num, C', ce', ks ++ [k], by simp, HF2.out.symm, by rw [HR2.out], F7.out⟩
                          case measure => simp [intOf]; omega
                        | false =>
                          have HR2 : Hid (realB gs (ks ++ [k]) = true) := by rw [Hid, realB_app, ← HRb.out, Hph.out]; rfl
                          go_wp2_with fail
                          go_roundw
                          case rel => exact ⟨k + 1, by omega, by go_num, C', ce', ks ++ [k], by simp, HF2.out.symm, by rw [HR2.out], F7.out⟩
                          case measure => simp [intOf]; omega
                    · have t1 : decide ((rk : Int) = (ri : Int)) = false := by rw [decide_eq_false_iff_not]; omega
                      have t2 : ((rk : Int) == (ri : Int)) = false := by rw [beq_eq_false_iff_ne]; omega
                      have HF2 : Hid ((List.range (k + 1)).filter (fun k => stB st k && decide (r k = ri)) = ks) := by rw [Hid, HF1.out, ← HKs.out, Hsk.out, ← HRk.out]; simp [he]
                      go_wp2_with fail
                      go_roundw
                      case rel => exact ⟨k + 1, by omega, by go_num, C, ce, ks, rfl, HF2.out.symm, rfl, FU.out⟩
                      case measure => simp [intOf]; omega
                · obtain rfl : k = gs.length := by omega
                  have HKs2 : Hid (ks = unitAt gs.length st r ri) := HKs.out
                  obtain ⟨rb, hrb⟩ : ∃ b, b = realB gs ks := ⟨_, rfl⟩
                  rw [← hrb]
                  have HRb := Lib.hid hrb
                  clear hrb
                  cases rb with
                  | false =>
                    have HU2 : Hid (unitsTo gs st r (ri + 1) = unitsTo gs st r ri) := by
                      rw [Hid, HU.out, unit1, ← HKs2.out, ← HRb.out]; simp
                    go_wp2_with fail
                    go_roundw
                    case rel => exact ⟨ri + 1, by omega, by go_num, B, d, xs, rfl, F5.out.on FU.out.ext, by rw [HU2.out]; exact HM.out, fun x hx => (HR5.out x hx).step (Only.any FU.out.ext) fun _ e => .inl e⟩
                    case measure => simp [intOf]; omega
                  | true =>
                    have HU2 : Hid (unitsTo gs st r (ri + 1) = unitsTo gs st r ri ++ [ks]) := by
                      rw [Hid, HU.out, unit1, ← HKs2.out, ← HRb.out]; simp
                    obtain ⟨F2, hF2⟩ : ∃ F2 : Nat → Prop, F2 = fun q => (Value.slice B xs.length d).ownBlock = some q := ⟨_, rfl⟩
                    have HFq := Lib.hid hF2
                    have HRI : Hid (RbI F2 wr C ks) := RbI.fresh FU.out (by rw [hF2]; exact HFB.out)
                    clear hF2
                    have X6 := Lib.hid FU.out.ext
                    go_upto_region 34 with fail
                    refine Mix.wp_plain [2, 3] (Cl wr F2) (Cl.of (Only.refl _ _)) ?_
                    (repeat' (refine Mix.lex_quiet0 rfl rfl rfl ?_; intro K hK; go_big_quiet_op; go_big_quiet_on))
                    ((first | refine Mix.lex_goes0 rfl rfl ?_ | refine Mix.lex_goesG rfl rfl rfl (by with_reducible rfl) rfl ?_); intro K hK; go_simp)
                    have xa : Ext wr (wr.alloc (.cells #[.slice C ks.length ce] uniT)) := (Only.refl No wr).alloc _
                    have F6 := Lib.hid (F5.out.on (X6.out.then_ext xa))
                    refine hK _ _ (fun _ => Cl.of ((Only.refl F2 wr).alloc _)) ?_
                    clear hK K
                    simp only [Act.put, List.setIfInBounds_toArray, List.set_cons_succ, List.set_cons_zero]
                    refine Mix.lex_goes0 rfl rfl ?_
                    intro K hK
                    refine goes_append (v := .slice B xs.length d) (n := xs.length) (xs := xs.flatMap unF.enc) un_ty rfl rfl rfl F6.out.own (rd_one wr _ [.slice C ks.length ce]) (by simp [Value.oneCell']) (by omega) ?_
                    intro B' d' w7 hown5 hgr5 hb5
                    have F7 : Hid (Fresh unF uniT wb w7 B' d' (xs ++ [((C, ce), ks)])) := F6.out.grow (m := 1) (ys := [((C, ce), ks)]) rfl hown5 hgr5 hb5
                    have O7 : Hid (Only F2 wr w7) := ((Only.refl F2 wr).alloc _).grown hgr5 fun g hg => .inr (by rw [HFq.out]; exact hg)
                    have HS7 : Hid (∀ q, (Value.slice B' (xs ++ [((C, ce), ks)]).length d').ownBlock = some q → F2 q ∨ wr.heap.size ≤ q) := fun q hq => by
                      rw [List.length_append] at hq
                      rcases hb5 with hb | hb
                      · exact .inl (by rw [HFq.out]; exact hb.symm.trans hq)
                      · have h3 : some (wr.alloc (.cells #[.slice C ks.length ce] uniT)).heap.size = some q := hb.symm.trans hq
                        injection h3 with h3
                        exact .inr (by rw [← h3]; exact xa.size)
                    refine hK _ _ (fun _ => Cl.of O7.out) ?_
                    clear hK K hown5 hgr5 hb5 xa
                    simp only [Act.put, List.setIfInBounds_toArray, List.set_cons_succ, List.set_cons_zero]
                    (repeat' (refine Mix.lex_quiet0 rfl rfl rfl ?_; intro K hK; go_big_quiet_op; go_big_quiet_on))
                    refine Mix.lex_nil ?_
                    go_wp2_with fail
                    go_roundw
                    case rel =>
                      refine ⟨ri + 1, by omega, by go_num, B', d', xs ++ [((C, ce), ks)], by simp, F7.out, by rw [HU2.out, List.map_append, HM.out]; rfl, fun x hx => ?_⟩
                      rcases List.mem_append.1 hx with hx | hx
                      · exact ((HR5.out x hx).step (Only.any X6.out) (fun q e => .inl (by rw [HFq.out] at e; exact e)) : RbI F2 wr x.1.1 x.2).step O7.out HS7.out
                      · obtain rfl := List.mem_singleton.1 hx
                        exact HRI.out.step O7.out HS7.out
                    case measure => simp [intOf]; omega
            · obtain rfl : ri = gs.length := by omega
              have hxl2 : xs.length = (unitsTo gs st r gs.length).length := by rw [← HM.out, List.length_map]
              have HXL := Lib.hid hxl2
              clear hxl2
              go_wp2_with fail
              go_ret
              refine ⟨B, d, xs, r, HLs.out, by rw [show (unitsF gs st r).length = xs.length from HXL.out.symm]; rfl, ⟨?_, fun x hx => HR5.out x hx _ (Only.refl _ _), HM.out⟩, XR.out.then_ext XB5.out⟩
              rw [show (unitsF gs st r).length = xs.length from HXL.out.symm]
              exact F5.out.row (by decide)
end Go.Proofs.Ytnhaekifcieeoaa
