/- Put together: Rof, Conc. -/
import Derived.Test.YtnhaekifcieeoaaGreatDoorPk02
import Derived.Test.YtnhaekifcieeoaaGreatDoorPk06
import Derived.Test.YtnhaekifcieeoaaGreatDoorPk03
namespace Go.Proofs.YtnhaekifcieeoaaGreatDoor
open Go Go.RowKit
theorem SlR.far3 {α : Type} {T : Flat α} (hT : ∀ x : α, ∃ s l, T.enc x = S s :: l) {w : World} {A : Option Addr} {n g : Nat} {t : TypeId} {xs : List α} (h : SlR T w A n xs) {a1 a2 a3 : Option Addr} {n1 n2 n3 c1 c2 c3 : Nat} (hc : Cs w g t #[.slice a1 n1 c1, .slice a2 n2 c2, .slice a3 n3 c3]) :
    ∀ b o, A = some ⟨b, o, none⟩ → 0 < n → b ≠ g := by
  rintro b o rfl hn rfl
  obtain ⟨b', o', x, he, _, hx, hcell⟩ := h.get hn
  injection he with he
  injection he with he1 he2
  subst he1; subst he2
  obtain ⟨s, l, hs⟩ := hT x
  have := hcell 0 (S s) (by rw [hs]; rfl)
  rw [hc.cell] at this
  match o, this with
  | 0, this => simp at this
  | 1, this => simp at this
  | 2, this => simp at this
  | o + 3, this => simp at this
@[go_sem] theorem rc_build02 (A B : Option Addr) (n c m d : Nat) (w : World) : (Instr.build rcT #[(0, .slice A n c), (2, .slice B m d)]).run Tryz.prog w = .ok (.agg #[.slice A n c, .slice none 0 0, .slice B m d]) w := run_build w rcT _ _ (by kernel_rfl)
theorem CloneFl_c {w : World} {A : Option Addr} {n c : Nat} {cs : List Value} (h : Rd w A n 2 cs) (h1 : ∀ u ∈ cs, u.oneCell' = true) (hA : A = none → n = 0) (hn : n ≤ 1000000) :
    Calls Tryz.prog 54 #[.slice A n c] w fun e w' => ∃ A' c', e = .returned (.slice A' n c') ∧ w'.ownsRow 0 75 2 (.slice A' n c') n cs ∧ Ext w w' ∧ ∀ g, (Value.slice A' n c').ownBlock = some g → w.heap.size ≤ g := by
  have h2 := fun (W : World) => Lib.run_eql_slice_nil (P := Tryz.prog) W 22 75 A n c 0 0 Tryz.underlying22
  rcases A with _ | ad
  · obtain rfl := hA rfl
    obtain rfl : cs = [] := List.eq_nil_of_length_eq_zero (by simpa using h.1)
    go_enter Tryz.func54, Tryz.ntmps54
    go_wp2
    go_ret
    exact ⟨none, 0, rfl, World.ownsRow_nil _ _ _ _, Only.refl _ _, fun g hg => by simp [Value.ownBlock] at hg⟩
  · have H := Lib.hid h
    clear h
    go_enter Tryz.func54, Tryz.ntmps54
    go_wp2_with (at_builtin; go_must (refine wpList_append (v := .slice (some ⟨w.heap.size, 0, none⟩) 0 0) (n := 0) (xs := []) rfl fl_ty rfl rfl rfl (own_empty w _ _) (H.out.alloc _) h1 (by omega) ?_); intro A' c' w5 hown5 hg5 hb5)
    go_ret
    rw [Nat.zero_add] at hown5 hb5
    have hx : Ext w w5 := ((Only.refl _ _).alloc (.cells #[] 75)).grown hg5 (fun g hg => by simp [Value.ownBlock] at hg; left; omega)
    refine ⟨A', c', ?_, by simpa using hown5, hx, fun g hg => ?_⟩
    · simp [Nat.zero_add]
    · rcases hb5 with h | h <;> rw [h] at hg <;> simp [Value.ownBlock] at hg <;> omega
theorem CloneFl_f {w : World} {A : Option Addr} {n c : Nat} {xs : List File} (h : SlR fileF w A n xs) (hA : A = none → n = 0) (hn : n ≤ 1000000) :
    Calls Tryz.prog 54 #[.slice A n c] w fun e w' => ∃ A' c', e = .returned (.slice A' xs.length c') ∧ Fresh fileF 75 w w' A' c' xs := by
  have hl := h.1
  refine (CloneFl_c (h.rd (by decide)) (fl_enc1 xs) hA hn).mono ?_
  rintro e w' ⟨A', c', rfl, h1, h2, h3⟩
  subst hl
  exact ⟨A', c', rfl, h1, h2, h3⟩
theorem none_len {α : Type} {T : Flat α} {w : World} {A : Option Addr} {n : Nat} {xs : List α} (h : SlR T w A n xs) : A = none → n = 0 := by
  rintro rfl
  by_cases hn : 0 < n
  · obtain ⟨b, o, e, _⟩ := h.2 hn
    cases e
  · omega
def nedF (l : List File) (ns : List Str) : List File := ns.flatMap fun n => if getB n l = true then [(n, getT n l)] else []
theorem nedF_snoc (l : List File) {ns : List Str} {k : Nat} {x : Str} (hx : ns[k]? = some x) : nedF l (ns.take (k + 1)) = nedF l (ns.take k) ++ if getB x l = true then [(x, getT x l)] else [] := by
  unfold nedF
  rw [List.take_add_one, hx, List.flatMap_append]
  simp
theorem nedF_len (l : List File) (ns : List Str) : (nedF l ns).length ≤ ns.length := by
  induction ns with
  | nil => exact Nat.le_refl _
  | cons n ns ih =>
    unfold nedF at ih ⊢
    rw [List.flatMap_cons, List.length_append, List.length_cons]
    have : (if getB n l = true then [(n, getT n l)] else []).length ≤ 1 := by split <;> simp
    omega
def recOf (g : Grp) (l out : List File) : Rcd := ⟨g.cmds, nedF l g.needs, out⟩
structure OAt (b w : World) (g7 : Nat) (x z : Value) (nA : Option Addr) (nc : Nat) (nd : List File) : Prop where
  rc : Cs w g7 rcT #[x, .slice nA nd.length nc, z]
  fn : Fresh fileF 75 b w nA nc nd
  n7 : b.heap.size ≤ g7
section
variable {b w u : World} {g7 : Nat} {x z : Value} {nA : Option Addr} {nc : Nat} {nd : List File}
theorem OAt.ext (h : OAt b w g7 x z nA nc nd) (hx : Ext w u) : OAt b u g7 x z nA nc nd := ⟨h.rc.keep hx id, h.fn.on hx, h.n7⟩
theorem OAt.grow (h : OAt b u g7 x z nA nc nd) {A' : Option Addr} {c' : Nat} {w5 : World} {t : File}
    (hown : w5.ownsRow 0 75 2 (.slice A' (nd.length + 1 : Nat) c') (nd.length + 1) (nd.flatMap fileF.enc ++ [t].flatMap fileF.enc)) (hg : u.grownBy w5 (Value.slice nA nd.length nc).ownBlock)
    (hb : (Value.slice A' (nd.length + 1 : Nat) c').ownBlock = (Value.slice nA nd.length nc).ownBlock ∨ (Value.slice A' (nd.length + 1 : Nat) c').ownBlock = some u.heap.size) :
    OAt b (w5.setCell ⟨g7, 1, none⟩ (.slice A' (nd.length + 1 : Nat) c')) g7 x z A' c' (nd ++ [t]) := by
  have O5 : Only (fun b => (Value.slice nA nd.length nc).ownBlock = some b) u w5 := (Only.refl _ _).grown hg fun g e => .inr e
  have F5 := h.fn.grow (ys := [t]) rfl hown hg hb
  have c5 := h.rc.keep O5 (fun e => own_ne_cs h.fn.own h.rc (by decide) _ e rfl)
  have O6 : Only (fun b => b = g7) w5 (w5.setCell ⟨g7, 1, none⟩ (.slice A' (nd.length + 1 : Nat) c')) := (Only.refl _ _).at_ 1 _
  have E6 : Ext b (w5.setCell ⟨g7, 1, none⟩ (.slice A' (nd.length + 1 : Nat) c')) := F5.ext.trans O6 fun b hb e => by have e : b = g7 := e; have := h.n7; omega
  refine ⟨?_, F5.keep O6 E6 (own_ne_cs F5.own c5 (by decide)), h.n7⟩
  have := c5.set_ 1 (.slice A' (nd.length + 1 : Nat) c')
  rw [List.length_append]
  exact this
end
theorem OAt.done {w b wr : World} {g6 g7 : Nat} {cA nA oA : Option Addr} {cc nc oc : Nat} {cs : List Str} {nd od : List File} (h : OAt b wr g7 (.slice cA cs.length cc) (.slice oA od.length oc) nA nc nd) (hs : Cs b g6 rcT #[.slice none 0 0, .slice none 0 0, .slice none 0 0]) (hw : Ext w b) (h6 : w.heap.size ≤ g6)
    (hc : SlR strF b cA cs.length cs) (ho : SlR fileF b oA od.length od) :
    Cs (((wr.setCell ⟨g6, 0, none⟩ (.slice cA cs.length cc)).setCell ⟨g6, 1, none⟩ (.slice nA nd.length nc)).setCell ⟨g6, 2, none⟩ (.slice oA od.length oc)) g6 rcT #[.slice cA cs.length cc, .slice nA nd.length nc, .slice oA od.length oc] ∧
    RcdR (((wr.setCell ⟨g6, 0, none⟩ (.slice cA cs.length cc)).setCell ⟨g6, 1, none⟩ (.slice nA nd.length nc)).setCell ⟨g6, 2, none⟩ (.slice oA od.length oc)) ⟨cA, cc, nA, nc, oA, oc⟩ ⟨cs, nd, od⟩ ∧
    Ext w (((wr.setCell ⟨g6, 0, none⟩ (.slice cA cs.length cc)).setCell ⟨g6, 1, none⟩ (.slice nA nd.length nc)).setCell ⟨g6, 2, none⟩ (.slice oA od.length oc)) := by
  have hs' := hs.keep h.fn.ext id
  have hO : Only (fun b => b = g6) wr (((wr.setCell ⟨g6, 0, none⟩ (.slice cA cs.length cc)).setCell ⟨g6, 1, none⟩ (.slice nA nd.length nc)).setCell ⟨g6, 2, none⟩ (.slice oA od.length oc)) := (((Only.refl _ _).at_ 0 _).at_ 1 _).at_ 2 _
  have hc' := hc.ext h.fn.ext
  have ho' := ho.ext h.fn.ext
  have hn' := h.fn.row (by decide)
  refine ⟨((hs'.set_ 0 (.slice cA cs.length cc)).set_ 1 (.slice nA nd.length nc)).set_ 2 (.slice oA od.length oc), ⟨hc'.keep_far hO fun b o e hp => hc'.far3 strF_head hs' b o e hp, hn'.keep_far hO fun b o e hp => hn'.far3 fileF_head hs' b o e hp, ho'.keep_far hO fun b o e hp => ho'.far3 fileF_head hs' b o e hp⟩, ?_⟩
  exact (hw.then_ext h.fn.ext).trans hO fun b hb e => by have e : b = g6 := e; omega
set_option maxRecDepth 100000 in
set_option maxHeartbeats 4000000 in
theorem Of_c {w : World} {gv : GrpV} {g : Grp} (hg : GrpR w gv g) {A B : Option Addr} {c d : Nat} {l out : List File} (hl : SlR fileF w A l.length l) (ho : SlR fileF w B out.length out) (hr : Rise fk l) (h1 : g.cmds.length ≤ 1000) (h2 : g.needs.length ≤ 1000) (h3 : l.length ≤ 1000) (h4 : out.length ≤ 1000) :
    Calls Tryz.prog 74 #[grpV gv g, .slice A l.length c, .slice B out.length d] w fun e w' => ∃ v, e = .returned (rcdV v (recOf g l out)) ∧ RcdR w' v (recOf g l out) ∧ Ext w w' := by
  obtain ⟨tA, tc, nA, nc, cA, cc⟩ := gv
  obtain ⟨g3, hg3⟩ : ∃ g, g = w.heap.size := ⟨_, rfl⟩
  obtain ⟨g6, hg6⟩ : ∃ g, g = w.heap.size + 1 := ⟨_, rfl⟩
  obtain ⟨w0, hw0⟩ : ∃ w0, w0 = w.alloc (.cells (grpCs ⟨tA, tc, nA, nc, cA, cc⟩ g) 46) := ⟨_, rfl⟩
  obtain ⟨w1, hw1⟩ : ∃ w1, w1 = w0.alloc (.cells #[.slice none 0 0, .slice none 0 0, .slice none 0 0] rcT) := ⟨_, rfl⟩
  have x0 : Ext w w0 := by rw [hw0]; exact (Only.refl No w).alloc _
  have x1 : Ext w0 w1 := by rw [hw1]; exact (Only.refl No w0).alloc _
  have hz : w0.heap.size = w.heap.size + 1 := by rw [hw0]; simp
  have b3 : Cs w0 g3 46 (grpCs ⟨tA, tc, nA, nc, cA, cc⟩ g) := by rw [hw0, hg3]; exact Cs.new _ _ _
  have HB3 := Lib.hid (b3.keep x1 id)
  have HB6 : Hid (Cs w1 g6 rcT #[.slice none 0 0, .slice none 0 0, .slice none 0 0]) := by rw [hw1, hg6, ← hz]; exact Cs.new _ _ _
  have HX1 := Lib.hid (x0.then_ext x1)
  have h6w : w.heap.size ≤ g6 := by omega
  have d1 : ∀ ξ : X w1 No, ξ.v.cell? ⟨g3, 1, none⟩ = some (.slice nA g.needs.length nc) := HB3.out.x id 1
  have d2 : ∀ ξ : X w1 No, ξ.v.cell? ⟨g3, 2, none⟩ = some (.slice cA g.cmds.length cc) := HB3.out.x id 2
  have HG := Lib.hid (hg.ext HX1.out)
  have HC1 := Lib.hid (CloneStrs_f (c := cc) HG.out.c (none_len HG.out.c) (by omega))
  have HOut := Lib.hid (ho.ext HX1.out)
  have HGet := Lib.hid (fun v (hv : Ext w1 v) k => Get_c (c := c) ((hl.ext HX1.out).ext hv) (by omega) k hr)
  have HRO : Hid (recOf g l out = ⟨g.cmds, nedF l g.needs, out⟩) := rfl
  generalize recOf g l out = R at HRO ⊢
  clear x0 x1 b3 hg hl ho hr
  unfold grpCs at hw0
  show Calls _ _ #[.agg #[.slice tA g.targets.length tc, .slice nA g.needs.length nc, .slice cA g.cmds.length cc, .bool g.phony], _, _] _ _
  go_enter Tryz.func74, Tryz.ntmps74
  go_upto_region 1 with fail
  rw [← hw0, ← hw1, ← hg6, ← hg3]
  clear hw0 hw1 hg6 hg3 hz
  obtain ⟨ξ0, hξ0⟩ : ∃ ξ : X w1 No, ξ.v = w1 := ⟨X.here _ _, rfl⟩
  rw [← hξ0]
  have HC1' : Hid (Calls Tryz.prog 101 #[.slice cA g.cmds.length cc] ξ0.v fun e w' => ∃ A' c', e = .returned (.slice A' g.cmds.length c') ∧ Fresh strF 9 w1 w' A' c' g.cmds) := by rw [hξ0]; exact HC1.out
  clear hξ0 HC1
  go_wp2_with fail
  refine HC1'.out.mono ?_
  rintro e u1 ⟨A1, c1, rfl, hf⟩
  have F1 := Lib.hid hf
  obtain ⟨ξ1, rfl⟩ : ∃ ξ : X w1 No, u1 = ξ.v := ⟨⟨u1, hf.ext⟩, rfl⟩
  have HC2 := Lib.hid (CloneFl_f (c := d) (HOut.out.ext ξ1.h) (none_len (HOut.out.ext ξ1.h)) (by omega))
  clear hf HC1' HOut
  go_wp2_with fail
  refine HC2.out.mono ?_
  rintro e b ⟨A2, c2, rfl, hf⟩
  have F2 := Lib.hid (F1.out.on hf.ext)
  have F3 := Lib.hid hf
  have XB : Hid (Ext w1 b) := ξ1.h.then_ext hf.ext
  clear hf HC2 F1
  obtain ⟨g7, hg7⟩ : ∃ g, g = b.heap.size := ⟨_, rfl⟩
  obtain ⟨b2, hb2⟩ : ∃ u, u = b.alloc (.cells #[.slice A1 g.cmds.length c1, .slice none 0 0, .slice A2 out.length c2] rcT) := ⟨_, rfl⟩
  have P0 : Hid (OAt b b2 g7 (.slice A1 g.cmds.length c1) (.slice A2 out.length c2) none 0 []) := by
    have x : Ext b b2 := by rw [hb2]; exact (Only.refl No b).alloc _
    refine ⟨?_, Fresh.nil _ _ _ _ x, by omega⟩
    rw [hb2, hg7]; exact Cs.new _ _ _
  go_upto_region 2 with fail
  rw [← hb2, ← hg7]
  clear hb2 hg7
  obtain ⟨ξb, hξb⟩ : ∃ ξ : X w1 No, ξ.v = b2 := ⟨⟨b2, XB.out.then_ext P0.out.fn.ext⟩, rfl⟩
  rw [← hξb] at P0 ⊢
  clear hξb
  go_wp2_with fail
  go_loopw [21] (fun i wr => ∃ j : Nat, j ≤ g.needs.length ∧ i = .int .i64 j ∧ ∃ nA' nc' nd, OAt b wr g7 (.slice A1 g.cmds.length c1) (.slice A2 out.length c2) nA' nc' nd ∧ nd = nedF l (g.needs.take j) ∧ nd.length ≤ j) (fun i _ => g.needs.length - (intOf i).toNat)
  case atStart => exact ⟨0, Nat.zero_le _, rfl, none, 0, [], P0.out, by simp [nedF], Nat.le_refl _⟩
  case round =>
    clear P0
    obtain ⟨j, hj, rfl, nA', nc', nd, hP, hN, hnl⟩ := hrel
    have P := Lib.hid hP
    have HN := Lib.hid hN
    obtain ⟨ξ, rfl⟩ : ∃ ξ : X w1 No, wr = ξ.v := ⟨⟨wr, XB.out.then_ext hP.fn.ext⟩, rfl⟩
    clear hP hN
    by_cases hlt : j < g.needs.length
    · obtain ⟨bb, oo, x, rfl, hx, c0⟩ := strs_get HG.out.n hlt
      have HS := Lib.hid (nedF_snoc l hx)
      have HGx := Lib.hid (HGet.out _ ξ.h x)
      generalize getT x l = tx at HS HGx
      generalize getB x l = is at HS HGx
      clear hx
      go_wp2_with fail
      refine HGx.out.mono ?_
      rintro e u ⟨rfl, hu⟩
      have P1 := Lib.hid (P.out.ext hu)
      clear hu HGx P
      cases is with
      | false =>
        have HN2 : Hid (nd = nedF l (g.needs.take (j + 1))) := by rw [Hid, HS.out, ← HN.out]; simp
        clear HN HS
        go_wp2_with fail
        go_roundw
        case rel => exact ⟨j + 1, by omega, by go_num, nA', nc', nd, P1.out, HN2.out, by omega⟩
        case measure => simp [intOf]; omega
      | true =>
        have HN2 : Hid (nd ++ [(x, tx)] = nedF l (g.needs.take (j + 1))) := by rw [Hid, HS.out, ← HN.out]; simp
        clear HN HS
        have y0 : u.cell? ⟨g7, 1, none⟩ = some (.slice nA' nd.length nc') := P1.out.rc.cell 1
        have P8 := Lib.hid (P1.out.ext ((Only.refl No u).alloc (.cells #[S x, S tx] 75)))
        go_wp2_with (first | (at_builtin; go_must (refine wpList_append (v := .slice nA' nd.length nc') (n := nd.length) (xs := nd.flatMap fileF.enc) rfl fl_ty rfl rfl rfl P8.out.fn.own (rd_one u _ [S x, S tx]) (fl_enc1 [(x, tx)]) (by omega) ?_); intro A3 c3 w5 hown5 hg5 hb5; have P9 := Lib.hid (P8.out.grow (t := (x, tx)) hown5 hg5 hb5); have O9 : Only (fun b => (Value.slice nA' nd.length nc').ownBlock = some b) (u.alloc (.cells #[S x, S tx] 75)) w5 := (Only.refl _ _).grown hg5 fun g hg => .inr hg; have C9 := P8.out.rc.keep O9 (fun e => own_ne_cs P8.out.fn.own P8.out.rc (by decide) _ e rfl); have z9 := C9.frozen 1; have y9 : w5.cell? ⟨g7, 1, none⟩ = some (.slice nA' nd.length nc') := C9.cell 1; clear hown5 hg5 hb5 O9 C9) | ((first | refine Mix.wpList_guarded rfl ?_ | refine Mix.wp_still (by kernel_rfl) (by kernel_rfl) ?_); (repeat' (first | (refine Mix.lex_quiet0 rfl rfl rfl ?_; intro K hK; go_big_quiet_op; go_big_quiet_on) | (refine Mix.lex_quietG rfl rfl rfl (by with_reducible rfl) rfl rfl ?_; intro K hK; go_big_quiet_op; go_big_quiet_on) | ((first | refine Mix.lex_skipT rfl rfl rfl (by with_reducible rfl) ?_ | refine Mix.lex_skipF rfl rfl rfl (by with_reducible rfl) ?_ | refine Mix.lex_skipU rfl rfl rfl (by with_reducible rfl) ?_); simp only [Act.put, List.setIfInBounds_toArray, List.set_cons_succ, List.set_cons_zero]) | (refine Mix.lex_part rfl rfl rfl rfl (fun hq => ?_) (fun hq => ?_) <;> (fail_if_success (guard_hyp hq :ₛ true = true)) <;> (fail_if_success (guard_hyp hq :ₛ false = false)) <;> first | (exfalso; cases hq; done) | (exfalso; simp only [decide_eq_true_eq, decide_eq_false_iff_not, beq_iff_eq, beq_eq_false_iff_ne, ne_eq, Int.not_lt, Int.not_le] at hq; omega) | simp only [Act.put, List.setIfInBounds_toArray, List.set_cons_succ, List.set_cons_zero]))); all_goals (refine Mix.lex_nil ?_)))
        go_roundw
        case rel => exact ⟨j + 1, by omega, by go_num, A3, c3, nd ++ [(x, tx)], P9.out, HN2.out, by simp; omega⟩
        case measure => simp [intOf]; omega
    · have HR : Hid (R = ⟨g.cmds, nd, out⟩) := by
        have := HN.out
        rw [List.take_of_length_le (by omega)] at this
        rw [Hid, HRO.out, this]
      have c0 : ξ.v.cell? ⟨g7, 0, none⟩ = some (.slice A1 g.cmds.length c1) := P.out.rc.cell 0
      have c1' : ξ.v.cell? ⟨g7, 1, none⟩ = some (.slice nA' nd.length nc') := P.out.rc.cell 1
      have c2' : ξ.v.cell? ⟨g7, 2, none⟩ = some (.slice A2 out.length c2) := P.out.rc.cell 2
      have B6 := Lib.hid (HB6.out.keep ξ.h id)
      have e0 : ξ.v.cell? ⟨g6, 0, none⟩ = some (.slice none 0 0) := B6.out.cell 0
      have e1 : ξ.v.cell? ⟨g6, 1, none⟩ = some (.slice none 0 0) := B6.out.cell 1
      have e2 : ξ.v.cell? ⟨g6, 2, none⟩ = some (.slice none 0 0) := B6.out.cell 2
      have z0 := B6.out.frozen 0
      have z1 := B6.out.frozen 1
      have z2 := B6.out.frozen 2
      have HDn := Lib.hid (P.out.done (w := w) (HB6.out.keep XB.out id) (HX1.out.then_ext XB.out) h6w (F2.out.row (by decide)) (F3.out.row (by decide)))
      clear HN HRO
      go_wp2_with fail
      refine bodyPost_cell1 rfl rfl rfl (load_rc HDn.out.1) ?_
      rw [HR.out]
      exact ⟨⟨A1, c1, nA', nc', A2, c2⟩, rfl, HDn.out.2.1, HDn.out.2.2⟩
set_option maxHeartbeats 2000000 in
theorem Same_c {w : World} {v u : RcdV} {r q : Rcd} (h : RcdR w v r) (g : RcdR w u q) (hl : r.cmds.length ≤ 10000 ∧ r.needs.length ≤ 10000 ∧ r.out.length ≤ 10000) (gl : q.cmds.length ≤ 10000 ∧ q.needs.length ≤ 10000 ∧ q.out.length ≤ 10000) :
    Calls Tryz.prog 80 #[rcdV v r, rcdV u q] w fun e w' => e = .returned (.bool (sameR r q)) ∧ Ext w w' := by
  obtain ⟨cA, cc, nA, nc, oA, oc⟩ := v
  obtain ⟨dA, dc, mA, mc, pA, pc⟩ := u
  obtain ⟨w0, hw0⟩ : ∃ w0, w0 = w.alloc (.cells (rcdCs ⟨cA, cc, nA, nc, oA, oc⟩ r) rcT) := ⟨_, rfl⟩
  obtain ⟨w1, hw1⟩ : ∃ w1, w1 = w0.alloc (.cells (rcdCs ⟨dA, dc, mA, mc, pA, pc⟩ q) rcT) := ⟨_, rfl⟩
  have hx0 : Ext w w0 := by rw [hw0]; exact (Only.refl No w).alloc _
  have hx1 : Ext w0 w1 := by rw [hw1]; exact (Only.refl No w0).alloc _
  have hB0 : Cs w0 w.heap.size rcT (rcdCs ⟨cA, cc, nA, nc, oA, oc⟩ r) := by rw [hw0]; exact Cs.new _ _ _
  have hB := hB0.keep hx1 id
  have hz : w0.heap.size = w.heap.size + 1 := by rw [hw0]; simp
  have hC : Cs w1 (w.heap.size + 1) rcT (rcdCs ⟨dA, dc, mA, mc, pA, pc⟩ q) := by rw [hw1, ← hz]; exact Cs.new _ _ _
  have HX := Lib.hid (hx0.then_ext hx1)
  have d0 : ∀ ξ : X w1 No, ξ.v.cell? ⟨w.heap.size, 0, none⟩ = some (.slice cA r.cmds.length cc) := hB.x id 0
  have d1 : ∀ ξ : X w1 No, ξ.v.cell? ⟨w.heap.size, 1, none⟩ = some (.slice nA r.needs.length nc) := hB.x id 1
  have d2 : ∀ ξ : X w1 No, ξ.v.cell? ⟨w.heap.size, 2, none⟩ = some (.slice oA r.out.length oc) := hB.x id 2
  have e0 : ∀ ξ : X w1 No, ξ.v.cell? ⟨w.heap.size + 1, 0, none⟩ = some (.slice dA q.cmds.length dc) := hC.x id 0
  have e1 : ∀ ξ : X w1 No, ξ.v.cell? ⟨w.heap.size + 1, 1, none⟩ = some (.slice mA q.needs.length mc) := hC.x id 1
  have e2 : ∀ ξ : X w1 No, ξ.v.cell? ⟨w.heap.size + 1, 2, none⟩ = some (.slice pA q.out.length pc) := hC.x id 2
  have HS1 := Lib.hid (fun v (hv : Ext w1 v) => EqualStrs_c (c := cc) (d := dc) ((h.c.ext HX.out).ext hv) ((g.c.ext HX.out).ext hv) hl.1 gl.1)
  have HS2 := Lib.hid (fun v (hv : Ext w1 v) => EqualFiles_c (c := nc) (d := mc) ((h.n.ext HX.out).ext hv) ((g.n.ext HX.out).ext hv) hl.2.1 gl.2.1)
  have HS3 := Lib.hid (fun v (hv : Ext w1 v) => EqualFiles_c (c := oc) (d := pc) ((h.o.ext HX.out).ext hv) ((g.o.ext HX.out).ext hv) hl.2.2 gl.2.2)
  have HB : Hid (sameR r q = (decide (r.cmds = q.cmds) && decide (r.needs = q.needs) && decide (r.out = q.out))) := rfl
  generalize sameR r q = R at HB ⊢
  generalize decide (r.cmds = q.cmds) = b1 at HS1 HB
  generalize decide (r.needs = q.needs) = b2 at HS2 HB
  generalize decide (r.out = q.out) = b3 at HS3 HB
  clear hB0 hB hC hx0 hx1 h g hl gl
  unfold rcdCs at hw0 hw1
  show Calls _ _ #[.agg #[.slice cA r.cmds.length cc, .slice nA r.needs.length nc, .slice oA r.out.length oc], .agg #[.slice dA q.cmds.length dc, .slice mA q.needs.length mc, .slice pA q.out.length pc]] _ _
  go_enter Tryz.func80, Tryz.ntmps80
  go_upto_region 1 with fail
  rw [← hw0, ← hw1]
  clear hw0 hw1 hz
  obtain ⟨ξ0, hξ0⟩ : ∃ ξ : X w1 No, ξ.v = w1 := ⟨X.here _ _, rfl⟩
  rw [← hξ0]
  clear hξ0
  cases b1 with
  | false =>
    refine Mix.wp_plain [4] (Cl w1 No) (Cl.of ξ0.h) ?_
    (repeat' (refine Mix.lex_quiet0 rfl rfl rfl ?_; intro K hK; go_big_quiet_op; go_big_quiet_on))
    ((first | refine Mix.lex_goes0 rfl rfl ?_ | refine Mix.lex_goesG rfl rfl rfl (by with_reducible rfl) rfl ?_); intro K hK; go_simp); refine (HS1.out _ ξ0.h).mono ?_; rintro e uu ⟨rfl, hu⟩; obtain ⟨ξ1, hnew⟩ : ∃ ξ : X w1 No, ξ.v = uu := ⟨⟨uu, ξ0.h.then_ext hu⟩, rfl⟩; subst hnew; have Hξ1 := Lib.hid hu; refine ⟨_, rfl, hK _ _ (fun _ => ⟨ξ1, rfl⟩) ?_⟩; clear hK K hu; simp only [Act.put, List.setIfInBounds_toArray, List.set_cons_succ, List.set_cons_zero]; (repeat' (first | (refine Mix.lex_quiet0 rfl rfl rfl ?_; intro K hK; go_big_quiet_op; go_big_quiet_on) | (refine Mix.lex_quietG rfl rfl rfl (by with_reducible rfl) rfl rfl ?_; intro K hK; go_big_quiet_op; go_big_quiet_on) | ((first | refine Mix.lex_skipT rfl rfl rfl (by with_reducible rfl) ?_ | refine Mix.lex_skipF rfl rfl rfl (by with_reducible rfl) ?_ | refine Mix.lex_skipU rfl rfl rfl (by with_reducible rfl) ?_); simp only [Act.put, List.setIfInBounds_toArray, List.set_cons_succ, List.set_cons_zero]) | (refine Mix.lex_part rfl rfl rfl rfl (fun hq => ?_) (fun hq => ?_) <;> (fail_if_success (guard_hyp hq :ₛ true = true)) <;> (fail_if_success (guard_hyp hq :ₛ false = false)) <;> first | (exfalso; cases hq; done) | (exfalso; simp only [decide_eq_true_eq, decide_eq_false_iff_not, beq_iff_eq, beq_eq_false_iff_ne, ne_eq, Int.not_lt, Int.not_le] at hq; omega) | simp only [Act.put, List.setIfInBounds_toArray, List.set_cons_succ, List.set_cons_zero])))
    refine Mix.lex_nil ?_
    go_wp2_with fail
    go_ret
    exact ⟨by rw [HB.out]; rfl, HX.out.then_ext ξ1.h⟩
  | true =>
    cases b2 with
    | false =>
      refine Mix.wp_plain [4, 10] (Cl w1 No) (Cl.of ξ0.h) ?_
      (repeat' (refine Mix.lex_quiet0 rfl rfl rfl ?_; intro K hK; go_big_quiet_op; go_big_quiet_on))
      ((first | refine Mix.lex_goes0 rfl rfl ?_ | refine Mix.lex_goesG rfl rfl rfl (by with_reducible rfl) rfl ?_); intro K hK; go_simp); refine (HS1.out _ ξ0.h).mono ?_; rintro e uu ⟨rfl, hu⟩; obtain ⟨ξ1, hnew⟩ : ∃ ξ : X w1 No, ξ.v = uu := ⟨⟨uu, ξ0.h.then_ext hu⟩, rfl⟩; subst hnew; have Hξ1 := Lib.hid hu; refine ⟨_, rfl, hK _ _ (fun _ => ⟨ξ1, rfl⟩) ?_⟩; clear hK K hu; simp only [Act.put, List.setIfInBounds_toArray, List.set_cons_succ, List.set_cons_zero]; (repeat' (first | (refine Mix.lex_quiet0 rfl rfl rfl ?_; intro K hK; go_big_quiet_op; go_big_quiet_on) | (refine Mix.lex_quietG rfl rfl rfl (by with_reducible rfl) rfl rfl ?_; intro K hK; go_big_quiet_op; go_big_quiet_on) | ((first | refine Mix.lex_skipT rfl rfl rfl (by with_reducible rfl) ?_ | refine Mix.lex_skipF rfl rfl rfl (by with_reducible rfl) ?_ | refine Mix.lex_skipU rfl rfl rfl (by with_reducible rfl) ?_); simp only [Act.put, List.setIfInBounds_toArray, List.set_cons_succ, List.set_cons_zero]) | (refine Mix.lex_part rfl rfl rfl rfl (fun hq => ?_) (fun hq => ?_) <;> (fail_if_success (guard_hyp hq :ₛ true = true)) <;> (fail_if_success (guard_hyp hq :ₛ false = false)) <;> first | (exfalso; cases hq; done) | (exfalso; simp only [decide_eq_true_eq, decide_eq_false_iff_not, beq_iff_eq, beq_eq_false_iff_ne, ne_eq, Int.not_lt, Int.not_le] at hq; omega) | simp only [Act.put, List.setIfInBounds_toArray, List.set_cons_succ, List.set_cons_zero])))
      ((first | refine Mix.lex_goes0 rfl rfl ?_ | refine Mix.lex_goesG rfl rfl rfl (by with_reducible rfl) rfl ?_); intro K hK; go_simp); refine (HS2.out _ ξ1.h).mono ?_; rintro e uu ⟨rfl, hu⟩; obtain ⟨ξ2, hnew⟩ : ∃ ξ : X w1 No, ξ.v = uu := ⟨⟨uu, ξ1.h.then_ext hu⟩, rfl⟩; subst hnew; have Hξ2 := Lib.hid hu; refine ⟨_, rfl, hK _ _ (fun _ => ⟨ξ2, rfl⟩) ?_⟩; clear hK K hu; simp only [Act.put, List.setIfInBounds_toArray, List.set_cons_succ, List.set_cons_zero]; (repeat' (first | (refine Mix.lex_quiet0 rfl rfl rfl ?_; intro K hK; go_big_quiet_op; go_big_quiet_on) | (refine Mix.lex_quietG rfl rfl rfl (by with_reducible rfl) rfl rfl ?_; intro K hK; go_big_quiet_op; go_big_quiet_on) | ((first | refine Mix.lex_skipT rfl rfl rfl (by with_reducible rfl) ?_ | refine Mix.lex_skipF rfl rfl rfl (by with_reducible rfl) ?_ | refine Mix.lex_skipU rfl rfl rfl (by with_reducible rfl) ?_); simp only [Act.put, List.setIfInBounds_toArray, List.set_cons_succ, List.set_cons_zero]) | (refine Mix.lex_part rfl rfl rfl rfl (fun hq => ?_) (fun hq => ?_) <;> (fail_if_success (guard_hyp hq :ₛ true = true)) <;> (fail_if_success (guard_hyp hq :ₛ false = false)) <;> first | (exfalso; cases hq; done) | (exfalso; simp only [decide_eq_true_eq, decide_eq_false_iff_not, beq_iff_eq, beq_eq_false_iff_ne, ne_eq, Int.not_lt, Int.not_le] at hq; omega) | simp only [Act.put, List.setIfInBounds_toArray, List.set_cons_succ, List.set_cons_zero])))
      refine Mix.lex_nil ?_
      go_wp2_with fail
      go_ret
      exact ⟨by rw [HB.out]; rfl, HX.out.then_ext ξ2.h⟩
    | true =>
      refine Mix.wp_plain [4, 10, 17] (Cl w1 No) (Cl.of ξ0.h) ?_
      (repeat' (refine Mix.lex_quiet0 rfl rfl rfl ?_; intro K hK; go_big_quiet_op; go_big_quiet_on))
      ((first | refine Mix.lex_goes0 rfl rfl ?_ | refine Mix.lex_goesG rfl rfl rfl (by with_reducible rfl) rfl ?_); intro K hK; go_simp); refine (HS1.out _ ξ0.h).mono ?_; rintro e uu ⟨rfl, hu⟩; obtain ⟨ξ1, hnew⟩ : ∃ ξ : X w1 No, ξ.v = uu := ⟨⟨uu, ξ0.h.then_ext hu⟩, rfl⟩; subst hnew; have Hξ1 := Lib.hid hu; refine ⟨_, rfl, hK _ _ (fun _ => ⟨ξ1, rfl⟩) ?_⟩; clear hK K hu; simp only [Act.put, List.setIfInBounds_toArray, List.set_cons_succ, List.set_cons_zero]; (repeat' (first | (refine Mix.lex_quiet0 rfl rfl rfl ?_; intro K hK; go_big_quiet_op; go_big_quiet_on) | (refine Mix.lex_quietG rfl rfl rfl (by with_reducible rfl) rfl rfl ?_; intro K hK; go_big_quiet_op; go_big_quiet_on) | ((first | refine Mix.lex_skipT rfl rfl rfl (by with_reducible rfl) ?_ | refine Mix.lex_skipF rfl rfl rfl (by with_reducible rfl) ?_ | refine Mix.lex_skipU rfl rfl rfl (by with_reducible rfl) ?_); simp only [Act.put, List.setIfInBounds_toArray, List.set_cons_succ, List.set_cons_zero]) | (refine Mix.lex_part rfl rfl rfl rfl (fun hq => ?_) (fun hq => ?_) <;> (fail_if_success (guard_hyp hq :ₛ true = true)) <;> (fail_if_success (guard_hyp hq :ₛ false = false)) <;> first | (exfalso; cases hq; done) | (exfalso; simp only [decide_eq_true_eq, decide_eq_false_iff_not, beq_iff_eq, beq_eq_false_iff_ne, ne_eq, Int.not_lt, Int.not_le] at hq; omega) | simp only [Act.put, List.setIfInBounds_toArray, List.set_cons_succ, List.set_cons_zero])))
      ((first | refine Mix.lex_goes0 rfl rfl ?_ | refine Mix.lex_goesG rfl rfl rfl (by with_reducible rfl) rfl ?_); intro K hK; go_simp); refine (HS2.out _ ξ1.h).mono ?_; rintro e uu ⟨rfl, hu⟩; obtain ⟨ξ2, hnew⟩ : ∃ ξ : X w1 No, ξ.v = uu := ⟨⟨uu, ξ1.h.then_ext hu⟩, rfl⟩; subst hnew; have Hξ2 := Lib.hid hu; refine ⟨_, rfl, hK _ _ (fun _ => ⟨ξ2, rfl⟩) ?_⟩; clear hK K hu; simp only [Act.put, List.setIfInBounds_toArray, List.set_cons_succ, List.set_cons_zero]; (repeat' (first | (refine Mix.lex_quiet0 rfl rfl rfl ?_; intro K hK; go_big_quiet_op; go_big_quiet_on) | (refine Mix.lex_quietG rfl rfl rfl (by with_reducible rfl) rfl rfl ?_; intro K hK; go_big_quiet_op; go_big_quiet_on) | ((first | refine Mix.lex_skipT rfl rfl rfl (by with_reducible rfl) ?_ | refine Mix.lex_skipF rfl rfl rfl (by with_reducible rfl) ?_ | refine Mix.lex_skipU rfl rfl rfl (by with_reducible rfl) ?_); simp only [Act.put, List.setIfInBounds_toArray, List.set_cons_succ, List.set_cons_zero]) | (refine Mix.lex_part rfl rfl rfl rfl (fun hq => ?_) (fun hq => ?_) <;> (fail_if_success (guard_hyp hq :ₛ true = true)) <;> (fail_if_success (guard_hyp hq :ₛ false = false)) <;> first | (exfalso; cases hq; done) | (exfalso; simp only [decide_eq_true_eq, decide_eq_false_iff_not, beq_iff_eq, beq_eq_false_iff_ne, ne_eq, Int.not_lt, Int.not_le] at hq; omega) | simp only [Act.put, List.setIfInBounds_toArray, List.set_cons_succ, List.set_cons_zero])))
      ((first | refine Mix.lex_goes0 rfl rfl ?_ | refine Mix.lex_goesG rfl rfl rfl (by with_reducible rfl) rfl ?_); intro K hK; go_simp); refine (HS3.out _ ξ2.h).mono ?_; rintro e uu ⟨rfl, hu⟩; obtain ⟨ξ3, hnew⟩ : ∃ ξ : X w1 No, ξ.v = uu := ⟨⟨uu, ξ2.h.then_ext hu⟩, rfl⟩; subst hnew; have Hξ3 := Lib.hid hu; refine ⟨_, rfl, hK _ _ (fun _ => ⟨ξ3, rfl⟩) ?_⟩; clear hK K hu; simp only [Act.put, List.setIfInBounds_toArray, List.set_cons_succ, List.set_cons_zero]; (repeat' (first | (refine Mix.lex_quiet0 rfl rfl rfl ?_; intro K hK; go_big_quiet_op; go_big_quiet_on) | (refine Mix.lex_quietG rfl rfl rfl (by with_reducible rfl) rfl rfl ?_; intro K hK; go_big_quiet_op; go_big_quiet_on) | ((first | refine Mix.lex_skipT rfl rfl rfl (by with_reducible rfl) ?_ | refine Mix.lex_skipF rfl rfl rfl (by with_reducible rfl) ?_ | refine Mix.lex_skipU rfl rfl rfl (by with_reducible rfl) ?_); simp only [Act.put, List.setIfInBounds_toArray, List.set_cons_succ, List.set_cons_zero]) | (refine Mix.lex_part rfl rfl rfl rfl (fun hq => ?_) (fun hq => ?_) <;> (fail_if_success (guard_hyp hq :ₛ true = true)) <;> (fail_if_success (guard_hyp hq :ₛ false = false)) <;> first | (exfalso; cases hq; done) | (exfalso; simp only [decide_eq_true_eq, decide_eq_false_iff_not, beq_iff_eq, beq_eq_false_iff_ne, ne_eq, Int.not_lt, Int.not_le] at hq; omega) | simp only [Act.put, List.setIfInBounds_toArray, List.set_cons_succ, List.set_cons_zero])))
      refine Mix.lex_nil ?_
      cases b3 <;>
      · go_wp2_with fail
        go_ret
        exact ⟨by rw [HB.out]; rfl, HX.out.then_ext ξ3.h⟩
theorem wpList_zeros_nil {P : Program} {ops : Array Oper} {rest : List Oper} {Q : Exit → Act → World → Prop} {w : World} {o : Oper} {a : Act} (hgd : o.guard = none) {t tn e : TypeId} {i : TypeInfo} {z : Value} {kn : IntKind} (ht : P.underlying t = some (.slice e)) (htn : P.underlying tn = some (.int kn))
    (hi : P.info? e = some i) (hz : i.zero = some z) {s x : Operand} (ho : o.op = .call { callee := .builtin .append, args := #[s, x], argTypes := #[t, tn] })
    {m : Nat} (hs : a.eval s = .slice none 0 0) (hx : a.eval x = .int .i64 (m : Int)) (h0 : 0 < m) (hsz : 0 < i.size) (hby : i.bytes ≤ 256) (hsm : m ≤ 100000000)
    (h : ∀ cap, m ≤ cap → cap ≤ maxLen → wpList P ops Q rest (a.put o.dst (.slice (some ⟨w.heap.size, 0, none⟩) m cap)) (w.drew.alloc (.cells ((Builtin.zeroCells z.cells m).toList ++ (Builtin.zeroCells z.cells (cap - m)).toList).toArray e))) :
    wpList P ops Q (o :: rest) a w := by
  have hm1 : m * i.bytes ≤ 100000000 * 256 := Nat.mul_le_mul hsm hby
  have hrun := Lib.run_append_grow_zeros (P := P) w t tn o.type e i z .i64 kn ht htn hi hz none 0 0 [] (run_firstCells_none w.drew i.size 0 0 0) m h0 hsz (by omega) (by omega) (by omega) (growslice_fits (by omega) (by rw [Nat.zero_add]; omega))
  refine wpList_plain hgd fun K hK => Mix.wp_of_goes (N := fun v' w' => wpList P ops Q rest (a.put o.dst v') w') (fun _ _ h => hK _ _ h) ?_
  unfold Mix.goes Mix.goesUpon execOp
  simp only [ho, resolve, invoke, builtin, Sem.run_bind, Sem.run_pure, Result.andThen_ok, List.map_toArray, List.map_cons, List.map_nil, hs, hx, hrun]
  have := h (grownCap w (0 + m) 0 e) (Nat.le_trans (by omega) (grownCap_ge w _ _ _)) (grownCap_le_maxLen w _ _ e (by unfold maxLen; omega))
  have e1 : ((Builtin.zeroCells z.cells m).toList ++ (Builtin.zeroCells z.cells (grownCap w (0 + m) 0 e - m)).toList).toArray = ([] : List Value).toArray ++ Builtin.zeroCells z.cells m ++ Builtin.zeroCells z.cells (grownCap w (0 + m) 0 e - (0 + m)) := by
    apply Array.ext'
    simp
  rw [e1] at this
  simpa using this
set_option maxRecDepth 100000 in
set_option maxHeartbeats 1000000 in
theorem Grow_c (k : Nat) (hk : k ≤ 1000000) (w : World) :
    Calls Tryz.prog 143 #[.slice none 0 0, .int .i64 k] w fun e w' => ∃ A' c', e = .returned (.slice A' 0 c') ∧ Fresh fileF 75 w w' A' c' [] := by
  obtain ⟨i, hi, hz, hs, hb⟩ := info_parts fl_info
  rcases Nat.eq_zero_or_pos k with h0 | h0
  · subst h0
    go_enter Tryz.func143, Tryz.ntmps143
    go_wp2_with (first | ((first | refine Mix.wpList_guarded rfl ?_ | refine Mix.wp_still (by kernel_rfl) (by kernel_rfl) ?_); (repeat' (first | (refine Mix.lex_quiet0 rfl rfl rfl ?_; intro K hK; go_big_quiet_op; go_big_quiet_on) | (refine Mix.lex_quietG rfl rfl rfl (by with_reducible rfl) rfl rfl ?_; intro K hK; go_big_quiet_op; go_big_quiet_on) | ((first | refine Mix.lex_skipT rfl rfl rfl (by with_reducible rfl) ?_ | refine Mix.lex_skipF rfl rfl rfl (by with_reducible rfl) ?_ | refine Mix.lex_skipU rfl rfl rfl (by with_reducible rfl) ?_); simp only [Act.put, List.setIfInBounds_toArray, List.set_cons_succ, List.set_cons_zero]) | (refine Mix.lex_part rfl rfl rfl rfl (fun hq => ?_) (fun hq => ?_) <;> (fail_if_success (guard_hyp hq :ₛ true = true)) <;> (fail_if_success (guard_hyp hq :ₛ false = false)) <;> first | (exfalso; cases hq; done) | (exfalso; simp only [decide_eq_true_eq, decide_eq_false_iff_not, beq_iff_eq, beq_eq_false_iff_ne, ne_eq, Int.not_lt, Int.not_le] at hq; omega) | simp only [Act.put, List.setIfInBounds_toArray, List.set_cons_succ, List.set_cons_zero]))); all_goals (refine Mix.lex_nil ?_)))
    go_ret
    exact ⟨none, 0, rfl, Fresh.nil _ _ _ _ (Only.refl _ _)⟩
  · have HI := Lib.hid hi
    have HZ := Lib.hid hz
    have HS := Lib.hid hs
    have hsz : 0 < i.size := by omega
    have hb : i.bytes ≤ 256 := by omega
    clear hi hz hs
    go_enter Tryz.func143, Tryz.ntmps143
    go_wp2_with (first | (at_builtin; go_must (refine wpList_zeros_nil (m := k) rfl Tryz.underlying22 Tryz.underlying3 HI.out HZ.out rfl rfl rfl h0 hsz hb (by omega) ?_); intro cap hc1 hc2) | ((first | refine Mix.wpList_guarded rfl ?_ | refine Mix.wp_still (by kernel_rfl) (by kernel_rfl) ?_); (repeat' (first | (refine Mix.lex_quiet0 rfl rfl rfl ?_; intro K hK; go_big_quiet_op; go_big_quiet_on) | (refine Mix.lex_quietG rfl rfl rfl (by with_reducible rfl) rfl rfl ?_; intro K hK; go_big_quiet_op; go_big_quiet_on) | ((first | refine Mix.lex_skipT rfl rfl rfl (by with_reducible rfl) ?_ | refine Mix.lex_skipF rfl rfl rfl (by with_reducible rfl) ?_ | refine Mix.lex_skipU rfl rfl rfl (by with_reducible rfl) ?_); simp only [Act.put, List.setIfInBounds_toArray, List.set_cons_succ, List.set_cons_zero]) | (refine Mix.lex_part rfl rfl rfl rfl (fun hq => ?_) (fun hq => ?_) <;> (fail_if_success (guard_hyp hq :ₛ true = true)) <;> (fail_if_success (guard_hyp hq :ₛ false = false)) <;> first | (exfalso; cases hq; done) | (exfalso; simp only [decide_eq_true_eq, decide_eq_false_iff_not, beq_iff_eq, beq_eq_false_iff_ne, ne_eq, Int.not_lt, Int.not_le] at hq; omega) | simp only [Act.put, List.setIfInBounds_toArray, List.set_cons_succ, List.set_cons_zero]))); all_goals (refine Mix.lex_nil ?_)))
    go_ret
    refine ⟨_, cap, rfl, ?_, (Only.refl No w).drew.alloc _, fun g hg => ?_⟩
    · exact own_of_block (xs := []) (rest := (Builtin.zeroCells #[.string ⟨#[]⟩, .string ⟨#[]⟩] k).toList ++ (Builtin.zeroCells #[.string ⟨#[]⟩, .string ⟨#[]⟩] (cap - k)).toList) (Cs.new _ _ _) (Nat.zero_le _) (by simp)
        (by rw [List.nil_append, List.length_append, length_zeroCells, length_zeroCells, ← Nat.add_mul]; show (k + (cap - k)) * 2 = cap * 2; congr 1; omega) (Nat.zero_le _) hc2
    · simp [Value.ownBlock] at hg
      subst hg
      exact Nat.le_refl _
set_option maxRecDepth 100000 in
set_option maxHeartbeats 2000000 in
theorem Concat_c {t : TypeId} {w : World} {b n m c d : Nat} {A B : Option Addr} {xs ys : List File} (hb : Cs w b t #[.slice A n c, .slice B m d]) (h1 : SlR fileF w A n xs) (h2 : SlR fileF w B m ys) (hn : n ≤ 1000) (hm : m ≤ 1000) :
    Calls Tryz.prog 109 #[.slice (some ⟨b, 0, none⟩) 2 2] w fun e w' => ∃ A' c', e = .returned (.slice A' (xs ++ ys).length c') ∧ Fresh fileF 75 w w' A' c' (xs ++ ys) := by
  have b0 : ∀ ξ : X w No, ξ.v.cell? ⟨b, 0, none⟩ = some (.slice A n c) := hb.x id 0
  have b1 : ∀ ξ : X w No, ξ.v.cell? ⟨b, 1, none⟩ = some (.slice B m d) := hb.x id 1
  have H1 := Lib.hid h1
  have H2 := Lib.hid h2
  have hxl := h1.1
  have hyl := h2.1
  have HG := Lib.hid (fun v => Grow_c (n + m) (by omega) v)
  clear hb h1 h2
  go_enter Tryz.func109, Tryz.ntmps109
  go_wp2_with (first | ((first | refine Mix.wpList_guarded rfl ?_ | refine Mix.wp_still (by kernel_rfl) (by kernel_rfl) ?_); (repeat' (first | (refine Mix.lex_quiet0 rfl rfl rfl ?_; intro K hK; go_big_quiet_op; go_big_quiet_on) | (refine Mix.lex_quietG rfl rfl rfl (by with_reducible rfl) rfl rfl ?_; intro K hK; go_big_quiet_op; go_big_quiet_on) | ((first | refine Mix.lex_skipT rfl rfl rfl (by with_reducible rfl) ?_ | refine Mix.lex_skipF rfl rfl rfl (by with_reducible rfl) ?_ | refine Mix.lex_skipU rfl rfl rfl (by with_reducible rfl) ?_); simp only [Act.put, List.setIfInBounds_toArray, List.set_cons_succ, List.set_cons_zero]) | (refine Mix.lex_part rfl rfl rfl rfl (fun hq => ?_) (fun hq => ?_) <;> (fail_if_success (guard_hyp hq :ₛ true = true)) <;> (fail_if_success (guard_hyp hq :ₛ false = false)) <;> first | (exfalso; cases hq; done) | (exfalso; simp only [decide_eq_true_eq, decide_eq_false_iff_not, beq_iff_eq, beq_eq_false_iff_ne, ne_eq, Int.not_lt, Int.not_le] at hq; omega) | simp only [Act.put, List.setIfInBounds_toArray, List.set_cons_succ, List.set_cons_zero]))); all_goals (refine Mix.lex_nil ?_)))
  go_loopw [3, 11] (fun z i wr => ∃ k : Nat, k ≤ 2 ∧ i = .int .i64 k ∧ ((k = 0 ∧ z = .int .i64 0) ∨ (k = 1 ∧ z = .int .i64 n) ∨ (k = 2 ∧ z = .int .i64 ((n + m : Nat) : Int))) ∧ ∃ ξ : X w No, wr = ξ.v) (fun _ i _ => 2 - (intOf i).toNat)
  case atStart => exact ⟨0, by omega, rfl, .inl ⟨rfl, rfl⟩, X.here _ _, rfl⟩
  case round =>
    obtain ⟨k, hk, rfl, hz, ξ, rfl⟩ := hrel
    rcases hz with ⟨rfl, rfl⟩ | ⟨rfl, rfl⟩ | ⟨rfl, rfl⟩
    · have c0 := b0 ξ
      have g1 : decide ((n : Int) < 0) = false := by rw [decide_eq_false_iff_not]; omega
      go_wp2_with (first | ((first | refine Mix.wpList_guarded rfl ?_ | refine Mix.wp_still (by kernel_rfl) (by kernel_rfl) ?_); (repeat' (first | (refine Mix.lex_quiet0 rfl rfl rfl ?_; intro K hK; go_big_quiet_op; go_big_quiet_on) | (refine Mix.lex_quietG rfl rfl rfl (by with_reducible rfl) rfl rfl ?_; intro K hK; go_big_quiet_op; go_big_quiet_on) | ((first | refine Mix.lex_skipT rfl rfl rfl (by with_reducible rfl) ?_ | refine Mix.lex_skipF rfl rfl rfl (by with_reducible rfl) ?_ | refine Mix.lex_skipU rfl rfl rfl (by with_reducible rfl) ?_); simp only [Act.put, List.setIfInBounds_toArray, List.set_cons_succ, List.set_cons_zero]) | (refine Mix.lex_part rfl rfl rfl rfl (fun hq => ?_) (fun hq => ?_) <;> (fail_if_success (guard_hyp hq :ₛ true = true)) <;> (fail_if_success (guard_hyp hq :ₛ false = false)) <;> first | (exfalso; cases hq; done) | (exfalso; simp only [decide_eq_true_eq, decide_eq_false_iff_not, beq_iff_eq, beq_eq_false_iff_ne, ne_eq, Int.not_lt, Int.not_le] at hq; omega) | simp only [Act.put, List.setIfInBounds_toArray, List.set_cons_succ, List.set_cons_zero]))); all_goals (refine Mix.lex_nil ?_)))
      go_roundw
      case rel => exact ⟨1, by omega, rfl, .inr (.inl ⟨rfl, by simp⟩), ξ, rfl⟩
      case measure => simp [intOf]
    · have c1 := b1 ξ
      have g1 : decide ((n : Int) + (m : Int) < 0) = false := by rw [decide_eq_false_iff_not]; omega
      go_wp2_with (first | ((first | refine Mix.wpList_guarded rfl ?_ | refine Mix.wp_still (by kernel_rfl) (by kernel_rfl) ?_); (repeat' (first | (refine Mix.lex_quiet0 rfl rfl rfl ?_; intro K hK; go_big_quiet_op; go_big_quiet_on) | (refine Mix.lex_quietG rfl rfl rfl (by with_reducible rfl) rfl rfl ?_; intro K hK; go_big_quiet_op; go_big_quiet_on) | ((first | refine Mix.lex_skipT rfl rfl rfl (by with_reducible rfl) ?_ | refine Mix.lex_skipF rfl rfl rfl (by with_reducible rfl) ?_ | refine Mix.lex_skipU rfl rfl rfl (by with_reducible rfl) ?_); simp only [Act.put, List.setIfInBounds_toArray, List.set_cons_succ, List.set_cons_zero]) | (refine Mix.lex_part rfl rfl rfl rfl (fun hq => ?_) (fun hq => ?_) <;> (fail_if_success (guard_hyp hq :ₛ true = true)) <;> (fail_if_success (guard_hyp hq :ₛ false = false)) <;> first | (exfalso; cases hq; done) | (exfalso; simp only [decide_eq_true_eq, decide_eq_false_iff_not, beq_iff_eq, beq_eq_false_iff_ne, ne_eq, Int.not_lt, Int.not_le] at hq; omega) | simp only [Act.put, List.setIfInBounds_toArray, List.set_cons_succ, List.set_cons_zero]))); all_goals (refine Mix.lex_nil ?_)))
      go_roundw
      case rel => exact ⟨2, by omega, rfl, .inr (.inr ⟨rfl, by simp⟩), ξ, rfl⟩
      case measure => simp [intOf]
    · go_wp2_with (first | ((first | refine Mix.wpList_guarded rfl ?_ | refine Mix.wp_still (by kernel_rfl) (by kernel_rfl) ?_); (repeat' (first | (refine Mix.lex_quiet0 rfl rfl rfl ?_; intro K hK; go_big_quiet_op; go_big_quiet_on) | (refine Mix.lex_quietG rfl rfl rfl (by with_reducible rfl) rfl rfl ?_; intro K hK; go_big_quiet_op; go_big_quiet_on) | ((first | refine Mix.lex_skipT rfl rfl rfl (by with_reducible rfl) ?_ | refine Mix.lex_skipF rfl rfl rfl (by with_reducible rfl) ?_ | refine Mix.lex_skipU rfl rfl rfl (by with_reducible rfl) ?_); simp only [Act.put, List.setIfInBounds_toArray, List.set_cons_succ, List.set_cons_zero]) | (refine Mix.lex_part rfl rfl rfl rfl (fun hq => ?_) (fun hq => ?_) <;> (fail_if_success (guard_hyp hq :ₛ true = true)) <;> (fail_if_success (guard_hyp hq :ₛ false = false)) <;> first | (exfalso; cases hq; done) | (exfalso; simp only [decide_eq_true_eq, decide_eq_false_iff_not, beq_iff_eq, beq_eq_false_iff_ne, ne_eq, Int.not_lt, Int.not_le] at hq; omega) | simp only [Act.put, List.setIfInBounds_toArray, List.set_cons_succ, List.set_cons_zero]))); all_goals (refine Mix.lex_nil ?_)))
      refine (HG.out _).mono ?_
      rintro e u ⟨A0, c0, rfl, hf⟩
      have F0 := Lib.hid (hf.from ξ.h)
      obtain ⟨ξ0, rfl⟩ : ∃ ξ : X w No, u = ξ.v := ⟨⟨u, ξ.h.then_ext hf.ext⟩, rfl⟩
      clear hf HG
      go_wp2_with (first | ((first | refine Mix.wpList_guarded rfl ?_ | refine Mix.wp_still (by kernel_rfl) (by kernel_rfl) ?_); (repeat' (first | (refine Mix.lex_quiet0 rfl rfl rfl ?_; intro K hK; go_big_quiet_op; go_big_quiet_on) | (refine Mix.lex_quietG rfl rfl rfl (by with_reducible rfl) rfl rfl ?_; intro K hK; go_big_quiet_op; go_big_quiet_on) | ((first | refine Mix.lex_skipT rfl rfl rfl (by with_reducible rfl) ?_ | refine Mix.lex_skipF rfl rfl rfl (by with_reducible rfl) ?_ | refine Mix.lex_skipU rfl rfl rfl (by with_reducible rfl) ?_); simp only [Act.put, List.setIfInBounds_toArray, List.set_cons_succ, List.set_cons_zero]) | (refine Mix.lex_part rfl rfl rfl rfl (fun hq => ?_) (fun hq => ?_) <;> (fail_if_success (guard_hyp hq :ₛ true = true)) <;> (fail_if_success (guard_hyp hq :ₛ false = false)) <;> first | (exfalso; cases hq; done) | (exfalso; simp only [decide_eq_true_eq, decide_eq_false_iff_not, beq_iff_eq, beq_eq_false_iff_ne, ne_eq, Int.not_lt, Int.not_le] at hq; omega) | simp only [Act.put, List.setIfInBounds_toArray, List.set_cons_succ, List.set_cons_zero]))); all_goals (refine Mix.lex_nil ?_)))
      go_loopw [6, 27] (fun z i wr => ∃ k : Nat, k ≤ 2 ∧ i = .int .i64 k ∧ ∃ L A' c', z = .slice A' L.length c' ∧ Fresh fileF 75 w wr A' c' L ∧ ((k = 0 ∧ L = []) ∨ (k = 1 ∧ L = xs) ∨ (k = 2 ∧ L = xs ++ ys))) (fun _ i _ => 2 - (intOf i).toNat)
      case atStart => exact ⟨0, by omega, rfl, [], A0, c0, rfl, F0.out, .inl ⟨rfl, rfl⟩⟩
      case round =>
        obtain ⟨k, hk, rfl, L, A1, c1, rfl, hf, hz⟩ := hrel
        have F1 := Lib.hid hf
        obtain ⟨ξ1, rfl⟩ : ∃ ξ : X w No, wr = ξ.v := ⟨⟨wr, hf.ext⟩, rfl⟩
        clear hf
        rcases hz with ⟨rfl, rfl⟩ | ⟨rfl, rfl⟩ | ⟨rfl, rfl⟩
        · have c0 := b0 ξ1
          have hr := (H1.out.ext ξ1.h).rd (by decide)
          have HR := Lib.hid hr
          clear hr
          go_wp2_with (first | (at_builtin; go_must (refine wpList_append (v := .slice A1 0 c1) (n := 0) (xs := []) rfl fl_ty rfl rfl rfl F1.out.own HR.out (fl_enc1 xs) (by omega) ?_); intro A2 c2 w5 hown5 hg5 hb5) | ((first | refine Mix.wpList_guarded rfl ?_ | refine Mix.wp_still (by kernel_rfl) (by kernel_rfl) ?_); (repeat' (first | (refine Mix.lex_quiet0 rfl rfl rfl ?_; intro K hK; go_big_quiet_op; go_big_quiet_on) | (refine Mix.lex_quietG rfl rfl rfl (by with_reducible rfl) rfl rfl ?_; intro K hK; go_big_quiet_op; go_big_quiet_on) | ((first | refine Mix.lex_skipT rfl rfl rfl (by with_reducible rfl) ?_ | refine Mix.lex_skipF rfl rfl rfl (by with_reducible rfl) ?_ | refine Mix.lex_skipU rfl rfl rfl (by with_reducible rfl) ?_); simp only [Act.put, List.setIfInBounds_toArray, List.set_cons_succ, List.set_cons_zero]) | (refine Mix.lex_part rfl rfl rfl rfl (fun hq => ?_) (fun hq => ?_) <;> (fail_if_success (guard_hyp hq :ₛ true = true)) <;> (fail_if_success (guard_hyp hq :ₛ false = false)) <;> first | (exfalso; cases hq; done) | (exfalso; simp only [decide_eq_true_eq, decide_eq_false_iff_not, beq_iff_eq, beq_eq_false_iff_ne, ne_eq, Int.not_lt, Int.not_le] at hq; omega) | simp only [Act.put, List.setIfInBounds_toArray, List.set_cons_succ, List.set_cons_zero]))); all_goals (refine Mix.lex_nil ?_)))
          go_roundw
          case rel =>
            have F3 := F1.out.grow (ys := xs) hxl hown5 hg5 hb5
            exact ⟨1, by omega, rfl, xs, A2, c2, (by rw [hxl]; try simp), by simpa using F3, .inr (.inl ⟨rfl, rfl⟩)⟩
          case measure => simp [intOf]
        · have c1' := b1 ξ1
          have HR := Lib.hid ((H2.out.ext ξ1.h).rd (by decide))
          go_wp2_with (first | (at_builtin; go_must (refine wpList_append (v := .slice A1 L.length c1) (n := L.length) (xs := L.flatMap fileF.enc) rfl fl_ty rfl rfl rfl F1.out.own HR.out (fl_enc1 ys) (by omega) ?_); intro A2 c2 w5 hown5 hg5 hb5) | ((first | refine Mix.wpList_guarded rfl ?_ | refine Mix.wp_still (by kernel_rfl) (by kernel_rfl) ?_); (repeat' (first | (refine Mix.lex_quiet0 rfl rfl rfl ?_; intro K hK; go_big_quiet_op; go_big_quiet_on) | (refine Mix.lex_quietG rfl rfl rfl (by with_reducible rfl) rfl rfl ?_; intro K hK; go_big_quiet_op; go_big_quiet_on) | ((first | refine Mix.lex_skipT rfl rfl rfl (by with_reducible rfl) ?_ | refine Mix.lex_skipF rfl rfl rfl (by with_reducible rfl) ?_ | refine Mix.lex_skipU rfl rfl rfl (by with_reducible rfl) ?_); simp only [Act.put, List.setIfInBounds_toArray, List.set_cons_succ, List.set_cons_zero]) | (refine Mix.lex_part rfl rfl rfl rfl (fun hq => ?_) (fun hq => ?_) <;> (fail_if_success (guard_hyp hq :ₛ true = true)) <;> (fail_if_success (guard_hyp hq :ₛ false = false)) <;> first | (exfalso; cases hq; done) | (exfalso; simp only [decide_eq_true_eq, decide_eq_false_iff_not, beq_iff_eq, beq_eq_false_iff_ne, ne_eq, Int.not_lt, Int.not_le] at hq; omega) | simp only [Act.put, List.setIfInBounds_toArray, List.set_cons_succ, List.set_cons_zero]))); all_goals (refine Mix.lex_nil ?_)))
          go_roundw
          case rel =>
            have F3 := F1.out.grow (ys := ys) hyl hown5 hg5 hb5
            exact ⟨2, by omega, rfl, L ++ ys, A2, c2, by rw [List.length_append, hyl, hxl], F3, .inr (.inr ⟨rfl, rfl⟩)⟩
          case measure => simp [intOf]
        · go_wp2_with (first | ((first | refine Mix.wpList_guarded rfl ?_ | refine Mix.wp_still (by kernel_rfl) (by kernel_rfl) ?_); (repeat' (first | (refine Mix.lex_quiet0 rfl rfl rfl ?_; intro K hK; go_big_quiet_op; go_big_quiet_on) | (refine Mix.lex_quietG rfl rfl rfl (by with_reducible rfl) rfl rfl ?_; intro K hK; go_big_quiet_op; go_big_quiet_on) | ((first | refine Mix.lex_skipT rfl rfl rfl (by with_reducible rfl) ?_ | refine Mix.lex_skipF rfl rfl rfl (by with_reducible rfl) ?_ | refine Mix.lex_skipU rfl rfl rfl (by with_reducible rfl) ?_); simp only [Act.put, List.setIfInBounds_toArray, List.set_cons_succ, List.set_cons_zero]) | (refine Mix.lex_part rfl rfl rfl rfl (fun hq => ?_) (fun hq => ?_) <;> (fail_if_success (guard_hyp hq :ₛ true = true)) <;> (fail_if_success (guard_hyp hq :ₛ false = false)) <;> first | (exfalso; cases hq; done) | (exfalso; simp only [decide_eq_true_eq, decide_eq_false_iff_not, beq_iff_eq, beq_eq_false_iff_ne, ne_eq, Int.not_lt, Int.not_le] at hq; omega) | simp only [Act.put, List.setIfInBounds_toArray, List.set_cons_succ, List.set_cons_zero]))); all_goals (refine Mix.lex_nil ?_)))
          go_ret
          exact ⟨A1, c1, rfl, F1.out⟩
end Go.Proofs.YtnhaekifcieeoaaGreatDoor
