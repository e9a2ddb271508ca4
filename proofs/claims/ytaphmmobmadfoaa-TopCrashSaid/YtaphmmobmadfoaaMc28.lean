/- Put together: St5. -/
import Derived.Test.YtaphmmobmadfoaaMc27
/- Open. -/
namespace Go.Proofs.Ytaphmmobmadfoaa
open Go Go.RowKit
abbrev stTy : TypeId := 76
structure StS where
  g : Nat
  h : Hd
  l : LogR
  A : Option Addr
  c : Nat
  rows : List Ch
abbrev stCells (dg : Nat) (h : Hd) (lv : Value) (rv : Value) : Array Value := #[pt dg, .int .i64 (h.epoch : Nat), .int .i64 (h.side : Nat), .int .i64 (h.size : Nat), .int .i64 (h.first : Nat), lv, rv]
abbrev StS.cells (S : StS) (dg : Nat) : Array Value := stCells dg S.h (pt S.l.g) (.slice S.A S.rows.length S.c)
structure StoreAt (w : World) (S : StS) (dg : Nat) : Prop where
  cs : Cs w S.g stTy (S.cells dg)
  lg : LogAt w S.l dg
  own : w.ownsRow 0 chT 3 (.slice S.A S.rows.length S.c) S.rows.length (S.rows.flatMap chF.enc)
theorem StoreAt.ext {w v : World} {S : StS} {dg : Nat} (h : StoreAt w S dg) (hx : Ext w v) : StoreAt v S dg := ⟨h.cs.keep hx id, h.lg.ext hx, own_ext h.own hx⟩
theorem StoreAt.sl {w : World} {S : StS} {dg : Nat} (h : StoreAt w S dg) : SlR chF w S.A S.rows.length S.rows := SlR.of_own (T := chF) (by decide) h.own
def pickH (s h : Hd) : Hd := if s.epoch < h.epoch then h else s
def selJ (N : List Str) : Nat → Hd
  | 0 => ⟨0, 0, 0, 0⟩
  | j + 1 => pickH (selJ N j) (hdOf (N.getD j []))
def selH (N : List Str) : Hd := selJ N 2
def catT (N : List Str) (side k : Nat) : Str := ((N.drop (2 + side * 21)).take k).flatten
structure HdFit (h : Hd) : Prop where
  ep : h.epoch < 4294967296
  side : h.side ≤ 1
  size : h.size ≤ 7140
  fs : 1 ≤ h.first ∧ h.first < 4294967296
theorem hdOf_ok {s : Str} (h : (hdOf s).epoch ≠ 0) : HdFit (hdOf s) := by
  unfold hdOf at h ⊢
  split at h
  · exact absurd rfl h
  · rename_i hc
    rw [if_neg hc]
    have h1 := un4_lt s 1
    have h2 := un4_lt s 13
    exact ⟨h1, by show un4 s 5 ≤ 1; omega, by show un4 s 9 ≤ 7140; omega, by show 1 ≤ un4 s 13 ∧ un4 s 13 < 4294967296; omega⟩
theorem selJ_ok (N : List Str) : ∀ j, (selJ N j).epoch ≠ 0 → HdFit (selJ N j)
  | 0, h => absurd rfl h
  | j + 1, h => by
    unfold selJ pickH at h ⊢
    split at h
    · rename_i hc; rw [if_pos hc]; exact hdOf_ok h
    · rename_i hc; rw [if_neg hc]; exact selJ_ok N j h
theorem hdOf_lt (s : Str) : (hdOf s).epoch < 4294967296 := by
  unfold hdOf
  split
  · exact Nat.zero_lt_succ _
  · exact un4_lt s 1
theorem catT_succ {N : List Str} {side k : Nat} (h : 2 + side * 21 + k < N.length) : catT N side (k + 1) = catT N side k ++ N[2 + side * 21 + k] := by
  unfold catT
  rw [List.take_add_one, List.getElem?_drop, List.getElem?_eq_getElem h]
  simp
theorem catT_len {N : List Str} (hw : ∀ s ∈ N, s.length = 340) {side k : Nat} (h : 2 + side * 21 + k ≤ N.length) : (catT N side k).length = 340 * k := by
  induction k with
  | zero => simp [catT]
  | succ k ih =>
    rw [catT_succ (by omega), List.length_append, ih (by omega), hw _ (List.getElem_mem _)]
    omega
/-- The rows that the entries make. -/
def foldR (base : List Ch) (out : List (List Ch)) : List Ch := out.foldl applyL base
theorem foldR_snoc {base : List Ch} {out : List (List Ch)} {j : Nat} {c : List Ch} (h : out[j]? = some c) : foldR base (out.take (j + 1)) = applyL (foldR base (out.take j)) c := by
  unfold foldR
  rw [List.take_add_one, h, List.foldl_append]
  rfl
theorem foldR_rise {base : List Ch} (h : Rise ck base) : ∀ out : List (List Ch), Rise ck (foldR base out) := fun out => by
  unfold foldR
  induction out generalizing base with
  | nil => exact h
  | cons c r ih => exact ih (applyL_rise h c)
theorem foldR_len : ∀ (out : List (List Ch)) (base : List Ch), (foldR base out).length ≤ base.length + out.flatten.length
  | [], base => by simp [foldR]
  | c :: r, base => by
    have h1 := foldR_len r (applyL base c)
    have h2 := applyL_len base c
    show (foldR (applyL base c) r).length ≤ _
    simp only [List.flatten_cons, List.length_append]
    omega
theorem scan_sum (first : Nat) : ∀ (L : List Str) (i : Nat) (deed : List Ch) (o0 : List (List Ch)) (nx : Nat), (scanF first L i deed o0 nx).1.flatten.length ≤ o0.flatten.length + deed.length + L.length
  | [], i, deed, o0, nx => by show o0.flatten.length ≤ _; omega
  | s :: r, i, deed, o0, nx => by
    rw [scanF_cons, List.length_cons]
    cases hl : lookF s (first + i) with
    | none => show o0.flatten.length ≤ _; omega
    | some kt =>
      obtain ⟨k, t⟩ := kt
      dsimp only
      by_cases h99 : k = 99
      · rw [if_pos h99]
        by_cases ht : t = fourF deed.length
        · rw [if_pos ht]
          have := scan_sum first r (i + 1) [] (o0 ++ [deed]) (i + 1)
          simp only [List.flatten_append, List.flatten_cons, List.flatten_nil, List.append_nil, List.length_append, List.length_nil] at this
          omega
        · rw [if_neg ht]; show o0.flatten.length ≤ _; omega
      · rw [if_neg h99]
        cases chGood t with
        | none => show o0.flatten.length ≤ _; omega
        | some c =>
          have := scan_sum first r (i + 1) (deed ++ [c]) o0 nx
          simp only [List.length_append, List.length_singleton] at this
          dsimp only
          omega
/-- What Open comes to. -/
def OpS (w : World) (dg : Nat) (H : Hd) (N used : Nat) (rows : List Ch) (e : Ending) (w' : World) : Prop :=
  ∃ g lg A c, e = .returned (.tuple #[pt g, .nilIface]) ∧ StoreAt w' ⟨g, H, ⟨lg, 44, N - 44, H.first, used⟩, A, c, rows⟩ dg ∧ w.heap.size ≤ g ∧ w.heap.size ≤ lg ∧ Ext w w'
@[go_sem] theorem st_build (dg : Nat) (w : World) : (Instr.build stTy #[(0, pt dg)]).run Try.prog w = .ok (.agg #[pt dg, .int .i64 0, .int .i64 0, .int .i64 0, .int .i64 0, .pointer none, .slice none 0 0]) w := run_build w stTy _ _ (by kernel_rfl)
set_option maxRecDepth 100000 in
set_option maxHeartbeats 4000000 in
theorem SOpen_c {w : World} (hm : Ml w) {r : DkR} {d : Dk} (h : DiskAt w r d) (hdn : d.down = false) (hw : ∀ s ∈ d.now, s.length = 340) (h1 : 50 ≤ d.now.length) (h2 : d.now.length ≤ 120) {H : Hd} (hH : selH d.now = H) (he : H.epoch ≠ 0) {base : List Ch} (hb : GoodR base) (hbl : base.length ≤ 1000)
    (ht : (catT d.now H.side 21).take H.size = allT base) {out : List (List Ch)} {used : Nat} (hs : scanF H.first ((d.now.drop 44).take (d.now.length - 44)) 0 [] [] 0 = (out, used)) :
    Calls Try.prog 10 #[pt r.g] w (OpS w r.g H d.now.length used (foldR base out)) := by
  have HD := Lib.hid h
  have HM := Lib.hid hm
  have HW := Lib.hid hw
  have HH := Lib.hid hH
  have HB := Lib.hid hb
  have HT := Lib.hid ht
  have HSc := Lib.hid hs
  have HFit : Hid (HdFit H) := by rw [Hid, ← hH]; exact selJ_ok d.now 2 (by show (selH d.now).epoch ≠ 0; rw [hH]; exact he)
  obtain ⟨N, hN⟩ : ∃ N, N = d.now.length := ⟨_, rfl⟩
  have HN := Lib.hid hN
  have HDn := Lib.hid (Down_c h)
  rw [hdn] at HDn
  have HSe : Hid (∀ v, Ext w v → Calls Try.prog 30 #[pt r.g] v fun e u => e = .returned (.int .i64 N) ∧ Ext v u) := fun v hv => by
    have := Sectors_c (HD.out.ext hv)
    rw [← HN.out] at this
    exact this
  have HRd : Hid (∀ (v : World) (k : Nat), Ext w v → k < N → Calls Try.prog 31 #[pt r.g, .int .i64 (k : Int)] v fun e u => e = .returned (.tuple #[S (d.now.getD k []), .nilIface]) ∧ Ext v u) := fun v k hv hk => by
    have := Read_c (HD.out.ext hv) (k : Int)
    rw [hdn, if_neg Bool.false_ne_true, if_neg (by omega)] at this
    exact this
  have HL : Hid (∀ k, k < N → (d.now.getD k []).length = 340) := fun k hk => by
    rw [List.getD_eq_getElem?_getD, List.getElem?_eq_getElem (by omega)]
    exact HW.out _ (List.getElem_mem _)
  rw [← hN] at h1 h2
  have g1 : decide ((N : Int) < 50) = false := decide_eq_false (by omega)
  have g1' : decide (N < 50) = false := decide_eq_false (by omega)
  have HDown := Lib.hid hdn
  clear h hm hw hH hb ht hs hdn hN
  go_enter Try.func10, Try.ntmps10
  go_wp2_with (first | ((first | refine Mix.wpList_guarded rfl ?_ | refine Mix.wp_still (by kernel_rfl) (by kernel_rfl) ?_); (repeat' (first | (refine Mix.lex_quiet0 rfl rfl rfl ?_; intro K hK; go_big_quiet_op; go_big_quiet_on) | (refine Mix.lex_quietG rfl rfl rfl (by with_reducible rfl) rfl rfl ?_; intro K hK; go_big_quiet_op; go_big_quiet_on) | ((first | refine Mix.lex_skipT rfl rfl rfl (by with_reducible rfl) ?_ | refine Mix.lex_skipF rfl rfl rfl (by with_reducible rfl) ?_ | refine Mix.lex_skipU rfl rfl rfl (by with_reducible rfl) ?_); simp only [Act.put, List.setIfInBounds_toArray, List.set_cons_succ, List.set_cons_zero]) | (refine Mix.lex_part rfl rfl rfl rfl (fun hq => ?_) (fun hq => ?_) <;> (fail_if_success (guard_hyp hq :ₛ true = true)) <;> (fail_if_success (guard_hyp hq :ₛ false = false)) <;> first | (exfalso; cases hq; done) | (exfalso; simp only [decide_eq_true_eq, decide_eq_false_iff_not, beq_iff_eq, beq_eq_false_iff_ne, ne_eq, Int.not_lt, Int.not_le] at hq; omega) | simp only [Act.put, List.setIfInBounds_toArray, List.set_cons_succ, List.set_cons_zero]))); all_goals (refine Mix.lex_nil ?_)))
  refine HDn.out.mono ?_
  rintro e w1 ⟨rfl, hu⟩
  have X1 := Lib.hid hu
  have HS1 := HSe.out w1 X1.out
  clear hu
  go_wp2_with (first | ((first | refine Mix.wpList_guarded rfl ?_ | refine Mix.wp_still (by kernel_rfl) (by kernel_rfl) ?_); (repeat' (first | (refine Mix.lex_quiet0 rfl rfl rfl ?_; intro K hK; go_big_quiet_op; go_big_quiet_on) | (refine Mix.lex_quietG rfl rfl rfl (by with_reducible rfl) rfl rfl ?_; intro K hK; go_big_quiet_op; go_big_quiet_on) | ((first | refine Mix.lex_skipT rfl rfl rfl (by with_reducible rfl) ?_ | refine Mix.lex_skipF rfl rfl rfl (by with_reducible rfl) ?_ | refine Mix.lex_skipU rfl rfl rfl (by with_reducible rfl) ?_); simp only [Act.put, List.setIfInBounds_toArray, List.set_cons_succ, List.set_cons_zero]) | (refine Mix.lex_part rfl rfl rfl rfl (fun hq => ?_) (fun hq => ?_) <;> (fail_if_success (guard_hyp hq :ₛ true = true)) <;> (fail_if_success (guard_hyp hq :ₛ false = false)) <;> first | (exfalso; cases hq; done) | (exfalso; simp only [decide_eq_true_eq, decide_eq_false_iff_not, beq_iff_eq, beq_eq_false_iff_ne, ne_eq, Int.not_lt, Int.not_le] at hq; omega) | simp only [Act.put, List.setIfInBounds_toArray, List.set_cons_succ, List.set_cons_zero]))); all_goals (refine Mix.lex_nil ?_)))
  refine HS1.mono ?_
  rintro e w2 ⟨rfl, hu⟩
  have X2 := Lib.hid (X1.out.then_ext hu)
  clear hu HS1 X1
  go_wp2_with (first | ((first | refine Mix.wpList_guarded rfl ?_ | refine Mix.wp_still (by kernel_rfl) (by kernel_rfl) ?_); (repeat' (first | (refine Mix.lex_quiet0 rfl rfl rfl ?_; intro K hK; go_big_quiet_op; go_big_quiet_on) | (refine Mix.lex_quietG rfl rfl rfl (by with_reducible rfl) rfl rfl ?_; intro K hK; go_big_quiet_op; go_big_quiet_on) | ((first | refine Mix.lex_skipT rfl rfl rfl (by with_reducible rfl) ?_ | refine Mix.lex_skipF rfl rfl rfl (by with_reducible rfl) ?_ | refine Mix.lex_skipU rfl rfl rfl (by with_reducible rfl) ?_); simp only [Act.put, List.setIfInBounds_toArray, List.set_cons_succ, List.set_cons_zero]) | (refine Mix.lex_part rfl rfl rfl rfl (fun hq => ?_) (fun hq => ?_) <;> (fail_if_success (guard_hyp hq :ₛ true = true)) <;> (fail_if_success (guard_hyp hq :ₛ false = false)) <;> first | (exfalso; cases hq; done) | (exfalso; simp only [decide_eq_true_eq, decide_eq_false_iff_not, beq_iff_eq, beq_eq_false_iff_ne, ne_eq, Int.not_lt, Int.not_le] at hq; omega) | simp only [Act.put, List.setIfInBounds_toArray, List.set_cons_succ, List.set_cons_zero]))); all_goals (refine Mix.lex_nil ?_)))
  obtain ⟨gs, hgs⟩ : ∃ x, x = w2.heap.size := ⟨_, rfl⟩
  obtain ⟨w3, hw3⟩ : ∃ v, v = w2.alloc (.cells #[pt r.g, .int .i64 0, .int .i64 0, .int .i64 0, .int .i64 0, .pointer none, .slice none 0 0] stTy) := ⟨_, rfl⟩
  have HC3 : Hid (Cs w3 gs stTy (stCells r.g ⟨0, 0, 0, 0⟩ (.pointer none) (.slice none 0 0))) := by rw [hw3, hgs]; exact Cs.new _ _ _
  have X3 : Hid (Ext w w3) := by rw [hw3]; exact X2.out.alloc _
  have Hgs : Hid (w.heap.size ≤ gs) := by rw [hgs]; exact X2.out.size
  rw [← hw3, ← hgs]
  clear hw3 hgs X2
  go_loopw [30] (fun i wr => ∃ j : Nat, j ≤ 2 ∧ i = .int .i64 j ∧ Cs wr gs stTy (stCells r.g (selJ d.now j) (.pointer none) (.slice none 0 0)) ∧ Ext w wr) (fun i _ => 2 - (intOf i).toNat)
  case atStart => exact ⟨0, Nat.zero_le _, rfl, HC3.out, X3.out⟩
  case round =>
    obtain ⟨j, hj, rfl, hcj, hxj⟩ := hrel
    have CJ := Lib.hid hcj
    have XJ := Lib.hid hxj
    clear hcj hxj X3 HC3
    by_cases hlt : j < 2
    · have glt : decide ((j : Int) < 2) = true := decide_eq_true (by omega)
      have glt' : decide (j < 2) = true := decide_eq_true hlt
      have HR := HRd.out wr j XJ.out (by omega)
      have HO := HeadOf_c (d.now.getD j []) (HL.out j (by omega))
      have HJ1 : Hid (selJ d.now (j + 1) = if (selJ d.now j).epoch < (hdOf (d.now.getD j [])).epoch then hdOf (d.now.getD j []) else selJ d.now j) := rfl
      obtain ⟨sec, hsec⟩ : ∃ x, x = d.now.getD j [] := ⟨_, rfl⟩
      rw [← hsec] at HR HO HJ1
      obtain ⟨h, hh⟩ : ∃ h, h = hdOf sec := ⟨_, rfl⟩
      rw [← hh] at HO HJ1
      clear hsec hh
      obtain ⟨h0, hh0⟩ : ∃ h, h = selJ d.now j := ⟨_, rfl⟩
      rw [← hh0] at HJ1 CJ
      clear hh0
      go_wp2_with (first | ((first | refine Mix.wpList_guarded rfl ?_ | refine Mix.wp_still (by kernel_rfl) (by kernel_rfl) ?_); (repeat' (first | (refine Mix.lex_quiet0 rfl rfl rfl ?_; intro K hK; go_big_quiet_op; go_big_quiet_on) | (refine Mix.lex_quietG rfl rfl rfl (by with_reducible rfl) rfl rfl ?_; intro K hK; go_big_quiet_op; go_big_quiet_on) | ((first | refine Mix.lex_skipT rfl rfl rfl (by with_reducible rfl) ?_ | refine Mix.lex_skipF rfl rfl rfl (by with_reducible rfl) ?_ | refine Mix.lex_skipU rfl rfl rfl (by with_reducible rfl) ?_); simp only [Act.put, List.setIfInBounds_toArray, List.set_cons_succ, List.set_cons_zero]) | (refine Mix.lex_part rfl rfl rfl rfl (fun hq => ?_) (fun hq => ?_) <;> (fail_if_success (guard_hyp hq :ₛ true = true)) <;> (fail_if_success (guard_hyp hq :ₛ false = false)) <;> first | (exfalso; cases hq; done) | (exfalso; simp only [decide_eq_true_eq, decide_eq_false_iff_not, beq_iff_eq, beq_eq_false_iff_ne, ne_eq, Int.not_lt, Int.not_le] at hq; omega) | simp only [Act.put, List.setIfInBounds_toArray, List.set_cons_succ, List.set_cons_zero]))); all_goals (refine Mix.lex_nil ?_)))
      refine HR.mono ?_
      rintro e u1 ⟨rfl, hu⟩
      have X1 := Lib.hid (XJ.out.then_ext hu)
      have C1 := Lib.hid (CJ.out.keep hu id)
      clear hu HR XJ CJ
      go_wp2_with (first | ((first | refine Mix.wpList_guarded rfl ?_ | refine Mix.wp_still (by kernel_rfl) (by kernel_rfl) ?_); (repeat' (first | (refine Mix.lex_quiet0 rfl rfl rfl ?_; intro K hK; go_big_quiet_op; go_big_quiet_on) | (refine Mix.lex_quietG rfl rfl rfl (by with_reducible rfl) rfl rfl ?_; intro K hK; go_big_quiet_op; go_big_quiet_on) | ((first | refine Mix.lex_skipT rfl rfl rfl (by with_reducible rfl) ?_ | refine Mix.lex_skipF rfl rfl rfl (by with_reducible rfl) ?_ | refine Mix.lex_skipU rfl rfl rfl (by with_reducible rfl) ?_); simp only [Act.put, List.setIfInBounds_toArray, List.set_cons_succ, List.set_cons_zero]) | (refine Mix.lex_part rfl rfl rfl rfl (fun hq => ?_) (fun hq => ?_) <;> (fail_if_success (guard_hyp hq :ₛ true = true)) <;> (fail_if_success (guard_hyp hq :ₛ false = false)) <;> first | (exfalso; cases hq; done) | (exfalso; simp only [decide_eq_true_eq, decide_eq_false_iff_not, beq_iff_eq, beq_eq_false_iff_ne, ne_eq, Int.not_lt, Int.not_le] at hq; omega) | simp only [Act.put, List.setIfInBounds_toArray, List.set_cons_succ, List.set_cons_zero]))); all_goals (refine Mix.lex_nil ?_)))
      refine (HO u1).mono ?_
      rintro e u2 ⟨rfl, hu⟩
      have X2 := Lib.hid (X1.out.then_ext hu)
      have C2 := Lib.hid (C1.out.keep hu id)
      clear hu HO X1 C1
      go_upto_region 13 with fail
      obtain ⟨gb, hgb⟩ : ∃ x, x = u2.heap.size := ⟨_, rfl⟩
      obtain ⟨u3, hu3⟩ : ∃ v, v = u2.alloc (.cells #[.int .i64 (h.epoch : Nat), .int .i64 (h.side : Nat), .int .i64 (h.size : Nat), .int .i64 (h.first : Nat)] hdTy) := ⟨_, rfl⟩
      have B3 : Hid (Cs u3 gb hdTy h.cells) := by rw [hu3, hgb]; exact Cs.new _ _ _
      have X3 : Hid (Ext w u3) := by rw [hu3]; exact X2.out.alloc _
      have C3 : Hid (Cs u3 gs stTy (stCells r.g h0 (.pointer none) (.slice none 0 0))) := by rw [hu3]; exact C2.out.alloc _
      rw [← hu3, ← hgb]
      clear hu3 hgb X2 C2
      have b0 : ∀ ξ : X u3 No, ξ.v.cell? ⟨gb, 0, none⟩ = some (.int .i64 (h.epoch : Nat)) := Cs.x B3.out id 0
      have s1 : ∀ ξ : X u3 No, ξ.v.cell? ⟨gs, 1, none⟩ = some (.int .i64 (h0.epoch : Nat)) := Cs.x C3.out id 1
      (refine Mix.wp_draw [] 100 (Cl (u3) (No)) (by kernel_rfl) (by kernel_rfl) (Cl.drew_ (X.here u3 No)) ?_; (repeat' (first | (refine Mix.lex_quiet0 rfl rfl rfl ?_; intro K hK; go_big_quiet_op; go_big_quiet_on) | (refine Mix.lex_quietG rfl rfl rfl (by with_reducible rfl) rfl rfl ?_; intro K hK; go_big_quiet_op; go_big_quiet_on) | ((first | refine Mix.lex_skipT rfl rfl rfl (by with_reducible rfl) ?_ | refine Mix.lex_skipF rfl rfl rfl (by with_reducible rfl) ?_ | refine Mix.lex_skipU rfl rfl rfl (by with_reducible rfl) ?_); simp only [Act.put, List.setIfInBounds_toArray, List.set_cons_succ, List.set_cons_zero]) | (refine Mix.lex_part rfl rfl rfl rfl (fun hq => ?_) (fun hq => ?_) <;> (fail_if_success (guard_hyp hq :ₛ true = true)) <;> (fail_if_success (guard_hyp hq :ₛ false = false)) <;> first | (exfalso; cases hq; done) | (exfalso; simp only [decide_eq_true_eq, decide_eq_false_iff_not, beq_iff_eq, beq_eq_false_iff_ne, ne_eq, Int.not_lt, Int.not_le] at hq; omega) | simp only [Act.put, List.setIfInBounds_toArray, List.set_cons_succ, List.set_cons_zero]))))
      all_goals (refine Mix.lex_nil ?_)
      clear b0 s1
      obtain ⟨u4, hu4⟩ : ∃ v, v = u3.drew := ⟨_, rfl⟩
      have X4 : Hid (Ext w u4) := by rw [hu4]; exact X3.out.drew
      have B4 : Hid (Cs u4 gb hdTy h.cells) := by rw [hu4]; exact B3.out
      have C4 : Hid (Cs u4 gs stTy (stCells r.g h0 (.pointer none) (.slice none 0 0))) := by rw [hu4]; exact C3.out
      rw [← hu4]
      clear hu4 X3 B3 C3
      by_cases hlt2 : h0.epoch < h.epoch
      · have g4 : decide ((h0.epoch : Int) < (h.epoch : Int)) = true := decide_eq_true (by omega)
        have g4' : decide (h0.epoch < h.epoch) = true := decide_eq_true hlt2
        have HJ2 := Lib.hid (HJ1.out.trans (if_pos hlt2))
        have b0 : u4.cell? ⟨gb, 0, none⟩ = some (.int .i64 (h.epoch : Nat)) := B4.out.cell 0
        have b1 : u4.cell? ⟨gb, 1, none⟩ = some (.int .i64 (h.side : Nat)) := B4.out.cell 1
        have b2 : u4.cell? ⟨gb, 2, none⟩ = some (.int .i64 (h.size : Nat)) := B4.out.cell 2
        have b3 : u4.cell? ⟨gb, 3, none⟩ = some (.int .i64 (h.first : Nat)) := B4.out.cell 3
        have s1 : u4.cell? ⟨gs, 1, none⟩ = some (.int .i64 (h0.epoch : Nat)) := C4.out.cell 1
        have s2 : u4.cell? ⟨gs, 2, none⟩ = some (.int .i64 (h0.side : Nat)) := C4.out.cell 2
        have s3 : u4.cell? ⟨gs, 3, none⟩ = some (.int .i64 (h0.size : Nat)) := C4.out.cell 3
        have s4 : u4.cell? ⟨gs, 4, none⟩ = some (.int .i64 (h0.first : Nat)) := C4.out.cell 4
        have z1 := C4.out.frozen 1
        have z2 := C4.out.frozen 2
        have z3 := C4.out.frozen 3
        have z4 := C4.out.frozen 4
        go_wp2_with (first | ((first | refine Mix.wpList_guarded rfl ?_ | refine Mix.wp_still (by kernel_rfl) (by kernel_rfl) ?_); (repeat' (first | (refine Mix.lex_quiet0 rfl rfl rfl ?_; intro K hK; go_big_quiet_op; go_big_quiet_on) | (refine Mix.lex_quietG rfl rfl rfl (by with_reducible rfl) rfl rfl ?_; intro K hK; go_big_quiet_op; go_big_quiet_on) | ((first | refine Mix.lex_skipT rfl rfl rfl (by with_reducible rfl) ?_ | refine Mix.lex_skipF rfl rfl rfl (by with_reducible rfl) ?_ | refine Mix.lex_skipU rfl rfl rfl (by with_reducible rfl) ?_); simp only [Act.put, List.setIfInBounds_toArray, List.set_cons_succ, List.set_cons_zero]) | (refine Mix.lex_part rfl rfl rfl rfl (fun hq => ?_) (fun hq => ?_) <;> (fail_if_success (guard_hyp hq :ₛ true = true)) <;> (fail_if_success (guard_hyp hq :ₛ false = false)) <;> first | (exfalso; cases hq; done) | (exfalso; simp only [decide_eq_true_eq, decide_eq_false_iff_not, beq_iff_eq, beq_eq_false_iff_ne, ne_eq, Int.not_lt, Int.not_le] at hq; omega) | simp only [Act.put, List.setIfInBounds_toArray, List.set_cons_succ, List.set_cons_zero]))); all_goals (refine Mix.lex_nil ?_)))
        obtain ⟨u5, hu5⟩ : ∃ v, v = ((((u4.setCell ⟨gs, 1, none⟩ (.int .i64 (h.epoch : Nat))).setCell ⟨gs, 2, none⟩ (.int .i64 (h.side : Nat))).setCell ⟨gs, 3, none⟩ (.int .i64 (h.size : Nat))).setCell ⟨gs, 4, none⟩ (.int .i64 (h.first : Nat))) := ⟨_, rfl⟩
        have C5 : Hid (Cs u5 gs stTy (stCells r.g h (.pointer none) (.slice none 0 0))) := by
          have := (((C4.out.set_ 1 (.int .i64 (h.epoch : Nat))).set_ 2 (.int .i64 (h.side : Nat))).set_ 3 (.int .i64 (h.size : Nat))).set_ 4 (.int .i64 (h.first : Nat))
          simp only [List.setIfInBounds_toArray, List.set_cons_succ, List.set_cons_zero] at this
          rw [hu5]; exact this
        have X5 : Hid (Ext w u5) := by
          rw [hu5]
          exact (((X4.out.setCell (p := ⟨gs, 1, none⟩) (.inl Hgs.out) _).setCell (p := ⟨gs, 2, none⟩) (.inl Hgs.out) _).setCell (p := ⟨gs, 3, none⟩) (.inl Hgs.out) _).setCell (p := ⟨gs, 4, none⟩) (.inl Hgs.out) _
        rw [← hu5]
        clear hu5
        go_roundw
        case rel => exact ⟨j + 1, by omega, by go_num, by rw [HJ2.out]; exact C5.out, X5.out⟩
        case measure => simp [intOf]; omega
      · have g4 : decide ((h0.epoch : Int) < (h.epoch : Int)) = false := decide_eq_false (by omega)
        have g4' : decide (h0.epoch < h.epoch) = false := decide_eq_false hlt2
        have HJ2 := Lib.hid (HJ1.out.trans (if_neg hlt2))
        go_wp2_with (first | ((first | refine Mix.wpList_guarded rfl ?_ | refine Mix.wp_still (by kernel_rfl) (by kernel_rfl) ?_); (repeat' (first | (refine Mix.lex_quiet0 rfl rfl rfl ?_; intro K hK; go_big_quiet_op; go_big_quiet_on) | (refine Mix.lex_quietG rfl rfl rfl (by with_reducible rfl) rfl rfl ?_; intro K hK; go_big_quiet_op; go_big_quiet_on) | ((first | refine Mix.lex_skipT rfl rfl rfl (by with_reducible rfl) ?_ | refine Mix.lex_skipF rfl rfl rfl (by with_reducible rfl) ?_ | refine Mix.lex_skipU rfl rfl rfl (by with_reducible rfl) ?_); simp only [Act.put, List.setIfInBounds_toArray, List.set_cons_succ, List.set_cons_zero]) | (refine Mix.lex_part rfl rfl rfl rfl (fun hq => ?_) (fun hq => ?_) <;> (fail_if_success (guard_hyp hq :ₛ true = true)) <;> (fail_if_success (guard_hyp hq :ₛ false = false)) <;> first | (exfalso; cases hq; done) | (exfalso; simp only [decide_eq_true_eq, decide_eq_false_iff_not, beq_iff_eq, beq_eq_false_iff_ne, ne_eq, Int.not_lt, Int.not_le] at hq; omega) | simp only [Act.put, List.setIfInBounds_toArray, List.set_cons_succ, List.set_cons_zero]))); all_goals (refine Mix.lex_nil ?_)))
        go_roundw
        case rel => exact ⟨j + 1, by omega, by go_num, by rw [HJ2.out]; exact C4.out, X4.out⟩
        case measure => simp [intOf]; omega
    · obtain rfl : j = 2 := by omega
      have C5 : Hid (Cs wr gs stTy (stCells r.g H (.pointer none) (.slice none 0 0))) := by
        have := CJ.out
        rw [show selJ d.now 2 = H from HH.out] at this
        exact this
      have X5 := XJ
      clear CJ XJ
      have s1 : wr.cell? ⟨gs, 1, none⟩ = some (.int .i64 (H.epoch : Nat)) := C5.out.cell 1
      have s2 : ∀ ξ : X wr No, ξ.v.cell? ⟨gs, 2, none⟩ = some (.int .i64 (H.side : Nat)) := Cs.x C5.out id 2
      have ge : ((H.epoch : Int) == 0) = false := by rw [beq_eq_false_iff_ne]; omega
      go_wp2_with (first | ((first | refine Mix.wpList_guarded rfl ?_ | refine Mix.wp_still (by kernel_rfl) (by kernel_rfl) ?_); (repeat' (first | (refine Mix.lex_quiet0 rfl rfl rfl ?_; intro K hK; go_big_quiet_op; go_big_quiet_on) | (refine Mix.lex_quietG rfl rfl rfl (by with_reducible rfl) rfl rfl ?_; intro K hK; go_big_quiet_op; go_big_quiet_on) | ((first | refine Mix.lex_skipT rfl rfl rfl (by with_reducible rfl) ?_ | refine Mix.lex_skipF rfl rfl rfl (by with_reducible rfl) ?_ | refine Mix.lex_skipU rfl rfl rfl (by with_reducible rfl) ?_); simp only [Act.put, List.setIfInBounds_toArray, List.set_cons_succ, List.set_cons_zero]) | (refine Mix.lex_part rfl rfl rfl rfl (fun hq => ?_) (fun hq => ?_) <;> (fail_if_success (guard_hyp hq :ₛ true = true)) <;> (fail_if_success (guard_hyp hq :ₛ false = false)) <;> first | (exfalso; cases hq; done) | (exfalso; simp only [decide_eq_true_eq, decide_eq_false_iff_not, beq_iff_eq, beq_eq_false_iff_ne, ne_eq, Int.not_lt, Int.not_le] at hq; omega) | simp only [Act.put, List.setIfInBounds_toArray, List.set_cons_succ, List.set_cons_zero]))); all_goals (refine Mix.lex_nil ?_)))
      obtain ⟨q0, hq0⟩ : ∃ q, q = 2 + H.side * 21 := ⟨_, rfl⟩
      have Hq : Hid (q0 ≤ 23 ∧ (q0 : Int) = (2 : Int) + (H.side : Int) * 21) := by have := HFit.out.side; exact ⟨by omega, by omega⟩
      have HQ0 := Lib.hid hq0
      clear hq0
      obtain ⟨Cf, hCf⟩ : ∃ C : Nat → Str, C = catT d.now H.side := ⟨_, rfl⟩
      have HC0 : Hid (Cf 0 = []) := by rw [hCf]; rfl
      have HCs : Hid (∀ k, k < 21 → Cf (k + 1) = Cf k ++ d.now.getD (q0 + k) [] ∧ (Cf k).length = 340 * k) := fun k hk => by
        have hlt : 2 + H.side * 21 + k < d.now.length := by have := Hq.out.1; have := HQ0.out; have := HN.out; omega
        rw [hCf, HQ0.out, List.getD_eq_getElem?_getD, List.getElem?_eq_getElem hlt]
        exact ⟨catT_succ hlt, catT_len HW.out (by omega)⟩
      have HCl : Hid ((Cf 21).length = 7140) := by
        rw [hCf]
        exact catT_len HW.out (by have := Hq.out.1; have := HQ0.out; have := HN.out; omega)
      have HT2 : Hid ((Cf 21).take H.size = allT base) := by rw [hCf]; exact HT.out
      clear HT hCf s1
      obtain ⟨wa, rfl⟩ : ∃ x, x = wr := ⟨_, rfl⟩
      rw [show (((2 : Nat) : Int)) = (2 : Int) from rfl]
      go_loopw [64, 9] (fun i t wv => ∃ k : Nat, k ≤ 21 ∧ i = .int .i64 k ∧ t = S (Cf k) ∧ Ext wa wv) (fun i _ _ => 21 - (intOf i).toNat)
      case atStart => exact ⟨0, Nat.zero_le _, rfl, by rw [HC0.out], Only.refl _ _⟩
      case round =>
        obtain ⟨wv, rfl⟩ : ∃ x, x = wr := ⟨_, rfl⟩
        obtain ⟨k, hk, rfl, rfl, hxk⟩ := hrel
        have XK := Lib.hid hxk
        clear hxk
        by_cases hlt : k < 21
        · have glt : decide ((k : Int) < 21) = true := decide_eq_true (by omega)
          have glt' : decide (k < 21) = true := decide_eq_true hlt
          have HR := HRd.out wv (q0 + k) (X5.out.then_ext XK.out) (by have := Hq.out.1; omega)
          rw [show ((q0 + k : Nat) : Int) = (2 : Int) + (H.side : Int) * 21 + (k : Int) by have := Hq.out.2; omega] at HR
          have HCk := Lib.hid (HCs.out k hlt)
          have hsl := HL.out (q0 + k) (by have := Hq.out.1; omega)
          obtain ⟨sec, hsec⟩ : ∃ x, x = d.now.getD (q0 + k) [] := ⟨_, rfl⟩
          rw [← hsec] at HR HCk hsl
          clear hsec
          have hck := HCk.out.2
          obtain ⟨tk, htk⟩ : ∃ x, x = Cf k := ⟨_, rfl⟩
          rw [← htk] at HCk hck ⊢
          clear htk
          have hside := HFit.out.side
          have s2' : wv.cell? ⟨gs, 2, none⟩ = some (.int .i64 (H.side : Nat)) := s2 ⟨wv, XK.out⟩
          have hlen : tk.length + sec.length ≤ 1000000 := by omega
          have HHid := Lib.hid hck
          have HHid2 := Lib.hid hsl
          clear hck hsl
          go_wp2_with (first | ((first | refine Mix.wpList_guarded rfl ?_ | refine Mix.wp_still (by kernel_rfl) (by kernel_rfl) ?_); (repeat' (first | (refine Mix.lex_quiet0 rfl rfl rfl ?_; intro K hK; go_big_quiet_op; go_big_quiet_on) | (refine Mix.lex_quietG rfl rfl rfl (by with_reducible rfl) rfl rfl ?_; intro K hK; go_big_quiet_op; go_big_quiet_on) | ((first | refine Mix.lex_skipT rfl rfl rfl (by with_reducible rfl) ?_ | refine Mix.lex_skipF rfl rfl rfl (by with_reducible rfl) ?_ | refine Mix.lex_skipU rfl rfl rfl (by with_reducible rfl) ?_); simp only [Act.put, List.setIfInBounds_toArray, List.set_cons_succ, List.set_cons_zero]) | (refine Mix.lex_part rfl rfl rfl rfl (fun hq => ?_) (fun hq => ?_) <;> (fail_if_success (guard_hyp hq :ₛ true = true)) <;> (fail_if_success (guard_hyp hq :ₛ false = false)) <;> first | (exfalso; cases hq; done) | (exfalso; simp only [decide_eq_true_eq, decide_eq_false_iff_not, beq_iff_eq, beq_eq_false_iff_ne, ne_eq, Int.not_lt, Int.not_le] at hq; omega) | simp only [Act.put, List.setIfInBounds_toArray, List.set_cons_succ, List.set_cons_zero]))); all_goals (refine Mix.lex_nil ?_)))
          refine HR.mono ?_
          rintro e u1 ⟨rfl, hu⟩
          have X1 := Lib.hid (XK.out.then_ext hu)
          clear hu HR
          go_wp2_with (first | ((first | refine Mix.wpList_guarded rfl ?_ | refine Mix.wp_still (by kernel_rfl) (by kernel_rfl) ?_); (repeat' (first | (refine Mix.lex_quiet0 rfl rfl rfl ?_; intro K hK; go_big_quiet_op; go_big_quiet_on) | (refine Mix.lex_quietG rfl rfl rfl (by with_reducible rfl) rfl rfl ?_; intro K hK; go_big_quiet_op; go_big_quiet_on) | ((first | refine Mix.lex_skipT rfl rfl rfl (by with_reducible rfl) ?_ | refine Mix.lex_skipF rfl rfl rfl (by with_reducible rfl) ?_ | refine Mix.lex_skipU rfl rfl rfl (by with_reducible rfl) ?_); simp only [Act.put, List.setIfInBounds_toArray, List.set_cons_succ, List.set_cons_zero]) | (refine Mix.lex_part rfl rfl rfl rfl (fun hq => ?_) (fun hq => ?_) <;> (fail_if_success (guard_hyp hq :ₛ true = true)) <;> (fail_if_success (guard_hyp hq :ₛ false = false)) <;> first | (exfalso; cases hq; done) | (exfalso; simp only [decide_eq_true_eq, decide_eq_false_iff_not, beq_iff_eq, beq_eq_false_iff_ne, ne_eq, Int.not_lt, Int.not_le] at hq; omega) | simp only [Act.put, List.setIfInBounds_toArray, List.set_cons_succ, List.set_cons_zero]))); all_goals (refine Mix.lex_nil ?_)))
          go_roundw
          case rel => exact ⟨k + 1, by omega, by go_num, by rw [HCk.out.1], X1.out⟩
          case measure => simp [intOf]; omega
        · obtain rfl : k = 21 := by omega
          have hcl := HCl.out
          have XV := Lib.hid (X5.out.then_ext XK.out)
          have CV := Lib.hid (C5.out.keep XK.out id)
          have s3 : wv.cell? ⟨gs, 3, none⟩ = some (.int .i64 (H.size : Nat)) := CV.out.cell 3
          have hsz := HFit.out.size
          obtain ⟨t21, ht21⟩ : ∃ x, x = Cf 21 := ⟨_, rfl⟩
          rw [← ht21] at HT2 hcl ⊢
          clear ht21
          have hsz2 : H.size ≤ t21.length := by omega
          have HcL := Lib.hid hcl
          have HP := SParse_c (HM.out.ext XV.out) HB.out hbl
          clear hcl XK s2
          go_wp2_with (first | ((first | refine Mix.wpList_guarded rfl ?_ | refine Mix.wp_still (by kernel_rfl) (by kernel_rfl) ?_); (repeat' (first | (refine Mix.lex_quiet0 rfl rfl rfl ?_; intro K hK; go_big_quiet_op; go_big_quiet_on) | (refine Mix.lex_quietG rfl rfl rfl (by with_reducible rfl) rfl rfl ?_; intro K hK; go_big_quiet_op; go_big_quiet_on) | ((first | refine Mix.lex_skipT rfl rfl rfl (by with_reducible rfl) ?_ | refine Mix.lex_skipF rfl rfl rfl (by with_reducible rfl) ?_ | refine Mix.lex_skipU rfl rfl rfl (by with_reducible rfl) ?_); simp only [Act.put, List.setIfInBounds_toArray, List.set_cons_succ, List.set_cons_zero]) | (refine Mix.lex_part rfl rfl rfl rfl (fun hq => ?_) (fun hq => ?_) <;> (fail_if_success (guard_hyp hq :ₛ true = true)) <;> (fail_if_success (guard_hyp hq :ₛ false = false)) <;> first | (exfalso; cases hq; done) | (exfalso; simp only [decide_eq_true_eq, decide_eq_false_iff_not, beq_iff_eq, beq_eq_false_iff_ne, ne_eq, Int.not_lt, Int.not_le] at hq; omega) | simp only [Act.put, List.setIfInBounds_toArray, List.set_cons_succ, List.set_cons_zero]))); all_goals (refine Mix.lex_nil ?_)))
          rw [HT2.out]
          refine HP.mono ?_
          rintro e w5 ⟨pA, pc, rfl, hF⟩
          have F5 := Lib.hid hF
          have X6 := Lib.hid (XV.out.then_ext hF.ext)
          have C6 := Lib.hid (CV.out.keep hF.ext id)
          clear hF HP XV CV s3
          go_upto_region 30 with fail
          have s4 : ∀ ξ : X w5 No, ξ.v.cell? ⟨gs, 4, none⟩ = some (.int .i64 (H.first : Nat)) := Cs.x C6.out id 4
          have HSq := HSe.out
          have HLO : Hid (∀ v, Ext w v → Calls Try.prog 34 #[pt r.g, .int .i64 44, .int .i64 ((N : Int) - 44), .int .i64 (H.first : Nat)] v (OpRes v r.g 44 (N - 44) H.first (out, used))) := fun v hv => by
            have hf := HFit.out.fs
            have := Open_ok (HM.out.ext hv) (HD.out.ext hv) HDown.out HW.out 44 (N - 44) H.first (by omega) (by have := HN.out; omega) (by omega) (by omega)
            rw [show (N - 44 : Nat) = d.now.length - 44 by rw [HN.out], HSc.out, ← HN.out] at this
            rw [show ((N : Int) - 44) = ((N - 44 : Nat) : Int) by omega]
            exact this
          have gN : 50 ≤ N := h1
          refine Mix.wp_draw [2, 9] 100 (Cl w5 No) (by kernel_rfl) (by kernel_rfl) (Cl.drew_ (X.here w5 No)) ?_
          (repeat' (first | (refine Mix.lex_quiet0 rfl rfl rfl ?_; intro K hK; go_big_quiet_op; go_big_quiet_on) | (refine Mix.lex_quietG rfl rfl rfl (by with_reducible rfl) rfl rfl ?_; intro K hK; go_big_quiet_op; go_big_quiet_on) | ((first | refine Mix.lex_skipT rfl rfl rfl (by with_reducible rfl) ?_ | refine Mix.lex_skipF rfl rfl rfl (by with_reducible rfl) ?_ | refine Mix.lex_skipU rfl rfl rfl (by with_reducible rfl) ?_); simp only [Act.put, List.setIfInBounds_toArray, List.set_cons_succ, List.set_cons_zero]) | (refine Mix.lex_part rfl rfl rfl rfl (fun hq => ?_) (fun hq => ?_) <;> (fail_if_success (guard_hyp hq :ₛ true = true)) <;> (fail_if_success (guard_hyp hq :ₛ false = false)) <;> first | (exfalso; cases hq; done) | (exfalso; simp only [decide_eq_true_eq, decide_eq_false_iff_not, beq_iff_eq, beq_eq_false_iff_ne, ne_eq, Int.not_lt, Int.not_le] at hq; omega) | simp only [Act.put, List.setIfInBounds_toArray, List.set_cons_succ, List.set_cons_zero])))
          ((first | refine Mix.lex_goes0 rfl rfl ?_ | refine Mix.lex_goesG rfl rfl rfl (by with_reducible rfl) rfl ?_); intro K hK; go_simp)
          refine (HSq _ (X6.out.drew)).mono ?_
          rintro e u1 ⟨rfl, hu⟩
          have Y1 : Ext w5 u1 := (Only.refl No w5).drew.then_ext hu
          refine ⟨_, rfl, hK _ _ (fun _ => Cl.of Y1) ?_⟩
          clear hK K hu
          simp only [Act.put, List.setIfInBounds_toArray, List.set_cons_succ, List.set_cons_zero]
          (repeat' (first | (refine Mix.lex_quiet0 rfl rfl rfl ?_; intro K hK; go_big_quiet_op; go_big_quiet_on) | (refine Mix.lex_quietG rfl rfl rfl (by with_reducible rfl) rfl rfl ?_; intro K hK; go_big_quiet_op; go_big_quiet_on) | ((first | refine Mix.lex_skipT rfl rfl rfl (by with_reducible rfl) ?_ | refine Mix.lex_skipF rfl rfl rfl (by with_reducible rfl) ?_ | refine Mix.lex_skipU rfl rfl rfl (by with_reducible rfl) ?_); simp only [Act.put, List.setIfInBounds_toArray, List.set_cons_succ, List.set_cons_zero]) | (refine Mix.lex_part rfl rfl rfl rfl (fun hq => ?_) (fun hq => ?_) <;> (fail_if_success (guard_hyp hq :ₛ true = true)) <;> (fail_if_success (guard_hyp hq :ₛ false = false)) <;> first | (exfalso; cases hq; done) | (exfalso; simp only [decide_eq_true_eq, decide_eq_false_iff_not, beq_iff_eq, beq_eq_false_iff_ne, ne_eq, Int.not_lt, Int.not_le] at hq; omega) | simp only [Act.put, List.setIfInBounds_toArray, List.set_cons_succ, List.set_cons_zero])))
          ((first | refine Mix.lex_goes0 rfl rfl ?_ | refine Mix.lex_goesG rfl rfl rfl (by with_reducible rfl) rfl ?_); intro K hK; go_simp)
          refine (HLO.out _ (X6.out.then_ext Y1)).mono ?_
          rintro e u2 ⟨lg, oA, oc, ys, rfl, hlg, hLa, hDe, hys, hx⟩
          have Y2 : Ext w5 u2 := Y1.then_ext hx
          have Hlg : Hid (w.heap.size ≤ lg) := Nat.le_trans (X6.out.then_ext Y1).size hlg
          refine ⟨_, rfl, hK _ _ (fun _ => Cl.of Y2) ?_⟩
          clear hK K HLO HSq
          simp only [Act.put, List.setIfInBounds_toArray, List.set_cons_succ, List.set_cons_zero]
          (repeat' (first | (refine Mix.lex_quiet0 rfl rfl rfl ?_; intro K hK; go_big_quiet_op; go_big_quiet_on) | (refine Mix.lex_quietG rfl rfl rfl (by with_reducible rfl) rfl rfl ?_; intro K hK; go_big_quiet_op; go_big_quiet_on) | ((first | refine Mix.lex_skipT rfl rfl rfl (by with_reducible rfl) ?_ | refine Mix.lex_skipF rfl rfl rfl (by with_reducible rfl) ?_ | refine Mix.lex_skipU rfl rfl rfl (by with_reducible rfl) ?_); simp only [Act.put, List.setIfInBounds_toArray, List.set_cons_succ, List.set_cons_zero]) | (refine Mix.lex_part rfl rfl rfl rfl (fun hq => ?_) (fun hq => ?_) <;> (fail_if_success (guard_hyp hq :ₛ true = true)) <;> (fail_if_success (guard_hyp hq :ₛ false = false)) <;> first | (exfalso; cases hq; done) | (exfalso; simp only [decide_eq_true_eq, decide_eq_false_iff_not, beq_iff_eq, beq_eq_false_iff_ne, ne_eq, Int.not_lt, Int.not_le] at hq; omega) | simp only [Act.put, List.setIfInBounds_toArray, List.set_cons_succ, List.set_cons_zero])))
          refine Mix.lex_nil ?_
          have X8 := Lib.hid (X6.out.then_ext Y2)
          have C8 := Lib.hid (C6.out.keep Y2 id)
          have F8 := Lib.hid (F5.out.on Y2)
          have L8 := Lib.hid hLa
          have D8 := Lib.hid hDe
          have HYs := Lib.hid hys
          clear hlg hLa hDe hys hx X6 Y1 Y2 C6 F5 s4
          have y0 : u2.cell? ⟨gs, 5, none⟩ = some (.pointer none) := C8.out.cell 5
          have y1 : u2.cell? ⟨gs, 6, none⟩ = some (.slice none 0 0) := C8.out.cell 6
          have z0 := C8.out.frozen 5
          have z1 := C8.out.frozen 6
          go_upto_region 34 with fail
          obtain ⟨w9, hw9⟩ : ∃ v, v = (u2.setCell ⟨gs, 5, none⟩ (pt lg)).setCell ⟨gs, 6, none⟩ (.slice pA base.length pc) := ⟨_, rfl⟩
          have C9 : Hid (Cs w9 gs stTy (stCells r.g H (pt lg) (.slice pA base.length pc))) := by
            have := (C8.out.set_ 5 (pt lg)).set_ 6 (.slice pA base.length pc)
            simp only [List.setIfInBounds_toArray, List.set_cons_succ, List.set_cons_zero] at this
            rw [hw9]; exact this
          have O9 : Hid (Only (fun b => b = gs) u2 w9) := by rw [hw9]; exact ((Only.refl _ _).at_ 5 _).at_ 6 _
          have X9 : Hid (Ext w w9) := X8.out.trans O9.out fun b hb e => by have := Hgs.out; omega
          rw [← hw9]
          clear hw9 y0 y1 z0 z1
          go_wp2_with (first | ((first | refine Mix.wpList_guarded rfl ?_ | refine Mix.wp_still (by kernel_rfl) (by kernel_rfl) ?_); (repeat' (first | (refine Mix.lex_quiet0 rfl rfl rfl ?_; intro K hK; go_big_quiet_op; go_big_quiet_on) | (refine Mix.lex_quietG rfl rfl rfl (by with_reducible rfl) rfl rfl ?_; intro K hK; go_big_quiet_op; go_big_quiet_on) | ((first | refine Mix.lex_skipT rfl rfl rfl (by with_reducible rfl) ?_ | refine Mix.lex_skipF rfl rfl rfl (by with_reducible rfl) ?_ | refine Mix.lex_skipU rfl rfl rfl (by with_reducible rfl) ?_); simp only [Act.put, List.setIfInBounds_toArray, List.set_cons_succ, List.set_cons_zero]) | (refine Mix.lex_part rfl rfl rfl rfl (fun hq => ?_) (fun hq => ?_) <;> (fail_if_success (guard_hyp hq :ₛ true = true)) <;> (fail_if_success (guard_hyp hq :ₛ false = false)) <;> first | (exfalso; cases hq; done) | (exfalso; simp only [decide_eq_true_eq, decide_eq_false_iff_not, beq_iff_eq, beq_eq_false_iff_ne, ne_eq, Int.not_lt, Int.not_le] at hq; omega) | simp only [Act.put, List.setIfInBounds_toArray, List.set_cons_succ, List.set_cons_zero]))); all_goals (refine Mix.lex_nil ?_)))
          have HB9 : Hid (ys.length ≤ 120 ∧ out.flatten.length ≤ 120) := by
            have k1 := scan_sum H.first ((d.now.drop 44).take (d.now.length - 44)) 0 [] [] 0
            have k2 := (scan_bound H.first ((d.now.drop 44).take (d.now.length - 44)) 0 [] [] 0 1000 (fun x hx => by cases hx) (by have := HN.out; simp; omega)).2
            rw [HSc.out] at k1 k2
            have k3 := congrArg List.length HYs.out
            have := HN.out
            simp only [List.length_map, List.length_nil, List.flatten_nil, List.length_take, List.length_drop] at k1 k2 k3
            exact ⟨by omega, by omega⟩
          obtain ⟨wb, rfl⟩ : ∃ x, x = w9 := ⟨_, rfl⟩
          go_loopw [129] (fun i wr => ∃ j : Nat, j ≤ ys.length ∧ i = .int .i64 j ∧ ∃ A c L, L = foldR base (out.take j) ∧ Cs wr gs stTy (stCells r.g H (pt lg) (.slice A L.length c)) ∧ wr.ownsRow 0 chT 3 (.slice A L.length c) L.length (L.flatMap chF.enc) ∧ Only (fun b => b = gs) u2 wr ∧ Ext w wr) (fun i _ => ys.length - (intOf i).toNat)
          case atStart => exact ⟨0, Nat.zero_le _, rfl, pA, pc, base, rfl, C9.out, own_keep F8.out.own O9.out fun b hb e => own_ne_cs F8.out.own C8.out (by decide) b hb e, O9.out, X9.out⟩
          case round =>
            obtain ⟨wv, rfl⟩ : ∃ x, x = wr := ⟨_, rfl⟩
            obtain ⟨j, hj, rfl, A1, c1, L, hL, hcs, hown, ho, hx⟩ := hrel
            have HL1 := Lib.hid hL
            have CJ := Lib.hid hcs
            have WJ := Lib.hid hown
            have OJ := Lib.hid ho
            have XJ := Lib.hid hx
            clear hL hcs hown ho hx C9 O9 X9
            by_cases hlt : j < ys.length
            · have glt : decide ((j : Int) < (ys.length : Int)) = true := decide_eq_true (by omega)
              have glt' : decide (j < ys.length) = true := decide_eq_true hlt
              have hDR : DedR wv oA ys.length ys := ⟨SlR.of_own (T := dedF) (by decide) (own_keep D8.out.row.own OJ.out fun b hb e => own_ne_cs D8.out.row.own C8.out (by decide) b hb e), fun y hy => SlR.of_own (T := chF) (by decide) (own_keep (D8.out.own y hy) OJ.out fun b hb e => own_ne_cs (D8.out.own y hy) C8.out (by decide) b hb e)⟩
              obtain ⟨b, o, y, hAe, hyx, hyR, hyc⟩ := ded_get hDR hlt
              subst hAe
              obtain ⟨⟨yA, yc⟩, dd⟩ := y
              have q1 : wv.cell? ⟨b, o + j, none⟩ = some (.slice yA dd.length yc) := hyc ⟨wv, Only.refl _ _⟩
              have s6 : wv.cell? ⟨gs, 6, none⟩ = some (.slice A1 L.length c1) := CJ.out.cell 6
              have hdd : out[j]? = some dd := by rw [← HYs.out, List.getElem?_map, hyx]; rfl
              have hLl : L.length ≤ 2000 := by
                have k1 := foldR_len (out.take j) base
                have k2 : out.flatten.length = (out.take j).flatten.length + (out.drop j).flatten.length := by rw [← List.length_append, ← List.flatten_append, List.take_append_drop]
                have := HB9.out.2
                rw [HL1.out]; omega
              have hdl : dd.length ≤ 2000 := by
                have k2 : dd.length ≤ out.flatten.length := (List.sublist_flatten_of_mem (List.mem_of_getElem? hdd)).length_le
                have := HB9.out.2
                omega
              have HA := Apply_c (w := wv) (A := A1) (B := yA) (n := L.length) (m := dd.length) (c := c1) (d := yc) (xs := L) (ys := dd) (SlR.of_own (T := chF) (by decide) WJ.out) (hDR.2 _ (List.mem_of_getElem? hyx)) (by omega) (by omega) (by rw [HL1.out]; exact foldR_rise HB.out.rise _)
              have HNx := Lib.hid (foldR_snoc (base := base) hdd)
              have hys120 := HB9.out.1
              clear hyR hyc hDR
              go_wp2_with (first | ((first | refine Mix.wpList_guarded rfl ?_ | refine Mix.wp_still (by kernel_rfl) (by kernel_rfl) ?_); (repeat' (first | (refine Mix.lex_quiet0 rfl rfl rfl ?_; intro K hK; go_big_quiet_op; go_big_quiet_on) | (refine Mix.lex_quietG rfl rfl rfl (by with_reducible rfl) rfl rfl ?_; intro K hK; go_big_quiet_op; go_big_quiet_on) | ((first | refine Mix.lex_skipT rfl rfl rfl (by with_reducible rfl) ?_ | refine Mix.lex_skipF rfl rfl rfl (by with_reducible rfl) ?_ | refine Mix.lex_skipU rfl rfl rfl (by with_reducible rfl) ?_); simp only [Act.put, List.setIfInBounds_toArray, List.set_cons_succ, List.set_cons_zero]) | (refine Mix.lex_part rfl rfl rfl rfl (fun hq => ?_) (fun hq => ?_) <;> (fail_if_success (guard_hyp hq :ₛ true = true)) <;> (fail_if_success (guard_hyp hq :ₛ false = false)) <;> first | (exfalso; cases hq; done) | (exfalso; simp only [decide_eq_true_eq, decide_eq_false_iff_not, beq_iff_eq, beq_eq_false_iff_ne, ne_eq, Int.not_lt, Int.not_le] at hq; omega) | simp only [Act.put, List.setIfInBounds_toArray, List.set_cons_succ, List.set_cons_zero]))); all_goals (refine Mix.lex_nil ?_)))
              refine HA.mono ?_
              rintro e u4 ⟨A2, c2, rfl, hF⟩
              have F2 := Lib.hid hF
              have C2 := Lib.hid (CJ.out.keep hF.ext id)
              have t6 : u4.cell? ⟨gs, 6, none⟩ = some (.slice A1 L.length c1) := C2.out.cell 6
              have z6 := C2.out.frozen 6
              clear hF HA q1 s6
              go_wp2_with (first | ((first | refine Mix.wpList_guarded rfl ?_ | refine Mix.wp_still (by kernel_rfl) (by kernel_rfl) ?_); (repeat' (first | (refine Mix.lex_quiet0 rfl rfl rfl ?_; intro K hK; go_big_quiet_op; go_big_quiet_on) | (refine Mix.lex_quietG rfl rfl rfl (by with_reducible rfl) rfl rfl ?_; intro K hK; go_big_quiet_op; go_big_quiet_on) | ((first | refine Mix.lex_skipT rfl rfl rfl (by with_reducible rfl) ?_ | refine Mix.lex_skipF rfl rfl rfl (by with_reducible rfl) ?_ | refine Mix.lex_skipU rfl rfl rfl (by with_reducible rfl) ?_); simp only [Act.put, List.setIfInBounds_toArray, List.set_cons_succ, List.set_cons_zero]) | (refine Mix.lex_part rfl rfl rfl rfl (fun hq => ?_) (fun hq => ?_) <;> (fail_if_success (guard_hyp hq :ₛ true = true)) <;> (fail_if_success (guard_hyp hq :ₛ false = false)) <;> first | (exfalso; cases hq; done) | (exfalso; simp only [decide_eq_true_eq, decide_eq_false_iff_not, beq_iff_eq, beq_eq_false_iff_ne, ne_eq, Int.not_lt, Int.not_le] at hq; omega) | simp only [Act.put, List.setIfInBounds_toArray, List.set_cons_succ, List.set_cons_zero]))); all_goals (refine Mix.lex_nil ?_)))
              obtain ⟨u5, hu5⟩ : ∃ v, v = u4.setCell ⟨gs, 6, none⟩ (.slice A2 (applyL L dd).length c2) := ⟨_, rfl⟩
              have C5 : Hid (Cs u5 gs stTy (stCells r.g H (pt lg) (.slice A2 (applyL L dd).length c2))) := by
                have := C2.out.set_ 6 (.slice A2 (applyL L dd).length c2)
                simp only [List.setIfInBounds_toArray, List.set_cons_succ, List.set_cons_zero] at this
                rw [hu5]; exact this
              have O45 : Only (fun b => b = gs) u4 u5 := by rw [hu5]; exact (Only.refl _ _).at_ 6 _
              have O5 : Hid (Only (fun b => b = gs) u2 u5) := (OJ.out.then_ext F2.out.ext).trans O45 fun _ _ e => e
              have X5 : Hid (Ext w u5) := (XJ.out.then_ext F2.out.ext).trans O45 fun b hb e => by have := Hgs.out; omega
              have W5 : Hid (u5.ownsRow 0 chT 3 (.slice A2 (applyL L dd).length c2) (applyL L dd).length ((applyL L dd).flatMap chF.enc)) := own_keep F2.out.own O45 fun b hb e => own_ne_cs F2.out.own C2.out (by decide) b hb e
              rw [← hu5]
              clear hu5 O45
              go_roundw
              case rel => exact ⟨j + 1, by omega, by go_num, A2, c2, applyL L dd, by rw [HNx.out, HL1.out], C5.out, W5.out, O5.out, X5.out⟩
              case measure => simp [intOf]; omega
            · obtain rfl : j = ys.length := by omega
              have glt : decide ((ys.length : Int) < (ys.length : Int)) = false := decide_eq_false (by omega)
              go_wp2_with (first | ((first | refine Mix.wpList_guarded rfl ?_ | refine Mix.wp_still (by kernel_rfl) (by kernel_rfl) ?_); (repeat' (first | (refine Mix.lex_quiet0 rfl rfl rfl ?_; intro K hK; go_big_quiet_op; go_big_quiet_on) | (refine Mix.lex_quietG rfl rfl rfl (by with_reducible rfl) rfl rfl ?_; intro K hK; go_big_quiet_op; go_big_quiet_on) | ((first | refine Mix.lex_skipT rfl rfl rfl (by with_reducible rfl) ?_ | refine Mix.lex_skipF rfl rfl rfl (by with_reducible rfl) ?_ | refine Mix.lex_skipU rfl rfl rfl (by with_reducible rfl) ?_); simp only [Act.put, List.setIfInBounds_toArray, List.set_cons_succ, List.set_cons_zero]) | (refine Mix.lex_part rfl rfl rfl rfl (fun hq => ?_) (fun hq => ?_) <;> (fail_if_success (guard_hyp hq :ₛ true = true)) <;> (fail_if_success (guard_hyp hq :ₛ false = false)) <;> first | (exfalso; cases hq; done) | (exfalso; simp only [decide_eq_true_eq, decide_eq_false_iff_not, beq_iff_eq, beq_eq_false_iff_ne, ne_eq, Int.not_lt, Int.not_le] at hq; omega) | simp only [Act.put, List.setIfInBounds_toArray, List.set_cons_succ, List.set_cons_zero]))); all_goals (refine Mix.lex_nil ?_)))
              go_ret2
              refine ⟨gs, lg, A1, c1, rfl, ⟨?_, ?_, ?_⟩, Hgs.out, Hlg.out, XJ.out⟩
              all_goals
                have e1 : L = foldR base out := by
                  have := HL1.out
                  rw [List.take_of_length_le (by rw [← HYs.out]; simp)] at this
                  exact this
                subst e1
              · exact CJ.out
              · show LogAt wv ⟨lg, 44, d.now.length - 44, H.first, used⟩ r.g
                rw [← HN.out]
                exact L8.out.keep OJ.out fun e => Cs.ne_ L8.out C8.out (by decide) e
              · exact WJ.out
end Go.Proofs.Ytaphmmobmadfoaa
