/- Put together: Disk5, Clone, Repeat, Disk6. -/
import Derived.Test.YtaphmmobmadfoaaMc08
import Derived.Test.YtaphmmobmadfoaaProg
import Derived.Test.YtaphmmobmadfoaaMc04
import Derived.Laws.MakeOwn
import Derived.Test.YtaphmmobmadfoaaShelf
namespace Go.Proofs.Ytaphmmobmadfoaa
open Go Go.RowKit
theorem keepFrom_at (K : Nat) (kept : List Str) (l : List (Nat × Str)) (k : Nat) (h : k < l.length) : keepFrom K kept (l.drop k) k = keepFrom K (if keeps K k then kept.set l[k].1 l[k].2 else kept) (l.drop (k + 1)) (k + 1) := by
  rw [List.drop_eq_getElem_cons h]; rfl
theorem keeps_eq (K k : Nat) (hK : K < 18446744073709551616) : (bits .and .u64 ((K : Int) / 2 ^ (k % 64)) 1 == 1) = keeps K k := by
  have hlt : K / 2 ^ (k % 64) < 18446744073709551616 := Nat.lt_of_le_of_lt (Nat.div_le_self _ _) hK
  have e : ((K : Int) / 2 ^ (k % 64)) = ((K / 2 ^ (k % 64) : Nat) : Int) := by simp
  rw [e]
  unfold keeps
  generalize K / 2 ^ (k % 64) = m at hlt
  rw [and_one_u64 _ (by omega) (by omega), Bool.eq_iff_iff]
  simp
  omega
theorem waitCell {w : World} {e : TypeId} {g n c B : Nat} {l : List (Nat × Str)} (h : w.ownsRow B e 2 (.slice (some ⟨g, 0, none⟩) n c) n (l.flatMap turnC)) {k : Nat} (hk : k < l.length) :
    w.cell? ⟨g, k * 2, none⟩ = some (.int .i64 (l[k].1 : Int)) ∧ w.cell? ⟨g, k * 2 + 1, none⟩ = some (S l[k].2) := by
  have hs := SlR.of_own (T := ⟨2, turnC, fun _ => rfl⟩) (by simp) h
  obtain ⟨b, o, x, e, _, hx, hc⟩ := hs.get (k := k) (by have := hs.1; omega)
  injection e with e
  injection e with e1 e2
  subst e1; subst e2
  rw [List.getElem?_eq_getElem hk] at hx
  injection hx with hx
  subst hx
  exact ⟨by simpa using hc 0 _ rfl, by simpa using hc 1 _ rfl⟩
set_option maxHeartbeats 2000000 in
theorem Restart_c {w : World} {r : DkR} {d : Dk} (h : DiskAt w r d) (K : Nat) (hK : K < 18446744073709551616) (hw : d.wait.length ≤ 1000000) :
    Calls Try.prog 24 #[pt r.g, .int .u64 K] w (DkRes w r (d.restarted K) (.tuple #[])) := by
  have c2 := h.cs.cell 2
  simp only [List.getElem?_toArray, List.getElem?_cons_succ, List.getElem?_cons_zero] at c2
  obtain ⟨Aw, cw, hwv⟩ := own_slice h.wait
  rw [hwv] at c2
  have H := Lib.hid h
  have HV := Lib.hid hwv
  clear h hwv
  go_enter Try.func24, Try.ntmps24
  go_wp2_with (first | ((first | refine Mix.wpList_guarded rfl ?_ | refine Mix.wp_still (by kernel_rfl) (by kernel_rfl) ?_); (repeat' (first | (refine Mix.lex_quiet0 rfl rfl rfl ?_; intro K hK; go_big_quiet_op; go_big_quiet_on) | (refine Mix.lex_quietG rfl rfl rfl (by with_reducible rfl) rfl rfl ?_; intro K hK; go_big_quiet_op; go_big_quiet_on) | ((first | refine Mix.lex_skipT rfl rfl rfl (by with_reducible rfl) ?_ | refine Mix.lex_skipF rfl rfl rfl (by with_reducible rfl) ?_ | refine Mix.lex_skipU rfl rfl rfl (by with_reducible rfl) ?_); simp only [Act.put, List.setIfInBounds_toArray, List.set_cons_succ, List.set_cons_zero]) | (refine Mix.lex_part rfl rfl rfl rfl (fun hq => ?_) (fun hq => ?_) <;> (fail_if_success (guard_hyp hq :ₛ true = true)) <;> (fail_if_success (guard_hyp hq :ₛ false = false)) <;> first | (exfalso; cases hq; done) | (exfalso; simp only [decide_eq_true_eq, decide_eq_false_iff_not, beq_iff_eq, beq_eq_false_iff_ne, ne_eq, Int.not_lt, Int.not_le] at hq; omega) | simp only [Act.put, List.setIfInBounds_toArray, List.set_cons_succ, List.set_cons_zero]))); all_goals (refine Mix.lex_nil ?_)))
  go_loopw [11] (fun i wr => ∃ k : Nat, k ≤ d.wait.length ∧ i = .int .i64 k ∧ ∃ kd, keepFrom K d.kept d.wait 0 = keepFrom K kd (d.wait.drop k) k ∧ kd.length = d.now.length ∧
      wr.ownsRow 0 9 1 (.slice (some ⟨r.kg, 0, none⟩) d.now.length r.kc) d.now.length (kd.map S) ∧ ∃ ξ : X w (fun b => b = r.kg), wr = ξ.v) (fun i _ => d.wait.length - (intOf i).toNat)
  case atStart => exact ⟨0, Nat.zero_le _, rfl, d.kept, rfl, H.out.fine.len, H.out.kept, X.here _ _, rfl⟩
  case round =>
    obtain ⟨k, hk, rfl, kd, hF, hkd, hown, ξ, rfl⟩ := hrel
    have HF := Lib.hid hF
    have HO := Lib.hid hown
    have HKD := Lib.hid hkd
    clear hF hown hkd
    have hkw : Hid (∀ g, r.wv.ownBlock = some g → ¬ g = r.kg) := fun g hg e => by
      obtain ⟨cur, hcur⟩ := Cs.of_own H.out.kept
      exact own_ne H.out.wait hcur (by decide) (by rw [hg, e])
    by_cases hlt : k < d.wait.length
    · obtain ⟨gw, rfl⟩ : ∃ g, Aw = some ⟨g, 0, none⟩ := by
        have := H.out.wait.2
        rw [HV.out] at this
        rcases this with ⟨h1, h2⟩ | ⟨g, cap, cur, h1, _⟩
        · omega
        · injection h1 with h1; exact ⟨g, h1⟩
      have hcells : ∀ η : X w (fun b => b = r.kg), η.v.cell? ⟨gw, k * 2, none⟩ = some (.int .i64 (d.wait[k].1 : Int)) ∧ η.v.cell? ⟨gw, k * 2 + 1, none⟩ = some (S d.wait[k].2) := fun η => by
        have := own_keep H.out.wait η.h hkw.out
        rw [HV.out] at this
        exact waitCell this hlt
      have e1 := fun η => (hcells η).1
      have e2 := fun η => (hcells η).2
      clear hcells
      go_wp2_with (first | ((first | refine Mix.wpList_guarded rfl ?_ | refine Mix.wp_still (by kernel_rfl) (by kernel_rfl) ?_); (repeat' (first | (refine Mix.lex_quiet0 rfl rfl rfl ?_; intro K hK; go_big_quiet_op; go_big_quiet_on) | (refine Mix.lex_quietG rfl rfl rfl (by with_reducible rfl) rfl rfl ?_; intro K hK; go_big_quiet_op; go_big_quiet_on) | ((first | refine Mix.lex_skipT rfl rfl rfl (by with_reducible rfl) ?_ | refine Mix.lex_skipF rfl rfl rfl (by with_reducible rfl) ?_ | refine Mix.lex_skipU rfl rfl rfl (by with_reducible rfl) ?_); simp only [Act.put, List.setIfInBounds_toArray, List.set_cons_succ, List.set_cons_zero]) | (refine Mix.lex_part rfl rfl rfl rfl (fun hq => ?_) (fun hq => ?_) <;> (fail_if_success (guard_hyp hq :ₛ true = true)) <;> (fail_if_success (guard_hyp hq :ₛ false = false)) <;> first | (exfalso; cases hq; done) | (exfalso; simp only [decide_eq_true_eq, decide_eq_false_iff_not, beq_iff_eq, beq_eq_false_iff_ne, ne_eq, Int.not_lt, Int.not_le] at hq; omega) | simp only [Act.put, List.setIfInBounds_toArray, List.set_cons_succ, List.set_cons_zero]))); all_goals (refine Mix.lex_nil ?_)))
      · have hkeep : keeps K k = true := by rw [← keeps_eq K k hK]; assumption
        have HT : Hid (keepFrom K d.kept d.wait 0 = keepFrom K (kd.set d.wait[k].1 d.wait[k].2) (d.wait.drop (k + 1)) (k + 1)) := by
          rw [Hid, HF.out, keepFrom_at K kd d.wait k hlt, hkeep]; rfl
        have hat : d.wait[k].1 < d.now.length := H.out.fine.at_ _ (List.getElem_mem hlt)
        obtain ⟨w1, hw1⟩ : ∃ w1, w1 = ξ.v.alloc (.cells #[.int .i64 (d.wait[k].1 : Int), S d.wait[k].2] 96) := ⟨_, rfl⟩
        have O1 : Hid (Only (fun b => b = r.kg) w w1) := by rw [hw1]; exact ξ.h.alloc _
        have N1 : Hid (Cs w1 ξ.v.heap.size 96 #[.int .i64 (d.wait[k].1 : Int), S d.wait[k].2]) := by rw [hw1]; exact Cs.new _ _ _
        have HO1 : Hid (w1.ownsRow 0 9 1 (.slice (some ⟨r.kg, 0, none⟩) d.now.length r.kc) d.now.length (kd.map S)) := by rw [hw1]; exact HO.out.alloc _
        rw [← hw1]
        clear hw1 e1 e2
        have e0 := (H.out.cs.keep O1.out (fun e => H.out.gk e.symm)).x (F := No) id 0
        have n0 := N1.out.x (F := No) id 0
        have n1 := N1.out.x (F := No) id 1
        simp only [List.getElem?_toArray, List.getElem?_cons_succ, List.getElem?_cons_zero] at e0 n0 n1
        (refine Mix.wp_draw [9] 9 (Cl (w1) (No)) (by kernel_rfl) (by kernel_rfl) (Cl.of (Only.refl _ _).drew) ?_; (repeat' (first | (refine Mix.lex_quiet0 rfl rfl rfl ?_; intro K hK; go_big_quiet_op; go_big_quiet_on) | (refine Mix.lex_quietG rfl rfl rfl (by with_reducible rfl) rfl rfl ?_; intro K hK; go_big_quiet_op; go_big_quiet_on) | ((first | refine Mix.lex_skipT rfl rfl rfl (by with_reducible rfl) ?_ | refine Mix.lex_skipF rfl rfl rfl (by with_reducible rfl) ?_ | refine Mix.lex_skipU rfl rfl rfl (by with_reducible rfl) ?_); simp only [Act.put, List.setIfInBounds_toArray, List.set_cons_succ, List.set_cons_zero]) | (refine Mix.lex_part rfl rfl rfl rfl (fun hq => ?_) (fun hq => ?_) <;> (fail_if_success (guard_hyp hq :ₛ true = true)) <;> (fail_if_success (guard_hyp hq :ₛ false = false)) <;> first | (exfalso; cases hq; done) | (exfalso; simp only [decide_eq_true_eq, decide_eq_false_iff_not, beq_iff_eq, beq_eq_false_iff_ne, ne_eq, Int.not_lt, Int.not_le] at hq; omega) | simp only [Act.put, List.setIfInBounds_toArray, List.set_cons_succ, List.set_cons_zero]))))
        have hkl : d.wait[k].1 < (kd.map S).length := by rw [List.length_map, HKD.out]; exact hat
        have s1 : w1.cell? ⟨r.kg, d.wait[k].1, none⟩ = some ((kd.map S)[d.wait[k].1]'hkl) := by
          rw [HO1.out.cellAt _ (by omega), List.getElem?_eq_getElem hkl]
        have s2 := HO1.out.frozenAt d.wait[k].1
        ((first | refine Mix.lex_goes0 rfl rfl ?_ | refine Mix.lex_goesG rfl rfl rfl (by with_reducible rfl) rfl ?_); intro K hK; go_simp)
        refine hK _ _ (fun hne => absurd rfl hne) ?_
        clear hK K
        simp only [Act.put, List.setIfInBounds_toArray, List.set_cons_succ, List.set_cons_zero]
        refine Mix.lex_nil ?_
        go_wp2
        go_roundw
        case rel =>
          have ho := own_set HO1.out d.wait[k].1 hat (S d.wait[k].2)
          rw [← List.map_set] at ho
          exact ⟨k + 1, by omega, by go_num, kd.set d.wait[k].1 d.wait[k].2, HT.out, by rw [List.length_set, HKD.out], ho, ⟨_, (O1.out.setCell (p := ⟨r.kg, _, none⟩) (.inr rfl) _).drew⟩, rfl⟩
        case measure => simp [intOf]; omega
      · have hkeep : keeps K k = false := by rw [← keeps_eq K k hK]; assumption
        have HT : Hid (keepFrom K d.kept d.wait 0 = keepFrom K kd (d.wait.drop (k + 1)) (k + 1)) := by
          rw [Hid, HF.out, keepFrom_at K kd d.wait k hlt, hkeep]; rfl
        go_roundw
        case rel => exact ⟨k + 1, by omega, by go_num, kd, HT.out, HKD.out, HO.out.alloc _, ⟨_, ξ.h.alloc _⟩, rfl⟩
        case measure => simp [intOf]; omega
    · have hke : k = d.wait.length := by omega
      have HT : Hid (kd = keepFrom K d.kept d.wait 0) := by rw [Hid, HF.out, hke, List.drop_length]; rfl
      clear hke
      have C1 := Lib.hid (H.out.cs.keep ξ.h (fun e => H.out.gk e.symm))
      have N1 := Lib.hid (own_keep H.out.now ξ.h (fun g hg e => H.out.ne (by simp [Value.ownBlock] at hg; omega)))
      have d0 := C1.out.x (F := No) id 0
      have d1 := C1.out.x (F := No) id 1
      simp only [List.getElem?_toArray, List.getElem?_cons_succ, List.getElem?_cons_zero] at d0 d1
      go_upto_region 6 with fail
      (refine Mix.wp_draw [8] 8 (Cl (ξ.v) (No)) (by kernel_rfl) (by kernel_rfl) (Cl.of (Only.refl _ _).drew) ?_; (repeat' (first | (refine Mix.lex_quiet0 rfl rfl rfl ?_; intro K hK; go_big_quiet_op; go_big_quiet_on) | (refine Mix.lex_quietG rfl rfl rfl (by with_reducible rfl) rfl rfl ?_; intro K hK; go_big_quiet_op; go_big_quiet_on) | ((first | refine Mix.lex_skipT rfl rfl rfl (by with_reducible rfl) ?_ | refine Mix.lex_skipF rfl rfl rfl (by with_reducible rfl) ?_ | refine Mix.lex_skipU rfl rfl rfl (by with_reducible rfl) ?_); simp only [Act.put, List.setIfInBounds_toArray, List.set_cons_succ, List.set_cons_zero]) | (refine Mix.lex_part rfl rfl rfl rfl (fun hq => ?_) (fun hq => ?_) <;> (fail_if_success (guard_hyp hq :ₛ true = true)) <;> (fail_if_success (guard_hyp hq :ₛ false = false)) <;> first | (exfalso; cases hq; done) | (exfalso; simp only [decide_eq_true_eq, decide_eq_false_iff_not, beq_iff_eq, beq_eq_false_iff_ne, ne_eq, Int.not_lt, Int.not_le] at hq; omega) | simp only [Act.put, List.setIfInBounds_toArray, List.set_cons_succ, List.set_cons_zero]))))
      refine Mix.lex_goes0 rfl rfl ?_
      intro K' hK'
      refine goes_copy (g := r.ng) (n := d.now.length) Try.underlying64 str_info rfl rfl rfl H.out.fine.pos (own_keep N1.out (Only.refl No _).drew fun _ _ h => h) (rd_of_own (own_keep HO.out (Only.refl No _).drew fun _ _ h => h)) (one_S _) ?_
      intro w2 hk2 hx2
      refine hK' _ _ (fun hne => absurd rfl hne) ?_
      clear hK' K' d0 d1
      simp only [Act.put, List.setIfInBounds_toArray, List.set_cons_succ, List.set_cons_zero]
      refine Mix.lex_nil ?_
      have N2 := Lib.hid hk2
      have O2 : Hid (Only (fun b => b = r.ng) ξ.v w2) := ((Only.refl _ _).drew).trans hx2 fun _ _ h => h
      clear hk2 hx2
      have C2 := Lib.hid (C1.out.keep O2.out (fun e => H.out.gn e.symm))
      have f2 := C2.out.cell 2
      have f3 := C2.out.cell 3
      have f4 := C2.out.cell 4
      simp only [List.getElem?_toArray, List.getElem?_cons_succ, List.getElem?_cons_zero] at f2 f3 f4
      have z2 := C2.out.frozen 2
      have z3 := C2.out.frozen 3
      have z4 := C2.out.frozen 4
      rw [HV.out] at f2
      go_wp2
      go_end0
      have hf := H.out.fine
      have O3 : Only (fun b => b = r.g) w2 (((w2.setCell ⟨r.g, 2, none⟩ (.slice none 0 0)).setCell ⟨r.g, 4, none⟩ (.bool false)).setCell ⟨r.g, 3, none⟩ (.int .i64 (-1))) := (((Only.refl _ _).at_ 2 _).at_ 4 _).at_ 3 _
      have hl : (keepFrom K d.kept d.wait 0).length = d.now.length := by rw [length_keepFrom, hf.len]
      refine ⟨rfl, { r with wv := .slice none 0 0 }, ⟨?_, ?_, ?_, ?_, H.out.ne, ?_⟩, rfl, ?_, ?_⟩
      · have := ((C2.out.set_ 2 (.slice none 0 0)).set_ 4 (.bool false)).set_ 3 (.int .i64 (-1))
        simp only [List.setIfInBounds_toArray, List.set_cons_succ, List.set_cons_zero] at this
        simpa [Dk.restarted, DkR.cells, hl] using this
      · have := own_keep (own_keep HO.out O2.out (fun g hg e => H.out.ne (by simp [Value.ownBlock] at hg; omega))) O3 (fun g hg e => H.out.gk (by simp [Value.ownBlock] at hg; omega))
        rw [HT.out] at this
        simpa [Dk.restarted, hl] using this
      · have := own_keep N2.out O3 (fun g hg e => H.out.gn (by simp [Value.ownBlock] at hg; omega))
        rw [HT.out] at this
        simpa [Dk.restarted, hl] using this
      · exact World.ownsRow_nil _ _ _ _
      · exact ⟨rfl, by simpa [Dk.restarted, hl] using hf.pos, by simpa [Dk.restarted, hl] using hf.most, by simp [Dk.restarted], by simp [Dk.restarted], by simp [Dk.restarted]⟩
      · have a1 : Only r.fp w ξ.v := ξ.h.weak fun b _ e => .inr (.inl e)
        have a2 : Only r.fp w w2 := a1.trans O2.out fun b _ e => .inr (.inr (.inl e))
        exact a2.trans O3 fun b _ e => .inl e
      · intro b hb
        rcases hb with h | h | h | h
        · exact .inl (.inl h)
        · exact .inl (.inr (.inl h))
        · exact .inl (.inr (.inr (.inl h)))
        · simp [Value.ownBlock] at h
end Go.Proofs.Ytaphmmobmadfoaa

namespace Go.Proofs.Ytaphmmobmadfoaa
open Go Go.RowKit
theorem string_info : (Try.prog.info? 9).map (fun i => (i.zero, i.size, i.bytes)) = some (some (S []), 1, 16) := by kernel_rfl
theorem string_ty : Ety Try.prog 64 9 1 := Ety.mk' Try.underlying64 string_info rfl (by omega) (by omega)
theorem CloneStrs_c {w : World} {A : Option Addr} {n c : Nat} {cs : List Value} (h : Rd w A n 1 cs) (h1 : ∀ u ∈ cs, u.oneCell' = true) (hA : A = none → n = 0) (hn : n ≤ 1000000) :
    Calls Try.prog 28 #[.slice A n c] w fun e w' => ∃ A' c', e = .returned (.slice A' n c') ∧ w'.ownsRow 0 9 1 (.slice A' n c') n cs ∧ Ext w w' ∧ ∀ g, (Value.slice A' n c').ownBlock = some g → w.heap.size ≤ g := by
  have h2 := fun (W : World) => Lib.run_eql_slice_nil (P := Try.prog) W 64 9 A n c 0 0 Try.underlying64
  rcases A with _ | ad
  · obtain rfl := hA rfl
    obtain rfl : cs = [] := List.eq_nil_of_length_eq_zero (by simpa using h.1)
    go_enter Try.func28, Try.ntmps28
    go_wp2
    go_ret
    exact ⟨none, 0, rfl, World.ownsRow_nil _ _ _ _, Only.refl _ _, fun g hg => by simp [Value.ownBlock] at hg⟩
  · have H := Lib.hid h
    clear h
    go_enter Try.func28, Try.ntmps28
    go_wp2_with (at_builtin; go_must (refine wpList_append (v := .slice (some ⟨w.heap.size, 0, none⟩) 0 0) (n := 0) (xs := []) rfl string_ty rfl rfl rfl (own_empty w _ _) (H.out.alloc _) h1 (by omega) ?_); intro A' c' w5 hown5 hg5 hb5)
    go_ret
    rw [Nat.zero_add] at hown5 hb5
    have hx : Ext w w5 := ((Only.refl _ _).alloc (.cells #[] 9)).grown hg5 (fun g hg => by simp [Value.ownBlock] at hg; left; omega)
    refine ⟨A', c', ?_, by simpa using hown5, hx, fun g hg => ?_⟩
    · simp [Nat.zero_add]
    · rcases hb5 with h | h <;> rw [h] at hg <;> simp [Value.ownBlock] at hg <;> omega
end Go.Proofs.Ytaphmmobmadfoaa

namespace Go.Proofs.Ytaphmmobmadfoaa
open Go Go.RowKit
theorem str_info1 : (Try.prog.info? 9).map (·.size) = some 1 := by kernel_rfl
theorem make_strs (n : Nat) (hn : n ≤ 1000000) (w : World) : (Instr.makeSlice 64 (.int .i64 (n : Int)) (.int .i64 (n : Int))).run Try.prog w =
    .ok (.slice (some ⟨w.heap.size, 0, none⟩) n n) (w.alloc (.cells (List.replicate n (S [])).toArray 9)) := by
  obtain ⟨i0, hi, hz, h1, h2⟩ := info_parts string_info
  have hb : (i0.bytes : Int) * (n : Int) ≤ 281474976710656 := by rw [h2]; omega
  have hr := run_make (P := Try.prog) w 64 9 i0 (S []) Try.underlying64 hi hz .i64 .i64 n n (by omega) (by omega) hb (by omega)
  simp only [Int.toNat_natCast] at hr
  rw [hr, h1]
  have : madeCells (S []).cells (n * 1) = (List.replicate n (S [])).toArray := by
    apply Array.ext
    · simp [madeCells]
    · intro i h1 h2
      simp [madeCells, Value.cells, Nat.mod_one]
  rw [this]
theorem Mul_one (n : Nat) (hn : n ≤ 1000000) (w : World) : Calls Try.prog 48 #[.int .u64 1, .int .u64 n] w fun e w' => e = .returned (.tuple #[.int .u64 0, .int .u64 n]) ∧ w = w' := by
  refine (Try.bits_Mul 1 n (by omega) (by omega) w).mono fun e w' ⟨he, hw⟩ => ⟨?_, hw.symm⟩
  rw [he, Nat.one_mul, Nat.div_eq_of_lt (by omega), Nat.mod_eq_of_lt (by omega)]
  rfl
theorem rep_at {n k : Nat} {s : Str} {j : Nat} {u : Value} (h : (List.replicate n (S s) ++ List.replicate k (S []))[j]? = some u) (hj : j < n) : u = S s := by
  rw [List.getElem?_append_left (by simpa using hj)] at h
  simp [hj] at h
  exact h.symm
theorem one_rep (q : Nat) (s : Str) : ∀ u ∈ List.replicate q (S s), u.oneCell' = true := by
  intro u hu
  rw [List.eq_of_mem_replicate hu]; rfl
set_option maxRecDepth 100000 in
set_option maxHeartbeats 1000000 in
theorem Repeat_c {w : World} {b n : Nat} {s : Str} (hc : w.cell? ⟨b, 0, none⟩ = some (S s)) (hn : n ≤ 1000) (hn0 : 1 ≤ n) :
    Calls Try.prog 26 #[.slice (some ⟨b, 0, none⟩) 1 1, .int .i64 (n : Int)] w fun e w' => ∃ g, e = .returned (.slice (some ⟨g, 0, none⟩) n n) ∧ Cs w' g 9 (List.replicate n (S s)).toArray ∧ Ext w w' ∧ w.heap.size ≤ g := by
  have hmk := make_strs n (by omega)
  have HC := Lib.hid hc
  clear hc
  go_enter Try.func26, Try.ntmps26
  go_upto_region 7 with (first | (go_at_call 48; refine (Mul_one n (by omega) _).mono ?_; rintro e w' ⟨rfl, rfl⟩) | (refine Mix.wpList_guarded rfl ?_; (repeat' (first | (refine Mix.lex_quiet0 rfl rfl rfl ?_; intro K hK; go_big_quiet_op; go_big_quiet_on) | (refine Mix.lex_quietG rfl rfl rfl (by with_reducible rfl) rfl rfl ?_; intro K hK; go_big_quiet_op; go_big_quiet_on) | ((first | refine Mix.lex_skipT rfl rfl rfl (by with_reducible rfl) ?_ | refine Mix.lex_skipF rfl rfl rfl (by with_reducible rfl) ?_ | refine Mix.lex_skipU rfl rfl rfl (by with_reducible rfl) ?_); simp only [Act.put, List.setIfInBounds_toArray, List.set_cons_succ, List.set_cons_zero]) | (refine Mix.lex_part rfl rfl rfl rfl (fun hq => ?_) (fun hq => ?_) <;> (fail_if_success (guard_hyp hq :ₛ true = true)) <;> (fail_if_success (guard_hyp hq :ₛ false = false)) <;> first | (exfalso; cases hq; done) | (exfalso; simp only [decide_eq_true_eq, decide_eq_false_iff_not, beq_iff_eq, beq_eq_false_iff_ne, ne_eq, Int.not_lt, Int.not_le] at hq; omega) | simp only [Act.put, List.setIfInBounds_toArray, List.set_cons_succ, List.set_cons_zero]))); all_goals (refine Mix.lex_nil ?_)) | (refine Mix.wp_still (by kernel_rfl) (by kernel_rfl) ?_; (repeat' (first | (refine Mix.lex_quiet0 rfl rfl rfl ?_; intro K hK; go_big_quiet_op; go_big_quiet_on) | (refine Mix.lex_quietG rfl rfl rfl (by with_reducible rfl) rfl rfl ?_; intro K hK; go_big_quiet_op; go_big_quiet_on) | ((first | refine Mix.lex_skipT rfl rfl rfl (by with_reducible rfl) ?_ | refine Mix.lex_skipF rfl rfl rfl (by with_reducible rfl) ?_ | refine Mix.lex_skipU rfl rfl rfl (by with_reducible rfl) ?_); simp only [Act.put, List.setIfInBounds_toArray, List.set_cons_succ, List.set_cons_zero]) | (refine Mix.lex_part rfl rfl rfl rfl (fun hq => ?_) (fun hq => ?_) <;> (fail_if_success (guard_hyp hq :ₛ true = true)) <;> (fail_if_success (guard_hyp hq :ₛ false = false)) <;> first | (exfalso; cases hq; done) | (exfalso; simp only [decide_eq_true_eq, decide_eq_false_iff_not, beq_iff_eq, beq_eq_false_iff_ne, ne_eq, Int.not_lt, Int.not_le] at hq; omega) | simp only [Act.put, List.setIfInBounds_toArray, List.set_cons_succ, List.set_cons_zero]))); all_goals (refine Mix.lex_nil ?_)))
  all_goals try (exfalso; simp only [decide_eq_true_eq, decide_eq_false_iff_not, beq_iff_eq, beq_eq_false_iff_ne, ne_eq, Int.not_lt, Int.not_le, Bool.not_eq_true, Bool.not_eq_false, Bool.or_eq_true, Bool.or_eq_false_iff, Bool.and_eq_true, Bool.and_eq_false_iff, Bool.not_eq_eq_eq_not, Bool.not_true, Bool.not_false] at *; omega)
  refine Mix.wp_plain [2] (fun _ => True) trivial ?_
  (repeat' (first | (refine Mix.lex_quiet0 rfl rfl rfl ?_; intro K hK; go_big_quiet_op; go_big_quiet_on) | (refine Mix.lex_quietG rfl rfl rfl (by with_reducible rfl) rfl rfl ?_; intro K hK; go_big_quiet_op; go_big_quiet_on) | ((first | refine Mix.lex_skipT rfl rfl rfl (by with_reducible rfl) ?_ | refine Mix.lex_skipF rfl rfl rfl (by with_reducible rfl) ?_ | refine Mix.lex_skipU rfl rfl rfl (by with_reducible rfl) ?_); simp only [Act.put, List.setIfInBounds_toArray, List.set_cons_succ, List.set_cons_zero]) | (refine Mix.lex_part rfl rfl rfl rfl (fun hq => ?_) (fun hq => ?_) <;> (fail_if_success (guard_hyp hq :ₛ true = true)) <;> (fail_if_success (guard_hyp hq :ₛ false = false)) <;> first | (exfalso; cases hq; done) | (exfalso; simp only [decide_eq_true_eq, decide_eq_false_iff_not, beq_iff_eq, beq_eq_false_iff_ne, ne_eq, Int.not_lt, Int.not_le] at hq; omega) | simp only [Act.put, List.setIfInBounds_toArray, List.set_cons_succ, List.set_cons_zero])))
  refine Mix.lex_goes0 rfl rfl ?_
  intro K hK
  refine goes_copy_row (cur := List.replicate n (S [])) (cs := [S s]) Try.underlying64 str_info1 rfl rfl rfl (Cs.new w 9 _) (by simp [Nat.min_def]; omega) (fun j u hu => ?_) (by simp; omega) (by simp [Value.oneCell']) ?_
  · match j, hu with
    | 0, hu =>
      obtain rfl : S s = u := by simpa using hu
      exact cell?_alloc_of _ _ _ HC.out
  intro w1 h1 hx1
  refine hK _ _ (fun _ => trivial) ?_
  clear hK K
  simp only [Act.put, List.setIfInBounds_toArray, List.set_cons_succ, List.set_cons_zero]
  (repeat' (first | (refine Mix.lex_quiet0 rfl rfl rfl ?_; intro K hK; go_big_quiet_op; go_big_quiet_on) | (refine Mix.lex_quietG rfl rfl rfl (by with_reducible rfl) rfl rfl ?_; intro K hK; go_big_quiet_op; go_big_quiet_on) | ((first | refine Mix.lex_skipT rfl rfl rfl (by with_reducible rfl) ?_ | refine Mix.lex_skipF rfl rfl rfl (by with_reducible rfl) ?_ | refine Mix.lex_skipU rfl rfl rfl (by with_reducible rfl) ?_); simp only [Act.put, List.setIfInBounds_toArray, List.set_cons_succ, List.set_cons_zero]) | (refine Mix.lex_part rfl rfl rfl rfl (fun hq => ?_) (fun hq => ?_) <;> (fail_if_success (guard_hyp hq :ₛ true = true)) <;> (fail_if_success (guard_hyp hq :ₛ false = false)) <;> first | (exfalso; cases hq; done) | (exfalso; simp only [decide_eq_true_eq, decide_eq_false_iff_not, beq_iff_eq, beq_eq_false_iff_ne, ne_eq, Int.not_lt, Int.not_le] at hq; omega) | simp only [Act.put, List.setIfInBounds_toArray, List.set_cons_succ, List.set_cons_zero])))
  refine Mix.lex_nil ?_
  have C1 : Hid (Cs w1 w.heap.size 9 (List.replicate 1 (S s) ++ List.replicate (n - 1) (S [])).toArray) := by
    have e : (List.replicate n (S [])).take 0 ++ [S s] ++ (List.replicate n (S [])).drop (0 + [S s].length) = List.replicate 1 (S s) ++ List.replicate (n - 1) (S []) := by simp [List.drop_replicate]
    rw [e] at h1; exact h1
  have X1 : Hid (Only (fun b => b = w.heap.size) w w1) := ((Only.refl _ _).alloc _).trans hx1 fun b hb e => e
  clear h1 hx1
  go_wp2
  go_loopw [8] (fun i wr => ∃ m : Nat, 1 ≤ m ∧ m ≤ n ∧ i = .int .i64 m ∧ Cs wr w.heap.size 9 (List.replicate m (S s) ++ List.replicate (n - m) (S [])).toArray ∧ Only (fun b => b = w.heap.size) w wr) (fun i _ => n - (intOf i).toNat)
  case atStart => exact ⟨1, Nat.le_refl _, hn0, rfl, C1.out, X1.out⟩
  case round =>
    obtain ⟨m, hm1, hm, rfl, hC, hX⟩ := hrel
    have HX := Lib.hid hX
    have HCs := Lib.hid hC
    clear hC hX C1 X1
    by_cases hlt : m < n
    · go_upto_region 9 with fail
      refine Mix.wp_draw [7] 100 (fun _ => True) (by kernel_rfl) (by kernel_rfl) trivial ?_
      (repeat' (first | (refine Mix.lex_quiet0 rfl rfl rfl ?_; intro K hK; go_big_quiet_op; go_big_quiet_on) | (refine Mix.lex_quietG rfl rfl rfl (by with_reducible rfl) rfl rfl ?_; intro K hK; go_big_quiet_op; go_big_quiet_on) | ((first | refine Mix.lex_skipT rfl rfl rfl (by with_reducible rfl) ?_ | refine Mix.lex_skipF rfl rfl rfl (by with_reducible rfl) ?_ | refine Mix.lex_skipU rfl rfl rfl (by with_reducible rfl) ?_); simp only [Act.put, List.setIfInBounds_toArray, List.set_cons_succ, List.set_cons_zero]) | (refine Mix.lex_part rfl rfl rfl rfl (fun hq => ?_) (fun hq => ?_) <;> (fail_if_success (guard_hyp hq :ₛ true = true)) <;> (fail_if_success (guard_hyp hq :ₛ false = false)) <;> first | (exfalso; cases hq; done) | (exfalso; simp only [decide_eq_true_eq, decide_eq_false_iff_not, beq_iff_eq, beq_eq_false_iff_ne, ne_eq, Int.not_lt, Int.not_le] at hq; omega) | simp only [Act.put, List.setIfInBounds_toArray, List.set_cons_succ, List.set_cons_zero])))
      refine Mix.lex_goes0 rfl rfl ?_
      intro K hK
      have hmin : Nat.min m (n - m) ≤ m := Nat.min_le_left _ _
      have hmin2 : Nat.min m (n - m) ≤ n - m := Nat.min_le_right _ _
      have hpos : 1 ≤ Nat.min m (n - m) := Nat.le_min.2 ⟨by omega, by omega⟩
      obtain ⟨q, hq⟩ : ∃ q, q = Nat.min m (n - m) := ⟨_, rfl⟩
      rw [← hq] at hmin hmin2 hpos
      refine goes_copy_row (cur := List.replicate m (S s) ++ List.replicate (n - m) (S [])) (cs := List.replicate q (S s)) Try.underlying64 str_info1 rfl rfl rfl HCs.out.drew (by rw [List.length_replicate]; exact hq) (fun j u hu => ?_) (by simp; omega) (one_rep q s) ?_
      · have hj : j < q := by have := (List.getElem?_eq_some_iff.1 hu).1; simpa using this
        rw [Nat.zero_add, HCs.out.drew.cell, List.getElem?_toArray, List.getElem?_append_left (by simp; omega)]
        simp [show j < m by omega]
        simp [hj] at hu
        exact hu
      intro w2 h2 hx2
      refine hK _ _ (fun _ => trivial) ?_
      clear hK K
      simp only [Act.put, List.setIfInBounds_toArray, List.set_cons_succ, List.set_cons_zero]
      have C2 : Hid (Cs w2 w.heap.size 9 (List.replicate (m + q) (S s) ++ List.replicate (n - (m + q)) (S [])).toArray) := by
        have e : (List.replicate m (S s) ++ List.replicate (n - m) (S [])).take m ++ List.replicate q (S s) ++ (List.replicate m (S s) ++ List.replicate (n - m) (S [])).drop (m + (List.replicate q (S s)).length) = List.replicate (m + q) (S s) ++ List.replicate (n - (m + q)) (S []) := by
          rw [List.take_left' (by simp), List.replicate_append_replicate, List.drop_append]
          simp [List.drop_replicate, Nat.sub_sub]
        rw [e] at h2; exact h2
      have X2 : Hid (Only (fun b => b = w.heap.size) w w2) := (HX.out.drew).trans hx2 fun b hb e => e
      clear h2 hx2
      simp only [List.length_replicate]
      clear hq
      (repeat' (first | (refine Mix.lex_quiet0 rfl rfl rfl ?_; intro K hK; go_big_quiet_op; go_big_quiet_on) | (refine Mix.lex_quietG rfl rfl rfl (by with_reducible rfl) rfl rfl ?_; intro K hK; go_big_quiet_op; go_big_quiet_on) | ((first | refine Mix.lex_skipT rfl rfl rfl (by with_reducible rfl) ?_ | refine Mix.lex_skipF rfl rfl rfl (by with_reducible rfl) ?_ | refine Mix.lex_skipU rfl rfl rfl (by with_reducible rfl) ?_); simp only [Act.put, List.setIfInBounds_toArray, List.set_cons_succ, List.set_cons_zero]) | (refine Mix.lex_part rfl rfl rfl rfl (fun hq => ?_) (fun hq => ?_) <;> (fail_if_success (guard_hyp hq :ₛ true = true)) <;> (fail_if_success (guard_hyp hq :ₛ false = false)) <;> first | (exfalso; cases hq; done) | (exfalso; simp only [decide_eq_true_eq, decide_eq_false_iff_not, beq_iff_eq, beq_eq_false_iff_ne, ne_eq, Int.not_lt, Int.not_le] at hq; omega) | simp only [Act.put, List.setIfInBounds_toArray, List.set_cons_succ, List.set_cons_zero])))
      refine Mix.lex_nil ?_
      go_wp2
      go_roundw
      case rel => exact ⟨m + q, by omega, by omega, by go_num, C2.out, X2.out⟩
      case measure => simp [intOf]; omega
    · go_wp2
      go_ret
      have hmn : m = n := by omega
      subst hmn
      exact ⟨w.heap.size, rfl, by simpa using HCs.out, HX.out.weak fun b hb e => by omega, Nat.le_refl _⟩
end Go.Proofs.Ytaphmmobmadfoaa

namespace Go.Proofs.Ytaphmmobmadfoaa
open Go Go.RowKit
def Dk.fresh (n : Nat) : Dk := ⟨List.replicate n (full []), List.replicate n (full []), [], -1, false⟩
@[go_sem] theorem disk_build (A B : Option Addr) (n c m d : Nat) (w : World) : (Instr.build 70 #[(0, .slice A n c), (1, .slice B m d), (3, .int .i64 (-1))]).run Try.prog w =
    .ok (.agg #[.slice A n c, .slice B m d, .slice none 0 0, .int .i64 (-1), .bool false]) w := run_build w 70 _ _ (by kernel_rfl)
theorem New_bad (i : Int) (hi : i < 1 ∨ 120 < i) (w : World) :
    Calls Try.prog 8 #[.int .i64 i] w fun e w' => e = .returned (.tuple #[.pointer none, E 1]) ∧ Ext w w' := by
  go_enter Try.func8, Try.ntmps8
  go_wp2_with (first | ((first | refine Mix.wpList_guarded rfl ?_ | refine Mix.wp_still (by kernel_rfl) (by kernel_rfl) ?_); (repeat' (first | (refine Mix.lex_quiet0 rfl rfl rfl ?_; intro K hK; go_big_quiet_op; go_big_quiet_on) | (refine Mix.lex_quietG rfl rfl rfl (by with_reducible rfl) rfl rfl ?_; intro K hK; go_big_quiet_op; go_big_quiet_on) | ((first | refine Mix.lex_skipT rfl rfl rfl (by with_reducible rfl) ?_ | refine Mix.lex_skipF rfl rfl rfl (by with_reducible rfl) ?_ | refine Mix.lex_skipU rfl rfl rfl (by with_reducible rfl) ?_); simp only [Act.put, List.setIfInBounds_toArray, List.set_cons_succ, List.set_cons_zero]) | (refine Mix.lex_part rfl rfl rfl rfl (fun hq => ?_) (fun hq => ?_) <;> (fail_if_success (guard_hyp hq :ₛ true = true)) <;> (fail_if_success (guard_hyp hq :ₛ false = false)) <;> first | (exfalso; cases hq; done) | (exfalso; simp only [decide_eq_true_eq, decide_eq_false_iff_not, beq_iff_eq, beq_eq_false_iff_ne, ne_eq, Int.not_lt, Int.not_le] at hq; omega) | simp only [Act.put, List.setIfInBounds_toArray, List.set_cons_succ, List.set_cons_zero]))); all_goals (refine Mix.lex_nil ?_)))
  all_goals first
    | (go_ret2; exact ⟨rfl, Only.refl _ _⟩)
    | (exfalso; simp only [decide_eq_true_eq, decide_eq_false_iff_not, beq_iff_eq, beq_eq_false_iff_ne, ne_eq, Int.not_lt, Int.not_le, Bool.not_eq_true, Bool.not_eq_false, Bool.or_eq_true, Bool.or_eq_false_iff, Bool.and_eq_true, Bool.and_eq_false_iff, Bool.not_eq_eq_eq_not, Bool.not_true, Bool.not_false] at *; omega)
set_option maxHeartbeats 1000000 in
theorem New_ok (n : Nat) (h1 : 1 ≤ n) (h2 : n ≤ 120) (w : World) :
    Calls Try.prog 8 #[.int .i64 n] w fun e w' => ∃ r, e = .returned (.tuple #[pt r.g, .nilIface]) ∧ DiskAt w' r (Dk.fresh n) ∧ Ext w w' ∧ ∀ b, r.fp b → w.heap.size ≤ b := by
  go_enter Try.func8, Try.ntmps8
  go_upto_region 3 with (first | (refine Mix.wpList_guarded rfl ?_; (repeat' (first | (refine Mix.lex_quiet0 rfl rfl rfl ?_; intro K hK; go_big_quiet_op; go_big_quiet_on) | (refine Mix.lex_quietG rfl rfl rfl (by with_reducible rfl) rfl rfl ?_; intro K hK; go_big_quiet_op; go_big_quiet_on) | ((first | refine Mix.lex_skipT rfl rfl rfl (by with_reducible rfl) ?_ | refine Mix.lex_skipF rfl rfl rfl (by with_reducible rfl) ?_ | refine Mix.lex_skipU rfl rfl rfl (by with_reducible rfl) ?_); simp only [Act.put, List.setIfInBounds_toArray, List.set_cons_succ, List.set_cons_zero]) | (refine Mix.lex_part rfl rfl rfl rfl (fun hq => ?_) (fun hq => ?_) <;> (fail_if_success (guard_hyp hq :ₛ true = true)) <;> (fail_if_success (guard_hyp hq :ₛ false = false)) <;> first | (exfalso; cases hq; done) | (exfalso; simp only [decide_eq_true_eq, decide_eq_false_iff_not, beq_iff_eq, beq_eq_false_iff_ne, ne_eq, Int.not_lt, Int.not_le] at hq; omega) | simp only [Act.put, List.setIfInBounds_toArray, List.set_cons_succ, List.set_cons_zero]))); all_goals (refine Mix.lex_nil ?_)))
  all_goals try (exfalso; simp only [decide_eq_true_eq, decide_eq_false_iff_not, beq_iff_eq, beq_eq_false_iff_ne, ne_eq, Int.not_lt, Int.not_le, Bool.not_eq_true, Bool.not_eq_false, Bool.or_eq_true, Bool.or_eq_false_iff, Bool.and_eq_true, Bool.and_eq_false_iff, Bool.not_eq_eq_eq_not, Bool.not_true, Bool.not_false] at *; omega)
  go_wp2_with fail
  refine (full_c [] (by simp) _).mono ?_
  rintro e w1 ⟨rfl, hx1⟩
  go_wp2_with fail
  refine (Repeat_c (w := w1.alloc (.cells #[S (full [])] 9)) (s := full []) (n := n) ?_ (by omega) h1).mono ?_
  · rw [(Cs.new w1 9 _).cell]; rfl
  rintro e w2 ⟨kg, rfl, hk2, hx2, hkg⟩
  have X2 : Hid (Ext w w2) := (hx1.alloc _).then_ext hx2
  have KG : Hid (w.heap.size ≤ kg) := by
    have := hx1.size
    simp at hkg
    exact Nat.le_trans this (by omega)
  clear hx1 hx2 hkg
  have K2 := Lib.hid hk2
  clear hk2
  have kept2 : Hid (w2.ownsRow 0 9 1 (.slice (some ⟨kg, 0, none⟩) n n) n ((List.replicate n (full [])).map S)) := by
    refine ⟨by simp, .inr ⟨kg, n, _, rfl, Nat.zero_le _, K2.out, Nat.le_refl _, by simp [maxLen]; omega, by simp, ?_⟩⟩
    simp
  go_wp2_with fail
  refine (CloneStrs_c (rd_of_own kept2.out) (one_S _) (by simp) (by omega)).mono ?_
  rintro e w3 ⟨A', c', rfl, hown3, hx3, hfr3⟩
  obtain ⟨ng, rfl⟩ : ∃ g, A' = some ⟨g, 0, none⟩ := by
    rcases hown3.2 with ⟨q1, q2⟩ | ⟨g, cap, cur, q1, _⟩
    · omega
    · injection q1 with q1; exact ⟨g, q1⟩
  have N3 := Lib.hid hown3
  have X3 := Lib.hid hx3
  have NG : Hid (w2.heap.size ≤ ng) := hfr3 ng rfl
  clear hown3 hx3 hfr3
  go_wp2
  go_ret2
  have hX : Ext w3 (w3.alloc (.cells #[.slice (some ⟨kg, 0, none⟩) n n, .slice (some ⟨ng, 0, none⟩) n c', .slice none 0 0, .int .i64 (-1), .bool false] 70)) := (Only.refl _ _).alloc _
  have hkl : kg < w2.heap.size := K2.out.lt
  have s2 := X2.out.size
  have s3 := X3.out.size
  have hng := NG.out
  have hkg := KG.out
  refine ⟨⟨w3.heap.size, kg, n, ng, c', .slice none 0 0⟩, rfl, ⟨?_, ?_, ?_, ?_, ?_, ?_⟩, (X2.out.then_ext X3.out).then_ext hX, ?_⟩
  · have := Cs.new w3 70 #[.slice (some ⟨kg, 0, none⟩) n n, .slice (some ⟨ng, 0, none⟩) n c', .slice none 0 0, .int .i64 (-1), .bool false]
    simpa [Dk.fresh, DkR.cells] using this
  · have := own_keep (own_keep kept2.out X3.out fun _ _ h => h) hX fun _ _ h => h
    simpa [Dk.fresh] using this
  · have := own_keep N3.out hX fun _ _ h => h
    simpa [Dk.fresh] using this
  · exact World.ownsRow_nil _ _ _ _
  · show kg ≠ ng
    omega
  · exact ⟨rfl, by simp [Dk.fresh]; omega, by simp [Dk.fresh]; omega, by simp [Dk.fresh], by simp [Dk.fresh], by simp [Dk.fresh]⟩
  · intro b hb
    rcases hb with h | h | h | h
    · simp at h; omega
    · simp at h; omega
    · simp at h; omega
    · simp [Value.ownBlock] at h
end Go.Proofs.Ytaphmmobmadfoaa
