/- Put together: Split, Types, Name, Fld, Mks, MkM, MkH, Kp, Bdy, Grp, Aut, Stem. -/
import Derived.Test.YtnhaekifcieeoaaPk02
import Derived.Test.YtnhaekifcieeoaaPk01
import Derived.Test.YtnhaekifcieeoaaProg
import Derived.Lib.FieldsP
import Derived.Lib.DecodeN
import Derived.Lib.Replace
import Derived.Shelf.GgClosure.Gives
import Derived.Shelf.Abstract
import Derived.Laws.ResultCell
namespace Go.Proofs.Ytnhaekifcieeoaa
open Go Go.RowKit
def headApp (p : Str) : List Str → List Str
  | h :: t => (p ++ h) :: t
  | [] => [p]
theorem splB_app (c x : UInt8) (s : Str) : splB c (x :: s) = if x = c then [] :: splB c s else headApp [x] (splB c s) := by
  rw [splB_cons]
  split
  · rfl
  · cases splB c s <;> rfl
theorem headApp_two (p q : Str) (l : List Str) : headApp p (headApp q l) = headApp (p ++ q) l := by
  cases l <;> simp [headApp]
theorem headApp_nil {l : List Str} (h : l ≠ []) : headApp [] l = l := by
  cases l with
  | nil => exact absurd rfl h
  | cons a l => rfl
theorem take_drop_snoc {s : Str} {f i : Nat} (hf : f ≤ i) (hi : i < s.length) : (s.take (i + 1)).drop f = (s.take i).drop f ++ [s[i]] := by
  rw [List.take_add_one, List.getElem?_eq_getElem hi, List.drop_append_of_le_length (by simp; omega)]
  rfl
theorem drop_cons {s : Str} {i : Nat} (hi : i < s.length) : s.drop i = s[i] :: s.drop (i + 1) := List.drop_eq_getElem_cons hi
theorem senc1 (x : Str) : ∀ u ∈ [S x], u.oneCell' = true := fun u hu => str_enc1 [x] u (by simpa [strF] using hu)
theorem splB_le (c : UInt8) : ∀ s : Str, (splB c s).length ≤ s.length + 1
  | [] => by simp [splB]
  | x :: s => by
    have := splB_le c s
    rw [splB_app]
    split
    · simp; omega
    · cases h : splB c s with
      | nil => simp [headApp]
      | cons a l => rw [h] at this; simp [headApp] at this ⊢; omega
set_option maxRecDepth 100000 in
set_option maxHeartbeats 1000000 in
theorem RSplit_c (s : Str) (hs : s.length ≤ 100000) (k : Int) (c : UInt8) (hk : k = c.toNat) (w : World) :
    Calls Try.prog 37 #[S s, .int .u8 k] w fun e w' => ∃ A' c', e = .returned (.slice A' (splB c s).length c') ∧ Fresh strF 9 w w' A' c' (splB c s) := by
  subst hk
  go_enter Try.func37, Try.ntmps37
  go_wp2_with fail
  go_loopw [5, 6, 7] (fun l fr i wr => ∃ j f : Nat, j ≤ s.length ∧ f ≤ j ∧ i = .int .i64 j ∧ fr = .int .i64 f ∧ ∃ L A' c', l = .slice A' L.length c' ∧ L.length ≤ j ∧ splB c s = L ++ headApp ((s.take j).drop f) (splB c (s.drop j)) ∧ Fresh strF 9 w wr A' c' L) (fun _ _ i _ => s.length - (intOf i).toNat)
  case atStart => exact ⟨0, 0, Nat.zero_le _, Nat.le_refl _, rfl, rfl, [], none, 0, rfl, Nat.le_refl _, (by simp [headApp_nil (splB_ne c s)]), Fresh.nil _ _ _ _ (Only.refl _ _)⟩
  case round =>
    obtain ⟨j, f, hj, hf, rfl, rfl, L, A1, c1, rfl, hLn, hL, hF⟩ := hrel
    have F1 := Lib.hid hF
    have HL := Lib.hid hL
    obtain ⟨ξ, rfl⟩ : ∃ ξ : X w No, wr = ξ.v := ⟨⟨wr, hF.ext⟩, rfl⟩
    clear hF hL
    by_cases hlt : j < s.length
    · have HD := Lib.hid (drop_cons hlt)
      have HT := Lib.hid (take_drop_snoc hf hlt)
      obtain ⟨x, hx⟩ : ∃ x, x = s[j] := ⟨_, rfl⟩
      rw [← hx] at HD HT
      have hxc : ((s[j].toNat : Int) == (c.toNat : Int)) = (x == c) := by
        rw [← hx, Bool.eq_iff_iff, beq_iff_eq, beq_iff_eq]
        exact ⟨fun h => UInt8.toNat_inj.1 (by omega), fun h => by rw [h]⟩
      obtain ⟨e, he⟩ : ∃ e, (x == c) = e := ⟨_, rfl⟩
      rw [he] at hxc
      clear hx
      cases e with
      | true =>
        have HS : Hid (splB c s = (L ++ [(s.take j).drop f]) ++ headApp ((s.take (j + 1)).drop (j + 1)) (splB c (s.drop (j + 1)))) := by
          have e1 : x = c := by simpa using he
          rw [Hid, HL.out, HD.out, splB_app, if_pos e1]
          have : (s.take (j + 1)).drop (j + 1) = [] := List.drop_eq_nil_of_le (by simp; omega)
          rw [this, headApp_nil (splB_ne _ _)]
          simp [headApp]
        clear he HD HT
        go_wp2_with (first | (at_builtin; go_must (refine wpList_append (v := .slice A1 L.length c1) (n := L.length) (xs := L.flatMap strF.enc) rfl string_ty rfl rfl rfl (own_ext F1.out.own (by (repeat (first | exact Only.refl _ _ | refine Only.drew ?_ | refine Only.drewN ?_ _ | refine Only.alloc ?_ _)))) (rd_one _ _ [S ((s.take j).drop f)]) (senc1 _) (by omega) ?_); intro A2 c2 w5 hown5 hg5 hb5) | ((first | refine Mix.wpList_guarded rfl ?_ | refine Mix.wp_still (by kernel_rfl) (by kernel_rfl) ?_); (repeat' (first | (refine Mix.lex_quiet0 rfl rfl rfl ?_; intro K hK; go_big_quiet_op; go_big_quiet_on) | (refine Mix.lex_quietG rfl rfl rfl (by with_reducible rfl) rfl rfl ?_; intro K hK; go_big_quiet_op; go_big_quiet_on) | ((first | refine Mix.lex_skipT rfl rfl rfl (by with_reducible rfl) ?_ | refine Mix.lex_skipF rfl rfl rfl (by with_reducible rfl) ?_ | refine Mix.lex_skipU rfl rfl rfl (by with_reducible rfl) ?_); simp only [Act.put, List.setIfInBounds_toArray, List.set_cons_succ, List.set_cons_zero]) | (refine Mix.lex_part rfl rfl rfl rfl (fun hq => ?_) (fun hq => ?_) <;> (fail_if_success (guard_hyp hq :ₛ true = true)) <;> (fail_if_success (guard_hyp hq :ₛ false = false)) <;> first | (exfalso; cases hq; done) | (exfalso; simp only [decide_eq_true_eq, decide_eq_false_iff_not, beq_iff_eq, beq_eq_false_iff_ne, ne_eq, Int.not_lt, Int.not_le] at hq; omega) | simp only [Act.put, List.setIfInBounds_toArray, List.set_cons_succ, List.set_cons_zero]))); all_goals (refine Mix.lex_nil ?_)))
        go_roundw
        case rel => exact ⟨j + 1, j + 1, by omega, by omega, by go_num, by go_num, L ++ [(s.take j).drop f], A2, c2, by simp, by simp; omega, HS.out, Fresh.grow (h := F1.out.on (by (repeat (first | exact Only.refl _ _ | refine Only.drew ?_ | refine Only.drewN ?_ _ | refine Only.alloc ?_ _)))) (ys := [(s.take j).drop f]) rfl hown5 hg5 hb5⟩
        case measure => simp [intOf]; omega
      | false =>
        have HS : Hid (splB c s = L ++ headApp ((s.take (j + 1)).drop f) (splB c (s.drop (j + 1)))) := by
          have e1 : ¬ x = c := by simpa using he
          rw [Hid, HL.out, HD.out, splB_app, if_neg e1, headApp_two, HT.out]
        clear he HD HT
        go_wp2_with fail
        go_roundw
        case rel => exact ⟨j + 1, f, by omega, by omega, by go_num, rfl, L, A1, c1, rfl, by omega, HS.out, F1.out⟩
        case measure => simp [intOf]; omega
    · have HS : Hid (splB c s = L ++ [s.drop f]) := by
        have e1 : s.drop j = [] := List.drop_eq_nil_of_le (by omega)
        rw [Hid, HL.out, e1, List.take_of_length_le (by omega)]
        simp [splB, headApp]
      go_wp2_with (first | (at_builtin; go_must (refine wpList_append (v := .slice A1 L.length c1) (n := L.length) (xs := L.flatMap strF.enc) rfl string_ty rfl rfl rfl (own_ext F1.out.own (by (repeat (first | exact Only.refl _ _ | refine Only.drew ?_ | refine Only.drewN ?_ _ | refine Only.alloc ?_ _)))) (rd_one _ _ [S (s.drop f)]) (senc1 _) (by omega) ?_); intro A2 c2 w5 hown5 hg5 hb5) | ((first | refine Mix.wpList_guarded rfl ?_ | refine Mix.wp_still (by kernel_rfl) (by kernel_rfl) ?_); (repeat' (first | (refine Mix.lex_quiet0 rfl rfl rfl ?_; intro K hK; go_big_quiet_op; go_big_quiet_on) | (refine Mix.lex_quietG rfl rfl rfl (by with_reducible rfl) rfl rfl ?_; intro K hK; go_big_quiet_op; go_big_quiet_on) | ((first | refine Mix.lex_skipT rfl rfl rfl (by with_reducible rfl) ?_ | refine Mix.lex_skipF rfl rfl rfl (by with_reducible rfl) ?_ | refine Mix.lex_skipU rfl rfl rfl (by with_reducible rfl) ?_); simp only [Act.put, List.setIfInBounds_toArray, List.set_cons_succ, List.set_cons_zero]) | (refine Mix.lex_part rfl rfl rfl rfl (fun hq => ?_) (fun hq => ?_) <;> (fail_if_success (guard_hyp hq :ₛ true = true)) <;> (fail_if_success (guard_hyp hq :ₛ false = false)) <;> first | (exfalso; cases hq; done) | (exfalso; simp only [decide_eq_true_eq, decide_eq_false_iff_not, beq_iff_eq, beq_eq_false_iff_ne, ne_eq, Int.not_lt, Int.not_le] at hq; omega) | simp only [Act.put, List.setIfInBounds_toArray, List.set_cons_succ, List.set_cons_zero]))); all_goals (refine Mix.lex_nil ?_)))
      go_ret
      rw [HS.out]
      exact ⟨A2, c2, by simp, Fresh.grow (h := F1.out.on (by (repeat (first | exact Only.refl _ _ | refine Only.drew ?_ | refine Only.drewN ?_ _ | refine Only.alloc ?_ _)))) (ys := [s.drop f]) rfl hown5 hg5 hb5⟩
theorem file_stood : Try.prog.stoodInHeld 82 = false := by kernel_rfl
@[go_sem] theorem file_guard : Try.prog.eqGuardType Try.prog.depth 82 = false := by kernel_rfl
theorem file_under : Try.prog.underlying 82 = some (.struct (Try.prog.fieldsOf 82)) := by kernel_rfl
def fileB (x y x' y' : Str) : Bool := decide (x = x' ∧ y = y')
theorem fileB_true {f g : File} (h : fileB f.1 f.2 g.1 g.2 = true) : f = g := by
  unfold fileB at h; have := of_decide_eq_true h; exact Prod.ext this.1 this.2
theorem fileB_false {f g : File} (h : fileB f.1 f.2 g.1 g.2 = false) : f ≠ g := by
  unfold fileB at h; have := of_decide_eq_false h; intro e; subst e; exact this ⟨rfl, rfl⟩
theorem file_eqIn (a b c d : Str) (w : World) : (Op.equalIn 10000 82 (.agg #[S a, S b]) (.agg #[S c, S d])).run Try.prog w = .ok (fileB a b c d) w := by
  have u3 := Try.underlying9
  have a3 := Try.isAgg9
  have z3 := Try.sizeOf9
  unfold fileB
  rw [show (10000 : Nat) = 9999 + 1 from rfl, run_equalIn_agg w 9999 82 _ _ file_under file_stood]
  simp only [Program.fieldsOf, Try.underlying82]
  go_simp
  by_cases h1 : a = c <;> by_cases h2 : b = d <;> simp [h1, h2]
@[go_sem high] theorem file_eql (a b c d : Str) (w : World) : (binOp .eql 82 (.agg #[S a, S b]) (.agg #[S c, S d])).run Try.prog w = .ok (.bool (fileB a b c d)) w := by
  rw [run_eql_struct, file_eqIn]; rfl
@[go_sem high] theorem file_neq (a b c d : Str) (w : World) : (binOp .neq 82 (.agg #[S a, S b]) (.agg #[S c, S d])).run Try.prog w = .ok (.bool (!fileB a b c d)) w := by
  rw [run_neq_struct, file_eqIn]; rfl
@[go_sem] theorem file_build (a b : ByteArray) (w : World) : (Instr.build 82 #[(0, .string a), (1, .string b)]).run Try.prog w = .ok (.agg #[.string a, .string b]) w := run_build w 82 _ _ (by kernel_rfl)
def nameC (c : UInt8) (first : Bool) : Bool := (decide (97 ≤ c.toNat) && decide (c.toNat ≤ 122)) || (!first && ((decide (48 ≤ c.toNat) && decide (c.toNat ≤ 57)) || c.toNat == 46))
def nameFrom : Str → Nat → Bool
  | [], _ => true
  | c :: r, i => nameC c (i == 0) && nameFrom r (i + 1)
def nameB (s : Str) : Bool := decide (1 ≤ s.length) && decide (s.length ≤ 8) && nameFrom s 0
theorem nameFrom_at (l : Str) (k : Nat) (h : k < l.length) : nameFrom (l.drop k) k = (nameC l[k] (k == 0) && nameFrom (l.drop (k + 1)) (k + 1)) := by
  rw [List.drop_eq_getElem_cons h]; rfl
set_option maxHeartbeats 2000000 in
theorem NameMay_c (s : Str) (w : World) (hs : s.length ≤ 10000) :
    Calls Try.prog 40 #[S s] w fun e w' => e = .returned (.bool (nameB s)) ∧ Ext w w' := by
  by_cases h1 : s.length < 1
  · have HB : Hid (nameB s = false) := by
      have : s.length = 0 := by omega
      simp [Hid, nameB, this]
    go_enter Try.func40, Try.ntmps40
    go_wp2_with (first | ((first | refine Mix.wpList_guarded rfl ?_ | refine Mix.wp_still (by kernel_rfl) (by kernel_rfl) ?_); (repeat' (first | (refine Mix.lex_quiet0 rfl rfl rfl ?_; intro K hK; go_big_quiet_op; go_big_quiet_on) | (refine Mix.lex_quietG rfl rfl rfl (by with_reducible rfl) rfl rfl ?_; intro K hK; go_big_quiet_op; go_big_quiet_on) | ((first | refine Mix.lex_skipT rfl rfl rfl (by with_reducible rfl) ?_ | refine Mix.lex_skipF rfl rfl rfl (by with_reducible rfl) ?_ | refine Mix.lex_skipU rfl rfl rfl (by with_reducible rfl) ?_); simp only [Act.put, List.setIfInBounds_toArray, List.set_cons_succ, List.set_cons_zero]) | (refine Mix.lex_part rfl rfl rfl rfl (fun hq => ?_) (fun hq => ?_) <;> (fail_if_success (guard_hyp hq :ₛ true = true)) <;> (fail_if_success (guard_hyp hq :ₛ false = false)) <;> first | (exfalso; cases hq; done) | (exfalso; simp only [decide_eq_true_eq, decide_eq_false_iff_not, beq_iff_eq, beq_eq_false_iff_ne, ne_eq, Int.not_lt, Int.not_le] at hq; omega) | simp only [Act.put, List.setIfInBounds_toArray, List.set_cons_succ, List.set_cons_zero]))); all_goals (refine Mix.lex_nil ?_)))
    all_goals (go_ret; exact ⟨ret_bool HB.out.symm, Only.refl _ _⟩)
  by_cases h2 : 8 < s.length
  · have HB : Hid (nameB s = false) := by
      simp [Hid, nameB]; omega
    go_enter Try.func40, Try.ntmps40
    go_wp2_with (first | ((first | refine Mix.wpList_guarded rfl ?_ | refine Mix.wp_still (by kernel_rfl) (by kernel_rfl) ?_); (repeat' (first | (refine Mix.lex_quiet0 rfl rfl rfl ?_; intro K hK; go_big_quiet_op; go_big_quiet_on) | (refine Mix.lex_quietG rfl rfl rfl (by with_reducible rfl) rfl rfl ?_; intro K hK; go_big_quiet_op; go_big_quiet_on) | ((first | refine Mix.lex_skipT rfl rfl rfl (by with_reducible rfl) ?_ | refine Mix.lex_skipF rfl rfl rfl (by with_reducible rfl) ?_ | refine Mix.lex_skipU rfl rfl rfl (by with_reducible rfl) ?_); simp only [Act.put, List.setIfInBounds_toArray, List.set_cons_succ, List.set_cons_zero]) | (refine Mix.lex_part rfl rfl rfl rfl (fun hq => ?_) (fun hq => ?_) <;> (fail_if_success (guard_hyp hq :ₛ true = true)) <;> (fail_if_success (guard_hyp hq :ₛ false = false)) <;> first | (exfalso; cases hq; done) | (exfalso; simp only [decide_eq_true_eq, decide_eq_false_iff_not, beq_iff_eq, beq_eq_false_iff_ne, ne_eq, Int.not_lt, Int.not_le] at hq; omega) | simp only [Act.put, List.setIfInBounds_toArray, List.set_cons_succ, List.set_cons_zero]))); all_goals (refine Mix.lex_nil ?_)))
    all_goals (go_ret; exact ⟨ret_bool HB.out.symm, Only.refl _ _⟩)
  have HB : Hid (nameB s = nameFrom s 0) := by
    have a1 : decide (1 ≤ s.length) = true := by simp; omega
    have a2 : decide (s.length ≤ 8) = true := by simp; omega
    rw [Hid, nameB, a1, a2]; rfl
  go_enter Try.func40, Try.ntmps40
  go_wp2_with (first | ((first | refine Mix.wpList_guarded rfl ?_ | refine Mix.wp_still (by kernel_rfl) (by kernel_rfl) ?_); (repeat' (first | (refine Mix.lex_quiet0 rfl rfl rfl ?_; intro K hK; go_big_quiet_op; go_big_quiet_on) | (refine Mix.lex_quietG rfl rfl rfl (by with_reducible rfl) rfl rfl ?_; intro K hK; go_big_quiet_op; go_big_quiet_on) | ((first | refine Mix.lex_skipT rfl rfl rfl (by with_reducible rfl) ?_ | refine Mix.lex_skipF rfl rfl rfl (by with_reducible rfl) ?_ | refine Mix.lex_skipU rfl rfl rfl (by with_reducible rfl) ?_); simp only [Act.put, List.setIfInBounds_toArray, List.set_cons_succ, List.set_cons_zero]) | (refine Mix.lex_part rfl rfl rfl rfl (fun hq => ?_) (fun hq => ?_) <;> (fail_if_success (guard_hyp hq :ₛ true = true)) <;> (fail_if_success (guard_hyp hq :ₛ false = false)) <;> first | (exfalso; cases hq; done) | (exfalso; simp only [decide_eq_true_eq, decide_eq_false_iff_not, beq_iff_eq, beq_eq_false_iff_ne, ne_eq, Int.not_lt, Int.not_le] at hq; omega) | simp only [Act.put, List.setIfInBounds_toArray, List.set_cons_succ, List.set_cons_zero]))); all_goals (refine Mix.lex_nil ?_)))
  go_loop [3] (fun i => ∃ k : Nat, k ≤ s.length ∧ i = .int .i64 k ∧ nameFrom s 0 = nameFrom (s.drop k) k) (fun i => s.length - (intOf i).toNat)
  case atStart => exact ⟨0, Nat.zero_le _, rfl, rfl⟩
  case round =>
    obtain ⟨k, hk, rfl, hF⟩ := hrel
    by_cases hlt : k < s.length
    · have hN := nameFrom_at s k hlt
      have HT : Hid (nameC s[k] (k == 0) = true → nameFrom s 0 = nameFrom (s.drop (k + 1)) (k + 1)) := fun h => by rw [hF, hN, h, Bool.true_and]
      have HF : Hid (nameC s[k] (k == 0) = false → nameB s = false) := fun h => by rw [HB.out, hF, hN, h, Bool.false_and]
      clear hF hN HB
      generalize hc : nameC s[k] (k == 0) = c at HT HF
      have hC := Lib.hid hc
      clear hc
      go_wp2_with (first | ((first | refine Mix.wpList_guarded rfl ?_ | refine Mix.wp_still (by kernel_rfl) (by kernel_rfl) ?_); (repeat' (first | (refine Mix.lex_quiet0 rfl rfl rfl ?_; intro K hK; go_big_quiet_op; go_big_quiet_on) | (refine Mix.lex_quietG rfl rfl rfl (by with_reducible rfl) rfl rfl ?_; intro K hK; go_big_quiet_op; go_big_quiet_on) | ((first | refine Mix.lex_skipT rfl rfl rfl (by with_reducible rfl) ?_ | refine Mix.lex_skipF rfl rfl rfl (by with_reducible rfl) ?_ | refine Mix.lex_skipU rfl rfl rfl (by with_reducible rfl) ?_); simp only [Act.put, List.setIfInBounds_toArray, List.set_cons_succ, List.set_cons_zero]) | (refine Mix.lex_part rfl rfl rfl rfl (fun hq => ?_) (fun hq => ?_) <;> (fail_if_success (guard_hyp hq :ₛ true = true)) <;> (fail_if_success (guard_hyp hq :ₛ false = false)) <;> first | (exfalso; cases hq; done) | (exfalso; simp only [decide_eq_true_eq, decide_eq_false_iff_not, beq_iff_eq, beq_eq_false_iff_ne, ne_eq, Int.not_lt, Int.not_le] at hq; omega) | simp only [Act.put, List.setIfInBounds_toArray, List.set_cons_succ, List.set_cons_zero]))); all_goals (refine Mix.lex_nil ?_)))
      all_goals first
        | (go_round
           case rel => exact ⟨k + 1, by omega, by go_num, HT.out (by rw [← hC.out]; clear HT HF hC; simp only [decide_eq_true_eq, decide_eq_false_iff_not, beq_iff_eq, beq_eq_false_iff_ne, ne_eq, Bool.or_eq_true, Bool.or_eq_false_iff, Bool.not_eq_eq_eq_not, Bool.not_true, Bool.not_false] at *; unfold nameC; simp; omega)⟩
           case measure => simp [intOf]; omega)
        | (go_ret
           refine ⟨ret_bool (HF.out ?_).symm, Only.refl _ _⟩
           rw [← hC.out]; clear HT HF hC; simp only [decide_eq_true_eq, decide_eq_false_iff_not, beq_iff_eq, beq_eq_false_iff_ne, ne_eq, Bool.or_eq_true, Bool.or_eq_false_iff, Bool.not_eq_eq_eq_not, Bool.not_true, Bool.not_false] at *; unfold nameC; simp; omega)
    · have HE : Hid (nameB s = true) := by
        rw [Hid, HB.out, hF, show k = s.length by omega, List.drop_length]; rfl
      clear hF HB
      go_wp2_with (first | ((first | refine Mix.wpList_guarded rfl ?_ | refine Mix.wp_still (by kernel_rfl) (by kernel_rfl) ?_); (repeat' (first | (refine Mix.lex_quiet0 rfl rfl rfl ?_; intro K hK; go_big_quiet_op; go_big_quiet_on) | (refine Mix.lex_quietG rfl rfl rfl (by with_reducible rfl) rfl rfl ?_; intro K hK; go_big_quiet_op; go_big_quiet_on) | ((first | refine Mix.lex_skipT rfl rfl rfl (by with_reducible rfl) ?_ | refine Mix.lex_skipF rfl rfl rfl (by with_reducible rfl) ?_ | refine Mix.lex_skipU rfl rfl rfl (by with_reducible rfl) ?_); simp only [Act.put, List.setIfInBounds_toArray, List.set_cons_succ, List.set_cons_zero]) | (refine Mix.lex_part rfl rfl rfl rfl (fun hq => ?_) (fun hq => ?_) <;> (fail_if_success (guard_hyp hq :ₛ true = true)) <;> (fail_if_success (guard_hyp hq :ₛ false = false)) <;> first | (exfalso; cases hq; done) | (exfalso; simp only [decide_eq_true_eq, decide_eq_false_iff_not, beq_iff_eq, beq_eq_false_iff_ne, ne_eq, Int.not_lt, Int.not_le] at hq; omega) | simp only [Act.put, List.setIfInBounds_toArray, List.set_cons_succ, List.set_cons_zero]))); all_goals (refine Mix.lex_nil ?_)))
      go_ret
      exact ⟨ret_bool HE.out.symm, Only.refl _ _⟩
def neB (w : Str) : Bool := !(w == [])
def fieldsF (s : Str) : List Str := (splB 32 s).filter neB
theorem splB_chunk (c : UInt8) : ∀ (a r : Str), c ∉ a → splB c (a ++ r) = headApp a (splB c r)
  | [], r, _ => by
    cases h : splB c r with
    | nil => exact absurd h (splB_ne c r)
    | cons x l => simp [headApp, h]
  | x :: a, r, h => by
    have hx : x ≠ c := fun e => h (by simp [e])
    rw [List.cons_append, splB_app, if_neg hx, splB_chunk c a r (fun hm => h (List.mem_cons_of_mem _ hm)), headApp_two]
    rfl
def patB (s : Str) : Bool := (cutB 37 s).2.2
def onceF (s t : Str) : Str := if (cutB 37 s).2.2 = true then (cutB 37 s).1 ++ t ++ (cutB 37 s).2.1 else s
theorem onceF_len (s t : Str) : (onceF s t).length ≤ s.length + t.length := by
  have := cutB_len 37 s
  unfold onceF
  split
  · simp only [List.length_append]; omega
  · omega
def wordB (s : Str) : Bool := nameB (onceF s [97])
structure Rul where
  targets : List Str
  needs : List Str
  cmds : List Str
  deriving DecidableEq
structure Mk where
  vars : List File
  rules : List Rul
  phony : List Str
  deriving DecidableEq
def mk0 : Mk := ⟨[], [], []⟩
def okFrom (p : Bool) : List Str → List Str → Bool
  | _, [] => true
  | seen, w :: r => wordB w && !inS seen w && (p || !patB w) && okFrom p (seen ++ [w]) r
def allOk (t n : List Str) : Bool := okFrom (t.any patB) [] (t ++ n) && !(t.any patB && decide (1 < t.length))
def headF (m : Mk) (s : Str) : Mk × Int :=
  if (exp m.vars 6 s).2 ≠ 0 then (m, (exp m.vars 6 s).2)
  else if (cutB 58 (exp m.vars 6 s).1).2.2 = false ∨ fieldsF (cutB 58 (exp m.vars 6 s).1).1 = [] then (m, 4)
  else if 2 < (fieldsF (cutB 58 (exp m.vars 6 s).1).1).length ∨ 3 < (fieldsF (cutB 58 (exp m.vars 6 s).1).2.1).length ∨ m.rules.length = 10 then (m, 2)
  else if allOk (fieldsF (cutB 58 (exp m.vars 6 s).1).1) (fieldsF (cutB 58 (exp m.vars 6 s).1).2.1) = true then (⟨m.vars, m.rules ++ [⟨fieldsF (cutB 58 (exp m.vars 6 s).1).1, fieldsF (cutB 58 (exp m.vars 6 s).1).2.1, []⟩], m.phony⟩, 0)
  else (m, 3)
def cmdF (m : Mk) (s : Str) : Mk × Int :=
  match m.rules.getLast? with
  | none => (m, 4)
  | some r =>
    if (exp m.vars 6 s).2 ≠ 0 then (m, (exp m.vars 6 s).2)
    else if r.cmds.length = 3 ∨ 28 < (exp m.vars 6 s).1.length then (m, 2)
    else (⟨m.vars, m.rules.dropLast ++ [⟨r.targets, r.needs, r.cmds ++ [(exp m.vars 6 s).1]⟩], m.phony⟩, 0)
abbrev phonyT : Str := [112, 104, 111, 110, 121, 32]
abbrev eqT : Str := [32, 61, 32]
def phoF (m : Mk) (n : Str) : Mk × Int := if nameB n = false ∨ inS m.phony n = true then (m, 3) else (⟨m.vars, m.rules, m.phony ++ [n]⟩, 0)
def varF (m : Mk) (a b : Str) : Mk × Int := if varB a = false then (m, 3) else if m.vars.length = 6 then (m, 2) else (⟨m.vars ++ [(a, b)], m.rules, m.phony⟩, 0)
def lineF (m : Mk) : Str → Mk × Int
  | [] => (m, 0)
  | x :: r =>
    if x = 35 then (m, 0)
    else if x = 9 then cmdF m r
    else if Lib.hasPrefix (x :: r) phonyT = true then phoF m ((x :: r).drop 6)
    else if (Lib.cut (x :: r) eqT).2.2 = true then varF m (Lib.cut (x :: r) eqT).1 (Lib.cut (x :: r) eqT).2.1
    else headF m (x :: r)
theorem lineF_cons (m : Mk) (x : UInt8) (r : Str) : lineF m (x :: r) =
    if x = 35 then (m, 0)
    else if x = 9 then cmdF m r
    else if Lib.hasPrefix (x :: r) phonyT = true then phoF m ((x :: r).drop 6)
    else if (Lib.cut (x :: r) eqT).2.2 = true then varF m (Lib.cut (x :: r) eqT).1 (Lib.cut (x :: r) eqT).2.1
    else headF m (x :: r) := rfl
def foldF : List Str → Mk → Mk × Int
  | [], m => (m, 0)
  | l :: ls, m => if (lineF m l).2 = 0 then foldF ls (lineF m l).1 else (mk0, (lineF m l).2)
def dupF : List Str → List Str → Bool
  | _, [] => false
  | made, t :: ts => inS made t || dupF (made ++ [t]) ts
def ruleOk (ph : List Str) (r : Rul) : Bool := (inS ph (r.targets.headD []) == decide (r.cmds.length = 0)) && !(decide (1 < r.targets.length) && inS ph (r.targets.getD 1 []))
def chkR (ph : List Str) : List Rul → List Str → Option (List Str)
  | [], made => some made
  | r :: rs, made => if dupF made r.targets = true then none else if ruleOk ph r = true then chkR ph rs (made ++ r.targets) else none
def chkF (m : Mk) : Int :=
  match chkR m.phony m.rules [] with
  | none => 3
  | some made => if m.phony.all (inS made) = true then 0 else 3
def parseF (s : Str) : Mk × Int :=
  if 600 < s.length then (mk0, 2)
  else if (foldF (splB 10 s) mk0).2 ≠ 0 then (mk0, (foldF (splB 10 s) mk0).2)
  else if chkF (foldF (splB 10 s) mk0).1 = 0 then ((foldF (splB 10 s) mk0).1, 0)
  else (mk0, chkF (foldF (splB 10 s) mk0).1)
structure Mk.Fit (m : Mk) (k : Nat) : Prop where
  v : m.vars.length ≤ 6
  vt : ∀ x ∈ m.vars, x.1.length ≤ 600 ∧ x.2.length ≤ 600
  r : m.rules.length ≤ 10
  rt : ∀ x ∈ m.rules, 1 ≤ x.targets.length ∧ x.targets.length ≤ 2 ∧ x.needs.length ≤ 3 ∧ x.cmds.length ≤ 3
  p : m.phony.length ≤ k
theorem mk0_fit : mk0.Fit 0 := ⟨Nat.zero_le _, (fun x hx => by cases hx), Nat.zero_le _, (fun x hx => by cases hx), Nat.le_refl _⟩
theorem Mk.Fit.more {m : Mk} {k : Nat} (h : m.Fit k) : m.Fit (k + 1) := ⟨h.v, h.vt, h.r, h.rt, Nat.le_succ_of_le h.p⟩
theorem headF_fit {m : Mk} {k : Nat} (h : m.Fit k) (s : Str) : (headF m s).1.Fit (k + 1) := by
  unfold headF
  split
  · exact h.more
  · split
    · exact h.more
    · rename_i h2
      split
      · exact h.more
      · rename_i h3
        split
        · refine ⟨h.v, h.vt, ?_, ?_, Nat.le_succ_of_le h.p⟩
          · have := h.r
            show (m.rules ++ [_]).length ≤ 10
            rw [List.length_append, List.length_singleton]
            omega
          · intro x hx
            rcases List.mem_append.1 hx with hx | hx
            · exact h.rt x hx
            · obtain rfl := List.mem_singleton.1 hx
              refine ⟨?_, by show (fieldsF _).length ≤ 2; omega, by show (fieldsF _).length ≤ 3; omega, Nat.zero_le _⟩
              show 1 ≤ (fieldsF (cutB 58 (exp m.vars 6 s).1).1).length
              cases hf : fieldsF (cutB 58 (exp m.vars 6 s).1).1 with
              | nil => exact absurd (.inr hf) h2
              | cons a l => simp
        · exact h.more
theorem cmdF_fit {m : Mk} {k : Nat} (h : m.Fit k) (s : Str) : (cmdF m s).1.Fit (k + 1) := by
  unfold cmdF
  split
  · exact h.more
  · rename_i r hr
    split
    · exact h.more
    · split
      · exact h.more
      · rename_i h3
        have hm := List.mem_of_getLast? hr
        obtain ⟨q1, q2, q3, q4⟩ := h.rt r hm
        refine ⟨h.v, h.vt, ?_, ?_, Nat.le_succ_of_le h.p⟩
        · have := h.r
          have hpos : 0 < m.rules.length := List.length_pos_of_mem hm
          show (m.rules.dropLast ++ [_]).length ≤ 10
          rw [List.length_append, List.length_singleton, List.length_dropLast]
          omega
        · intro x hx
          rcases List.mem_append.1 hx with hx | hx
          · exact h.rt x (List.dropLast_subset _ hx)
          · obtain rfl := List.mem_singleton.1 hx
            refine ⟨q1, q2, q3, ?_⟩
            show (r.cmds ++ [_]).length ≤ 3
            rw [List.length_append, List.length_singleton]
            omega
theorem lineF_fit {m : Mk} {k : Nat} (h : m.Fit k) {s : Str} (hs : s.length ≤ 600) : (lineF m s).1.Fit (k + 1) := by
  cases s with
  | nil => exact h.more
  | cons x r =>
    rw [lineF_cons]
    split
    · exact h.more
    · split
      · exact cmdF_fit h r
      · split
        · unfold phoF
          split
          · exact h.more
          · refine ⟨h.v, h.vt, h.r, h.rt, ?_⟩
            have := h.p
            show (m.phony ++ [_]).length ≤ k + 1
            rw [List.length_append, List.length_singleton]
            omega
        · split
          · unfold varF
            split
            · exact h.more
            · split
              · exact h.more
              · rename_i h6
                have hc := cut_len (x :: r) eqT
                refine ⟨?_, ?_, h.r, h.rt, Nat.le_succ_of_le h.p⟩
                · have := h.v
                  show (m.vars ++ [_]).length ≤ 6
                  rw [List.length_append, List.length_singleton]
                  omega
                · intro y hy
                  rcases List.mem_append.1 hy with hy | hy
                  · exact h.vt y hy
                  · obtain rfl := List.mem_singleton.1 hy
                    exact ⟨by show (Lib.cut (x :: r) eqT).1.length ≤ 600; omega, by show (Lib.cut (x :: r) eqT).2.1.length ≤ 600; omega⟩
          · exact headF_fit h _
theorem headF_nonneg (m : Mk) (s : Str) : 0 ≤ (headF m s).2 := by
  have := exp_nonneg m.vars 6 s
  unfold headF
  repeat' split
  all_goals first | exact this | simp
theorem cmdF_nonneg (m : Mk) (s : Str) : 0 ≤ (cmdF m s).2 := by
  have := exp_nonneg m.vars 6 s
  unfold cmdF
  repeat' split
  all_goals first | exact this | simp
theorem lineF_nonneg (m : Mk) (s : Str) : 0 ≤ (lineF m s).2 := by
  cases s with
  | nil => exact Int.le_refl _
  | cons x r =>
    rw [lineF_cons]
    split
    · simp
    · split
      · exact cmdF_nonneg m r
      · split
        · unfold phoF; split <;> simp
        · split
          · unfold varF; repeat' split
            all_goals simp
          · exact headF_nonneg m _
theorem foldF_nonneg : ∀ (ls : List Str) (m : Mk), 0 ≤ (foldF ls m).2
  | [], m => Int.le_refl _
  | l :: ls, m => by
    unfold foldF
    split
    · exact foldF_nonneg ls _
    · exact lineF_nonneg m l
theorem chkF_cases (m : Mk) : chkF m = 0 ∨ chkF m = 3 := by
  unfold chkF
  split
  · exact .inr rfl
  · split
    · exact .inl rfl
    · exact .inr rfl
theorem parseF_nonneg (s : Str) : 0 ≤ (parseF s).2 := by
  have h1 := foldF_nonneg (splB 10 s) mk0
  have h2 := chkF_cases (foldF (splB 10 s) mk0).1
  unfold parseF
  split
  · simp
  · split
    · exact h1
    · split
      · simp
      · show 0 ≤ chkF _; omega
theorem foldF_fit : ∀ (ls : List Str) (m : Mk) (k : Nat), m.Fit k → (∀ l ∈ ls, l.length ≤ 600) → (foldF ls m).1.Fit (k + ls.length)
  | [], m, k, h, _ => h
  | l :: ls, m, k, h, hl => by
    unfold foldF
    split
    · have := foldF_fit ls _ (k + 1) (lineF_fit h (hl l (by simp))) (fun x hx => hl x (List.mem_cons_of_mem _ hx))
      rw [List.length_cons, show k + (ls.length + 1) = k + 1 + ls.length by omega]
      exact this
    · exact ⟨mk0_fit.v, mk0_fit.vt, mk0_fit.r, mk0_fit.rt, Nat.zero_le _⟩
abbrev makeT : TypeId := 51
abbrev ruleT : TypeId := 121
abbrev varT : TypeId := 27
structure RulA where
  tA : Option Addr
  tc : Nat
  nA : Option Addr
  nc : Nat
  cA : Option Addr
  cc : Nat
def rulF : Flat (RulA × Rul) := ⟨3, fun x => [.slice x.1.tA x.2.targets.length x.1.tc, .slice x.1.nA x.2.needs.length x.1.nc, .slice x.1.cA x.2.cmds.length x.1.cc], fun _ => rfl⟩
structure SRow where
  A : Option Addr
  c : Nat
  xs : List Str
abbrev SRow.own (x : SRow) : Option Nat := (Value.slice x.A x.xs.length x.c).ownBlock
abbrev SRow.F (w wr : World) (x : SRow) : Prop := Fresh strF 9 w wr x.A x.c x.xs
def SRow.off (x y : SRow) : Prop := ∀ g, x.own = some g → y.own ≠ some g
theorem SRow.off_symm {x y : SRow} (h : x.off y) : y.off x := fun g h1 h2 => h g h2 h1
structure SRows (w wr : World) (L : List SRow) : Prop where
  f : ∀ x ∈ L, x.F w wr
  p : L.Pairwise SRow.off
section
variable {w wr u : World} {L L1 L2 : List SRow} {x : SRow}
theorem SRows.ext (h : SRows w wr L) (hx : Ext wr u) : SRows w u L := ⟨fun x hm => (h.f x hm).on hx, h.p⟩
theorem SRows.lt (h : SRows w wr L) (hm : x ∈ L) : ∀ g, x.own = some g → g < wr.heap.size := fun g hg => by
  obtain ⟨_, hc⟩ := own_cs (h.f x hm).own hg
  exact hc.lt
theorem SRows.keep (h : SRows w wr L) {F : Nat → Prop} (hx : Only F wr u) (hE : Ext w u) (hn : ∀ x ∈ L, ∀ g, x.own = some g → ¬ F g) : SRows w u L := ⟨fun x hm => (h.f x hm).keep hx hE (hn x hm), h.p⟩
theorem SRows.add (h : SRows w wr L) (hw : Ext w wr) (hx : x.F wr u) : SRows w u (L ++ [x]) := by
  refine ⟨fun y hy => ?_, ?_⟩
  · rcases List.mem_append.1 hy with hy | hy
    · exact (h.f y hy).on hx.ext
    · obtain rfl := List.mem_singleton.1 hy
      exact Fresh.from hx hw
  · rw [List.pairwise_append]
    refine ⟨h.p, List.pairwise_singleton _ _, fun a ha b hb => ?_⟩
    obtain rfl := List.mem_singleton.1 hb
    intro g h1 h2
    have := h.lt ha g h1
    have := hx.new g h2
    omega
theorem SRows.grow (h : SRows w u (L1 ++ x :: L2)) {A' : Option Addr} {c' : Nat} {w5 : World} {t : Str}
    (hown : w5.ownsRow 0 9 1 (.slice A' (x.xs.length + 1 : Nat) c') (x.xs.length + 1) (x.xs.flatMap strF.enc ++ [t].flatMap strF.enc)) (hg : u.grownBy w5 (Value.slice x.A x.xs.length x.c).ownBlock)
    (hb : (Value.slice A' (x.xs.length + 1 : Nat) c').ownBlock = (Value.slice x.A x.xs.length x.c).ownBlock ∨ (Value.slice A' (x.xs.length + 1 : Nat) c').ownBlock = some u.heap.size) :
    SRows w w5 (L1 ++ ⟨A', c', x.xs ++ [t]⟩ :: L2) := by
  have O5 : Only (fun b => (Value.slice x.A x.xs.length x.c).ownBlock = some b) u w5 := (Only.refl _ _).grown hg fun g e => .inr e
  have F5 := (h.f x (by simp)).grow (ys := [t]) rfl hown hg hb
  have hp := h.p
  rw [List.pairwise_append, List.pairwise_cons] at hp
  obtain ⟨p1, ⟨p2, p3⟩, p4⟩ := hp
  have q1 : ∀ y ∈ L1, y.off x := fun y hy => p4 y hy x (by simp)
  have new : ∀ y ∈ L1 ++ L2, y.off x → y.off ⟨A', c', x.xs ++ [t]⟩ := fun y hy ho g h1 h2 => by
    have hlt := h.lt (x := y) (by rcases List.mem_append.1 hy with hy | hy <;> simp [hy]) g h1
    have h2' : (Value.slice A' (x.xs.length + 1 : Nat) c').ownBlock = some g := by rw [← h2]; unfold SRow.own; rw [List.length_append]; rfl
    rcases hb with hb | hb
    · exact ho g h1 (hb.symm.trans h2')
    · rw [hb] at h2'
      injection h2' with h2'
      omega
  refine ⟨fun y hy => ?_, ?_⟩
  · rcases List.mem_append.1 hy with hy | hy
    · exact (h.f y (by simp [hy])).keep O5 F5.ext (fun g h1 h2 => q1 y hy g h1 h2)
    · rcases List.mem_cons.1 hy with rfl | hy
      · exact F5
      · exact (h.f y (by simp [hy])).keep O5 F5.ext (fun g h1 h2 => p2 y hy g h2 h1)
  · rw [List.pairwise_append, List.pairwise_cons]
    refine ⟨p1, ⟨fun y hy => SRow.off_symm (new y (by simp [hy]) (SRow.off_symm (p2 y hy))), p3⟩, fun a ha b hb' => ?_⟩
    rcases List.mem_cons.1 hb' with rfl | hb'
    · exact new a (by simp [ha]) (q1 a ha)
    · exact p4 a ha b (by simp [hb'])
end
abbrev rowsOf (x : RulA × Rul) : List SRow := [⟨x.1.tA, x.1.tc, x.2.targets⟩, ⟨x.1.nA, x.1.nc, x.2.needs⟩, ⟨x.1.cA, x.1.cc, x.2.cmds⟩]
structure MkV where
  vA : Option Addr
  vc : Nat
  rA : Option Addr
  rc : Nat
  pA : Option Addr
  pc : Nat
abbrev mkV0 : MkV := ⟨none, 0, none, 0, none, 0⟩
abbrev mkV (v : MkV) (m : Mk) : Value := .agg #[.slice v.vA m.vars.length v.vc, .slice v.rA m.rules.length v.rc, .slice v.pA m.phony.length v.pc]
structure MAt (Q : List SRow) (w wr : World) (g : Nat) (v : MkV) (rs : List (RulA × Rul)) (m : Mk) : Prop where
  rc : Cs wr g makeT #[.slice v.vA m.vars.length v.vc, .slice v.rA rs.length v.rc, .slice v.pA m.phony.length v.pc]
  fv : Fresh fileF varT w wr v.vA v.vc m.vars
  fr : Fresh rulF ruleT w wr v.rA v.rc rs
  ss : SRows w wr (Q ++ ⟨v.pA, v.pc, m.phony⟩ :: rs.flatMap rowsOf)
  rm : rs.map (·.2) = m.rules
  ng : w.heap.size ≤ g
structure MakeR (w : World) (v : MkV) (rs : List (RulA × Rul)) (m : Mk) : Prop where
  fv : SlR fileF w v.vA m.vars.length m.vars
  fr : SlR rulF w v.rA m.rules.length rs
  fp : SlR strF w v.pA m.phony.length m.phony
  rr : ∀ x ∈ rs, SlR strF w x.1.tA x.2.targets.length x.2.targets ∧ SlR strF w x.1.nA x.2.needs.length x.2.needs ∧ SlR strF w x.1.cA x.2.cmds.length x.2.cmds
  rm : rs.map (·.2) = m.rules
theorem makeR0 (w : World) : MakeR w mkV0 [] mk0 := ⟨SlR.none_, SlR.none_, SlR.none_, (fun x hx => by cases hx), rfl⟩
theorem MakeR.ext {w u : World} {v : MkV} {rs : List (RulA × Rul)} {m : Mk} (h : MakeR w v rs m) (hx : Ext w u) : MakeR u v rs m :=
  ⟨h.fv.ext hx, h.fr.ext hx, h.fp.ext hx, fun x hm => ⟨(h.rr x hm).1.ext hx, (h.rr x hm).2.1.ext hx, (h.rr x hm).2.2.ext hx⟩, h.rm⟩
theorem rules_get {w : World} {A : Option Addr} {n : Nat} {rs : List (RulA × Rul)} (h : SlR rulF w A n rs) {k : Nat} (hk : k < n) :
    ∃ b o x, A = some ⟨b, o, none⟩ ∧ rs[k]? = some x ∧ b < w.heap.size ∧ (∀ u, Ext w u → u.cell? ⟨b, o + k * 3, none⟩ = some (.slice x.1.tA x.2.targets.length x.1.tc)) ∧ (∀ u, Ext w u → u.cell? ⟨b, o + k * 3 + 1, none⟩ = some (.slice x.1.nA x.2.needs.length x.1.nc)) ∧ (∀ u, Ext w u → u.cell? ⟨b, o + k * 3 + 2, none⟩ = some (.slice x.1.cA x.2.cmds.length x.1.cc)) := by
  obtain ⟨b, o, x, e, hb, hx, hc⟩ := h.get hk
  exact ⟨b, o, x, e, hx, hb, fun u hu => (hu.cell hb id).trans (hc 0 _ rfl), fun u hu => (hu.cell hb id).trans (hc 1 _ rfl), fun u hu => (hu.cell hb id).trans (hc 2 _ rfl)⟩
section
variable {Q : List SRow} {w wr u : World} {g : Nat} {v : MkV} {rs : List (RulA × Rul)} {m : Mk}
theorem MAt.x (h : MAt Q w wr g v rs m) : Ext w wr := h.fv.ext
theorem MAt.rl (h : MAt Q w wr g v rs m) : rs.length = m.rules.length := by rw [← h.rm, List.length_map]
theorem MAt.ext (h : MAt Q w wr g v rs m) (hx : Ext wr u) : MAt Q w u g v rs m := ⟨h.rc.keep hx id, h.fv.on hx, h.fr.on hx, h.ss.ext hx, h.rm, h.ng⟩
theorem MAt.made (h : MAt Q w wr g v rs m) : MakeR wr v rs m := by
  refine ⟨h.fv.row (by decide), ?_, (h.ss.f ⟨v.pA, v.pc, m.phony⟩ (by simp)).row (by decide), fun x hx => ?_, h.rm⟩
  · have := h.fr.row (by decide)
    rw [h.rl] at this
    exact this
  · have q : ∀ y ∈ rowsOf x, y ∈ Q ++ (⟨v.pA, v.pc, m.phony⟩ : SRow) :: rs.flatMap rowsOf := fun y hy => List.mem_append_right _ (List.mem_cons_of_mem _ (List.mem_flatMap.2 ⟨x, hx, hy⟩))
    exact ⟨(h.ss.f _ (q ⟨x.1.tA, x.1.tc, x.2.targets⟩ (by simp))).row (by decide), (h.ss.f _ (q ⟨x.1.nA, x.1.nc, x.2.needs⟩ (by simp))).row (by decide), (h.ss.f _ (q ⟨x.1.cA, x.1.cc, x.2.cmds⟩ (by simp))).row (by decide)⟩
theorem MAt.at_ (h : MAt Q w wr g v rs m) (i : Nat) (x : Value) : Ext w (wr.setCell ⟨g, i, none⟩ x) :=
  h.x.trans ((Only.refl (fun b => b = g) wr).at_ i x) fun b hb e => by have e : b = g := e; have := h.ng; omega
theorem enc_last (rs : List (RulA × Rul)) (a : RulA) (r : Rul) (rest : List Value) : ((rs ++ [(a, r)]).flatMap rulF.enc ++ rest).toArray[rs.length * 3 + 2]? = some (.slice a.cA r.cmds.length a.cc) := by
  rw [List.getElem?_toArray, List.flatMap_append, List.append_assoc, List.getElem?_append_right (by rw [length_flatMap_enc]; show rs.length * 3 ≤ _; omega), length_flatMap_enc]
  show ([_, _, _] ++ rest)[rs.length * 3 + 2 - rs.length * 3]? = _
  rw [show rs.length * 3 + 2 - rs.length * 3 = 2 by omega]
  rfl
end
theorem SlR.take {α : Type} {T : Flat α} {w : World} {A : Option Addr} {n k : Nat} {xs : List α} (h : SlR T w A n xs) (hk : k ≤ n) : SlR T w A k (xs.take k) := by
  refine ⟨by rw [List.length_take, h.1]; omega, fun hn => ?_⟩
  obtain ⟨b, o, e, hb, hc⟩ := h.2 (by omega)
  refine ⟨b, o, e, hb, fun i x hx j u hu => ?_⟩
  rw [List.getElem?_take] at hx
  split at hx
  · exact hc i x hx j u hu
  · cases hx
theorem splB_mem (c : UInt8) : ∀ (s : Str), ∀ l ∈ splB c s, l.length ≤ s.length
  | [], l, h => by
    have h2 : l ∈ [([] : Str)] := h
    simp at h2
    subst h2
    exact Nat.le_refl _
  | x :: s, l, h => by
    have ih := splB_mem c s
    rw [splB_app] at h
    split at h
    · rcases List.mem_cons.1 h with rfl | h
      · exact Nat.zero_le _
      · have := ih l h
        simp only [List.length_cons]; omega
    · cases hL : splB c s with
      | nil => exact absurd hL (splB_ne c s)
      | cons a t =>
        rw [hL] at h ih
        simp only [headApp, List.mem_cons] at h
        rcases h with rfl | h
        · have := ih a (by simp)
          simp only [List.length_append, List.length_cons, List.length_nil]; omega
        · have := ih l (List.mem_cons_of_mem _ h)
          simp only [List.length_cons]; omega
theorem fieldsF_mem {s l : Str} (h : l ∈ fieldsF s) : l.length ≤ s.length := splB_mem 32 s l (List.mem_filter.1 h).1
theorem fieldsF_le (s : Str) : (fieldsF s).length ≤ s.length + 1 := Nat.le_trans (List.length_filter_le _ _) (splB_le 32 s)
theorem okFrom_cons (p : Bool) (seen r : List Str) (x : Str) : okFrom p seen (x :: r) = (wordB x && !inS seen x && (p || !patB x) && okFrom p (seen ++ [x]) r) := rfl
theorem take_succ_get {α : Type} {xs : List α} {k : Nat} {x : α} (hx : xs[k]? = some x) : xs.take (k + 1) = xs.take k ++ [x] := by rw [List.take_add_one, hx]; rfl
theorem drop_get {α : Type} {xs : List α} {k : Nat} {x : α} (hx : xs[k]? = some x) : xs.drop k = x :: xs.drop (k + 1) := by
  obtain ⟨hk, rfl⟩ := List.getElem?_eq_some_iff.1 hx
  exact List.drop_eq_getElem_cons hk
theorem any_take_succ {α : Type} (p : α → Bool) {xs : List α} {k : Nat} {x : α} (hx : xs[k]? = some x) : (xs.take (k + 1)).any p = ((xs.take k).any p || p x) := by
  rw [List.take_add_one, List.any_append, hx]
  simp
abbrev ktT : TypeId := 47
def ktF : Flat (RcdV × Str × Rcd) := ⟨4, fun x => [S x.2.1, .slice x.1.cA x.2.2.cmds.length x.1.cc, .slice x.1.nA x.2.2.needs.length x.1.nc, .slice x.1.oA x.2.2.out.length x.1.oc], fun _ => rfl⟩
theorem kts_get {w : World} {A : Option Addr} {n : Nat} {xs : List (RcdV × Str × Rcd)} (h : SlR ktF w A n xs) {k : Nat} (hk : k < n) :
    ∃ b o x, A = some ⟨b, o, none⟩ ∧ xs[k]? = some x ∧ (∀ ξ : X w No, ξ.v.cell? ⟨b, o + k * 4, none⟩ = some (S x.2.1)) ∧ (∀ ξ : X w No, ξ.v.cell? ⟨b, o + k * 4 + 1, none⟩ = some (.slice x.1.cA x.2.2.cmds.length x.1.cc)) ∧
      (∀ ξ : X w No, ξ.v.cell? ⟨b, o + k * 4 + 2, none⟩ = some (.slice x.1.nA x.2.2.needs.length x.1.nc)) ∧ (∀ ξ : X w No, ξ.v.cell? ⟨b, o + k * 4 + 3, none⟩ = some (.slice x.1.oA x.2.2.out.length x.1.oc)) := by
  obtain ⟨b, o, x, e, hb, hx, hc⟩ := h.get hk
  exact ⟨b, o, x, e, hx, fun ξ => (ξ.h.cell hb id).trans (hc 0 _ rfl), fun ξ => (ξ.h.cell hb id).trans (hc 1 _ rfl), fun ξ => (ξ.h.cell hb id).trans (hc 2 _ rfl), fun ξ => (ξ.h.cell hb id).trans (hc 3 _ rfl)⟩
def ktL (ks : List (RcdV × Str × Rcd)) (s : Str) : Option (RcdV × Rcd) := (ks.find? fun x => decide (s = x.2.1)).map fun x => (x.1, x.2.2)
abbrev ktM (ks : List (RcdV × Str × Rcd)) : Str → Option Value := fun s => (ktL ks s).map fun p => rcdV p.1 p.2
theorem ktM_cons (x : RcdV × Str × Rcd) (ks : List (RcdV × Str × Rcd)) : ktM (x :: ks) = fun k => if k = x.2.1 then some (rcdV x.1 x.2.2) else ktM ks k := by
  funext k
  show Option.map _ (Option.map _ (List.find? _ (x :: ks))) = _
  rw [List.find?_cons]
  by_cases h : k = x.2.1
  · rw [if_pos h]; simp [h]
  · rw [if_neg h]; simp [h, ktM, ktL]
set_option maxRecDepth 100000 in
set_option maxHeartbeats 4000000 in
theorem KeptOf_c {w : World} {A : Option Addr} {c : Nat} {ks : List (RcdV × Str × Rcd)} (h : SlR ktF w A ks.length ks) (hl : ks.length ≤ 1000) (hn : ∀ x ∈ ks, x.2.1.length ≤ 1000000) :
    Calls Try.prog 22 #[.slice A ks.length c] w fun e w' => ∃ b, e = .returned (.map (some b)) ∧ MapR w' b ks.length (ktM ks) ∧ Ext w w' ∧ w.heap.size ≤ b := by
  have HS := Lib.hid h
  have HN := Lib.hid hn
  have hmm := @run_makeMap Try.prog
  obtain ⟨w1, hw1⟩ : ∃ u, u = w.alloc (.map #[] 0) := ⟨_, rfl⟩
  obtain ⟨b, hb⟩ : ∃ b, b = w.heap.size := ⟨_, rfl⟩
  have M1 : Hid (MapR w1 b 0 (ktM [])) := by rw [hw1, hb]; exact MapR.made w
  have X1 : Hid (Ext w w1) := by rw [hw1]; exact (Only.refl No w).alloc _
  have HB : Hid (w.heap.size ≤ b) := Nat.le_of_eq hb.symm
  clear h hn
  go_enter Try.func22, Try.ntmps22
  go_upto_region 2 with fail
  rw [← hw1, ← hb]
  clear hw1 hb hmm
  go_wp2_with fail
  go_loopw [4] (fun i wr => ∃ k : Nat, k ≤ ks.length ∧ i = .int .i64 ((k : Int) - 1) ∧ MapR wr b (ks.length - k) (ktM (ks.drop k)) ∧ Ext w wr) (fun i _ => (intOf i + 1).toNat)
  case atStart => exact ⟨ks.length, Nat.le_refl _, by first | rfl | go_num, by rw [Nat.sub_self, List.drop_of_length_le (Nat.le_refl _)]; exact M1.out, X1.out⟩
  case round =>
    clear M1 X1
    obtain ⟨k, hk, rfl, hM, hx⟩ := hrel
    have M0 := Lib.hid hM
    have XR := Lib.hid hx
    clear hM hx
    cases k with
    | zero =>
      have M2 : Hid (MapR wr b ks.length (ktM ks)) := M0.out
      go_wp2_with fail
      go_ret
      exact ⟨b, rfl, M2.out, XR.out, HB.out⟩
    | succ k =>
      have e0 : ((k + 1 : Nat) : Int) - 1 = (k : Int) := by omega
      rw [e0]
      obtain ⟨bs, so, ⟨⟨cA, cc, nA, nc, oA, oc⟩, nm, r⟩, rfl, hks, d0, d1, d2, d3⟩ := kts_get HS.out (show k < ks.length by omega)
      have hnm : nm.length ≤ 1000000 := HN.out _ (List.mem_of_getElem? hks)
      have hdr : ks.drop k = (⟨⟨cA, cc, nA, nc, oA, oc⟩, nm, r⟩ : RcdV × Str × Rcd) :: ks.drop (k + 1) := by
        obtain ⟨h1, h2⟩ := List.getElem?_eq_some_iff.1 hks
        rw [List.drop_eq_getElem_cons h1, h2]
      have HD := Lib.hid (hdr ▸ ktM_cons (⟨⟨cA, cc, nA, nc, oA, oc⟩, nm, r⟩ : RcdV × Str × Rcd) (ks.drop (k + 1)))
      have f0 : ∀ ξ : X wr No, ξ.v.cell? ⟨bs, so + k * 4, none⟩ = some (S nm) := fun ξ => d0 ⟨ξ.v, XR.out.then_ext ξ.h⟩
      have f1 : ∀ ξ : X wr No, ξ.v.cell? ⟨bs, so + k * 4 + 1, none⟩ = some (.slice cA r.cmds.length cc) := fun ξ => d1 ⟨ξ.v, XR.out.then_ext ξ.h⟩
      have f2 : ∀ ξ : X wr No, ξ.v.cell? ⟨bs, so + k * 4 + 2, none⟩ = some (.slice nA r.needs.length nc) := fun ξ => d2 ⟨ξ.v, XR.out.then_ext ξ.h⟩
      have f3 : ∀ ξ : X wr No, ξ.v.cell? ⟨bs, so + k * 4 + 3, none⟩ = some (.slice oA r.out.length oc) := fun ξ => d3 ⟨ξ.v, XR.out.then_ext ξ.h⟩
      have xd : Ext wr wr.drew := (Only.refl No _).drew
      obtain ⟨w5, r1, r2, r3⟩ := (M0.out.keep xd id).put (show ks.length - (k + 1) < maxLen by unfold maxLen; omega) nm (by unfold maxLen; omega) (rcdV ⟨cA, cc, nA, nc, oA, oc⟩ r)
      have R2 := Lib.hid r2
      have X5 : Hid (Ext w w5) := (XR.out.then_ext xd).trans r3 fun q hq e => by have e : q = b := e; have := HB.out; omega
      have hmu : (Instr.mapUpdate rmapT (.map (some b)) (S nm) (.agg #[.slice cA r.cmds.length cc, .slice nA r.needs.length nc, .slice oA r.out.length oc])).run Try.prog wr.drew = .ok () w5 := r1
      clear hks d0 d1 d2 d3 hdr xd r1 r2 r3
      go_upto_region 5 with fail
      refine Mix.wp_draw [11] 11 (Cl wr No) (by kernel_rfl) (by kernel_rfl) (Cl.of (Only.refl _ _).drew) ?_
      (repeat' (refine Mix.lex_quiet0 rfl rfl rfl ?_; intro K hK; go_big_quiet_op; go_big_quiet_on))
      ((first | refine Mix.lex_goes0 rfl rfl ?_ | refine Mix.lex_goesG rfl rfl rfl (by with_reducible rfl) rfl ?_); intro K hK; go_simp)
      refine hK _ _ (fun hne => absurd rfl hne) ?_
      clear hK K f0 f1 f2 f3 hmu
      simp only [Act.put, List.setIfInBounds_toArray, List.set_cons_succ, List.set_cons_zero]
      refine Mix.lex_nil ?_
      have M5 : Hid (MapR w5 b (ks.length - k) (ktM (ks.drop k))) := by
        rw [Hid, HD.out, show ks.length - k = ks.length - (k + 1) + 1 by omega]
        exact R2.out
      go_wp2_with fail
      go_roundw
      case rel => exact ⟨k, by omega, rfl, M5.out, X5.out⟩
      case measure => simp [intOf]
theorem bodyPost_cell {P : Program} {fn : Func} {R : Ending → World → Prop} {a : Act} {w : World} {p u : Tmp} {ty : TypeId} {ad : Addr} {v : Value} (h : fn.results = #[.cell p ty, .tmp u])
    (hp : a.tmps.getD p undef = .pointer (some ad)) (hd : a.defers = []) (hl : (loadVar ty ad).run P w = .ok v w) (hR : R (.returned (.tuple #[v, a.tmps.getD u undef])) w) : bodyPost P fn R .ret a w := by
  refine bodyPost_ret (v := .tuple #[v, a.tmps.getD u undef]) ?_ hd hR
  rw [results_cell_tmp h, hp]
  simp [asAddr, Sem.run_pure, Result.andThen, hl]
theorem results_cell1 {fn : Func} {p : Tmp} {ty : TypeId} (h : fn.results = #[.cell p ty]) (tmps : Array Value) (P : Program) (w : World) :
    (results fn tmps).run P w = ((asAddr (tmps.getD p undef)).run P w).andThen fun a w₁ => (loadVar ty a).run P w₁ := by
  simp only [results, h]
  simp [Sem.run_bind, Result.andThen]
theorem bodyPost_cell1 {P : Program} {fn : Func} {R : Ending → World → Prop} {a : Act} {w : World} {p : Tmp} {ty : TypeId} {ad : Addr} {v : Value} (h : fn.results = #[.cell p ty])
    (hp : a.tmps.getD p undef = .pointer (some ad)) (hd : a.defers = []) (hl : (loadVar ty ad).run P w = .ok v w) (hR : R (.returned v) w) : bodyPost P fn R .ret a w := by
  refine bodyPost_ret (v := v) ?_ hd hR
  rw [results_cell1 h, hp]
  simp [asAddr, Sem.run_pure, Result.andThen, hl]
theorem fileF_head (x : File) : ∃ s l, fileF.enc x = S s :: l := ⟨_, _, rfl⟩
theorem strF_head (x : Str) : ∃ s l, strF.enc x = S s :: l := ⟨_, _, rfl⟩
theorem st_info : (Try.prog.info? 9).map (fun i => (i.zero, i.size, i.bytes)) = some (some (.string ⟨#[]⟩), 1, 16) := by kernel_rfl
theorem st_ty : Ety Try.prog 23 9 1 := Ety.mk' Try.underlying23 st_info rfl (by omega) (by omega)
structure Grp where
  targets : List Str
  needs : List Str
  cmds : List Str
  phony : Bool
  deriving DecidableEq
structure GrpV where
  tA : Option Addr
  tc : Nat
  nA : Option Addr
  nc : Nat
  cA : Option Addr
  cc : Nat
def grpCs (v : GrpV) (g : Grp) : Array Value := #[.slice v.tA g.targets.length v.tc, .slice v.nA g.needs.length v.nc, .slice v.cA g.cmds.length v.cc, .bool g.phony]
abbrev grpV (v : GrpV) (g : Grp) : Value := .agg (grpCs v g)
structure GrpR (w : World) (v : GrpV) (g : Grp) : Prop where
  t : SlR strF w v.tA g.targets.length g.targets
  n : SlR strF w v.nA g.needs.length g.needs
  c : SlR strF w v.cA g.cmds.length g.cmds
theorem GrpR.ext {w u : World} {v : GrpV} {g : Grp} (h : GrpR w v g) (hx : Ext w u) : GrpR u v g := ⟨h.t.ext hx, h.n.ext hx, h.c.ext hx⟩
abbrev KeyV := UInt8 → Option Str
def keyV (t f n k : Str) : KeyV := fun c => if c = 64 then some t else if c = 60 then some f else if c = 94 then some n else if c = 42 then some k else none
def autoF (v : KeyV) : Str → Str
  | [] => []
  | [x] => [x]
  | x :: y :: r => if x = 36 then (match v y with | some t => t ++ autoF v r | none => x :: autoF v (y :: r)) else x :: autoF v (y :: r)
def lookF (v : KeyV) : Str → Option Str
  | x :: y :: _ => if x = 36 then v y else none
  | _ => none
def joinSp : List Str → Str
  | [] => []
  | [x] => x
  | x :: y :: r => x ++ 32 :: joinSp (y :: r)
theorem autoF_look (v : KeyV) (x : UInt8) (r : Str) : autoF v (x :: r) = match lookF v (x :: r) with | some t => t ++ autoF v (r.drop 1) | none => x :: autoF v r := by
  cases r with
  | nil => rfl
  | cons y r =>
    by_cases hx : x = 36
    · cases h : v y <;> simp [autoF, lookF, hx, h]
    · simp [autoF, lookF, hx]
theorem autoF_drop_hit {v : KeyV} {s t : Str} {i : Nat} (h : lookF v (s.drop i) = some t) : autoF v (s.drop i) = t ++ autoF v (s.drop (i + 2)) ∧ i + 2 ≤ s.length := by
  cases hs : s.drop i with
  | nil => rw [hs] at h; cases h
  | cons x r =>
    rw [hs] at h
    have hl : r ≠ [] := by
      rintro rfl
      cases h
    have h2 : s.drop (i + 2) = r.drop 1 := by
      rw [Nat.add_comm i 2, ← List.drop_drop, List.drop_drop, Nat.add_comm 2 i, ← List.drop_drop, hs]
      rfl
    rw [autoF_look, h, h2]
    refine ⟨rfl, ?_⟩
    have := congrArg List.length hs
    have hr := List.length_pos_iff.2 hl
    simp only [List.length_drop, List.length_cons] at this
    omega
theorem autoF_drop_miss {v : KeyV} {s : Str} {i : Nat} (h : lookF v (s.drop i) = none) (hi : i < s.length) : autoF v (s.drop i) = s[i] :: autoF v (s.drop (i + 1)) := by
  rw [List.drop_eq_getElem_cons hi] at h ⊢
  rw [autoF_look, h]
theorem autoF_len {v : KeyV} {K : Nat} (hv : ∀ c t, v c = some t → t.length ≤ K) : ∀ s : Str, (autoF v s).length ≤ s.length * (K + 1)
  | [] => by simp [autoF]
  | [x] => by simp [autoF]
  | x :: y :: r => by
    have h1 := autoF_len hv (y :: r)
    have h2 := autoF_len hv r
    rw [autoF_look]
    have e1 : (x :: y :: r).length * (K + 1) = r.length * (K + 1) + (K + 1) + (K + 1) := by simp only [List.length_cons, Nat.succ_mul]
    have e2 : (y :: r).length * (K + 1) = r.length * (K + 1) + (K + 1) := by simp only [List.length_cons, Nat.succ_mul]
    rw [e2] at h1
    rw [e1]
    cases h : lookF v (x :: y :: r) with
    | none => simp only [List.length_cons]; omega
    | some t =>
      have : t.length ≤ K := by
        by_cases hx : x = 36
        · simp only [lookF, hx, if_true] at h
          exact hv _ _ h
        · simp [lookF, hx] at h
      simp only [List.length_append, List.drop_succ_cons, List.drop_zero]
      omega
theorem keyV_len {t f n k : Str} {K : Nat} (h1 : t.length ≤ K) (h2 : f.length ≤ K) (h3 : n.length ≤ K) (h4 : k.length ≤ K) : ∀ c u, keyV t f n k c = some u → u.length ≤ K := by
  intro c u h
  unfold keyV at h
  split at h
  · cases h; exact h1
  · split at h
    · cases h; exact h2
    · split at h
      · cases h; exact h3
      · split at h
        · cases h; exact h4
        · cases h
theorem joinSp_len {K : Nat} : ∀ {l : List Str}, (∀ x ∈ l, x.length ≤ K) → (joinSp l).length ≤ l.length * (K + 1)
  | [], _ => by simp [joinSp]
  | [x], h => by have := h x (by simp); simp [joinSp]; omega
  | x :: y :: r, h => by
    have h1 := joinSp_len (l := y :: r) (fun z hz => h z (List.mem_cons_of_mem _ hz))
    have h2 := h x (by simp)
    have e1 : (x :: y :: r).length * (K + 1) = (y :: r).length * (K + 1) + (K + 1) := by rw [List.length_cons, Nat.succ_mul]
    rw [e1]
    simp only [joinSp, List.length_append, List.length_cons] at h1 ⊢
    omega
theorem joinSp_snoc : ∀ (l : List Str) (x : Str), l ≠ [] → joinSp (l ++ [x]) = joinSp l ++ 32 :: x
  | [], _, h => absurd rfl h
  | [y], x, _ => rfl
  | y :: z :: r, x, _ => by
    have := joinSp_snoc (z :: r) x (by simp)
    show y ++ 32 :: joinSp (z :: r ++ [x]) = (y ++ 32 :: joinSp (z :: r)) ++ 32 :: x
    rw [this]
    simp
def preB (s p : Str) : Bool := decide (p.length ≤ s.length) && (s.take p.length == p)
def sufB (s p : Str) : Bool := decide (p.length ≤ s.length) && (s.drop (s.length - p.length) == p)
def stemL (pat name : Str) : Str × Bool :=
  if (cutB 37 pat).2.2 = true ∧ (cutB 37 pat).1.length + (cutB 37 pat).2.1.length < name.length ∧ preB name (cutB 37 pat).1 = true ∧ sufB name (cutB 37 pat).2.1 = true
  then ((name.take (name.length - (cutB 37 pat).2.1.length)).drop (cutB 37 pat).1.length, true) else ([], false)
end Go.Proofs.Ytnhaekifcieeoaa
