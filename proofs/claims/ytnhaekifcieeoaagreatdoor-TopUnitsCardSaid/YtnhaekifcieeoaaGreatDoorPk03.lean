/- Put together: Split, Types, Name, Fld, Mks, Aut, Stem, FilesL. -/
import Derived.Test.YtnhaekifcieeoaaGreatDoorPk02
import Derived.Test.YtnhaekifcieeoaaGreatDoorPk01
import Derived.Test.YtnhaekifcieeoaaGreatDoorProg
import Derived.Lib.FieldsP
import Derived.Lib.DecodeN
import Derived.Lib.Replace
import Derived.Shelf.GgClosure.Gives
import Derived.Shelf.Abstract
namespace Go.Proofs.YtnhaekifcieeoaaGreatDoor
open Go Go.RowKit
def headApp (p : Str) : List Str → List Str
  | h :: t => (p ++ h) :: t
  | [] => [p]
theorem splB_app (c x : UInt8) (s : Str) : splB c (x :: s) = if x = c then [] :: splB c s else headApp [x] (splB c s) := by
  rw [splB_cons]
  split
  · rfl
  · cases splB c s <;> rfl
theorem headApp_two (p q : Str) (l : List Str) : headApp p (headApp q l) = headApp (p ++ q) l := by
  cases l <;> simp [headApp]
theorem headApp_nil {l : List Str} (h : l ≠ []) : headApp [] l = l := by
  cases l with
  | nil => exact absurd rfl h
  | cons a l => rfl
theorem splB_le (c : UInt8) : ∀ s : Str, (splB c s).length ≤ s.length + 1
  | [] => by simp [splB]
  | x :: s => by
    have := splB_le c s
    rw [splB_app]
    split
    · simp; omega
    · cases h : splB c s with
      | nil => simp [headApp]
      | cons a l => rw [h] at this; simp [headApp] at this ⊢; omega
theorem map_S (l : List Str) : l.map (fun s => Value.string ⟨s.toArray⟩) = l.flatMap strF.enc := by
  induction l with
  | nil => rfl
  | cons x l ih => rw [List.map_cons, ih]; rfl
theorem splitB_str (c : UInt8) (k : Nat) (s : Str) : (Lib.splitB ⟨#[c]⟩ 0 k ⟨s.toArray⟩).map Value.string = (Lib.splitK [c] 0 k s).flatMap strF.enc := by
  rw [← map_S]
  have := Lib.splitB_data ⟨#[c]⟩ 0 k ⟨s.toArray⟩
  rw [show (⟨#[c]⟩ : ByteArray).data.toList = [c] from rfl, show (⟨s.toArray⟩ : ByteArray).data.toList = s from rfl] at this
  rw [← this, List.map_map]
  rfl
theorem Split_c (s : Str) (hs : s.length ≤ 100000) (c : UInt8) {w : World} (hm : Ml w) :
    Calls Tryz.prog 43 #[S s, S [c]] w fun e w' => ∃ A' c', e = .returned (.slice A' (splB c s).length c') ∧ Fresh strF 9 w w' A' c' (splB c s) := by
  obtain ⟨m, hm⟩ := hm
  refine (Tryz.strings_Split ⟨s.toArray⟩ ⟨#[c]⟩ m w (Nat.lt_of_le_of_lt hs (by omega)) hm (by show 1 ≤ 1; omega)).mono ?_
  rintro e w' ⟨rfl, rfl⟩
  have hk := splitK_byte c _ s (Nat.le_refl _)
  have hcount : Lib.countB ⟨s.toArray⟩ ⟨#[c]⟩ = Lib.count s [c] := rfl
  have hle := splB_le c s
  rw [hcount, splitB_str, hk.1, hk.2]
  refine ⟨_, _, rfl, ?_, (Only.refl No w).alloc _, fun g hg => by simp [Value.ownBlock] at hg; omega⟩
  refine own_of_block (rest := []) (by rw [List.append_nil]; exact Cs.new w _ _) (Nat.zero_le _) (length_flatMap_enc _ _) (by rw [List.append_nil]; exact length_flatMap_enc _ _) (Nat.le_refl _) (by unfold maxLen; omega)
theorem file_stood : Tryz.prog.stoodInHeld 75 = false := by kernel_rfl
@[go_sem] theorem file_guard : Tryz.prog.eqGuardType Tryz.prog.depth 75 = false := by kernel_rfl
theorem file_under : Tryz.prog.underlying 75 = some (.struct (Tryz.prog.fieldsOf 75)) := by kernel_rfl
def fileB (x y x' y' : Str) : Bool := decide (x = x' ∧ y = y')
theorem file_eqIn (a b c d : Str) (w : World) : (Op.equalIn 10000 75 (.agg #[S a, S b]) (.agg #[S c, S d])).run Tryz.prog w = .ok (fileB a b c d) w := by
  have u3 := Tryz.underlying9
  have a3 := Tryz.isAgg9
  have z3 := Tryz.sizeOf9
  unfold fileB
  rw [show (10000 : Nat) = 9999 + 1 from rfl, run_equalIn_agg w 9999 75 _ _ file_under file_stood]
  simp only [Program.fieldsOf, Tryz.underlying75]
  go_simp
  by_cases h1 : a = c <;> by_cases h2 : b = d <;> simp [h1, h2]
@[go_sem high] theorem file_eql (a b c d : Str) (w : World) : (binOp .eql 75 (.agg #[S a, S b]) (.agg #[S c, S d])).run Tryz.prog w = .ok (.bool (fileB a b c d)) w := by
  rw [run_eql_struct, file_eqIn]; rfl
@[go_sem high] theorem file_neq (a b c d : Str) (w : World) : (binOp .neq 75 (.agg #[S a, S b]) (.agg #[S c, S d])).run Tryz.prog w = .ok (.bool (!fileB a b c d)) w := by
  rw [run_neq_struct, file_eqIn]; rfl
@[go_sem] theorem file_build (a b : ByteArray) (w : World) : (Instr.build 75 #[(0, .string a), (1, .string b)]).run Tryz.prog w = .ok (.agg #[.string a, .string b]) w := run_build w 75 _ _ (by kernel_rfl)
def nameC (c : UInt8) (first : Bool) : Bool := (decide (97 ≤ c.toNat) && decide (c.toNat ≤ 122)) || (!first && ((decide (48 ≤ c.toNat) && decide (c.toNat ≤ 57)) || c.toNat == 46))
def nameFrom : Str → Nat → Bool
  | [], _ => true
  | c :: r, i => nameC c (i == 0) && nameFrom r (i + 1)
def nameB (s : Str) : Bool := decide (1 ≤ s.length) && decide (s.length ≤ 8) && nameFrom s 0
theorem nameFrom_at (l : Str) (k : Nat) (h : k < l.length) : nameFrom (l.drop k) k = (nameC l[k] (k == 0) && nameFrom (l.drop (k + 1)) (k + 1)) := by
  rw [List.drop_eq_getElem_cons h]; rfl
set_option maxHeartbeats 2000000 in
theorem Name_c (s : Str) (w : World) (hs : s.length ≤ 10000) :
    Calls Tryz.prog 36 #[S s] w fun e w' => e = .returned (.bool (nameB s)) ∧ Ext w w' := by
  go_enter Tryz.func36, Tryz.ntmps36
  go_wp2_with fail
  go_loop [7] (fun i => ∃ k : Nat, k ≤ s.length ∧ i = .int .i64 k ∧ nameFrom s 0 = nameFrom (s.drop k) k) (fun i => s.length - (intOf i).toNat)
  case atStart => exact ⟨0, Nat.zero_le _, rfl, rfl⟩
  case round =>
    obtain ⟨k, hk, rfl, hF⟩ := hrel
    have HF := Lib.hid hF
    clear hF
    by_cases hlt : k < s.length
    · have hN := Lib.hid (nameFrom_at s k hlt)
      have HT : Hid (nameC s[k] (k == 0) = true → nameFrom s 0 = nameFrom (s.drop (k + 1)) (k + 1)) := fun h => by rw [HF.out, hN.out, h, Bool.true_and]
      have HB : Hid (nameC s[k] (k == 0) = false → nameB s = false) := fun h => by unfold nameB; rw [HF.out, hN.out, h, Bool.false_and, Bool.and_false]
      clear HF hN
      go_upto_region 5 with fail
      go_cut [34] from 13 to 34 (fun c wx => c = .bool (!nameC s[k] (k == 0)) ∧ wx = w)
      case first =>
        refine Mix.wp_plain [] (fun w' => w' = _) rfl ?_
        (repeat' (first | (refine Mix.lex_quiet0 rfl rfl rfl ?_; intro K hK; go_big_quiet_op; go_big_quiet_on) | (refine Mix.lex_quietG rfl rfl rfl (by with_reducible rfl) rfl rfl ?_; intro K hK; go_big_quiet_op; go_big_quiet_on) | ((first | refine Mix.lex_skipT rfl rfl rfl (by with_reducible rfl) ?_ | refine Mix.lex_skipF rfl rfl rfl (by with_reducible rfl) ?_ | refine Mix.lex_skipU rfl rfl rfl (by with_reducible rfl) ?_); simp only [Act.put, List.setIfInBounds_toArray, List.set_cons_succ, List.set_cons_zero]) | (refine Mix.lex_part rfl rfl rfl rfl (fun hq => ?_) (fun hq => ?_) <;> (fail_if_success (guard_hyp hq :ₛ true = true)) <;> (fail_if_success (guard_hyp hq :ₛ false = false)) <;> first | (exfalso; cases hq; done) | (exfalso; simp only [decide_eq_true_eq, decide_eq_false_iff_not, beq_iff_eq, beq_eq_false_iff_ne, ne_eq, Int.not_lt, Int.not_le] at hq; omega) | simp only [Act.put, List.setIfInBounds_toArray, List.set_cons_succ, List.set_cons_zero])))
        all_goals refine Mix.lex_nil ?_
        all_goals (go_wp2_with fail; go_meet; refine ⟨congrArg Value.bool ?_, rfl⟩)
        all_goals (clear HT HB; simp only [decide_eq_true_eq, decide_eq_false_iff_not, beq_iff_eq, beq_eq_false_iff_ne, ne_eq] at *; unfold nameC; rw [Bool.eq_iff_iff]; simp; omega)
      case rest =>
        obtain ⟨rfl, rfl⟩ := hcut
        cases hc : nameC s[k] (k == 0)
        · go_wp2
          go_ret
          exact ⟨ret_bool (HB.out hc).symm, Only.refl _ _⟩
        · go_wp2
          go_round
          case rel => exact ⟨k + 1, by omega, by go_num, HT.out hc⟩
          case measure => simp [intOf]; omega
    · have hlen : k = s.length := by omega
      have HB : Hid (nameFrom s 0 = true) := by rw [Hid, HF.out, hlen, List.drop_length]; rfl
      clear HF
      clear hlen
      go_wp2_with (refine Mix.wpList_guarded rfl ?_; (repeat' (first | (refine Mix.lex_quiet0 rfl rfl rfl ?_; intro K hK; go_big_quiet_op; go_big_quiet_on) | (refine Mix.lex_quietG rfl rfl rfl (by with_reducible rfl) rfl rfl ?_; intro K hK; go_big_quiet_op; go_big_quiet_on) | ((first | refine Mix.lex_skipT rfl rfl rfl (by with_reducible rfl) ?_ | refine Mix.lex_skipF rfl rfl rfl (by with_reducible rfl) ?_ | refine Mix.lex_skipU rfl rfl rfl (by with_reducible rfl) ?_); simp only [Act.put, List.setIfInBounds_toArray, List.set_cons_succ, List.set_cons_zero]) | (refine Mix.lex_part rfl rfl rfl rfl (fun hq => ?_) (fun hq => ?_) <;> (fail_if_success (guard_hyp hq :ₛ true = true)) <;> (fail_if_success (guard_hyp hq :ₛ false = false)) <;> first | (exfalso; cases hq; done) | (exfalso; simp only [decide_eq_true_eq, decide_eq_false_iff_not, beq_iff_eq, beq_eq_false_iff_ne, ne_eq, Int.not_lt, Int.not_le] at hq; omega) | simp only [Act.put, List.setIfInBounds_toArray, List.set_cons_succ, List.set_cons_zero]))); all_goals (refine Mix.lex_nil ?_))
      all_goals
        go_ret
        refine ⟨ret_bool ?_, Only.refl _ _⟩
        unfold nameB
        rw [HB.out, Bool.and_true]
        clear HB hlt hk
        revert hq
        cases s with
        | nil => simp
        | cons x l => intro hq; first | (simp at hq; done) | (rw [Bool.eq_iff_iff]; simp; omega)
def neB (w : Str) : Bool := !(w == [])
def fieldsF (s : Str) : List Str := (splB 32 s).filter neB
theorem splB_chunk (c : UInt8) : ∀ (a r : Str), c ∉ a → splB c (a ++ r) = headApp a (splB c r)
  | [], r, _ => by
    cases h : splB c r with
    | nil => exact absurd h (splB_ne c r)
    | cons x l => simp [headApp, h]
  | x :: a, r, h => by
    have hx : x ≠ c := fun e => h (by simp [e])
    rw [List.cons_append, splB_app, if_neg hx, splB_chunk c a r (fun hm => h (List.mem_cons_of_mem _ hm)), headApp_two]
    rfl
theorem dec_blank {n b0 b1 b2 b3 : Nat} : (Lib.decodeN n b0 b1 b2 b3).1 = 32 ↔ b0 = 32 := by
  unfold Lib.decodeN
  repeat' split
  all_goals (try dsimp only)
  all_goals omega
theorem dec_width {n b0 b1 b2 b3 : Nat} (hn : 1 ≤ n) : 1 ≤ (Lib.decodeN n b0 b1 b2 b3).2 ∧ (Lib.decodeN n b0 b1 b2 b3).2 ≤ n ∧ (2 ≤ (Lib.decodeN n b0 b1 b2 b3).2 → b1 ≠ 32) ∧ (3 ≤ (Lib.decodeN n b0 b1 b2 b3).2 → b2 ≠ 32) ∧ (4 ≤ (Lib.decodeN n b0 b1 b2 b3).2 → b3 ≠ 32) ∧ (Lib.decodeN n b0 b1 b2 b3).2 ≤ 4 ∧ (b0 = 32 → (Lib.decodeN n b0 b1 b2 b3).2 = 1) := by
  unfold Lib.decodeN
  repeat' split
  all_goals (try dsimp only)
  all_goals (refine ⟨?_, ?_, ?_, ?_, ?_, ?_, ?_⟩ <;> omega)
theorem get_at (l : Str) {i : Nat} (h : i < l.length) : (⟨l.toArray⟩ : ByteArray).get! i = l[i] := by
  show l.toArray[i]! = l[i]
  simp [h]
theorem blank_step (l : Str) {pos : Nat} (h : pos < l.length) : ∃ r w, Utf8.decode ⟨l.toArray⟩ pos = (r, w) ∧ 1 ≤ w ∧ pos + w ≤ l.length ∧
    ((r = 32 ∧ w = 1 ∧ l.drop pos = 32 :: l.drop (pos + 1)) ∨ (r ≠ 32 ∧ (32 : UInt8) ∉ (l.drop pos).take w ∧ l.drop pos = (l.drop pos).take w ++ l.drop (pos + w))) := by
  have hsz : (⟨l.toArray⟩ : ByteArray).size = l.length := by simp [ByteArray.size]
  have hd := Lib.decode_at ⟨l.toArray⟩ pos
  rw [hsz] at hd
  obtain ⟨w1, w2, w3, w4, w5, w6, w7⟩ := dec_width (n := l.length - pos) (b0 := ((⟨l.toArray⟩ : ByteArray).get! pos).toNat) (b1 := ((⟨l.toArray⟩ : ByteArray).get! (pos + 1)).toNat) (b2 := ((⟨l.toArray⟩ : ByteArray).get! (pos + 2)).toNat) (b3 := ((⟨l.toArray⟩ : ByteArray).get! (pos + 3)).toNat) (by omega)
  have hb := @dec_blank (l.length - pos) ((⟨l.toArray⟩ : ByteArray).get! pos).toNat ((⟨l.toArray⟩ : ByteArray).get! (pos + 1)).toNat ((⟨l.toArray⟩ : ByteArray).get! (pos + 2)).toNat ((⟨l.toArray⟩ : ByteArray).get! (pos + 3)).toNat
  rw [← hd] at w1 w2 w3 w4 w5 w6 w7 hb
  clear hd
  generalize Utf8.decode ⟨l.toArray⟩ pos = q at *
  obtain ⟨r, w⟩ := q
  dsimp only at *
  refine ⟨r, w, rfl, w1, by omega, ?_⟩
  have g0 := get_at l h
  by_cases hr : r = 32
  · left
    have h32 := hb.1 hr
    have hw := w7 h32
    have e : l[pos] = 32 := by
      rw [g0] at h32
      apply UInt8.toNat_inj.1
      exact h32
    exact ⟨hr, hw, by rw [List.drop_eq_getElem_cons h, e]⟩
  · right
    refine ⟨hr, fun hm => ?_, ?_⟩
    · obtain ⟨j, hj, hj2⟩ := List.getElem_of_mem hm
      rw [List.getElem_take, List.getElem_drop] at hj2
      rw [List.length_take, List.length_drop] at hj
      have hjl : pos + j < l.length := by omega
      have e32 : ((⟨l.toArray⟩ : ByteArray).get! (pos + j)).toNat = 32 := by rw [get_at l hjl, hj2]; rfl
      clear hj2 hjl
      match j, hj, e32 with
      | 0, _, e32 => exact hr (hb.2 e32)
      | 1, hj, e32 => exact w3 (by omega) e32
      | 2, hj, e32 => exact w4 (by omega) e32
      | 3, hj, e32 => exact w5 (by omega) e32
      | j + 4, hj, _ => omega
    · conv => lhs; rw [← List.take_append_drop w (l.drop pos)]
      rw [List.drop_drop]
def pieceOf (l : Str) (x : Nat × Nat) : Str := Lib.pieceU l x.1 x.2
theorem extract_piece (l : Str) (a b : Nat) : ((⟨l.toArray⟩ : ByteArray).extract a b) = ⟨(Lib.pieceU l a b).toArray⟩ := by
  rw [S_extract]
  congr 2
  unfold Lib.pieceU
  rw [List.drop_take]
theorem headApp_cons (p : Str) (L : List Str) : headApp p ([] :: L) = p :: L := by simp [headApp]
theorem sp_succ (p : Nat → Bool) (s : ByteArray) (f pos : Nat) (st : Option Nat) (acc : List (Nat × Nat)) : Lib.spansFromP p s (f + 1) pos st acc =
    if pos < s.size then
      (if p (Utf8.decode s pos).1 then
        (match st with
         | some a => Lib.spansFromP p s f (pos + (Utf8.decode s pos).2) none (acc ++ [(a, pos)])
         | none => Lib.spansFromP p s f (pos + (Utf8.decode s pos).2) none acc)
       else
        (match st with
         | some a => Lib.spansFromP p s f (pos + (Utf8.decode s pos).2) (some a) acc
         | none => Lib.spansFromP p s f (pos + (Utf8.decode s pos).2) (some pos) acc))
    else (acc, st) := rfl
theorem spans_fields (l : Str) : ∀ (f pos : Nat) (st : Option Nat) (acc : List (Nat × Nat)), l.length - pos ≤ f → pos ≤ l.length → (∀ a, st = some a → a < pos) →
    (Lib.closeSpans ⟨l.toArray⟩ (Lib.spansFromP (fun r => r == 32) ⟨l.toArray⟩ f pos st acc)).map (pieceOf l) = acc.map (pieceOf l) ++ (headApp (Lib.openPiece l st pos) (splB 32 (l.drop pos))).filter neB
  | f, pos, st, acc, hf, hp, ha => by
    have hsz : (⟨l.toArray⟩ : ByteArray).size = l.length := by simp [ByteArray.size]
    by_cases hlt : pos < l.length
    · obtain ⟨f, rfl⟩ : ∃ g, f = g + 1 := ⟨f - 1, by omega⟩
      obtain ⟨r, w, hd, hw, hwl, hc⟩ := blank_step l hlt
      rw [sp_succ, if_pos (by rw [hsz]; exact hlt), hd]
      dsimp only
      rcases hc with ⟨rfl, rfl, e⟩ | ⟨hr, hn, e⟩
      · rw [if_pos (show ((32 : Nat) == 32) = true from rfl), e, splB_app, if_pos rfl]
        cases st with
        | none =>
          dsimp only
          rw [spans_fields l f (pos + 1) none acc (by omega) (by omega) (fun a h => by cases h)]
          simp only [Lib.openPiece, headApp_nil (splB_ne 32 _)]
          rfl
        | some a =>
          dsimp only
          rw [spans_fields l f (pos + 1) none (acc ++ [(a, pos)]) (by omega) (by omega) (fun a h => by cases h)]
          have hne : neB (Lib.pieceU l a pos) = true := by
            have := Lib.pieceU_ne l a pos (ha a rfl) hp
            simpa [neB] using this
          simp only [Lib.openPiece, headApp_nil (splB_ne 32 _), headApp_cons, List.filter_cons, hne, if_true, List.map_append, List.map_cons, List.map_nil, List.append_assoc, List.singleton_append]
          rfl
      · rw [if_neg (by simpa using hr), e, splB_chunk 32 _ _ hn, headApp_two]
        cases st with
        | none =>
          dsimp only
          rw [spans_fields l f (pos + w) (some pos) acc (by omega) hwl (fun a h => by injection h; omega)]
          have e2 : Lib.openPiece l (some pos) (pos + w) = (l.drop pos).take w := by
            show Lib.pieceU l pos (pos + w) = _
            unfold Lib.pieceU
            rw [Nat.add_sub_cancel_left]
          rw [e2]
          simp only [Lib.openPiece, List.nil_append]
        | some a =>
          dsimp only
          rw [spans_fields l f (pos + w) (some a) acc (by omega) hwl (fun b h => by injection h with h; have := ha a rfl; omega)]
          have e2 : Lib.openPiece l (some a) (pos + w) = Lib.openPiece l (some a) pos ++ (l.drop pos).take w := (Lib.pieceU_grow l a pos w (by have := ha a rfl; omega)).symm
          rw [e2]
    · rw [Lib.spansFromP_end _ _ _ _ _ _ (by rw [hsz]; exact hlt)]
      have hd : l.drop pos = [] := List.drop_of_length_le (by omega)
      rw [hd]
      unfold Lib.closeSpans
      cases st with
      | none => simp [Lib.openPiece, splB, headApp, neB]
      | some a =>
        have hpl : pos = l.length := by omega
        have hne : neB (Lib.pieceU l a pos) = true := by
          have := Lib.pieceU_ne l a pos (ha a rfl) hp
          simpa [neB] using this
        simp only [Lib.openPiece, splB, headApp, List.append_nil, List.filter_cons, hne, if_true, List.filter_nil, List.map_append, List.map_cons, List.map_nil, hsz]
        rw [← hpl]
        rfl
termination_by f pos => (l.length - pos, f)
decreasing_by all_goals (simp_wf; omega)
theorem goFields_blank (l : Str) : Lib.goFieldsP (fun r => r == 32) ⟨l.toArray⟩ = (fieldsF l).map fun w => (⟨w.toArray⟩ : ByteArray) := by
  have hsz : (⟨l.toArray⟩ : ByteArray).size = l.length := by simp [ByteArray.size]
  unfold Lib.goFieldsP Lib.spansOfP
  have h := spans_fields l l.length 0 none [] (by omega) (Nat.zero_le _) (fun a h => by cases h)
  rw [List.map_nil, List.nil_append] at h
  simp only [Lib.openPiece, headApp_nil (splB_ne 32 _), List.drop_zero] at h
  have e : fieldsF l = (splB 32 l).filter neB := rfl
  rw [e, ← h, hsz, List.map_map]
  apply List.map_congr_left
  intro x _
  exact extract_piece l x.1 x.2
open Go.Lib in
theorem blank_pred (w : World) : PredAt Tryz.prog 130 #[] encR (fun r => r == 32) w := fun W r _ => by
  have e : ((r : Int) == 32) = (r == 32) := by
    rw [Bool.eq_iff_iff, beq_iff_eq, beq_iff_eq]
    omega
  unfold FnGives
  go_enter Tryz.func130, Tryz.ntmps130
  go_wp2
  go_ret
  exact ⟨by rw [← e]; rfl, 0, rfl⟩
theorem words_c (s : Str) (hs : s.length ≤ 100000) (w : World) :
    Calls Tryz.prog 100 #[S s] w fun e w' => ∃ A' c', e = .returned (.slice A' (fieldsF s).length c') ∧ Fresh strF 9 w w' A' c' (fieldsF s) := by
  have hsz : (⟨s.toArray⟩ : ByteArray).size = s.length := by simp [ByteArray.size]
  have HC := Lib.hid (Tryz.strings_FieldsFunc 130 #[] (enters_of Tryz.func130 (by kernel_rfl) rfl) _ ⟨s.toArray⟩ w (by rw [hsz]; omega) (blank_pred w))
  go_enter Tryz.func100, Tryz.ntmps100
  go_wp2_with fail
  refine HC.out.mono ?_
  rintro e u ⟨A, rfl, hA, ho, hb⟩
  clear HC
  rw [goFields_blank] at ho ⊢
  rw [List.length_map] at ho ⊢
  rw [List.map_map, show (Value.string ∘ fun w : Str => (⟨w.toArray⟩ : ByteArray)) = (fun w => Value.string ⟨w.toArray⟩) from rfl, map_S] at ho
  have HF : Hid (Fresh strF 9 w u (some ⟨A, 0, none⟩) (fieldsF s).length (fieldsF s)) := by
    refine ⟨?_, Only.below hb, fun g hg => by simp [Value.ownBlock] at hg; omega⟩
    rcases ho with ⟨h1, h2⟩
    refine ⟨h1, ?_⟩
    rcases h2 with h2 | ⟨g, cap, cur, e, _, h3⟩
    · exact .inl h2
    · exact .inr ⟨g, cap, cur, e, Nat.zero_le _, h3⟩
  clear ho hb
  go_wp2_with fail
  go_ret
  exact ⟨_, _, rfl, HF.out⟩
def patB (s : Str) : Bool := (cutB 37 s).2.2
theorem indexByte_cut (c : UInt8) : ∀ s : Str, decide (0 ≤ Lib.indexByte s c) = (cutB c s).2.2
  | [] => rfl
  | x :: s => by
    have ih := indexByte_cut c s
    have hg := Lib.indexByte_ge s c
    rw [cutB_cons, Lib.indexByte]
    by_cases h : x = c
    · simp [h]
    · rw [if_neg h, if_neg (by simpa using h), ← ih]
      by_cases h1 : Lib.indexByte s c = -1
      · simp [h1]
      · rw [if_neg (by simpa using h1)]
        have : 0 ≤ Lib.indexByte s c := by omega
        rw [decide_eq_true this, decide_eq_true (by omega)]
def onceF (s t : Str) : Str := if (cutB 37 s).2.2 = true then (cutB 37 s).1 ++ t ++ (cutB 37 s).2.1 else s
theorem onceF_len (s t : Str) : (onceF s t).length ≤ s.length + t.length := by
  have := cutB_len 37 s
  unfold onceF
  split
  · simp only [List.length_append]; omega
  · omega
theorem parts_take {s a b : Str} {c : UInt8} (h : s = a ++ c :: b) : s.take a.length = a ∧ s.drop (a.length + 1) = b := by
  subst h
  refine ⟨List.take_left, ?_⟩
  rw [← List.drop_drop, List.drop_left]
  rfl
theorem replace_once (s t : Str) (h : ([37] == t) = false) : Lib.replace s [37] t 1 = onceF s t := by
  have hi := index_cut 37 s
  unfold Lib.replace onceF
  rw [if_neg (by rw [h]; exact Bool.false_ne_true)]
  by_cases hb : (cutB 37 s).2.2 = true
  · rw [if_pos hb] at hi ⊢
    have hp := cut_parts 37 s hb
    have hc : Lib.count s [37] = 1 + Lib.count (s.drop ((cutB 37 s).1.length + 1)) [37] := Lib.count_hit (by simp) hi
    have hn : Lib.replaceNum s [37] 1 = 1 := by
      unfold Lib.replaceNum
      rw [if_neg (by omega)]
      rfl
    rw [hn, Lib.replaceK_hit _ _ 0 s _ hi, Lib.replaceK]
    obtain ⟨e1, e2⟩ := parts_take hp
    rw [List.length_singleton, e1, e2]
  · rw [if_neg hb] at hi ⊢
    have hn : Lib.replaceNum s [37] 1 = 0 := by
      unfold Lib.replaceNum
      rw [Lib.count_miss hi]
      rfl
    rw [hn, Lib.replaceK]
def wordB (s : Str) : Bool := nameB (onceF s [97])
theorem pattern_c (s : Str) (w : World) : Calls Tryz.prog 102 #[S s] w fun e w' => e = .returned (.bool (patB s)) ∧ Ext w w' := by
  have HC := Lib.hid (Tryz.strings_Contains_one ⟨s.toArray⟩ 37 w)
  go_enter Tryz.func102, Tryz.ntmps102
  go_wp2_with fail
  refine HC.out.mono ?_
  rintro e u ⟨rfl, rfl⟩
  clear HC
  go_wp2_with fail
  go_ret
  exact ⟨by rw [patB, ← indexByte_cut]; rfl, Only.refl _ _⟩
theorem word_c (s : Str) (hs : s.length ≤ 5000) {w : World} (hm : Ml w) : Calls Tryz.prog 103 #[S s] w fun e w' => e = .returned (.bool (wordB s)) ∧ Ext w w' := by
  obtain ⟨m, hm⟩ := hm
  have hsz : (⟨s.toArray⟩ : ByteArray).size = s.length := by simp [ByteArray.size]
  have hcnt : Lib.countB ⟨s.toArray⟩ ⟨#[37]⟩ ≤ s.length := by
    have h1 : Lib.countB ⟨s.toArray⟩ ⟨#[37]⟩ = Lib.count s [37] := rfl
    have h2 := (splitK_byte 37 _ s (Nat.le_refl _)).2
    have h3 := splB_le 37 s
    omega
  have HC : Hid (Calls Tryz.prog 117 #[S s, S [37], S [97], .int .i64 1] w fun e w' => e = .returned (S (onceF s [97])) ∧ Ext w w') := by
    refine (Tryz.strings_Replace ⟨s.toArray⟩ ⟨#[37]⟩ ⟨#[97]⟩ 1 m w (by rw [hsz]; omega) hm (by show 1 ≤ 1; omega) (by rw [hsz]; show s.length + _ * 1 ≤ _; omega)).mono ?_
    rintro e w' ⟨rfl, hb⟩
    refine ⟨?_, Only.below hb⟩
    have := replace_once s [97] rfl
    rw [← this]
  have hl := onceF_len s [97]
  rw [List.length_singleton] at hl
  have HN := Lib.hid (fun w => Name_c (onceF s [97]) w (by omega))
  unfold wordB
  generalize onceF s [97] = t at HC HN ⊢
  generalize nameB t = b at HN ⊢
  clear hm hcnt
  go_enter Tryz.func103, Tryz.ntmps103
  go_wp2_with fail
  refine (HC.out).mono ?_; rintro e uu ⟨rfl, hu⟩; obtain ⟨ξ1, hnew⟩ : ∃ ξ : X w No, ξ.v = uu := ⟨⟨uu, (X.here w No).h.then_ext hu⟩, rfl⟩; subst hnew; have Hξ1 := Lib.hid hu; clear hu
  go_wp2_with fail
  refine (HN.out _).mono ?_; rintro e uu ⟨rfl, hu⟩; obtain ⟨ξ2, hnew⟩ : ∃ ξ : X w No, ξ.v = uu := ⟨⟨uu, ξ1.h.then_ext hu⟩, rfl⟩; subst hnew; have Hξ2 := Lib.hid hu; clear hu
  go_wp2_with fail
  go_ret
  exact ⟨rfl, ξ2.h⟩
structure Rul where
  targets : List Str
  needs : List Str
  cmds : List Str
  deriving DecidableEq
structure Mk where
  vars : List File
  rules : List Rul
  phony : List Str
  deriving DecidableEq
def mk0 : Mk := ⟨[], [], []⟩
def okFrom (p : Bool) : List Str → List Str → Bool
  | _, [] => true
  | seen, w :: r => wordB w && !inS seen w && (p || !patB w) && okFrom p (seen ++ [w]) r
def allOk (t n : List Str) : Bool := okFrom (t.any patB) [] (t ++ n) && !(t.any patB && decide (1 < t.length))
def headF (m : Mk) (s : Str) : Mk × Int :=
  if (exp m.vars 6 s).2 ≠ 0 then (m, (exp m.vars 6 s).2)
  else if (cutB 58 (exp m.vars 6 s).1).2.2 = false ∨ fieldsF (cutB 58 (exp m.vars 6 s).1).1 = [] then (m, 4)
  else if 2 < (fieldsF (cutB 58 (exp m.vars 6 s).1).1).length ∨ 3 < (fieldsF (cutB 58 (exp m.vars 6 s).1).2.1).length ∨ m.rules.length = 10 then (m, 2)
  else if allOk (fieldsF (cutB 58 (exp m.vars 6 s).1).1) (fieldsF (cutB 58 (exp m.vars 6 s).1).2.1) = true then (⟨m.vars, m.rules ++ [⟨fieldsF (cutB 58 (exp m.vars 6 s).1).1, fieldsF (cutB 58 (exp m.vars 6 s).1).2.1, []⟩], m.phony⟩, 0)
  else (m, 3)
def cmdF (m : Mk) (s : Str) : Mk × Int :=
  match m.rules.getLast? with
  | none => (m, 4)
  | some r =>
    if (exp m.vars 6 s).2 ≠ 0 then (m, (exp m.vars 6 s).2)
    else if r.cmds.length = 3 ∨ 28 < (exp m.vars 6 s).1.length then (m, 2)
    else (⟨m.vars, m.rules.dropLast ++ [⟨r.targets, r.needs, r.cmds ++ [(exp m.vars 6 s).1]⟩], m.phony⟩, 0)
abbrev phonyT : Str := [112, 104, 111, 110, 121, 32]
abbrev eqT : Str := [32, 61, 32]
def phoF (m : Mk) (n : Str) : Mk × Int := if nameB n = false ∨ inS m.phony n = true then (m, 3) else (⟨m.vars, m.rules, m.phony ++ [n]⟩, 0)
def varF (m : Mk) (a b : Str) : Mk × Int := if varB a = false then (m, 3) else if m.vars.length = 6 then (m, 2) else (⟨m.vars ++ [(a, b)], m.rules, m.phony⟩, 0)
def lineF (m : Mk) : Str → Mk × Int
  | [] => (m, 0)
  | x :: r =>
    if x = 35 then (m, 0)
    else if x = 9 then cmdF m r
    else if Lib.hasPrefix (x :: r) phonyT = true then phoF m ((x :: r).drop 6)
    else if (Lib.cut (x :: r) eqT).2.2 = true then varF m (Lib.cut (x :: r) eqT).1 (Lib.cut (x :: r) eqT).2.1
    else headF m (x :: r)
theorem lineF_cons (m : Mk) (x : UInt8) (r : Str) : lineF m (x :: r) =
    if x = 35 then (m, 0)
    else if x = 9 then cmdF m r
    else if Lib.hasPrefix (x :: r) phonyT = true then phoF m ((x :: r).drop 6)
    else if (Lib.cut (x :: r) eqT).2.2 = true then varF m (Lib.cut (x :: r) eqT).1 (Lib.cut (x :: r) eqT).2.1
    else headF m (x :: r) := rfl
def foldF : List Str → Mk → Mk × Int
  | [], m => (m, 0)
  | l :: ls, m => if (lineF m l).2 = 0 then foldF ls (lineF m l).1 else (mk0, (lineF m l).2)
def dupF : List Str → List Str → Bool
  | _, [] => false
  | made, t :: ts => inS made t || dupF (made ++ [t]) ts
def ruleOk (ph : List Str) (r : Rul) : Bool := (inS ph (r.targets.headD []) == decide (r.cmds.length = 0)) && !(decide (1 < r.targets.length) && inS ph (r.targets.getD 1 []))
def chkR (ph : List Str) : List Rul → List Str → Option (List Str)
  | [], made => some made
  | r :: rs, made => if dupF made r.targets = true then none else if ruleOk ph r = true then chkR ph rs (made ++ r.targets) else none
def chkF (m : Mk) : Int :=
  match chkR m.phony m.rules [] with
  | none => 3
  | some made => if m.phony.all (inS made) = true then 0 else 3
def parseF (s : Str) : Mk × Int :=
  if 600 < s.length then (mk0, 2)
  else if (foldF (splB 10 s) mk0).2 ≠ 0 then (mk0, (foldF (splB 10 s) mk0).2)
  else if chkF (foldF (splB 10 s) mk0).1 = 0 then ((foldF (splB 10 s) mk0).1, 0)
  else (mk0, chkF (foldF (splB 10 s) mk0).1)
structure Mk.Fit (m : Mk) (k : Nat) : Prop where
  v : m.vars.length ≤ 6
  vt : ∀ x ∈ m.vars, x.1.length ≤ 600 ∧ x.2.length ≤ 600
  r : m.rules.length ≤ 10
  rt : ∀ x ∈ m.rules, 1 ≤ x.targets.length ∧ x.targets.length ≤ 2 ∧ x.needs.length ≤ 3 ∧ x.cmds.length ≤ 3
  p : m.phony.length ≤ k
theorem mk0_fit : mk0.Fit 0 := ⟨Nat.zero_le _, (fun x hx => by cases hx), Nat.zero_le _, (fun x hx => by cases hx), Nat.le_refl _⟩
theorem Mk.Fit.more {m : Mk} {k : Nat} (h : m.Fit k) : m.Fit (k + 1) := ⟨h.v, h.vt, h.r, h.rt, Nat.le_succ_of_le h.p⟩
theorem headF_fit {m : Mk} {k : Nat} (h : m.Fit k) (s : Str) : (headF m s).1.Fit (k + 1) := by
  unfold headF
  split
  · exact h.more
  · split
    · exact h.more
    · rename_i h2
      split
      · exact h.more
      · rename_i h3
        split
        · refine ⟨h.v, h.vt, ?_, ?_, Nat.le_succ_of_le h.p⟩
          · have := h.r
            show (m.rules ++ [_]).length ≤ 10
            rw [List.length_append, List.length_singleton]
            omega
          · intro x hx
            rcases List.mem_append.1 hx with hx | hx
            · exact h.rt x hx
            · obtain rfl := List.mem_singleton.1 hx
              refine ⟨?_, by show (fieldsF _).length ≤ 2; omega, by show (fieldsF _).length ≤ 3; omega, Nat.zero_le _⟩
              show 1 ≤ (fieldsF (cutB 58 (exp m.vars 6 s).1).1).length
              cases hf : fieldsF (cutB 58 (exp m.vars 6 s).1).1 with
              | nil => exact absurd (.inr hf) h2
              | cons a l => simp
        · exact h.more
theorem cmdF_fit {m : Mk} {k : Nat} (h : m.Fit k) (s : Str) : (cmdF m s).1.Fit (k + 1) := by
  unfold cmdF
  split
  · exact h.more
  · rename_i r hr
    split
    · exact h.more
    · split
      · exact h.more
      · rename_i h3
        have hm := List.mem_of_getLast? hr
        obtain ⟨q1, q2, q3, q4⟩ := h.rt r hm
        refine ⟨h.v, h.vt, ?_, ?_, Nat.le_succ_of_le h.p⟩
        · have := h.r
          have hpos : 0 < m.rules.length := List.length_pos_of_mem hm
          show (m.rules.dropLast ++ [_]).length ≤ 10
          rw [List.length_append, List.length_singleton, List.length_dropLast]
          omega
        · intro x hx
          rcases List.mem_append.1 hx with hx | hx
          · exact h.rt x (List.dropLast_subset _ hx)
          · obtain rfl := List.mem_singleton.1 hx
            refine ⟨q1, q2, q3, ?_⟩
            show (r.cmds ++ [_]).length ≤ 3
            rw [List.length_append, List.length_singleton]
            omega
theorem lineF_fit {m : Mk} {k : Nat} (h : m.Fit k) {s : Str} (hs : s.length ≤ 600) : (lineF m s).1.Fit (k + 1) := by
  cases s with
  | nil => exact h.more
  | cons x r =>
    rw [lineF_cons]
    split
    · exact h.more
    · split
      · exact cmdF_fit h r
      · split
        · unfold phoF
          split
          · exact h.more
          · refine ⟨h.v, h.vt, h.r, h.rt, ?_⟩
            have := h.p
            show (m.phony ++ [_]).length ≤ k + 1
            rw [List.length_append, List.length_singleton]
            omega
        · split
          · unfold varF
            split
            · exact h.more
            · split
              · exact h.more
              · rename_i h6
                have hc := cut_len (x :: r) eqT
                refine ⟨?_, ?_, h.r, h.rt, Nat.le_succ_of_le h.p⟩
                · have := h.v
                  show (m.vars ++ [_]).length ≤ 6
                  rw [List.length_append, List.length_singleton]
                  omega
                · intro y hy
                  rcases List.mem_append.1 hy with hy | hy
                  · exact h.vt y hy
                  · obtain rfl := List.mem_singleton.1 hy
                    exact ⟨by show (Lib.cut (x :: r) eqT).1.length ≤ 600; omega, by show (Lib.cut (x :: r) eqT).2.1.length ≤ 600; omega⟩
          · exact headF_fit h _
theorem foldF_fit : ∀ (ls : List Str) (m : Mk) (k : Nat), m.Fit k → (∀ l ∈ ls, l.length ≤ 600) → (foldF ls m).1.Fit (k + ls.length)
  | [], m, k, h, _ => h
  | l :: ls, m, k, h, hl => by
    unfold foldF
    split
    · have := foldF_fit ls _ (k + 1) (lineF_fit h (hl l (by simp))) (fun x hx => hl x (List.mem_cons_of_mem _ hx))
      rw [List.length_cons, show k + (ls.length + 1) = k + 1 + ls.length by omega]
      exact this
    · exact ⟨mk0_fit.v, mk0_fit.vt, mk0_fit.r, mk0_fit.rt, Nat.zero_le _⟩
abbrev KeyV := UInt8 → Option Str
def keyV (t f n k : Str) : KeyV := fun c => if c = 64 then some t else if c = 60 then some f else if c = 94 then some n else if c = 42 then some k else none
def autoF (v : KeyV) : Str → Str
  | [] => []
  | [x] => [x]
  | x :: y :: r => if x = 36 then (match v y with | some t => t ++ autoF v r | none => x :: autoF v (y :: r)) else x :: autoF v (y :: r)
def lookF (v : KeyV) : Str → Option Str
  | x :: y :: _ => if x = 36 then v y else none
  | _ => none
def joinSp : List Str → Str
  | [] => []
  | [x] => x
  | x :: y :: r => x ++ 32 :: joinSp (y :: r)
theorem autoF_look (v : KeyV) (x : UInt8) (r : Str) : autoF v (x :: r) = match lookF v (x :: r) with | some t => t ++ autoF v (r.drop 1) | none => x :: autoF v r := by
  cases r with
  | nil => rfl
  | cons y r =>
    by_cases hx : x = 36
    · cases h : v y <;> simp [autoF, lookF, hx, h]
    · simp [autoF, lookF, hx]
theorem autoF_drop_hit {v : KeyV} {s t : Str} {i : Nat} (h : lookF v (s.drop i) = some t) : autoF v (s.drop i) = t ++ autoF v (s.drop (i + 2)) ∧ i + 2 ≤ s.length := by
  cases hs : s.drop i with
  | nil => rw [hs] at h; cases h
  | cons x r =>
    rw [hs] at h
    have hl : r ≠ [] := by
      rintro rfl
      cases h
    have h2 : s.drop (i + 2) = r.drop 1 := by
      rw [Nat.add_comm i 2, ← List.drop_drop, List.drop_drop, Nat.add_comm 2 i, ← List.drop_drop, hs]
      rfl
    rw [autoF_look, h, h2]
    refine ⟨rfl, ?_⟩
    have := congrArg List.length hs
    have hr := List.length_pos_iff.2 hl
    simp only [List.length_drop, List.length_cons] at this
    omega
theorem autoF_drop_miss {v : KeyV} {s : Str} {i : Nat} (h : lookF v (s.drop i) = none) (hi : i < s.length) : autoF v (s.drop i) = s[i] :: autoF v (s.drop (i + 1)) := by
  rw [List.drop_eq_getElem_cons hi] at h ⊢
  rw [autoF_look, h]
theorem autoF_len {v : KeyV} {K : Nat} (hv : ∀ c t, v c = some t → t.length ≤ K) : ∀ s : Str, (autoF v s).length ≤ s.length * (K + 1)
  | [] => by simp [autoF]
  | [x] => by simp [autoF]
  | x :: y :: r => by
    have h1 := autoF_len hv (y :: r)
    have h2 := autoF_len hv r
    rw [autoF_look]
    have e1 : (x :: y :: r).length * (K + 1) = r.length * (K + 1) + (K + 1) + (K + 1) := by simp only [List.length_cons, Nat.succ_mul]
    have e2 : (y :: r).length * (K + 1) = r.length * (K + 1) + (K + 1) := by simp only [List.length_cons, Nat.succ_mul]
    rw [e2] at h1
    rw [e1]
    cases h : lookF v (x :: y :: r) with
    | none => simp only [List.length_cons]; omega
    | some t =>
      have : t.length ≤ K := by
        by_cases hx : x = 36
        · simp only [lookF, hx, if_true] at h
          exact hv _ _ h
        · simp [lookF, hx] at h
      simp only [List.length_append, List.drop_succ_cons, List.drop_zero]
      omega
theorem keyV_len {t f n k : Str} {K : Nat} (h1 : t.length ≤ K) (h2 : f.length ≤ K) (h3 : n.length ≤ K) (h4 : k.length ≤ K) : ∀ c u, keyV t f n k c = some u → u.length ≤ K := by
  intro c u h
  unfold keyV at h
  split at h
  · cases h; exact h1
  · split at h
    · cases h; exact h2
    · split at h
      · cases h; exact h3
      · split at h
        · cases h; exact h4
        · cases h
theorem joinSp_len {K : Nat} : ∀ {l : List Str}, (∀ x ∈ l, x.length ≤ K) → (joinSp l).length ≤ l.length * (K + 1)
  | [], _ => by simp [joinSp]
  | [x], h => by have := h x (by simp); simp [joinSp]; omega
  | x :: y :: r, h => by
    have h1 := joinSp_len (l := y :: r) (fun z hz => h z (List.mem_cons_of_mem _ hz))
    have h2 := h x (by simp)
    have e1 : (x :: y :: r).length * (K + 1) = (y :: r).length * (K + 1) + (K + 1) := by rw [List.length_cons, Nat.succ_mul]
    rw [e1]
    simp only [joinSp, List.length_append, List.length_cons] at h1 ⊢
    omega
theorem joinSp_snoc : ∀ (l : List Str) (x : Str), l ≠ [] → joinSp (l ++ [x]) = joinSp l ++ 32 :: x
  | [], _, h => absurd rfl h
  | [y], x, _ => rfl
  | y :: z :: r, x, _ => by
    have := joinSp_snoc (z :: r) x (by simp)
    show y ++ 32 :: joinSp (z :: r ++ [x]) = (y ++ 32 :: joinSp (z :: r)) ++ 32 :: x
    rw [this]
    simp
def preB (s p : Str) : Bool := decide (p.length ≤ s.length) && (s.take p.length == p)
def sufB (s p : Str) : Bool := decide (p.length ≤ s.length) && (s.drop (s.length - p.length) == p)
def stemL (pat name : Str) : Str × Bool :=
  if (cutB 37 pat).2.2 = true ∧ (cutB 37 pat).1.length + (cutB 37 pat).2.1.length < name.length ∧ preB name (cutB 37 pat).1 = true ∧ sufB name (cutB 37 pat).2.1 = true
  then ((name.take (name.length - (cutB 37 pat).2.1.length)).drop (cutB 37 pat).1.length, true) else ([], false)
theorem SLHasPrefix_c (s p : Str) (hs : s.length ≤ maxLen) (hp : p.length ≤ maxLen) (w : World) :
    Calls Tryz.prog 128 #[S s, S p] w fun e w' => e = .returned (.bool (preB s p)) ∧ Ext w w' := by
  unfold maxLen at hs hp
  have HB : Hid (preB s p = (decide (p.length ≤ s.length) && (s.take p.length == p))) := rfl
  by_cases hl : p.length ≤ s.length
  · rw [decide_eq_true hl] at HB
    have HT : Hid ((s.take p.length == p) = preB s p) := by rw [Hid, HB.out]; rfl
    have g1 : decide ((p.length : Int) ≤ (s.length : Int)) = true := by rw [decide_eq_true_iff]; omega
    generalize preB s p = b at HT ⊢
    clear HB
    go_enter Tryz.func128, Tryz.ntmps128
    go_wp2_with fail
    all_goals (go_ret; exact ⟨by rw [← HT.out]; try rfl, Only.refl _ _⟩)
  · have HT : Hid (preB s p = false) := by rw [Hid, HB.out, decide_eq_false hl]; rfl
    have g1 : decide ((p.length : Int) ≤ (s.length : Int)) = false := by rw [decide_eq_false_iff_not]; omega
    rw [HT.out]
    go_enter Tryz.func128, Tryz.ntmps128
    go_wp2_with fail
    all_goals (go_ret; exact ⟨rfl, Only.refl _ _⟩)
theorem HasPrefix_c (s p : Str) (hs : s.length ≤ maxLen) (hp : p.length ≤ maxLen) (w : World) :
    Calls Tryz.prog 119 #[S s, S p] w fun e w' => e = .returned (.bool (preB s p)) ∧ Ext w w' := by
  have HC := Lib.hid (SLHasPrefix_c s p hs hp w)
  go_enter Tryz.func119, Tryz.ntmps119
  go_wp2_with fail
  refine (HC.out).mono ?_; rintro e uu ⟨rfl, hu⟩; obtain ⟨ξ1, hnew⟩ : ∃ ξ : X w No, ξ.v = uu := ⟨⟨uu, (X.here w No).h.then_ext hu⟩, rfl⟩; subst hnew; have Hξ1 := Lib.hid hu; clear hu
  go_wp2_with fail
  go_ret
  exact ⟨rfl, ξ1.h⟩
theorem SLHasSuffix_c (s p : Str) (hs : s.length ≤ maxLen) (hp : p.length ≤ maxLen) (w : World) :
    Calls Tryz.prog 151 #[S s, S p] w fun e w' => e = .returned (.bool (sufB s p)) ∧ Ext w w' := by
  unfold maxLen at hs hp
  have HB : Hid (sufB s p = (decide (p.length ≤ s.length) && (s.drop (s.length - p.length) == p))) := rfl
  by_cases hl : p.length ≤ s.length
  · rw [decide_eq_true hl] at HB
    have HT : Hid ((s.drop (s.length - p.length) == p) = sufB s p) := by rw [Hid, HB.out]; rfl
    have g1 : decide ((p.length : Int) ≤ (s.length : Int)) = true := by rw [decide_eq_true_iff]; omega
    generalize sufB s p = b at HT ⊢
    clear HB
    go_enter Tryz.func151, Tryz.ntmps151
    go_wp2_with fail
    all_goals (go_ret; exact ⟨by rw [← HT.out]; try rfl, Only.refl _ _⟩)
  · have HT : Hid (sufB s p = false) := by rw [Hid, HB.out, decide_eq_false hl]; rfl
    have g1 : decide ((p.length : Int) ≤ (s.length : Int)) = false := by rw [decide_eq_false_iff_not]; omega
    rw [HT.out]
    go_enter Tryz.func151, Tryz.ntmps151
    go_wp2_with fail
    all_goals (go_ret; exact ⟨rfl, Only.refl _ _⟩)
theorem HasSuffix_c (s p : Str) (hs : s.length ≤ maxLen) (hp : p.length ≤ maxLen) (w : World) :
    Calls Tryz.prog 120 #[S s, S p] w fun e w' => e = .returned (.bool (sufB s p)) ∧ Ext w w' := by
  have HC := Lib.hid (SLHasSuffix_c s p hs hp w)
  go_enter Tryz.func120, Tryz.ntmps120
  go_wp2_with fail
  refine (HC.out).mono ?_; rintro e uu ⟨rfl, hu⟩; obtain ⟨ξ1, hnew⟩ : ∃ ξ : X w No, ξ.v = uu := ⟨⟨uu, (X.here w No).h.then_ext hu⟩, rfl⟩; subst hnew; have Hξ1 := Lib.hid hu; clear hu
  go_wp2_with fail
  go_ret
  exact ⟨rfl, ξ1.h⟩
set_option maxHeartbeats 1000000 in
theorem Stem_c (pat name : Str) (hp : pat.length ≤ 100000) (hn : name.length ≤ 100000) {w : World} (hm : Ml w) :
    Calls Tryz.prog 87 #[S pat, S name] w fun e w' => e = .returned (.tuple #[S (stemL pat name).1, .bool (stemL pat name).2]) ∧ Ext w w' := by
  have HC := Lib.hid (BCut_c pat 37 (by omega) hm)
  have hl := cutB_len 37 pat
  have HD : Hid (stemL pat name = if (cutB 37 pat).2.2 = true ∧ (cutB 37 pat).1.length + (cutB 37 pat).2.1.length < name.length ∧ preB name (cutB 37 pat).1 = true ∧ sufB name (cutB 37 pat).2.1 = true then ((name.take (name.length - (cutB 37 pat).2.1.length)).drop (cutB 37 pat).1.length, true) else ([], false)) := rfl
  generalize stemL pat name = R at HD ⊢
  generalize cutB 37 pat = q at HC hl HD
  obtain ⟨a, b, is⟩ := q
  dsimp only at HC hl HD
  have HP := Lib.hid (fun v => HasPrefix_c name a (by unfold maxLen; omega) (by unfold maxLen; omega) v)
  have HS := Lib.hid (fun v => HasSuffix_c name b (by unfold maxLen; omega) (by unfold maxLen; omega) v)
  generalize preB name a = pb at HP HD
  generalize sufB name b = sb at HS HD
  clear hm
  go_enter Tryz.func87, Tryz.ntmps87
  go_wp2_with fail
  refine (HC.out).mono ?_; rintro e uu ⟨rfl, hu⟩; obtain ⟨ξ1, hnew⟩ : ∃ ξ : X w No, ξ.v = uu := ⟨⟨uu, (X.here w No).h.then_ext hu⟩, rfl⟩; subst hnew; have Hξ1 := Lib.hid hu; clear hu
  clear HC
  cases is with
  | false =>
    have HR : Hid (R = ([], false)) := by rw [Hid, HD.out]; exact if_neg (fun h => by simp at h)
    go_wp2_with fail
    go_ret2
    rw [HR.out]
    exact ⟨rfl, ξ1.h⟩
  | true =>
  by_cases hlt : a.length + b.length < name.length
  · have g1 : decide ((name.length : Int) ≤ (a.length : Int) + (b.length : Int)) = false := by rw [decide_eq_false_iff_not]; omega
    cases pb with
    | false =>
      have HR : Hid (R = ([], false)) := by rw [Hid, HD.out]; exact if_neg (fun h => by simp at h)
      go_upto_region 2 with fail
      refine Mix.wp_plain [15] (Cl w No) (Cl.of ξ1.h) ?_
      (repeat' (first | (refine Mix.lex_quiet0 rfl rfl rfl ?_; intro K hK; go_big_quiet_op; go_big_quiet_on) | (refine Mix.lex_quietG rfl rfl rfl (by with_reducible rfl) rfl rfl ?_; intro K hK; go_big_quiet_op; go_big_quiet_on) | ((first | refine Mix.lex_skipT rfl rfl rfl (by with_reducible rfl) ?_ | refine Mix.lex_skipF rfl rfl rfl (by with_reducible rfl) ?_ | refine Mix.lex_skipU rfl rfl rfl (by with_reducible rfl) ?_); simp only [Act.put, List.setIfInBounds_toArray, List.set_cons_succ, List.set_cons_zero]) | (refine Mix.lex_part rfl rfl rfl rfl (fun hq => ?_) (fun hq => ?_) <;> (fail_if_success (guard_hyp hq :ₛ true = true)) <;> (fail_if_success (guard_hyp hq :ₛ false = false)) <;> first | (exfalso; cases hq; done) | (exfalso; simp only [decide_eq_true_eq, decide_eq_false_iff_not, beq_iff_eq, beq_eq_false_iff_ne, ne_eq, Int.not_lt, Int.not_le] at hq; omega) | simp only [Act.put, List.setIfInBounds_toArray, List.set_cons_succ, List.set_cons_zero])))
      ((first | refine Mix.lex_goes0 rfl rfl ?_ | refine Mix.lex_goesG rfl rfl rfl (by with_reducible rfl) rfl ?_); intro K hK; go_simp); refine (HP.out _).mono ?_; rintro e uu ⟨rfl, hu⟩; obtain ⟨ξ2, hnew⟩ : ∃ ξ : X w No, ξ.v = uu := ⟨⟨uu, ξ1.h.then_ext hu⟩, rfl⟩; subst hnew; have Hξ2 := Lib.hid hu; refine ⟨_, rfl, hK _ _ (fun _ => ⟨ξ2, rfl⟩) ?_⟩; clear hK K hu; simp only [Act.put, List.setIfInBounds_toArray, List.set_cons_succ, List.set_cons_zero]; (repeat' (first | (refine Mix.lex_quiet0 rfl rfl rfl ?_; intro K hK; go_big_quiet_op; go_big_quiet_on) | (refine Mix.lex_quietG rfl rfl rfl (by with_reducible rfl) rfl rfl ?_; intro K hK; go_big_quiet_op; go_big_quiet_on) | ((first | refine Mix.lex_skipT rfl rfl rfl (by with_reducible rfl) ?_ | refine Mix.lex_skipF rfl rfl rfl (by with_reducible rfl) ?_ | refine Mix.lex_skipU rfl rfl rfl (by with_reducible rfl) ?_); simp only [Act.put, List.setIfInBounds_toArray, List.set_cons_succ, List.set_cons_zero]) | (refine Mix.lex_part rfl rfl rfl rfl (fun hq => ?_) (fun hq => ?_) <;> (fail_if_success (guard_hyp hq :ₛ true = true)) <;> (fail_if_success (guard_hyp hq :ₛ false = false)) <;> first | (exfalso; cases hq; done) | (exfalso; simp only [decide_eq_true_eq, decide_eq_false_iff_not, beq_iff_eq, beq_eq_false_iff_ne, ne_eq, Int.not_lt, Int.not_le] at hq; omega) | simp only [Act.put, List.setIfInBounds_toArray, List.set_cons_succ, List.set_cons_zero])))
      refine Mix.lex_nil ?_
      go_wp2_with fail
      go_ret2
      rw [HR.out]
      exact ⟨rfl, ξ2.h⟩
    | true =>
      cases sb with
      | false =>
        have HR : Hid (R = ([], false)) := by rw [Hid, HD.out]; exact if_neg (fun h => by simp at h)
        go_upto_region 2 with fail
        refine Mix.wp_plain [15, 21] (Cl w No) (Cl.of ξ1.h) ?_
        (repeat' (first | (refine Mix.lex_quiet0 rfl rfl rfl ?_; intro K hK; go_big_quiet_op; go_big_quiet_on) | (refine Mix.lex_quietG rfl rfl rfl (by with_reducible rfl) rfl rfl ?_; intro K hK; go_big_quiet_op; go_big_quiet_on) | ((first | refine Mix.lex_skipT rfl rfl rfl (by with_reducible rfl) ?_ | refine Mix.lex_skipF rfl rfl rfl (by with_reducible rfl) ?_ | refine Mix.lex_skipU rfl rfl rfl (by with_reducible rfl) ?_); simp only [Act.put, List.setIfInBounds_toArray, List.set_cons_succ, List.set_cons_zero]) | (refine Mix.lex_part rfl rfl rfl rfl (fun hq => ?_) (fun hq => ?_) <;> (fail_if_success (guard_hyp hq :ₛ true = true)) <;> (fail_if_success (guard_hyp hq :ₛ false = false)) <;> first | (exfalso; cases hq; done) | (exfalso; simp only [decide_eq_true_eq, decide_eq_false_iff_not, beq_iff_eq, beq_eq_false_iff_ne, ne_eq, Int.not_lt, Int.not_le] at hq; omega) | simp only [Act.put, List.setIfInBounds_toArray, List.set_cons_succ, List.set_cons_zero])))
        ((first | refine Mix.lex_goes0 rfl rfl ?_ | refine Mix.lex_goesG rfl rfl rfl (by with_reducible rfl) rfl ?_); intro K hK; go_simp); refine (HP.out _).mono ?_; rintro e uu ⟨rfl, hu⟩; obtain ⟨ξ2, hnew⟩ : ∃ ξ : X w No, ξ.v = uu := ⟨⟨uu, ξ1.h.then_ext hu⟩, rfl⟩; subst hnew; have Hξ2 := Lib.hid hu; refine ⟨_, rfl, hK _ _ (fun _ => ⟨ξ2, rfl⟩) ?_⟩; clear hK K hu; simp only [Act.put, List.setIfInBounds_toArray, List.set_cons_succ, List.set_cons_zero]; (repeat' (first | (refine Mix.lex_quiet0 rfl rfl rfl ?_; intro K hK; go_big_quiet_op; go_big_quiet_on) | (refine Mix.lex_quietG rfl rfl rfl (by with_reducible rfl) rfl rfl ?_; intro K hK; go_big_quiet_op; go_big_quiet_on) | ((first | refine Mix.lex_skipT rfl rfl rfl (by with_reducible rfl) ?_ | refine Mix.lex_skipF rfl rfl rfl (by with_reducible rfl) ?_ | refine Mix.lex_skipU rfl rfl rfl (by with_reducible rfl) ?_); simp only [Act.put, List.setIfInBounds_toArray, List.set_cons_succ, List.set_cons_zero]) | (refine Mix.lex_part rfl rfl rfl rfl (fun hq => ?_) (fun hq => ?_) <;> (fail_if_success (guard_hyp hq :ₛ true = true)) <;> (fail_if_success (guard_hyp hq :ₛ false = false)) <;> first | (exfalso; cases hq; done) | (exfalso; simp only [decide_eq_true_eq, decide_eq_false_iff_not, beq_iff_eq, beq_eq_false_iff_ne, ne_eq, Int.not_lt, Int.not_le] at hq; omega) | simp only [Act.put, List.setIfInBounds_toArray, List.set_cons_succ, List.set_cons_zero])))
        ((first | refine Mix.lex_goes0 rfl rfl ?_ | refine Mix.lex_goesG rfl rfl rfl (by with_reducible rfl) rfl ?_); intro K hK; go_simp); refine (HS.out _).mono ?_; rintro e uu ⟨rfl, hu⟩; obtain ⟨ξ3, hnew⟩ : ∃ ξ : X w No, ξ.v = uu := ⟨⟨uu, ξ2.h.then_ext hu⟩, rfl⟩; subst hnew; have Hξ3 := Lib.hid hu; refine ⟨_, rfl, hK _ _ (fun _ => ⟨ξ3, rfl⟩) ?_⟩; clear hK K hu; simp only [Act.put, List.setIfInBounds_toArray, List.set_cons_succ, List.set_cons_zero]; (repeat' (first | (refine Mix.lex_quiet0 rfl rfl rfl ?_; intro K hK; go_big_quiet_op; go_big_quiet_on) | (refine Mix.lex_quietG rfl rfl rfl (by with_reducible rfl) rfl rfl ?_; intro K hK; go_big_quiet_op; go_big_quiet_on) | ((first | refine Mix.lex_skipT rfl rfl rfl (by with_reducible rfl) ?_ | refine Mix.lex_skipF rfl rfl rfl (by with_reducible rfl) ?_ | refine Mix.lex_skipU rfl rfl rfl (by with_reducible rfl) ?_); simp only [Act.put, List.setIfInBounds_toArray, List.set_cons_succ, List.set_cons_zero]) | (refine Mix.lex_part rfl rfl rfl rfl (fun hq => ?_) (fun hq => ?_) <;> (fail_if_success (guard_hyp hq :ₛ true = true)) <;> (fail_if_success (guard_hyp hq :ₛ false = false)) <;> first | (exfalso; cases hq; done) | (exfalso; simp only [decide_eq_true_eq, decide_eq_false_iff_not, beq_iff_eq, beq_eq_false_iff_ne, ne_eq, Int.not_lt, Int.not_le] at hq; omega) | simp only [Act.put, List.setIfInBounds_toArray, List.set_cons_succ, List.set_cons_zero])))
        refine Mix.lex_nil ?_
        go_wp2_with fail
        go_ret2
        rw [HR.out]
        exact ⟨rfl, ξ3.h⟩
      | true =>
        have HR : Hid (R = ((name.take (name.length - b.length)).drop a.length, true)) := by rw [Hid, HD.out]; exact if_pos ⟨rfl, hlt, rfl, rfl⟩
        go_upto_region 2 with fail
        refine Mix.wp_plain [15, 21] (Cl w No) (Cl.of ξ1.h) ?_
        (repeat' (first | (refine Mix.lex_quiet0 rfl rfl rfl ?_; intro K hK; go_big_quiet_op; go_big_quiet_on) | (refine Mix.lex_quietG rfl rfl rfl (by with_reducible rfl) rfl rfl ?_; intro K hK; go_big_quiet_op; go_big_quiet_on) | ((first | refine Mix.lex_skipT rfl rfl rfl (by with_reducible rfl) ?_ | refine Mix.lex_skipF rfl rfl rfl (by with_reducible rfl) ?_ | refine Mix.lex_skipU rfl rfl rfl (by with_reducible rfl) ?_); simp only [Act.put, List.setIfInBounds_toArray, List.set_cons_succ, List.set_cons_zero]) | (refine Mix.lex_part rfl rfl rfl rfl (fun hq => ?_) (fun hq => ?_) <;> (fail_if_success (guard_hyp hq :ₛ true = true)) <;> (fail_if_success (guard_hyp hq :ₛ false = false)) <;> first | (exfalso; cases hq; done) | (exfalso; simp only [decide_eq_true_eq, decide_eq_false_iff_not, beq_iff_eq, beq_eq_false_iff_ne, ne_eq, Int.not_lt, Int.not_le] at hq; omega) | simp only [Act.put, List.setIfInBounds_toArray, List.set_cons_succ, List.set_cons_zero])))
        ((first | refine Mix.lex_goes0 rfl rfl ?_ | refine Mix.lex_goesG rfl rfl rfl (by with_reducible rfl) rfl ?_); intro K hK; go_simp); refine (HP.out _).mono ?_; rintro e uu ⟨rfl, hu⟩; obtain ⟨ξ2, hnew⟩ : ∃ ξ : X w No, ξ.v = uu := ⟨⟨uu, ξ1.h.then_ext hu⟩, rfl⟩; subst hnew; have Hξ2 := Lib.hid hu; refine ⟨_, rfl, hK _ _ (fun _ => ⟨ξ2, rfl⟩) ?_⟩; clear hK K hu; simp only [Act.put, List.setIfInBounds_toArray, List.set_cons_succ, List.set_cons_zero]; (repeat' (first | (refine Mix.lex_quiet0 rfl rfl rfl ?_; intro K hK; go_big_quiet_op; go_big_quiet_on) | (refine Mix.lex_quietG rfl rfl rfl (by with_reducible rfl) rfl rfl ?_; intro K hK; go_big_quiet_op; go_big_quiet_on) | ((first | refine Mix.lex_skipT rfl rfl rfl (by with_reducible rfl) ?_ | refine Mix.lex_skipF rfl rfl rfl (by with_reducible rfl) ?_ | refine Mix.lex_skipU rfl rfl rfl (by with_reducible rfl) ?_); simp only [Act.put, List.setIfInBounds_toArray, List.set_cons_succ, List.set_cons_zero]) | (refine Mix.lex_part rfl rfl rfl rfl (fun hq => ?_) (fun hq => ?_) <;> (fail_if_success (guard_hyp hq :ₛ true = true)) <;> (fail_if_success (guard_hyp hq :ₛ false = false)) <;> first | (exfalso; cases hq; done) | (exfalso; simp only [decide_eq_true_eq, decide_eq_false_iff_not, beq_iff_eq, beq_eq_false_iff_ne, ne_eq, Int.not_lt, Int.not_le] at hq; omega) | simp only [Act.put, List.setIfInBounds_toArray, List.set_cons_succ, List.set_cons_zero])))
        ((first | refine Mix.lex_goes0 rfl rfl ?_ | refine Mix.lex_goesG rfl rfl rfl (by with_reducible rfl) rfl ?_); intro K hK; go_simp); refine (HS.out _).mono ?_; rintro e uu ⟨rfl, hu⟩; obtain ⟨ξ3, hnew⟩ : ∃ ξ : X w No, ξ.v = uu := ⟨⟨uu, ξ2.h.then_ext hu⟩, rfl⟩; subst hnew; have Hξ3 := Lib.hid hu; refine ⟨_, rfl, hK _ _ (fun _ => ⟨ξ3, rfl⟩) ?_⟩; clear hK K hu; simp only [Act.put, List.setIfInBounds_toArray, List.set_cons_succ, List.set_cons_zero]; (repeat' (first | (refine Mix.lex_quiet0 rfl rfl rfl ?_; intro K hK; go_big_quiet_op; go_big_quiet_on) | (refine Mix.lex_quietG rfl rfl rfl (by with_reducible rfl) rfl rfl ?_; intro K hK; go_big_quiet_op; go_big_quiet_on) | ((first | refine Mix.lex_skipT rfl rfl rfl (by with_reducible rfl) ?_ | refine Mix.lex_skipF rfl rfl rfl (by with_reducible rfl) ?_ | refine Mix.lex_skipU rfl rfl rfl (by with_reducible rfl) ?_); simp only [Act.put, List.setIfInBounds_toArray, List.set_cons_succ, List.set_cons_zero]) | (refine Mix.lex_part rfl rfl rfl rfl (fun hq => ?_) (fun hq => ?_) <;> (fail_if_success (guard_hyp hq :ₛ true = true)) <;> (fail_if_success (guard_hyp hq :ₛ false = false)) <;> first | (exfalso; cases hq; done) | (exfalso; simp only [decide_eq_true_eq, decide_eq_false_iff_not, beq_iff_eq, beq_eq_false_iff_ne, ne_eq, Int.not_lt, Int.not_le] at hq; omega) | simp only [Act.put, List.setIfInBounds_toArray, List.set_cons_succ, List.set_cons_zero])))
        refine Mix.lex_nil ?_
        go_wp2_with fail
        go_ret2
        rw [HR.out]
        exact ⟨rfl, ξ3.h⟩
  · have HR : Hid (R = ([], false)) := by rw [Hid, HD.out]; exact if_neg (fun h => hlt h.2.1)
    have g1 : decide ((name.length : Int) ≤ (a.length : Int) + (b.length : Int)) = true := by rw [decide_eq_true_iff]; omega
    go_wp2_with fail
    go_ret2
    rw [HR.out]
    exact ⟨rfl, ξ1.h⟩
def hasAt {α : Type} (key : α → Str) (l : List α) (k : Str) : Bool := match l[posOf key l k]? with | some x => decide (key x = k) | none => false
section
variable {α : Type} (key : α → Str)
def getL (k : Str) (l : List α) : Option α := l.find? fun y => decide (key y = k)
variable {key}
theorem posOf_cons_lt {x : α} {l : List α} {k : Str} (h : key x < k) : posOf key (x :: l) k = posOf key l k + 1 := by
  unfold posOf
  rw [List.takeWhile_cons, if_pos (show ltB (key x) k = true from decide_eq_true h)]
  rfl
theorem posOf_cons_ge {x : α} {l : List α} {k : Str} (h : ¬ key x < k) : posOf key (x :: l) k = 0 := by
  unfold posOf
  rw [List.takeWhile_cons, if_neg (by show ¬ ltB (key x) k = true; rw [show ltB (key x) k = false from decide_eq_false h]; simp)]
  rfl
theorem hasAt_cons_lt {x : α} {l : List α} {k : Str} (h : key x < k) : hasAt key (x :: l) k = hasAt key l k := by
  unfold hasAt; rw [posOf_cons_lt h, List.getElem?_cons_succ]
theorem hasAt_cons_ge {x : α} {l : List α} {k : Str} (h : ¬ key x < k) : hasAt key (x :: l) k = decide (key x = k) := by
  unfold hasAt; rw [posOf_cons_ge h]; rfl
theorem Rise.tail {x : α} {l : List α} (h : Rise key (x :: l)) : Rise key l := (List.pairwise_cons.1 h).2
theorem Rise.head {x : α} {l : List α} (h : Rise key (x :: l)) : ∀ y ∈ l, key x < key y := (List.pairwise_cons.1 h).1
theorem getL_at {l : List α} (h : Rise key l) (k : Str) : getL key k l = if hasAt key l k then l[posOf key l k]? else none := by
  induction l with
  | nil => simp [getL, hasAt]
  | cons x l ih =>
    by_cases hx : key x < k
    · rw [hasAt_cons_lt hx, posOf_cons_lt hx, List.getElem?_cons_succ, ← ih h.tail]
      unfold getL
      rw [List.find?_cons_of_neg (by simpa using slt_ne hx)]
    · rw [hasAt_cons_ge hx, posOf_cons_ge hx]
      by_cases e : key x = k
      · simp [getL, e]
      · have hk : k < key x := by
          by_cases hl : k < key x
          · exact hl
          · exact absurd (seq_of hx hl) e
        have : getL key k (x :: l) = none := by
          unfold getL
          rw [List.find?_eq_none]
          intro y hy
          rcases List.mem_cons.1 hy with rfl | hy
          · simpa using e
          · have := slt_ne (slt_trans hk (h.head y hy))
            simp [Ne.symm this]
        rw [this]
        simp [e]
def riseB (key : α → Str) : List α → Bool
  | [] => true
  | [_] => true
  | x :: y :: l => ltB (key x) (key y) && riseB key (y :: l)
theorem rise_of {l : List α} (h : riseB key l = true) : Rise key l := by
  induction l with
  | nil => simp [Rise]
  | cons x l ih =>
    cases l with
    | nil => simp [Rise]
    | cons y l =>
      simp only [riseB, Bool.and_eq_true] at h
      have hr := ih h.2
      refine List.pairwise_cons.2 ⟨fun z hz => ?_, hr⟩
      have hxy := ltB_true h.1
      rcases List.mem_cons.1 hz with rfl | hz
      · exact hxy
      · exact slt_trans hxy (hr.head z hz)
theorem riseB_iff {l : List α} : riseB key l = true ↔ ∀ i x y, l[i]? = some x → l[i + 1]? = some y → key x < key y := by
  induction l with
  | nil => simp [riseB]
  | cons a l ih =>
    cases l with
    | nil => simp [riseB]
    | cons b l =>
      simp only [riseB, Bool.and_eq_true]
      constructor
      · rintro ⟨h1, h2⟩ i x y hx hy
        cases i with
        | zero =>
          simp at hx hy
          subst hx; subst hy
          exact ltB_true h1
        | succ i => exact ih.1 h2 i x y (by simpa using hx) (by simpa using hy)
      · intro h
        exact ⟨decide_eq_true (h 0 a b rfl rfl), ih.2 fun i x y hx hy => h (i + 1) x y (by simpa using hx) (by simpa using hy)⟩
end
end Go.Proofs.YtnhaekifcieeoaaGreatDoor
