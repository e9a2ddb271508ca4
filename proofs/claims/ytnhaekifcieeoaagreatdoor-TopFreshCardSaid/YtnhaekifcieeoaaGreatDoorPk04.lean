/- Put together: Ov, CutB, Spl, Txt, Split, Rec1, Ov2, Rev, Turn. -/
import Derived.Test.YtnhaekifcieeoaaGreatDoorPk02
import Derived.Test.YtnhaekifcieeoaaGreatDoorPk03
import Derived.Test.YtnhaekifcieeoaaGreatDoorPk01
import Derived.Lib.IndexMore
import Derived.Lib.SplitLaws
import Derived.Lib.Replace
import Derived.Test.YtnhaekifcieeoaaGreatDoorProg
import Derived.BigRegion
import Derived.Laws.IdiomStrings
namespace Go.Proofs.YtnhaekifcieeoaaGreatDoor
open Go Go.RowKit
structure Ov where
  base : List File
  own : List File
  needs : List Str
  targets : List Str
structure OvR where
  bA : Option Addr
  bc : Nat
  oA : Option Addr
  oc : Nat
  nA : Option Addr
  nc : Nat
  tA : Option Addr
  tc : Nat
structure OvAt (t : TypeId) (w : World) (g : Nat) (r : OvR) (o : Ov) : Prop where
  cs : Cs w g t #[.slice r.bA o.base.length r.bc, .slice r.oA o.own.length r.oc, .slice r.nA o.needs.length r.nc, .slice r.tA o.targets.length r.tc]
  base : SlR fileF w r.bA o.base.length o.base
  own : SlR fileF w r.oA o.own.length o.own
  needs : SlR strF w r.nA o.needs.length o.needs
  targets : SlR strF w r.tA o.targets.length o.targets
  nw : ∀ b o', r.oA = some ⟨b, o', none⟩ → 0 < o.own.length → g < b
theorem SlR.far {α : Type} {T : Flat α} (hT : ∀ x : α, ∃ s l, T.enc x = S s :: l) {w : World} {A : Option Addr} {n g : Nat} {t : TypeId} {xs : List α} (h : SlR T w A n xs) {a1 a2 a3 a4 : Option Addr} {n1 n2 n3 n4 c1 c2 c3 c4 : Nat} (hc : Cs w g t #[.slice a1 n1 c1, .slice a2 n2 c2, .slice a3 n3 c3, .slice a4 n4 c4]) :
    ∀ b o, A = some ⟨b, o, none⟩ → 0 < n → b ≠ g := by
  rintro b o rfl hn rfl
  obtain ⟨b', o', x, he, _, hx, hcell⟩ := h.get hn
  injection he with he
  injection he with he1 he2
  subst he1; subst he2
  obtain ⟨s, l, hs⟩ := hT x
  have := hcell 0 (S s) (by rw [hs]; rfl)
  rw [hc.cell] at this
  match o, this with
  | 0, this => simp at this
  | 1, this => simp at this
  | 2, this => simp at this
  | 3, this => simp at this
  | o + 4, this => simp at this
section
variable {t t' : TypeId} {w v : World} {g g' : Nat} {r : OvR} {o : Ov}
theorem OvAt.ext (h : OvAt t w g r o) (hx : Ext w v) : OvAt t v g r o := ⟨h.cs.keep hx id, h.base.ext hx, h.own.ext hx, h.needs.ext hx, h.targets.ext hx, h.nw⟩
theorem OvAt.store (h : OvAt t w g r o) {A : Option Addr} {c : Nat} {l : List File} (hl : SlR fileF w A l.length l) (hn : ∀ b o', A = some ⟨b, o', none⟩ → 0 < l.length → g < b) : OvAt t (w.setCell ⟨g, 1, none⟩ (.slice A l.length c)) g { r with oA := A, oc := c } { o with own := l } := by
  have hx : Only (fun b => b = g) w (w.setCell ⟨g, 1, none⟩ (.slice A l.length c)) := (Only.refl _ _).at_ _ _
  have hS := h.cs.set_ 1 (.slice A l.length c)
  simp only [List.setIfInBounds_toArray, List.set_cons_succ, List.set_cons_zero] at hS
  exact ⟨hS, h.base.keep_far hx fun b o e hp => h.base.far fileF_head h.cs b o e hp, hl.keep_far hx fun b o e hp => hl.far fileF_head h.cs b o e hp,
    h.needs.keep_far hx fun b o e hp => h.needs.far strF_head h.cs b o e hp, h.targets.keep_far hx fun b o e hp => h.targets.far strF_head h.cs b o e hp, hn⟩
end
def Ov.rd (o : Ov) (k : Str) : Str := if getB k o.own then getT k o.own else if inS o.needs k then (if getB k o.base then getT k o.base else []) else []
def Ov.rdF (o : Ov) (k : Str) : Int := if getB k o.own then 0 else if inS o.needs k then (if getB k o.base then 0 else 5) else 6
def Ov.wrF (o : Ov) (k s : Str) : Int := if inS o.targets k then (if 20 < s.length then 2 else 0) else 6
def Ov.wr (o : Ov) (k s : Str) : Ov := if o.wrF k s = 0 then { o with own := putL fk (k, s) o.own } else o
structure Ov.Small (o : Ov) : Prop where
  base : o.base.length ≤ 10000
  own : o.own.length ≤ 10000
  needs : o.needs.length ≤ 10000
  targets : o.targets.length ≤ 10000
  rise : Rise fk o.own
  riseB : Rise fk o.base
theorem Ov.wr_base (o : Ov) (n s : Str) : (o.wr n s).base = o.base := by unfold Ov.wr; split <;> rfl
theorem Ov.wr_needs (o : Ov) (n s : Str) : (o.wr n s).needs = o.needs := by unfold Ov.wr; split <;> rfl
theorem Ov.wr_targets (o : Ov) (n s : Str) : (o.wr n s).targets = o.targets := by unfold Ov.wr; split <;> rfl
theorem Ov.wr_rise {o : Ov} (h : Rise fk o.own) (n s : Str) : Rise fk (o.wr n s).own := by
  unfold Ov.wr; split
  · exact rise_putL h _
  · exact h
theorem Ov.wr_len (o : Ov) (n s : Str) : (o.wr n s).own.length ≤ o.own.length + 1 := by
  unfold Ov.wr; split
  · exact length_putL _ _
  · omega
def cutB (c : UInt8) : Str → Str × Str × Bool
  | [] => ([], [], false)
  | x :: s => if x = c then ([], s, true) else (x :: (cutB c s).1, (cutB c s).2.1, (cutB c s).2.2)
theorem index_byte_cons (c x : UInt8) (s : Str) : Lib.index (x :: s) [c] = if x = c then 0 else if Lib.index s [c] = -1 then -1 else Lib.index s [c] + 1 := by
  have e : List.isPrefixOf [c] (x :: s) = decide (x = c) := by
    simp only [List.isPrefixOf, Bool.and_true]
    by_cases h : x = c
    · simp [h]
    · simp [h, Ne.symm h]
  rw [Lib.index, e]
  simp
theorem cut_byte (c : UInt8) : ∀ s : Str, Lib.cut s [c] = cutB c s
  | [] => by simp [Lib.cut, Lib.index, cutB]
  | x :: s => by
    have ih := cut_byte c s
    have hg := Lib.index_ge s [c]
    unfold Lib.cut at ih ⊢
    rw [index_byte_cons]
    unfold cutB
    by_cases h : x = c
    · simp [h]
    · rw [if_neg h, if_neg h, ← ih]
      by_cases h1 : Lib.index s [c] = -1
      · rw [h1]; simp
      · rw [if_neg h1]
        obtain ⟨i, hi⟩ : ∃ i : Nat, Lib.index s [c] = i := ⟨(Lib.index s [c]).toNat, by omega⟩
        rw [hi]
        have e1 : (0 : Int) ≤ (i : Int) + 1 := by omega
        have e2 : (0 : Int) ≤ (i : Int) := by omega
        have e3 : ((i : Int) + 1).toNat = i + 1 := by omega
        simp [e1, e2, e3]
def splB (c : UInt8) : Str → List Str
  | [] => [[]]
  | x :: s => if x = c then [] :: splB c s else match splB c s with
    | h :: t => (x :: h) :: t
    | [] => [[x]]
theorem splB_ne (c : UInt8) : ∀ s : Str, splB c s ≠ []
  | [] => by simp [splB]
  | x :: s => by
    unfold splB
    split
    · simp
    · split <;> simp
theorem splB_cons (c x : UInt8) (s : Str) : splB c (x :: s) = if x = c then [] :: splB c s else match splB c s with
    | h :: t => (x :: h) :: t
    | [] => [[x]] := rfl
theorem cutB_cons (c x : UInt8) (s : Str) : cutB c (x :: s) = if x = c then ([], s, true) else (x :: (cutB c s).1, (cutB c s).2.1, (cutB c s).2.2) := rfl
theorem splB_cut (c : UInt8) : ∀ s : Str, splB c s = if (cutB c s).2.2 then (cutB c s).1 :: splB c (cutB c s).2.1 else [s]
  | [] => by simp [splB, cutB]
  | x :: s => by
    have ih := splB_cut c s
    rw [splB_cons, cutB_cons]
    by_cases h : x = c
    · simp [h]
    · rw [if_neg h, if_neg h, ih]
      cases (cutB c s).2.2 <;> simp
theorem cut_parts (c : UInt8) : ∀ s : Str, (cutB c s).2.2 = true → s = (cutB c s).1 ++ c :: (cutB c s).2.1
  | [], h => by simp [cutB] at h
  | x :: s, h => by
    unfold cutB at h ⊢
    by_cases hx : x = c
    · simp [hx]
    · rw [if_neg hx] at h ⊢
      rw [List.cons_append, ← cut_parts c s h]
theorem index_cut (c : UInt8) (s : Str) : Lib.index s [c] = if (cutB c s).2.2 then ((cutB c s).1.length : Int) else -1 := by
  have h := cut_byte c s
  have hg := Lib.index_ge s [c]
  unfold Lib.cut at h
  by_cases h0 : 0 ≤ Lib.index s [c]
  · rw [if_pos h0] at h
    rw [← h]
    have := Lib.index_room s [c] h0
    simp only [List.length_take, if_true, List.length_cons, List.length_nil] at this ⊢
    omega
  · rw [if_neg h0] at h
    rw [← h]
    simp; omega
theorem splitK_byte (c : UInt8) : ∀ (n : Nat) (s : Str), s.length ≤ n → Lib.splitK [c] 0 (Lib.count s [c]) s = splB c s ∧ Lib.count s [c] + 1 = (splB c s).length
  | n, s, hn => by
    have hi := index_cut c s
    rw [splB_cut]
    by_cases hb : (cutB c s).2.2 = true
    · rw [if_pos hb] at hi
      rw [if_pos hb]
      have hp := cut_parts c s hb
      have hl : ∀ a b : Str, s = a ++ c :: b → s.length = a.length + b.length + 1 ∧ s.drop (a.length + 1) = b ∧ s.take a.length = a := by
        rintro a b rfl
        refine ⟨by simp; omega, ?_, List.take_left⟩
        rw [← List.drop_drop, List.drop_left]; rfl
      obtain ⟨hlen, hd, ht⟩ := hl _ _ hp
      match n, hn with
      | 0, hn => omega
      | n + 1, hn =>
        have hc : Lib.count s [c] = Lib.count (cutB c s).2.1 [c] + 1 := by
          rw [Lib.count_hit (by simp) hi, List.length_singleton, hd, Nat.add_comm]
        have ih := splitK_byte c n (cutB c s).2.1 (by omega)
        rw [hc]
        refine ⟨?_, by rw [List.length_cons, ← ih.2]⟩
        have hm : ¬ (Lib.index s [c] == -1) = true := fun e => by have := beq_iff_eq.1 e; omega
        have e1 : (Lib.index s [c]).toNat = (cutB c s).1.length := by omega
        rw [Lib.splitK, if_neg hm, e1, Nat.add_zero, List.length_singleton, ht, hd, ih.1]
    · rw [if_neg hb] at hi
      rw [if_neg hb, Lib.count_miss hi]
      exact ⟨rfl, rfl⟩
theorem S_extract (l : Str) (i j : Nat) : (⟨l.toArray⟩ : ByteArray).extract i j = ⟨((l.take j).drop i).toArray⟩ := by
  apply ByteArray.ext
  rw [ByteArray.data_extract]
  simp
  rw [List.drop_take]
theorem eql_lit (l : Str) (k : List UInt8) : ((⟨l.toArray⟩ : ByteArray).toList == k) = (l == k) := by rw [toList_S]
attribute [go_sem] S_extract eql_lit List.take_succ_cons List.drop_succ_cons List.drop_zero List.take_zero List.take_length
def headApp (p : Str) : List Str → List Str
  | h :: t => (p ++ h) :: t
  | [] => [p]
theorem splB_app (c x : UInt8) (s : Str) : splB c (x :: s) = if x = c then [] :: splB c s else headApp [x] (splB c s) := by
  rw [splB_cons]
  split
  · rfl
  · cases splB c s <;> rfl
theorem headApp_two (p q : Str) (l : List Str) : headApp p (headApp q l) = headApp (p ++ q) l := by
  cases l <;> simp [headApp]
theorem headApp_nil {l : List Str} (h : l ≠ []) : headApp [] l = l := by
  cases l with
  | nil => exact absurd rfl h
  | cons a l => rfl
theorem splB_le (c : UInt8) : ∀ s : Str, (splB c s).length ≤ s.length + 1
  | [] => by simp [splB]
  | x :: s => by
    have := splB_le c s
    rw [splB_app]
    split
    · simp; omega
    · cases h : splB c s with
      | nil => simp [headApp]
      | cons a l => rw [h] at this; simp [headApp] at this ⊢; omega
theorem map_S (l : List Str) : l.map (fun s => Value.string ⟨s.toArray⟩) = l.flatMap strF.enc := by
  induction l with
  | nil => rfl
  | cons x l ih => rw [List.map_cons, ih]; rfl
theorem splitB_str (c : UInt8) (k : Nat) (s : Str) : (Lib.splitB ⟨#[c]⟩ 0 k ⟨s.toArray⟩).map Value.string = (Lib.splitK [c] 0 k s).flatMap strF.enc := by
  rw [← map_S]
  have := Lib.splitB_data ⟨#[c]⟩ 0 k ⟨s.toArray⟩
  rw [show (⟨#[c]⟩ : ByteArray).data.toList = [c] from rfl, show (⟨s.toArray⟩ : ByteArray).data.toList = s from rfl] at this
  rw [← this, List.map_map]
  rfl
theorem Split_c (s : Str) (hs : s.length ≤ 100000) (c : UInt8) {w : World} (hm : Ml w) :
    Calls Tryz.prog 43 #[S s, S [c]] w fun e w' => ∃ A' c', e = .returned (.slice A' (splB c s).length c') ∧ Fresh strF 9 w w' A' c' (splB c s) := by
  obtain ⟨m, hm⟩ := hm
  refine (Tryz.strings_Split ⟨s.toArray⟩ ⟨#[c]⟩ m w (Nat.lt_of_le_of_lt hs (by omega)) hm (by show 1 ≤ 1; omega)).mono ?_
  rintro e w' ⟨rfl, rfl⟩
  have hk := splitK_byte c _ s (Nat.le_refl _)
  have hcount : Lib.countB ⟨s.toArray⟩ ⟨#[c]⟩ = Lib.count s [c] := rfl
  have hle := splB_le c s
  rw [hcount, splitB_str, hk.1, hk.2]
  refine ⟨_, _, rfl, ?_, (Only.refl No w).alloc _, fun g hg => by simp [Value.ownBlock] at hg; omega⟩
  refine own_of_block (rest := []) (by rw [List.append_nil]; exact Cs.new w _ _) (Nat.zero_le _) (length_flatMap_enc _ _) (by rw [List.append_nil]; exact length_flatMap_enc _ _) (Nat.le_refl _) (by unfold maxLen; omega)
theorem splitK_two (c : UInt8) {s : Str} {w0 w1 w2 : Str} {r : List Str} (h : splB c s = w0 :: w1 :: w2 :: r) : Lib.splitK [c] 0 2 s = [w0, w1, s.drop (w0.length + w1.length + 2)] ∧ w0.length + w1.length + 2 ≤ s.length := by
  rw [splB_cut] at h
  by_cases hb : (cutB c s).2.2 = true
  · rw [if_pos hb] at h
    injection h with h1 h
    rw [splB_cut] at h
    by_cases hb2 : (cutB c (cutB c s).2.1).2.2 = true
    · rw [if_pos hb2] at h
      injection h with h2 h
      have hp := cut_parts c s hb
      have hp2 := cut_parts c _ hb2
      have hi := index_cut c s
      have hi2 := index_cut c (cutB c s).2.1
      rw [if_pos hb] at hi
      rw [if_pos hb2] at hi2
      rw [h1] at hi hp
      rw [h2] at hi2 hp2
      generalize (cutB c s).2.1 = t at *
      generalize (cutB c t).2.1 = u at *
      have hl : ∀ (s a b : Str), s = a ++ c :: b → s.length = a.length + b.length + 1 ∧ s.drop (a.length + 1) = b ∧ s.take a.length = a := by
        rintro s a b rfl
        refine ⟨by simp; omega, ?_, List.take_left⟩
        rw [← List.drop_drop, List.drop_left]; rfl
      obtain ⟨l1, d1, t1⟩ := hl _ _ _ hp
      obtain ⟨l2, d2, t2⟩ := hl _ _ _ hp2
      have hm : ¬ (Lib.index s [c] == -1) = true := fun e => by have := beq_iff_eq.1 e; omega
      have e1 : (Lib.index s [c]).toNat = w0.length := by omega
      have hm2 : ¬ (Lib.index t [c] == -1) = true := fun e => by have := beq_iff_eq.1 e; omega
      have e2 : (Lib.index t [c]).toNat = w1.length := by omega
      refine ⟨?_, by omega⟩
      rw [Lib.splitK, if_neg hm, e1, Nat.add_zero, List.length_singleton, t1, d1, Lib.splitK, if_neg hm2, e2, Nat.add_zero, List.length_singleton, t2, d2, Lib.splitK]
      rw [← d2, ← d1, List.drop_drop]
      congr 3
      congr 1
      omega
    · rw [if_neg hb2] at h
      injection h with h h'
      cases h'
  · rw [if_neg hb] at h
    injection h with h h'
    cases h'
theorem SplitN_c {s : Str} (hs : s.length ≤ 100000) (c : UInt8) {w0 w1 w2 : Str} {r : List Str} (h : splB c s = w0 :: w1 :: w2 :: r) {w : World} (hm : Ml w) :
    Calls Tryz.prog 134 #[S s, S [c], .int .i64 3] w fun e w' => ∃ A' c', e = .returned (.slice A' 3 c') ∧ SlR strF w' A' 3 [w0, w1, s.drop (w0.length + w1.length + 2)] ∧ Ext w w' := by
  obtain ⟨m, hm⟩ := hm
  obtain ⟨h2, h3⟩ := splitK_two c h
  refine (Tryz.strings_SplitN ⟨s.toArray⟩ ⟨#[c]⟩ 3 m w (Nat.lt_of_le_of_lt hs (by omega)) hm (by show 1 ≤ 1; omega) (by omega) (by omega)).mono ?_
  rintro e w' ⟨rfl, rfl⟩
  have hmin : min 3 ((⟨s.toArray⟩ : ByteArray).size + 1) = 3 := by
    have : (⟨s.toArray⟩ : ByteArray).size = s.length := by simp [ByteArray.size]
    rw [this]; omega
  have hmap := splitB_str c 2 s
  rw [h2] at hmap
  have hlen : (Lib.splitB ⟨#[c]⟩ 0 2 ⟨s.toArray⟩).length = 3 := by
    have := congrArg List.length hmap
    simpa [strF] using this
  rw [hmin]
  simp only [Nat.reduceSub]
  rw [hlen]
  refine ⟨_, _, rfl, ⟨rfl, fun _ => ⟨w.heap.size, 0, rfl, by simp, fun k x hx j u hu => ?_⟩⟩, (Only.refl No w).alloc _⟩
  rw [(Cs.new w 9 _).cell]
  unfold Lib.cellsOf
  rw [hlen, hmap]
  match k, hx with
  | 0, hx => injection hx with hx; subst hx; match j, hu with | 0, hu => exact hu
  | 1, hx => injection hx with hx; subst hx; match j, hu with | 0, hu => exact hu
  | 2, hx => injection hx with hx; subst hx; match j, hu with | 0, hu => exact hu
def Ov.two (o : Ov) (a b : Str) (f : Str → Str) : Ov × Int := if o.rdF a = 0 then (o.wr b (f (o.rd a)), o.wrF b (f (o.rd a))) else (o, o.rdF a)
def Ov.joinT (o : Ov) : List Str → Str → Str × Int
  | [], s => (s, 0)
  | n :: ns, s => if o.rdF n = 0 then o.joinT ns (s ++ o.rd n) else ([], o.rdF n)
def Ov.join (o : Ov) (b : Str) (ns : List Str) : Ov × Int := if (o.joinT ns []).2 = 0 then (o.wr b (o.joinT ns []).1, o.wrF b (o.joinT ns []).1) else (o, (o.joinT ns []).2)
def Ov.need (o : Ov) (a : Str) : Int := if o.rdF a = 0 then (if o.rd a == [] then 7 else 0) else o.rdF a
abbrev kPut : Str := [112, 117, 116]
abbrev kCopy : Str := [99, 111, 112, 121]
abbrev kTurn : Str := [116, 117, 114, 110]
abbrev kSwap : Str := [115, 119, 97, 112]
abbrev kJoin : Str := [106, 111, 105, 110]
abbrev kNeed : Str := [110, 101, 101, 100]
abbrev kFail : Str := [102, 97, 105, 108]
def wd (cmd : Str) (i : Nat) : Str := (splB 32 cmd).getD i []
def nw (cmd : Str) : Nat := (splB 32 cmd).length
def sw (x y : Str) (s : Str) : Str := s.map fun c => if [c] = x then y.headD 0 else c
def cmdRest (cmd : Str) : Str := cmd.drop ((wd cmd 0).length + (wd cmd 1).length + 2)
def Ov.run (o : Ov) (cmd : Str) : Ov × Int :=
  if wd cmd 0 = kPut then (if 2 < nw cmd then (o.wr (wd cmd 1) (cmdRest cmd), o.wrF (wd cmd 1) (cmdRest cmd)) else (o, 4))
  else if wd cmd 0 = kCopy then (if nw cmd = 3 then o.two (wd cmd 1) (wd cmd 2) id else (o, 4))
  else if wd cmd 0 = kTurn then (if nw cmd = 3 then o.two (wd cmd 1) (wd cmd 2) List.reverse else (o, 4))
  else if wd cmd 0 = kSwap then (if nw cmd = 5 ∧ (wd cmd 3).length = 1 ∧ (wd cmd 4).length = 1 then o.two (wd cmd 1) (wd cmd 2) (sw (wd cmd 3) (wd cmd 4)) else (o, 4))
  else if wd cmd 0 = kJoin then (if 2 < nw cmd then o.join (wd cmd 1) ((splB 32 cmd).drop 2) else (o, 4))
  else if wd cmd 0 = kNeed then (if nw cmd = 2 then (o, o.need (wd cmd 1)) else (o, 4))
  else if cmd = kFail then (o, 7) else (o, 4)
structure Ov.Tx (o : Ov) : Prop where
  base : ∀ f ∈ o.base, f.2.length ≤ 1000
  own : ∀ f ∈ o.own, f.2.length ≤ 1000
structure Ov.Fit (xs : List File) (ns ts : List Str) (k : Nat) (o : Ov) : Prop where
  eb : o.base = xs
  en : o.needs = ns
  et : o.targets = ts
  rise : Rise fk o.own
  len : o.own.length ≤ k
  tx : ∀ f ∈ o.own, f.2.length ≤ 1000
theorem mem_getL_ {xs : List File} {k : Str} {x : File} (h : getL fk k xs = some x) : x ∈ xs := List.mem_of_find?_eq_some h
theorem getT_len {k : Str} {xs : List File} (h : ∀ f ∈ xs, f.2.length ≤ 1000) : (getT k xs).length ≤ 1000 := by
  unfold getT
  cases hg : getL fk k xs with
  | none => simp
  | some x => exact h x (mem_getL_ hg)
theorem Ov.rd_len {o : Ov} (h : o.Tx) (k : Str) : (o.rd k).length ≤ 1000 := by
  unfold Ov.rd
  split
  · exact getT_len h.own
  · split
    · split
      · exact getT_len h.base
      · simp
    · simp
theorem Ov.wr_txt {o : Ov} (h : ∀ f ∈ o.own, f.2.length ≤ 1000) (n s : Str) : ∀ f ∈ (o.wr n s).own, f.2.length ≤ 1000 := by
  intro f hf
  unfold Ov.wr at hf
  split at hf
  · rename_i he
    have hs : s.length ≤ 20 := by
      unfold Ov.wrF at he
      split at he
      · split at he
        · cases he
        · omega
      · cases he
    rcases mem_putL hf with rfl | hf
    · show s.length ≤ 1000; omega
    · exact h f hf
  · exact h f hf
section
variable {xs : List File} {ns ts : List Str} {k : Nat} {o : Ov}
theorem Ov.Fit.more (h : o.Fit xs ns ts k) : o.Fit xs ns ts (k + 1) := ⟨h.eb, h.en, h.et, h.rise, Nat.le_succ_of_le h.len, h.tx⟩
theorem Ov.Fit.wr (h : o.Fit xs ns ts k) (n s : Str) : (o.wr n s).Fit xs ns ts (k + 1) :=
  ⟨(Ov.wr_base _ _ _).trans h.eb, (Ov.wr_needs _ _ _).trans h.en, (Ov.wr_targets _ _ _).trans h.et, Ov.wr_rise h.rise _ _, Nat.le_trans (Ov.wr_len _ _ _) (Nat.succ_le_succ h.len), Ov.wr_txt h.tx _ _⟩
theorem Ov.Fit.two (h : o.Fit xs ns ts k) (a b : Str) (f : Str → Str) : (o.two a b f).1.Fit xs ns ts (k + 1) := by
  unfold Ov.two; split
  · exact h.wr _ _
  · exact h.more
theorem Ov.Fit.join (h : o.Fit xs ns ts k) (b : Str) (l : List Str) : (o.join b l).1.Fit xs ns ts (k + 1) := by
  unfold Ov.join; split
  · exact h.wr _ _
  · exact h.more
theorem Ov.Fit.run (h : o.Fit xs ns ts k) (cmd : Str) : (o.run cmd).1.Fit xs ns ts (k + 1) := by
  unfold Ov.run
  repeat' split
  all_goals first
    | exact h.wr _ _
    | exact h.two _ _ _
    | exact h.join _ _
    | exact h.more
theorem Ov.Fit.small (h : o.Fit xs ns ts k) (h1 : xs.length ≤ 10000) (h2 : ns.length ≤ 10000) (h3 : ts.length ≤ 10000) (h4 : k ≤ 10000) (h5 : Rise fk xs) : o.Small :=
  ⟨by rw [h.eb]; exact h1, Nat.le_trans h.len h4, by rw [h.en]; exact h2, by rw [h.et]; exact h3, h.rise, by rw [h.eb]; exact h5⟩
theorem Ov.Fit.txs (h : o.Fit xs ns ts k) (h1 : ∀ f ∈ xs, f.2.length ≤ 1000) : o.Tx := ⟨by rw [h.eb]; exact h1, h.tx⟩
end
theorem replaceAll_byte (x y : UInt8) (s : Str) : Lib.replaceAll s [x] [y] = s.map fun c => if c = x then y else c := by
  unfold Lib.replaceAll Lib.replace
  by_cases hxy : x = y
  · subst hxy
    simp only [beq_self_eq_true, if_true]
    have : (fun c : UInt8 => if c = x then x else c) = id := by
      funext c; split <;> simp_all
    rw [this, List.map_id]
  · have hne : ([x] == [y]) = false := by simpa using hxy
    rw [if_neg (by rw [hne]; exact Bool.false_ne_true)]
    have hr : Lib.replaceNum s [x] (-1) = Lib.count s [x] := by unfold Lib.replaceNum; rw [if_pos (.inl (by decide))]
    rw [hr]
    have key : ∀ (n : Nat) (s : Str), s.length ≤ n → Lib.replaceK [x] [y] (Lib.count s [x]) s = s.map fun c => if c = x then y else c := by
      intro n
      induction n with
      | zero =>
        intro s hs
        obtain rfl : s = [] := List.eq_nil_of_length_eq_zero (by omega)
        rfl
      | succ n ih =>
        intro s hs
        have hi := index_cut x s
        by_cases hb : (cutB x s).2.2 = true
        · rw [if_pos hb] at hi
          have hp := cut_parts x s hb
          have hfree : ∀ (l : Str), (∀ z ∈ (cutB x l).1, z ≠ x) := by
            intro l
            induction l with
            | nil => simp [cutB]
            | cons z l ihl =>
              rw [cutB_cons]
              split
              · simp
              · rename_i hz
                intro u hu
                rcases List.mem_cons.1 hu with rfl | hu
                · exact hz
                · exact ihl u hu
          have hfr := hfree s
          have hl : ∀ a b : Str, s = a ++ x :: b → s.length = a.length + b.length + 1 ∧ s.drop (a.length + 1) = b ∧ s.take a.length = a := by
            rintro a b rfl
            refine ⟨by simp; omega, ?_, List.take_left⟩
            rw [← List.drop_drop, List.drop_left]; rfl
          obtain ⟨hlen, hd, ht⟩ := hl _ _ hp
          have hc : Lib.count s [x] = Lib.count (cutB x s).2.1 [x] + 1 := by
            rw [Lib.count_hit (by simp) hi, List.length_singleton, hd, Nat.add_comm]
          rw [hc, Lib.replaceK_hit _ _ _ _ _ hi, List.length_singleton, hd, ht, ih _ (by omega)]
          generalize (cutB x s).1 = a at *
          generalize (cutB x s).2.1 = b at *
          rw [hp, List.map_append, List.map_cons, if_pos rfl]
          have : a.map (fun c => if c = x then y else c) = a := by
            have h2 : a.map (fun c => if c = x then y else c) = a.map id := List.map_congr_left fun z hz => if_neg (hfr z hz)
            rw [h2, List.map_id]
          rw [this]
          simp
        · rw [if_neg hb] at hi
          rw [Lib.count_miss hi]
          have hfree : ∀ (l : Str), (cutB x l).2.2 = false → ∀ z ∈ l, z ≠ x := by
            intro l
            induction l with
            | nil => simp
            | cons z l ihl =>
              rw [cutB_cons]
              split
              · simp
              · rename_i hz
                intro hl u hu
                rcases List.mem_cons.1 hu with rfl | hu
                · exact hz
                · exact ihl hl u hu
          have hfr := hfree s (by simpa using hb)
          show s = _
          have h2 : s.map (fun c => if c = x then y else c) = s.map id := List.map_congr_left fun z hz => if_neg (hfr z hz)
          rw [h2, List.map_id]
    exact key _ s (Nat.le_refl _)
@[go_sem] theorem ov_build (A B C : Option Addr) (n c m d k e : Nat) (w : World) : (Instr.build 165 #[(0, .slice A n c), (2, .slice B m d), (3, .slice C k e)]).run Tryz.prog w =
    .ok (.agg #[.slice A n c, .slice none 0 0, .slice B m d, .slice C k e]) w := run_build w 165 _ _ (by kernel_rfl)
theorem New_c {w : World} {A B C : Option Addr} {n c m d k e : Nat} {xs : List File} {ns ts : List Str} (h1 : SlR fileF w A n xs) (h2 : SlR strF w B m ns) (h3 : SlR strF w C k ts) (hn : n ≤ 10000) (hm : m ≤ 10000) (hk : k ≤ 10000) :
    Calls Tryz.prog 105 #[.slice A n c, .slice B m d, .slice C k e] w fun e w' => ∃ g r, e = .returned (pt g) ∧ OvAt 165 w' g r ⟨xs, [], ns, ts⟩ ∧ Ext w w' ∧ w.heap.size ≤ g := by
  have HC1 := Lib.hid (CloneFiles_f (c := c) h1 h1.none_len (by omega))
  have HC2 := Lib.hid (fun v (hv : Ext w v) => CloneStrs_f (c := d) (h2.ext hv) h2.none_len (by omega))
  have HC3 := Lib.hid (fun v (hv : Ext w v) => CloneStrs_f (c := e) (h3.ext hv) h3.none_len (by omega))
  clear h1 h2 h3
  go_enter Tryz.func105, Tryz.ntmps105
  go_wp2_with fail
  refine (HC1.out).mono ?_; rintro e uu ⟨A1, k1, rfl, hf⟩; obtain ⟨ξ1, hnew⟩ : ∃ ξ : X w No, ξ.v = uu := ⟨⟨uu, (X.here w No).h.then_ext hf.ext⟩, rfl⟩; subst hnew; have Hξ1 := Lib.hid hf.ext; have F1 := Lib.hid hf; clear hf
  go_wp2_with fail
  refine (HC2.out _ ξ1.h).mono ?_; rintro e uu ⟨A2, k2, rfl, hf⟩; obtain ⟨ξ2, hnew⟩ : ∃ ξ : X w No, ξ.v = uu := ⟨⟨uu, ξ1.h.then_ext hf.ext⟩, rfl⟩; subst hnew; have Hξ2 := Lib.hid hf.ext; have F2 := Lib.hid hf; clear hf
  go_wp2_with fail
  refine (HC3.out _ ξ2.h).mono ?_; rintro e uu ⟨A3, k3, rfl, hf⟩; obtain ⟨ξ3, hnew⟩ : ∃ ξ : X w No, ξ.v = uu := ⟨⟨uu, ξ2.h.then_ext hf.ext⟩, rfl⟩; subst hnew; have Hξ3 := Lib.hid hf.ext; have F3 := Lib.hid hf; clear hf
  clear HC1 HC2 HC3
  go_wp2_with fail
  go_ret
  have hx : Ext ξ3.v (ξ3.v.alloc (.cells #[.slice A1 xs.length k1, .slice none 0 0, .slice A2 ns.length k2, .slice A3 ts.length k3] 165)) := (Only.refl No _).alloc _
  refine ⟨ξ3.v.heap.size, ⟨A1, k1, none, 0, A2, k2, A3, k3⟩, rfl, ⟨Cs.new _ _ _, ((F1.out.row (by decide)).ext (Hξ2.out.then_ext Hξ3.out)).ext hx, SlR.none_, ((F2.out.row (by decide)).ext Hξ3.out).ext hx, (F3.out.row (by decide)).ext hx, fun b o' e => by cases e⟩, ξ3.h.then_ext hx, ξ3.h.size⟩
theorem Own_c {t : TypeId} {w : World} {g : Nat} {r : OvR} {o : Ov} (ht : t = 165) (h : OvAt t w g r o) (hs : o.Small) :
    Calls Tryz.prog 107 #[pt g] w fun e w' => ∃ A' c', e = .returned (.slice A' o.own.length c') ∧ Fresh fileF 75 w w' A' c' o.own := by
  have HC := Lib.hid (CloneFiles_f (c := r.oc) h.own h.own.none_len (Nat.le_trans hs.own (by omega)))
  have c1 := h.cs.cell 1
  simp only [List.getElem?_toArray, List.getElem?_cons_succ, List.getElem?_cons_zero] at c1
  clear h hs
  go_enter Tryz.func107, Tryz.ntmps107
  go_wp2_with fail
  refine (HC.out).mono ?_; rintro e uu ⟨A1, k1, rfl, hf⟩; obtain ⟨ξ1, hnew⟩ : ∃ ξ : X w No, ξ.v = uu := ⟨⟨uu, (X.here w No).h.then_ext hf.ext⟩, rfl⟩; subst hnew; have Hξ1 := Lib.hid hf.ext; have F1 := Lib.hid hf; clear hf
  go_wp2_with fail
  go_ret
  exact ⟨A1, k1, rfl, F1.out⟩
set_option maxHeartbeats 1000000 in
theorem Write_ov {w : World} {g : Nat} {r : OvR} {o : Ov} (h : OvAt 165 w g r o) (hs : o.Small) (k s : Str) (hk : k.length ≤ maxLen) (hsl : s.length ≤ maxLen) :
    Calls Tryz.prog 133 #[pt g, S k, S s] w fun e w' => e = .returned (errV (o.wrF k s)) ∧ ∃ r', OvAt 165 w' g r' (o.wr k s) ∧ Only (fun b => b = g) w w' := by
  unfold maxLen at hsl
  have HC := Lib.hid (Contains_c (c := r.tc) h.targets (Nat.le_trans hs.targets (by omega)) k)
  have HP := Lib.hid (fun v (hv : Ext w v) => Put_c (c := r.oc) (h.own.ext hv) (Nat.le_trans hs.own (by omega)) (k, s) hs.rise)
  have c1 : ∀ ξ : X w No, ξ.v.cell? ⟨g, 1, none⟩ = some (.slice r.oA o.own.length r.oc) := h.cs.x id 1
  have c3 := h.cs.cell 3
  simp only [List.getElem?_toArray, List.getElem?_cons_succ, List.getElem?_cons_zero] at c3
  have fz : ∀ ξ : X w No, ξ.v.frozen? ⟨g, 1, none⟩ = false := fun ξ => (h.cs.keep ξ.h id).frozen 1
  have H := Lib.hid h
  obtain ⟨b, hb⟩ : ∃ b, b = inS o.targets k := ⟨_, rfl⟩
  rw [← hb] at HC
  have HF : Hid (o.wrF k s = if b then (if 20 < s.length then 2 else 0) else 6) := by unfold Hid Ov.wrF; rw [← hb]
  obtain ⟨L, hL⟩ : ∃ L, L = putL fk (k, s) o.own := ⟨_, rfl⟩
  rw [← hL] at HP
  have HW : Hid (o.wrF k s ≠ 0 → o.wr k s = o) := fun hne => by unfold Ov.wr; rw [if_neg hne]
  have HW2 : Hid (o.wrF k s = 0 → o.wr k s = { o with own := L }) := fun he => by unfold Ov.wr; rw [if_pos he, hL]
  clear hb hL h hs
  go_enter Tryz.func133, Tryz.ntmps133
  go_wp2_with fail
  refine (HC.out).mono ?_; rintro e uu ⟨rfl, hu⟩; obtain ⟨ξ1, hnew⟩ : ∃ ξ : X w No, ξ.v = uu := ⟨⟨uu, (X.here w No).h.then_ext hu⟩, rfl⟩; subst hnew; have Hξ1 := Lib.hid hu; clear hu
  clear HC c3
  cases b with
  | false =>
    go_wp2_with fail
    go_ret
    have e1 : o.wrF k s = 6 := HF.out
    rw [e1, HW.out (by rw [e1]; omega)]
    exact ⟨rfl, r, H.out.ext ξ1.h, ξ1.h.any⟩
  | true =>
    by_cases hl : 20 < s.length
    · have e1 : Hid (o.wrF k s = 2) := by unfold Hid; rw [HF.out, if_pos rfl, if_pos hl]
      go_wp2_with fail
      go_ret
      rw [e1.out, HW.out (by rw [e1.out]; omega)]
      exact ⟨rfl, r, H.out.ext ξ1.h, ξ1.h.any⟩
    · have e1 : Hid (o.wrF k s = 0) := by unfold Hid; rw [HF.out, if_pos rfl, if_neg hl]
      go_wp2_with fail
      refine (HP.out _ ξ1.h).mono ?_; rintro e uu ⟨A2, k2, rfl, hf⟩; obtain ⟨ξ2, hnew⟩ : ∃ ξ : X w No, ξ.v = uu := ⟨⟨uu, ξ1.h.then_ext hf.ext⟩, rfl⟩; subst hnew; have Hξ2 := Lib.hid hf.ext; have F2 := Lib.hid hf; clear hf
      clear HP
      go_wp2_with fail
      go_ret
      rw [e1.out, HW2.out e1.out]
      exact ⟨rfl, _, (H.out.ext ξ2.h).store (F2.out.row (by decide)) (fun b o' e _ => Nat.lt_of_lt_of_le (H.out.ext ξ1.h).cs.lt (F2.out.new b (by rw [e]; rfl))), ξ2.h.any.trans ((Only.refl _ _).at_ 1 _) fun _ _ h => h⟩
set_option maxHeartbeats 1000000 in
theorem Read_ov {w : World} {g : Nat} {r : OvR} {o : Ov} (h : OvAt 165 w g r o) (hs : o.Small) (k : Str) (hk : k.length ≤ maxLen) :
    Calls Tryz.prog 158 #[pt g, S k] w fun e w' => e = .returned (.tuple #[S (o.rd k), errV (o.rdF k)]) ∧ Ext w w' := by
  have HG := Lib.hid (Get_c (c := r.oc) h.own (Nat.le_trans hs.own (by omega)) k hs.rise)
  have HC := Lib.hid (fun v (hv : Ext w v) => Contains_c (c := r.nc) (h.needs.ext hv) (Nat.le_trans hs.needs (by omega)) k)
  have HB := Lib.hid (fun v (hv : Ext w v) => Get_c (c := r.bc) (h.base.ext hv) (Nat.le_trans hs.base (by omega)) k hs.riseB)
  have c0 : ∀ ξ : X w No, ξ.v.cell? ⟨g, 0, none⟩ = some (.slice r.bA o.base.length r.bc) := h.cs.x id 0
  have c1 := h.cs.cell 1
  simp only [List.getElem?_toArray, List.getElem?_cons_succ, List.getElem?_cons_zero] at c1
  have c2 : ∀ ξ : X w No, ξ.v.cell? ⟨g, 2, none⟩ = some (.slice r.nA o.needs.length r.nc) := h.cs.x id 2
  have HR : Hid (o.rd k = if getB k o.own then getT k o.own else if inS o.needs k then (if getB k o.base then getT k o.base else []) else []) := rfl
  have HF : Hid (o.rdF k = if getB k o.own then 0 else if inS o.needs k then (if getB k o.base then 0 else 5) else 6) := rfl
  generalize getT k o.own = t1 at HG HR
  generalize getB k o.own = b1 at HG HR HF
  generalize inS o.needs k = b2 at HC HR HF
  generalize getT k o.base = t3 at HB HR
  generalize getB k o.base = b3 at HB HR HF
  clear h hs
  go_enter Tryz.func158, Tryz.ntmps158
  go_wp2_with fail
  refine (HG.out).mono ?_; rintro e uu ⟨rfl, hu⟩; obtain ⟨ξ1, hnew⟩ : ∃ ξ : X w No, ξ.v = uu := ⟨⟨uu, (X.here w No).h.then_ext hu⟩, rfl⟩; subst hnew; have Hξ1 := Lib.hid hu; clear hu
  clear HG c1
  cases b1 with
  | true =>
    go_wp2_with fail
    go_ret2
    exact ⟨by rw [HR.out, HF.out]; rfl, ξ1.h⟩
  | false =>
    go_wp2_with fail
    refine (HC.out _ ξ1.h).mono ?_; rintro e uu ⟨rfl, hu⟩; obtain ⟨ξ2, hnew⟩ : ∃ ξ : X w No, ξ.v = uu := ⟨⟨uu, ξ1.h.then_ext hu⟩, rfl⟩; subst hnew; have Hξ2 := Lib.hid hu; clear hu
    clear HC
    cases b2 with
    | false =>
      go_wp2_with fail
      go_ret2
      exact ⟨by rw [HR.out, HF.out]; rfl, ξ2.h⟩
    | true =>
      go_wp2_with fail
      refine (HB.out _ ξ2.h).mono ?_; rintro e uu ⟨rfl, hu⟩; obtain ⟨ξ3, hnew⟩ : ∃ ξ : X w No, ξ.v = uu := ⟨⟨uu, ξ2.h.then_ext hu⟩, rfl⟩; subst hnew; have Hξ3 := Lib.hid hu; clear hu
      clear HB
      cases b3 <;>
      · go_wp2_with fail
        go_ret2
        exact ⟨by rw [HR.out, HF.out]; rfl, ξ3.h⟩
def revF (L : Str) (a k : Nat) : UInt8 := if k < a ∨ L.length ≤ k + a then L.getD (L.length - 1 - k) 0 else L.getD k 0
structure RevAt (w wr : World) (g : Nat) (L : Str) (a : Nat) : Prop where
  cell : ∀ k, k < L.length → wr.cell? ⟨g, k, none⟩ = some (.int .u8 ((revF L a k).toNat : Int))
  froz : ∀ k, k < L.length → wr.frozen? ⟨g, k, none⟩ = false
  x : Only (fun b => b = g) w wr
set_option maxRecDepth 100000 in
set_option maxHeartbeats 1000000 in
theorem Reverse_c {w : World} {g n c : Nat} {L : Str} (h : RevAt w w g L 0) (hn : L.length = n) (hb : n ≤ maxLen) :
    Calls Tryz.prog 159 #[.slice (some ⟨g, 0, none⟩) n c] w fun e w' => e = .returned (.tuple #[]) ∧ ∃ a, n ≤ 2 * a + 1 ∧ RevAt w w' g L a := by
  unfold maxLen at hb
  have H0 := Lib.hid h
  clear h
  have HN := Lib.hid hn
  clear hn
  go_enter Tryz.func159, Tryz.ntmps159
  go_wp2_with (first | ((first | refine Mix.wpList_guarded rfl ?_ | refine Mix.wp_still (by kernel_rfl) (by kernel_rfl) ?_); (repeat' (first | (refine Mix.lex_quiet0 rfl rfl rfl ?_; intro K hK; go_big_quiet_op; go_big_quiet_on) | (refine Mix.lex_quietG rfl rfl rfl (by with_reducible rfl) rfl rfl ?_; intro K hK; go_big_quiet_op; go_big_quiet_on) | ((first | refine Mix.lex_skipT rfl rfl rfl (by with_reducible rfl) ?_ | refine Mix.lex_skipF rfl rfl rfl (by with_reducible rfl) ?_ | refine Mix.lex_skipU rfl rfl rfl (by with_reducible rfl) ?_); simp only [Act.put, List.setIfInBounds_toArray, List.set_cons_succ, List.set_cons_zero]) | (refine Mix.lex_part rfl rfl rfl rfl (fun hq => ?_) (fun hq => ?_) <;> (fail_if_success (guard_hyp hq :ₛ true = true)) <;> (fail_if_success (guard_hyp hq :ₛ false = false)) <;> first | (exfalso; cases hq; done) | (exfalso; simp only [decide_eq_true_eq, decide_eq_false_iff_not, beq_iff_eq, beq_eq_false_iff_ne, ne_eq, Int.not_lt, Int.not_le] at hq; omega) | simp only [Act.put, List.setIfInBounds_toArray, List.set_cons_succ, List.set_cons_zero]))); all_goals (refine Mix.lex_nil ?_)))
  go_loopw [2, 3] (fun i j wr => ∃ a : Nat, 2 * a ≤ n + 1 ∧ i = .int .i64 a ∧ j = .int .i64 ((n : Int) - 1 - a) ∧ RevAt w wr g L a) (fun i _ _ => n + 1 - (intOf i).toNat)
  case atStart => exact ⟨0, by omega, rfl, by simp, H0.out⟩
  case round =>
    obtain ⟨a, ha, rfl, rfl, hR⟩ := hrel
    have HR := Lib.hid hR
    clear hR
    by_cases hlt : (a : Int) < (n : Int) - 1 - a
    · have c1 := HR.out.cell a (by rw [HN.out]; omega)
      have c2 := HR.out.cell (n - 1 - a) (by rw [HN.out]; omega)
      have f1 := HR.out.froz a (by rw [HN.out]; omega)
      have f2 := HR.out.froz (n - 1 - a) (by rw [HN.out]; omega)
      obtain ⟨j, hj⟩ : ∃ j, j = n - 1 - a := ⟨_, rfl⟩
      have hj2 : (n : Int) - 1 - a = (j : Int) := by omega
      rw [← hj] at c2 f2
      rw [hj2] at hlt ⊢
      obtain ⟨x, hx⟩ : ∃ x, x = (revF L a a).toNat := ⟨_, rfl⟩
      obtain ⟨y, hy⟩ : ∃ y, y = (revF L a j).toNat := ⟨_, rfl⟩
      rw [← hx] at c1
      rw [← hy] at c2
      have HX := Lib.hid hx
      have HY := Lib.hid hy
      clear hx hy
      have hjn : j < n := by omega
      have han : a < n := by omega
      have HJ := Lib.hid hj
      clear hj hj2
      go_wp2_with (first | ((first | refine Mix.wpList_guarded rfl ?_ | refine Mix.wp_still (by kernel_rfl) (by kernel_rfl) ?_); (repeat' (first | (refine Mix.lex_quiet0 rfl rfl rfl ?_; intro K hK; go_big_quiet_op; go_big_quiet_on) | (refine Mix.lex_quietG rfl rfl rfl (by with_reducible rfl) rfl rfl ?_; intro K hK; go_big_quiet_op; go_big_quiet_on) | ((first | refine Mix.lex_skipT rfl rfl rfl (by with_reducible rfl) ?_ | refine Mix.lex_skipF rfl rfl rfl (by with_reducible rfl) ?_ | refine Mix.lex_skipU rfl rfl rfl (by with_reducible rfl) ?_); simp only [Act.put, List.setIfInBounds_toArray, List.set_cons_succ, List.set_cons_zero]) | (refine Mix.lex_part rfl rfl rfl rfl (fun hq => ?_) (fun hq => ?_) <;> (fail_if_success (guard_hyp hq :ₛ true = true)) <;> (fail_if_success (guard_hyp hq :ₛ false = false)) <;> first | (exfalso; cases hq; done) | (exfalso; simp only [decide_eq_true_eq, decide_eq_false_iff_not, beq_iff_eq, beq_eq_false_iff_ne, ne_eq, Int.not_lt, Int.not_le] at hq; omega) | simp only [Act.put, List.setIfInBounds_toArray, List.set_cons_succ, List.set_cons_zero]))); all_goals (refine Mix.lex_nil ?_)))
      go_region
      go_wp2_with (first | ((first | refine Mix.wpList_guarded rfl ?_ | refine Mix.wp_still (by kernel_rfl) (by kernel_rfl) ?_); (repeat' (first | (refine Mix.lex_quiet0 rfl rfl rfl ?_; intro K hK; go_big_quiet_op; go_big_quiet_on) | (refine Mix.lex_quietG rfl rfl rfl (by with_reducible rfl) rfl rfl ?_; intro K hK; go_big_quiet_op; go_big_quiet_on) | ((first | refine Mix.lex_skipT rfl rfl rfl (by with_reducible rfl) ?_ | refine Mix.lex_skipF rfl rfl rfl (by with_reducible rfl) ?_ | refine Mix.lex_skipU rfl rfl rfl (by with_reducible rfl) ?_); simp only [Act.put, List.setIfInBounds_toArray, List.set_cons_succ, List.set_cons_zero]) | (refine Mix.lex_part rfl rfl rfl rfl (fun hq => ?_) (fun hq => ?_) <;> (fail_if_success (guard_hyp hq :ₛ true = true)) <;> (fail_if_success (guard_hyp hq :ₛ false = false)) <;> first | (exfalso; cases hq; done) | (exfalso; simp only [decide_eq_true_eq, decide_eq_false_iff_not, beq_iff_eq, beq_eq_false_iff_ne, ne_eq, Int.not_lt, Int.not_le] at hq; omega) | simp only [Act.put, List.setIfInBounds_toArray, List.set_cons_succ, List.set_cons_zero]))); all_goals (refine Mix.lex_nil ?_)))
      go_roundw
      case rel =>
        have hN := HN.out
        have hJ := HJ.out
        have hX := HX.out
        have hY := HY.out
        have hx0 : revF L a a = L.getD a 0 := by unfold revF; rw [if_neg (by omega)]
        have hy0 : revF L a j = L.getD j 0 := by unfold revF; rw [if_neg (by omega)]
        have hx1 : revF L (a + 1) j = L.getD a 0 := by unfold revF; rw [if_pos (by omega)]; congr 1; omega
        have hy1 : revF L (a + 1) a = L.getD j 0 := by unfold revF; rw [if_pos (by omega)]; congr 1; omega
        refine ⟨a + 1, by omega, by go_num, by go_num, ⟨fun k hk => ?_, fun k hk => ?_, ?_⟩⟩
        · rw [World.cell?_drew]
          by_cases hkj : k = j
          · subst hkj
            rw [hx1, ← hx0, ← hX]
            exact World.cell?_setCell_same _ _ _ (by rw [World.cell?_setCell_other _ _ _ _ (by simp <;> omega)]; exact c2)
          · rw [World.cell?_setCell_other _ _ _ _ (by simp <;> omega)]
            by_cases hka : k = a
            · subst hka
              rw [hy1, ← hy0, ← hY]
              exact World.cell?_setCell_same _ _ _ c1
            · rw [World.cell?_setCell_other _ _ _ _ (by simp <;> omega), HR.out.cell k hk]
              congr 3
              unfold revF
              by_cases h1 : k < a ∨ L.length ≤ k + a
              · rw [if_pos h1, if_pos (by omega)]
              · rw [if_neg h1, if_neg (by omega)]
        · simp [HR.out.froz k hk]
        · exact ((HR.out.x.at_ _ _).at_ _ _).drew
      case measure => simp [intOf]; omega
    · go_wp2_with (first | ((first | refine Mix.wpList_guarded rfl ?_ | refine Mix.wp_still (by kernel_rfl) (by kernel_rfl) ?_); (repeat' (first | (refine Mix.lex_quiet0 rfl rfl rfl ?_; intro K hK; go_big_quiet_op; go_big_quiet_on) | (refine Mix.lex_quietG rfl rfl rfl (by with_reducible rfl) rfl rfl ?_; intro K hK; go_big_quiet_op; go_big_quiet_on) | ((first | refine Mix.lex_skipT rfl rfl rfl (by with_reducible rfl) ?_ | refine Mix.lex_skipF rfl rfl rfl (by with_reducible rfl) ?_ | refine Mix.lex_skipU rfl rfl rfl (by with_reducible rfl) ?_); simp only [Act.put, List.setIfInBounds_toArray, List.set_cons_succ, List.set_cons_zero]) | (refine Mix.lex_part rfl rfl rfl rfl (fun hq => ?_) (fun hq => ?_) <;> (fail_if_success (guard_hyp hq :ₛ true = true)) <;> (fail_if_success (guard_hyp hq :ₛ false = false)) <;> first | (exfalso; cases hq; done) | (exfalso; simp only [decide_eq_true_eq, decide_eq_false_iff_not, beq_iff_eq, beq_eq_false_iff_ne, ne_eq, Int.not_lt, Int.not_le] at hq; omega) | simp only [Act.put, List.setIfInBounds_toArray, List.set_cons_succ, List.set_cons_zero]))); all_goals (refine Mix.lex_nil ?_)))
      go_end0
      exact ⟨rfl, a, by omega, HR.out⟩
theorem rev_full {L : Str} {a : Nat} (h : L.length ≤ 2 * a + 1) {k : Nat} (hk : k < L.length) : revF L a k = L.reverse[k]'(by simpa using hk) := by
  rw [List.getElem_reverse]
  unfold revF
  split
  · rw [List.getD_eq_getElem?_getD, List.getElem?_eq_getElem (by omega)]; rfl
  · have e : L.length - 1 - k = k := by omega
    rw [List.getD_eq_getElem?_getD, List.getElem?_eq_getElem hk]
    simp only [e]
    rfl
theorem byte_row (s : Str) (cap : Nat) (w : World) (e : TypeId) (k : Nat) (hk : k < s.length) (z : Nat × Nat) (hz : s.length ≤ z.1) :
    (w.alloc (.cells (bytesRow ⟨s.toArray⟩ cap) e z)).cell? ⟨w.heap.size, k, none⟩ = some (.int .u8 (s[k].toNat : Int)) ∧
    (w.alloc (.cells (bytesRow ⟨s.toArray⟩ cap) e z)).frozen? ⟨w.heap.size, k, none⟩ = false := by
  have hh : (w.alloc (.cells (bytesRow ⟨s.toArray⟩ cap) e z)).heap[w.heap.size]? = some (.cells (bytesRow ⟨s.toArray⟩ cap) e z) := heap_alloc_new w _
  constructor
  · rw [cell_of_row _ _ _ _ _ _ hh, bytesRow_at _ _ _ (by simpa using hk)]
    simp
  · obtain ⟨z1, z2⟩ := z
    have hz : s.length ≤ z1 := hz
    simp only [World.frozen?, hh]
    simp
    omega
set_option maxRecDepth 100000 in
theorem turned_c (s : Str) (hs : s.length ≤ maxLen) (w : World) : Calls Tryz.prog 137 #[S s] w fun e w' => e = .returned (S s.reverse) ∧ Ext w w' := by
  have h1 := run_bytes_of_string (P := Tryz.prog) w 9 150 5 ⟨s.toArray⟩ Tryz.underlying9 Tryz.underlying150 Tryz.underlying5
  obtain ⟨cap, hcap⟩ : ∃ cap, cap = grownCap w (⟨s.toArray⟩ : ByteArray).size 0 5 := ⟨_, rfl⟩
  obtain ⟨W, hW⟩ : ∃ W, W = w.drew.alloc (.cells (bytesRow ⟨s.toArray⟩ cap) 5 ((bytesRow ⟨s.toArray⟩ cap).size, (bytesRow ⟨s.toArray⟩ cap).size + 1)) := ⟨_, rfl⟩
  rw [← hcap, ← hW] at h1
  have hR : RevAt W W w.heap.size s 0 := by
    refine ⟨fun k hk => ?_, fun k hk => ?_, Only.refl _ _⟩
    · have := (byte_row s cap w.drew 5 k hk ((bytesRow ⟨s.toArray⟩ cap).size, (bytesRow ⟨s.toArray⟩ cap).size + 1) (by simp [bytesRow])).1
      rw [hW]
      have e : revF s 0 k = s[k] := by unfold revF; rw [if_neg (by omega), List.getD_eq_getElem?_getD, List.getElem?_eq_getElem hk]; rfl
      rw [e]; exact this
    · have := (byte_row s cap w.drew 5 k hk ((bytesRow ⟨s.toArray⟩ cap).size, (bytesRow ⟨s.toArray⟩ cap).size + 1) (by simp [bytesRow])).2
      rw [hW]; exact this
  have hX : Ext w W := by rw [hW]; exact (Only.refl No w).drew.alloc _
  have h1 : (convert 9 150 (S s)).run Tryz.prog w = .ok (.slice (some ⟨w.heap.size, 0, none⟩) s.length cap) W := h1
  have HC := Lib.hid (Reverse_c (c := cap) hR rfl hs)
  have HX := Lib.hid hX
  clear hW hcap hR hX
  unfold maxLen at hs
  go_enter Tryz.func137, Tryz.ntmps137
  go_wp2_with (first | ((first | refine Mix.wpList_guarded rfl ?_ | refine Mix.wp_still (by kernel_rfl) (by kernel_rfl) ?_); (repeat' (first | (refine Mix.lex_quiet0 rfl rfl rfl ?_; intro K hK; go_big_quiet_op; go_big_quiet_on) | (refine Mix.lex_quietG rfl rfl rfl (by with_reducible rfl) rfl rfl ?_; intro K hK; go_big_quiet_op; go_big_quiet_on) | ((first | refine Mix.lex_skipT rfl rfl rfl (by with_reducible rfl) ?_ | refine Mix.lex_skipF rfl rfl rfl (by with_reducible rfl) ?_ | refine Mix.lex_skipU rfl rfl rfl (by with_reducible rfl) ?_); simp only [Act.put, List.setIfInBounds_toArray, List.set_cons_succ, List.set_cons_zero]) | (refine Mix.lex_part rfl rfl rfl rfl (fun hq => ?_) (fun hq => ?_) <;> (fail_if_success (guard_hyp hq :ₛ true = true)) <;> (fail_if_success (guard_hyp hq :ₛ false = false)) <;> first | (exfalso; cases hq; done) | (exfalso; simp only [decide_eq_true_eq, decide_eq_false_iff_not, beq_iff_eq, beq_eq_false_iff_ne, ne_eq, Int.not_lt, Int.not_le] at hq; omega) | simp only [Act.put, List.setIfInBounds_toArray, List.set_cons_succ, List.set_cons_zero]))); all_goals (refine Mix.lex_nil ?_)))
  refine HC.out.mono ?_
  rintro e u ⟨rfl, a, ha, hR⟩
  have h2 : (convert 150 9 (.slice (some ⟨w.heap.size, 0, none⟩) s.length cap)).run Tryz.prog u = .ok (S s.reverse) u := by
    have := run_convert_bytes_back (P := Tryz.prog) u 150 9 5 ⟨w.heap.size, 0, none⟩ cap s.reverse Tryz.underlying150 Tryz.underlying5 Tryz.underlying9 (fun j hj => by
      rw [add_plain_, Nat.zero_add, hR.cell j (by simpa using hj), rev_full ha (by simpa using hj)])
    rw [List.length_reverse] at this
    exact this
  have X1 : Hid (Ext w u) := HX.out.trans hR.x fun b hb e => by omega
  clear HC hR h1
  go_wp2_with (first | ((first | refine Mix.wpList_guarded rfl ?_ | refine Mix.wp_still (by kernel_rfl) (by kernel_rfl) ?_); (repeat' (first | (refine Mix.lex_quiet0 rfl rfl rfl ?_; intro K hK; go_big_quiet_op; go_big_quiet_on) | (refine Mix.lex_quietG rfl rfl rfl (by with_reducible rfl) rfl rfl ?_; intro K hK; go_big_quiet_op; go_big_quiet_on) | ((first | refine Mix.lex_skipT rfl rfl rfl (by with_reducible rfl) ?_ | refine Mix.lex_skipF rfl rfl rfl (by with_reducible rfl) ?_ | refine Mix.lex_skipU rfl rfl rfl (by with_reducible rfl) ?_); simp only [Act.put, List.setIfInBounds_toArray, List.set_cons_succ, List.set_cons_zero]) | (refine Mix.lex_part rfl rfl rfl rfl (fun hq => ?_) (fun hq => ?_) <;> (fail_if_success (guard_hyp hq :ₛ true = true)) <;> (fail_if_success (guard_hyp hq :ₛ false = false)) <;> first | (exfalso; cases hq; done) | (exfalso; simp only [decide_eq_true_eq, decide_eq_false_iff_not, beq_iff_eq, beq_eq_false_iff_ne, ne_eq, Int.not_lt, Int.not_le] at hq; omega) | simp only [Act.put, List.setIfInBounds_toArray, List.set_cons_succ, List.set_cons_zero]))); all_goals (refine Mix.lex_nil ?_)))
  go_ret
  exact ⟨rfl, X1.out⟩
end Go.Proofs.YtnhaekifcieeoaaGreatDoor
