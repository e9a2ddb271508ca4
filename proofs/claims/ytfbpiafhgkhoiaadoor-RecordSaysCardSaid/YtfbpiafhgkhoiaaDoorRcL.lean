/- A record's text is read back. -/
import Derived.Test.YtfbpiafhgkhoiaaDoorPrs
namespace Go.Proofs.YtfbpiafhgkhoiaaDoor
open Go Go.RowKit
abbrev failS : Str := [102, 97, 105, 108]
def dig3 (u : Nat) : Str := if u < 10 then [UInt8.ofNat (48 + u)] else if u < 100 then [UInt8.ofNat (48 + u / 10), UInt8.ofNat (48 + u % 10)] else [UInt8.ofNat (48 + u / 100), UInt8.ofNat (48 + u / 10 % 10), UInt8.ofNat (48 + u % 10)]
theorem itoa_dig3 (u : Nat) (h : u < 1000) : Lib.itoa (u : Int) = dig3 u := by
  rw [Lib.itoa_nonneg, Lib.decDigits, dig3]
  split
  · rfl
  · rw [Lib.decDigits]
    by_cases h1 : u < 100
    · rw [if_pos h1, dif_pos (by omega)]; rfl
    · rw [if_neg h1, dif_neg (by omega), Lib.decDigits, dif_pos (by omega), Nat.div_div_eq_div_mul]; rfl
def digB (u : Nat) : Bool := atOk (dig3 u) && decide (atV (dig3 u) = (u : Int)) && (dig3 u).all fun c => decide (c ≠ 32) && decide (c ≠ 58)
theorem digB_all : ∀ u : Fin 321, digB u.1 = true := by decide +kernel
theorem num_back (u : Nat) (h : u ≤ 320) : atOk (Lib.itoa (u : Int)) = true ∧ atV (Lib.itoa (u : Int)) = (u : Int) ∧ (32 : UInt8) ∉ Lib.itoa (u : Int) ∧ (58 : UInt8) ∉ Lib.itoa (u : Int) := by
  have := digB_all ⟨u, by omega⟩
  rw [itoa_dig3 u (by omega)]
  simp only [digB, Bool.and_eq_true, decide_eq_true_eq, List.all_eq_true] at this
  obtain ⟨⟨h1, h2⟩, h3⟩ := this
  exact ⟨h1, h2, fun hm => (h3 _ hm).1 rfl, fun hm => (h3 _ hm).2 rfl⟩
theorem cutB_at (c : UInt8) : ∀ (a b : Str), c ∉ a → cutB c (a ++ c :: b) = (a, b, true)
  | [], b, _ => by simp [cutB]
  | x :: a, b, h => by
    have hx : x ≠ c := fun e => h (by simp [e])
    have ih := cutB_at c a b (fun hm => h (List.mem_cons_of_mem _ hm))
    show cutB c (x :: (a ++ c :: b)) = _
    rw [cutB, if_neg hx, ih]
theorem uptoF_at (c : UInt8) (a b : Str) (h : c ∉ a) : uptoF (a ++ c :: b) false c = (b, false, a) := by
  unfold uptoF
  rw [cutB_at c a b h]
  rfl
theorem numF_back (u : Nat) (c : UInt8) (hc : c = 32 ∨ c = 58) (most : Int) (h : u ≤ 320) (hm : (u : Int) ≤ most) (b : Str) : numF (Lib.itoa (u : Int) ++ c :: b) false c most = (b, false, (u : Int)) := by
  obtain ⟨h1, h2, h3, h4⟩ := num_back u h
  have hn : c ∉ Lib.itoa (u : Int) := by rcases hc with rfl | rfl <;> assumption
  have hb : numB (Lib.itoa (u : Int)) most = true := by
    unfold numB
    rw [h1, h2, decide_eq_true hm, decide_eq_true (show (0 : Int) ≤ u by omega)]
    simp
  unfold numF
  rw [uptoF_at c _ b hn]
  dsimp only
  rw [if_pos hb, h2]
def cmdU (c : Str) : Str := Lib.itoa (c.length : Int) ++ 58 :: (c ++ [32])
def filU (f : File) : Str := f.1 ++ 32 :: (Lib.itoa (f.2.length : Int) ++ 58 :: (f.2 ++ [32]))
theorem txtF_back (t : Str) (most : Int) (h : t.length ≤ 320) (hm : (t.length : Int) ≤ most) (b : Str) : txtF (cmdU t ++ b) false most = (b, false, t) := by
  have e : cmdU t ++ b = Lib.itoa (t.length : Int) ++ 58 :: (t ++ 32 :: b) := by simp [cmdU]
  unfold txtF
  rw [e, numF_back t.length 58 (.inr rfl) most h hm]
  dsimp only
  rw [Int.toNat_natCast]
  have hb : txtB (t ++ 32 :: b) t.length = true := by simp [txtB]
  rw [if_pos hb, List.take_left, ← List.drop_drop, List.drop_left]
  rfl
theorem cmdsF_back : ∀ (cs : List Str) (b : Str), (∀ c ∈ cs, c.length ≤ 300) → cmdsF cs.length (cs.flatMap cmdU ++ b) false = (b, false, cs)
  | [], b, _ => rfl
  | c :: cs, b, h => by
    have hc := h c (by simp)
    have e := txtF_back c 300 (by omega) (by omega) (cs.flatMap cmdU ++ b)
    have ih := cmdsF_back cs b (fun x hx => h x (List.mem_cons_of_mem _ hx))
    rw [List.flatMap_cons, List.append_assoc, List.length_cons, cmdsF, e]
    dsimp only
    rw [ih]
theorem nameC_blank (f : Bool) : nameC 32 f = false := by cases f <;> rfl
theorem nameFrom_blank : ∀ (s : Str) (i : Nat), nameFrom s i = true → (32 : UInt8) ∉ s
  | [], _, _ => by simp
  | c :: r, i, h => by
    rw [nameFrom, Bool.and_eq_true] at h
    intro hm
    rcases List.mem_cons.1 hm with e | hm
    · rw [← e, nameC_blank] at h; exact absurd h.1 (by simp)
    · exact nameFrom_blank r (i + 1) h.2 hm
theorem nameB_blank {s : Str} (h : nameB s = true) : (32 : UInt8) ∉ s := by
  simp only [nameB, Bool.and_eq_true] at h
  exact nameFrom_blank s 0 h.2
theorem filF_back (f : File) (h1 : nameB f.1 = true) (h2 : f.2.length ≤ 20) (b : Str) : filF (filU f ++ b) false = (b, false, f) := by
  have e : filU f ++ b = f.1 ++ 32 :: (cmdU f.2 ++ b) := by simp [filU, cmdU]
  unfold filF
  rw [e, uptoF_at 32 _ _ (nameB_blank h1)]
  dsimp only
  rw [txtF_back f.2 20 (by omega) (by omega), h1]
  rfl
theorem filsF_back : ∀ (fs : List File) (b : Str), (∀ f ∈ fs, nameB f.1 = true ∧ f.2.length ≤ 20) → filsF fs.length (fs.flatMap filU ++ b) false = (b, false, fs)
  | [], b, _ => rfl
  | f :: fs, b, h => by
    obtain ⟨g1, g2⟩ := h f (by simp)
    have e := filF_back f g1 g2 (fs.flatMap filU ++ b)
    have ih := filsF_back fs b (fun x hx => h x (List.mem_cons_of_mem _ hx))
    rw [List.flatMap_cons, List.append_assoc, List.length_cons, filsF, e]
    dsimp only
    rw [ih]
theorem cmdT_shift : ∀ cs : List Str, cs.flatMap cmdT ++ [32] = 32 :: cs.flatMap cmdU
  | [] => rfl
  | c :: cs => by
    rw [List.flatMap_cons, List.append_assoc, cmdT_shift cs]
    simp [cmdT, cmdU]
theorem filT_shift : ∀ fs : List File, fs.flatMap filT ++ [32] = 32 :: fs.flatMap filU
  | [] => rfl
  | f :: fs => by
    rw [List.flatMap_cons, List.append_assoc, filT_shift fs]
    simp [filT, filU]
theorem recT_shift (r : Rcd) : recT r ++ [32] = Lib.itoa (r.cmds.length : Int) ++ 32 :: (Lib.itoa (r.needs.length : Int) ++ 32 :: (Lib.itoa (r.out.length : Int) ++ 32 :: (r.cmds.flatMap cmdU ++ (r.needs ++ r.out).flatMap filU))) := by
  have e1 : r.cmds.flatMap cmdT ++ (32 :: (r.needs ++ r.out).flatMap filU) = 32 :: (r.cmds.flatMap cmdU ++ (r.needs ++ r.out).flatMap filU) := by
    have := congrArg (· ++ (r.needs ++ r.out).flatMap filU) (cmdT_shift r.cmds)
    simpa using this
  unfold recT
  rw [List.append_assoc, List.append_assoc, filT_shift, e1]
  simp [hdrT]
theorem prsF_back (r : Rcd) (h1 : r.cmds.length ≤ 3) (h2 : r.needs.length ≤ 3) (h3 : r.out.length ≤ 2) (hc : ∀ c ∈ r.cmds, c.length ≤ 300) (hn : ∀ f ∈ r.needs, nameB f.1 = true ∧ f.2.length ≤ 20) (ho : ∀ f ∈ r.out, nameB f.1 = true ∧ f.2.length ≤ 20) : prsF (recT r) = (r, 0) := by
  have hx : prsX (recT r) = (r, [], false) := by
    unfold prsX
    rw [recT_shift, numF_back _ 32 (.inl rfl) 3 (by omega) (by omega)]
    dsimp only
    rw [numF_back _ 32 (.inl rfl) 3 (by omega) (by omega)]
    dsimp only
    rw [numF_back _ 32 (.inl rfl) 2 (by omega) (by omega)]
    dsimp only
    rw [Int.toNat_natCast, Int.toNat_natCast, Int.toNat_natCast, cmdsF_back _ _ hc]
    dsimp only
    have e : filsF (r.needs.length + r.out.length) ((r.needs ++ r.out).flatMap filU) false = ([], false, r.needs ++ r.out) := by
      have := filsF_back (r.needs ++ r.out) [] (fun f hf => by
        rcases List.mem_append.1 hf with h | h
        · exact hn f h
        · exact ho f h)
      rwa [List.append_nil, List.length_append] at this
    rw [e]
    dsimp only
    rw [List.take_left, List.drop_left]
  have hok : prsOk (recT r) = true := by
    unfold prsOk
    rw [hx]
    simp
  unfold prsF
  rw [if_pos hok, hx]
end Go.Proofs.YtfbpiafhgkhoiaaDoor
