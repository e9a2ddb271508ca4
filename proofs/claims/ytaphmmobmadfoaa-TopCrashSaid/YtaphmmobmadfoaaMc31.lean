/- Put together: St8, StL. -/
import Derived.Test.YtaphmmobmadfoaaMc30
/- Commit. -/
namespace Go.Proofs.Ytaphmmobmadfoaa
open Go Go.RowKit
abbrev LogR.z (l : LogR) : LogR := { l with g := 0 }
/-- The log that a checkpoint leaves. -/
def ckLog (h' : Hd) (N : Nat) (d : Dk) : LogR := ⟨0, 44, N - 44, h'.first, (scanF h'.first ((d.now.drop 44).take (N - 44)) 0 [] [] 0).2⟩
def ckF (h : Hd) (l : LogR) (rows : List Ch) (d : Dk) : ((Hd × LogR) × Dk) × Int :=
  if (ckD (ckHd h l (allT rows)) (allT rows) d).2 = 0 then (((ckHd h l (allT rows), ckLog (ckHd h l (allT rows)) d.now.length (ckD (ckHd h l (allT rows)) (allT rows) d).1), (ckD (ckHd h l (allT rows)) (allT rows) d).1), 0)
  else (((h, l), (ckD (ckHd h l (allT rows)) (allT rows) d).1), (ckD (ckHd h l (allT rows)) (allT rows) d).2)
def addS (h : Hd) (l : LogR) (rows c : List Ch) (d : Dk) : ((Hd × LogR × List Ch) × Dk) × Int :=
  if (addF l c d).2 = 0 then (((h, (addF l c d).1.1, applyL rows c), (addF l c d).1.2), 0) else (((h, (addF l c d).1.1, rows), (addF l c d).1.2), (addF l c d).2)
/-- What Commit does. -/
def comF (h : Hd) (l : LogR) (rows c : List Ch) (d : Dk) : ((Hd × LogR × List Ch) × Dk) × Int :=
  if 40 < c.length then (((h, l, rows), d), 2)
  else if chkA c ≠ 0 then (((h, l, rows), d), chkA c)
  else if manyB (applyL rows c) = true ∨ d.now.length - 44 < c.length + 1 then (((h, l, rows), d), 10)
  else if l.many - l.next < c.length + 1 then
    (if (ckF h l rows d).2 = 0 then addS (ckF h l rows d).1.1.1 (ckF h l rows d).1.1.2 rows c (ckF h l rows d).1.2 else (((h, l, rows), (ckF h l rows d).1.2), (ckF h l rows d).2))
  else addS h l rows c d
def CoRes (w : World) (Z : StS) (r : DkR) (d : Dk) (c : List Ch) (e : Ending) (w' : World) : Prop :=
  ∃ h' l' rows' d' f, comF Z.h Z.l.z Z.rows c d = (((h', l', rows'), d'), f) ∧ e = .returned (errV f) ∧ ∃ Z' r', StOn w w' Z r Z' r' d' ∧ Z'.h = h' ∧ Z'.l.z = l' ∧ Z'.rows = rows'
theorem addF_z (l : LogR) (c : List Ch) (d : Dk) : addF l.z c d = (((addF l c d).1.1.z, (addF l c d).1.2), (addF l c d).2) := by
  have h1 : layF l.z c d = layF l c d := rfl
  have h2 : ∀ n d, closeF l.z n d = closeF l n d := fun _ _ => rfl
  unfold addF
  rw [h1]
  simp only [h2]
  repeat' split
  all_goals rfl
theorem mem_apply1 {rows : List Ch} {c x : Ch} (h : x ∈ apply1 rows c) : x ∈ rows ∨ (x = c ∧ c.2.2 = false) := by
  unfold apply1 at h
  split at h
  · exact .inl (List.mem_filter.1 h).1
  · rename_i hg
    have hg' : c.2.2 = false := by simpa using hg
    induction rows with
    | nil =>
      rcases List.mem_cons.1 h with e | e
      · exact .inr ⟨e, hg'⟩
      · cases e
    | cons y l ih =>
      have h2 : x ∈ (if leB (ck c) (ck y) then c :: (y :: l).filter (fun z => decide (ck z ≠ ck c)) else y :: putL ck c l) := h
      split at h2
      · rcases List.mem_cons.1 h2 with e | e
        · exact .inr ⟨e, hg'⟩
        · exact .inl (List.mem_filter.1 e).1
      · rcases List.mem_cons.1 h2 with e | e
        · exact .inl (by rw [e]; exact List.mem_cons_self)
        · rcases ih e with k | k
          · exact .inl (List.mem_cons_of_mem _ k)
          · exact .inr k
theorem mem_applyL : ∀ {l rows : List Ch} {x : Ch}, x ∈ applyL rows l → x ∈ rows ∨ (x ∈ l ∧ x.2.2 = false)
  | [], _, _, h => .inl h
  | c :: l, rows, x, h => by
    have h2 : x ∈ applyL (apply1 rows c) l := h
    rcases mem_applyL h2 with k | k
    · rcases mem_apply1 k with k | k
      · exact .inl k
      · exact .inr ⟨by rw [k.1]; exact List.mem_cons_self, by rw [k.1]; exact k.2⟩
    · exact .inr ⟨List.mem_cons_of_mem _ k.1, k.2⟩
theorem GoodR.apply {rows : List Ch} (h : GoodR rows) {c : List Ch} (hc : ∀ x ∈ c, chBad x = 0) : GoodR (applyL rows c) :=
  ⟨applyL_rise h.rise c, fun x hx => by
    rcases mem_applyL hx with k | k
    · exact h.ok x k
    · exact hc x k.1, fun x hx => by
    rcases mem_applyL hx with k | k
    · exact h.here x k
    · exact k.2⟩
theorem good_key {x : Ch} (h : chBad x = 0) : 0 < x.1.length := by
  obtain ⟨key, val, gone⟩ := x
  rw [chBad_cut] at h
  cases key with
  | nil => simp [cutB] at h
  | cons a l => simp
theorem wrL_wait : ∀ (l : List Str) (p : Nat) (d : Dk), (wrL p l d).1.wait.length ≤ d.wait.length + l.length
  | [], _, _ => Nat.le_refl _
  | a :: l, p, d => by
    have h1 := wr_wait' d (p : Int) a
    show (if d.wrF (p : Int) a = 0 then wrL (p + 1) l (d.wr (p : Int) a) else (d.wr (p : Int) a, d.wrF (p : Int) a)).1.wait.length ≤ _
    split
    · have := wrL_wait l (p + 1) (d.wr (p : Int) a)
      rw [List.length_cons]; omega
    · rw [List.length_cons]; show (d.wr (p : Int) a).wait.length ≤ _; omega
theorem ckD_wait (h' : Hd) (t : Str) (d : Dk) : (ckD h' t d).1.wait.length ≤ d.wait.length + (ckL t).length + 1 := by
  have h1 := wrL_wait (ckL t) (2 + h'.side * 21) d
  have h2 := fl_wait' (wrL (2 + h'.side * 21) (ckL t) d).1
  have h3 := wr_wait' (wrL (2 + h'.side * 21) (ckL t) d).1.fl ((h'.epoch % 2 : Nat) : Int) (hdT h')
  have h4 := fl_wait' ((wrL (2 + h'.side * 21) (ckL t) d).1.fl.wr ((h'.epoch % 2 : Nat) : Int) (hdT h'))
  unfold ckD
  repeat' split
  all_goals try dsimp only
  all_goals omega
theorem ckD_now (h' : Hd) (t : Str) (d : Dk) : (ckD h' t d).1.now.length = d.now.length := by
  unfold ckD
  repeat' split
  all_goals try dsimp only
  all_goals simp only [fl_now2, wr_now', wrL_now]
/-- What a store must keep for Commit. -/
structure ComOk (w : World) (Z : StS) (r : DkR) (d : Dk) : Prop where
  st : StoreAt w Z r.g
  dk : DiskAt w r d
  wide : ∀ s ∈ d.now, s.length = 340
  n1 : 50 ≤ d.now.length
  n2 : d.now.length ≤ 120
  wt : d.wait.length ≤ 500
  nm : ¬ Z.fp r 0
  l1 : Z.l.from_ = 44 ∧ Z.l.many = d.now.length - 44 ∧ Z.l.first ≤ 1000000000 ∧ Z.l.next ≤ Z.l.many
  hs : Z.h.side ≤ 1 ∧ Z.h.epoch ≤ 1000000000
  good : GoodR Z.rows
  rn : Z.rows.length ≤ 1000
  rt : (allT Z.rows).length ≤ 7140
theorem StOn.start {w : World} {Z : StS} {r : DkR} {d : Dk} (h : StoreAt w Z r.g) (hd : DiskAt w r d) : StOn w w Z r Z r d := ⟨hd, rfl, h, rfl, Only.refl _ _, fun _ h => .inl h⟩
theorem StOn.ext {w v v' : World} {Z Z' : StS} {r r' : DkR} {d : Dk} (h : StOn w v Z r Z' r' d) (hx : Ext v v') : StOn w v' Z r Z' r' d := ⟨h.dk.ext hx, h.g, h.st.ext hx, h.sg, h.o.then_ext hx, h.f⟩
theorem StOn.trans {w v u : World} {Z Z1 Z2 : StS} {r r1 r2 : DkR} {d1 d2 : Dk} (h : StOn w v Z r Z1 r1 d1) (k : StOn v u Z1 r1 Z2 r2 d2) : StOn w u Z r Z2 r2 d2 :=
  ⟨k.dk, k.g.trans h.g, by have := k.st; rw [h.g] at this; exact this, k.sg.trans h.sg, h.o.trans k.o fun b hb e => by
    rcases h.f b e with e | e
    · exact e
    · omega, fun b hb => by
    rcases k.f b hb with e | e
    · exact h.f b e
    · exact .inr (Nat.le_trans h.o.size e)⟩
theorem StOn.from {w v u : World} {Z Z1 : StS} {r r1 : DkR} {d1 : Dk} (hx : Ext w v) (h : StOn v u Z r Z1 r1 d1) : StOn w u Z r Z1 r1 d1 :=
  ⟨h.dk, h.g, h.st, h.sg, (Only.any hx : Only (Z.fp r) w v).trans h.o fun _ _ e => e, fun b hb => by
    rcases h.f b hb with e | e
    · exact .inl e
    · exact .inr (Nat.le_trans hx.size e)⟩
theorem StS.fp_type {w : World} {Z : StS} {r : DkR} {d : Dk} (h : StoreAt w Z r.g) (hd : DiskAt w r d) {g : Nat} {t : TypeId} {cs : Array Value} (hc : Cs w g t cs) (h1 : diskT ≠ t) (h2 : strT ≠ t) (h3 : turnT ≠ t) (h4 : stTy ≠ t) (h5 : logT ≠ t) : ¬ Z.fp r g := by
  rintro (e | e | e)
  · exact fp_ne hd hc h1 h2 h3 e
  · exact Cs.ne_ h.cs hc h4 e.symm
  · exact Cs.ne_ h.lg hc h5 e.symm
end Go.Proofs.Ytaphmmobmadfoaa

/- The plain law of stores, first part: what a disk holds. No program. -/
namespace Go.Proofs.Ytaphmmobmadfoaa
open Go Go.RowKit
/-- No entry of a greater number stands here. -/
def NumP (n : Nat) (s : Str) : Prop := ∀ m, n < m → m < 4294967296 → lookF s m = none
theorem NumP.mono {n n' : Nat} {s : Str} (h : NumP n s) (hn : n ≤ n') : NumP n' s := fun m h1 h2 => h m (by omega) h2
theorem NumP.zero (n : Nat) : NumP n (full []) := fun m _ _ => lookF_zero m
theorem fourF_inj {n m : Nat} (hn : n < 4294967296) (hm : m < 4294967296) (h : fourF n = fourF m) : n = m := by
  unfold fourF at h
  simp only [List.cons.injEq, and_true] at h
  obtain ⟨h1, h2, h3, h4⟩ := h
  have e : ∀ a b : Nat, a < 256 → b < 256 → bt (a : Int) = bt (b : Int) → a = b := fun a b ha hb h => by
    have := congrArg UInt8.toNat h
    rwa [bt_nat' a ha, bt_nat' b hb] at this
  rw [show ((n : Int) % 256) = ((n % 256 : Nat) : Int) by omega, show ((m : Int) % 256) = ((m % 256 : Nat) : Int) by omega] at h1
  rw [show ((n : Int) / 256 % 256) = ((n / 256 % 256 : Nat) : Int) by omega, show ((m : Int) / 256 % 256) = ((m / 256 % 256 : Nat) : Int) by omega] at h2
  rw [show ((n : Int) / 65536 % 256) = ((n / 65536 % 256 : Nat) : Int) by omega, show ((m : Int) / 65536 % 256) = ((m / 65536 % 256 : Nat) : Int) by omega] at h3
  rw [show ((n : Int) / 16777216 % 256) = ((n / 16777216 % 256 : Nat) : Int) by omega, show ((m : Int) / 16777216 % 256) = ((m / 16777216 % 256 : Nat) : Int) by omega] at h4
  have k1 := e _ _ (by omega) (by omega) h1
  have k2 := e _ _ (by omega) (by omega) h2
  have k3 := e _ _ (by omega) (by omega) h3
  have k4 := e _ _ (by omega) (by omega) h4
  omega
theorem NumP.text (k : UInt8) (n : Nat) (s : Str) (hn : n < 4294967296) : NumP n (full (textF k n s)) := fun m h1 h2 => by
  unfold lookF
  rw [if_neg]
  rintro ⟨e, _⟩
  have : (List.take 5 (full (textF k n s))).tail = fourF n := rfl
  rw [this] at e
  have := fourF_inj hn h2 e
  omega
theorem un4_four (n : Nat) (hn : n < 4294967296) (a b : Str) : un4 (a ++ (fourF n ++ b)) a.length = n := by
  have e : ∀ i, (a ++ (fourF n ++ b)).getD (a.length + i) 0 = (fourF n ++ b).getD i 0 := fun i => by
    simp [List.getD_eq_getElem?_getD, List.getElem?_append_right]
  have e0 := e 0
  rw [Nat.add_zero] at e0
  unfold un4
  rw [e0, e 1, e 2, e 3]
  show (bt ((n : Int) % 256)).toNat + (bt ((n : Int) / 256 % 256)).toNat * 256 + (bt ((n : Int) / 65536 % 256)).toNat * 65536 + (bt ((n : Int) / 16777216 % 256)).toNat * 16777216 = n
  rw [show ((n : Int) % 256) = ((n % 256 : Nat) : Int) by omega, show ((n : Int) / 256 % 256) = ((n / 256 % 256 : Nat) : Int) by omega, show ((n : Int) / 65536 % 256) = ((n / 65536 % 256 : Nat) : Int) by omega, show ((n : Int) / 16777216 % 256) = ((n / 16777216 % 256 : Nat) : Int) by omega]
  rw [bt_nat' _ (by omega), bt_nat' _ (by omega), bt_nat' _ (by omega), bt_nat' _ (by omega)]
  omega
/-- A head is read as it was laid. -/
theorem hdOf_text {h : Hd} (h1 : h.epoch < 4294967296) (h2 : h.side ≤ 1) (h3 : h.size ≤ 7140) (h4 : 1 ≤ h.first ∧ h.first < 4294967296) : hdOf (full (hdT h)) = h := by
  have hf : full (hdT h) = 72 :: (fourF h.epoch ++ (fourF h.side ++ (fourF h.size ++ (fourF h.first ++ zeros (340 - (hdT h).length))))) := by
    unfold full hdT
    simp
  have u1 : un4 (full (hdT h)) 1 = h.epoch := by rw [hf]; exact un4_four h.epoch h1 [72] _
  have u2 : un4 (full (hdT h)) 5 = h.side := by rw [hf]; exact un4_four h.side (by omega) (72 :: fourF h.epoch) _
  have u3 : un4 (full (hdT h)) 9 = h.size := by
    rw [hf]
    have := un4_four h.size (by omega) (72 :: (fourF h.epoch ++ fourF h.side)) (fourF h.first ++ zeros (340 - (hdT h).length))
    simpa [fourF_len] using this
  have u4 : un4 (full (hdT h)) 13 = h.first := by
    rw [hf]
    have := un4_four h.first h4.2 (72 :: (fourF h.epoch ++ (fourF h.side ++ fourF h.size))) (zeros (340 - (hdT h).length))
    simpa [fourF_len] using this
  unfold hdOf
  rw [u1, u2, u3, u4, if_neg]
  rintro (e | e | e | e)
  · apply e; rw [hf]; rfl
  · omega
  · omega
  · omega
theorem hdOf_zero : hdOf (full []) = ⟨0, 0, 0, 0⟩ := by
  unfold hdOf
  rw [if_pos]
  left
  decide
/-- What a disk holds. -/
structure DiskOk (now : List Str) (h : Hd) (l : LogR) (rows : List Ch) : Prop where
  wide : ∀ s ∈ now, s.length = 340
  n : 50 ≤ now.length ∧ now.length ≤ 120
  lg : l.from_ = 44 ∧ l.many = now.length - 44 ∧ l.first = h.first ∧ 1 ≤ l.first ∧ l.first ≤ 1000000000 ∧ l.next ≤ l.many
  hd : 1 ≤ h.epoch ∧ h.epoch ≤ 1000000000 ∧ h.side ≤ 1 ∧ h.size ≤ 7140
  cur : hdOf (now.getD (h.epoch % 2) []) = h
  old : (hdOf (now.getD ((h.epoch + 1) % 2) [])).epoch < h.epoch
  all : ∃ base out, GoodR base ∧ base.length ≤ 1000 ∧ (catT now h.side 21).take h.size = allT base ∧ scanF l.first (reg l now) 0 [] [] 0 = (out, l.next) ∧ rows = foldR base out
  good : GoodR rows ∧ manyB rows = false
  num : ∀ k s, k < l.many → now[44 + k]? = some s → NumP (l.first + k) s
theorem DiskOk.sel {now : List Str} {h : Hd} {l : LogR} {rows : List Ch} (H : DiskOk now h l rows) : selH now = h := by
  have h1 := H.cur
  have h2 := H.old
  have h3 := H.hd.1
  show pickH (pickH ⟨0, 0, 0, 0⟩ (hdOf (now.getD 0 []))) (hdOf (now.getD 1 [])) = h
  rcases Nat.mod_two_eq_zero_or_one h.epoch with e | e
  · rw [e] at h1
    rw [show (h.epoch + 1) % 2 = 1 by omega] at h2
    rw [h1]
    have k1 : pickH ⟨0, 0, 0, 0⟩ h = h := if_pos (by show 0 < h.epoch; omega)
    rw [k1]
    exact if_neg (by omega)
  · rw [e] at h1
    rw [show (h.epoch + 1) % 2 = 0 by omega] at h2
    rw [h1]
    refine if_pos ?_
    unfold pickH
    split
    · exact h2
    · show 0 < h.epoch; omega
theorem bad_file {x : Ch} (h : chBad x = 0) (hk : x.1.getD 0 0 = 102) : x.2.1.length ≤ 20 := by
  unfold chBad at h
  split at h
  · split at h
    · cases h
    · rename_i hn
      by_cases h20 : 20 < x.2.1.length
      · exact absurd (.inr ⟨(show keyKind x.1 = x.1.getD 0 0 by cases x.1 <;> rfl).trans hk, h20⟩) hn
      · omega
  · cases h
theorem allT_le : ∀ rows : List Ch, (∀ x ∈ rows, chBad x = 0) → (allT rows).length ≤ 33 * filesN rows + 313 * (rows.length - filesN rows)
  | [], _ => by simp [allT]
  | x :: r, h => by
    have ih := allT_le r fun y hy => h y (List.mem_cons_of_mem _ hy)
    have hx := h x List.mem_cons_self
    have k1 := chBad_key hx
    have k2 := chBad_val hx
    have k3 := filesN_le r
    rw [allT_cons, List.length_append, rowT_len, List.length_cons]
    by_cases hk : (x.1.getD 0 0 == 102) = true
    · have k4 := bad_file hx (by simpa using hk)
      have e : filesN (x :: r) = filesN r + 1 := by unfold filesN; rw [List.filter_cons, if_pos hk, List.length_cons]
      rw [e]
      omega
    · have e : filesN (x :: r) = filesN r := by unfold filesN; rw [List.filter_cons, if_neg hk]
      rw [e]
      omega
theorem many_small {rows : List Ch} (h : GoodR rows) (hm : manyB rows = false) : rows.length ≤ 40 ∧ (allT rows).length ≤ 7140 := by
  have h1 := allT_le rows h.ok
  have h2 := filesN_le rows
  unfold manyB at hm
  simp only [Bool.or_eq_false_iff, decide_eq_false_iff_not] at hm
  omega
theorem DiskOk.small {now : List Str} {h : Hd} {l : LogR} {rows : List Ch} (H : DiskOk now h l rows) : rows.length ≤ 40 ∧ (allT rows).length ≤ 7140 := many_small H.good.1 H.good.2
theorem getD_at {l l' : List Str} {i : Nat} (h : l[i]? = l'[i]?) : l.getD i [] = l'.getD i [] := by
  rw [List.getD_eq_getElem?_getD, List.getD_eq_getElem?_getD, h]
theorem catT_same {N N' : List Str} {side : Nat} (h : ∀ i, 2 + side * 21 ≤ i → i < 2 + side * 21 + 21 → N'[i]? = N[i]?) : catT N' side 21 = catT N side 21 := by
  unfold catT
  congr 1
  apply List.ext_getElem?
  intro k
  by_cases hk : k < 21
  · rw [List.getElem?_take_of_lt hk, List.getElem?_take_of_lt hk, List.getElem?_drop, List.getElem?_drop, h _ (by omega) (by omega)]
  · rw [List.getElem?_eq_none (by rw [List.length_take]; omega), List.getElem?_eq_none (by rw [List.length_take]; omega)]
theorem reg_same {l : LogR} {N N' : List Str} (h : ∀ k, k < l.many → N'[l.from_ + k]? = N[l.from_ + k]?) : reg l N' = reg l N := by
  apply List.ext_getElem?
  intro k
  by_cases hk : k < l.many
  · rw [reg_get hk, reg_get hk, h k hk]
  · rw [List.getElem?_eq_none (by rw [List.length_take]; omega), List.getElem?_eq_none (by rw [List.length_take]; omega)]
/-- The other half does not count. -/
theorem DiskOk.other {now now' : List Str} {h : Hd} {l : LogR} {rows : List Ch} (H : DiskOk now h l rows) (hw : ∀ s ∈ now', s.length = 340) (hn : now'.length = now.length) (he : ∀ i, ¬ (2 + (1 - h.side) * 21 ≤ i ∧ i < 2 + (1 - h.side) * 21 + 21) → now'[i]? = now[i]?) : DiskOk now' h l rows := by
  obtain ⟨base, out, b1, b2, b3, b4, b5⟩ := H.all
  have hs := H.hd.2.2.1
  have hl := H.lg
  refine ⟨hw, by rw [hn]; exact H.n, by rw [hn]; exact hl, H.hd, ?_, ?_, ⟨base, out, b1, b2, ?_, ?_, b5⟩, H.good, fun k s hk hx => H.num k s hk ?_⟩
  · rw [getD_at (he _ (by omega))]; exact H.cur
  · rw [getD_at (he _ (by omega))]; exact H.old
  · rw [catT_same fun i h1 h2 => he i (by omega)]; exact b3
  · rw [reg_same fun k hk => he _ (by omega)]; exact b4
  · rw [← he _ (by omega)]; exact hx
end Go.Proofs.Ytaphmmobmadfoaa
