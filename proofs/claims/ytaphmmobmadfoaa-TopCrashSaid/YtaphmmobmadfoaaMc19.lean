/- Put together: LgR. -/
import Derived.Test.YtaphmmobmadfoaaMc17
/- The plain law of logs: a disk that falls while an entry is added keeps it whole or not at all. No program. -/
namespace Go.Proofs.Ytaphmmobmadfoaa
open Go Go.RowKit
/-- A disk that may fall. -/
structure Dk.Ok (d : Dk) : Prop where
  dn : d.down = false
  fu : -1 ≤ d.fuse
  wide : ∀ s ∈ d.now, s.length = 340
theorem wr_ok {d : Dk} (h : d.Ok) {p : Nat} {s : Str} (hp : p < d.now.length) (hs : s.length ≤ 340) :
    (d.wrF (p : Int) s = 11 ∧ (d.wr (p : Int) s).kept = d.kept ∧ (d.wr (p : Int) s).wait = d.wait ∧ (d.wr (p : Int) s).now.length = d.now.length) ∨
    (d.wrF (p : Int) s = 0 ∧ (d.wr (p : Int) s).Ok ∧ (d.wr (p : Int) s).kept = d.kept ∧ (d.wr (p : Int) s).wait = d.wait ++ [(p, full s)] ∧ (d.wr (p : Int) s).now = d.now.set p (full s)) := by
  unfold Dk.wr Dk.wrF
  rw [bad_false hp hs]
  simp only [Bool.false_eq_true, if_false]
  obtain ⟨kept, now, wait, fuse, down⟩ := d
  obtain ⟨h1, h2, h3⟩ := h
  simp only at h1 h2 h3 hp
  subst h1
  unfold Dk.falls Dk.stepped Dk.written
  simp only [Bool.false_or, Bool.false_eq_true, if_false]
  by_cases h0 : fuse = 0
  · subst h0
    left
    simp
  · right
    simp only [h0, decide_false, Bool.false_eq_true, if_false, Int.toNat_natCast]
    refine ⟨trivial, ⟨rfl, ?_, set_wide h3 (length_full s hs)⟩, trivial, trivial, trivial⟩
    show -1 ≤ max (fuse - 1) (-1)
    omega
theorem fl_ok {d : Dk} (h : d.Ok) :
    (d.flF = 11 ∧ d.fl.kept = d.kept ∧ d.fl.wait = d.wait ∧ d.fl.now.length = d.now.length) ∨ (d.flF = 0 ∧ d.fl.Ok ∧ d.fl.kept = d.now ∧ d.fl.wait = [] ∧ d.fl.now = d.now) := by
  unfold Dk.fl Dk.flF
  obtain ⟨kept, now, wait, fuse, down⟩ := d
  obtain ⟨h1, h2, h3⟩ := h
  simp only at h1 h2 h3
  subst h1
  unfold Dk.falls Dk.stepped Dk.flushed
  simp only [Bool.false_or, Bool.false_eq_true, if_false]
  by_cases h0 : fuse = 0
  · subst h0
    left
    simp
  · right
    simp only [h0, decide_false, Bool.false_eq_true, if_false]
    refine ⟨trivial, ⟨rfl, ?_, h3⟩, trivial, trivial, trivial⟩
    show -1 ≤ max (fuse - 1) (-1)
    omega
/-- A sector that closes nothing where it stands. -/
def Dull (l : LogR) (t : Nat × Str) : Prop := l.from_ + l.next ≤ t.1 ∧ t.2.length = 340 ∧ ∀ x, lookF t.2 (l.first + (t.1 - l.from_)) ≠ some (99, x)
theorem keep_get (K : Nat) : ∀ (wait : List (Nat × Str)) (kept : List Str) (i k : Nat), (keepFrom K kept wait i)[k]? = kept[k]? ∨ ∃ t ∈ wait, t.1 = k ∧ (keepFrom K kept wait i)[k]? = some t.2
  | [], kept, i, k => .inl rfl
  | t :: r, kept, i, k => by
    unfold keepFrom
    rcases keep_get K r (if keeps K i then kept.set t.1 t.2 else kept) (i + 1) k with h | ⟨t', h1, h2, h3⟩
    · by_cases hk : keeps K i = true
      · rw [if_pos hk] at h ⊢
        by_cases e : t.1 = k
        · by_cases hl : t.1 < kept.length
          · right
            refine ⟨t, by simp, e, ?_⟩
            rw [h, ← e]
            exact List.getElem?_set_self hl
          · left
            rw [h, List.set_eq_of_length_le (by omega)]
        · left
          rw [h]
          exact List.getElem?_set_ne e
      · rw [if_neg hk] at h ⊢
        exact .inl h
    · exact .inr ⟨t', List.mem_cons_of_mem _ h1, h2, h3⟩
/-- Where a log stands between two entries. -/
structure Rests (l : LogR) (d : Dk) (out : List (List Ch)) : Prop where
  ok : d.Ok
  kn : d.kept = d.now
  wt : d.wait = []
  fit : l.from_ + l.many ≤ d.now.length
  sc : scanF l.first (reg l d.now) 0 [] [] 0 = (out, l.next)
  dull : ∀ k s, l.next ≤ k → k < l.many → d.now[l.from_ + k]? = some s → ∀ x, lookF s (l.first + k) ≠ some (99, x)
/-- Nothing was closed: the entries are those that were there. -/
theorem scan_dull {l : LogR} {N N' : List Str} {out : List (List Ch)} (hr : l.from_ + l.many ≤ N.length) (hl : N'.length = N.length) (hs : scanF l.first (reg l N) 0 [] [] 0 = (out, l.next))
    (h1 : ∀ k, k < l.next → N'[l.from_ + k]? = N[l.from_ + k]?) (h2 : ∀ k s, l.next ≤ k → k < l.many → N'[l.from_ + k]? = some s → ∀ x, lookF s (l.first + k) ≠ some (99, x)) : scanF l.first (reg l N') 0 [] [] 0 = (out, l.next) := by
  obtain ⟨e1, e2⟩ := scan_from hs
  have hlen := reg_len hr
  have hlen' : (reg l N').length = l.many := reg_len (by omega)
  rw [e2 (reg l N') (by
    apply List.ext_getElem?
    intro k
    by_cases hk : k < l.next
    · rw [List.getElem?_take_of_lt hk, List.getElem?_take_of_lt hk, reg_get (by omega), reg_get (by omega), h1 k hk]
    · rw [List.getElem?_eq_none (by rw [List.length_take]; omega), List.getElem?_eq_none (by rw [List.length_take]; omega)])]
  refine scan_open l.first _ l.next [] out l.next fun k s t hk => ?_
  rw [List.getElem?_drop] at hk
  have hkm : l.next + k < l.many := by
    have := (List.getElem?_eq_some_iff.1 hk).1
    omega
  rw [reg_get hkm] at hk
  exact h2 (l.next + k) s (by omega) hkm hk t
/-- What restarting leaves while only dull sectors wait. -/
theorem restart_dull {l : LogR} {d : Dk} {out : List (List Ch)} (h : Rests l d out) {wait : List (Nat × Str)} (hw : ∀ t ∈ wait, Dull l t) (K : Nat) : scanF l.first (reg l (keepFrom K d.kept wait 0)) 0 [] [] 0 = (out, l.next) := by
  refine scan_dull (N := d.now) h.fit (by rw [length_keepFrom, h.kn]) h.sc (fun k hk => ?_) (fun k s h1 h2 h3 x => ?_)
  · rcases keep_get K wait d.kept 0 (l.from_ + k) with e | ⟨t, h1, h2, _⟩
    · rw [e, h.kn]
    · have := (hw t h1).1
      omega
  · rcases keep_get K wait d.kept 0 (l.from_ + k) with e | ⟨t, h4, h5, h6⟩
    · rw [e, h.kn] at h3
      exact h.dull k s h1 h2 h3 x
    · rw [h6] at h3
      injection h3 with h3
      have := (hw t h4).2.2 x
      rw [h5, h3] at this
      rwa [show l.from_ + k - l.from_ = k by omega] at this
theorem keep_wide {kept : List Str} {wait : List (Nat × Str)} (h1 : ∀ s ∈ kept, s.length = 340) (h2 : ∀ t ∈ wait, t.2.length = 340) (K : Nat) : ∀ s ∈ keepFrom K kept wait 0, s.length = 340 := fun s hs => by
  obtain ⟨k, hk⟩ := List.getElem?_of_mem hs
  rcases keep_get K wait kept 0 k with e | ⟨t, h4, _, h6⟩
  · rw [e] at hk
    exact h1 s (List.mem_of_getElem? hk)
  · rw [h6] at hk
    injection hk with hk
    rw [← hk]; exact h2 t h4
/-- The sectors of a deed: they are laid, or the disk falls. -/
theorem layD_ok {l : LogR} : ∀ (c : List Ch) (k : Nat) (d : Dk), d.Ok → l.next ≤ k → l.from_ + k + c.length ≤ d.now.length → (∀ x ∈ c, chBad x = 0) →
    ∃ d' f, layD ((l.from_ + k : Nat) : Int) (l.first + k) c d = (d', f) ∧ d'.kept = d.kept ∧ d'.now.length = d.now.length ∧ (∀ t ∈ d'.wait, t ∈ d.wait ∨ Dull l t) ∧
      (f = 11 ∨ (f = 0 ∧ d'.Ok ∧ ∀ i, d'.now[i]? = if l.from_ + k ≤ i ∧ i < l.from_ + k + c.length then (osec (l.first + k) c)[i - (l.from_ + k)]? else d.now[i]?))
  | [], k, d, hd, _, _, _ => ⟨d, 0, rfl, rfl, rfl, fun t ht => .inl ht, .inr ⟨rfl, hd, fun i => by rw [if_neg (by simp)]⟩⟩
  | a :: r, k, d, hd, hk, hl, hb => by
    rw [List.length_cons] at hl
    have ha := enc_le (hb a (by simp))
    have htl := textF_len 111 (l.first + k) (chEnc a)
    have hdull : Dull l (l.from_ + k, full (textF 111 (l.first + k) (chEnc a))) := ⟨by show l.from_ + l.next ≤ l.from_ + k; omega, length_full _ (by omega), fun x => by
      show lookF (full (textF 111 (l.first + k) (chEnc a))) (l.first + (l.from_ + k - l.from_)) ≠ _
      rw [show l.from_ + k - l.from_ = k by omega, lookF_text (.inl rfl) _ _ (by omega)]
      intro e
      injection e with e
      injection e with e _
      revert e
      decide⟩
    rw [layD_cons]
    rcases wr_ok hd (p := l.from_ + k) (s := textF 111 (l.first + k) (chEnc a)) (by omega) (by omega) with ⟨h1, h2, h3, h4⟩ | ⟨h1, h2, h3, h4, h5⟩
    · rw [h1, if_neg (by decide)]
      exact ⟨_, 11, rfl, h2, h4, fun t ht => by rw [h3] at ht; exact .inl ht, .inl rfl⟩
    · rw [h1, if_pos rfl]
      obtain ⟨d', f, e1, e2, e3, e4, e5⟩ := layD_ok (l := l) r (k + 1) _ h2 (by omega) (by rw [h5, List.length_set]; omega) (fun x hx => hb x (List.mem_cons_of_mem _ hx))
      refine ⟨d', f, by rw [← e1]; rfl, by rw [e2, h3], by rw [e3, h5, List.length_set], fun t ht => ?_, ?_⟩
      · rcases e4 t ht with h | h
        · rw [h4] at h
          rcases List.mem_append.1 h with h | h
          · exact .inl h
          · rw [List.mem_singleton] at h
            rw [h]; exact .inr hdull
        · exact .inr h
      · rcases e5 with h | ⟨h, h', h''⟩
        · exact .inl h
        · refine .inr ⟨h, h', fun i => ?_⟩
          rw [h'', List.length_cons]
          by_cases hi : l.from_ + (k + 1) ≤ i ∧ i < l.from_ + (k + 1) + r.length
          · rw [if_pos hi, if_pos (by omega)]
            have : i - (l.from_ + k) = i - (l.from_ + (k + 1)) + 1 := by omega
            rw [this]
            rfl
          · rw [if_neg hi, h5]
            by_cases hip : i = l.from_ + k
            · subst hip
              rw [if_pos (by omega), Nat.sub_self]
              rw [List.getElem?_set_self (by omega)]
              rfl
            · rw [if_neg (by omega), List.getElem?_set_ne (by omega)]
theorem layF_ok {l : LogR} {c : List Ch} {d : Dk} (hd : d.Ok) (hr : l.from_ + l.many ≤ d.now.length) (hb : ∀ x ∈ c, chBad x = 0) (hroom : l.next + c.length + 1 ≤ l.many) :
    ∃ d' f, layF l c d = (d', f) ∧ d'.kept = d.kept ∧ d'.now.length = d.now.length ∧ (∀ t ∈ d'.wait, t ∈ d.wait ∨ Dull l t) ∧
      (f = 11 ∨ (f = 0 ∧ d'.Ok ∧ ∀ i, d'.now[i]? = if l.next + c.length + 1 < l.many ∧ i = l.from_ + (l.next + c.length + 1) then some (full []) else if l.from_ + l.next ≤ i ∧ i < l.from_ + l.next + c.length then (osec (l.first + l.next) c)[i - (l.from_ + l.next)]? else d.now[i]?)) := by
  obtain ⟨d1, f1, e1, e2, e3, e4, e5⟩ := layD_ok (l := l) c l.next d hd (Nat.le_refl _) (by omega) hb
  unfold layF
  rw [e1]
  dsimp only
  rcases e5 with rfl | ⟨rfl, h1, h2⟩
  · rw [if_neg (by decide)]
    exact ⟨d1, 11, rfl, e2, e3, e4, .inl rfl⟩
  · rw [if_pos rfl]
    unfold layEnd
    by_cases hm : l.next + c.length + 1 < l.many
    · rw [if_pos hm]
      rcases wr_ok h1 (p := l.from_ + (l.next + c.length + 1)) (s := []) (by omega) (by simp) with ⟨k1, k2, k3, k4⟩ | ⟨k1, k2, k3, k4, k5⟩
      · exact ⟨_, _, rfl, by rw [k2, e2], by rw [k4, e3], fun t ht => by rw [k3] at ht; exact e4 t ht, .inl k1⟩
      · refine ⟨_, _, rfl, by rw [k3, e2], by rw [k5, List.length_set, e3], fun t ht => ?_, .inr ⟨k1, k2, fun i => ?_⟩⟩
        · rw [k4] at ht
          rcases List.mem_append.1 ht with h | h
          · exact e4 t h
          · rw [List.mem_singleton] at h
            subst h
            refine .inr ⟨by show l.from_ + l.next ≤ l.from_ + (l.next + c.length + 1); omega, length_full [] (by simp), fun x => ?_⟩
            show lookF (full []) _ ≠ _
            rw [lookF_zero]
            exact fun e => by cases e
        · rw [k5]
          by_cases hi : i = l.from_ + (l.next + c.length + 1)
          · rw [if_pos ⟨hm, hi⟩, hi]
            exact List.getElem?_set_self (by omega)
          · rw [if_neg fun h => hi h.2, List.getElem?_set_ne (by omega), h2]
    · rw [if_neg hm]
      exact ⟨d1, 0, rfl, e2, e3, e4, .inr ⟨rfl, h1, fun i => by rw [if_neg fun h => hm h.1, h2]⟩⟩
/-- **Add, on a disk that may fall.** -/
theorem add_falls {l : LogR} {c : List Ch} {d : Dk} {out : List (List Ch)} (h : Rests l d out) (hnx : l.next ≤ l.many) :
    ∃ l' d' f, addF l c d = ((l', d'), f) ∧ d'.now.length = d.now.length ∧
      ((f = 0 ∧ l' = { l with next := l.next + c.length + 1 } ∧ l.next + c.length + 1 ≤ l.many ∧ Rests l' d' (out ++ [c])) ∨ (f ≠ 0 ∧ f ≠ 11 ∧ l' = l ∧ d' = d) ∨
       (f = 11 ∧ l' = l ∧ ∀ K, (∀ s ∈ keepFrom K d'.kept d'.wait 0, s.length = 340) ∧ (keepFrom K d'.kept d'.wait 0).length = d.now.length ∧
          ∃ u, scanF l.first (reg l (keepFrom K d'.kept d'.wait 0)) 0 [] [] 0 = (out, u) ∨ scanF l.first (reg l (keepFrom K d'.kept d'.wait 0)) 0 [] [] 0 = (out ++ [c], u))) := by
  by_cases hbad : 40 < c.length ∨ l.many - l.next < c.length + 1 ∨ chkA c ≠ 0
  · refine ⟨l, d, _, add_bad hbad, rfl, .inr (.inl ⟨?_, ?_, rfl, rfl⟩)⟩
    · by_cases h1 : 40 < c.length
      · rw [if_pos h1]; decide
      · rw [if_neg h1]
        by_cases h2 : l.many - l.next < c.length + 1
        · rw [if_pos h2]; decide
        · rw [if_neg h2]
          rcases hbad with h | h | h
          · exact absurd h h1
          · exact absurd h h2
          · exact h
    · by_cases h1 : 40 < c.length
      · rw [if_pos h1]; decide
      · rw [if_neg h1]
        by_cases h2 : l.many - l.next < c.length + 1
        · rw [if_pos h2]; decide
        · rw [if_neg h2]
          have : ∀ c : List Ch, chkA c ≤ 3 := by
            intro c
            induction c with
            | nil => decide
            | cons a r ih =>
              unfold chkA
              split
              · exact ih
              · unfold chBad
                repeat' split
                all_goals decide
          have := this c
          omega
  have h40 : ¬ 40 < c.length := fun e => hbad (.inl e)
  have hfull : ¬ l.many - l.next < c.length + 1 := fun e => hbad (.inr (.inl e))
  have hck : chkA c = 0 := by
    by_cases e : chkA c = 0
    · exact e
    · exact absurd (.inr (.inr e)) hbad
  have hroom : l.next + c.length + 1 ≤ l.many := by omega
  have hcb : ∀ x ∈ c, chBad x = 0 := by
    clear hbad h40 hfull hroom
    induction c with
    | nil => intro x hx; cases hx
    | cons a r ih =>
      unfold chkA at hck
      split at hck
      · rename_i ha
        intro x hx
        rcases List.mem_cons.1 hx with e | hx
        · rw [e]; exact ha
        · exact ih hck x hx
      · rename_i ha
        exact absurd hck ha
  have hA : addF l c d = if (layF l c d).2 ≠ 0 then ((l, (layF l c d).1), (layF l c d).2)
      else if (layF l c d).1.flF ≠ 0 then ((l, (layF l c d).1.fl), (layF l c d).1.flF)
      else if (closeF l c.length (layF l c d).1.fl).2 ≠ 0 then ((l, (closeF l c.length (layF l c d).1.fl).1), (closeF l c.length (layF l c d).1.fl).2)
      else if (closeF l c.length (layF l c d).1.fl).1.flF ≠ 0 then ((l, (closeF l c.length (layF l c d).1.fl).1.fl), (closeF l c.length (layF l c d).1.fl).1.flF)
      else (({ l with next := l.next + c.length + 1 }, (closeF l c.length (layF l c d).1.fl).1.fl), 0) := by
    unfold addF
    rw [if_neg h40, if_neg hfull, hck, if_neg (fun e => e rfl)]
  obtain ⟨d1, f1, e1, e2, e3, e4, e5⟩ := layF_ok (c := c) h.ok h.fit hcb hroom
  have hwide : ∀ s ∈ d.kept, s.length = 340 := by rw [h.kn]; exact h.ok.wide
  have hw1 : ∀ t ∈ d1.wait, Dull l t := fun t ht => by
    rcases e4 t ht with e | e
    · rw [h.wt] at e; cases e
    · exact e
  -- while the sectors of the changes wait
  have fall1 : ∀ d' : Dk, d'.kept = d1.kept → d'.wait = d1.wait → ∀ K, (∀ s ∈ keepFrom K d'.kept d'.wait 0, s.length = 340) ∧ (keepFrom K d'.kept d'.wait 0).length = d.now.length ∧
      ∃ u, scanF l.first (reg l (keepFrom K d'.kept d'.wait 0)) 0 [] [] 0 = (out, u) ∨ scanF l.first (reg l (keepFrom K d'.kept d'.wait 0)) 0 [] [] 0 = (out ++ [c], u) := fun d' k1 k2 K => by
    rw [k1, k2, e2]
    exact ⟨keep_wide hwide (fun t ht => (hw1 t ht).2.1) K, by rw [length_keepFrom, h.kn], _, .inl (restart_dull h hw1 K)⟩
  rw [hA, e1]
  dsimp only
  rcases e5 with rfl | ⟨rfl, o1, g1⟩
  · rw [if_pos (by decide)]
    exact ⟨l, d1, 11, rfl, e3, .inr (.inr ⟨rfl, rfl, fall1 d1 rfl rfl⟩)⟩
  rw [if_neg (fun e => e rfl)]
  rcases fl_ok o1 with ⟨k1, k2, k3, k4⟩ | ⟨k1, k2, k3, k4, k5⟩
  · rw [k1, if_pos (by decide)]
    exact ⟨l, d1.fl, 11, rfl, by rw [k4, e3], .inr (.inr ⟨rfl, rfl, fall1 d1.fl k2 k3⟩)⟩
  rw [k1, if_neg (fun e => e rfl)]
  -- the changes are kept
  have hl1 : d1.fl.now.length = d.now.length := by rw [k5, e3]
  have hg : ∀ i, d1.fl.now[i]? = if l.next + c.length + 1 < l.many ∧ i = l.from_ + (l.next + c.length + 1) then some (full []) else if l.from_ + l.next ≤ i ∧ i < l.from_ + l.next + c.length then (osec (l.first + l.next) c)[i - (l.from_ + l.next)]? else d.now[i]? := fun i => by rw [k5]; exact g1 i
  have hR : Rests l d1.fl out := by
    have hsame : ∀ k, k < l.next → d1.fl.now[l.from_ + k]? = d.now[l.from_ + k]? := fun k hk => by rw [hg, if_neg (by omega), if_neg (by omega)]
    have hdl : ∀ k s, l.next ≤ k → k < l.many → d1.fl.now[l.from_ + k]? = some s → ∀ x, lookF s (l.first + k) ≠ some (99, x) := fun k s q1 q2 q3 x => by
      rw [hg] at q3
      by_cases hi : l.next + c.length + 1 < l.many ∧ l.from_ + k = l.from_ + (l.next + c.length + 1)
      · rw [if_pos hi] at q3
        injection q3 with q3
        rw [← q3, lookF_zero]
        exact fun e => by cases e
      · rw [if_neg hi] at q3
        by_cases hj : l.from_ + l.next ≤ l.from_ + k ∧ l.from_ + k < l.from_ + l.next + c.length
        · rw [if_pos hj, osec_get] at q3
          have hk : l.from_ + k - (l.from_ + l.next) < c.length := by omega
          rw [List.getElem?_eq_getElem hk] at q3
          injection q3 with q3
          have hcm := hcb _ (List.getElem_mem hk)
          rw [← q3, show l.first + l.next + (l.from_ + k - (l.from_ + l.next)) = l.first + k by omega, lookF_text (.inl rfl) _ _ (by have := enc_le hcm; omega)]
          intro e
          injection e with e
          injection e with e _
          revert e
          decide
        · rw [if_neg hj] at q3
          exact h.dull k s q1 q2 q3 x
    exact ⟨k2, by rw [k3, k5], k4, by rw [hl1]; exact h.fit, scan_dull h.fit hl1 h.sc hsame hdl, hdl⟩
  have htl := textF_len 99 (l.first + (l.next + c.length)) (fourF c.length)
  rw [fourF_len] at htl
  unfold closeF
  dsimp only
  have fall2 : ∀ d' : Dk, d'.kept = d1.fl.kept → d'.wait = [] → ∀ K, (∀ s ∈ keepFrom K d'.kept d'.wait 0, s.length = 340) ∧ (keepFrom K d'.kept d'.wait 0).length = d.now.length ∧
      ∃ u, scanF l.first (reg l (keepFrom K d'.kept d'.wait 0)) 0 [] [] 0 = (out, u) ∨ scanF l.first (reg l (keepFrom K d'.kept d'.wait 0)) 0 [] [] 0 = (out ++ [c], u) := fun d' q1 q2 K => by
    rw [q1, q2, hR.kn]
    exact ⟨hR.ok.wide, hl1, _, .inl hR.sc⟩
  have hr3 : l.from_ + l.many ≤ d1.fl.now.length := hR.fit
  rcases wr_ok hR.ok (p := l.from_ + (l.next + c.length)) (s := textF 99 (l.first + (l.next + c.length)) (fourF c.length)) (by omega) (by omega) with ⟨w1, w2, w3, w4⟩ | ⟨w1, w2, w3, w4, w5⟩
  · rw [w1, if_pos (by decide)]
    exact ⟨l, _, 11, rfl, by rw [w4, hl1], .inr (.inr ⟨rfl, rfl, fall2 _ w2 (by rw [w3, hR.wt])⟩)⟩
  rw [w1, if_neg (fun e => e rfl)]
  obtain ⟨d3, hd3⟩ : ∃ d3, d3 = d1.fl.wr ((l.from_ + (l.next + c.length) : Nat) : Int) (textF 99 (l.first + (l.next + c.length)) (fourF c.length)) := ⟨_, rfl⟩
  rw [← hd3] at w2 w3 w4 w5 ⊢
  have hl3 : d3.now.length = d.now.length := by rw [w5, List.length_set, hl1]
  have hG : ∀ i, i ≠ l.from_ + (l.next + c.length) → d3.now[i]? = d1.fl.now[i]? := fun i hi => by rw [w5]; exact List.getElem?_set_ne (by omega)
  have hS : scanF l.first (reg l d3.now) 0 [] [] 0 = (out ++ [c], l.next + c.length + 1) := by
    refine scan_added h.fit hl3 h.sc hcb hroom (fun k hk => ?_) (fun k hk => ?_) ?_ (fun hm => ?_)
    · rw [hG _ (by omega), hg, if_neg (by omega), if_neg (by omega)]
    · rw [hG _ (by omega), hg, if_neg (by omega), if_pos (by omega)]
      congr 1
      omega
    · rw [w5]
      exact List.getElem?_set_self (by omega)
    · rw [hG _ (by omega), hg, if_pos ⟨hm, rfl⟩]
  rcases fl_ok w2 with ⟨q1, q2, q3, q4⟩ | ⟨q1, q2, q3, q4, q5⟩
  · rw [q1, if_pos (by decide)]
    refine ⟨l, d3.fl, 11, rfl, by rw [q4, hl3], .inr (.inr ⟨rfl, rfl, fun K => ?_⟩)⟩
    rw [q2, q3, w3, w4, hR.wt, hR.kn, List.nil_append]
    show (∀ s ∈ (if keeps K 0 then d1.fl.now.set _ _ else d1.fl.now), s.length = 340) ∧ (if keeps K 0 then d1.fl.now.set _ _ else d1.fl.now).length = d.now.length ∧ ∃ u, scanF l.first (reg l (if keeps K 0 then d1.fl.now.set _ _ else d1.fl.now)) 0 [] [] 0 = (out, u) ∨ scanF l.first (reg l (if keeps K 0 then d1.fl.now.set _ _ else d1.fl.now)) 0 [] [] 0 = (out ++ [c], u)
    by_cases hk : keeps K 0 = true
    · rw [if_pos hk]
      have e : d1.fl.now.set (l.from_ + (l.next + c.length), full (textF 99 (l.first + (l.next + c.length)) (fourF c.length))).1 (l.from_ + (l.next + c.length), full (textF 99 (l.first + (l.next + c.length)) (fourF c.length))).2 = d3.now := w5.symm
      rw [e]
      exact ⟨w2.wide, hl3, _, .inr hS⟩
    · rw [if_neg hk]
      exact ⟨hR.ok.wide, hl1, _, .inl hR.sc⟩
  · rw [q1, if_neg (fun e => e rfl)]
    refine ⟨_, d3.fl, 0, rfl, by rw [q5, hl3], .inl ⟨rfl, rfl, hroom, ⟨q2, by rw [q3, q5], q4, by rw [q5, hl3]; exact h.fit, by rw [q5]; exact hS, fun k s z1 z2 z3 x => ?_⟩⟩⟩
    rw [q5] at z3
    have z1 : l.next + c.length + 1 ≤ k := z1
    have z2 : k < l.many := z2
    have z3 : d3.now[l.from_ + k]? = some s := z3
    rw [hG _ (by omega)] at z3
    exact hR.dull k s (by omega) z2 z3 x
end Go.Proofs.Ytaphmmobmadfoaa
