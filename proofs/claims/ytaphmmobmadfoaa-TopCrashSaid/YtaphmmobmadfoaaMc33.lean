/- Put together: StN. -/
import Derived.Test.YtaphmmobmadfoaaMc32
/- The plain law of stores, third part: Commit. No program. -/
namespace Go.Proofs.Ytaphmmobmadfoaa
open Go Go.RowKit
/-- A disk on which only sectors of the log were laid, none of a greater number. -/
structure Near (l : LogR) (d0 d : Dk) : Prop where
  len : d.now.length = d0.now.length ∧ d.kept.length = d0.kept.length
  out : ∀ i, i < l.from_ ∨ l.from_ + l.many ≤ i → d.now[i]? = d0.now[i]?
  outk : ∀ i, i < l.from_ ∨ l.from_ + l.many ≤ i → d.kept[i]? = d0.kept[i]? ∨ d.kept[i]? = d0.now[i]?
  wt : ∀ t ∈ d.wait, l.from_ ≤ t.1 ∧ t.1 < l.from_ + l.many ∧ NumP (l.first + (t.1 - l.from_)) t.2
  num : ∀ k s, k < l.many → d.now[l.from_ + k]? = some s → NumP (l.first + k) s
  numk : ∀ k s, k < l.many → d.kept[l.from_ + k]? = some s → NumP (l.first + k) s
theorem Near.wr {l : LogR} {d0 d : Dk} (h : Near l d0 d) {k : Nat} (hk : k < l.many) {s : Str} (hs : NumP (l.first + k) (full s)) : Near l d0 (d.wr ((l.from_ + k : Nat) : Int) s) := by
  have hst : d.stepped.now = d.now ∧ d.stepped.kept = d.kept ∧ d.stepped.wait = d.wait := by
    unfold Dk.stepped
    repeat' split
    all_goals exact ⟨rfl, rfl, rfl⟩
  have hsn : Near l d0 d.stepped := ⟨by rw [hst.1, hst.2.1]; exact h.len, by rw [hst.1]; exact h.out, by rw [hst.2.1]; exact h.outk, by rw [hst.2.2]; exact h.wt, by rw [hst.1]; exact h.num, by rw [hst.2.1]; exact h.numk⟩
  unfold Dk.wr
  split
  · exact h
  · split
    · exact hsn
    · show Near l d0 { d.stepped with now := d.stepped.now.set (l.from_ + k) (full s), wait := d.stepped.wait ++ [(l.from_ + k, full s)] }
      refine ⟨⟨by show (d.stepped.now.set _ _).length = _; rw [List.length_set]; exact hsn.len.1, hsn.len.2⟩, fun i hi => ?_, hsn.outk, fun t ht => ?_, fun j x hj hx => ?_, hsn.numk⟩
      · show (d.stepped.now.set (l.from_ + k) (full s))[i]? = _
        rw [List.getElem?_set_ne (by omega)]
        exact hsn.out i hi
      · rcases List.mem_append.1 ht with ht | ht
        · exact hsn.wt t ht
        · rw [List.mem_singleton] at ht
          subst ht
          exact ⟨Nat.le_add_right _ _, by show l.from_ + k < _; omega, by show NumP (l.first + (l.from_ + k - l.from_)) (full s); rw [show l.from_ + k - l.from_ = k by omega]; exact hs⟩
      · have hx : (d.stepped.now.set (l.from_ + k) (full s))[l.from_ + j]? = some x := hx
        by_cases e : k = j
        · subst e
          by_cases hlt : l.from_ + k < d.stepped.now.length
          · rw [List.getElem?_set_self hlt] at hx
            injection hx with hx
            rw [← hx]; exact hs
          · rw [List.getElem?_eq_none (by rw [List.length_set]; omega)] at hx
            cases hx
        · rw [List.getElem?_set_ne (by omega)] at hx
          exact hsn.num j x hj hx
theorem Near.fl {l : LogR} {d0 d : Dk} (h : Near l d0 d) (hl : d0.kept.length = d0.now.length) : Near l d0 d.fl := by
  have hst : d.stepped.now = d.now ∧ d.stepped.kept = d.kept ∧ d.stepped.wait = d.wait := by
    unfold Dk.stepped
    repeat' split
    all_goals exact ⟨rfl, rfl, rfl⟩
  unfold Dk.fl
  split
  · exact ⟨by rw [hst.1, hst.2.1]; exact h.len, by rw [hst.1]; exact h.out, by rw [hst.2.1]; exact h.outk, by rw [hst.2.2]; exact h.wt, by rw [hst.1]; exact h.num, by rw [hst.2.1]; exact h.numk⟩
  · show Near l d0 { d.stepped with kept := d.stepped.now, wait := [] }
    exact ⟨⟨by show d.stepped.now.length = _; rw [hst.1]; exact h.len.1, by show d.stepped.now.length = _; rw [hst.1, h.len.1, hl]⟩, by show ∀ i, _ → d.stepped.now[i]? = _; rw [hst.1]; exact h.out, fun i hi => .inr (by show d.stepped.now[i]? = _; rw [hst.1]; exact h.out i hi), fun t ht => (by cases ht), fun k s h1 h2 => h.num k s h1 (by rw [← hst.1]; exact h2), fun k s h1 h2 => h.num k s h1 (by rw [← hst.1]; exact h2)⟩
theorem layD_near {l : LogR} {d0 : Dk} : ∀ (c : List Ch) (k : Nat) (d : Dk), Near l d0 d → k + c.length ≤ l.many → l.first + l.many < 4294967296 → Near l d0 (layD ((l.from_ + k : Nat) : Int) (l.first + k) c d).1
  | [], _, _, h, _, _ => h
  | a :: c, k, d, h, hk, hb => by
    rw [List.length_cons] at hk
    have h2 := h.wr (k := k) (by omega) (s := textF 111 (l.first + k) (chEnc a)) (NumP.text _ _ _ (by omega))
    rw [layD_cons]
    split
    · exact layD_near c (k + 1) _ h2 (by omega) hb
    · exact h2
theorem addF_near {l : LogR} {c : List Ch} {d : Dk} (h : Near l d d) (hl : d.kept.length = d.now.length) (hr : l.next + c.length + 1 ≤ l.many) (hb : l.first + l.many < 4294967296) : Near l d (addF l c d).1.2 := by
  have h1 := layD_near c l.next d h (by omega) hb
  have h2 : Near l d (layF l c d).1 := by
    unfold layF
    split
    · unfold layEnd
      split
      · exact h1.wr (by omega) (NumP.zero _)
      · exact h1
    · exact h1
  have h3 := h2.fl hl
  have h4 : Near l d (closeF l c.length (layF l c d).1.fl).1 := h3.wr (by omega) (NumP.text _ _ _ (by omega))
  have h5 := h4.fl hl
  unfold addF
  repeat' split
  all_goals first
    | exact h
    | exact h2
    | exact h3
    | exact h4
    | exact h5
theorem addF_code {l : LogR} {c : List Ch} {d : Dk} (ok : d.Ok) (hr : l.from_ + l.many ≤ d.now.length) (hc : ∀ x ∈ c, chBad x = 0) (hk : chkA c = 0) (h40 : c.length ≤ 40) (hroom : l.next + c.length + 1 ≤ l.many) : (addF l c d).2 = 0 ∨ (addF l c d).2 = 11 := by
  obtain ⟨d1, f1, e1, e2, e3, e4, e5⟩ := layF_ok (c := c) ok hr hc hroom
  unfold addF
  rw [if_neg (by omega), if_neg (by omega), hk, if_neg (fun e => e rfl), e1]
  dsimp only
  rcases e5 with rfl | ⟨rfl, o1, g1⟩
  · rw [if_pos (by decide)]; exact .inr rfl
  rw [if_neg (fun e => e rfl)]
  rcases fl_ok o1 with ⟨k1, k2, k3, k4⟩ | ⟨k1, k2, k3, k4, k5⟩
  · rw [k1, if_pos (by decide)]; exact .inr rfl
  rw [k1, if_neg (fun e => e rfl)]
  have htl := textF_len 99 (l.first + (l.next + c.length)) (fourF c.length)
  rw [fourF_len] at htl
  unfold closeF
  dsimp only
  rcases wr_ok k2 (p := l.from_ + (l.next + c.length)) (s := textF 99 (l.first + (l.next + c.length)) (fourF c.length)) (by rw [k5, e3]; omega) (by omega) with ⟨w1, w2⟩ | ⟨w1, w2, w3⟩
  · rw [w1, if_pos (by decide)]; exact .inr rfl
  rw [w1, if_neg (fun e => e rfl)]
  rcases fl_ok w2 with ⟨q1, q2⟩ | ⟨q1, q2⟩
  · rw [q1, if_pos (by decide)]; exact .inr rfl
  · rw [q1, if_neg (fun e => e rfl)]; exact .inl rfl
theorem foldR_add (base : List Ch) (out : List (List Ch)) (c : List Ch) : foldR base (out ++ [c]) = applyL (foldR base out) c := by
  unfold foldR
  rw [List.foldl_append]
  rfl
def DullL (l : LogR) (now : List Str) : Prop := ∀ k s, l.next ≤ k → k < l.many → now[l.from_ + k]? = some s → ∀ x, lookF s (l.first + k) ≠ some (99, x)
/-- **An entry is added, on a disk that may fall.** -/
theorem add_law {d : Dk} {h : Hd} {l : LogR} {rows c : List Ch} (H : DiskOk d.now h l rows) (ok : d.Ok) (kn : d.kept = d.now) (wt : d.wait = []) (dl : d.fuse = -1 ∨ DullL l d.now) (hc : ∀ x ∈ c, chBad x = 0) (hk : chkA c = 0) (h40 : c.length ≤ 40) (hroom : l.next + c.length + 1 ≤ l.many) (hm : manyB (applyL rows c) = false) :
    ∃ d' f, addF l c d = ((if f = 0 then { l with next := l.next + c.length + 1 } else l, d'), f) ∧ d'.now.length = d.now.length ∧
      ((f = 0 ∧ d'.Ok ∧ d'.kept = d'.now ∧ d'.wait = [] ∧ (d.fuse = -1 → d'.fuse = -1) ∧ DiskOk d'.now h { l with next := l.next + c.length + 1 } (applyL rows c) ∧ (DullL l d.now → DullL { l with next := l.next + c.length + 1 } d'.now)) ∨
       (f = 11 ∧ d.fuse ≠ -1 ∧ ∀ K, ∃ l2 r2, (r2 = rows ∨ r2 = applyL rows c) ∧ DiskOk (keepFrom K d'.kept d'.wait 0) h l2 r2)) := by
  obtain ⟨base, out, b1, b2, b3, b4, b5⟩ := H.all
  have hl := H.lg
  have hn := H.n
  have hs := H.hd.2.2.1
  have hfit : l.from_ + l.many ≤ d.now.length := by omega
  have hnear := addF_near (l := l) (c := c) (d := d) ⟨⟨rfl, rfl⟩, fun _ _ => rfl, fun _ _ => .inl rfl, fun t ht => (by rw [wt] at ht; cases ht), fun k s h1 h2 => H.num k s h1 (by rw [hl.1] at h2; exact h2), fun k s h1 h2 => by rw [kn] at h2; exact H.num k s h1 (by rw [hl.1] at h2; exact h2)⟩ (by rw [kn]) hroom (by omega)
  have hgood : GoodR (applyL rows c) := H.good.1.apply hc
  -- what stands on a list of sectors that is near
  have mk : ∀ (now' : List Str) (nx : Nat) (out' : List (List Ch)) (r2 : List Ch), (∀ s ∈ now', s.length = 340) → now'.length = d.now.length → (∀ i, i < 44 → now'[i]? = d.now[i]?) → (∀ k s, k < l.many → now'[44 + k]? = some s → NumP (l.first + k) s) → nx ≤ l.many → scanF l.first (reg l now') 0 [] [] 0 = (out', nx) → r2 = foldR base out' → GoodR r2 → manyB r2 = false → DiskOk now' h { l with next := nx } r2 := fun now' nx out' r2 k1 k2 k3 k4 k5 k6 k7 k8 k9 => by
    refine ⟨k1, by rw [k2]; exact hn, ⟨hl.1, by rw [k2]; exact hl.2.1, hl.2.2.1, hl.2.2.2.1, hl.2.2.2.2.1, k5⟩, H.hd, ?_, ?_, ⟨base, out', b1, b2, ?_, k6, k7⟩, ⟨k8, k9⟩, k4⟩
    · rw [getD_at (k3 _ (by omega))]; exact H.cur
    · rw [getD_at (k3 _ (by omega))]; exact H.old
    · rw [catT_same fun i h1 h2 => k3 i (by omega)]; exact b3
  by_cases hfu : d.fuse = -1
  · obtain ⟨d', e1, e2, e3, e4, e5, e6, e7⟩ := add_up (d := d) ⟨ok.dn, hfu, ok.wide⟩ hfit b4 hk h40 hroom
    rw [e1] at hnear
    refine ⟨d', 0, by rw [if_pos rfl]; exact e1, e3, .inl ⟨rfl, ⟨e2.dn, by rw [e2.fu]; omega, e2.wide⟩, e5, e4, fun _ => e2.fu, ?_, fun hd k s z1 z2 z3 x => ?_⟩⟩
    · exact mk d'.now _ (out ++ [c]) _ e2.wide e3 (fun i hi => hnear.out i (.inl (by omega))) (fun k s h1 h2 => hnear.num k s h1 (by rw [hl.1]; exact h2)) hroom e6 (by rw [foldR_add, b5]) hgood hm
    · obtain ⟨l'', d'', f'', a1, a2, a3⟩ := add_falls (c := c) (l := l) (d := d) ⟨ok, kn, wt, hfit, b4, hd⟩ hl.2.2.2.2.2
      rw [e1] at a1
      injection a1 with a1 a4
      injection a1 with a1 a5
      subst a4 a5
      rcases a3 with ⟨_, _, _, hR⟩ | ⟨hz, _⟩ | ⟨hz, _⟩
      · exact hR.dull k s (by rw [← a1]; exact z1) (by rw [← a1]; exact z2) (by rw [← a1]; exact z3) x |> fun q => by rw [← a1] at q; exact q
      · exact absurd rfl hz
      · cases hz
  · have hd := dl.resolve_left hfu
    obtain ⟨l', d', f, a1, a2, a3⟩ := add_falls (c := c) (l := l) (d := d) ⟨ok, kn, wt, hfit, b4, hd⟩ hl.2.2.2.2.2
    have hcode := addF_code ok hfit hc hk h40 hroom
    rw [a1] at hcode hnear
    rcases a3 with ⟨rfl, rfl, _, hR⟩ | ⟨hz, hz2, _⟩ | ⟨rfl, hll, hK⟩
    · refine ⟨d', 0, by rw [if_pos rfl]; exact a1, a2, .inl ⟨rfl, hR.ok, hR.kn, hR.wt, fun e => absurd e hfu, ?_, fun _ => hR.dull⟩⟩
      exact mk d'.now _ (out ++ [c]) _ hR.ok.wide a2 (fun i hi => hnear.out i (.inl (by omega))) (fun k s h1 h2 => hnear.num k s h1 (by rw [hl.1]; exact h2)) hroom hR.sc (by rw [foldR_add, b5]) hgood hm
    · rcases hcode with e | e
      · exact absurd e hz
      · exact absurd e hz2
    · have hll' := hll.symm
      subst hll'
      refine ⟨d', 11, by rw [if_neg (by decide)]; exact a1, a2, .inr ⟨rfl, hfu, fun K => ?_⟩⟩
      obtain ⟨w1, w2, u, w3⟩ := hK K
      have hoth : ∀ i, i < 44 → (keepFrom K d'.kept d'.wait 0)[i]? = d.now[i]? := fun i hi => by
        rcases keep_get K d'.wait d'.kept 0 i with q | ⟨t, q1, q2, q3⟩
        · rw [q]
          rcases hnear.outk i (.inl (by omega)) with e | e
          · rw [e, kn]
          · exact e
        · have := (hnear.wt t q1).1
          omega
      have hnum : ∀ k s, k < l.many → (keepFrom K d'.kept d'.wait 0)[44 + k]? = some s → NumP (l.first + k) s := fun k s h1 h2 => by
        rcases keep_get K d'.wait d'.kept 0 (44 + k) with q | ⟨t, q1, q2, q3⟩
        · rw [q] at h2
          exact hnear.numk k s h1 (by rw [hl.1]; exact h2)
        · rw [q3] at h2
          injection h2 with h2
          have := (hnear.wt t q1).2.2
          rw [q2, hl.1, show 44 + k - 44 = k by omega, h2] at this
          exact this
      have hu : ∀ {o : List (List Ch)}, scanF l.first (reg l (keepFrom K d'.kept d'.wait 0)) 0 [] [] 0 = (o, u) → u ≤ l.many := fun e => by
        have := (scan_from e).1
        rw [reg_len (by rw [w2]; exact hfit)] at this
        exact this
      rcases w3 with w3 | w3
      · exact ⟨_, rows, .inl rfl, mk _ u out rows w1 w2 hoth hnum (hu w3) w3 b5 H.good.1 H.good.2⟩
      · exact ⟨_, _, .inr rfl, mk _ u (out ++ [c]) _ w1 w2 hoth hnum (hu w3) w3 (by rw [foldR_add, b5]) hgood hm⟩
end Go.Proofs.Ytaphmmobmadfoaa
