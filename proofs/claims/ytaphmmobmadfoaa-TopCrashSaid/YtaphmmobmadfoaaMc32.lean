/- Put together: StM. -/
import Derived.Test.YtaphmmobmadfoaaMc31
/- The plain law of stores, second part: a checkpoint. No program. -/
namespace Go.Proofs.Ytaphmmobmadfoaa
open Go Go.RowKit
theorem wr_fu {d : Dk} (h : d.Ok) {p : Nat} {s : Str} (hp : p < d.now.length) (hs : s.length ≤ 340) :
    (d.wrF (p : Int) s = 11 ∧ d.fuse ≠ -1 ∧ (d.wr (p : Int) s).kept = d.kept ∧ (d.wr (p : Int) s).wait = d.wait ∧ (d.wr (p : Int) s).now.length = d.now.length) ∨
    (d.wrF (p : Int) s = 0 ∧ (d.wr (p : Int) s).Ok ∧ (d.fuse = -1 → (d.wr (p : Int) s).fuse = -1) ∧ (d.wr (p : Int) s).kept = d.kept ∧ (d.wr (p : Int) s).wait = d.wait ++ [(p, full s)] ∧ (d.wr (p : Int) s).now = d.now.set p (full s)) := by
  rcases wr_ok h hp hs with ⟨h1, h2⟩ | ⟨h1, h2, h3⟩
  · refine .inl ⟨h1, fun e => ?_, h2⟩
    have := (wr_good h.dn e hp hs).2
    rw [this] at h1
    cases h1
  · refine .inr ⟨h1, h2, fun e => ?_, h3⟩
    rw [(wr_good h.dn e hp hs).1]
    exact e
theorem fl_fu {d : Dk} (h : d.Ok) :
    (d.flF = 11 ∧ d.fuse ≠ -1 ∧ d.fl.kept = d.kept ∧ d.fl.wait = d.wait ∧ d.fl.now.length = d.now.length) ∨ (d.flF = 0 ∧ d.fl.Ok ∧ (d.fuse = -1 → d.fl.fuse = -1) ∧ d.fl.kept = d.now ∧ d.fl.wait = [] ∧ d.fl.now = d.now) := by
  rcases fl_ok h with ⟨h1, h2⟩ | ⟨h1, h2, h3⟩
  · refine .inl ⟨h1, fun e => ?_, h2⟩
    have := (fl_good h.dn e).2
    rw [this] at h1
    cases h1
  · refine .inr ⟨h1, h2, fun e => ?_, h3⟩
    rw [(fl_good h.dn e).1]
    exact e
theorem wrL_ok : ∀ (L : List Str) (p : Nat) (d : Dk), d.Ok → p + L.length ≤ d.now.length → (∀ s ∈ L, s.length ≤ 340) →
    ∃ d' f, wrL p L d = (d', f) ∧ d'.kept = d.kept ∧ d'.now.length = d.now.length ∧ (∀ t ∈ d'.wait, t ∈ d.wait ∨ (p ≤ t.1 ∧ t.1 < p + L.length ∧ t.2.length = 340)) ∧
      ((f = 11 ∧ d.fuse ≠ -1) ∨ (f = 0 ∧ d'.Ok ∧ (d.fuse = -1 → d'.fuse = -1) ∧ ∀ i, d'.now[i]? = if p ≤ i ∧ i < p + L.length then (L[i - p]?).map full else d.now[i]?))
  | [], p, d, hd, _, _ => ⟨d, 0, rfl, rfl, rfl, fun t ht => .inl ht, .inr ⟨rfl, hd, id, fun i => by rw [if_neg (by simp)]⟩⟩
  | a :: L, p, d, hd, hl, hs => by
    rw [List.length_cons] at hl
    have ha := hs a List.mem_cons_self
    have e : wrL p (a :: L) d = if d.wrF (p : Int) a = 0 then wrL (p + 1) L (d.wr (p : Int) a) else (d.wr (p : Int) a, d.wrF (p : Int) a) := rfl
    rw [e]
    rcases wr_fu hd (p := p) (s := a) (by omega) ha with ⟨h1, h2, h3, h4, h5⟩ | ⟨h1, h2, h3, h4, h5, h6⟩
    · rw [h1, if_neg (by decide)]
      exact ⟨_, 11, rfl, h3, h5, fun t ht => by rw [h4] at ht; exact .inl ht, .inl ⟨rfl, h2⟩⟩
    · rw [if_pos h1]
      obtain ⟨d', f, e1, e2, e3, e4, e5⟩ := wrL_ok L (p + 1) (d.wr (p : Int) a) h2 (by rw [h6, List.length_set]; omega) fun s hm => hs s (List.mem_cons_of_mem _ hm)
      refine ⟨d', f, e1, by rw [e2, h4], by rw [e3, h6, List.length_set], fun t ht => ?_, ?_⟩
      · rcases e4 t ht with h | h
        · rw [h5] at h
          rcases List.mem_append.1 h with h | h
          · exact .inl h
          · rw [List.mem_singleton] at h
            subst h
            exact .inr ⟨Nat.le_refl _, by show p < p + (L.length + 1); omega, length_full _ ha⟩
        · exact .inr ⟨by omega, by rw [List.length_cons]; omega, h.2.2⟩
      · rcases e5 with ⟨k1, k2⟩ | ⟨k1, k2, k3, k4⟩
        · exact .inl ⟨k1, fun e => k2 (h3 e)⟩
        · refine .inr ⟨k1, k2, fun e => k3 (h3 e), fun i => ?_⟩
          rw [k4, h6, List.length_cons]
          by_cases hi : p + 1 ≤ i ∧ i < p + 1 + L.length
          · rw [if_pos hi, if_pos (by omega), show i - p = i - (p + 1) + 1 by omega, List.getElem?_cons_succ]
          · rw [if_neg hi]
            by_cases hip : i = p
            · subst hip
              rw [if_pos (by omega), Nat.sub_self, List.getElem?_set_self (by omega)]
              rfl
            · rw [if_neg (by omega), List.getElem?_set_ne (by omega)]
theorem ckL_cons {t : Str} (h : 0 < t.length) : ckL t = t.take 340 :: ckL (t.drop 340) := by
  unfold ckL
  have e : chN t.length = chN (t.drop 340).length + 1 := by
    rw [List.length_drop]
    unfold chN
    omega
  rw [e, List.range_succ_eq_map, List.map_cons, List.map_map]
  congr 1
  apply List.map_congr_left
  intro k _
  show ckAt t (k + 1) = ckAt (t.drop 340) k
  unfold ckAt
  rw [List.drop_drop]
  congr 2
  omega
theorem full_of {s : Str} (h : s.length = 340) : full s = s := by
  unfold full
  rw [h]
  simp [zeros]
theorem ckL_flat : ∀ (n : Nat) (t rest : Str), t.length ≤ n → (((ckL t).map full).flatten ++ rest).take t.length = t
  | 0, t, rest, h => by
    have : t = [] := List.eq_nil_of_length_eq_zero (by omega)
    subst this
    simp
  | n + 1, t, rest, h => by
    by_cases h0 : 0 < t.length
    · rw [ckL_cons h0, List.map_cons, List.flatten_cons, List.append_assoc]
      by_cases h340 : t.length ≤ 340
      · rw [List.take_of_length_le (i := 340) h340, show full t = t ++ zeros (340 - t.length) from rfl, List.append_assoc]
        exact List.take_left' rfl
      · have hl : (t.take 340).length = 340 := by rw [List.length_take]; omega
        rw [full_of hl, List.take_append, hl]
        rw [List.take_of_length_le (by omega)]
        have ih := ckL_flat n (t.drop 340) rest (by rw [List.length_drop]; omega)
        rw [List.length_drop] at ih
        rw [ih]
        exact List.take_append_drop 340 t
    · have : t = [] := List.eq_nil_of_length_eq_zero (by omega)
      subst this
      simp
theorem ckL_len (t : Str) : (ckL t).length = chN t.length := by simp [ckL]
theorem chN_le {n : Nat} (h : n ≤ 7140) : chN n ≤ 21 := by unfold chN; omega
theorem catT_ck {N : List Str} {side : Nat} {t : Str} (ht : t.length ≤ 7140) (h : ∀ i, 2 + side * 21 ≤ i → i < 2 + side * 21 + (ckL t).length → N[i]? = ((ckL t)[i - (2 + side * 21)]?).map full) : (catT N side 21).take t.length = t := by
  unfold catT
  have hM : (ckL t).length ≤ 21 := by rw [ckL_len]; exact chN_le ht
  have hX : (N.drop (2 + side * 21)).take 21 = (ckL t).map full ++ ((N.drop (2 + side * 21)).take 21).drop ((ckL t).map full).length := list_pre fun k hk => by
    rw [List.length_map] at hk
    rw [List.getElem?_take_of_lt (by omega), List.getElem?_drop, h _ (by omega) (by omega), List.getElem?_map]
    congr 2
    omega
  rw [hX, List.flatten_append]
  exact ckL_flat t.length t _ (Nat.le_refl _)
/-- The new head is laid. -/
theorem DiskOk.head {now : List Str} {h : Hd} {l : LogR} {rows : List Ch} (H : DiskOk now h l rows) (hb : h.epoch + 1 ≤ 1000000000 ∧ l.first + l.many ≤ 1000000000) (hc : (catT now (1 - h.side) 21).take (allT rows).length = allT rows) (g : Nat) :
    DiskOk (now.set ((h.epoch + 1) % 2) (full (hdT (ckHd h l (allT rows))))) (ckHd h l (allT rows)) ⟨g, 44, now.length - 44, l.first + l.many, 0⟩ rows ∧
      scanF (l.first + l.many) (((now.set ((h.epoch + 1) % 2) (full (hdT (ckHd h l (allT rows))))).drop 44).take (now.length - 44)) 0 [] [] 0 = ([], 0) ∧
      ∀ k s, k < now.length - 44 → (now.set ((h.epoch + 1) % 2) (full (hdT (ckHd h l (allT rows)))))[44 + k]? = some s → lookF s (l.first + l.many + k) = none := by
  have hsm := H.small
  have hs := H.hd.2.2.1
  have hl := H.lg
  have hn := H.n
  have hfit : hdOf (full (hdT (ckHd h l (allT rows)))) = ckHd h l (allT rows) := hdOf_text (by show h.epoch + 1 < _; omega) (by show 1 - h.side ≤ 1; omega) hsm.2 ⟨by show 1 ≤ l.first + l.many; omega, by show l.first + l.many < _; omega⟩
  have hp : (h.epoch + 1) % 2 < now.length := by omega
  have hlow : (h.epoch + 1) % 2 < 2 := Nat.mod_lt _ (by omega)
  obtain ⟨now2, hnow2⟩ : ∃ x, x = now.set ((h.epoch + 1) % 2) (full (hdT (ckHd h l (allT rows)))) := ⟨_, rfl⟩
  rw [← hnow2]
  have hlen : now2.length = now.length := by rw [hnow2, List.length_set]
  have hoth : ∀ i, i ≠ (h.epoch + 1) % 2 → now2[i]? = now[i]? := fun i hi => by rw [hnow2]; exact List.getElem?_set_ne (Ne.symm hi)
  have hnum : ∀ k s, k < now.length - 44 → now2[44 + k]? = some s → lookF s (l.first + l.many + k) = none := fun k s hk hx => by
    rw [hoth _ (by omega)] at hx
    exact H.num k s (by omega) hx _ (by omega) (by omega)
  have hsc : scanF (l.first + l.many) ((now2.drop 44).take (now.length - 44)) 0 [] [] 0 = ([], 0) := by
    have h0 : ((now2.drop 44).take (now.length - 44))[0]? = now2[44]? := by rw [List.getElem?_take_of_lt (by omega), List.getElem?_drop]
    cases hL : (now2.drop 44).take (now.length - 44) with
    | nil => rfl
    | cons s r =>
      rw [hL] at h0
      have h1 := hnum 0 s (by omega) h0.symm
      rw [scanF_cons, h1]
  refine ⟨⟨by rw [hnow2]; exact set_wide H.wide (length_full _ (by rw [hdT_len]; omega)), by rw [hlen]; exact hn, ⟨rfl, by rw [hlen], rfl, by show 1 ≤ l.first + l.many; omega, hb.2, Nat.zero_le _⟩, ⟨by show 1 ≤ h.epoch + 1; omega, hb.1, by show 1 - h.side ≤ 1; omega, hsm.2⟩, ?_, ?_, ⟨rows, [], H.good.1, by omega, ?_, ?_, rfl⟩, H.good, fun k s hk hx => ?_⟩, hsc, hnum⟩
  · show hdOf (now2.getD ((h.epoch + 1) % 2) []) = _
    rw [List.getD_eq_getElem?_getD, hnow2, List.getElem?_set_self hp]
    exact hfit
  · show (hdOf (now2.getD ((h.epoch + 1 + 1) % 2) [])).epoch < h.epoch + 1
    rw [show (h.epoch + 1 + 1) % 2 = h.epoch % 2 by omega, getD_at (hoth (h.epoch % 2) (by omega)), H.cur]
    omega
  · show (catT now2 (1 - h.side) 21).take (allT rows).length = allT rows
    rw [catT_same fun i h1 h2 => hoth i (by omega)]
    exact hc
  · show scanF (l.first + l.many) ((now2.drop 44).take (now.length - 44)) 0 [] [] 0 = ([], 0)
    exact hsc
  · have hk : k < now.length - 44 := hk
    rw [hoth _ (by omega)] at hx
    exact (H.num k s (by omega) hx).mono (by show l.first + k ≤ l.first + l.many + k; omega)
/-- **A checkpoint, on a disk that may fall.** -/
theorem ck_law {d : Dk} {h : Hd} {l : LogR} {rows : List Ch} (H : DiskOk d.now h l rows) (ok : d.Ok) (kn : d.kept = d.now) (wt : d.wait = []) (hb : h.epoch + 1 ≤ 1000000000 ∧ l.first + l.many ≤ 1000000000) :
    ∃ d' f, ckD (ckHd h l (allT rows)) (allT rows) d = (d', f) ∧ d'.now.length = d.now.length ∧
      ((f = 0 ∧ d'.Ok ∧ d'.kept = d'.now ∧ d'.wait = [] ∧ (d.fuse = -1 → d'.fuse = -1) ∧ (∀ g, DiskOk d'.now (ckHd h l (allT rows)) ⟨g, 44, d.now.length - 44, l.first + l.many, 0⟩ rows) ∧
          scanF (l.first + l.many) ((d'.now.drop 44).take (d.now.length - 44)) 0 [] [] 0 = ([], 0) ∧ ∀ k s, k < d.now.length - 44 → d'.now[44 + k]? = some s → lookF s (l.first + l.many + k) = none) ∨
       (f = 11 ∧ d.fuse ≠ -1 ∧ ∀ K, ∃ h2 l2, DiskOk (keepFrom K d'.kept d'.wait 0) h2 l2 rows ∧ h2.epoch ≤ h.epoch + 1 ∧ l2.first ≤ l.first + l.many)) := by
  have hsm := H.small
  have hs := H.hd.2.2.1
  have hn := H.n
  have hck : (ckL (allT rows)).length ≤ 21 := by rw [ckL_len]; exact chN_le hsm.2
  obtain ⟨d1, f1, e1, e2, e3, e4, e5⟩ := wrL_ok (ckL (allT rows)) (2 + (1 - h.side) * 21) d ok (by omega) (ckL_le _)
  have hD : ckD (ckHd h l (allT rows)) (allT rows) d = if f1 ≠ 0 then (d1, f1) else if d1.flF ≠ 0 then (d1.fl, d1.flF)
      else if d1.fl.wrF (((h.epoch + 1) % 2 : Nat) : Int) (hdT (ckHd h l (allT rows))) ≠ 0 then (d1.fl.wr (((h.epoch + 1) % 2 : Nat) : Int) (hdT (ckHd h l (allT rows))), d1.fl.wrF (((h.epoch + 1) % 2 : Nat) : Int) (hdT (ckHd h l (allT rows))))
      else ((d1.fl.wr (((h.epoch + 1) % 2 : Nat) : Int) (hdT (ckHd h l (allT rows)))).fl, (d1.fl.wr (((h.epoch + 1) % 2 : Nat) : Int) (hdT (ckHd h l (allT rows)))).flF) := by
    unfold ckD
    rw [show (ckHd h l (allT rows)).side = 1 - h.side from rfl, show (ckHd h l (allT rows)).epoch = h.epoch + 1 from rfl, e1]
  -- while the chunks wait
  have fall1 : ∀ d' : Dk, d'.kept = d1.kept → d'.wait = d1.wait → ∀ K, ∃ h2 l2, DiskOk (keepFrom K d'.kept d'.wait 0) h2 l2 rows ∧ h2.epoch ≤ h.epoch + 1 ∧ l2.first ≤ l.first + l.many := fun d' k1 k2 K => by
    rw [k1, k2, e2, kn]
    have hw : ∀ t ∈ d1.wait, 2 + (1 - h.side) * 21 ≤ t.1 ∧ t.1 < 2 + (1 - h.side) * 21 + 21 ∧ t.2.length = 340 := fun t ht => by
      rcases e4 t ht with k | k
      · rw [wt] at k; cases k
      · exact ⟨k.1, by omega, k.2.2⟩
    refine ⟨h, l, H.other (keep_wide H.wide (fun t ht => (hw t ht).2.2) K) (length_keepFrom _ _ _ _) fun i hi => ?_, Nat.le_succ _, Nat.le_add_right _ _⟩
    rcases keep_get K d1.wait d.now 0 i with k | ⟨t, h4, h5, _⟩
    · exact k
    · have := hw t h4
      omega
  rw [hD]
  rcases e5 with ⟨rfl, hfu⟩ | ⟨rfl, o1, fu1, g1⟩
  · rw [if_pos (by decide)]
    exact ⟨d1, 11, rfl, e3, .inr ⟨rfl, hfu, fall1 d1 rfl rfl⟩⟩
  rw [if_neg (fun e => e rfl)]
  rcases fl_fu o1 with ⟨k1, k2, k3, k4, k5⟩ | ⟨k1, k2, k3, k4, k5, k6⟩
  · rw [k1, if_pos (by decide)]
    exact ⟨d1.fl, 11, rfl, by rw [k5, e3], .inr ⟨rfl, fun e => k2 (fu1 e), fall1 d1.fl k3 k4⟩⟩
  rw [k1, if_neg (fun e => e rfl)]
  have H1 : DiskOk d1.now h l rows := H.other o1.wide e3 fun i hi => by rw [g1, if_neg (by omega)]
  have hc1 : (catT d1.now (1 - h.side) 21).take (allT rows).length = allT rows := catT_ck hsm.2 fun i i1 i2 => by rw [g1, if_pos ⟨i1, i2⟩]
  have H2 := H1.head hb hc1
  have hpl : (h.epoch + 1) % 2 < d1.fl.now.length := by rw [k6, e3]; omega
  rw [e3] at H2
  rcases wr_fu k2 (p := (h.epoch + 1) % 2) (s := hdT (ckHd h l (allT rows))) hpl (by rw [hdT_len]; omega) with ⟨w1, w2, w3, w4, w5⟩ | ⟨w1, w2, w3, w4, w5, w6⟩
  · rw [w1, if_pos (by decide)]
    refine ⟨_, 11, rfl, by rw [w5, k6, e3], .inr ⟨rfl, fun e => w2 (k3 (fu1 e)), fun K => ?_⟩⟩
    rw [w3, w4, k4, k5]
    exact ⟨h, l, H1, Nat.le_succ _, Nat.le_add_right _ _⟩
  rw [w1, if_neg (fun e => e rfl)]
  obtain ⟨d3, hd3⟩ : ∃ x, x = d1.fl.wr (((h.epoch + 1) % 2 : Nat) : Int) (hdT (ckHd h l (allT rows))) := ⟨_, rfl⟩
  rw [← hd3] at w2 w3 w4 w5 w6 ⊢
  rw [k6] at w6
  rw [← w6] at H2
  rcases fl_fu w2 with ⟨q1, q2, q3, q4, q5⟩ | ⟨q1, q2, q3, q4, q5, q6⟩
  · rw [q1]
    refine ⟨d3.fl, 11, rfl, by rw [q5, w6, List.length_set, e3], .inr ⟨rfl, fun e => q2 (w3 (k3 (fu1 e))), fun K => ?_⟩⟩
    rw [q3, q4, w4, w5, k4, k5, List.nil_append]
    show ∃ h2 l2, DiskOk (if keeps K 0 then d1.now.set _ _ else d1.now) h2 l2 rows ∧ h2.epoch ≤ h.epoch + 1 ∧ l2.first ≤ l.first + l.many
    by_cases hk : keeps K 0 = true
    · rw [if_pos hk]
      exact ⟨_, _, by have := (H2 0).1; rw [w6] at this; exact this, Nat.le_refl _, Nat.le_refl _⟩
    · rw [if_neg hk]
      exact ⟨h, l, H1, Nat.le_succ _, Nat.le_add_right _ _⟩
  · rw [q1]
    refine ⟨d3.fl, 0, rfl, by rw [q6, w6, List.length_set, e3], .inl ⟨rfl, q2, by rw [q4, q6], q5, fun e => q3 (w3 (k3 (fu1 e))), fun g => by rw [q6]; exact (H2 g).1, by rw [q6]; exact (H2 0).2.1, by rw [q6]; exact (H2 0).2.2⟩⟩
end Go.Proofs.Ytaphmmobmadfoaa
