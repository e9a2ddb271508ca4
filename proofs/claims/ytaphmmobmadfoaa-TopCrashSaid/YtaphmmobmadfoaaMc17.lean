/- Put together: ChE, LgQ. -/
import Derived.Test.YtaphmmobmadfoaaMc11
import Derived.Test.YtaphmmobmadfoaaMc15
/- A change's bytes are read as they were written. -/
namespace Go.Proofs.Ytaphmmobmadfoaa
open Go Go.RowKit
theorem chBad_key {c : Ch} (h : chBad c = 0) : c.1.length ≤ 10 := by
  unfold chBad at h
  split at h
  · rename_i hs
    unfold chShape at hs
    match hc : c.1, hs with
    | k :: s :: n, hs =>
      simp only [Bool.and_eq_true] at hs
      have hn := hs.1.2
      unfold nameB at hn
      simp only [Bool.and_eq_true, decide_eq_true_eq] at hn
      simp only [List.length_cons]; omega
    | [], hs => simp
    | [_], hs => simp
  · cases h
theorem bt_nat {n : Nat} (h : n < 256) : (bt ((n : Int) % 256)).toNat = n := by
  have e : ((n : Int) % 256).toNat = n := by omega
  unfold bt
  rw [e]
  simp
  omega
theorem chDec_enc {c : Ch} (h : chBad c = 0) : chDec (chEnc c) = some c := by
  have hk := chBad_key h
  have h2 : (bt ((c.1.length : Int) % 256)).toNat = c.1.length := bt_nat (by omega)
  have h1 : (bt (if c.2.2 then 1 else 0)).toNat ≤ 1 := by cases c.2.2 <;> decide
  have h3 : (bt (if c.2.2 then 1 else 0) == 1) = c.2.2 := by cases c.2.2 <;> decide
  unfold chEnc chDec
  simp only [h2, h3]
  rw [if_pos ⟨h1, by simp⟩, List.take_left' rfl, List.drop_left' rfl]
theorem chOf_enc {c : Ch} (h : chBad c = 0) : chTxt c = chEnc c ∧ chOf (chEnc c) = c ∧ chOfF (chEnc c) = 0 := by
  have hg : chGood (chEnc c) = some c := by
    unfold chGood
    rw [chDec_enc h]
    simp [Option.filter, h]
  exact ⟨if_pos h, (chOf_some hg).1, (chOf_some hg).2⟩
theorem chGood_enc {c : Ch} (h : chBad c = 0) : chGood (chEnc c) = some c := by
  unfold chGood
  rw [chDec_enc h]
  simp [Option.filter, h]
theorem chBad_val {c : Ch} (h : chBad c = 0) : c.2.1.length ≤ 300 := by
  unfold chBad at h
  split at h
  · split at h
    · cases h
    · omega
  · cases h
end Go.Proofs.Ytaphmmobmadfoaa

/- The plain law of logs: an entry that was added is read; nothing else changes. No program. -/
namespace Go.Proofs.Ytaphmmobmadfoaa
open Go Go.RowKit
theorem bt_nat' (n : Nat) (h : n < 256) : (bt (n : Int)).toNat = n := by
  unfold bt
  simp
  omega
theorem lookF_text {k : UInt8} (hk : k = 111 ∨ k = 99) (n : Nat) (s : Str) (hs : s.length ≤ 333) : lookF (full (textF k n s)) n = some (k, s) := by
  have h1 : full (textF k n s) = k :: (fourF n ++ ([bt ((s.length : Int) % 256), bt ((s.length : Int) / 256 % 256)] ++ s)) ++ zeros (340 - (textF k n s).length) := rfl
  obtain ⟨a, b, c, d, hf⟩ : ∃ a b c d, fourF n = [a, b, c, d] := ⟨_, _, _, _, rfl⟩
  have hN : secN (full (textF k n s)) = s.length := by
    rw [h1, hf]
    unfold secN
    show (bt ((s.length : Int) % 256)).toNat + 256 * (bt ((s.length : Int) / 256 % 256)).toNat = s.length
    have e1 := bt_nat' (s.length % 256) (by omega)
    have e2 := bt_nat' (s.length / 256) (by omega)
    rw [show ((s.length : Int) % 256) = ((s.length % 256 : Nat) : Int) by omega, show ((s.length : Int) / 256 % 256) = ((s.length / 256 : Nat) : Int) by omega, e1, e2]
    omega
  unfold lookF
  rw [hN]
  have h2 : (List.take 5 (full (textF k n s))).tail = fourF n := by rw [h1, hf]; rfl
  have h3 : (full (textF k n s)).getD 0 0 = k := by rw [h1]; rfl
  have h4 : ((full (textF k n s)).take (7 + s.length)).drop 7 = s := by
    rw [h1, hf]
    have e : 7 + s.length = s.length + 7 := Nat.add_comm _ _
    rw [e]
    show (List.take (s.length + 7) (k :: a :: b :: c :: d :: bt ((s.length : Int) % 256) :: bt ((s.length : Int) / 256 % 256) :: (s ++ zeros _))).drop 7 = s
    simp only [List.take_succ_cons, List.drop_succ_cons, List.drop_zero]
    rw [List.take_left' rfl]
  rw [h2, h3, h4, if_pos ⟨rfl, hk, hs⟩]
theorem lookF_zero (n : Nat) : lookF (full []) n = none := by
  unfold lookF
  rw [if_neg]
  rintro ⟨_, h, _⟩
  have : (full []).getD 0 0 = 0 := by rfl
  rw [this] at h
  revert h
  decide
/-- From the last entry on, nothing counts but what follows. -/
theorem scan_to (first : Nat) : ∀ (L : List Str) (i : Nat) (deed : List Ch) (o0 : List (List Ch)) (nx : Nat) (out : List (List Ch)) (used : Nat), scanF first L i deed o0 nx = (out, used) →
    (used = nx ∧ out = o0) ∨ (i < used ∧ used - i ≤ L.length ∧ ∀ L' : List Str, L'.take (used - i) = L.take (used - i) → scanF first L' i deed o0 nx = scanF first (L'.drop (used - i)) used [] out used)
  | [], i, deed, o0, nx, out, used, h => by
    have : (o0, nx) = (out, used) := h
    injection this with h1 h2
    exact .inl ⟨h2.symm, h1.symm⟩
  | s :: r, i, deed, o0, nx, out, used, h => by
    rw [scanF_cons] at h
    have last : (o0, nx) = (out, used) → (used = nx ∧ out = o0) := fun e => by injection e with h1 h2; exact ⟨h2.symm, h1.symm⟩
    cases hl : lookF s (first + i) with
    | none => rw [hl] at h; exact .inl (last h)
    | some kt =>
      obtain ⟨k, t⟩ := kt
      rw [hl] at h
      dsimp only at h
      have head : ∀ L' : List Str, ∀ m, L'.take (m + 1) = (s :: r).take (m + 1) → ∃ r', L' = s :: r' ∧ r'.take m = r.take m := fun L' m hm => by
        match L', hm with
        | [], hm => simp at hm
        | x :: r', hm =>
          rw [List.take_succ_cons, List.take_succ_cons] at hm
          injection hm with h1 h2
          exact ⟨r', by rw [h1], h2⟩
      by_cases h99 : k = 99
      · rw [if_pos h99] at h
        by_cases ht : t = fourF deed.length
        · rw [if_pos ht] at h
          right
          have step : ∀ r', scanF first (s :: r') i deed o0 nx = scanF first r' (i + 1) [] (o0 ++ [deed]) (i + 1) := fun r' => by
            rw [scanF_cons, hl]
            dsimp only
            rw [if_pos h99, if_pos ht]
          rcases scan_to first r (i + 1) [] (o0 ++ [deed]) (i + 1) out used h with ⟨e1, e2⟩ | ⟨e1, e2, e3⟩
          · refine ⟨by omega, by rw [List.length_cons]; omega, fun L' hL => ?_⟩
            have e : used - i = 0 + 1 := by omega
            rw [e] at hL ⊢
            obtain ⟨r', rfl, _⟩ := head L' 0 hL
            rw [step, e1, e2]
            rfl
          · refine ⟨by omega, by rw [List.length_cons]; omega, fun L' hL => ?_⟩
            have e : used - i = used - (i + 1) + 1 := by omega
            rw [e] at hL ⊢
            obtain ⟨r', rfl, h2⟩ := head L' _ hL
            rw [step, e3 r' h2]
            rfl
        · rw [if_neg ht] at h
          exact .inl (last h)
      · rw [if_neg h99] at h
        cases hg : chGood t with
        | none => rw [hg] at h; exact .inl (last h)
        | some c =>
          rw [hg] at h
          have step : ∀ r', scanF first (s :: r') i deed o0 nx = scanF first r' (i + 1) (deed ++ [c]) o0 nx := fun r' => by
            rw [scanF_cons, hl]
            dsimp only
            rw [if_neg h99, hg]
          rcases scan_to first r (i + 1) (deed ++ [c]) o0 nx out used h with e | ⟨e1, e2, e3⟩
          · exact .inl e
          · right
            refine ⟨by omega, by rw [List.length_cons]; omega, fun L' hL => ?_⟩
            have e : used - i = used - (i + 1) + 1 := by omega
            rw [e] at hL ⊢
            obtain ⟨r', rfl, h2⟩ := head L' _ hL
            rw [step, e3 r' h2]
            rfl
theorem scan_from {first : Nat} {L : List Str} {out : List (List Ch)} {used : Nat} (h : scanF first L 0 [] [] 0 = (out, used)) : used ≤ L.length ∧ ∀ L' : List Str, L'.take used = L.take used → scanF first L' 0 [] [] 0 = scanF first (L'.drop used) used [] out used := by
  rcases scan_to first L 0 [] [] 0 out used h with ⟨e1, e2⟩ | ⟨e1, e2, e3⟩
  · subst e1; subst e2
    exact ⟨Nat.zero_le _, fun L' _ => rfl⟩
  · exact ⟨by simpa using e2, fun L' hL => by simpa using e3 L' (by simpa using hL)⟩
/-- The sectors of the changes. -/
def osec (n : Nat) : List Ch → List Str
  | [] => []
  | c :: r => full (textF 111 n (chEnc c)) :: osec (n + 1) r
theorem osec_len (n : Nat) (c : List Ch) : (osec n c).length = c.length := by
  induction c generalizing n with
  | nil => rfl
  | cons a r ih => simp [osec, ih]
theorem osec_get (n : Nat) (c : List Ch) (k : Nat) : (osec n c)[k]? = (c[k]?).map fun x => full (textF 111 (n + k) (chEnc x)) := by
  induction c generalizing n k with
  | nil => simp [osec]
  | cons a r ih =>
    cases k with
    | zero => rfl
    | succ k =>
      show (osec (n + 1) r)[k]? = (r[k]?).map _
      rw [ih, show n + 1 + k = n + (k + 1) by omega]
theorem enc_le {c : Ch} (h : chBad c = 0) : (chEnc c).length ≤ 312 := by
  have h1 := chBad_key h
  have h2 := chBad_val h
  have h3 : (chEnc c).length = c.1.length + c.2.1.length + 2 := by unfold chEnc; simp only [List.length_cons, List.length_append]
  omega
theorem scan_os (first : Nat) : ∀ (c : List Ch) (hb : ∀ x ∈ c, chBad x = 0) (rest : List Str) (i : Nat) (deed : List Ch) (out : List (List Ch)) (nx : Nat), scanF first (osec (first + i) c ++ rest) i deed out nx = scanF first rest (i + c.length) (deed ++ c) out nx
  | [], _, rest, i, deed, out, nx => by simp [osec]
  | a :: r, hb, rest, i, deed, out, nx => by
    have ha := hb a (by simp)
    show scanF first (full (textF 111 (first + i) (chEnc a)) :: (osec (first + i + 1) r ++ rest)) i deed out nx = _
    rw [scanF_cons, lookF_text (.inl rfl) (first + i) (chEnc a) (by have := enc_le ha; omega)]
    dsimp only
    rw [if_neg (by decide), chGood_enc ha]
    dsimp only
    have := scan_os first r (fun x hx => hb x (List.mem_cons_of_mem _ hx)) rest (i + 1) (deed ++ [a]) out nx
    rw [show first + (i + 1) = first + i + 1 by omega] at this
    rw [this, List.length_cons, List.append_assoc, show i + 1 + r.length = i + (r.length + 1) by omega]
    rfl
theorem scan_close (first i : Nat) (deed : List Ch) (rest : List Str) (out : List (List Ch)) (nx : Nat) : scanF first (full (textF 99 (first + i) (fourF deed.length)) :: rest) i deed out nx = scanF first rest (i + 1) [] (out ++ [deed]) (i + 1) := by
  rw [scanF_cons, lookF_text (.inr rfl) _ _ (by rw [fourF_len]; omega)]
  dsimp only
  rw [if_pos rfl, if_pos rfl]
theorem scan_zero (first i : Nat) (deed : List Ch) (rest : List Str) (out : List (List Ch)) (nx : Nat) : scanF first (full [] :: rest) i deed out nx = (out, nx) := by
  rw [scanF_cons, lookF_zero]
/-- No sector closes anything: nothing is read. -/
theorem scan_open (first : Nat) : ∀ (L : List Str) (i : Nat) (deed : List Ch) (out : List (List Ch)) (nx : Nat), (∀ k s t, L[k]? = some s → lookF s (first + (i + k)) ≠ some (99, t)) → scanF first L i deed out nx = (out, nx)
  | [], _, _, _, _, _ => rfl
  | s :: r, i, deed, out, nx, h => by
    rw [scanF_cons]
    cases hl : lookF s (first + i) with
    | none => rfl
    | some kt =>
      obtain ⟨k, t⟩ := kt
      dsimp only
      by_cases h99 : k = 99
      · exact absurd (show lookF s (first + (i + 0)) = some (99, t) by rw [Nat.add_zero, hl, h99]) (h 0 s t rfl)
      · rw [if_neg h99]
        cases chGood t with
        | none => rfl
        | some c =>
          exact scan_open first r (i + 1) _ out nx fun k s' t' hk => by
            have := h (k + 1) s' t' (by simpa using hk)
            rwa [show i + (k + 1) = i + 1 + k by omega] at this
/- The plain law of logs: what Add leaves on a disk that does not fall. No program. -/
theorem bad_false {d : Dk} {p : Nat} {s : Str} (hp : p < d.now.length) (hs : s.length ≤ 340) : d.bad (p : Int) s = false := by
  unfold Dk.bad
  exact decide_eq_false (by omega)
theorem wr_good {d : Dk} (hdn : d.down = false) (hfu : d.fuse = -1) {p : Nat} {s : Str} (hp : p < d.now.length) (hs : s.length ≤ 340) :
    d.wr (p : Int) s = { d with now := d.now.set p (full s), wait := d.wait ++ [(p, full s)] } ∧ d.wrF (p : Int) s = 0 := by
  have hf : d.falls = false := by unfold Dk.falls; rw [hdn, hfu]; rfl
  have hst : d.stepped = d := by
    unfold Dk.stepped
    rw [hdn, hfu]
    simp only [Bool.false_eq_true, if_false]
    rw [if_neg (by decide)]
    obtain ⟨k, n, w, f, dn⟩ := d
    simp only at hdn hfu
    subst hdn; subst hfu
    rfl
  refine ⟨?_, ?_⟩
  · unfold Dk.wr
    rw [bad_false hp hs, hf, hst]
    rfl
  · unfold Dk.wrF
    rw [bad_false hp hs, hf]
    rfl
theorem fl_good {d : Dk} (hdn : d.down = false) (hfu : d.fuse = -1) : d.fl = { d with kept := d.now, wait := [] } ∧ d.flF = 0 := by
  have hf : d.falls = false := by unfold Dk.falls; rw [hdn, hfu]; rfl
  have hst : d.stepped = d := by
    unfold Dk.stepped
    rw [hdn, hfu]
    simp only [Bool.false_eq_true, if_false]
    rw [if_neg (by decide)]
    obtain ⟨k, n, w, f, dn⟩ := d
    simp only at hdn hfu
    subst hdn; subst hfu
    rfl
  refine ⟨?_, ?_⟩
  · unfold Dk.fl
    rw [hf, hst]
    rfl
  · unfold Dk.flF
    rw [hf]
    rfl
/-- A disk that does not fall. -/
structure Dk.Up (d : Dk) : Prop where
  dn : d.down = false
  fu : d.fuse = -1
  wide : ∀ s ∈ d.now, s.length = 340
theorem set_wide {N : List Str} (h : ∀ s ∈ N, s.length = 340) {p : Nat} {x : Str} (hx : x.length = 340) : ∀ s ∈ N.set p x, s.length = 340 := fun s hs => by
  rcases List.mem_or_eq_of_mem_set hs with h1 | h1
  · exact h s h1
  · rw [h1]; exact hx
theorem layD_up : ∀ (c : List Ch) (p n : Nat) (d : Dk), d.Up → p + c.length ≤ d.now.length → (∀ x ∈ c, chBad x = 0) →
    ∃ d', layD (p : Int) n c d = (d', 0) ∧ d'.Up ∧ d'.now.length = d.now.length ∧ ∀ i, d'.now[i]? = if p ≤ i ∧ i < p + c.length then (osec n c)[i - p]? else d.now[i]?
  | [], p, n, d, hu, _, _ => ⟨d, rfl, hu, rfl, fun i => by rw [if_neg (by simp)]⟩
  | a :: r, p, n, d, hu, hl, hb => by
    rw [List.length_cons] at hl
    have ha := enc_le (hb a (by simp))
    have htl := textF_len 111 n (chEnc a)
    obtain ⟨h1, h2⟩ := wr_good hu.dn hu.fu (p := p) (s := textF 111 n (chEnc a)) (by omega) (by omega)
    have hfl : (full (textF 111 n (chEnc a))).length = 340 := length_full _ (by omega)
    rw [layD_cons, h2, if_pos rfl, h1]
    have hu1 : ({ d with now := d.now.set p (full (textF 111 n (chEnc a))), wait := d.wait ++ [(p, full (textF 111 n (chEnc a)))] } : Dk).Up := ⟨hu.dn, hu.fu, set_wide hu.wide hfl⟩
    obtain ⟨d', e1, e2, e3, e4⟩ := layD_up r (p + 1) (n + 1) _ hu1 (by simp only [List.length_set]; omega) (fun x hx => hb x (List.mem_cons_of_mem _ hx))
    refine ⟨d', by rw [← e1]; rfl, e2, by rw [e3]; simp, fun i => ?_⟩
    rw [e4, List.length_cons]
    by_cases hi : p + 1 ≤ i ∧ i < p + 1 + r.length
    · rw [if_pos hi, if_pos (by omega)]
      have : i - p = i - (p + 1) + 1 := by omega
      rw [this]
      rfl
    · rw [if_neg hi]
      by_cases hip : i = p
      · subst hip
        rw [if_pos (by omega), Nat.sub_self]
        show (d.now.set i _)[i]? = some _
        rw [List.getElem?_set_self (by omega)]
      · rw [if_neg (by omega)]
        show (d.now.set p _)[i]? = _
        rw [List.getElem?_set_ne (by omega)]
theorem list_pre {α : Type} {X Y : List α} (h : ∀ k, k < Y.length → X[k]? = Y[k]?) : X = Y ++ X.drop Y.length := by
  have : X.take Y.length = Y := by
    apply List.ext_getElem?
    intro k
    by_cases hk : k < Y.length
    · rw [List.getElem?_take_of_lt hk, h k hk]
    · rw [List.getElem?_eq_none (by rw [List.length_take]; omega), List.getElem?_eq_none (by omega)]
  rw [← this]
  rw [List.length_take]
  conv => lhs; rw [← List.take_append_drop Y.length X]
  rw [this]
  congr 1
  by_cases hx : Y.length ≤ X.length
  · rw [Nat.min_eq_left hx]
  · rw [Nat.min_eq_right (by omega), List.drop_of_length_le (by omega), List.drop_of_length_le (Nat.le_refl _)]
abbrev reg (l : LogR) (N : List Str) : List Str := (N.drop l.from_).take l.many
theorem reg_get {l : LogR} {N : List Str} {k : Nat} (hk : k < l.many) : (reg l N)[k]? = N[l.from_ + k]? := by
  rw [List.getElem?_take_of_lt hk, List.getElem?_drop]
theorem reg_len {l : LogR} {N : List Str} (h : l.from_ + l.many ≤ N.length) : (reg l N).length = l.many := by
  rw [List.length_take, List.length_drop]; omega
/-- What the sectors of a log come to when an entry stands behind the others. -/
theorem scan_added {l : LogR} {N N' : List Str} {c : List Ch} {out : List (List Ch)} (hr : l.from_ + l.many ≤ N.length) (hr' : N'.length = N.length) (hs : scanF l.first (reg l N) 0 [] [] 0 = (out, l.next)) (hc : ∀ x ∈ c, chBad x = 0) (hroom : l.next + c.length + 1 ≤ l.many)
    (h1 : ∀ k, k < l.next → N'[l.from_ + k]? = N[l.from_ + k]?) (h2 : ∀ k, k < c.length → N'[l.from_ + (l.next + k)]? = (osec (l.first + l.next) c)[k]?) (h3 : N'[l.from_ + (l.next + c.length)]? = some (full (textF 99 (l.first + (l.next + c.length)) (fourF c.length))))
    (h4 : l.next + c.length + 1 < l.many → N'[l.from_ + (l.next + c.length + 1)]? = some (full [])) : scanF l.first (reg l N') 0 [] [] 0 = (out ++ [c], l.next + c.length + 1) := by
  obtain ⟨e1, e2⟩ := scan_from hs
  have hl := reg_len hr
  have hl' : (reg l N').length = l.many := reg_len (by omega)
  rw [e2 (reg l N') (by
    apply List.ext_getElem?
    intro k
    by_cases hk : k < l.next
    · rw [List.getElem?_take_of_lt hk, List.getElem?_take_of_lt hk, reg_get (by omega), reg_get (by omega), h1 k hk]
    · rw [List.getElem?_eq_none (by rw [List.length_take]; omega), List.getElem?_eq_none (by rw [List.length_take]; omega)])]
  have hX : (reg l N').drop l.next = osec (l.first + l.next) c ++ ((reg l N').drop l.next).drop c.length := by
    have := list_pre (X := (reg l N').drop l.next) (Y := osec (l.first + l.next) c) (fun k hk => by
      rw [osec_len] at hk
      rw [List.getElem?_drop, reg_get (by omega), h2 k hk])
    rwa [osec_len] at this
  rw [hX, scan_os l.first c hc]
  have hcs : ((reg l N').drop l.next).drop c.length = full (textF 99 (l.first + (l.next + c.length)) (fourF c.length)) :: (reg l N').drop (l.next + c.length + 1) := by
    rw [List.drop_drop]
    have : (reg l N')[l.next + c.length]? = some (full (textF 99 (l.first + (l.next + c.length)) (fourF c.length))) := by rw [reg_get (by omega), h3]
    exact drop_at this
  rw [hcs]
  have hcl := scan_close l.first (l.next + c.length) ([] ++ c) ((reg l N').drop (l.next + c.length + 1)) out l.next
  rw [List.nil_append] at hcl ⊢
  rw [hcl]
  by_cases hm : l.next + c.length + 1 < l.many
  · have : (reg l N')[l.next + c.length + 1]? = some (full []) := by rw [reg_get hm, h4 hm]
    rw [drop_at this, scan_zero]
  · rw [List.drop_of_length_le (by omega)]
    rfl
/-- Add on a disk that does not fall. -/
theorem add_up {l : LogR} {c : List Ch} {d : Dk} {out : List (List Ch)} (hu : d.Up) (hr : l.from_ + l.many ≤ d.now.length) (hs : scanF l.first (reg l d.now) 0 [] [] 0 = (out, l.next)) (hc : chkA c = 0) (h40 : c.length ≤ 40) (hroom : l.next + c.length + 1 ≤ l.many) :
    ∃ d', addF l c d = (({ l with next := l.next + c.length + 1 }, d'), 0) ∧ d'.Up ∧ d'.now.length = d.now.length ∧ d'.wait = [] ∧ d'.kept = d'.now ∧ scanF l.first (reg l d'.now) 0 [] [] 0 = (out ++ [c], l.next + c.length + 1) ∧ ∀ i, i < l.from_ ∨ l.from_ + l.many ≤ i → d'.now[i]? = d.now[i]? := by
  have hcb : ∀ x ∈ c, chBad x = 0 := by
    clear hs h40 hroom
    induction c with
    | nil => intro x hx; cases hx
    | cons a r ih =>
      unfold chkA at hc
      split at hc
      · rename_i ha
        intro x hx
        rcases List.mem_cons.1 hx with e | hx
        · rw [e]; exact ha
        · exact ih hc x hx
      · rename_i ha
        exact absurd hc ha
  obtain ⟨d1, e1, u1, n1, g1⟩ := layD_up c (l.from_ + l.next) (l.first + l.next) d hu (by omega) hcb
  -- the blank behind
  obtain ⟨d2, e2, u2, n2, g2⟩ : ∃ d2, layEnd l c.length d1 = (d2, 0) ∧ d2.Up ∧ d2.now.length = d1.now.length ∧ ∀ i, d2.now[i]? = if l.next + c.length + 1 < l.many ∧ i = l.from_ + (l.next + c.length + 1) then some (full []) else d1.now[i]? := by
    unfold layEnd
    by_cases hm : l.next + c.length + 1 < l.many
    · rw [if_pos hm]
      obtain ⟨h1, h2⟩ := wr_good u1.dn u1.fu (p := l.from_ + (l.next + c.length + 1)) (s := []) (by omega) (by simp)
      rw [h1, h2]
      refine ⟨_, rfl, ⟨u1.dn, u1.fu, set_wide u1.wide (length_full [] (by simp))⟩, by simp, fun i => ?_⟩
      by_cases hi : i = l.from_ + (l.next + c.length + 1)
      · rw [if_pos ⟨hm, hi⟩, hi]
        exact List.getElem?_set_self (by omega)
      · rw [if_neg fun h => hi h.2]
        exact List.getElem?_set_ne (by omega)
    · rw [if_neg hm]
      exact ⟨d1, rfl, u1, rfl, fun i => by rw [if_neg fun h => hm h.1]⟩
  have hlay : layF l c d = (d2, 0) := by
    unfold layF
    rw [e1]
    dsimp only
    rw [if_pos rfl, e2]
  obtain ⟨f1, f2⟩ := fl_good u2.dn u2.fu
  have htl := textF_len 99 (l.first + (l.next + c.length)) (fourF c.length)
  rw [fourF_len] at htl
  have u3 : (d2.fl).Up := by rw [f1]; exact ⟨u2.dn, u2.fu, u2.wide⟩
  have hn3 : d2.fl.now = d2.now := by rw [f1]
  obtain ⟨w1, w2⟩ := wr_good u3.dn u3.fu (p := l.from_ + (l.next + c.length)) (s := textF 99 (l.first + (l.next + c.length)) (fourF c.length)) (by rw [hn3]; omega) (by omega)
  have hcl : closeF l c.length d2.fl = ({ d2.fl with now := d2.fl.now.set (l.from_ + (l.next + c.length)) (full (textF 99 (l.first + (l.next + c.length)) (fourF c.length))), wait := d2.fl.wait ++ [(l.from_ + (l.next + c.length), full (textF 99 (l.first + (l.next + c.length)) (fourF c.length)))] }, 0) := by
    unfold closeF
    rw [w1, w2]
  obtain ⟨d4, hd4⟩ : ∃ d4 : Dk, d4 = { d2.fl with now := d2.fl.now.set (l.from_ + (l.next + c.length)) (full (textF 99 (l.first + (l.next + c.length)) (fourF c.length))), wait := d2.fl.wait ++ [(l.from_ + (l.next + c.length), full (textF 99 (l.first + (l.next + c.length)) (fourF c.length)))] } := ⟨_, rfl⟩
  rw [← hd4] at hcl
  have u4 : d4.Up := by rw [hd4]; exact ⟨u3.dn, u3.fu, set_wide u3.wide (length_full _ (by omega))⟩
  have hn4 : d4.now = d2.now.set (l.from_ + (l.next + c.length)) (full (textF 99 (l.first + (l.next + c.length)) (fourF c.length))) := by rw [hd4, ← hn3]
  obtain ⟨f3, f4⟩ := fl_good u4.dn u4.fu
  have G : ∀ i, i ≠ l.from_ + (l.next + c.length) → d4.now[i]? = d2.now[i]? := fun i hi => by rw [hn4]; exact List.getElem?_set_ne (by omega)
  refine ⟨d4.fl, ?_, ?_, ?_, ?_, ?_, ?_, fun i hi => ?_⟩
  · unfold addF
    rw [if_neg (by omega), if_neg (by omega), hc, if_neg (fun h => h rfl), hlay]
    dsimp only
    rw [if_neg (fun h => h rfl), f2, if_neg (fun h => h rfl), hcl]
    dsimp only
    rw [if_neg (fun h => h rfl), f4, if_neg (fun h => h rfl)]
  · rw [f3]; exact ⟨u4.dn, u4.fu, u4.wide⟩
  · rw [f3]; show d4.now.length = _; rw [hn4, List.length_set, n2, n1]
  · rw [f3]
  · rw [f3]
  · rw [f3]
    show scanF l.first (reg l d4.now) 0 [] [] 0 = _
    refine scan_added hr (by rw [hn4, List.length_set, n2, n1]) hs hcb hroom (fun k hk => ?_) (fun k hk => ?_) ?_ (fun hm => ?_)
    · rw [G _ (by omega), g2, if_neg (by omega), g1, if_neg (by omega)]
    · rw [G _ (by omega), g2, if_neg (by omega), g1, if_pos (by omega)]
      congr 1
      omega
    · rw [hn4]
      exact List.getElem?_set_self (by omega)
    · rw [G _ (by omega), g2, if_pos ⟨hm, rfl⟩]
  · rw [f3]
    show d4.now[i]? = _
    rw [G _ (by omega), g2, if_neg (by omega), g1, if_neg (by omega)]
/-- What Add answers where it writes nothing. -/
theorem add_bad {l : LogR} {c : List Ch} {d : Dk} (h : 40 < c.length ∨ l.many - l.next < c.length + 1 ∨ chkA c ≠ 0) : addF l c d = ((l, d), if 40 < c.length then 2 else if l.many - l.next < c.length + 1 then 10 else chkA c) := by
  unfold addF
  by_cases h1 : 40 < c.length
  · rw [if_pos h1, if_pos h1]
  · rw [if_neg h1, if_neg h1]
    by_cases h2 : l.many - l.next < c.length + 1
    · rw [if_pos h2, if_pos h2]
    · rw [if_neg h2, if_neg h2]
      have h3 : chkA c ≠ 0 := by
        rcases h with h | h | h
        · exact absurd h h1
        · exact absurd h h2
        · exact h
      rw [if_pos h3]
end Go.Proofs.Ytaphmmobmadfoaa
