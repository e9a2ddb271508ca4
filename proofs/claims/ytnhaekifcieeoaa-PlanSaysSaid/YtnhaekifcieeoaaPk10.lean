/- Put together: Uni, Pl0, Rfd, Rvf. -/
import Derived.Test.YtnhaekifcieeoaaPk01
import Derived.Test.YtnhaekifcieeoaaPk05
import Derived.Test.YtnhaekifcieeoaaPk02
import Derived.Lib.IndexLaws
import Derived.Lib.IndexMore
import Derived.Test.YtnhaekifcieeoaaPk04
namespace Go.Proofs.Ytnhaekifcieeoaa
open Go Go.RowKit
abbrev Edge := Nat × Nat
inductive Conn (E : List Edge) (x : Nat) : Nat → Prop
  | here : Conn E x x
  | down {y z : Nat} : Conn E x y → (y, z) ∈ E → Conn E x z
  | up {y z : Nat} : Conn E x y → (z, y) ∈ E → Conn E x z
section
variable {E F : List Edge}
theorem Conn.trans {x y z : Nat} (h : Conn E x y) (k : Conn E y z) : Conn E x z := by
  induction k with
  | here => exact h
  | down _ e ih => exact ih.down e
  | up _ e ih => exact ih.up e
theorem Conn.symm {x y : Nat} (h : Conn E x y) : Conn E y x := by
  induction h with
  | here => exact .here
  | down _ e ih => exact (Conn.here.up e).trans ih
  | up _ e ih => exact (Conn.here.down e).trans ih
theorem Conn.more {x y : Nat} (h : Conn E x y) (hs : ∀ e ∈ E, e ∈ F) : Conn F x y := by
  induction h with
  | here => exact .here
  | down _ e ih => exact ih.down (hs _ e)
  | up _ e ih => exact ih.up (hs _ e)
end
def Least (E : List Edge) (x m : Nat) : Prop := Conn E x m ∧ ∀ y, Conn E x y → m ≤ y
theorem Least.uniq {E : List Edge} {x m k : Nat} (h : Least E x m) (h' : Least E x k) : m = k := Nat.le_antisymm (h.2 k h'.1) (h'.2 m h.1)
def rootF (up : List Nat) : Nat → Nat → Nat
  | 0, i => i
  | f + 1, i => if up.getD i 0 = i then i else rootF up f (up.getD i 0)
def rootA (up : List Nat) (i : Nat) : Nat := rootF up i i
def uniF (up : List Nat) (e : Edge) : List Nat := up.set (max (rootA up e.1) (rootA up e.2)) (min (rootA up e.1) (rootA up e.2))
def Low (up : List Nat) : Prop := ∀ i, i < up.length → up.getD i 0 ≤ i
theorem rootF_enough {up : List Nat} (h : Low up) : ∀ (f i : Nat), i ≤ f → i < up.length → rootF up f i = rootF up i i ∧ rootF up f i ≤ i ∧ up.getD (rootF up f i) 0 = rootF up f i
  | 0, i, hi, hl => by
    obtain rfl : i = 0 := by omega
    have := h 0 hl
    exact ⟨rfl, Nat.le_refl _, by show up.getD 0 0 = 0; omega⟩
  | f + 1, i, hi, hl => by
    have h1 := h i hl
    by_cases he : up.getD i 0 = i
    · have e1 : rootF up (f + 1) i = i := by unfold rootF; rw [if_pos he]
      have e2 : rootF up i i = i := by
        cases i with
        | zero => rfl
        | succ j => unfold rootF; rw [if_pos he]
      rw [e1, e2]
      exact ⟨rfl, Nat.le_refl _, he⟩
    · have e1 : rootF up (f + 1) i = rootF up f (up.getD i 0) := by conv => lhs; unfold rootF
                                                                    rw [if_neg he]
      obtain ⟨k1, k2, k3⟩ := rootF_enough h f (up.getD i 0) (by omega) (by omega)
      cases i with
      | zero => omega
      | succ j =>
        have e2 : rootF up (j + 1) (j + 1) = rootF up j (up.getD (j + 1) 0) := by conv => lhs; unfold rootF
                                                                                  rw [if_neg he]
        obtain ⟨j1, _, _⟩ := rootF_enough h j (up.getD (j + 1) 0) (by omega) (by omega)
        rw [e1, e2, k1, j1]
        rw [k1] at k2 k3
        exact ⟨rfl, by omega, k3⟩
  termination_by f => f
theorem rootA_le {up : List Nat} (h : Low up) {i : Nat} (hl : i < up.length) : rootA up i ≤ i := (rootF_enough h i i (Nat.le_refl _) hl).2.1
theorem rootA_fix {up : List Nat} (h : Low up) {i : Nat} (hl : i < up.length) : up.getD (rootA up i) 0 = rootA up i := (rootF_enough h i i (Nat.le_refl _) hl).2.2
theorem rootA_step {up : List Nat} (h : Low up) {i : Nat} (hl : i < up.length) : rootA up i = if up.getD i 0 = i then i else rootA up (up.getD i 0) := by
  have h1 := h i hl
  unfold rootA
  cases i with
  | zero =>
    have : up.getD 0 0 = 0 := by omega
    rw [if_pos this]; rfl
  | succ j =>
    conv => lhs; unfold rootF
    by_cases he : up.getD (j + 1) 0 = j + 1
    · rw [if_pos he, if_pos he]
    · rw [if_neg he, if_neg he]
      exact (rootF_enough h j (up.getD (j + 1) 0) (by omega) (by omega)).1
theorem rootA_of {up : List Nat} {i : Nat} (he : up.getD i 0 = i) : rootA up i = i := by
  unfold rootA
  cases i with
  | zero => rfl
  | succ j => unfold rootF; rw [if_pos he]
theorem rootA_root {up : List Nat} (h : Low up) {i : Nat} (hl : i < up.length) : rootA up (rootA up i) = rootA up i := rootA_of (rootA_fix h hl)
theorem getD_set {up : List Nat} {a b i : Nat} (ha : a < up.length) : (up.set a b).getD i 0 = if i = a then b else up.getD i 0 := by
  rw [List.getD_eq_getElem?_getD, List.getD_eq_getElem?_getD, List.getElem?_set]
  by_cases h : a = i
  · subst h; simp [ha]
  · rw [if_neg h, if_neg (fun e => h e.symm)]
theorem rootA_hang {up : List Nat} (h : Low up) {a b : Nat} (ha : a < up.length) (hb : b < up.length) (ra : up.getD a 0 = a) (rb : up.getD b 0 = b) (hab : a ≤ b) :
    Low (up.set b a) ∧ ∀ i, i < up.length → rootA (up.set b a) i = if rootA up i = b then a else rootA up i := by
  have hL : Low (up.set b a) := fun i hi => by
    rw [getD_set hb]
    rw [List.length_set] at hi
    split
    · omega
    · exact h i hi
  refine ⟨hL, fun i => ?_⟩
  induction i using Nat.strongRecOn with
  | ind i ih =>
    intro hi
    have hi' : i < (up.set b a).length := by rw [List.length_set]; exact hi
    by_cases he : up.getD i 0 = i
    · rw [rootA_of he]
      by_cases hib : i = b
      · subst hib
        rw [if_pos rfl, rootA_step hL hi', getD_set hb, if_pos rfl]
        split
        · omega
        · rename_i hne
          rw [ih a (by omega) ha, rootA_of ra]
          split <;> omega
      · rw [if_neg hib]
        refine rootA_of ?_
        rw [getD_set hb, if_neg hib]; exact he
    · have hlt : up.getD i 0 < i := Nat.lt_of_le_of_ne (h i hi) he
      have hib : i ≠ b := by rintro rfl; exact he rb
      rw [rootA_step hL hi', getD_set hb, if_neg hib, if_neg he, ih _ hlt (by omega), rootA_step h hi, if_neg he]
structure UpOk (E : List Edge) (up : List Nat) : Prop where
  low : Low up
  edge : ∀ e ∈ E, e.1 < up.length ∧ e.2 < up.length
  iff : ∀ x y, x < up.length → y < up.length → (rootA up x = rootA up y ↔ Conn E x y)
theorem Conn.lt {E : List Edge} {n : Nat} (he : ∀ e ∈ E, e.1 < n ∧ e.2 < n) {x y : Nat} (h : Conn E x y) (hx : x < n) : y < n := by
  induction h with
  | here => exact hx
  | down _ e _ => exact (he _ e).2
  | up _ e _ => exact (he _ e).1
theorem UpOk.least {E : List Edge} {up : List Nat} (h : UpOk E up) {x : Nat} (hx : x < up.length) : Least E x (rootA up x) := by
  have hr : rootA up x < up.length := Nat.lt_of_le_of_lt (rootA_le h.low hx) hx
  refine ⟨(h.iff x _ hx hr).1 (rootA_root h.low hx).symm, fun y hy => ?_⟩
  have hyl := hy.lt h.edge hx
  rw [(h.iff x y hx hyl).2 hy]
  exact rootA_le h.low hyl
theorem UpOk.new {E : List Edge} {up : List Nat} (h : UpOk E up) : UpOk E (up ++ [up.length]) := by
  have hget : ∀ i, i < up.length → (up ++ [up.length]).getD i 0 = up.getD i 0 := fun i hi => by
    rw [List.getD_eq_getElem?_getD, List.getD_eq_getElem?_getD, List.getElem?_append_left hi]
  have hlast : (up ++ [up.length]).getD up.length 0 = up.length := by simp [List.getD_eq_getElem?_getD]
  have hL : Low (up ++ [up.length]) := fun i hi => by
    rw [List.length_append, List.length_singleton] at hi
    rcases Nat.lt_or_ge i up.length with hlt | hge
    · rw [hget i hlt]; exact h.low i hlt
    · obtain rfl : i = up.length := by omega
      rw [hlast]; exact Nat.le_refl _
  have hroot : ∀ i, i < up.length → rootA (up ++ [up.length]) i = rootA up i := by
    intro i
    induction i using Nat.strongRecOn with
    | ind i ih =>
      intro hi
      have hi' : i < (up ++ [up.length]).length := by rw [List.length_append]; omega
      rw [rootA_step hL hi', rootA_step h.low hi, hget i hi]
      by_cases he : up.getD i 0 = i
      · rw [if_pos he, if_pos he]
      · rw [if_neg he, if_neg he]
        have := h.low i hi
        exact ih _ (by omega) (by omega)
  have hlr : rootA (up ++ [up.length]) up.length = up.length := rootA_of hlast
  refine ⟨hL, fun e he => by have := h.edge e he; rw [List.length_append]; omega, fun x y hx hy => ?_⟩
  rw [List.length_append, List.length_singleton] at hx hy
  rcases Nat.lt_or_ge x up.length with hxl | hxl
  · rcases Nat.lt_or_ge y up.length with hyl | hyl
    · rw [hroot x hxl, hroot y hyl]; exact h.iff x y hxl hyl
    · obtain rfl : y = up.length := by omega
      rw [hroot x hxl, hlr]
      constructor
      · intro e; have := rootA_le h.low hxl; omega
      · intro c; have := c.lt h.edge hxl; omega
  · obtain rfl : x = up.length := by omega
    rcases Nat.lt_or_ge y up.length with hyl | hyl
    · rw [hroot y hyl, hlr]
      constructor
      · intro e; have := rootA_le h.low hyl; omega
      · intro c; have := c.symm.lt h.edge hyl; omega
    · obtain rfl : y = up.length := by omega
      exact ⟨fun _ => .here, fun _ => rfl⟩
theorem Conn.one {E : List Edge} {e : Edge} {x y : Nat} (h : Conn (E ++ [e]) x y) : Conn E x y ∨ (Conn E x e.1 ∧ Conn E e.2 y) ∨ (Conn E x e.2 ∧ Conn E e.1 y) := by
  induction h with
  | here => exact .inl .here
  | down _ he ih =>
    rcases List.mem_append.1 he with he | he
    · rcases ih with h1 | ⟨h1, h2⟩ | ⟨h1, h2⟩
      · exact .inl (h1.down he)
      · exact .inr (.inl ⟨h1, h2.down he⟩)
      · exact .inr (.inr ⟨h1, h2.down he⟩)
    · have he := List.mem_singleton.1 he
      subst he
      rcases ih with h1 | ⟨h1, h2⟩ | ⟨h1, h2⟩
      · exact .inr (.inl ⟨h1, .here⟩)
      · exact .inr (.inl ⟨h1, .here⟩)
      · exact .inl h1
  | up _ he ih =>
    rcases List.mem_append.1 he with he | he
    · rcases ih with h1 | ⟨h1, h2⟩ | ⟨h1, h2⟩
      · exact .inl (h1.up he)
      · exact .inr (.inl ⟨h1, h2.up he⟩)
      · exact .inr (.inr ⟨h1, h2.up he⟩)
    · have he := List.mem_singleton.1 he
      subst he
      rcases ih with h1 | ⟨h1, h2⟩ | ⟨h1, h2⟩
      · exact .inr (.inr ⟨h1, .here⟩)
      · exact .inl h1
      · exact .inr (.inr ⟨h1, .here⟩)
theorem UpOk.uni {E : List Edge} {up : List Nat} (h : UpOk E up) {e : Edge} (h1 : e.1 < up.length) (h2 : e.2 < up.length) : UpOk (E ++ [e]) (uniF up e) := by
  have l1 := rootA_le h.low h1
  have l2 := rootA_le h.low h2
  have f1 := rootA_fix h.low h1
  have f2 := rootA_fix h.low h2
  have mlt : max (rootA up e.1) (rootA up e.2) < up.length := by omega
  have key := rootA_hang h.low (a := min (rootA up e.1) (rootA up e.2)) (b := max (rootA up e.1) (rootA up e.2)) (by omega) mlt
    (by rcases Nat.le_total (rootA up e.1) (rootA up e.2) with hl | hl
        · rw [Nat.min_eq_left hl]; exact f1
        · rw [Nat.min_eq_right hl]; exact f2)
    (by rcases Nat.le_total (rootA up e.1) (rootA up e.2) with hl | hl
        · rw [Nat.max_eq_right hl]; exact f2
        · rw [Nat.max_eq_left hl]; exact f1) (by omega)
  have hmore : ∀ {x y}, Conn E x y → Conn (E ++ [e]) x y := fun h => h.more fun _ hm => List.mem_append_left _ hm
  refine ⟨key.1, fun d hd => ?_, fun x y hx hy => ?_⟩
  · unfold uniF
    rw [List.length_set]
    rcases List.mem_append.1 hd with hd | hd
    · exact h.edge d hd
    · obtain rfl := List.mem_singleton.1 hd
      exact ⟨h1, h2⟩
  · unfold uniF at hx hy
    rw [List.length_set] at hx hy
    have c1 : ∀ z, z < up.length → (rootA up z = rootA up e.1 ↔ Conn E z e.1) := fun z hz => h.iff z e.1 hz h1
    have c2 : ∀ z, z < up.length → (rootA up z = rootA up e.2 ↔ Conn E z e.2) := fun z hz => h.iff z e.2 hz h2
    have hnew : ∀ z, z < up.length → rootA (uniF up e) z = if rootA up z = rootA up e.1 ∨ rootA up z = rootA up e.2 then min (rootA up e.1) (rootA up e.2) else rootA up z := fun z hz => by
      show rootA (up.set _ _) z = _
      rw [key.2 z hz]
      rcases Nat.le_total (rootA up e.1) (rootA up e.2) with hl | hl
      · rw [Nat.max_eq_right hl, Nat.min_eq_left hl]
        by_cases ha : rootA up z = rootA up e.2
        · rw [if_pos ha, if_pos (.inr ha)]
        · rw [if_neg ha]
          by_cases hb : rootA up z = rootA up e.1
          · rw [if_pos (.inl hb)]; exact hb
          · rw [if_neg (fun hc => hc.elim hb ha)]
      · rw [Nat.max_eq_left hl, Nat.min_eq_right hl]
        by_cases ha : rootA up z = rootA up e.1
        · rw [if_pos ha, if_pos (.inl ha)]
        · rw [if_neg ha]
          by_cases hb : rootA up z = rootA up e.2
          · rw [if_pos (.inr hb)]; exact hb
          · rw [if_neg (fun hc => hc.elim ha hb)]
    rw [hnew x hx, hnew y hy]
    have hmin : min (rootA up e.1) (rootA up e.2) = rootA up e.1 ∨ min (rootA up e.1) (rootA up e.2) = rootA up e.2 := by omega
    have bridge : ∀ z, (rootA up z = rootA up e.1 ∨ rootA up z = rootA up e.2) → z < up.length → Conn (E ++ [e]) z e.1 := fun z hz hl => by
      rcases hz with hz | hz
      · exact hmore ((c1 z hl).1 hz)
      · exact (hmore ((c2 z hl).1 hz)).up (by simp)
    by_cases hX : rootA up x = rootA up e.1 ∨ rootA up x = rootA up e.2
    · by_cases hY : rootA up y = rootA up e.1 ∨ rootA up y = rootA up e.2
      · rw [if_pos hX, if_pos hY]
        exact ⟨fun _ => (bridge x hX hx).trans (bridge y hY hy).symm, fun _ => rfl⟩
      · rw [if_pos hX, if_neg hY]
        refine ⟨fun hc => ?_, fun hc => ?_⟩
        · exfalso
          rcases hmin with hm | hm
          · exact hY (.inl (hc.symm.trans hm))
          · exact hY (.inr (hc.symm.trans hm))
        · exfalso
          rcases hc.one with k | ⟨_, k⟩ | ⟨_, k⟩
          · have := (h.iff x y hx hy).2 k
            rcases hX with hX | hX
            · exact hY (.inl (this.symm.trans hX))
            · exact hY (.inr (this.symm.trans hX))
          · exact hY (.inr ((c2 y hy).2 k.symm))
          · exact hY (.inl ((c1 y hy).2 k.symm))
    · by_cases hY : rootA up y = rootA up e.1 ∨ rootA up y = rootA up e.2
      · rw [if_neg hX, if_pos hY]
        refine ⟨fun hc => ?_, fun hc => ?_⟩
        · exfalso
          rcases hmin with hm | hm
          · exact hX (.inl (hc.trans hm))
          · exact hX (.inr (hc.trans hm))
        · exfalso
          rcases hc.one with k | ⟨k, _⟩ | ⟨k, _⟩
          · have := (h.iff x y hx hy).2 k
            rcases hY with hY | hY
            · exact hX (.inl (this.trans hY))
            · exact hX (.inr (this.trans hY))
          · exact hX (.inl ((c1 x hx).2 k))
          · exact hX (.inr ((c2 x hx).2 k))
      · rw [if_neg hX, if_neg hY]
        refine ⟨fun hc => hmore ((h.iff x y hx hy).1 hc), fun hc => ?_⟩
        rcases hc.one with k | ⟨k, _⟩ | ⟨k, _⟩
        · exact (h.iff x y hx hy).2 k
        · exact absurd (.inl ((c1 x hx).2 k)) hX
        · exact absurd (.inr ((c2 x hx).2 k)) hX
def relaxF (mk : List Nat) (e : Edge) : List Nat := (mk.set e.1 (min (mk.getD e.1 0) (mk.getD e.2 0))).set e.2 (min (mk.getD e.1 0) (mk.getD e.2 0))
def sweepF (E : List Edge) (mk : List Nat) : List Nat := E.foldl relaxF mk
def sweepsF (E : List Edge) : Nat → List Nat → List Nat
  | 0, mk => mk
  | t + 1, mk => sweepsF E t (sweepF E mk)
theorem relaxF_get {mk : List Nat} {e : Edge} (h1 : e.1 < mk.length) (h2 : e.2 < mk.length) (i : Nat) : (relaxF mk e).getD i 0 = if i = e.1 ∨ i = e.2 then min (mk.getD e.1 0) (mk.getD e.2 0) else mk.getD i 0 := by
  unfold relaxF
  rw [getD_set (by rw [List.length_set]; exact h2), getD_set h1]
  by_cases ha : i = e.2
  · rw [if_pos ha, if_pos (.inr ha)]
  · rw [if_neg ha]
    by_cases hb : i = e.1
    · rw [if_pos hb, if_pos (.inl hb)]
    · rw [if_neg hb, if_neg (fun hc => hc.elim hb ha)]
structure MkOk (E : List Edge) (n : Nat) (mk : List Nat) : Prop where
  len : mk.length = n
  conn : ∀ i, i < n → Conn E i (mk.getD i 0)
theorem MkOk.relax {E : List Edge} {n : Nat} {mk : List Nat} (h : MkOk E n mk) {e : Edge} (he : e ∈ E) (h1 : e.1 < n) (h2 : e.2 < n) : MkOk E n (relaxF mk e) ∧ ∀ i, i < n → (relaxF mk e).getD i 0 ≤ mk.getD i 0 := by
  have hl := h.len
  have g := relaxF_get (mk := mk) (e := e) (by omega) (by omega)
  refine ⟨⟨by unfold relaxF; rw [List.length_set, List.length_set]; exact hl, fun i hi => ?_⟩, fun i hi => ?_⟩
  · rw [g i]
    split
    · rename_i hc
      have hm : min (mk.getD e.1 0) (mk.getD e.2 0) = mk.getD e.1 0 ∨ min (mk.getD e.1 0) (mk.getD e.2 0) = mk.getD e.2 0 := by omega
      have e12 : Conn E e.1 e.2 := Conn.here.down he
      rcases hm with hm | hm <;> rw [hm] <;> rcases hc with rfl | rfl
      · exact h.conn _ h1
      · exact e12.symm.trans (h.conn _ h1)
      · exact e12.trans (h.conn _ h2)
      · exact h.conn _ h2
    · exact h.conn i hi
  · rw [g i]
    split
    · rename_i hc
      rcases hc with rfl | rfl <;> omega
    · exact Nat.le_refl _
theorem sweep_ok {E : List Edge} {n : Nat} (hE : ∀ e ∈ E, e.1 < n ∧ e.2 < n) : ∀ (D : List Edge) (mk : List Nat), (∀ e ∈ D, e ∈ E) → MkOk E n mk → MkOk E n (sweepF D mk) ∧ (∀ i, i < n → (sweepF D mk).getD i 0 ≤ mk.getD i 0) ∧ ∀ e ∈ D, (sweepF D mk).getD e.1 0 ≤ mk.getD e.2 0 ∧ (sweepF D mk).getD e.2 0 ≤ mk.getD e.1 0
  | [], mk, _, h => ⟨h, fun _ _ => Nat.le_refl _, fun e he => by cases he⟩
  | e :: D, mk, hs, h => by
    have hm := hs e (by simp)
    have hb := hE e hm
    obtain ⟨r1, r2⟩ := h.relax hm hb.1 hb.2
    obtain ⟨s1, s2, s3⟩ := sweep_ok hE D _ (fun d hd => hs d (List.mem_cons_of_mem _ hd)) r1
    have hl := h.len
    have g := relaxF_get (mk := mk) (e := e) (by omega) (by omega)
    refine ⟨s1, fun i hi => Nat.le_trans (s2 i hi) (r2 i hi), fun d hd => ?_⟩
    rcases List.mem_cons.1 hd with rfl | hd
    · have a1 := s2 d.1 hb.1
      have a2 := s2 d.2 hb.2
      rw [g, if_pos (.inl rfl)] at a1
      rw [g, if_pos (.inr rfl)] at a2
      show (sweepF D (relaxF mk d)).getD d.1 0 ≤ _ ∧ (sweepF D (relaxF mk d)).getD d.2 0 ≤ _
      omega
    · have hdb := hE d (hs d (List.mem_cons_of_mem _ hd))
      have := s3 d hd
      have b1 := r2 d.1 hdb.1
      have b2 := r2 d.2 hdb.2
      show (sweepF D (relaxF mk e)).getD d.1 0 ≤ _ ∧ (sweepF D (relaxF mk e)).getD d.2 0 ≤ _
      omega
theorem filter_grow {p q : Nat → Bool} : ∀ {l : List Nat}, (∀ x ∈ l, p x = true → q x = true) → (l.filter p).length ≤ (l.filter q).length
  | [], _ => Nat.le_refl _
  | x :: l, h => by
    have ih := filter_grow (l := l) (p := p) (q := q) fun y hy => h y (List.mem_cons_of_mem _ hy)
    simp only [List.filter_cons]
    cases hp : p x with
    | true => rw [h x (by simp) hp]; simp only [if_true, List.length_cons]; omega
    | false => cases hq : q x <;> simp <;> omega
theorem filter_grow_lt {p q : Nat → Bool} : ∀ {l : List Nat} {z : Nat}, (∀ x ∈ l, p x = true → q x = true) → z ∈ l → p z = false → q z = true → (l.filter p).length < (l.filter q).length
  | x :: l, z, h, hz, h1, h2 => by
    have hg := filter_grow (l := l) (p := p) (q := q) fun y hy => h y (List.mem_cons_of_mem _ hy)
    simp only [List.filter_cons]
    rcases List.mem_cons.1 hz with rfl | hz
    · rw [h1, h2]; simp only [if_true, Bool.false_eq_true, if_false, List.length_cons]; omega
    · have ih := filter_grow_lt (l := l) (p := p) (q := q) (fun y hy => h y (List.mem_cons_of_mem _ hy)) hz h1 h2
      cases hp : p x with
      | true => rw [h x (by simp) hp]; simp only [if_true, List.length_cons]; omega
      | false => cases hq : q x <;> simp <;> omega
theorem Conn.crossing {E : List Edge} {m : Nat} {p : Nat → Bool} (hm : p m = true) {x : Nat} (h : Conn E m x) (hx : p x = false) : ∃ y z, ((y, z) ∈ E ∨ (z, y) ∈ E) ∧ p y = true ∧ p z = false ∧ Conn E m y := by
  induction h with
  | here => rw [hm] at hx; cases hx
  | @down y z hc e ih =>
    cases hy : p y with
    | true => exact ⟨y, z, .inl e, hy, hx, hc⟩
    | false => exact ih hy
  | @up y z hc e ih =>
    cases hy : p y with
    | true => exact ⟨y, z, .inr e, hy, hx, hc⟩
    | false => exact ih hy
def cntF (n m : Nat) (mk : List Nat) : Nat := ((List.range n).filter fun x => decide (mk.getD x 0 = m)).length
theorem sweeps_count {E : List Edge} {n m : Nat} (hE : ∀ e ∈ E, e.1 < n ∧ e.2 < n) (hmn : m < n) (hm : ∀ y, Conn E m y → m ≤ y) : ∀ (t c : Nat) (mk : List Nat), MkOk E n mk → mk.getD m 0 = m → c + 1 ≤ cntF n m mk →
    MkOk E n (sweepsF E t mk) ∧ ((∀ y, Conn E m y → (sweepsF E t mk).getD y 0 = m) ∨ c + t + 1 ≤ cntF n m (sweepsF E t mk))
  | 0, c, mk, h, _, hc => ⟨h, .inr hc⟩
  | t + 1, c, mk, h, h0, hc => by
    obtain ⟨s1, s2, s3⟩ := sweep_ok hE E mk (fun e he => he) h
    have hge : ∀ (mk' : List Nat), MkOk E n mk' → ∀ y, Conn E m y → m ≤ mk'.getD y 0 := fun mk' hk y hy => hm _ (hy.trans (hk.conn y (hy.lt hE hmn)))
    have hstay : ∀ y, Conn E m y → mk.getD y 0 = m → (sweepF E mk).getD y 0 = m := fun y hy e => by
      have := s2 y (hy.lt hE hmn)
      have := hge _ s1 y hy
      omega
    have h0' := hstay m .here h0
    by_cases hall : ∀ y, Conn E m y → mk.getD y 0 = m
    ·
      have hkeep : ∀ (t : Nat) (mk' : List Nat), MkOk E n mk' → (∀ y, Conn E m y → mk'.getD y 0 = m) → MkOk E n (sweepsF E t mk') ∧ ∀ y, Conn E m y → (sweepsF E t mk').getD y 0 = m := by
        intro t
        induction t with
        | zero => intro mk' hk ha; exact ⟨hk, ha⟩
        | succ t ih =>
          intro mk' hk ha
          obtain ⟨q1, q2, _⟩ := sweep_ok hE E mk' (fun e he => he) hk
          refine ih _ q1 fun y hy => ?_
          have := q2 y (hy.lt hE hmn)
          have := hge _ q1 y hy
          have := ha y hy
          omega
      have := hkeep t _ s1 fun y hy => hstay y hy (hall y hy)
      exact ⟨this.1, .inl this.2⟩
    · have hne : ∃ y, Conn E m y ∧ mk.getD y 0 ≠ m := by
        refine Classical.byContradiction fun hno => hall fun y hy => ?_
        exact Classical.byContradiction fun he => hno ⟨y, hy, he⟩
      obtain ⟨x, hx, hxm⟩ := hne
      obtain ⟨y, z, hyz, hy, hz, hcy⟩ := hx.crossing (p := fun k => decide (mk.getD k 0 = m)) (by simpa using h0) (by simpa using hxm)
      have hy : mk.getD y 0 = m := by simpa using hy
      have hcz : Conn E m z := hyz.elim (fun e => hcy.down e) fun e => hcy.up e
      have hz' : (sweepF E mk).getD z 0 = m := by
        have hb := hge _ s1 z hcz
        rcases hyz with e | e
        · have := (s3 _ e).2; simp only at this; omega
        · have := (s3 _ e).1; simp only at this; omega
      have hcnt : c + 1 + 1 ≤ cntF n m (sweepF E mk) := by
        refine Nat.lt_of_le_of_lt hc (filter_grow_lt (z := z) (fun k hk hp => ?_) (List.mem_range.2 (hcz.lt hE hmn)) hz (by simpa using hz'))
        have hk := List.mem_range.1 hk
        have hp : mk.getD k 0 = m := by simpa using hp
        have hc' : Conn E m k := by
          have := h.conn k hk
          rw [hp] at this
          exact this.symm
        simpa using hstay k hc' hp
      have := sweeps_count hE hmn hm t (c + 1) _ s1 h0' hcnt
      refine ⟨this.1, this.2.imp id fun h => ?_⟩
      show c + (t + 1) + 1 ≤ cntF n m (sweepsF E t (sweepF E mk))
      omega
theorem cntF_le (n m : Nat) (mk : List Nat) : cntF n m mk ≤ n := by
  have := List.length_filter_le (fun x => decide (mk.getD x 0 = m)) (List.range n)
  rw [List.length_range] at this
  exact this
theorem range_getD {n i : Nat} (h : i < n) : (List.range n).getD i 0 = i := by
  rw [List.getD_eq_getElem?_getD, List.getElem?_range h]; rfl
theorem marks_least {E : List Edge} {n : Nat} (hE : ∀ e ∈ E, e.1 < n ∧ e.2 < n) {x m : Nat} (hx : x < n) (hl : Least E x m) : (sweepsF E n (List.range n)).getD x 0 = m := by
  have h0 : MkOk E n (List.range n) := ⟨List.length_range, fun i hi => by rw [range_getD hi]; exact .here⟩
  have hmn : m < n := hl.1.lt hE hx
  have hm : ∀ y, Conn E m y → m ≤ y := fun y hy => hl.2 y (hl.1.trans hy)
  have hc : 0 + 1 ≤ cntF n m (List.range n) := by
    refine List.length_pos_iff.2 fun he => ?_
    have : m ∈ (List.range n).filter fun x => decide ((List.range n).getD x 0 = m) := List.mem_filter.2 ⟨List.mem_range.2 hmn, by simpa using range_getD hmn⟩
    rw [he] at this
    cases this
  obtain ⟨_, h | h⟩ := sweeps_count hE hmn hm n 0 _ h0 (range_getD hmn) hc
  · exact h x hl.1.symm
  · have := cntF_le n m (sweepsF E n (List.range n)); omega
abbrev stB (st : List Bool) (i : Nat) : Bool := st.getD i false
def edgeF (gs : List Grp) (st : List Bool) (i : Nat) (n : Str) : Option Edge :=
  match makerF (gs.take i) n with
  | some k => if (stB st i && stB st k) = true then some (i, k) else none
  | none => none
def ndsAt (gs : List Grp) (i : Nat) : List Str := match gs[i]? with
  | some g => g.needs
  | none => []
def edgesAt (gs : List Grp) (st : List Bool) (i : Nat) : List Edge := (ndsAt gs i).filterMap (edgeF gs st i)
def edgesTo (gs : List Grp) (st : List Bool) (i : Nat) : List Edge := (List.range i).flatMap (edgesAt gs st)
abbrev edgesF (gs : List Grp) (st : List Bool) : List Edge := edgesTo gs st gs.length
def unitAt (n : Nat) (st : List Bool) (r : Nat → Nat) (i : Nat) : List Nat := (List.range n).filter fun k => stB st k && decide (r k = i)
def nphB (gs : List Grp) (k : Nat) : Bool := match gs[k]? with
  | some g => !g.phony
  | none => false
def realB (gs : List Grp) (u : List Nat) : Bool := u.any (nphB gs)
def unit1 (gs : List Grp) (st : List Bool) (r : Nat → Nat) (i : Nat) : Option (List Nat) := if realB gs (unitAt gs.length st r i) = true then some (unitAt gs.length st r i) else none
def unitsTo (gs : List Grp) (st : List Bool) (r : Nat → Nat) (i : Nat) : List (List Nat) := (List.range i).filterMap (unit1 gs st r)
abbrev unitsF (gs : List Grp) (st : List Bool) (r : Nat → Nat) : List (List Nat) := unitsTo gs st r gs.length
theorem edgesTo_succ (gs : List Grp) (st : List Bool) (i : Nat) : edgesTo gs st (i + 1) = edgesTo gs st i ++ edgesAt gs st i := by
  unfold edgesTo
  rw [List.range_succ, List.flatMap_append]
  simp
theorem unitsTo_succ (gs : List Grp) (st : List Bool) (r : Nat → Nat) (i : Nat) : unitsTo gs st r (i + 1) = unitsTo gs st r i ++ (unit1 gs st r i).toList := by
  unfold unitsTo
  rw [List.range_succ, List.filterMap_append]
  congr 1
theorem makerF_lt {out : List Grp} {n : Str} {k : Nat} (h : makerF out n = some k) : k < out.length := by
  unfold makerF at h
  obtain ⟨hk, _⟩ := List.findIdx?_eq_some_iff_getElem.1 h
  exact hk
theorem edge_ok {gs : List Grp} {st : List Bool} {i : Nat} {n : Str} {e : Edge} (h : edgeF gs st i n = some e) : e.1 = i ∧ e.2 < i ∧ stB st e.1 = true ∧ stB st e.2 = true := by
  unfold edgeF at h
  split at h
  · rename_i k hk
    split at h
    · rename_i hs
      cases h
      rw [Bool.and_eq_true] at hs
      have := makerF_lt hk
      rw [List.length_take] at this
      exact ⟨rfl, by show k < i; omega, hs.1, hs.2⟩
    · cases h
  · cases h
theorem edgesTo_ok {gs : List Grp} {st : List Bool} {i : Nat} : ∀ e ∈ edgesTo gs st i, e.1 < i ∧ e.2 < e.1 ∧ stB st e.1 = true ∧ stB st e.2 = true := by
  intro e he
  unfold edgesTo at he
  obtain ⟨j, hj, he⟩ := List.mem_flatMap.1 he
  unfold edgesAt at he
  obtain ⟨n, _, he⟩ := List.mem_filterMap.1 he
  obtain ⟨h1, h2, h3, h4⟩ := edge_ok he
  have := List.mem_range.1 hj
  exact ⟨by omega, by omega, h3, h4⟩
theorem Conn.stale {E : List Edge} {p : Nat → Bool} (hp : ∀ e ∈ E, p e.1 = true ∧ p e.2 = true) {x y : Nat} (h : Conn E x y) : x = y ∨ p y = true := by
  induction h with
  | here => exact .inl rfl
  | down _ e _ => exact .inr (hp _ e).2
  | up _ e _ => exact .inr (hp _ e).1
def UpI (n i : Nat) (E : List Edge) (up : List Nat) : Prop := ∃ U : List Nat, U.length = i ∧ i ≤ n ∧ up = U ++ List.replicate (n - i) 0 ∧ UpOk E U
theorem UpI.start (n : Nat) : UpI n 0 [] (List.replicate n 0) :=
  ⟨[], rfl, Nat.zero_le _, by simp, ⟨fun i hi => absurd hi (Nat.not_lt_zero i), (fun e he => by cases he), fun x y hx _ => absurd hx (Nat.not_lt_zero x)⟩⟩
theorem UpI.len {n i : Nat} {E : List Edge} {up : List Nat} (h : UpI n i E up) : up.length = n := by
  obtain ⟨U, h1, h2, rfl, _⟩ := h
  rw [List.length_append, List.length_replicate]
  omega
theorem pad_get {U : List Nat} {k j : Nat} (h : j < U.length) : (U ++ List.replicate k 0).getD j 0 = U.getD j 0 := by
  rw [List.getD_eq_getElem?_getD, List.getD_eq_getElem?_getD, List.getElem?_append_left h]
theorem pad_low {U : List Nat} {k : Nat} (h : Low U) : Low (U ++ List.replicate k 0) := by
  intro j hj
  rcases Nat.lt_or_ge j U.length with hlt | hge
  · rw [pad_get hlt]; exact h j hlt
  · rw [List.getD_eq_getElem?_getD, List.getElem?_append_right hge, List.getElem?_replicate]
    split <;> exact Nat.zero_le _
theorem UpI.low {n i : Nat} {E : List Edge} {up : List Nat} (h : UpI n i E up) : Low up := by
  obtain ⟨U, h1, h2, rfl, h3⟩ := h
  exact pad_low h3.low
theorem pad_root {U : List Nat} {k : Nat} (h : Low U) : ∀ j, j < U.length → rootA (U ++ List.replicate k 0) j = rootA U j := by
  intro j
  induction j using Nat.strongRecOn with
  | ind j ih =>
    intro hj
    rw [rootA_step (pad_low h) (by rw [List.length_append]; omega), rootA_step h hj, pad_get hj]
    by_cases he : U.getD j 0 = j
    · rw [if_pos he, if_pos he]
    · rw [if_neg he, if_neg he]
      have := h j hj
      exact ih _ (by omega) (by omega)
theorem UpI.new {n i : Nat} {E : List Edge} {up : List Nat} (h : UpI n i E up) (hi : i < n) : UpI n (i + 1) E (up.set i i) := by
  obtain ⟨U, rfl, h2, rfl, h3⟩ := h
  refine ⟨U ++ [U.length], by simp, hi, ?_, h3.new⟩
  have : List.replicate (n - U.length) 0 = 0 :: List.replicate (n - (U.length + 1)) 0 := by
    rw [show n - U.length = (n - (U.length + 1)) + 1 by omega, List.replicate_succ]
  rw [this, List.set_append_right _ _ (Nat.le_refl _), Nat.sub_self]
  simp
theorem UpI.uni {n i : Nat} {E : List Edge} {up : List Nat} (h : UpI n i E up) {e : Edge} (h1 : e.1 < i) (h2 : e.2 < i) : UpI n i (E ++ [e]) (uniF up e) := by
  obtain ⟨U, rfl, h3, rfl, h4⟩ := h
  refine ⟨uniF U e, by unfold uniF; rw [List.length_set], h3, ?_, h4.uni h1 h2⟩
  unfold uniF
  rw [pad_root h4.low _ h1, pad_root h4.low _ h2]
  have l1 := rootA_le h4.low h1
  have l2 := rootA_le h4.low h2
  rw [List.set_append_left _ _ (by omega)]
theorem UpI.fin {n : Nat} {E : List Edge} {up : List Nat} (h : UpI n n E up) : UpOk E up := by
  obtain ⟨U, h1, h2, rfl, h3⟩ := h
  rw [Nat.sub_self, List.replicate_zero, List.append_nil]
  exact h3
def LstOk (E : List Edge) (n : Nat) (r : Nat → Nat) : Prop := ∀ k, k < n → Least E k (r k)
theorem LstOk.of_up {E : List Edge} {up : List Nat} {n : Nat} (h : UpOk E up) (hl : up.length = n) : LstOk E n (rootA up) := fun k hk => h.least (by omega)
theorem unitAt_congr {n : Nat} {st : List Bool} {r q : Nat → Nat} (h : ∀ k, k < n → r k = q k) (i : Nat) : unitAt n st r i = unitAt n st q i := by
  unfold unitAt
  refine List.filter_congr fun k hk => ?_
  rw [h k (List.mem_range.1 hk)]
theorem units_congr {gs : List Grp} {st : List Bool} {E : List Edge} {r q : Nat → Nat} (hr : LstOk E gs.length r) (hq : LstOk E gs.length q) (i : Nat) : unitsTo gs st r i = unitsTo gs st q i := by
  have h : ∀ i, unitAt gs.length st r i = unitAt gs.length st q i := unitAt_congr fun k hk => (hr k hk).uniq (hq k hk)
  unfold unitsTo unit1
  simp only [h]
theorem unit_mem {n : Nat} {st : List Bool} {r : Nat → Nat} {i k : Nat} : k ∈ unitAt n st r i ↔ k < n ∧ stB st k = true ∧ r k = i := by
  unfold unitAt
  rw [List.mem_filter, List.mem_range, Bool.and_eq_true, decide_eq_true_eq]
theorem unit_skip {gs : List Grp} {st : List Bool} {r : Nat → Nat} (h : LstOk (edgesF gs st) gs.length r) {i : Nat} (hs : stB st i = false ∨ r i ≠ i) : unitAt gs.length st r i = [] := by
  refine List.eq_nil_iff_forall_not_mem.2 fun k hk => ?_
  obtain ⟨h1, h2, rfl⟩ := unit_mem.1 hk
  have hc := (h k h1).1
  have hp : ∀ e ∈ edgesF gs st, stB st e.1 = true ∧ stB st e.2 = true := fun e he => (edgesTo_ok e he).2.2
  have hrl : r k < gs.length := hc.lt (fun e he => by have := edgesTo_ok e he; omega) h1
  rcases hs with hs | hs
  · rcases hc.stale hp with e | e
    · rw [← e, h2] at hs; cases hs
    · rw [e] at hs; cases hs
  · refine hs ?_
    have a1 := h (r k) hrl
    have a2 : Least (edgesF gs st) (r k) (r k) := ⟨.here, fun y hy => (h k h1).2 y (hc.trans hy)⟩
    exact a1.uniq a2
theorem unit1_skip {gs : List Grp} {st : List Bool} {r : Nat → Nat} (h : LstOk (edgesF gs st) gs.length r) {i : Nat} (hs : stB st i = false ∨ r i ≠ i) : unit1 gs st r i = none := by
  unfold unit1
  rw [unit_skip h hs]
  rfl
theorem unit1_some {gs : List Grp} {st : List Bool} {r : Nat → Nat} {i : Nat} {u : List Nat} (h : unit1 gs st r i = some u) : u = unitAt gs.length st r i ∧ realB gs u = true := by
  unfold unit1 at h
  split at h
  · rename_i h1
    cases h
    exact ⟨rfl, h1⟩
  · cases h
def fndI (s p : Str) (f : Nat) : Int := if Lib.index (s.drop f) p = -1 then -1 else Lib.index (s.drop f) p + f
theorem pre_take (p l : Str) : p.isPrefixOf l = decide (l.take p.length = p) := by
  rw [Bool.eq_iff_iff, List.isPrefixOf_iff_prefix, decide_eq_true_iff]
  constructor
  · rintro ⟨t, rfl⟩
    simp
  · intro h
    rw [← h]
    exact List.take_prefix _ _
theorem part_at (s : Str) (f k n : Nat) : (s.take (f + k + n)).drop (f + k) = ((s.drop f).drop k).take n := by
  rw [List.drop_take, List.drop_drop, show f + k + n - (f + k) = n by omega]
set_option maxRecDepth 100000 in
theorem rfind1_c (s : Str) (hs : s.length ≤ 1000000) (a : UInt8) (f : Nat) (hf : f ≤ s.length) (w : World) :
    Calls Try.prog 30 #[S s, S [a], .int .i64 f] w fun e w' => e = .returned (.int .i64 (fndI s [a] f)) ∧ Ext w w' := by
  have hd : (s.drop f).length = s.length - f := List.length_drop
  go_enter Try.func30, Try.ntmps30
  go_wp2_with fail
  go_loopw [7] (fun i wr => ∃ k : Nat, f + k ≤ s.length ∧ i = .int .i64 ((f + k : Nat) : Int) ∧ Lib.NoOcc (s.drop f) [a] k ∧ ∃ ξ : X w No, wr = ξ.v) (fun i _ => s.length - (intOf i).toNat)
  case atStart => exact ⟨0, by omega, by simp, fun j hj => absurd hj (Nat.not_lt_zero _), X.here _ _, rfl⟩
  case round =>
    obtain ⟨k, hk, rfl, hT, ξ, rfl⟩ := hrel
    have HT := Lib.hid hT
    clear hT
    obtain ⟨i, hi⟩ : ∃ i, i = f + k := ⟨_, rfl⟩
    have HI := Lib.hid hi
    by_cases hlt : i + 1 ≤ s.length
    · have g1 : decide ((i : Int) + 1 ≤ (s.length : Int)) = true := by rw [decide_eq_true_iff]; omega
      have e0 : Lib.occAt (s.drop f) [a] k = decide ((s.take (i + 1)).drop i = [a]) := by
        unfold Lib.occAt
        rw [pre_take, hi]
        show decide (List.take 1 _ = _) = _
        rw [part_at]
      have HO := Lib.hid e0
      obtain ⟨q, hq⟩ : ∃ q, (s.take (i + 1)).drop i = q := ⟨_, rfl⟩
      rw [hq] at HO
      rw [← hi] at hk ⊢
      obtain ⟨bb, hb⟩ : ∃ bb, (q == [a]) = bb := ⟨_, rfl⟩
      have HB := Lib.hid hb
      clear hi e0
      cases bb with
      | true =>
        have HX : Hid (fndI s [a] f = (i : Int)) := by
          have hqp : q = [a] := by simpa using HB.out
          have h1 := Lib.index_hit HT.out (by have := HI.out; omega) (by rw [HO.out, hqp]; simp)
          rw [Hid, fndI, h1, if_neg (by omega)]
          have := HI.out
          omega
        go_wp2_with fail
        go_ret
        exact ⟨by rw [HX.out]; rfl, ξ.h⟩
      | false =>
        have HX : Hid (Lib.NoOcc (s.drop f) [a] (k + 1)) := by
          have hqp : q ≠ [a] := by simpa using HB.out
          intro j hj
          rcases Nat.lt_or_ge j k with h | h
          · exact HT.out j h
          · obtain rfl : j = k := by omega
            rw [HO.out, decide_eq_false hqp]
        have hfk : f + k + 1 ≤ s.length := by have := HI.out; omega
        go_wp2_with fail
        go_roundw
        case rel => exact ⟨k + 1, hfk, by rw [HI.out]; exact congrArg _ (by omega), HX.out, ξ, rfl⟩
        case measure => simp [intOf]; omega
    · have g1 : decide ((i : Int) + 1 ≤ (s.length : Int)) = false := by rw [decide_eq_false_iff_not]; omega
      have HX : Hid (fndI s [a] f = -1) := by
        have h1 := Lib.index_past (sub := [a]) (by simp) HT.out (by rw [hd, show ([a] : Str).length = 1 from rfl]; omega)
        rw [Hid, fndI, h1]
        rfl
      rw [← hi] at hk ⊢
      clear hi
      go_wp2_with fail
      go_ret
      exact ⟨by rw [HX.out]; rfl, ξ.h⟩
set_option maxRecDepth 100000 in
theorem rfind2_c (s : Str) (hs : s.length ≤ 1000000) (a b : UInt8) (f : Nat) (hf : f ≤ s.length) (w : World) :
    Calls Try.prog 30 #[S s, S [a, b], .int .i64 f] w fun e w' => e = .returned (.int .i64 (fndI s [a, b] f)) ∧ Ext w w' := by
  have hd : (s.drop f).length = s.length - f := List.length_drop
  go_enter Try.func30, Try.ntmps30
  go_wp2_with fail
  go_loopw [7] (fun i wr => ∃ k : Nat, f + k ≤ s.length ∧ i = .int .i64 ((f + k : Nat) : Int) ∧ Lib.NoOcc (s.drop f) [a, b] k ∧ ∃ ξ : X w No, wr = ξ.v) (fun i _ => s.length - (intOf i).toNat)
  case atStart => exact ⟨0, by omega, by simp, fun j hj => absurd hj (Nat.not_lt_zero _), X.here _ _, rfl⟩
  case round =>
    obtain ⟨k, hk, rfl, hT, ξ, rfl⟩ := hrel
    have HT := Lib.hid hT
    clear hT
    obtain ⟨i, hi⟩ : ∃ i, i = f + k := ⟨_, rfl⟩
    have HI := Lib.hid hi
    by_cases hlt : i + 2 ≤ s.length
    · have g1 : decide ((i : Int) + 2 ≤ (s.length : Int)) = true := by rw [decide_eq_true_iff]; omega
      have e0 : Lib.occAt (s.drop f) [a, b] k = decide ((s.take (i + 2)).drop i = [a, b]) := by
        unfold Lib.occAt
        rw [pre_take, hi]
        show decide (List.take 2 _ = _) = _
        rw [part_at]
      have HO := Lib.hid e0
      obtain ⟨q, hq⟩ : ∃ q, (s.take (i + 2)).drop i = q := ⟨_, rfl⟩
      rw [hq] at HO
      rw [← hi] at hk ⊢
      obtain ⟨bb, hb⟩ : ∃ bb, (q == [a, b]) = bb := ⟨_, rfl⟩
      have HB := Lib.hid hb
      clear hi e0
      cases bb with
      | true =>
        have HX : Hid (fndI s [a, b] f = (i : Int)) := by
          have hqp : q = [a, b] := by simpa using HB.out
          have h1 := Lib.index_hit HT.out (by have := HI.out; omega) (by rw [HO.out, hqp]; simp)
          rw [Hid, fndI, h1, if_neg (by omega)]
          have := HI.out
          omega
        go_wp2_with fail
        go_ret
        exact ⟨by rw [HX.out]; rfl, ξ.h⟩
      | false =>
        have HX : Hid (Lib.NoOcc (s.drop f) [a, b] (k + 1)) := by
          have hqp : q ≠ [a, b] := by simpa using HB.out
          intro j hj
          rcases Nat.lt_or_ge j k with h | h
          · exact HT.out j h
          · obtain rfl : j = k := by omega
            rw [HO.out, decide_eq_false hqp]
        have hfk : f + k + 1 ≤ s.length := by have := HI.out; omega
        go_wp2_with fail
        go_roundw
        case rel => exact ⟨k + 1, hfk, by rw [HI.out]; exact congrArg _ (by omega), HX.out, ξ, rfl⟩
        case measure => simp [intOf]; omega
    · have g1 : decide ((i : Int) + 2 ≤ (s.length : Int)) = false := by rw [decide_eq_false_iff_not]; omega
      have HX : Hid (fndI s [a, b] f = -1) := by
        have h1 := Lib.index_past (sub := [a, b]) (by simp) HT.out (by rw [hd, show ([a, b] : Str).length = 2 from rfl]; omega)
        rw [Hid, fndI, h1]
        rfl
      rw [← hi] at hk ⊢
      clear hi
      go_wp2_with fail
      go_ret
      exact ⟨by rw [HX.out]; rfl, ξ.h⟩
set_option maxRecDepth 100000 in
theorem rfind3_c (s : Str) (hs : s.length ≤ 1000000) (a b c : UInt8) (f : Nat) (hf : f ≤ s.length) (w : World) :
    Calls Try.prog 30 #[S s, S [a, b, c], .int .i64 f] w fun e w' => e = .returned (.int .i64 (fndI s [a, b, c] f)) ∧ Ext w w' := by
  have hd : (s.drop f).length = s.length - f := List.length_drop
  go_enter Try.func30, Try.ntmps30
  go_wp2_with fail
  go_loopw [7] (fun i wr => ∃ k : Nat, f + k ≤ s.length ∧ i = .int .i64 ((f + k : Nat) : Int) ∧ Lib.NoOcc (s.drop f) [a, b, c] k ∧ ∃ ξ : X w No, wr = ξ.v) (fun i _ => s.length - (intOf i).toNat)
  case atStart => exact ⟨0, by omega, by simp, fun j hj => absurd hj (Nat.not_lt_zero _), X.here _ _, rfl⟩
  case round =>
    obtain ⟨k, hk, rfl, hT, ξ, rfl⟩ := hrel
    have HT := Lib.hid hT
    clear hT
    obtain ⟨i, hi⟩ : ∃ i, i = f + k := ⟨_, rfl⟩
    have HI := Lib.hid hi
    by_cases hlt : i + 3 ≤ s.length
    · have g1 : decide ((i : Int) + 3 ≤ (s.length : Int)) = true := by rw [decide_eq_true_iff]; omega
      have e0 : Lib.occAt (s.drop f) [a, b, c] k = decide ((s.take (i + 3)).drop i = [a, b, c]) := by
        unfold Lib.occAt
        rw [pre_take, hi]
        show decide (List.take 3 _ = _) = _
        rw [part_at]
      have HO := Lib.hid e0
      obtain ⟨q, hq⟩ : ∃ q, (s.take (i + 3)).drop i = q := ⟨_, rfl⟩
      rw [hq] at HO
      rw [← hi] at hk ⊢
      obtain ⟨bb, hb⟩ : ∃ bb, (q == [a, b, c]) = bb := ⟨_, rfl⟩
      have HB := Lib.hid hb
      clear hi e0
      cases bb with
      | true =>
        have HX : Hid (fndI s [a, b, c] f = (i : Int)) := by
          have hqp : q = [a, b, c] := by simpa using HB.out
          have h1 := Lib.index_hit HT.out (by have := HI.out; omega) (by rw [HO.out, hqp]; simp)
          rw [Hid, fndI, h1, if_neg (by omega)]
          have := HI.out
          omega
        go_wp2_with fail
        go_ret
        exact ⟨by rw [HX.out]; rfl, ξ.h⟩
      | false =>
        have HX : Hid (Lib.NoOcc (s.drop f) [a, b, c] (k + 1)) := by
          have hqp : q ≠ [a, b, c] := by simpa using HB.out
          intro j hj
          rcases Nat.lt_or_ge j k with h | h
          · exact HT.out j h
          · obtain rfl : j = k := by omega
            rw [HO.out, decide_eq_false hqp]
        have hfk : f + k + 1 ≤ s.length := by have := HI.out; omega
        go_wp2_with fail
        go_roundw
        case rel => exact ⟨k + 1, hfk, by rw [HI.out]; exact congrArg _ (by omega), HX.out, ξ, rfl⟩
        case measure => simp [intOf]; omega
    · have g1 : decide ((i : Int) + 3 ≤ (s.length : Int)) = false := by rw [decide_eq_false_iff_not]; omega
      have HX : Hid (fndI s [a, b, c] f = -1) := by
        have h1 := Lib.index_past (sub := [a, b, c]) (by simp) HT.out (by rw [hd, show ([a, b, c] : Str).length = 3 from rfl]; omega)
        rw [Hid, fndI, h1]
        rfl
      rw [← hi] at hk ⊢
      clear hi
      go_wp2_with fail
      go_ret
      exact ⟨by rw [HX.out]; rfl, ξ.h⟩
theorem fndI_cut (s p : Str) : (Lib.cut s p = (s, [], false) ∧ fndI s p 0 = -1) ∨ ∃ i : Nat, fndI s p 0 = (i : Int) ∧ i + p.length ≤ s.length ∧ Lib.cut s p = (s.take i, s.drop (i + p.length), true) := by
  have hg := Lib.index_ge s p
  unfold fndI Lib.cut
  rw [List.drop_zero]
  by_cases h : Lib.index s p = -1
  · left
    rw [if_neg (by omega), if_pos h]
    exact ⟨rfl, rfl⟩
  · right
    obtain ⟨i, hi⟩ : ∃ i : Nat, Lib.index s p = i := ⟨(Lib.index s p).toNat, by omega⟩
    have := Lib.index_room s p (by omega)
    refine ⟨i, ?_, by omega, ?_⟩
    · rw [if_neg h, hi]
      simp
    · rw [if_pos (by omega), hi]
      rfl
theorem fndI_from (s p : Str) (f : Nat) : (Lib.cut (s.drop f) p = (s.drop f, [], false) ∧ fndI s p f = -1) ∨ ∃ i : Nat, fndI s p f = ((f + i : Nat) : Int) ∧ i + p.length ≤ (s.drop f).length ∧ Lib.cut (s.drop f) p = ((s.drop f).take i, (s.drop f).drop (i + p.length), true) := by
  have e : fndI s p f = if fndI (s.drop f) p 0 = -1 then -1 else fndI (s.drop f) p 0 + f := by
    unfold fndI
    rw [List.drop_zero]
    split
    · rfl
    · rename_i h
      rw [if_neg (by simpa using h)]
      simp
  rcases fndI_cut (s.drop f) p with ⟨h1, h2⟩ | ⟨i, h1, h2, h3⟩
  · left
    rw [e, h2]
    exact ⟨h1, rfl⟩
  · right
    refine ⟨i, ?_, h2, h3⟩
    rw [e, h1, if_neg (by omega)]
    omega
theorem RVar_c (s : Str) (hs : s.length ≤ 1000000) (w : World) :
    Calls Try.prog 11 #[S s] w fun e w' => e = .returned (.bool (varB s)) ∧ Ext w w' := by
  by_cases h1 : s.length < 1
  · have HB : Hid (varB s = false) := by
      have : s = [] := List.eq_nil_of_length_eq_zero (by omega)
      rw [this]; rfl
    have g1 : decide ((s.length : Int) < 1) = true := by rw [decide_eq_true_iff]; omega
    go_enter Try.func11, Try.ntmps11
    go_wp2_with fail
    go_ret
    exact ⟨ret_bool HB.out.symm, Only.refl _ _⟩
  have g1 : decide ((s.length : Int) < 1) = false := by rw [decide_eq_false_iff_not]; omega
  by_cases h2 : 4 < s.length
  · have HB : Hid (varB s = false) := by
      rw [Hid, varB, decide_eq_false (by omega)]
      simp
    have g2 : decide ((4 : Int) < (s.length : Int)) = true := by rw [decide_eq_true_iff]; omega
    go_enter Try.func11, Try.ntmps11
    go_wp2_with fail
    go_ret
    exact ⟨ret_bool HB.out.symm, Only.refl _ _⟩
  have g2 : decide ((4 : Int) < (s.length : Int)) = false := by rw [decide_eq_false_iff_not]; omega
  go_enter Try.func11, Try.ntmps11
  go_wp2_with fail
  go_loopw [3] (fun i wr => ∃ k : Nat, k ≤ s.length ∧ i = .int .i64 k ∧ ((s.take k).all fun c => decide (65 ≤ c.toNat) && decide (c.toNat ≤ 90)) = true ∧ ∃ ξ : X w No, wr = ξ.v) (fun i _ => s.length - (intOf i).toNat)
  case atStart => exact ⟨0, Nat.zero_le _, rfl, rfl, X.here _ _, rfl⟩
  case round =>
    obtain ⟨k, hk, rfl, hT, ξ, rfl⟩ := hrel
    have HT := Lib.hid hT
    clear hT
    by_cases hlt : k < s.length
    · obtain ⟨x, hx⟩ : ∃ x, s[k] = x := ⟨_, rfl⟩
      have hxs : s[k]? = some x := by rw [List.getElem?_eq_getElem hlt, hx]
      have hxl := x.toNat_lt
      by_cases h3 : 65 ≤ x.toNat ∧ x.toNat ≤ 90
      · have HB : Hid (((s.take (k + 1)).all fun c => decide (65 ≤ c.toNat) && decide (c.toNat ≤ 90)) = true) := by
          have hT := HT.out
          unfold Hid
          rw [List.take_add_one, hxs]
          simp only [Option.toList, List.all_append, hT, List.all_cons, List.all_nil, Bool.and_true, Bool.true_and]
          simp [h3.1, h3.2]
        obtain ⟨h3, h4⟩ := h3
        have g3 : decide ((x.toNat : Int) < 65) = false := by rw [decide_eq_false_iff_not]; omega
        have g4 : decide ((90 : Int) < (x.toNat : Int)) = false := by rw [decide_eq_false_iff_not]; omega
        clear hxs
        go_wp2_with fail
        go_roundw
        case rel => exact ⟨k + 1, by omega, by go_num, HB.out, ξ, rfl⟩
        case measure => simp [intOf]; omega
      · have HB : Hid (varB s = false) := by
          have : (s.all fun c => decide (65 ≤ c.toNat) && decide (c.toNat ≤ 90)) = false := by
            rw [List.all_eq_false]
            refine ⟨x, List.mem_of_getElem? hxs, ?_⟩
            simp only [Bool.and_eq_true, decide_eq_true_eq]
            exact h3
          unfold Hid varB
          rw [this]; rfl
        clear hxs
        by_cases h4 : x.toNat < 65
        · have g3 : decide ((x.toNat : Int) < 65) = true := by rw [decide_eq_true_iff]; omega
          go_wp2_with fail
          go_ret
          exact ⟨by rw [HB.out]; rfl, ξ.h⟩
        · have g3 : decide ((x.toNat : Int) < 65) = false := by rw [decide_eq_false_iff_not]; omega
          have g4 : decide ((90 : Int) < (x.toNat : Int)) = true := by rw [decide_eq_true_iff]; omega
          go_wp2_with fail
          go_ret
          exact ⟨by rw [HB.out]; rfl, ξ.h⟩
    · have HB : Hid (varB s = true) := by
        have hT := HT.out
        rw [List.take_of_length_le (by omega)] at hT
        have hne : (s == ([] : Str)) = false := by
          cases s with
          | nil => simp at h1
          | cons a l => rfl
        unfold Hid varB
        rw [hT, hne, decide_eq_true (by omega)]; rfl
      go_wp2_with fail
      go_ret
      exact ⟨by rw [HB.out]; rfl, ξ.h⟩
theorem fieldsF_blank (w r : Str) (h : (32 : UInt8) ∉ w) : fieldsF (w ++ 32 :: r) = (if w = [] then [] else [w]) ++ fieldsF r := by
  unfold fieldsF
  rw [splB_chunk 32 w _ h, splB_app, if_pos rfl]
  show List.filter neB ((w ++ []) :: splB 32 r) = _
  rw [List.append_nil]
  by_cases hw : w = []
  · subst hw; rfl
  · rw [if_neg hw, List.filter_cons_of_pos]
    · rfl
    · cases w with
      | nil => exact absurd rfl hw
      | cons a l => rfl
theorem fieldsF_end (w : Str) (h : (32 : UInt8) ∉ w) : fieldsF w = (if w = [] then [] else [w]) := by
  unfold fieldsF
  have := splB_chunk 32 w [] h
  rw [List.append_nil] at this
  rw [this]
  show List.filter neB [w ++ []] = _
  rw [List.append_nil]
  by_cases hw : w = []
  · subst hw; rfl
  · rw [if_neg hw]
    cases w with
    | nil => exact absurd rfl hw
    | cons a l => rfl
set_option maxRecDepth 100000 in
set_option maxHeartbeats 2000000 in
theorem RFields_c (s : Str) (hs : s.length ≤ 1000000) (w : World) :
    Calls Try.prog 78 #[S s] w fun e w' => ∃ A' c', e = .returned (.slice A' (fieldsF s).length c') ∧ Fresh strF 9 w w' A' c' (fieldsF s) := by
  go_enter Try.func78, Try.ntmps78
  go_wp2_with fail
  go_loopw [3, 4, 5] (fun z u i wr => ∃ k : Nat, k ≤ s.length ∧ i = .int .i64 k ∧ ∃ L v A c, z = .slice A L.length c ∧ u = S v ∧ Fresh strF 9 w wr A c L ∧ L.length ≤ k ∧ v.length ≤ k ∧ (32 : UInt8) ∉ v ∧ fieldsF s = L ++ fieldsF (v ++ s.drop k)) (fun _ _ i _ => s.length - (intOf i).toNat)
  case atStart => exact ⟨0, Nat.zero_le _, rfl, [], [], none, 0, rfl, rfl, Fresh.nil _ _ _ _ (Only.refl _ _), Nat.le_refl _, Nat.le_refl _, by simp, rfl⟩
  case round =>
    obtain ⟨k, hk, rfl, L, v, A, c, rfl, rfl, hF, hL, hv, h32, hE⟩ := hrel
    have F := Lib.hid hF
    have H32 := Lib.hid h32
    have HE := Lib.hid hE
    clear hF h32 hE
    by_cases hlt : k < s.length
    · obtain ⟨x, hx⟩ : ∃ x, s[k] = x := ⟨_, rfl⟩
      have hxs : s[k]? = some x := by rw [List.getElem?_eq_getElem hlt, hx]
      have HXs := Lib.hid hxs
      have hone : (s.take (k + 1)).drop k = [x] := by rw [List.take_add_one, hxs, List.drop_append_of_le_length (by simp; omega), List.drop_eq_nil_of_le (by simp; omega)]; rfl
      clear hxs
      by_cases h3 : x = 32
      · have e1 : ((x.toNat : Int) == 32) = true := by rw [h3]; rfl
        have HE2 : Hid (fieldsF s = L ++ ((if v = [] then [] else [v]) ++ fieldsF (s.drop (k + 1)))) := by
          rw [Hid, HE.out, drop_get HXs.out, h3, fieldsF_blank v _ H32.out]
        clear HE hone
        cases v with
        | nil =>
          go_wp2_with fail
          go_roundw
          case rel => exact ⟨k + 1, by omega, by go_num, L, [], A, c, rfl, rfl, F.out, by omega, Nat.zero_le _, by simp, by rw [HE2.out]; rfl⟩
          case measure => simp [intOf]; omega
        | cons a v =>
          have F4 := Lib.hid (F.out.on ((Only.refl No wr).alloc (.cells #[S (a :: v)] 9)))
          go_wp2_with (first | (at_builtin; go_must (refine wpList_append (v := .slice A L.length c) (n := L.length) (xs := L.flatMap strF.enc) rfl st_ty rfl rfl rfl F4.out.own (rd_one wr _ [S (a :: v)]) (by simp [Value.oneCell']) (by omega) ?_); intro A4 c4 w5 hown5 hg5 hb5; have F5 := Lib.hid (F4.out.grow (ys := [a :: v]) rfl hown5 hg5 hb5); clear hown5 hg5 hb5) | ((first | refine Mix.wpList_guarded rfl ?_ | refine Mix.wp_still (by kernel_rfl) (by kernel_rfl) ?_); (repeat' (first | (refine Mix.lex_quiet0 rfl rfl rfl ?_; intro K hK; go_big_quiet_op; go_big_quiet_on) | (refine Mix.lex_quietG rfl rfl rfl (by with_reducible rfl) rfl rfl ?_; intro K hK; go_big_quiet_op; go_big_quiet_on) | ((first | refine Mix.lex_skipT rfl rfl rfl (by with_reducible rfl) ?_ | refine Mix.lex_skipF rfl rfl rfl (by with_reducible rfl) ?_ | refine Mix.lex_skipU rfl rfl rfl (by with_reducible rfl) ?_); simp only [Act.put, List.setIfInBounds_toArray, List.set_cons_succ, List.set_cons_zero]) | (refine Mix.lex_part rfl rfl rfl rfl (fun hq => ?_) (fun hq => ?_) <;> (fail_if_success (guard_hyp hq :ₛ true = true)) <;> (fail_if_success (guard_hyp hq :ₛ false = false)) <;> first | (exfalso; cases hq; done) | (exfalso; simp only [decide_eq_true_eq, decide_eq_false_iff_not, beq_iff_eq, beq_eq_false_iff_ne, ne_eq, Int.not_lt, Int.not_le] at hq; omega) | simp only [Act.put, List.setIfInBounds_toArray, List.set_cons_succ, List.set_cons_zero]))); all_goals (refine Mix.lex_nil ?_)))
          go_roundw
          case rel => exact ⟨k + 1, by omega, by go_num, L ++ [a :: v], [], A4, c4, by simp, rfl, F5.out, by simp; omega, Nat.zero_le _, by simp, by rw [HE2.out]; simp⟩
          case measure => simp [intOf]; omega
      · have e1 : ((x.toNat : Int) == 32) = false := by
          rw [beq_eq_false_iff_ne]
          intro h
          exact h3 (UInt8.toNat_inj.1 (by show x.toNat = 32; omega))
        have HE2 : Hid (fieldsF s = L ++ fieldsF ((v ++ [x]) ++ s.drop (k + 1))) := by
          rw [Hid, HE.out, drop_get HXs.out]
          simp
        have H33 : Hid ((32 : UInt8) ∉ v ++ [x]) := by
          intro h
          rcases List.mem_append.1 h with h | h
          · exact H32.out h
          · rw [List.mem_singleton] at h
            exact h3 h.symm
        have hv2 : v.length ≤ 1000000 := by omega
        clear HE
        go_wp2_with fail
        go_roundw
        case rel => exact ⟨k + 1, by omega, by go_num, L, v ++ [x], A, c, rfl, by simp, F.out, by omega, by simp; omega, H33.out, HE2.out⟩
        case measure => simp [intOf]; omega
    · have HE2 : Hid (fieldsF s = L ++ (if v = [] then [] else [v])) := by
        rw [Hid, HE.out, List.drop_of_length_le (by omega), List.append_nil, fieldsF_end v H32.out]
      clear HE
      cases v with
      | nil =>
        go_wp2_with fail
        go_ret
        have e : fieldsF s = L := by rw [HE2.out]; simp
        exact ⟨A, c, by rw [e]; rfl, by rw [e]; exact F.out⟩
      | cons a v =>
        have F4 := Lib.hid (F.out.on ((Only.refl No wr).alloc (.cells #[S (a :: v)] 9)))
        go_wp2_with (first | (at_builtin; go_must (refine wpList_append (v := .slice A L.length c) (n := L.length) (xs := L.flatMap strF.enc) rfl st_ty rfl rfl rfl F4.out.own (rd_one wr _ [S (a :: v)]) (by simp [Value.oneCell']) (by omega) ?_); intro A4 c4 w5 hown5 hg5 hb5; have F5 := Lib.hid (F4.out.grow (ys := [a :: v]) rfl hown5 hg5 hb5); clear hown5 hg5 hb5) | ((first | refine Mix.wpList_guarded rfl ?_ | refine Mix.wp_still (by kernel_rfl) (by kernel_rfl) ?_); (repeat' (first | (refine Mix.lex_quiet0 rfl rfl rfl ?_; intro K hK; go_big_quiet_op; go_big_quiet_on) | (refine Mix.lex_quietG rfl rfl rfl (by with_reducible rfl) rfl rfl ?_; intro K hK; go_big_quiet_op; go_big_quiet_on) | ((first | refine Mix.lex_skipT rfl rfl rfl (by with_reducible rfl) ?_ | refine Mix.lex_skipF rfl rfl rfl (by with_reducible rfl) ?_ | refine Mix.lex_skipU rfl rfl rfl (by with_reducible rfl) ?_); simp only [Act.put, List.setIfInBounds_toArray, List.set_cons_succ, List.set_cons_zero]) | (refine Mix.lex_part rfl rfl rfl rfl (fun hq => ?_) (fun hq => ?_) <;> (fail_if_success (guard_hyp hq :ₛ true = true)) <;> (fail_if_success (guard_hyp hq :ₛ false = false)) <;> first | (exfalso; cases hq; done) | (exfalso; simp only [decide_eq_true_eq, decide_eq_false_iff_not, beq_iff_eq, beq_eq_false_iff_ne, ne_eq, Int.not_lt, Int.not_le] at hq; omega) | simp only [Act.put, List.setIfInBounds_toArray, List.set_cons_succ, List.set_cons_zero]))); all_goals (refine Mix.lex_nil ?_)))
        go_ret
        have e : fieldsF s = L ++ [a :: v] := by rw [HE2.out]; simp
        exact ⟨A4, c4, by rw [e, List.length_append]; rfl, by rw [e]; exact F5.out⟩
theorem cutB_fnd (c : UInt8) (s : Str) : (cutB c s = (s, [], false) ∧ fndI s [c] 0 = -1) ∨ ∃ i : Nat, fndI s [c] 0 = (i : Int) ∧ i + 1 ≤ s.length ∧ cutB c s = (s.take i, s.drop (i + 1), true) := by
  have := fndI_cut s [c]
  rw [cut_byte] at this
  exact this
set_option maxHeartbeats 1000000 in
theorem ROnce_c (s t : Str) (hs : s.length ≤ 1000000) (ht : t.length ≤ 1000000) (w : World) :
    Calls Try.prog 79 #[S s, S t] w fun e w' => e = .returned (S (onceF s t)) ∧ Ext w w' := by
  have HC := Lib.hid (rfind1_c s hs 37 0 (Nat.zero_le _) w)
  rcases cutB_fnd 37 s with ⟨h1, h2⟩ | ⟨i, h1, h2, h3⟩
  · have HO : Hid (onceF s t = s) := by
      rw [Hid, onceF, h1]; rfl
    rw [h2] at HC
    go_enter Try.func79, Try.ntmps79
    go_wp2_with fail
    refine (HC.out).mono ?_; rintro e uu ⟨rfl, hu⟩; obtain ⟨ξ1, hnew⟩ : ∃ ξ : X w No, ξ.v = uu := ⟨⟨uu, (X.here w No).h.then_ext hu⟩, rfl⟩; subst hnew; have Hξ1 := Lib.hid hu; clear hu
    go_wp2_with fail
    go_ret
    exact ⟨by rw [HO.out]; rfl, ξ1.h⟩
  · have HO : Hid (onceF s t = s.take i ++ (t ++ s.drop (i + 1))) := by
      rw [Hid, onceF, h3, ← List.append_assoc]; rfl
    rw [h1] at HC
    have hi : i ≤ 1000000 := by omega
    have g1 : decide ((i : Int) < 0) = false := by rw [decide_eq_false_iff_not]; omega
    go_enter Try.func79, Try.ntmps79
    go_wp2_with fail
    refine (HC.out).mono ?_; rintro e uu ⟨rfl, hu⟩; obtain ⟨ξ1, hnew⟩ : ∃ ξ : X w No, ξ.v = uu := ⟨⟨uu, (X.here w No).h.then_ext hu⟩, rfl⟩; subst hnew; have Hξ1 := Lib.hid hu; clear hu
    go_upto_region 4 with fail
    (refine Mix.wp_draw [] 100 (Cl (w) (No)) (by kernel_rfl) (by kernel_rfl) (Cl.drew_ ξ1) ?_; (repeat' (first | (refine Mix.lex_quiet0 rfl rfl rfl ?_; intro K hK; go_big_quiet_op; go_big_quiet_on) | (refine Mix.lex_quietG rfl rfl rfl (by with_reducible rfl) rfl rfl ?_; intro K hK; go_big_quiet_op; go_big_quiet_on) | ((first | refine Mix.lex_skipT rfl rfl rfl (by with_reducible rfl) ?_ | refine Mix.lex_skipF rfl rfl rfl (by with_reducible rfl) ?_ | refine Mix.lex_skipU rfl rfl rfl (by with_reducible rfl) ?_); simp only [Act.put, List.setIfInBounds_toArray, List.set_cons_succ, List.set_cons_zero]) | (refine Mix.lex_part rfl rfl rfl rfl (fun hq => ?_) (fun hq => ?_) <;> (fail_if_success (guard_hyp hq :ₛ true = true)) <;> (fail_if_success (guard_hyp hq :ₛ false = false)) <;> first | (exfalso; cases hq; done) | (exfalso; simp only [decide_eq_true_eq, decide_eq_false_iff_not, beq_iff_eq, beq_eq_false_iff_ne, ne_eq, Int.not_lt, Int.not_le] at hq; omega) | simp only [Act.put, List.setIfInBounds_toArray, List.set_cons_succ, List.set_cons_zero]))))
    all_goals (refine Mix.lex_nil ?_)
    go_wp2_with fail
    go_ret
    exact ⟨by rw [HO.out]; rfl, ξ1.h.drew⟩
end Go.Proofs.Ytnhaekifcieeoaa
