/- Put together: Rp2, Rp3, Rp4. -/
import Derived.Test.YtnhaekifcieeoaaGreatDoorPk12
import Derived.Deep.MidRow
import Derived.OwnWalk
namespace Go.Proofs.YtnhaekifcieeoaaGreatDoor
open Go Go.RowKit
structure TrB (w u : World) (g t0 : Nat) (gs ts : Array Value) : Prop where
  gen : Cs u g genT gs
  tab : Cs u t0 pnT ts
  x : Ext w u
  hg : w.heap.size ≤ g
  ht : w.heap.size ≤ t0
  ne : g ≠ t0
structure GsOk (gs : Array Value) (t0 : Nat) : Prop where
  p2 : gs[2]? = some (S [])
  p1 : gs[1]? = some (.int .i64 0)
  p4 : gs[4]? = some (.slice (some ⟨t0, 0, none⟩) 5 5)
  p5 : gs[5]? = some (.int .i64 5)
  m36 : gs[6 + (36 : UInt8).toNat]? = some (.int .u8 0)
  m42 : gs[6 + (42 : UInt8).toNat]? = some (.int .u8 1)
  m60 : gs[6 + (60 : UInt8).toNat]? = some (.int .u8 2)
  m64 : gs[6 + (64 : UInt8).toNat]? = some (.int .u8 3)
  m94 : gs[6 + (94 : UInt8).toNat]? = some (.int .u8 4)
  mo : ∀ c : UInt8, c ≠ 36 → c ≠ 42 → c ≠ 60 → c ≠ 64 → c ≠ 94 → gs[6 + c.toNat]? = some (.int .u8 5)
structure Tr1 (w u : World) (g t0 : Nat) (gs : Array Value) (a : Str) (n1 n2 : Nat) : Prop where
  b : TrB w u g t0 gs #[rpt n1, .pointer none, .pointer none, .pointer none, .pointer none]
  c1 : Cs u n1 nodT #[S [], .int .i64 0, S [64], rpt n2, .slice none 0 0]
  c2 : Cs u n2 nodT (leafA a 8)
  h1 : w.heap.size ≤ n1
  h2 : w.heap.size ≤ n2
  n12 : n1 ≠ n2
structure Tr2 (w u : World) (g t0 : Nat) (gs ts : Array Value) (n1 t1 : Nat) : Prop where
  b : TrB w u g t0 gs #[rpt n1, .pointer none, .pointer none, .pointer none, .pointer none]
  c1 : Cs u n1 nodT #[S [], .int .i64 0, S [], .pointer none, .slice (some ⟨t1, 0, none⟩) 5 5]
  ct : Cs u t1 pnT ts
  h1 : w.heap.size ≤ n1
  h3 : w.heap.size ≤ t1
  t10 : t1 ≠ t0
structure Leaf (w u : World) (n1 n : Nat) (v : Str) (p : Int) : Prop where
  c : Cs u n nodT (leafA v p)
  h : w.heap.size ≤ n
  ne : n1 ≠ n
def TrSt (w : World) (g t0 : Nat) (gs : Array Value) (a b c d : Str) : Nat → World → Prop
  | 0, u => TrB w u g t0 gs nils5
  | 1, u => ∃ n1 n2, Tr1 w u g t0 gs a n1 n2
  | 2, u => ∃ n1 t1 n2 n3, Tr2 w u g t0 gs #[.pointer none, .pointer none, rpt n3, rpt n2, .pointer none] n1 t1 ∧ Leaf w u n1 n2 a 8 ∧ Leaf w u n1 n3 b 6
  | 3, u => ∃ n1 t1 n2 n3 n4, Tr2 w u g t0 gs #[.pointer none, .pointer none, rpt n3, rpt n2, rpt n4] n1 t1 ∧ Leaf w u n1 n2 a 8 ∧ Leaf w u n1 n3 b 6 ∧ Leaf w u n1 n4 c 4
  | _, u => ∃ n1 t1 n2 n3 n4 n5, Tr2 w u g t0 gs #[.pointer none, rpt n5, rpt n3, rpt n2, rpt n4] n1 t1 ∧ Leaf w u n1 n2 a 8 ∧ Leaf w u n1 n3 b 6 ∧ Leaf w u n1 n4 c 4 ∧ Leaf w u n1 n5 d 2
section
variable {w u v : World} {g t0 n1 n2 t1 : Nat} {gs ts : Array Value} {a : Str} {F : Nat → Prop}
theorem TrB.only (h : TrB w u g t0 gs ts) (hx : Only F u v) (hF : ∀ b, F b → w.heap.size ≤ b) (h1 : ¬ F g) (h2 : ¬ F t0) : TrB w v g t0 gs ts :=
  ⟨h.gen.keep hx h1, h.tab.keep hx h2, h.x.trans hx fun b hb e => by have := hF b e; omega, h.hg, h.ht, h.ne⟩
theorem Leaf.only {n : Nat} {x : Str} {p : Int} (h : Leaf w u n1 n x p) (hx : Only F u v) (h1 : ¬ F n) : Leaf w v n1 n x p := ⟨h.c.keep hx h1, h.h, h.ne⟩
theorem Tr1.only (h : Tr1 w u g t0 gs a n1 n2) (hx : Ext u v) : Tr1 w v g t0 gs a n1 n2 := ⟨h.b.only hx (fun _ e => e.elim) id id, h.c1.keep hx id, h.c2.keep hx id, h.h1, h.h2, h.n12⟩
theorem Tr2.only (h : Tr2 w u g t0 gs ts n1 t1) (hx : Ext u v) : Tr2 w v g t0 gs ts n1 t1 := ⟨h.b.only hx (fun _ e => e.elim) id id, h.c1.keep hx id, h.ct.keep hx id, h.h1, h.h3, h.t10⟩
end
theorem TrSt.ext {w u v : World} {g t0 : Nat} {gs : Array Value} {a b c d : Str} {j : Nat} (h : TrSt w g t0 gs a b c d j u) (hx : Ext u v) : TrSt w g t0 gs a b c d j v := by
  unfold TrSt at h ⊢
  split at h
  · exact h.only hx (fun _ e => e.elim) id id
  · obtain ⟨n1, n2, h⟩ := h; exact ⟨n1, n2, h.only hx⟩
  · obtain ⟨n1, t1, n2, n3, h, h2, h3⟩ := h; exact ⟨n1, t1, n2, n3, h.only hx, h2.only hx id, h3.only hx id⟩
  · obtain ⟨n1, t1, n2, n3, n4, h, h2, h3, h4⟩ := h; exact ⟨n1, t1, n2, n3, n4, h.only hx, h2.only hx id, h3.only hx id, h4.only hx id⟩
  · obtain ⟨n1, t1, n2, n3, n4, n5, h, h2, h3, h4, h5⟩ := h; exact ⟨n1, t1, n2, n3, n4, n5, h.only hx, h2.only hx id, h3.only hx id, h4.only hx id, h5.only hx id⟩
def keyAt : Nat → Str
  | 0 => [36, 64]
  | 1 => [36, 60]
  | 2 => [36, 94]
  | _ => [36, 42]
def valAt (a b c d : Str) : Nat → Str
  | 0 => a
  | 1 => b
  | 2 => c
  | _ => d
theorem add_step {w : World} {g t0 : Nat} {gs : Array Value} {a b c d : Str} (hgs : GsOk gs t0) : ∀ (j : Nat), j < 4 → ∀ u, TrSt w g t0 gs a b c d j u → ∀ v, v = valAt a b c d j →
    Calls Tryz.prog 196 #[rpt g, S (keyAt j), S v, .int .i64 (8 - 2 * (j : Int)), rpt g] u fun e u' => e = .returned (.tuple #[]) ∧ TrSt w g t0 gs a b c d (j + 1) u'
  | 0, _, u, h, v, hv => by
    have h : TrB w u g t0 gs nils5 := h
    have hv : v = a := hv
    subst hv
    refine add_nil (b := g) (g := g) (tb := t0) (m := 0) (c := 36) (r := [64]) v 8 (by omega) h.gen hgs.p2 hgs.p4 h.tab rfl h.ne h.gen hgs.m36 fun u1 k hk hx ht hn => ?_
    have hB := h.x.size
    refine (add_new (g := g) (c := 64) (r := []) v 8 hn).mono ?_
    rintro e u2 ⟨rfl, n2, hn2, c1, c2, ho⟩
    have hgk : g ≠ k := by have := h.gen.lt; omega
    have htk : t0 ≠ k := by have := h.tab.lt; omega
    refine ⟨rfl, k, n2, ⟨⟨(h.gen.keep hx (fun e => h.ne e)).keep ho hgk, (show Cs u1 t0 pnT _ from ht).keep ho htk, (h.x.trans hx fun b hb e => by have e : b = t0 := e; have := h.ht; omega).trans ho fun b hb e => by have e : b = k := e; omega, h.hg, h.ht, h.ne⟩, c1, c2, by omega, by have := hx.size; omega, ?_⟩⟩
    have := hn.lt
    omega
  | 1, _, u, h, v, hv => by
    obtain ⟨n1, n2, h⟩ : ∃ n1 n2, Tr1 w u g t0 gs a n1 n2 := h
    have hv : v = b := hv
    subst hv
    refine add_old (b := g) (g := g) (tb := t0) (n := n1) (m := 0) (c := 36) (r := [60]) v 6 (by omega) h.b.gen hgs.p2 hgs.p4 h.b.tab rfl h.b.gen hgs.m36 fun u1 hx => ?_
    have h := h.only hx
    have hgn : n1 ≠ g := (h.c1.ne_ h.b.gen (by decide))
    refine (add_split (b := n1) (g := g) (k0 := n2) (mx := 3) (mc := 2) (x := 64) (c := 60) v 6 (by decide) (by omega) (by omega) hgn h.c1 h.b.gen hgs.p5 hgs.m64 hgs.m60).mono ?_
    rintro e u2 ⟨rfl, k, tb, hk, htb, hkt, c1, c2, c3, ho⟩
    have hB := h.b.x.size
    have h0n : t0 ≠ n1 := (h.b.tab.ne_ h.c1 (by decide))
    refine ⟨rfl, n1, tb, n2, k, ⟨h.b.only ho (fun b e => by have e : b = n1 := e; have := h.h1; omega) (fun e => hgn e.symm) h0n, c1, c2, h.h1, by omega, ?_⟩, ⟨h.c2.keep ho (fun e => h.n12 e.symm), h.h2, h.n12⟩, ⟨c3, by omega, ?_⟩⟩
    · have := h.b.tab.lt; omega
    · have := h.c1.lt; omega
  | 2, _, u, h, v, hv => by
    obtain ⟨n1, t1, n2, n3, h, l2, l3⟩ : ∃ n1 t1 n2 n3, Tr2 w u g t0 gs #[.pointer none, .pointer none, rpt n3, rpt n2, .pointer none] n1 t1 ∧ Leaf w u n1 n2 a 8 ∧ Leaf w u n1 n3 b 6 := h
    have hv : v = c := hv
    subst hv
    refine add_old (b := g) (g := g) (tb := t0) (n := n1) (m := 0) (c := 36) (r := [94]) v 4 (by omega) h.b.gen hgs.p2 hgs.p4 h.b.tab rfl h.b.gen hgs.m36 fun u1 hx => ?_
    have h := h.only hx
    have l2 := l2.only hx id
    have l3 := l3.only hx id
    have hnt : n1 ≠ t1 := (h.c1.ne_ h.ct (by decide))
    refine add_nil (b := n1) (g := g) (tb := t1) (m := 4) (c := 94) (r := []) v 4 (by omega) h.c1 rfl rfl h.ct rfl hnt h.b.gen hgs.m94 fun u2 k hk hx2 ht hn => ?_
    have hB := h.b.x.size
    refine (add_leaf (g := g) v 4 hn).mono ?_
    rintro e u3 ⟨rfl, c3, ho⟩
    have hnt2 : ∀ n, Cs u1 n nodT (leafA a 8) ∨ Cs u1 n nodT (leafA b 6) → n ≠ t1 := fun n e => e.elim (fun e => e.ne_ h.ct (by decide)) fun e => e.ne_ h.ct (by decide)
    have lk : ∀ n, n < u1.heap.size → n ≠ k := fun n e => by omega
    have hg1 : g ≠ t1 := h.b.gen.ne_ h.ct (by decide)
    refine ⟨rfl, n1, t1, n2, n3, k, ⟨(h.b.only hx2 (fun b e => by have e : b = t1 := e; have := h.h3; omega) hg1 (fun e => h.t10 e.symm)).only ho (fun b e => by have e : b = k := e; omega) (lk _ h.b.gen.lt) (lk _ h.b.tab.lt), (h.c1.keep hx2 hnt).keep ho (lk _ h.c1.lt), (show Cs u2 t1 pnT _ from ht).keep ho (lk _ h.ct.lt), h.h1, h.h3, h.t10⟩,
      (l2.only hx2 (hnt2 _ (.inl l2.c))).only ho (lk _ l2.c.lt), (l3.only hx2 (hnt2 _ (.inr l3.c))).only ho (lk _ l3.c.lt), ⟨c3, by omega, (lk _ h.c1.lt)⟩⟩
  | 3, _, u, h, v, hv => by
    obtain ⟨n1, t1, n2, n3, n4, h, l2, l3, l4⟩ : ∃ n1 t1 n2 n3 n4, Tr2 w u g t0 gs #[.pointer none, .pointer none, rpt n3, rpt n2, rpt n4] n1 t1 ∧ Leaf w u n1 n2 a 8 ∧ Leaf w u n1 n3 b 6 ∧ Leaf w u n1 n4 c 4 := h
    have hv : v = d := hv
    subst hv
    refine add_old (b := g) (g := g) (tb := t0) (n := n1) (m := 0) (c := 36) (r := [42]) v 2 (by omega) h.b.gen hgs.p2 hgs.p4 h.b.tab rfl h.b.gen hgs.m36 fun u1 hx => ?_
    have h := h.only hx
    have l2 := l2.only hx id
    have l3 := l3.only hx id
    have l4 := l4.only hx id
    have hnt : n1 ≠ t1 := (h.c1.ne_ h.ct (by decide))
    refine add_nil (b := n1) (g := g) (tb := t1) (m := 1) (c := 42) (r := []) v 2 (by omega) h.c1 rfl rfl h.ct rfl hnt h.b.gen hgs.m42 fun u2 k hk hx2 ht hn => ?_
    have hB := h.b.x.size
    refine (add_leaf (g := g) v 2 hn).mono ?_
    rintro e u3 ⟨rfl, c3, ho⟩
    have hnt2 : ∀ n x (p : Int), Cs u1 n nodT (leafA x p) → n ≠ t1 := fun n x p e => e.ne_ h.ct (by decide)
    have lk : ∀ n, n < u1.heap.size → n ≠ k := fun n e => by omega
    have hg1 : g ≠ t1 := h.b.gen.ne_ h.ct (by decide)
    refine ⟨rfl, n1, t1, n2, n3, n4, k, ⟨(h.b.only hx2 (fun b e => by have e : b = t1 := e; have := h.h3; omega) hg1 (fun e => h.t10 e.symm)).only ho (fun b e => by have e : b = k := e; omega) (lk _ h.b.gen.lt) (lk _ h.b.tab.lt), (h.c1.keep hx2 hnt).keep ho (lk _ h.c1.lt), (show Cs u2 t1 pnT _ from ht).keep ho (lk _ h.ct.lt), h.h1, h.h3, h.t10⟩,
      (l2.only hx2 (hnt2 _ _ _ l2.c)).only ho (lk _ l2.c.lt), (l3.only hx2 (hnt2 _ _ _ l3.c)).only ho (lk _ l3.c.lt), (l4.only hx2 (hnt2 _ _ _ l4.c)).only ho (lk _ l4.c.lt), ⟨c3, by omega, (lk _ h.c1.lt)⟩⟩
  | j + 4, hj, _, _, _, _ => absurd hj (by omega)
abbrev genHd (tab : Value) (ts : Int) : List Value := [S [], .int .i64 0, S [], .pointer none, tab, .int .i64 ts]
abbrev mapL (m : Nat → Int) : List Value := (List.range 256).map fun k => .int .u8 (m k)
def genA (tab : Value) (ts : Int) (m : Nat → Int) : Array Value := (genHd tab ts ++ mapL m).toArray
theorem mapL_get {m : Nat → Int} {k : Nat} (h : k < 256) : (mapL m)[k]? = some (.int .u8 (m k)) := by
  rw [List.getElem?_map, List.getElem?_range h]; rfl
theorem genA_map {tab : Value} {ts : Int} {m : Nat → Int} {k : Nat} (h : k < 256) : (genA tab ts m)[6 + k]? = some (.int .u8 (m k)) := by
  unfold genA
  rw [List.getElem?_toArray, List.getElem?_append_right (by simp), show 6 + k - (genHd tab ts).length = k by simp, mapL_get h]
theorem genA_size (tab : Value) (ts : Int) (m : Nat → Int) : (genA tab ts m).size = 262 := by simp [genA]
def upd (m : Nat → Int) (k : Nat) (x : Int) : Nat → Int := fun i => if i = k then x else m i
theorem genA_set {tab : Value} {ts : Int} {m : Nat → Int} {k : Nat} (x : Int) : (genA tab ts m).setIfInBounds (6 + k) (.int .u8 x) = genA tab ts (upd m k x) := by
  apply Array.ext_getElem?
  intro i
  rw [Array.getElem?_setIfInBounds, genA_size]
  by_cases h : 6 + k = i
  · subst h
    by_cases hk : 6 + k < 262
    · rw [if_pos rfl, if_pos hk, genA_map (by omega)]
      simp [upd]
    · rw [if_pos rfl, if_neg hk, Array.getElem?_eq_none (by rw [genA_size]; omega)]
  · rw [if_neg h]
    rcases Nat.lt_or_ge i 6 with h6 | h6
    · unfold genA
      rw [List.getElem?_toArray, List.getElem?_toArray, List.getElem?_append_left (by simpa using h6), List.getElem?_append_left (by simpa using h6)]
    · rcases Nat.lt_or_ge i 262 with h2 | h2
      · obtain ⟨j, rfl⟩ : ∃ j, i = 6 + j := ⟨i - 6, by omega⟩
        rw [genA_map (by omega), genA_map (by omega)]
        unfold upd
        rw [if_neg (by omega)]
      · rw [Array.getElem?_eq_none (by rw [genA_size]; omega), Array.getElem?_eq_none (by rw [genA_size]; omega)]
theorem genA_set5 {tab : Value} {ts : Int} {m : Nat → Int} (x : Int) : (genA tab ts m).setIfInBounds 5 (.int .i64 x) = genA tab x m := by simp [genA]
theorem genA_set4 {tab : Value} {ts : Int} {m : Nat → Int} (x : Value) : (genA tab ts m).setIfInBounds 4 x = genA x ts m := by simp [genA]
def keyBs : List Nat := [36, 64, 36, 60, 36, 94, 36, 42]
def mA : Nat → Nat → Int
  | 0 => fun _ => 0
  | n + 1 => upd (mA n) (keyBs.getD n 0) 1
def sumTo (m : Nat → Int) : Nat → Int
  | 0 => 0
  | n + 1 => sumTo m n + m n
theorem mA_01 : ∀ (n k : Nat), mA n k = 0 ∨ mA n k = 1
  | 0, _ => .inl rfl
  | n + 1, k => by
    unfold mA upd
    split
    · exact .inr rfl
    · exact mA_01 n k
theorem sumTo_le {m : Nat → Int} (h : ∀ k, m k = 0 ∨ m k = 1) : ∀ n : Nat, 0 ≤ sumTo m n ∧ sumTo m n ≤ n
  | 0 => ⟨Int.le_refl _, Int.le_refl _⟩
  | n + 1 => by
    have := sumTo_le h n
    have := h n
    unfold sumTo
    omega
theorem sumTo_mono {m : Nat → Int} (h : ∀ k, m k = 0 ∨ m k = 1) (n : Nat) : ∀ d, sumTo m n ≤ sumTo m (n + d)
  | 0 => Int.le_refl _
  | d + 1 => by
    have := sumTo_mono h n d
    have := h (n + d)
    show sumTo m n ≤ sumTo m (n + d) + m (n + d)
    omega
theorem sum256 : sumTo (mA 8) 256 = 5 := by decide +kernel
def entF (k : Nat) : Int := if mA 8 k = 0 then 5 else sumTo (mA 8) k
theorem ent_zero {k : Nat} (h : mA 8 k = 0) : entF k = 5 := if_pos h
theorem ent_one {k : Nat} (h : mA 8 k = 1) : entF k = sumTo (mA 8) k := if_neg (by omega)
def mB (i : Nat) : Nat → Int := fun k => if k < i then entF k else mA 8 k
theorem mB_succ (i : Nat) : mB (i + 1) = upd (mB i) i (entF i) := by
  funext k
  show (if k < i + 1 then entF k else mA 8 k) = if k = i then entF i else if k < i then entF k else mA 8 k
  by_cases h : k = i
  · subst h; simp
  · rw [if_neg h]
    by_cases hk : k < i
    · rw [if_pos (by omega), if_pos hk]
    · rw [if_neg (by omega), if_neg hk]
theorem mB_zero : mB 0 = mA 8 := by funext k; simp [mB]
theorem ent_all : ((List.range 256).all fun k => k == 36 || k == 42 || k == 60 || k == 64 || k == 94 || mB 256 k == 5) = true := by decide +kernel
theorem ent_other (k : Nat) (hk : k < 256) (h1 : k ≠ 36) (h2 : k ≠ 42) (h3 : k ≠ 60) (h4 : k ≠ 64) (h5 : k ≠ 94) : mB 256 k = 5 := by
  have := List.all_eq_true.1 ent_all k (List.mem_range.2 hk)
  simp only [Bool.or_eq_true, beq_iff_eq] at this
  omega
theorem mB_at : mB 256 36 = 0 ∧ mB 256 42 = 1 ∧ mB 256 60 = 2 ∧ mB 256 64 = 3 ∧ mB 256 94 = 4 := by decide +kernel
theorem genA_hd {tab : Value} {ts : Int} {m : Nat → Int} {k : Nat} (h : k < 6) : (genA tab ts m)[k]? = (genHd tab ts)[k]? := by
  unfold genA
  rw [List.getElem?_toArray, List.getElem?_append_left (by simpa using h)]
theorem gs_ok (t0 : Nat) : GsOk (genA (.slice (some ⟨t0, 0, none⟩) 5 5) 5 (mB 256)) t0 :=
  ⟨genA_hd (by decide), genA_hd (by decide), genA_hd (by decide), genA_hd (by decide), (genA_map (by decide)).trans (by rw [show (36 : UInt8).toNat = 36 from rfl, mB_at.1]), (genA_map (by decide)).trans (by rw [show (42 : UInt8).toNat = 42 from rfl, mB_at.2.1]), (genA_map (by decide)).trans (by rw [show (60 : UInt8).toNat = 60 from rfl, mB_at.2.2.1]), (genA_map (by decide)).trans (by rw [show (64 : UInt8).toNat = 64 from rfl, mB_at.2.2.2.1]), (genA_map (by decide)).trans (by rw [show (94 : UInt8).toNat = 94 from rfl, mB_at.2.2.2.2]),
    fun c h1 h2 h3 h4 h5 => by
      have hc : c.toNat < 256 := c.toNat_lt
      rw [genA_map hc]
      have ne : ∀ d : UInt8, c ≠ d → c.toNat ≠ d.toNat := fun d h e => h (UInt8.toNat_inj.1 e)
      have := ent_other c.toNat hc (ne 36 h1) (ne 42 h2) (ne 60 h3) (ne 64 h4) (ne 94 h5)
      rw [show mB 256 c.toNat = 5 from this]⟩
theorem gen_zero : Tryz.zeroCells264 = genA (.slice none 0 0) 0 (mA 0) := by kernel_rfl
theorem gen_range {w : World} {g : Nat} {tab : Value} {ts : Int} {m : Nat → Int} (h : Cs w g genT (genA tab ts m)) : w.rangeAt g 6 (mapL m) := fun j v hj => by
  have hj2 : j < 256 := by
    have := (List.getElem?_eq_some_iff.1 hj).1
    simpa using this
  rw [h.cell, genA_map hj2, ← hj, mapL_get hj2]
theorem gen_info (m : Nat → Int) : (Tryz.prog.info? 211).map (·.size) = some (mapL m).length := by
  rw [List.length_map, List.length_range]
  kernel_rfl
theorem idx_arr {w : World} {arr : Array Value} {q : Nat} {x : Int} (hq : q < 256) (ha : arr[q]? = some (.int .u8 x)) : (Instr.index 211 (.agg arr) (.int .i64 (q : Int))).run Tryz.prog w = .ok (.int .u8 x) w := by
  have hi : 0 ≤ (q : Int) ∧ (q : Int) < ((256 : Nat) : Int) := by omega
  have hz : q < arr.size := (Array.getElem?_eq_some_iff.1 ha).1
  have hg : arr[q] = .int .u8 x := (Array.getElem?_eq_some_iff.1 ha).2
  simp [Instr.index, run_underlying Tryz.underlying211, asIntOf, hq, hz, hg, ha, go_sem]
theorem TrSt.x {w u : World} {g t0 : Nat} {gs : Array Value} {a b c d : Str} {j : Nat} (h : TrSt w g t0 gs a b c d j u) : Ext w u := by
  unfold TrSt at h
  split at h
  · exact h.x
  · obtain ⟨n1, n2, h⟩ := h; exact h.b.x
  · obtain ⟨n1, t1, n2, n3, h, _⟩ := h; exact h.b.x
  · obtain ⟨n1, t1, n2, n3, n4, h, _⟩ := h; exact h.b.x
  · obtain ⟨n1, t1, n2, n3, n4, n5, h, _⟩ := h; exact h.b.x
structure Arr (m : Nat → Int) (arr : Array Value) : Prop where
  size : arr.size = 256
  get : ∀ k, k < 256 → arr[k]? = some (.int .u8 (m k))
theorem arr_of (m : Nat → Int) : ∃ arr, arr = (mapL m).toArray ∧ Arr m arr := ⟨_, rfl, by simp, fun k hk => by rw [List.getElem?_toArray]; exact mapL_get hk⟩
set_option maxRecDepth 100000 in
set_option maxHeartbeats 4000000 in
theorem makeGen_c {w : World} {A : Option Addr} {cp : Nat} {a b c d : Str} (h : SlR strF w A 8 [[36, 64], a, [36, 60], b, [36, 94], c, [36, 42], d]) :
    Calls Tryz.prog 188 #[.slice A 8 cp] w fun e w' => ∃ g t0, e = .returned (rpt g) ∧ TrSt w g t0 (genA (.slice (some ⟨t0, 0, none⟩) 5 5) 5 (mB 256)) a b c d 4 w' := by
  obtain ⟨w1, hw1⟩ : ∃ u, u = w.alloc (.cells Tryz.zeroCells264 genT) := ⟨_, rfl⟩
  obtain ⟨g, hg⟩ : ∃ g, g = w.heap.size := ⟨_, rfl⟩
  have h1 : Cs w1 g genT (genA (.slice none 0 0) 0 (mA 0)) := by rw [hw1, hg, gen_zero]; exact Cs.new _ _ _
  have x1 : Ext w w1 := by rw [hw1]; exact (Only.refl No w).alloc _
  have H := Lib.hid (And.intro h (And.intro h1 (And.intro x1 hg)))
  clear h h1 x1
  go_enter Tryz.func188, Tryz.ntmps188
  go_upto_region 2 with fail
  rw [← hw1, ← hg]
  clear hw1 hg
  go_wp2_with fail
  go_loopw [4, 5, 6] (fun i _ _ wr => ∃ j : Nat, j ≤ 4 ∧ i = .int .i64 (2 * (j : Int)) ∧ Cs wr g genT (genA (.slice none 0 0) 0 (mA (2 * j))) ∧ Only (fun x => x = g) w1 wr) (fun i _ _ _ => 8 - (intOf i).toNat)
  case atStart => exact ⟨0, by omega, rfl, H.out.2.1, Only.refl _ _⟩
  case round =>
    obtain ⟨j, hj, rfl, hC, hO⟩ := hrel
    have HC := Lib.hid hC
    have HO := Lib.hid hO
    clear hC hO
    by_cases hlt : j < 4
    · have hk : ∃ kx : UInt8, [[36, 64], a, [36, 60], b, [36, 94], c, [36, 42], d][2 * j]? = some [36, kx] ∧ keyBs.getD (2 * j) 0 = 36 ∧ keyBs.getD (2 * j + 1) 0 = kx.toNat := by
        match j, hlt with
        | 0, _ => exact ⟨64, rfl, rfl, rfl⟩
        | 1, _ => exact ⟨60, rfl, rfl, rfl⟩
        | 2, _ => exact ⟨94, rfl, rfl, rfl⟩
        | 3, _ => exact ⟨42, rfl, rfl, rfl⟩
      obtain ⟨kx, hk1, hk2, hk3⟩ := hk
      obtain ⟨bb, o, s, rfl, hx, c0⟩ := strs_get H.out.1 (k := 2 * j) (by omega)
      rw [hk1] at hx
      obtain rfl : [36, kx] = s := Option.some.inj hx
      have HX := Lib.hid (And.intro hk2 hk3)
      clear hx hk1 hk2 hk3
      have c0 : ∀ u, Ext w u → u.cell? ⟨bb, o + 2 * j, none⟩ = some (S [36, kx]) := fun u hu => c0 ⟨u, hu⟩
      have hkx : kx.toNat < 256 := kx.toNat_lt
      have HW : Hid (Ext w wr) := H.out.2.2.1.trans HO.out fun b hb e => by have e : b = g := e; have := H.out.2.2.2; omega
      have c00 := c0 wr HW.out
      go_wp2_with fail
      go_loopw [6] (fun i wr2 => ∃ (k : Nat) (q : Int), k ≤ 2 ∧ q = k ∧ i = .int .i64 q ∧ Cs wr2 g genT (genA (.slice none 0 0) 0 (mA (2 * j + k))) ∧ Only (fun x => x = g) w1 wr2) (fun i _ => 2 - (intOf i).toNat)
      case atStart => exact ⟨0, 0, by omega, rfl, rfl, HC.out, HO.out⟩
      case round =>
        clear HC HO
        obtain ⟨k, q, hk, hq, rfl, hC, hO⟩ := hrel
        have HC := Lib.hid hC
        have HO := Lib.hid hO
        clear hC hO
        have key : ∀ (x : UInt8) (k : Nat), k < 2 → [36, kx][k]? = some x → (x.toNat < 256 ∧ ∀ wr2, Cs wr2 g genT (genA (.slice none 0 0) 0 (mA (2 * j + k))) → Cs ((wr2.setCell ⟨g, 6 + x.toNat, none⟩ (.int .u8 1)).drew) g genT (genA (.slice none 0 0) 0 (mA (2 * j + (k + 1))))) := fun x k hk hx => by
          refine ⟨x.toNat_lt, fun u hu => ?_⟩
          have e : mA (2 * j + (k + 1)) = upd (mA (2 * j + k)) x.toNat 1 := by
            show upd (mA (2 * j + k)) (keyBs.getD (2 * j + k) 0) 1 = _
            match k, hk with
            | 0, _ => rw [Nat.add_zero, HX.out.1, ← Option.some.inj hx]; rfl
            | 1, _ => rw [HX.out.2, ← Option.some.inj hx]
          rw [e, ← genA_set]
          exact (hu.set_ _ _).drew
        have KEY := Lib.hid key
        clear key
        by_cases hk2 : k < 2
        · have hkv : k = 0 ∨ k = 1 := by omega
          rcases hkv with rfl | rfl
          · obtain rfl : q = 0 := by omega
            obtain ⟨h256, KY⟩ := KEY.out 36 0 (by omega) rfl
            have s1 : wr.drew.cell? ⟨g, 42, none⟩ = some (.int .u8 (mA (2 * j + 0) (36 : UInt8).toNat)) := (HC.out.drew.cell _).trans (genA_map h256)
            have s2 : wr.drew.frozen? ⟨g, 42, none⟩ = false := HC.out.drew.frozen _
            have KY2 := Lib.hid KY
            clear KY KEY hq
            go_upto_region 9 with fail
            (refine Mix.wp_draw [7] 7 (Cl (wr) (No)) (by kernel_rfl) (by kernel_rfl) (Cl.drew_ (X.here wr No)) ?_; (repeat' (first | (refine Mix.lex_quiet0 rfl rfl rfl ?_; intro K hK; go_big_quiet_op; go_big_quiet_on) | (refine Mix.lex_quietG rfl rfl rfl (by with_reducible rfl) rfl rfl ?_; intro K hK; go_big_quiet_op; go_big_quiet_on) | ((first | refine Mix.lex_skipT rfl rfl rfl (by with_reducible rfl) ?_ | refine Mix.lex_skipF rfl rfl rfl (by with_reducible rfl) ?_ | refine Mix.lex_skipU rfl rfl rfl (by with_reducible rfl) ?_); simp only [Act.put, List.setIfInBounds_toArray, List.set_cons_succ, List.set_cons_zero]) | (refine Mix.lex_part rfl rfl rfl rfl (fun hq => ?_) (fun hq => ?_) <;> (fail_if_success (guard_hyp hq :ₛ true = true)) <;> (fail_if_success (guard_hyp hq :ₛ false = false)) <;> first | (exfalso; cases hq; done) | (exfalso; simp only [decide_eq_true_eq, decide_eq_false_iff_not, beq_iff_eq, beq_eq_false_iff_ne, ne_eq, Int.not_lt, Int.not_le] at hq; omega) | simp only [Act.put, List.setIfInBounds_toArray, List.set_cons_succ, List.set_cons_zero]))))
            ((first | refine Mix.lex_goes0 rfl rfl ?_ | refine Mix.lex_goesG rfl rfl rfl (by with_reducible rfl) rfl ?_); intro K hK; go_simp)
            refine hK _ _ (fun hne => absurd rfl hne) ?_
            clear hK K
            simp only [Act.put, List.setIfInBounds_toArray, List.set_cons_succ, List.set_cons_zero]
            refine Mix.lex_nil ?_
            obtain ⟨w3, hw3⟩ : ∃ u, u = (wr.setCell ⟨g, 42, none⟩ (.int .u8 1)).drew := ⟨_, rfl⟩
            have h3 : Hid (Cs w3 g genT (genA (.slice none 0 0) 0 (mA (2 * j + (0 + 1))))) := by rw [hw3]; exact KY2.out _ HC.out
            have o3 : Hid (Only (fun x => x = g) w1 w3) := by rw [hw3]; exact (HO.out.at_ _ _).drew
            first | rw [← hw3] | (trace_state; fail)
            clear hw3 s1 s2 KY2 HC HO h256
            go_wp2_with fail
            go_roundw
            case rel => exact ⟨0 + 1, _, by omega, by omega, rfl, h3.out, o3.out⟩
            case measure => simp [intOf]
          · obtain rfl : q = 1 := by omega
            obtain ⟨h256, KY⟩ := KEY.out kx 1 (by omega) rfl
            have s1 : wr.drew.cell? ⟨g, 6 + (kx : UInt8).toNat, none⟩ = some (.int .u8 (mA (2 * j + 1) (kx : UInt8).toNat)) := (HC.out.drew.cell _).trans (genA_map h256)
            have s2 : wr.drew.frozen? ⟨g, 6 + (kx : UInt8).toNat, none⟩ = false := HC.out.drew.frozen _
            have KY2 := Lib.hid KY
            clear KY KEY hq
            go_upto_region 9 with fail
            (refine Mix.wp_draw [7] 7 (Cl (wr) (No)) (by kernel_rfl) (by kernel_rfl) (Cl.drew_ (X.here wr No)) ?_; (repeat' (first | (refine Mix.lex_quiet0 rfl rfl rfl ?_; intro K hK; go_big_quiet_op; go_big_quiet_on) | (refine Mix.lex_quietG rfl rfl rfl (by with_reducible rfl) rfl rfl ?_; intro K hK; go_big_quiet_op; go_big_quiet_on) | ((first | refine Mix.lex_skipT rfl rfl rfl (by with_reducible rfl) ?_ | refine Mix.lex_skipF rfl rfl rfl (by with_reducible rfl) ?_ | refine Mix.lex_skipU rfl rfl rfl (by with_reducible rfl) ?_); simp only [Act.put, List.setIfInBounds_toArray, List.set_cons_succ, List.set_cons_zero]) | (refine Mix.lex_part rfl rfl rfl rfl (fun hq => ?_) (fun hq => ?_) <;> (fail_if_success (guard_hyp hq :ₛ true = true)) <;> (fail_if_success (guard_hyp hq :ₛ false = false)) <;> first | (exfalso; cases hq; done) | (exfalso; simp only [decide_eq_true_eq, decide_eq_false_iff_not, beq_iff_eq, beq_eq_false_iff_ne, ne_eq, Int.not_lt, Int.not_le] at hq; omega) | simp only [Act.put, List.setIfInBounds_toArray, List.set_cons_succ, List.set_cons_zero]))))
            ((first | refine Mix.lex_goes0 rfl rfl ?_ | refine Mix.lex_goesG rfl rfl rfl (by with_reducible rfl) rfl ?_); intro K hK; go_simp)
            refine hK _ _ (fun hne => absurd rfl hne) ?_
            clear hK K
            simp only [Act.put, List.setIfInBounds_toArray, List.set_cons_succ, List.set_cons_zero]
            refine Mix.lex_nil ?_
            obtain ⟨w3, hw3⟩ : ∃ u, u = (wr.setCell ⟨g, 6 + (kx : UInt8).toNat, none⟩ (.int .u8 1)).drew := ⟨_, rfl⟩
            have h3 : Hid (Cs w3 g genT (genA (.slice none 0 0) 0 (mA (2 * j + (1 + 1))))) := by rw [hw3]; exact KY2.out _ HC.out
            have o3 : Hid (Only (fun x => x = g) w1 w3) := by rw [hw3]; exact (HO.out.at_ _ _).drew
            first | rw [← hw3] | (trace_state; fail)
            clear hw3 s1 s2 KY2 HC HO h256
            go_wp2_with fail
            go_roundw
            case rel => exact ⟨1 + 1, _, by omega, by omega, rfl, h3.out, o3.out⟩
            case measure => simp [intOf]
        · obtain rfl : k = 2 := by omega
          obtain rfl : q = 2 := by omega
          clear hq hk2 hk KEY
          go_wp2_with fail
          go_roundw
          case rel => exact ⟨j + 1, by omega, by go_num, HC.out, HO.out⟩
          case measure => simp [intOf]; omega
    · obtain rfl : j = 4 := by omega
      obtain ⟨w2, hw2⟩ : ∃ u, u = wr := ⟨_, rfl⟩
      subst hw2
      obtain ⟨arr, har, hA⟩ := arr_of (mA 8)
      have HA := Lib.hid hA
      have asz := hA.size
      have HLd := Lib.hid (gen_range HC.out)
      have HI := Lib.hid (gen_info (mA 8))
      clear hA hlt hj
      go_wp2_with fail
      refine wp_load_mid _ _ rfl g 6 rfl (mapL (mA 8)) _ HLd.out Tryz.underlying211 rfl HI.out ?_
      rw [← har]
      have HAr := Lib.hid har
      clear har HLd
      go_wp2_with fail
      go_loopw [41] (fun i wr => ∃ q : Nat, q ≤ 256 ∧ i = .int .i64 (q : Int) ∧ Cs wr g genT (genA (.slice none 0 0) (sumTo (mA 8) q) (mA 8)) ∧ Only (fun x => x = g) w1 wr) (fun i _ => 256 - (intOf i).toNat)
      case atStart => exact ⟨0, by omega, rfl, HC.out, HO.out⟩
      case round =>
        clear HC HO
        obtain ⟨q, hq, rfl, hC, hO⟩ := hrel
        have HC := Lib.hid hC
        have HO := Lib.hid hO
        clear hC hO
        by_cases hq2 : q < 256
        · have ha := HA.out.get q hq2
          have hix : ∀ u, (Instr.index 211 (.agg arr) (.int .i64 (q : Int))).run Tryz.prog u = .ok (.int .u8 (mA 8 q)) u := fun u => idx_arr hq2 ha
          obtain ⟨x, hx⟩ : ∃ x, x = mA 8 q := ⟨_, rfl⟩
          obtain ⟨T, hT⟩ : ∃ x, x = sumTo (mA 8) q := ⟨_, rfl⟩
          have hx01 := mA_01 8 q
          have hT0 := sumTo_le (mA_01 8) q
          rw [← hx] at hix hx01
          rw [← hT] at HC hT0
          have HXT : Hid (sumTo (mA 8) (q + 1) = T + x) := by rw [hx, hT]; rfl
          have hTx : 0 ≤ T ∧ T ≤ 256 := by omega
          have hxx : 0 ≤ x ∧ x ≤ 1 := by omega
          clear hx hT hx01 hT0 ha
          have c5 : wr.cell? ⟨g, 5, none⟩ = some (.int .i64 T) := HC.out.cell 5
          have z5 := HC.out.frozen 5
          go_wp2_with fail
          obtain ⟨w3, hw3⟩ : ∃ u, u = wr.setCell ⟨g, 5, none⟩ (.int .i64 (T + x)) := ⟨_, rfl⟩
          rw [← hw3]
          have h3 : Hid (Cs w3 g genT (genA (.slice none 0 0) (sumTo (mA 8) (q + 1)) (mA 8))) := by rw [HXT.out, hw3, ← genA_set5]; exact HC.out.set_ 5 _
          have o3 : Hid (Only (fun x => x = g) w1 w3) := by rw [hw3]; exact HO.out.at_ _ _
          clear hw3 c5 z5 hix
          go_roundw
          case rel => exact ⟨q + 1, by omega, by go_num, h3.out, o3.out⟩
          case measure => simp [intOf]; omega
        · obtain rfl : q = 256 := by omega
          rw [sum256] at HC
          have HLd := Lib.hid (gen_range HC.out)
          clear hq hq2
          go_wp2_with fail
          refine wp_load_mid _ _ rfl g 6 rfl (mapL (mA 8)) _ HLd.out Tryz.underlying211 rfl HI.out ?_
          rw [← HAr.out]
          clear HLd
          go_wp2_with fail
          go_loopw [9, 58] (fun x i wr => ∃ q : Nat, q ≤ 256 ∧ x = .int .u8 (sumTo (mA 8) q) ∧ i = .int .i64 (q : Int) ∧ Cs wr g genT (genA (.slice none 0 0) 5 (mB q)) ∧ Only (fun x => x = g) w1 wr) (fun _ i _ => 256 - (intOf i).toNat)
          case atStart => exact ⟨0, by omega, rfl, rfl, by rw [mB_zero]; exact HC.out, HO.out⟩
          case round =>
            clear HC HO
            obtain ⟨q, hq, rfl, rfl, hC, hO⟩ := hrel
            have HC := Lib.hid hC
            have HO := Lib.hid hO
            clear hC hO
            by_cases hq2 : q < 256
            · have ha := HA.out.get q hq2
              have hix : ∀ u, (Instr.index 211 (.agg arr) (.int .i64 (q : Int))).run Tryz.prog u = .ok (.int .u8 (mA 8 q)) u := fun u => idx_arr hq2 ha
              obtain ⟨T, hT⟩ : ∃ x, x = sumTo (mA 8) q := ⟨_, rfl⟩
              have hT0 := sumTo_le (mA_01 8) q
              have hT5 := sumTo_mono (mA_01 8) (q + 1) (256 - (q + 1))
              rw [show q + 1 + (256 - (q + 1)) = 256 by omega, sum256, show sumTo (mA 8) (q + 1) = sumTo (mA 8) q + mA 8 q from rfl] at hT5
              rw [← hT] at hT0 hT5
              have HT1 : Hid (sumTo (mA 8) (q + 1) = T + mA 8 q) := by rw [hT]; rfl
              rw [← hT]
              have HT := Lib.hid hT
              have s1 : ∃ u, wr.drew.cell? ⟨g, 6 + q, none⟩ = some u := ⟨_, (HC.out.drew.cell _).trans (genA_map hq2)⟩
              obtain ⟨u0, s1⟩ := s1
              have s2 : wr.drew.frozen? ⟨g, 6 + q, none⟩ = false := HC.out.drew.frozen _
              have s3 : wr.cell? ⟨g, 6 + q, none⟩ = some u0 := s1
              have s4 : wr.frozen? ⟨g, 6 + q, none⟩ = false := HC.out.frozen _
              clear hT ha
              rcases mA_01 8 q with h0 | h1
              · have HE := Lib.hid (ent_zero h0)
                have c5 : ∀ u, u = wr.drew → u.cell? ⟨g, 5, none⟩ = some (.int .i64 5) := fun u e => by rw [e]; exact HC.out.drew.cell 5
                have c5' : wr.drew.cell? ⟨g, 5, none⟩ = some (.int .i64 5) := c5 _ rfl
                rw [h0] at hix HT1
                clear h0
                go_upto_region 20 with fail
                refine Mix.wp_draw [5, 10] 10 (Cl wr No) (by kernel_rfl) (by kernel_rfl) (Cl.drew_ (X.here wr No)) ?_
                (repeat' (refine Mix.lex_quiet0 rfl rfl rfl ?_; intro K hK; go_big_quiet_op; go_big_quiet_on))
                ((first | refine Mix.lex_goes0 rfl rfl ?_ | refine Mix.lex_goesG rfl rfl rfl (by with_reducible rfl) rfl ?_); intro K hK; go_simp)
                refine hK _ _ (fun _ => Cl.drew_ (X.here wr No)) ?_
                clear hK K
                simp only [Act.put, List.setIfInBounds_toArray, List.set_cons_succ, List.set_cons_zero]
                (repeat' (refine Mix.lex_quiet0 rfl rfl rfl ?_; intro K hK; go_big_quiet_op; go_big_quiet_on))
                ((first | refine Mix.lex_goes0 rfl rfl ?_ | refine Mix.lex_goesG rfl rfl rfl (by with_reducible rfl) rfl ?_); intro K hK; go_simp)
                refine hK _ _ (fun hne => absurd rfl hne) ?_
                clear hK K
                simp only [Act.put, List.setIfInBounds_toArray, List.set_cons_succ, List.set_cons_zero]
                refine Mix.lex_nil ?_
                obtain ⟨w3, hw3⟩ : ∃ u, u = (wr.setCell ⟨g, 6 + q, none⟩ (.int .u8 5)).drew := ⟨_, rfl⟩
                rw [← hw3]
                have h3 : Hid (Cs w3 g genT (genA (.slice none 0 0) 5 (mB (q + 1)))) := by rw [mB_succ, HE.out, hw3, ← genA_set]; exact (HC.out.set_ _ _).drew
                have o3 : Hid (Only (fun x => x = g) w1 w3) := by rw [hw3]; exact (HO.out.at_ _ _).drew
                clear hw3 c5 c5' s1 s2 s3 s4 hix
                go_wp2_with fail
                go_roundw
                case rel => exact ⟨q + 1, by omega, by rw [HT1.out, Int.add_zero], by go_num, h3.out, o3.out⟩
                case measure => simp [intOf]; omega
              · have HE := Lib.hid (ent_one h1)
                rw [← HT.out] at HE
                rw [h1] at hix HT1 hT5
                clear h1
                go_wp2_with fail
                obtain ⟨w3, hw3⟩ : ∃ u, u = wr.setCell ⟨g, 6 + q, none⟩ (.int .u8 T) := ⟨_, rfl⟩
                rw [← hw3]
                have h3 : Hid (Cs w3 g genT (genA (.slice none 0 0) 5 (mB (q + 1)))) := by rw [mB_succ, HE.out, hw3, ← genA_set]; exact HC.out.set_ _ _
                have o3 : Hid (Only (fun x => x = g) w1 w3) := by rw [hw3]; exact HO.out.at_ _ _
                clear hw3 s1 s2 s3 s4 hix
                go_roundw
                case rel => exact ⟨q + 1, by omega, by rw [HT1.out], by go_num, h3.out, o3.out⟩
                case measure => simp [intOf]; omega
            · obtain rfl : q = 256 := by omega
              clear hq hq2
              have HM := make_ptrs wr
              have c5 : wr.cell? ⟨g, 5, none⟩ = some (.int .i64 5) := HC.out.cell 5
              have c4 : ∀ o, (wr.alloc o).cell? ⟨g, 4, none⟩ = some (.slice none 0 0) := fun o => (HC.out.alloc o).cell 4
              have z4 : ∀ o, (wr.alloc o).frozen? ⟨g, 4, none⟩ = false := fun o => (HC.out.alloc o).frozen 4
              go_upto_region 25 with fail
              obtain ⟨w4, hw4⟩ : ∃ u, u = (wr.alloc (.cells #[.pointer none, .pointer none, .pointer none, .pointer none, .pointer none] pnT)).setCell ⟨g, 4, none⟩ (.slice (some ⟨wr.heap.size, 0, none⟩) 5 5) := ⟨_, rfl⟩
              obtain ⟨t0, ht0⟩ : ∃ k, k = wr.heap.size := ⟨_, rfl⟩
              rw [← hw4]
              have hgt : g ≠ t0 := by have := HC.out.lt; omega
              have T0 : Hid (TrSt w g t0 (genA (.slice (some ⟨t0, 0, none⟩) 5 5) 5 (mB 256)) a b c d 0 w4) := by
                have xw : Ext w wr := H.out.2.2.1.trans HO.out fun b hb e => by have e : b = g := e; have := H.out.2.2.2; omega
                refine ⟨?_, ?_, ?_, Nat.le_of_eq H.out.2.2.2.symm, by have := xw.size; omega, hgt⟩
                · rw [hw4, ← genA_set4 (tab := .slice none 0 0), ht0]; exact (HC.out.alloc _).set_ 4 _
                · rw [hw4, ht0]; exact (Cs.new wr pnT _).far (by rw [← ht0]; exact fun e => hgt e.symm) _
                · rw [hw4]; exact (xw.alloc _).setCell (.inl (Nat.le_of_eq H.out.2.2.2.symm)) _
              clear hw4 ht0 HM c5 c4 z4
              go_upto_region 26 with fail
              go_loopw [12] (fun i wr => ∃ j : Nat, j ≤ 4 ∧ i = .int .i64 (2 * (j : Int)) ∧ TrSt w g t0 (genA (.slice (some ⟨t0, 0, none⟩) 5 5) 5 (mB 256)) a b c d j wr) (fun i _ => 8 - (intOf i).toNat)
              case atStart => exact ⟨0, by omega, rfl, T0.out⟩
              case round =>
                clear T0 HC HO
                obtain ⟨j, hj, rfl, hT⟩ := hrel
                have HT := Lib.hid hT
                clear hT
                by_cases hlt : j < 4
                · have hk : ∃ ky vl, [[36, 64], a, [36, 60], b, [36, 94], c, [36, 42], d][2 * j]? = some ky ∧ [[36, 64], a, [36, 60], b, [36, 94], c, [36, 42], d][2 * j + 1]? = some vl ∧ ky = keyAt j ∧ vl = valAt a b c d j := by
                    match j, hlt with
                    | 0, _ => exact ⟨_, _, rfl, rfl, rfl, rfl⟩
                    | 1, _ => exact ⟨_, _, rfl, rfl, rfl, rfl⟩
                    | 2, _ => exact ⟨_, _, rfl, rfl, rfl, rfl⟩
                    | 3, _ => exact ⟨_, _, rfl, rfl, rfl, rfl⟩
                  obtain ⟨ky, vl, k1, k2, k3, k4⟩ := hk
                  have HAd : Hid (∀ u, Ext wr u → Calls Tryz.prog 196 #[rpt g, S ky, S vl, .int .i64 (8 - 2 * (j : Int)), rpt g] u fun e u' => e = .returned (.tuple #[]) ∧ TrSt w g t0 (genA (.slice (some ⟨t0, 0, none⟩) 5 5) 5 (mB 256)) a b c d (j + 1) u') := fun u hu => by
                    rw [k3]
                    exact add_step (gs_ok t0) j hlt u (HT.out.ext hu) vl k4
                  obtain ⟨bb, o, s, rfl, hx, c0⟩ := strs_get (H.out.1.ext HT.out.x) (k := 2 * j) (by omega)
                  rw [k1] at hx
                  obtain rfl : ky = s := Option.some.inj hx
                  obtain ⟨bb2, o2, s, e2, hx2, c1⟩ := strs_get (H.out.1.ext HT.out.x) (k := 2 * j + 1) (by omega)
                  rw [k2] at hx2
                  obtain rfl : vl = s := Option.some.inj hx2
                  injection e2 with e2
                  injection e2 with e2 e3
                  subst e2; subst e3
                  clear hx hx2 k1 k2 k3 k4
                  go_upto_region 28 with fail
                  (refine Mix.wp_draw [17] 17 (Cl (wr) (No)) (by kernel_rfl) (by kernel_rfl) (Cl.drew_ (X.here wr No)) ?_; (repeat' (first | (refine Mix.lex_quiet0 rfl rfl rfl ?_; intro K hK; go_big_quiet_op; go_big_quiet_on) | (refine Mix.lex_quietG rfl rfl rfl (by with_reducible rfl) rfl rfl ?_; intro K hK; go_big_quiet_op; go_big_quiet_on) | ((first | refine Mix.lex_skipT rfl rfl rfl (by with_reducible rfl) ?_ | refine Mix.lex_skipF rfl rfl rfl (by with_reducible rfl) ?_ | refine Mix.lex_skipU rfl rfl rfl (by with_reducible rfl) ?_); simp only [Act.put, List.setIfInBounds_toArray, List.set_cons_succ, List.set_cons_zero]) | (refine Mix.lex_part rfl rfl rfl rfl (fun hq => ?_) (fun hq => ?_) <;> (fail_if_success (guard_hyp hq :ₛ true = true)) <;> (fail_if_success (guard_hyp hq :ₛ false = false)) <;> first | (exfalso; cases hq; done) | (exfalso; simp only [decide_eq_true_eq, decide_eq_false_iff_not, beq_iff_eq, beq_eq_false_iff_ne, ne_eq, Int.not_lt, Int.not_le] at hq; omega) | simp only [Act.put, List.setIfInBounds_toArray, List.set_cons_succ, List.set_cons_zero]))))
                  ((first | refine Mix.lex_goes0 rfl rfl ?_ | refine Mix.lex_goesG rfl rfl rfl (by with_reducible rfl) rfl ?_); intro K hK; go_simp)
                  refine (HAd.out _ (Only.refl No wr).drew).mono ?_
                  rintro e w5 ⟨rfl, hT5⟩
                  refine ⟨_, rfl, hK _ _ (fun hne => absurd rfl hne) ?_⟩
                  clear hK K
                  simp only [Act.put, List.setIfInBounds_toArray, List.set_cons_succ, List.set_cons_zero]
                  refine Mix.lex_nil ?_
                  have HT5 := Lib.hid hT5
                  clear hT5 HAd c0 c1 HT
                  go_wp2_with fail
                  go_roundw
                  case rel => exact ⟨j + 1, by omega, by go_num, HT5.out⟩
                  case measure => simp [intOf]; omega
                · obtain rfl : j = 4 := by omega
                  clear hj hlt
                  go_wp2_with fail
                  go_ret
                  exact ⟨g, t0, rfl, HT.out⟩
structure Trie (w : World) (g t0 n1 t1 n2 n3 n4 n5 : Nat) (gs : Array Value) (a b c d : Str) : Prop where
  ok : GsOk gs t0
  gen : Cs w g genT gs
  tab : Cs w t0 pnT #[rpt n1, .pointer none, .pointer none, .pointer none, .pointer none]
  c1 : Cs w n1 nodT #[S [], .int .i64 0, S [], .pointer none, .slice (some ⟨t1, 0, none⟩) 5 5]
  ct : Cs w t1 pnT #[.pointer none, rpt n5, rpt n3, rpt n2, rpt n4]
  l2 : Cs w n2 nodT (leafA a 8)
  l3 : Cs w n3 nodT (leafA b 6)
  l4 : Cs w n4 nodT (leafA c 4)
  l5 : Cs w n5 nodT (leafA d 2)
section
variable {w u : World} {g t0 n1 t1 n2 n3 n4 n5 : Nat} {gs : Array Value} {a b c d : Str}
theorem Trie.ext (h : Trie w g t0 n1 t1 n2 n3 n4 n5 gs a b c d) (hx : Ext w u) : Trie u g t0 n1 t1 n2 n3 n4 n5 gs a b c d :=
  ⟨h.ok, h.gen.keep hx id, h.tab.keep hx id, h.c1.keep hx id, h.ct.keep hx id, h.l2.keep hx id, h.l3.keep hx id, h.l4.keep hx id, h.l5.keep hx id⟩
theorem Trie.root (h : Trie w g t0 n1 t1 n2 n3 n4 n5 gs a b c d) (x : UInt8) : ∃ m : Nat, gs[6 + x.toNat]? = some (.int .u8 m) ∧
    ((m = 5 ∧ x ≠ 36) ∨ (m < 5 ∧ x = 36 ∧ w.cell? ⟨t0, m, none⟩ = some (rpt n1)) ∨ (m < 5 ∧ x ≠ 36 ∧ w.cell? ⟨t0, m, none⟩ = some (.pointer none))) := by
  by_cases e1 : x = 36
  · subst e1; exact ⟨0, h.ok.m36, .inr (.inl ⟨by omega, rfl, h.tab.cell 0⟩)⟩
  by_cases e2 : x = 42
  · subst e2; exact ⟨1, h.ok.m42, .inr (.inr ⟨by omega, by decide, h.tab.cell 1⟩)⟩
  by_cases e3 : x = 60
  · subst e3; exact ⟨2, h.ok.m60, .inr (.inr ⟨by omega, by decide, h.tab.cell 2⟩)⟩
  by_cases e4 : x = 64
  · subst e4; exact ⟨3, h.ok.m64, .inr (.inr ⟨by omega, by decide, h.tab.cell 3⟩)⟩
  by_cases e5 : x = 94
  · subst e5; exact ⟨4, h.ok.m94, .inr (.inr ⟨by omega, by decide, h.tab.cell 4⟩)⟩
  · exact ⟨5, h.ok.mo x e1 e2 e3 e4 e5, .inl ⟨rfl, e1⟩⟩
theorem Trie.next (h : Trie w g t0 n1 t1 n2 n3 n4 n5 gs a b c d) (x : UInt8) : ∃ m : Nat, gs[6 + x.toNat]? = some (.int .u8 m) ∧
    ((m = 5 ∧ keyV a b c d x = none) ∨ (m < 5 ∧ keyV a b c d x = none ∧ w.cell? ⟨t1, m, none⟩ = some (.pointer none)) ∨
     (m < 5 ∧ ∃ k t p, keyV a b c d x = some t ∧ w.cell? ⟨t1, m, none⟩ = some (rpt k) ∧ Cs w k nodT (leafA t p) ∧ (0 : Int) < p)) := by
  by_cases e1 : x = 36
  · subst e1; exact ⟨0, h.ok.m36, .inr (.inl ⟨by omega, rfl, h.ct.cell 0⟩)⟩
  by_cases e2 : x = 42
  · subst e2; exact ⟨1, h.ok.m42, .inr (.inr ⟨by omega, n5, d, 2, rfl, h.ct.cell 1, h.l5, by decide⟩)⟩
  by_cases e3 : x = 60
  · subst e3; exact ⟨2, h.ok.m60, .inr (.inr ⟨by omega, n3, b, 6, rfl, h.ct.cell 2, h.l3, by decide⟩)⟩
  by_cases e4 : x = 64
  · subst e4; exact ⟨3, h.ok.m64, .inr (.inr ⟨by omega, n2, a, 8, rfl, h.ct.cell 3, h.l2, by decide⟩)⟩
  by_cases e5 : x = 94
  · subst e5; exact ⟨4, h.ok.m94, .inr (.inr ⟨by omega, n4, c, 4, rfl, h.ct.cell 4, h.l4, by decide⟩)⟩
  · exact ⟨5, h.ok.mo x e1 e2 e3 e4 e5, .inl ⟨rfl, by unfold keyV; rw [if_neg e4, if_neg e3, if_neg e5, if_neg e2]⟩⟩
end
def LkR (w : World) (g n1 : Nat) (v : KeyV) (s : Str) (x1 x6 x7 x8 x9 x10 x11 : Value) : Prop :=
  x6 = S [] ∧ x7 = .int .i64 0 ∧ x8 = .bool false ∧ x9 = .int .i64 0 ∧
  ((x1 = S s ∧ x10 = rpt g ∧ x11 = .int .i64 0) ∨ (∃ r, s = 36 :: r ∧ x1 = S r ∧ x10 = rpt n1 ∧ x11 = .int .i64 1) ∨
   (∃ r q, lookF v s = none ∧ x1 = S r ∧ x10 = .pointer none ∧ x11 = .int .i64 q ∧ 0 ≤ q ∧ q ≤ 3) ∨
   (∃ r t k p, lookF v s = some t ∧ Cs w k nodT (leafA t p) ∧ (0 : Int) < p ∧ x1 = S r ∧ x10 = rpt k ∧ x11 = .int .i64 2))
def lookV (v : KeyV) (s : Str) : Value := match lookF v s with | some t => .tuple #[S t, .int .i64 2, .bool true] | none => .tuple #[S [], .int .i64 0, .bool false]
theorem lookV_none {v : KeyV} {s : Str} (h : lookF v s = none) : lookV v s = .tuple #[S [], .int .i64 0, .bool false] := by unfold lookV; rw [h]
theorem lookV_some {v : KeyV} {s t : Str} (h : lookF v s = some t) : lookV v s = .tuple #[S t, .int .i64 2, .bool true] := by unfold lookV; rw [h]
theorem lookF_ne {v : KeyV} {x : UInt8} {r : Str} (h : x ≠ 36) : lookF v (x :: r) = none := by
  cases r with
  | nil => rfl
  | cons y r => unfold lookF; simp [h]
theorem lookF_36 {v : KeyV} {y : UInt8} {r : Str} : lookF v (36 :: y :: r) = v y := by simp [lookF]
set_option maxRecDepth 100000 in
set_option maxHeartbeats 4000000 in
theorem Lookup_c {w : World} {g t0 n1 t1 n2 n3 n4 n5 : Nat} {gs : Array Value} {a b c d : Str} (h : Trie w g t0 n1 t1 n2 n3 n4 n5 gs a b c d) (s : Str) (hs : s.length ≤ 1000000) :
    Calls Tryz.prog 236 #[rpt g, S s, .bool false] w fun e w' => e = .returned (lookV (keyV a b c d) s) ∧ Ext w w' := by
  have H := Lib.hid h
  have g1 : ∀ ξ : X w No, ξ.v.cell? ⟨g, 1, none⟩ = some (.int .i64 0) := fun ξ => (h.gen.x (F := No) id 1 ξ).trans h.ok.p1
  have g2 : ∀ ξ : X w No, ξ.v.cell? ⟨g, 2, none⟩ = some (S []) := fun ξ => (h.gen.x (F := No) id 2 ξ).trans h.ok.p2
  have g4 : ∀ ξ : X w No, ξ.v.cell? ⟨g, 4, none⟩ = some (.slice (some ⟨t0, 0, none⟩) 5 5) := fun ξ => (h.gen.x (F := No) id 4 ξ).trans h.ok.p4
  have g5 : ∀ ξ : X w No, ξ.v.cell? ⟨g, 5, none⟩ = some (.int .i64 5) := fun ξ => (h.gen.x (F := No) id 5 ξ).trans h.ok.p5
  have k1 : ∀ ξ : X w No, ξ.v.cell? ⟨n1, 1, none⟩ = some (.int .i64 0) := h.c1.x (F := No) id 1
  have k4 : ∀ ξ : X w No, ξ.v.cell? ⟨n1, 4, none⟩ = some (.slice (some ⟨t1, 0, none⟩) 5 5) := h.c1.x (F := No) id 4
  clear h
  go_enter Tryz.func236, Tryz.ntmps236
  go_wp2_with fail
  go_loopw [1, 6, 7, 8, 9, 10, 11] (fun x1 x6 x7 x8 x9 x10 x11 wr => LkR w g n1 (keyV a b c d) s x1 x6 x7 x8 x9 x10 x11 ∧ ∃ ξ : X w No, wr = ξ.v) (fun _ _ _ _ _ _ x11 _ => 3 - (intOf x11).toNat)
  case atStart => exact ⟨⟨rfl, rfl, rfl, rfl, .inl ⟨rfl, rfl, rfl⟩⟩, X.here _ _, rfl⟩
  case round =>
    obtain ⟨⟨rfl, rfl, rfl, rfl, hL⟩, ξ, rfl⟩ := hrel
    rcases hL with ⟨rfl, rfl, rfl⟩ | ⟨r, hs1, rfl, rfl, rfl⟩ | ⟨r, q, hn, rfl, rfl, rfl, hq0, hq3⟩ | ⟨r, t, k, p, ht, hk, hp, rfl, rfl, rfl⟩
    · cases s with
      | nil =>
        go_wp2_with fail
        go_ret3
        exact ⟨congrArg Ending.returned (lookV_none rfl).symm, ξ.h⟩
      | cons x r =>
        obtain ⟨m, hm, hM⟩ := H.out.root x
        have hx8 : x.toNat < 256 := x.toNat_lt
        have cm : ∀ ξ : X w No, ξ.v.cell? ⟨g, 6 + x.toNat, none⟩ = some (.int .u8 m) := fun ξ => (H.out.gen.x (F := No) id (6 + x.toNat) ξ).trans hm
        clear hm
        go_upto_region 12 with fail
        (refine Mix.wp_draw [] 100 (Cl (w) (No)) (by kernel_rfl) (by kernel_rfl) (Cl.drew_ ξ) ?_; (repeat' (first | (refine Mix.lex_quiet0 rfl rfl rfl ?_; intro K hK; go_big_quiet_op; go_big_quiet_on) | (refine Mix.lex_quietG rfl rfl rfl (by with_reducible rfl) rfl rfl ?_; intro K hK; go_big_quiet_op; go_big_quiet_on) | ((first | refine Mix.lex_skipT rfl rfl rfl (by with_reducible rfl) ?_ | refine Mix.lex_skipF rfl rfl rfl (by with_reducible rfl) ?_ | refine Mix.lex_skipU rfl rfl rfl (by with_reducible rfl) ?_); simp only [Act.put, List.setIfInBounds_toArray, List.set_cons_succ, List.set_cons_zero]) | (refine Mix.lex_part rfl rfl rfl rfl (fun hq => ?_) (fun hq => ?_) <;> (fail_if_success (guard_hyp hq :ₛ true = true)) <;> (fail_if_success (guard_hyp hq :ₛ false = false)) <;> first | (exfalso; cases hq; done) | (exfalso; simp only [decide_eq_true_eq, decide_eq_false_iff_not, beq_iff_eq, beq_eq_false_iff_ne, ne_eq, Int.not_lt, Int.not_le] at hq; omega) | simp only [Act.put, List.setIfInBounds_toArray, List.set_cons_succ, List.set_cons_zero]))))
        all_goals (refine Mix.lex_nil ?_)
        obtain ⟨ζ, hζ⟩ : ∃ ζ : X w No, ζ.v = ξ.v.drew := ⟨⟨ξ.v.drew, ξ.h.drew⟩, rfl⟩
        rw [← hζ]
        rcases hM with ⟨rfl, hx⟩ | ⟨hm5, hx, hc⟩ | ⟨hm5, hx, hc⟩
        · have HX := Lib.hid hx
          clear hζ hx
          go_wp2_with fail
          go_ret3
          exact ⟨congrArg Ending.returned (lookV_none (lookF_ne HX.out)).symm, ζ.h⟩
        · have hc : ζ.v.cell? ⟨t0, m, none⟩ = some (rpt n1) := (ζ.h.cell (World.block_lt_of_cell? _ _ hc) id).trans hc
          have hne : ¬ ((m : Int) = 5) := by omega
          have HX := Lib.hid hx
          clear hζ hx
          go_wp2_with fail
          go_roundw
          case rel => exact ⟨⟨rfl, rfl, rfl, rfl, .inr (.inl ⟨r, by rw [HX.out], rfl, rfl, rfl⟩)⟩, ζ, rfl⟩
          case measure => simp [intOf]
        · have hc : ζ.v.cell? ⟨t0, m, none⟩ = some (.pointer none) := (ζ.h.cell (World.block_lt_of_cell? _ _ hc) id).trans hc
          have hne : ¬ ((m : Int) = 5) := by omega
          have HX := Lib.hid hx
          clear hζ hx
          go_wp2_with fail
          go_roundw
          case rel => exact ⟨⟨rfl, rfl, rfl, rfl, .inr (.inr (.inl ⟨r, 1, lookF_ne HX.out, rfl, rfl, rfl, by decide, by decide⟩))⟩, ζ, rfl⟩
          case measure => simp [intOf]
    · have HS := Lib.hid hs1
      clear hs1
      cases r with
      | nil =>
        go_wp2_with fail
        go_ret3
        exact ⟨congrArg Ending.returned (lookV_none (by rw [HS.out]; rfl)).symm, ξ.h⟩
      | cons x r =>
        obtain ⟨m, hm, hM⟩ := H.out.next x
        have hx8 : x.toNat < 256 := x.toNat_lt
        have cm : ∀ ξ : X w No, ξ.v.cell? ⟨g, 6 + x.toNat, none⟩ = some (.int .u8 m) := fun ξ => (H.out.gen.x (F := No) id (6 + x.toNat) ξ).trans hm
        clear hm
        go_upto_region 12 with fail
        (refine Mix.wp_draw [] 100 (Cl (w) (No)) (by kernel_rfl) (by kernel_rfl) (Cl.drew_ ξ) ?_; (repeat' (first | (refine Mix.lex_quiet0 rfl rfl rfl ?_; intro K hK; go_big_quiet_op; go_big_quiet_on) | (refine Mix.lex_quietG rfl rfl rfl (by with_reducible rfl) rfl rfl ?_; intro K hK; go_big_quiet_op; go_big_quiet_on) | ((first | refine Mix.lex_skipT rfl rfl rfl (by with_reducible rfl) ?_ | refine Mix.lex_skipF rfl rfl rfl (by with_reducible rfl) ?_ | refine Mix.lex_skipU rfl rfl rfl (by with_reducible rfl) ?_); simp only [Act.put, List.setIfInBounds_toArray, List.set_cons_succ, List.set_cons_zero]) | (refine Mix.lex_part rfl rfl rfl rfl (fun hq => ?_) (fun hq => ?_) <;> (fail_if_success (guard_hyp hq :ₛ true = true)) <;> (fail_if_success (guard_hyp hq :ₛ false = false)) <;> first | (exfalso; cases hq; done) | (exfalso; simp only [decide_eq_true_eq, decide_eq_false_iff_not, beq_iff_eq, beq_eq_false_iff_ne, ne_eq, Int.not_lt, Int.not_le] at hq; omega) | simp only [Act.put, List.setIfInBounds_toArray, List.set_cons_succ, List.set_cons_zero]))))
        all_goals (refine Mix.lex_nil ?_)
        obtain ⟨ζ, hζ⟩ : ∃ ζ : X w No, ζ.v = ξ.v.drew := ⟨⟨ξ.v.drew, ξ.h.drew⟩, rfl⟩
        rw [← hζ]
        rcases hM with ⟨rfl, hx⟩ | ⟨hm5, hx, hc⟩ | ⟨hm5, k, t, p, hx, hc, hk, hp⟩
        · have HX := Lib.hid hx
          clear hζ hx
          go_wp2_with fail
          go_ret3
          exact ⟨congrArg Ending.returned (lookV_none (by rw [HS.out, lookF_36]; exact HX.out)).symm, ζ.h⟩
        · have hc : ζ.v.cell? ⟨t1, m, none⟩ = some (.pointer none) := (ζ.h.cell (World.block_lt_of_cell? _ _ hc) id).trans hc
          have hne : ¬ ((m : Int) = 5) := by omega
          have HX := Lib.hid hx
          clear hζ hx
          go_wp2_with fail
          go_roundw
          case rel => exact ⟨⟨rfl, rfl, rfl, rfl, .inr (.inr (.inl ⟨r, 2, by rw [HS.out, lookF_36]; exact HX.out, rfl, rfl, rfl, by decide, by decide⟩))⟩, ζ, rfl⟩
          case measure => simp [intOf]
        · have hc : ζ.v.cell? ⟨t1, m, none⟩ = some (rpt k) := (ζ.h.cell (World.block_lt_of_cell? _ _ hc) id).trans hc
          have hne : ¬ ((m : Int) = 5) := by omega
          have HX := Lib.hid (And.intro hx (And.intro hk hp))
          have HZ := Lib.hid hζ
          clear hζ hx hk hp
          go_wp2_with fail
          go_roundw
          case rel => exact ⟨⟨rfl, rfl, rfl, rfl, .inr (.inr (.inr ⟨r, t, k, p, by rw [HS.out, lookF_36]; exact HX.out.1, HX.out.2.1, HX.out.2.2, rfl, rfl, rfl⟩))⟩, ζ, rfl⟩
          case measure => simp [intOf]
    · have HN := Lib.hid hn
      clear hn
      go_wp2_with fail
      go_ret3
      exact ⟨congrArg Ending.returned (lookV_none HN.out).symm, ξ.h⟩
    · have HT := Lib.hid ht
      have l0 : ∀ ξ : X w No, ξ.v.cell? ⟨k, 0, none⟩ = some (S t) := hk.x (F := No) id 0
      have l1 : ∀ ξ : X w No, ξ.v.cell? ⟨k, 1, none⟩ = some (.int .i64 p) := hk.x (F := No) id 1
      have l2 : ∀ ξ : X w No, ξ.v.cell? ⟨k, 2, none⟩ = some (S []) := hk.x (F := No) id 2
      have l4 : ∀ ξ : X w No, ξ.v.cell? ⟨k, 4, none⟩ = some (.slice none 0 0) := hk.x (F := No) id 4
      clear ht hk
      cases r with
      | nil =>
        go_wp2_with fail
        go_ret3
        exact ⟨congrArg Ending.returned (lookV_some HT.out).symm, ξ.h⟩
      | cons y r =>
        go_wp2_with fail
        go_ret3
        exact ⟨congrArg Ending.returned (lookV_some HT.out).symm, ξ.h⟩
end Go.Proofs.YtnhaekifcieeoaaGreatDoor
