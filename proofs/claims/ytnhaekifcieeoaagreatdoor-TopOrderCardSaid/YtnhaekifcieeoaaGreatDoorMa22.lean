/- Put together: Rp2. -/
import Derived.Test.YtnhaekifcieeoaaGreatDoorMa21
/- strings.Replacer: four marks are added, one behind the other. -/
namespace Go.Proofs.YtnhaekifcieeoaaGreatDoor
open Go Go.RowKit
structure TrB (w u : World) (g t0 : Nat) (gs ts : Array Value) : Prop where
  gen : Cs u g genT gs
  tab : Cs u t0 pnT ts
  x : Ext w u
  hg : w.heap.size ≤ g
  ht : w.heap.size ≤ t0
  ne : g ≠ t0
/-- What the mapping says of the five bytes. -/
structure GsOk (gs : Array Value) (t0 : Nat) : Prop where
  p2 : gs[2]? = some (S [])
  p1 : gs[1]? = some (.int .i64 0)
  p4 : gs[4]? = some (.slice (some ⟨t0, 0, none⟩) 5 5)
  p5 : gs[5]? = some (.int .i64 5)
  m36 : gs[6 + (36 : UInt8).toNat]? = some (.int .u8 0)
  m42 : gs[6 + (42 : UInt8).toNat]? = some (.int .u8 1)
  m60 : gs[6 + (60 : UInt8).toNat]? = some (.int .u8 2)
  m64 : gs[6 + (64 : UInt8).toNat]? = some (.int .u8 3)
  m94 : gs[6 + (94 : UInt8).toNat]? = some (.int .u8 4)
  mo : ∀ c : UInt8, c ≠ 36 → c ≠ 42 → c ≠ 60 → c ≠ 64 → c ≠ 94 → gs[6 + c.toNat]? = some (.int .u8 5)
/-- One mark: the node that bears '@' alone. -/
structure Tr1 (w u : World) (g t0 : Nat) (gs : Array Value) (a : Str) (n1 n2 : Nat) : Prop where
  b : TrB w u g t0 gs #[rpt n1, .pointer none, .pointer none, .pointer none, .pointer none]
  c1 : Cs u n1 nodT #[S [], .int .i64 0, S [64], rpt n2, .slice none 0 0]
  c2 : Cs u n2 nodT (leafA a 8)
  h1 : w.heap.size ≤ n1
  h2 : w.heap.size ≤ n2
  n12 : n1 ≠ n2
/-- More marks: a table behind '$'. -/
structure Tr2 (w u : World) (g t0 : Nat) (gs ts : Array Value) (n1 t1 : Nat) : Prop where
  b : TrB w u g t0 gs #[rpt n1, .pointer none, .pointer none, .pointer none, .pointer none]
  c1 : Cs u n1 nodT #[S [], .int .i64 0, S [], .pointer none, .slice (some ⟨t1, 0, none⟩) 5 5]
  ct : Cs u t1 pnT ts
  h1 : w.heap.size ≤ n1
  h3 : w.heap.size ≤ t1
  t10 : t1 ≠ t0
structure Leaf (w u : World) (n1 n : Nat) (v : Str) (p : Int) : Prop where
  c : Cs u n nodT (leafA v p)
  h : w.heap.size ≤ n
  ne : n1 ≠ n
def TrSt (w : World) (g t0 : Nat) (gs : Array Value) (a b c d : Str) : Nat → World → Prop
  | 0, u => TrB w u g t0 gs nils5
  | 1, u => ∃ n1 n2, Tr1 w u g t0 gs a n1 n2
  | 2, u => ∃ n1 t1 n2 n3, Tr2 w u g t0 gs #[.pointer none, .pointer none, rpt n3, rpt n2, .pointer none] n1 t1 ∧ Leaf w u n1 n2 a 8 ∧ Leaf w u n1 n3 b 6
  | 3, u => ∃ n1 t1 n2 n3 n4, Tr2 w u g t0 gs #[.pointer none, .pointer none, rpt n3, rpt n2, rpt n4] n1 t1 ∧ Leaf w u n1 n2 a 8 ∧ Leaf w u n1 n3 b 6 ∧ Leaf w u n1 n4 c 4
  | _, u => ∃ n1 t1 n2 n3 n4 n5, Tr2 w u g t0 gs #[.pointer none, rpt n5, rpt n3, rpt n2, rpt n4] n1 t1 ∧ Leaf w u n1 n2 a 8 ∧ Leaf w u n1 n3 b 6 ∧ Leaf w u n1 n4 c 4 ∧ Leaf w u n1 n5 d 2
section
variable {w u v : World} {g t0 n1 n2 t1 : Nat} {gs ts : Array Value} {a : Str} {F : Nat → Prop}
theorem TrB.only (h : TrB w u g t0 gs ts) (hx : Only F u v) (hF : ∀ b, F b → w.heap.size ≤ b) (h1 : ¬ F g) (h2 : ¬ F t0) : TrB w v g t0 gs ts :=
  ⟨h.gen.keep hx h1, h.tab.keep hx h2, h.x.trans hx fun b hb e => by have := hF b e; omega, h.hg, h.ht, h.ne⟩
theorem Leaf.only {n : Nat} {x : Str} {p : Int} (h : Leaf w u n1 n x p) (hx : Only F u v) (h1 : ¬ F n) : Leaf w v n1 n x p := ⟨h.c.keep hx h1, h.h, h.ne⟩
theorem Tr1.only (h : Tr1 w u g t0 gs a n1 n2) (hx : Ext u v) : Tr1 w v g t0 gs a n1 n2 := ⟨h.b.only hx (fun _ e => e.elim) id id, h.c1.keep hx id, h.c2.keep hx id, h.h1, h.h2, h.n12⟩
theorem Tr2.only (h : Tr2 w u g t0 gs ts n1 t1) (hx : Ext u v) : Tr2 w v g t0 gs ts n1 t1 := ⟨h.b.only hx (fun _ e => e.elim) id id, h.c1.keep hx id, h.ct.keep hx id, h.h1, h.h3, h.t10⟩
end
theorem TrSt.ext {w u v : World} {g t0 : Nat} {gs : Array Value} {a b c d : Str} {j : Nat} (h : TrSt w g t0 gs a b c d j u) (hx : Ext u v) : TrSt w g t0 gs a b c d j v := by
  unfold TrSt at h ⊢
  split at h
  · exact h.only hx (fun _ e => e.elim) id id
  · obtain ⟨n1, n2, h⟩ := h; exact ⟨n1, n2, h.only hx⟩
  · obtain ⟨n1, t1, n2, n3, h, h2, h3⟩ := h; exact ⟨n1, t1, n2, n3, h.only hx, h2.only hx id, h3.only hx id⟩
  · obtain ⟨n1, t1, n2, n3, n4, h, h2, h3, h4⟩ := h; exact ⟨n1, t1, n2, n3, n4, h.only hx, h2.only hx id, h3.only hx id, h4.only hx id⟩
  · obtain ⟨n1, t1, n2, n3, n4, n5, h, h2, h3, h4, h5⟩ := h; exact ⟨n1, t1, n2, n3, n4, n5, h.only hx, h2.only hx id, h3.only hx id, h4.only hx id, h5.only hx id⟩
def keyAt : Nat → Str
  | 0 => [36, 64]
  | 1 => [36, 60]
  | 2 => [36, 94]
  | _ => [36, 42]
def valAt (a b c d : Str) : Nat → Str
  | 0 => a
  | 1 => b
  | 2 => c
  | _ => d
theorem ne_cs {u : World} {a b : Nat} {t : TypeId} {cs ds : Array Value} (h : Cs u a t cs) (h' : Cs u b t ds) (i : Nat) (hne : cs[i]? ≠ ds[i]?) : a ≠ b := by
  rintro rfl
  have e := h.cell i
  rw [h'.cell i] at e
  exact hne e.symm
theorem add_step {w : World} {g t0 : Nat} {gs : Array Value} {a b c d : Str} (hgs : GsOk gs t0) : ∀ (j : Nat), j < 4 → ∀ u, TrSt w g t0 gs a b c d j u → ∀ v, v = valAt a b c d j →
    Calls Tryz.prog 196 #[rpt g, S (keyAt j), S v, .int .i64 (8 - 2 * (j : Int)), rpt g] u fun e u' => e = .returned (.tuple #[]) ∧ TrSt w g t0 gs a b c d (j + 1) u'
  | 0, _, u, h, v, hv => by
    have h : TrB w u g t0 gs nils5 := h
    have hv : v = a := hv
    subst hv
    refine add_nil (b := g) (g := g) (tb := t0) (m := 0) (c := 36) (r := [64]) v 8 (by omega) h.gen hgs.p2 hgs.p4 h.tab rfl h.ne h.gen hgs.m36 fun u1 k hk hx ht hn => ?_
    have hB := h.x.size
    refine (add_new (g := g) (c := 64) (r := []) v 8 hn).mono ?_
    rintro e u2 ⟨rfl, n2, hn2, c1, c2, ho⟩
    have hgk : g ≠ k := by have := h.gen.lt; omega
    have htk : t0 ≠ k := by have := h.tab.lt; omega
    refine ⟨rfl, k, n2, ⟨⟨(h.gen.keep hx (fun e => h.ne e)).keep ho hgk, (show Cs u1 t0 pnT _ from ht).keep ho htk, (h.x.trans hx fun b hb e => by have e : b = t0 := e; have := h.ht; omega).trans ho fun b hb e => by have e : b = k := e; omega, h.hg, h.ht, h.ne⟩, c1, c2, by omega, by have := hx.size; omega, ?_⟩⟩
    have := hn.lt
    omega
  | 1, _, u, h, v, hv => by
    obtain ⟨n1, n2, h⟩ : ∃ n1 n2, Tr1 w u g t0 gs a n1 n2 := h
    have hv : v = b := hv
    subst hv
    refine add_old (b := g) (g := g) (tb := t0) (n := n1) (m := 0) (c := 36) (r := [60]) v 6 (by omega) h.b.gen hgs.p2 hgs.p4 h.b.tab rfl h.b.gen hgs.m36 fun u1 hx => ?_
    have h := h.only hx
    have hgn : n1 ≠ g := (h.c1.ne_ h.b.gen (by decide))
    refine (add_split (b := n1) (g := g) (k0 := n2) (mx := 3) (mc := 2) (x := 64) (c := 60) v 6 (by decide) (by omega) (by omega) hgn h.c1 h.b.gen hgs.p5 hgs.m64 hgs.m60).mono ?_
    rintro e u2 ⟨rfl, k, tb, hk, htb, hkt, c1, c2, c3, ho⟩
    have hB := h.b.x.size
    have h0n : t0 ≠ n1 := (h.b.tab.ne_ h.c1 (by decide))
    refine ⟨rfl, n1, tb, n2, k, ⟨h.b.only ho (fun b e => by have e : b = n1 := e; have := h.h1; omega) (fun e => hgn e.symm) h0n, c1, c2, h.h1, by omega, ?_⟩, ⟨h.c2.keep ho (fun e => h.n12 e.symm), h.h2, h.n12⟩, ⟨c3, by omega, ?_⟩⟩
    · have := h.b.tab.lt; omega
    · have := h.c1.lt; omega
  | 2, _, u, h, v, hv => by
    obtain ⟨n1, t1, n2, n3, h, l2, l3⟩ : ∃ n1 t1 n2 n3, Tr2 w u g t0 gs #[.pointer none, .pointer none, rpt n3, rpt n2, .pointer none] n1 t1 ∧ Leaf w u n1 n2 a 8 ∧ Leaf w u n1 n3 b 6 := h
    have hv : v = c := hv
    subst hv
    refine add_old (b := g) (g := g) (tb := t0) (n := n1) (m := 0) (c := 36) (r := [94]) v 4 (by omega) h.b.gen hgs.p2 hgs.p4 h.b.tab rfl h.b.gen hgs.m36 fun u1 hx => ?_
    have h := h.only hx
    have l2 := l2.only hx id
    have l3 := l3.only hx id
    have hnt : n1 ≠ t1 := (h.c1.ne_ h.ct (by decide))
    refine add_nil (b := n1) (g := g) (tb := t1) (m := 4) (c := 94) (r := []) v 4 (by omega) h.c1 rfl rfl h.ct rfl hnt h.b.gen hgs.m94 fun u2 k hk hx2 ht hn => ?_
    have hB := h.b.x.size
    refine (add_leaf (g := g) v 4 hn).mono ?_
    rintro e u3 ⟨rfl, c3, ho⟩
    have hnt2 : ∀ n, Cs u1 n nodT (leafA a 8) ∨ Cs u1 n nodT (leafA b 6) → n ≠ t1 := fun n e => e.elim (fun e => e.ne_ h.ct (by decide)) fun e => e.ne_ h.ct (by decide)
    have lk : ∀ n, n < u1.heap.size → n ≠ k := fun n e => by omega
    have hg1 : g ≠ t1 := h.b.gen.ne_ h.ct (by decide)
    refine ⟨rfl, n1, t1, n2, n3, k, ⟨(h.b.only hx2 (fun b e => by have e : b = t1 := e; have := h.h3; omega) hg1 (fun e => h.t10 e.symm)).only ho (fun b e => by have e : b = k := e; omega) (lk _ h.b.gen.lt) (lk _ h.b.tab.lt), (h.c1.keep hx2 hnt).keep ho (lk _ h.c1.lt), (show Cs u2 t1 pnT _ from ht).keep ho (lk _ h.ct.lt), h.h1, h.h3, h.t10⟩,
      (l2.only hx2 (hnt2 _ (.inl l2.c))).only ho (lk _ l2.c.lt), (l3.only hx2 (hnt2 _ (.inr l3.c))).only ho (lk _ l3.c.lt), ⟨c3, by omega, (lk _ h.c1.lt)⟩⟩
  | 3, _, u, h, v, hv => by
    obtain ⟨n1, t1, n2, n3, n4, h, l2, l3, l4⟩ : ∃ n1 t1 n2 n3 n4, Tr2 w u g t0 gs #[.pointer none, .pointer none, rpt n3, rpt n2, rpt n4] n1 t1 ∧ Leaf w u n1 n2 a 8 ∧ Leaf w u n1 n3 b 6 ∧ Leaf w u n1 n4 c 4 := h
    have hv : v = d := hv
    subst hv
    refine add_old (b := g) (g := g) (tb := t0) (n := n1) (m := 0) (c := 36) (r := [42]) v 2 (by omega) h.b.gen hgs.p2 hgs.p4 h.b.tab rfl h.b.gen hgs.m36 fun u1 hx => ?_
    have h := h.only hx
    have l2 := l2.only hx id
    have l3 := l3.only hx id
    have l4 := l4.only hx id
    have hnt : n1 ≠ t1 := (h.c1.ne_ h.ct (by decide))
    refine add_nil (b := n1) (g := g) (tb := t1) (m := 1) (c := 42) (r := []) v 2 (by omega) h.c1 rfl rfl h.ct rfl hnt h.b.gen hgs.m42 fun u2 k hk hx2 ht hn => ?_
    have hB := h.b.x.size
    refine (add_leaf (g := g) v 2 hn).mono ?_
    rintro e u3 ⟨rfl, c3, ho⟩
    have hnt2 : ∀ n x (p : Int), Cs u1 n nodT (leafA x p) → n ≠ t1 := fun n x p e => e.ne_ h.ct (by decide)
    have lk : ∀ n, n < u1.heap.size → n ≠ k := fun n e => by omega
    have hg1 : g ≠ t1 := h.b.gen.ne_ h.ct (by decide)
    refine ⟨rfl, n1, t1, n2, n3, n4, k, ⟨(h.b.only hx2 (fun b e => by have e : b = t1 := e; have := h.h3; omega) hg1 (fun e => h.t10 e.symm)).only ho (fun b e => by have e : b = k := e; omega) (lk _ h.b.gen.lt) (lk _ h.b.tab.lt), (h.c1.keep hx2 hnt).keep ho (lk _ h.c1.lt), (show Cs u2 t1 pnT _ from ht).keep ho (lk _ h.ct.lt), h.h1, h.h3, h.t10⟩,
      (l2.only hx2 (hnt2 _ _ _ l2.c)).only ho (lk _ l2.c.lt), (l3.only hx2 (hnt2 _ _ _ l3.c)).only ho (lk _ l3.c.lt), (l4.only hx2 (hnt2 _ _ _ l4.c)).only ho (lk _ l4.c.lt), ⟨c3, by omega, (lk _ h.c1.lt)⟩⟩
  | j + 4, hj, _, _, _, _ => absurd hj (by omega)
end Go.Proofs.YtnhaekifcieeoaaGreatDoor
