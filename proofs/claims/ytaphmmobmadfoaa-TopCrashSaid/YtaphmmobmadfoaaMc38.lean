/- Put together: StW, OpenBl. -/
import Derived.Test.YtaphmmobmadfoaaMc37
import Derived.Test.YtaphmmobmadfoaaMc27
import Derived.Test.YtaphmmobmadfoaaMc13
import Derived.Test.YtaphmmobmadfoaaMc03
/- A store and its reference side by side. -/
namespace Go.Proofs.Ytaphmmobmadfoaa
open Go Go.RowKit
theorem ml_new {w u v : World} {F : Nat → Prop} (h0 : Ml w) (h : Ml u) (hx : Only F u v) (hF : ∀ b, F b → w.heap.size ≤ b) : Ml v := h.only hx fun e => by
  obtain ⟨m, hm⟩ := h0
  have k1 := World.block_lt_of_cell? w _ hm
  have k2 := hF _ e
  dsimp only at k1
  omega
/-- A store without a fuse, with what it holds and how far it may have come. -/
structure SV (w0 u : World) (dg sg N mn next E1 F1 : Nat) (rows : List Ch) (Z : StS) (r : DkR) (d : Dk) : Prop where
  lv : Live w0 u Z r d
  dg : r.g = dg
  sg : Z.g = sg
  fu : d.fuse = -1
  rw : Z.rows = rows
  nx : Z.l.next = next
  mn : Z.l.many = mn
  ep : Z.h.epoch ≤ E1
  fs : Z.l.first ≤ F1
  dn : d.now.length = N
section
variable {w0 u v : World} {dg sg N mn next E1 F1 : Nat} {rows : List Ch} {Z : StS} {r : DkR} {d : Dk}
theorem SV.ext (h : SV w0 u dg sg N mn next E1 F1 rows Z r d) (hx : Ext u v) : SV w0 v dg sg N mn next E1 F1 rows Z r d :=
  ⟨h.lv.ext hx, h.dg, h.sg, h.fu, h.rw, h.nx, h.mn, h.ep, h.fs, h.dn⟩
theorem SV.keep {F : Nat → Prop} (h : SV w0 u dg sg N mn next E1 F1 rows Z r d) (hx : Only F u v) (hn : ∀ b, Z.fp r b → ¬ F b) (ho : ∀ g, (Value.slice Z.A Z.rows.length Z.c).ownBlock = some g → ¬ F g) : SV w0 v dg sg N mn next E1 F1 rows Z r d :=
  ⟨⟨⟨h.lv.st.cs.keep hx (hn _ (.inr (.inl rfl))), h.lv.st.lg.keep hx (hn _ (.inr (.inr rfl))), own_keep h.lv.st.own hx ho⟩, h.lv.dk.keep hx fun b hb => hn b (.inl hb), h.lv.on, h.lv.ok, h.lv.kn, h.lv.wt, h.lv.fp⟩, h.dg, h.sg, h.fu, h.rw, h.nx, h.mn, h.ep, h.fs, h.dn⟩
theorem SV.weak {E2 F2 : Nat} (h : SV w0 u dg sg N mn next E1 F1 rows Z r d) (hE : E1 ≤ E2) (hF : F1 ≤ F2) : SV w0 u dg sg N mn next E2 F2 rows Z r d :=
  ⟨h.lv, h.dg, h.sg, h.fu, h.rw, h.nx, h.mn, Nat.le_trans h.ep hE, Nat.le_trans h.fs hF, h.dn⟩
/-- What a store answers. -/
def SVR (w0 w w' : World) (dg sg N mn next E1 F1 : Nat) (rows : List Ch) (Z : StS) (r : DkR) : Prop :=
  ∃ Z' r' d', SV w0 w' dg sg N mn next E1 F1 rows Z' r' d' ∧ Only (Z.fp r) w w' ∧ ∀ b, Z'.fp r' b → Z.fp r b ∨ w.heap.size ≤ b
theorem SV.commit (h : SV w0 u dg sg N mn next E1 F1 rows Z r d) (hm0 : Ml w0) (hm : Ml u) (h0 : w0.heap.size ≤ u.heap.size) (hE : E1 + 1 ≤ 1000000000 ∧ F1 + mn ≤ 1000000000)
    {A : Option Addr} {n cap : Nat} {c : List Ch} (hc : ∀ v, Only (Z.fp r) u v → SlR chF v A n c) (hn : n ≤ 1000000) (hcb : ∀ x ∈ c, x.1.length ≤ 1000 ∧ x.2.1.length ≤ 1000) :
    Calls Try.prog 12 #[pt sg, .slice A n cap] u fun e w' => e = .returned (errV (rcF rows next mn c).2) ∧ 0 ≤ (rcF rows next mn c).2 ∧ SVR w0 u w' dg sg N mn (rcF rows next mn c).1.2 (E1 + 1) (F1 + mn) (rcF rows next mn c).1.1 Z r := by
  have k1 := h.ep
  have k2 := h.fs
  have k3 := h.mn
  have := Commit_live hm0 hm h0 h.lv (.inl h.fu) (by omega) hc hn hcb (cap := cap)
  rw [h.sg] at this
  refine this.mono ?_
  rintro e w' ⟨f, d', Z', r', he, hon, hlen, hcc⟩
  rw [h.rw, h.nx, h.mn] at hcc
  have hg : Z'.g = sg := hon.sg.trans h.sg
  have hr : r'.g = dg := hon.g.trans h.dg
  have hd : d'.now.length = N := hlen.trans h.dn
  rcases hcc with ⟨hf, -, hp, hL, e1, e2, e3, e4, e5⟩ | ⟨rfl, hL, hfu, e1, e2, e3, -, e4, e5⟩ | ⟨-, hf, -⟩
  · rw [e5]
    obtain ⟨-, z2, z3, z4⟩ := z_eq e2
    exact ⟨he, hp, Z', r', d', ⟨hL, hr, hg, by rw [e4]; exact h.fu, e3, by rw [z4, h.nx], by rw [z2, h.mn], by rw [e1]; omega, by rw [z3]; omega, hd⟩, hon.o, hon.f⟩
  · rw [e2]
    exact ⟨he, Int.le_refl _, Z', r', d', ⟨hL, hr, hg, hfu h.fu, rfl, rfl, e3, by omega, by omega, hd⟩, hon.o, hon.f⟩
  · exact absurd h.fu hf
theorem SV.save (h : SV w0 u dg sg N mn next E1 F1 rows Z r d) (hm0 : Ml w0) (hm : Ml u) (h0 : w0.heap.size ≤ u.heap.size) (hE : E1 + 1 ≤ 1000000000 ∧ F1 + mn ≤ 1000000000) :
    Calls Try.prog 14 #[pt sg] u fun e w' => e = .returned .nilIface ∧ SVR w0 u w' dg sg N mn 0 (E1 + 1) (F1 + mn) rows Z r := by
  have k1 := h.ep
  have k2 := h.fs
  have k3 := h.mn
  have := Ckpt_live hm0 hm h0 h.lv (by omega)
  rw [h.sg] at this
  refine this.mono ?_
  rintro e w' ⟨f, d', Z', r', he, hon, hlen, hcc⟩
  have hg : Z'.g = sg := hon.sg.trans h.sg
  have hr : r'.g = dg := hon.g.trans h.dg
  have hd : d'.now.length = N := hlen.trans h.dn
  rcases hcc with ⟨rfl, hL, hfu, e1, e2, e3, -, e4, e5⟩ | ⟨-, hf, -⟩
  · exact ⟨he, Z', r', d', ⟨hL, hr, hg, hfu h.fu, e1.trans h.rw, e2, e3.trans h.mn, by omega, by omega, hd⟩, hon.o, hon.f⟩
  · exact absurd h.fu hf
/-- Opened anew. -/
theorem SV.open (h : SV w0 u dg sg N mn next E1 F1 rows Z r d) (hm : Ml u) (h0 : w0.heap.size ≤ u.heap.size) :
    Calls Try.prog 10 #[pt dg] u fun e w' => ∃ sg', e = .returned (.tuple #[pt sg', .nilIface]) ∧ Ext u w' ∧ SVR w0 u w' dg sg' N mn next E1 F1 rows Z r := by
  have := Open_live hm h.lv.dk h.lv.on h.lv.ok.dn
  rw [h.dg] at this
  refine this.mono ?_
  rintro e w' ⟨Z', rfl, hst, e1, e2, e3, hx, k1, k2⟩
  obtain ⟨-, z2, z3, z4⟩ := z_eq e2
  have hep := h.ep
  have hfs := h.fs
  refine ⟨Z'.g, rfl, hx, Z', r, d, ⟨Live.of_open h0 (h.lv.dk.ext hx) (fun b hb => h.lv.fp b (.inl hb)) h.lv.on h.lv.ok h.lv.kn h.lv.wt (by rw [h.dg]; exact hst) e1 e2 e3 k1 k2, h.dg, rfl, h.fu, e3.trans h.rw, z4.trans h.nx, z2.trans h.mn, by rw [e1]; exact h.ep, by rw [z3]; exact h.fs, h.dn⟩, Only.any hx, fun b hb => ?_⟩
  rcases hb with e | e | e
  · exact .inl (.inl e)
  · exact .inr (by omega)
  · exact .inr (by omega)
theorem SV.room (h : SV w0 u dg sg N mn next E1 F1 rows Z r d) :
    Calls Try.prog 15 #[pt sg] u fun e w' => e = .returned (.int .i64 ((mn : Int) - (next : Int))) ∧ Ext u w' := by
  have k := h.lv.on.lg
  have k2 := h.lv.on.n
  have k3 := h.mn
  have k4 := h.nx
  have := SRoom_c h.lv.st (by omega) k.2.2.2.2.2
  rw [h.sg, h.mn, h.nx] at this
  have e : ((mn - next : Nat) : Int) = (mn : Int) - (next : Int) := by have := k.2.2.2.2.2; omega
  rw [e] at this
  exact this
theorem SV.rows_c (h : SV w0 u dg sg N mn next E1 F1 rows Z r d) :
    Calls Try.prog 17 #[pt sg] u fun e w' => ∃ A c, e = .returned (.slice A rows.length c) ∧ Fresh chF 61 u w' A c rows := by
  have := SRows_c h.lv.st (by have := h.lv.on.small; omega)
  rw [h.sg, h.rw] at this
  exact this
end
/-- The reference: its cells, and its rows, which no write into F touches. -/
structure Md (w : World) (F : Nat → Prop) (gm : Nat) (rA : Option Addr) (rcap used many : Nat) (rows : List Ch) : Prop where
  cs : Cs w gm rsT #[.slice rA rows.length rcap, .int .i64 (used : Nat), .int .i64 (many : Nat)]
  ng : ¬ F gm
  sl : ∀ v, Only (fun b => F b ∨ b = gm) w v → SlR chF v rA rows.length rows
section
variable {w w' : World} {F F' : Nat → Prop} {gm : Nat} {rA : Option Addr} {rcap used many : Nat} {rows : List Ch}
theorem Md.here (h : Md w F gm rA rcap used many rows) : SlR chF w rA rows.length rows := h.sl w (Only.refl _ _)
theorem Md.step (h : Md w F gm rA rcap used many rows) (hx : Only F w w') (hf : ∀ b, F' b → F b ∨ w.heap.size ≤ b) : Md w' F' gm rA rcap used many rows :=
  ⟨h.cs.keep hx h.ng, fun e => by
    rcases hf _ e with e | e
    · exact h.ng e
    · have := h.cs.lt; omega, fun v hv => h.sl v ((hx.weak fun _ _ e => .inl e).trans hv fun b hb e => by
      rcases e with e | e
      · rcases hf b e with e | e
        · exact .inl e
        · omega
      · exact .inr e)⟩
theorem Md.ext (h : Md w F gm rA rcap used many rows) (hx : Ext w w') : Md w' F gm rA rcap used many rows := h.step (Only.any hx) fun _ e => .inl e
theorem Md.used0 (h : Md w F gm rA rcap used many rows) : Md (w.setCell ⟨gm, 1, none⟩ (.int .i64 (0 : Int))) F gm rA rcap 0 many rows := by
  refine ⟨h.cs.set_ 1 _, h.ng, fun v hv => h.sl v ((Only.refl _ w).setCell (p := ⟨gm, 1, none⟩) (.inr (.inr rfl)) _ |>.trans hv fun _ _ e => e)⟩
theorem Md.commit (h : Md w F gm rA rcap used many rows) (hF : ∀ b, F b → b < w.heap.size) (hg : GoodR rows) (hrn : rows.length ≤ 1000) (hum : used ≤ many ∧ many ≤ 1000) {A : Option Addr} {n cap : Nat} {c : List Ch} (hc : SlR chF w A n c) (hn : n ≤ 1000000) (hcb : ∀ x ∈ c, x.1.length ≤ 1000 ∧ x.2.1.length ≤ 1000) :
    Calls Try.prog 13 #[pt gm, .slice A n cap] w fun e w' => e = .returned (.int .i64 (rcF rows used many c).2) ∧
      Only (fun b => b = gm) w w' ∧ ∃ A' c', Md w' F gm A' c' (rcF rows used many c).1.2 many (rcF rows used many c).1.1 := by
  refine (RCommit_c h.cs h.here hg hrn hum hc hn hcb).mono ?_
  rintro e w' ⟨he, A', c', hcs, ho, hr⟩
  refine ⟨he, ho, A', c', hcs, h.ng, ?_⟩
  rcases hr with ⟨e1, e2, e3⟩ | ⟨w0, hx, hF0, ho2⟩
  · rw [e1, e3]
    exact fun v hv => h.sl v ((ho.weak fun _ _ e => .inr e).trans hv fun _ _ e => e)
  · intro v hv
    refine SlR.of_own (T := chF) (by decide) (own_keep hF0.own ((ho2.weak fun _ _ e => .inr e).trans hv fun _ _ e => e) fun g hg e => ?_)
    have k := hF0.new g hg
    rcases e with e | e
    · have := hF g e; omega
    · have := h.cs.lt; omega
end
end Go.Proofs.Ytaphmmobmadfoaa

/- Arguments: slices of truth values. -/
namespace Go.Proofs.Ytaphmmobmadfoaa
open Go Go.RowKit Go.ChangeShapes Go.WideShapes Go.Deep
def boolF : Flat Bool := ⟨1, fun b => [.bool b], fun _ => rfl⟩
theorem bools_get {w : World} {A : Option Addr} {n : Nat} {xs : List Bool} (h : SlR boolF w A n xs) {k : Nat} (hk : k < n) :
    ∃ b o s, A = some ⟨b, o, none⟩ ∧ xs[k]? = some s ∧ (∀ ξ : X w No, ξ.v.cell? ⟨b, o + k, none⟩ = some (.bool s)) := by
  obtain ⟨b, o, x, e, hb, hx, hc⟩ := h.get hk
  exact ⟨b, o, x, e, hx, fun ξ => (ξ.h.cell hb id).trans (by simpa [boolF] using hc 0 _ rfl)⟩
section
variable {H : Type} {enc : TypeId × Value → H} {w : World} {base : Nat} {held : Bool}
set_option maxRecDepth 100000 in
theorem open_bools_ {fuel : Nat} {v0 : Value} {x : DataW H × List MemPlace} (h : DataW.trod enc Try.prog w base allP held fuel 50 [v0] = some x) :
    ∃ A n c xs, v0 = .slice A n c ∧ SlR boolF w A n xs ∧ n ≤ maxLen := by
  rcases open_slice Try.underlying50 h with ⟨h0, _⟩ | ⟨a, len, cap, m, n, D, Pl, hcs, _, hl, hm, hmm, _, hi⟩
  · injection h0 with h0; exact ⟨none, 0, 0, [], h0, SlR.none_, Nat.zero_le _⟩
  · injection hcs with hcs
    obtain ⟨xs, hxl, hx⟩ := list_of len (fun i (s : Bool) => w.cell? (a.add i) = some (.bool s)) fun i hi' => by
      obtain ⟨cs', hc, ht'⟩ := hi i (by rw [hmm]; simp only [allP, if_true]; omega)
      have hC : Try.prog.cellsOf 4 = 1 := by kernel_rfl
      rw [hC] at hc
      obtain ⟨_, hcl, hat⟩ := World.cells?_some hc
      have h0 := hat 0 (by omega)
      obtain ⟨v0, rfl⟩ : ∃ v0, cs' = [v0] := by
        match cs', hcl with
        | [v0], _ => exact ⟨v0, rfl⟩
      obtain ⟨s, hs⟩ := open_b Try.underlying4 ht'
      refine ⟨s, ?_⟩
      rw [hs] at h0
      simpa [add_add] using h0
    refine ⟨some a, len, cap, xs, hcs, ⟨hxl, fun h0 => ?_⟩, by omega⟩
    have hx0 := hx 0 (xs[0]'(by omega)) (List.getElem?_eq_getElem (by omega))
    obtain ⟨b, o, s⟩ := a
    have hs : s = none := by simpa [Addr.add] using World.cell?_spot hx0
    subst hs
    refine ⟨b, o, rfl, by simpa [Addr.add] using World.block_lt_of_cell? _ _ hx0, fun k x hk j u hu => ?_⟩
    have := hx k x hk
    match j, hu with
    | 0, hu =>
      injection hu with hu
      rw [← hu, Nat.add_zero, show boolF.size = 1 from rfl, Nat.mul_one]
      unfold Addr.add at this
      split at this
      · rename_i e; subst e; simpa using this
      · exact this
set_option maxRecDepth 100000 in
theorem arg_bools {r : Reach} {b0 : Nat} {v : Value} {d : DataW H} {p : List MemPlace} (hv : Value.okWide Try.prog w r b0 50 v) (h : DataW.Trod enc Try.prog w base allP held 50 v d p) :
    ∃ A n c xs, v = .slice A n c ∧ SlR boolF w A n xs ∧ n ≤ maxLen := by
  obtain ⟨A, n, c, rfl⟩ := okWide_slice Try.underlying50 hv
  obtain ⟨fuel, hf⟩ := h
  exact open_bools_ (v0 := .slice A n c) hf
end
end Go.Proofs.Ytaphmmobmadfoaa
