/- Put together: MkM, MkH, Errs, Deep, MkC. -/
import Derived.Test.YtnhaekifcieeoaaGreatDoorPk04
import Derived.Test.YtnhaekifcieeoaaGreatDoorPk03
import Derived.Test.YtnhaekifcieeoaaGreatDoorPk02
import Derived.Test.YtnhaekifcieeoaaGreatDoorProg
namespace Go.Proofs.YtnhaekifcieeoaaGreatDoor
open Go Go.RowKit
abbrev ptr (g : Nat) : Value := .pointer (some ⟨g, 0, none⟩)
abbrev makeT : TypeId := 29
abbrev ruleT : TypeId := 108
abbrev varT : TypeId := 110
structure RulA where
  tA : Option Addr
  tc : Nat
  nA : Option Addr
  nc : Nat
  cA : Option Addr
  cc : Nat
def rulF : Flat (RulA × Rul) := ⟨3, fun x => [.slice x.1.tA x.2.targets.length x.1.tc, .slice x.1.nA x.2.needs.length x.1.nc, .slice x.1.cA x.2.cmds.length x.1.cc], fun _ => rfl⟩
structure SRow where
  A : Option Addr
  c : Nat
  xs : List Str
abbrev SRow.own (x : SRow) : Option Nat := (Value.slice x.A x.xs.length x.c).ownBlock
abbrev SRow.F (w wr : World) (x : SRow) : Prop := Fresh strF 9 w wr x.A x.c x.xs
def SRow.off (x y : SRow) : Prop := ∀ g, x.own = some g → y.own ≠ some g
theorem SRow.off_symm {x y : SRow} (h : x.off y) : y.off x := fun g h1 h2 => h g h2 h1
structure SRows (w wr : World) (L : List SRow) : Prop where
  f : ∀ x ∈ L, x.F w wr
  p : L.Pairwise SRow.off
section
variable {w wr u : World} {L L1 L2 : List SRow} {x : SRow}
theorem SRows.ext (h : SRows w wr L) (hx : Ext wr u) : SRows w u L := ⟨fun x hm => (h.f x hm).on hx, h.p⟩
theorem SRows.lt (h : SRows w wr L) (hm : x ∈ L) : ∀ g, x.own = some g → g < wr.heap.size := fun g hg => by
  obtain ⟨_, hc⟩ := own_cs (h.f x hm).own hg
  exact hc.lt
theorem SRows.keep (h : SRows w wr L) {F : Nat → Prop} (hx : Only F wr u) (hE : Ext w u) (hn : ∀ x ∈ L, ∀ g, x.own = some g → ¬ F g) : SRows w u L := ⟨fun x hm => (h.f x hm).keep hx hE (hn x hm), h.p⟩
theorem SRows.add (h : SRows w wr L) (hw : Ext w wr) (hx : x.F wr u) : SRows w u (L ++ [x]) := by
  refine ⟨fun y hy => ?_, ?_⟩
  · rcases List.mem_append.1 hy with hy | hy
    · exact (h.f y hy).on hx.ext
    · obtain rfl := List.mem_singleton.1 hy
      exact Fresh.from hx hw
  · rw [List.pairwise_append]
    refine ⟨h.p, List.pairwise_singleton _ _, fun a ha b hb => ?_⟩
    obtain rfl := List.mem_singleton.1 hb
    intro g h1 h2
    have := h.lt ha g h1
    have := hx.new g h2
    omega
theorem SRows.grow (h : SRows w u (L1 ++ x :: L2)) {A' : Option Addr} {c' : Nat} {w5 : World} {t : Str}
    (hown : w5.ownsRow 0 9 1 (.slice A' (x.xs.length + 1 : Nat) c') (x.xs.length + 1) (x.xs.flatMap strF.enc ++ [t].flatMap strF.enc)) (hg : u.grownBy w5 (Value.slice x.A x.xs.length x.c).ownBlock)
    (hb : (Value.slice A' (x.xs.length + 1 : Nat) c').ownBlock = (Value.slice x.A x.xs.length x.c).ownBlock ∨ (Value.slice A' (x.xs.length + 1 : Nat) c').ownBlock = some u.heap.size) :
    SRows w w5 (L1 ++ ⟨A', c', x.xs ++ [t]⟩ :: L2) := by
  have O5 : Only (fun b => (Value.slice x.A x.xs.length x.c).ownBlock = some b) u w5 := (Only.refl _ _).grown hg fun g e => .inr e
  have F5 := (h.f x (by simp)).grow (ys := [t]) rfl hown hg hb
  have hp := h.p
  rw [List.pairwise_append, List.pairwise_cons] at hp
  obtain ⟨p1, ⟨p2, p3⟩, p4⟩ := hp
  have q1 : ∀ y ∈ L1, y.off x := fun y hy => p4 y hy x (by simp)
  have new : ∀ y ∈ L1 ++ L2, y.off x → y.off ⟨A', c', x.xs ++ [t]⟩ := fun y hy ho g h1 h2 => by
    have hlt := h.lt (x := y) (by rcases List.mem_append.1 hy with hy | hy <;> simp [hy]) g h1
    have h2' : (Value.slice A' (x.xs.length + 1 : Nat) c').ownBlock = some g := by rw [← h2]; unfold SRow.own; rw [List.length_append]; rfl
    rcases hb with hb | hb
    · exact ho g h1 (hb.symm.trans h2')
    · rw [hb] at h2'
      injection h2' with h2'
      omega
  refine ⟨fun y hy => ?_, ?_⟩
  · rcases List.mem_append.1 hy with hy | hy
    · exact (h.f y (by simp [hy])).keep O5 F5.ext (fun g h1 h2 => q1 y hy g h1 h2)
    · rcases List.mem_cons.1 hy with rfl | hy
      · exact F5
      · exact (h.f y (by simp [hy])).keep O5 F5.ext (fun g h1 h2 => p2 y hy g h2 h1)
  · rw [List.pairwise_append, List.pairwise_cons]
    refine ⟨p1, ⟨fun y hy => SRow.off_symm (new y (by simp [hy]) (SRow.off_symm (p2 y hy))), p3⟩, fun a ha b hb' => ?_⟩
    rcases List.mem_cons.1 hb' with rfl | hb'
    · exact new a (by simp [ha]) (q1 a ha)
    · exact p4 a ha b (by simp [hb'])
end
abbrev rowsOf (x : RulA × Rul) : List SRow := [⟨x.1.tA, x.1.tc, x.2.targets⟩, ⟨x.1.nA, x.1.nc, x.2.needs⟩, ⟨x.1.cA, x.1.cc, x.2.cmds⟩]
structure MkV where
  vA : Option Addr
  vc : Nat
  rA : Option Addr
  rc : Nat
  pA : Option Addr
  pc : Nat
abbrev mkV0 : MkV := ⟨none, 0, none, 0, none, 0⟩
abbrev mkV (v : MkV) (m : Mk) : Value := .agg #[.slice v.vA m.vars.length v.vc, .slice v.rA m.rules.length v.rc, .slice v.pA m.phony.length v.pc]
structure MAt (Q : List SRow) (w wr : World) (g : Nat) (v : MkV) (rs : List (RulA × Rul)) (m : Mk) : Prop where
  rc : Cs wr g makeT #[.slice v.vA m.vars.length v.vc, .slice v.rA rs.length v.rc, .slice v.pA m.phony.length v.pc]
  fv : Fresh fileF varT w wr v.vA v.vc m.vars
  fr : Fresh rulF ruleT w wr v.rA v.rc rs
  ss : SRows w wr (Q ++ ⟨v.pA, v.pc, m.phony⟩ :: rs.flatMap rowsOf)
  rm : rs.map (·.2) = m.rules
  ng : w.heap.size ≤ g
structure MakeR (w : World) (v : MkV) (rs : List (RulA × Rul)) (m : Mk) : Prop where
  fv : SlR fileF w v.vA m.vars.length m.vars
  fr : SlR rulF w v.rA m.rules.length rs
  fp : SlR strF w v.pA m.phony.length m.phony
  rr : ∀ x ∈ rs, SlR strF w x.1.tA x.2.targets.length x.2.targets ∧ SlR strF w x.1.nA x.2.needs.length x.2.needs ∧ SlR strF w x.1.cA x.2.cmds.length x.2.cmds
  rm : rs.map (·.2) = m.rules
theorem makeR0 (w : World) : MakeR w mkV0 [] mk0 := ⟨SlR.none_, SlR.none_, SlR.none_, (fun x hx => by cases hx), rfl⟩
theorem MakeR.ext {w u : World} {v : MkV} {rs : List (RulA × Rul)} {m : Mk} (h : MakeR w v rs m) (hx : Ext w u) : MakeR u v rs m :=
  ⟨h.fv.ext hx, h.fr.ext hx, h.fp.ext hx, fun x hm => ⟨(h.rr x hm).1.ext hx, (h.rr x hm).2.1.ext hx, (h.rr x hm).2.2.ext hx⟩, h.rm⟩
theorem rules_get {w : World} {A : Option Addr} {n : Nat} {rs : List (RulA × Rul)} (h : SlR rulF w A n rs) {k : Nat} (hk : k < n) :
    ∃ b o x, A = some ⟨b, o, none⟩ ∧ rs[k]? = some x ∧ b < w.heap.size ∧ (∀ u, Ext w u → u.cell? ⟨b, o + k * 3, none⟩ = some (.slice x.1.tA x.2.targets.length x.1.tc)) ∧ (∀ u, Ext w u → u.cell? ⟨b, o + k * 3 + 1, none⟩ = some (.slice x.1.nA x.2.needs.length x.1.nc)) ∧ (∀ u, Ext w u → u.cell? ⟨b, o + k * 3 + 2, none⟩ = some (.slice x.1.cA x.2.cmds.length x.1.cc)) := by
  obtain ⟨b, o, x, e, hb, hx, hc⟩ := h.get hk
  exact ⟨b, o, x, e, hx, hb, fun u hu => (hu.cell hb id).trans (hc 0 _ rfl), fun u hu => (hu.cell hb id).trans (hc 1 _ rfl), fun u hu => (hu.cell hb id).trans (hc 2 _ rfl)⟩
section
variable {Q : List SRow} {w wr u : World} {g : Nat} {v : MkV} {rs : List (RulA × Rul)} {m : Mk}
theorem MAt.x (h : MAt Q w wr g v rs m) : Ext w wr := h.fv.ext
theorem MAt.rl (h : MAt Q w wr g v rs m) : rs.length = m.rules.length := by rw [← h.rm, List.length_map]
theorem MAt.ext (h : MAt Q w wr g v rs m) (hx : Ext wr u) : MAt Q w u g v rs m := ⟨h.rc.keep hx id, h.fv.on hx, h.fr.on hx, h.ss.ext hx, h.rm, h.ng⟩
theorem MAt.made (h : MAt Q w wr g v rs m) : MakeR wr v rs m := by
  refine ⟨h.fv.row (by decide), ?_, (h.ss.f ⟨v.pA, v.pc, m.phony⟩ (by simp)).row (by decide), fun x hx => ?_, h.rm⟩
  · have := h.fr.row (by decide)
    rw [h.rl] at this
    exact this
  · have q : ∀ y ∈ rowsOf x, y ∈ Q ++ (⟨v.pA, v.pc, m.phony⟩ : SRow) :: rs.flatMap rowsOf := fun y hy => List.mem_append_right _ (List.mem_cons_of_mem _ (List.mem_flatMap.2 ⟨x, hx, hy⟩))
    exact ⟨(h.ss.f _ (q ⟨x.1.tA, x.1.tc, x.2.targets⟩ (by simp))).row (by decide), (h.ss.f _ (q ⟨x.1.nA, x.1.nc, x.2.needs⟩ (by simp))).row (by decide), (h.ss.f _ (q ⟨x.1.cA, x.1.cc, x.2.cmds⟩ (by simp))).row (by decide)⟩
theorem MAt.at_ (h : MAt Q w wr g v rs m) (i : Nat) (x : Value) : Ext w (wr.setCell ⟨g, i, none⟩ x) :=
  h.x.trans ((Only.refl (fun b => b = g) wr).at_ i x) fun b hb e => by have e : b = g := e; have := h.ng; omega
theorem MAt.growV (h : MAt Q w u g v rs m) {A' : Option Addr} {c' : Nat} {w5 : World} {t : File}
    (hown : w5.ownsRow 0 varT 2 (.slice A' (m.vars.length + 1 : Nat) c') (m.vars.length + 1) (m.vars.flatMap fileF.enc ++ [t].flatMap fileF.enc)) (hg : u.grownBy w5 (Value.slice v.vA m.vars.length v.vc).ownBlock)
    (hb : (Value.slice A' (m.vars.length + 1 : Nat) c').ownBlock = (Value.slice v.vA m.vars.length v.vc).ownBlock ∨ (Value.slice A' (m.vars.length + 1 : Nat) c').ownBlock = some u.heap.size) :
    MAt Q w (w5.setCell ⟨g, 0, none⟩ (.slice A' (m.vars.length + 1 : Nat) c')) g { v with vA := A', vc := c' } rs ⟨m.vars ++ [t], m.rules, m.phony⟩ := by
  have O5 : Only (fun b => (Value.slice v.vA m.vars.length v.vc).ownBlock = some b) u w5 := (Only.refl _ _).grown hg fun g e => .inr e
  have F5 := h.fv.grow (ys := [t]) rfl hown hg hb
  have N5 := h.fr.keep O5 F5.ext (fun g h1 h2 => own_ne_own h.fr.own h.fv.own (by decide) g h1 h2)
  have P5 := h.ss.keep O5 F5.ext (fun x hx g h1 h2 => own_ne_own (h.ss.f x hx).own h.fv.own (by decide) g h1 h2)
  have c5 := h.rc.keep O5 (fun e => own_ne_cs h.fv.own h.rc (by decide) _ e rfl)
  have O6 : Only (fun b => b = g) w5 (w5.setCell ⟨g, 0, none⟩ (.slice A' (m.vars.length + 1 : Nat) c')) := (Only.refl _ _).at_ 0 _
  have E6 : Ext w (w5.setCell ⟨g, 0, none⟩ (.slice A' (m.vars.length + 1 : Nat) c')) := F5.ext.trans O6 fun b hb e => by have e : b = g := e; have := h.ng; omega
  refine ⟨?_, F5.keep O6 E6 (own_ne_cs F5.own c5 (by decide)), N5.keep O6 E6 (own_ne_cs N5.own c5 (by decide)), P5.keep O6 E6 (fun x hx => own_ne_cs (P5.f x hx).own c5 (by decide)), h.rm, h.ng⟩
  have := c5.set_ 0 (.slice A' (m.vars.length + 1 : Nat) c')
  show Cs _ _ _ #[.slice A' (m.vars ++ [t]).length c', _, _]
  rw [List.length_append]
  exact this
theorem MAt.growP (h : MAt Q w u g v rs m) {A' : Option Addr} {c' : Nat} {w5 : World} {t : Str}
    (hown : w5.ownsRow 0 9 1 (.slice A' (m.phony.length + 1 : Nat) c') (m.phony.length + 1) (m.phony.flatMap strF.enc ++ [t].flatMap strF.enc)) (hg : u.grownBy w5 (Value.slice v.pA m.phony.length v.pc).ownBlock)
    (hb : (Value.slice A' (m.phony.length + 1 : Nat) c').ownBlock = (Value.slice v.pA m.phony.length v.pc).ownBlock ∨ (Value.slice A' (m.phony.length + 1 : Nat) c').ownBlock = some u.heap.size) :
    MAt Q w (w5.setCell ⟨g, 2, none⟩ (.slice A' (m.phony.length + 1 : Nat) c')) g { v with pA := A', pc := c' } rs ⟨m.vars, m.rules, m.phony ++ [t]⟩ := by
  have O5 : Only (fun b => (Value.slice v.pA m.phony.length v.pc).ownBlock = some b) u w5 := (Only.refl _ _).grown hg fun g e => .inr e
  have hP := (h.ss.f ⟨v.pA, v.pc, m.phony⟩ (by simp))
  have P5 := h.ss.grow (L1 := Q) (x := ⟨v.pA, v.pc, m.phony⟩) (t := t) hown hg hb
  have E5 : Ext w w5 := (P5.f ⟨A', c', m.phony ++ [t]⟩ (by simp)).ext
  have N5 := h.fr.keep O5 E5 (fun g h1 h2 => own_ne_own h.fr.own hP.own (by decide) g h1 h2)
  have F5 := h.fv.keep O5 E5 (fun g h1 h2 => own_ne_own h.fv.own hP.own (by decide) g h1 h2)
  have c5 := h.rc.keep O5 (fun e => own_ne_cs hP.own h.rc (by decide) _ e rfl)
  have O6 : Only (fun b => b = g) w5 (w5.setCell ⟨g, 2, none⟩ (.slice A' (m.phony.length + 1 : Nat) c')) := (Only.refl _ _).at_ 2 _
  have E6 : Ext w (w5.setCell ⟨g, 2, none⟩ (.slice A' (m.phony.length + 1 : Nat) c')) := E5.trans O6 fun b hb e => by have e : b = g := e; have := h.ng; omega
  refine ⟨?_, F5.keep O6 E6 (own_ne_cs F5.own c5 (by decide)), N5.keep O6 E6 (own_ne_cs N5.own c5 (by decide)), P5.keep O6 E6 (fun x hx => own_ne_cs (P5.f x hx).own c5 (by decide)), h.rm, h.ng⟩
  have := c5.set_ 2 (.slice A' (m.phony.length + 1 : Nat) c')
  show Cs _ _ _ #[_, _, .slice A' (m.phony ++ [t]).length c']
  rw [List.length_append]
  exact this
theorem MAt.growR {a : RulA} {r : Rul} (h : MAt Q w u g v rs m) (hs : SRows w u (Q ++ ⟨v.pA, v.pc, m.phony⟩ :: (rs ++ [(a, r)]).flatMap rowsOf)) {A' : Option Addr} {c' : Nat} {w5 : World}
    (hown : w5.ownsRow 0 ruleT 3 (.slice A' (rs.length + 1 : Nat) c') (rs.length + 1) (rs.flatMap rulF.enc ++ [(a, r)].flatMap rulF.enc)) (hg : u.grownBy w5 (Value.slice v.rA rs.length v.rc).ownBlock)
    (hb : (Value.slice A' (rs.length + 1 : Nat) c').ownBlock = (Value.slice v.rA rs.length v.rc).ownBlock ∨ (Value.slice A' (rs.length + 1 : Nat) c').ownBlock = some u.heap.size) :
    MAt Q w (w5.setCell ⟨g, 1, none⟩ (.slice A' (rs.length + 1 : Nat) c')) g { v with rA := A', rc := c' } (rs ++ [(a, r)]) ⟨m.vars, m.rules ++ [r], m.phony⟩ := by
  have O5 : Only (fun b => (Value.slice v.rA rs.length v.rc).ownBlock = some b) u w5 := (Only.refl _ _).grown hg fun g e => .inr e
  have F5 := h.fr.grow (ys := [(a, r)]) rfl hown hg hb
  have N5 := h.fv.keep O5 F5.ext (fun g h1 h2 => own_ne_own h.fv.own h.fr.own (by decide) g h1 h2)
  have P5 := hs.keep O5 F5.ext (fun x hx g h1 h2 => own_ne_own (hs.f x hx).own h.fr.own (by decide) g h1 h2)
  have c5 := h.rc.keep O5 (fun e => own_ne_cs h.fr.own h.rc (by decide) _ e rfl)
  have O6 : Only (fun b => b = g) w5 (w5.setCell ⟨g, 1, none⟩ (.slice A' (rs.length + 1 : Nat) c')) := (Only.refl _ _).at_ 1 _
  have E6 : Ext w (w5.setCell ⟨g, 1, none⟩ (.slice A' (rs.length + 1 : Nat) c')) := F5.ext.trans O6 fun b hb e => by have e : b = g := e; have := h.ng; omega
  refine ⟨?_, N5.keep O6 E6 (own_ne_cs N5.own c5 (by decide)), F5.keep O6 E6 (own_ne_cs F5.own c5 (by decide)), P5.keep O6 E6 (fun x hx => own_ne_cs (P5.f x hx).own c5 (by decide)), by rw [List.map_append, h.rm]; rfl, h.ng⟩
  have := c5.set_ 1 (.slice A' (rs.length + 1 : Nat) c')
  rw [List.length_append]
  exact this
theorem enc_last (rs : List (RulA × Rul)) (a : RulA) (r : Rul) (rest : List Value) : ((rs ++ [(a, r)]).flatMap rulF.enc ++ rest).toArray[rs.length * 3 + 2]? = some (.slice a.cA r.cmds.length a.cc) := by
  rw [List.getElem?_toArray, List.flatMap_append, List.append_assoc, List.getElem?_append_right (by rw [length_flatMap_enc]; show rs.length * 3 ≤ _; omega), length_flatMap_enc]
  show ([_, _, _] ++ rest)[rs.length * 3 + 2 - rs.length * 3]? = _
  rw [show rs.length * 3 + 2 - rs.length * 3 = 2 by omega]
  rfl
theorem MAt.last {a : RulA} {r : Rul} (h : MAt Q w u g v (rs ++ [(a, r)]) m) : ∃ gR cur, v.rA = some ⟨gR, 0, none⟩ ∧ Cs u gR ruleT cur ∧ cur[rs.length * 3 + 2]? = some (.slice a.cA r.cmds.length a.cc) := by
  have hown5 := h.fr.own
  rw [show (rs ++ [(a, r)]).length = rs.length + 1 by simp] at hown5
  obtain ⟨gR, rest, hA, hC, hl, hlc, hnc, hm⟩ := own_block hown5 (by omega) (by decide)
  exact ⟨gR, _, hA, hC, enc_last rs a r rest⟩
theorem MAt.crow {a : RulA} {r : Rul} (h : MAt Q w u g v (rs ++ [(a, r)]) m) : Fresh strF 9 w u a.cA a.cc r.cmds := h.ss.f ⟨a.cA, a.cc, r.cmds⟩ (by simp [List.flatMap_append])
theorem MAt.growC {a : RulA} {r : Rul} (h : MAt Q w u g v (rs ++ [(a, r)]) m) {A' : Option Addr} {c' : Nat} {w5 : World} {t : Str}
    (hown : w5.ownsRow 0 9 1 (.slice A' (r.cmds.length + 1 : Nat) c') (r.cmds.length + 1) (r.cmds.flatMap strF.enc ++ [t].flatMap strF.enc)) (hg : u.grownBy w5 (Value.slice a.cA r.cmds.length a.cc).ownBlock)
    (hb : (Value.slice A' (r.cmds.length + 1 : Nat) c').ownBlock = (Value.slice a.cA r.cmds.length a.cc).ownBlock ∨ (Value.slice A' (r.cmds.length + 1 : Nat) c').ownBlock = some u.heap.size) :
    ∃ gR cur, v.rA = some ⟨gR, 0, none⟩ ∧ Cs w5 gR ruleT cur ∧ cur[rs.length * 3 + 2]? = some (.slice a.cA r.cmds.length a.cc) ∧ MAt Q w (w5.setCell ⟨gR, rs.length * 3 + 2, none⟩ (.slice A' (r.cmds.length + 1 : Nat) c')) g v (rs ++ [({ a with cA := A', cc := c' }, ⟨r.targets, r.needs, r.cmds ++ [t]⟩)]) ⟨m.vars, rs.map (·.2) ++ [⟨r.targets, r.needs, r.cmds ++ [t]⟩], m.phony⟩ := by
  have O5 : Only (fun b => (Value.slice a.cA r.cmds.length a.cc).ownBlock = some b) u w5 := (Only.refl _ _).grown hg fun g e => .inr e
  have hmem : (⟨a.cA, a.cc, r.cmds⟩ : SRow) ∈ Q ++ (⟨v.pA, v.pc, m.phony⟩ : SRow) :: (rs ++ [(a, r)]).flatMap rowsOf := by simp [List.flatMap_append]
  have hP := h.ss.f _ hmem
  have eL : ∀ (b : RulA) (q : Rul), Q ++ (⟨v.pA, v.pc, m.phony⟩ : SRow) :: (rs ++ [(b, q)]).flatMap rowsOf = (Q ++ (⟨v.pA, v.pc, m.phony⟩ : SRow) :: rs.flatMap rowsOf ++ [⟨b.tA, b.tc, q.targets⟩, ⟨b.nA, b.nc, q.needs⟩]) ++ (⟨b.cA, b.cc, q.cmds⟩ : SRow) :: [] := by
    intro b q
    simp [List.flatMap_append, List.append_assoc]
  have hss := h.ss
  rw [eL] at hss
  have P5 := hss.grow (x := ⟨a.cA, a.cc, r.cmds⟩) (t := t) hown hg hb
  have E5 : Ext w w5 := (P5.f ⟨A', c', r.cmds ++ [t]⟩ (by simp)).ext
  have N5 := h.fr.keep O5 E5 (fun g h1 h2 => own_ne_own h.fr.own hP.own (by decide) g h1 h2)
  have F5 := h.fv.keep O5 E5 (fun g h1 h2 => own_ne_own h.fv.own hP.own (by decide) g h1 h2)
  have c5 := h.rc.keep O5 (fun e => own_ne_cs hP.own h.rc (by decide) _ e rfl)
  have hown5 := N5.own
  rw [show (rs ++ [(a, r)]).length = rs.length + 1 by simp] at hown5
  obtain ⟨gR, rest, hA, hC, hl, hlc, hnc, hm⟩ := own_block hown5 (by omega) (by decide)
  have hB : (Value.slice v.rA (rs ++ [(a, r)]).length v.rc).ownBlock = some gR := by rw [hA]; simp [Value.ownBlock]
  have hRw : w.heap.size ≤ gR := N5.new gR hB
  refine ⟨gR, _, hA, hC, enc_last rs a r rest, ?_⟩
  have O6 : Only (fun b => b = gR) w5 (w5.setCell ⟨gR, rs.length * 3 + 2, none⟩ (.slice A' (r.cmds.length + 1 : Nat) c')) := (Only.refl _ _).at_ _ _
  have E6 : Ext w (w5.setCell ⟨gR, rs.length * 3 + 2, none⟩ (.slice A' (r.cmds.length + 1 : Nat) c')) := E5.trans O6 fun b hb e => by have e : b = gR := e; omega
  have hCs := hC.set_ (rs.length * 3 + 2) (.slice A' (r.cmds.length + 1 : Nat) c')
  have e9 : (((rs ++ [(a, r)]).flatMap rulF.enc ++ rest).toArray.setIfInBounds (rs.length * 3 + 2) (.slice A' (r.cmds.length + 1 : Nat) c')) = ((rs ++ [({ a with cA := A', cc := c' }, (⟨r.targets, r.needs, r.cmds ++ [t]⟩ : Rul))]).flatMap rulF.enc ++ rest).toArray := by
    apply Array.ext'
    rw [Array.toList_setIfInBounds]
    have h0 : (rs.flatMap rulF.enc).length = rs.length * 3 := length_flatMap_enc rulF rs
    rw [List.flatMap_append, List.flatMap_append, List.append_assoc, List.append_assoc]
    show (rs.flatMap rulF.enc ++ ([_, _, _] ++ rest)).set (rs.length * 3 + 2) _ = rs.flatMap rulF.enc ++ ([_, _, _] ++ rest)
    rw [List.set_append_right _ _ (by omega), h0, show rs.length * 3 + 2 - rs.length * 3 = 2 by omega]
    simp
  rw [e9] at hCs
  refine ⟨?_, F5.keep O6 E6 (own_ne_cs F5.own hC (by decide)), ⟨?_, E6, ?_⟩, ?_, ?_, h.ng⟩
  · have h8 := c5.keep O6 (fun e => Cs.ne_ c5 hC (by decide) e)
    rw [show (rs ++ [(a, r)]).length = rs.length + 1 by simp] at h8
    rw [List.length_append]
    exact h8
  · rw [hA, show (rs ++ [(({ a with cA := A', cc := c' } : RulA), (⟨r.targets, r.needs, r.cmds ++ [t]⟩ : Rul))]).length = rs.length + 1 by simp]
    refine own_of_block hCs (by omega) ?_ ?_ hnc hm
    · rw [length_flatMap_enc]; simp
    · rw [List.length_append] at hlc ⊢
      rw [← hlc, length_flatMap_enc, length_flatMap_enc]
      simp
  · intro k hk
    rw [hA] at hk
    simp [Value.ownBlock] at hk
    omega
  · have q := P5.keep O6 E6 (fun x hx => own_ne_cs (P5.f x hx).own hC (by decide))
    rw [eL]
    exact q
  · rw [List.map_append]; rfl
end
theorem SlR.take {α : Type} {T : Flat α} {w : World} {A : Option Addr} {n k : Nat} {xs : List α} (h : SlR T w A n xs) (hk : k ≤ n) : SlR T w A k (xs.take k) := by
  refine ⟨by rw [List.length_take, h.1]; omega, fun hn => ?_⟩
  obtain ⟨b, o, e, hb, hc⟩ := h.2 (by omega)
  refine ⟨b, o, e, hb, fun i x hx j u hu => ?_⟩
  rw [List.getElem?_take] at hx
  split at hx
  · exact hc i x hx j u hu
  · cases hx
theorem splB_mem (c : UInt8) : ∀ (s : Str), ∀ l ∈ splB c s, l.length ≤ s.length
  | [], l, h => by
    have h2 : l ∈ [([] : Str)] := h
    simp at h2
    subst h2
    exact Nat.le_refl _
  | x :: s, l, h => by
    have ih := splB_mem c s
    rw [splB_app] at h
    split at h
    · rcases List.mem_cons.1 h with rfl | h
      · exact Nat.zero_le _
      · have := ih l h
        simp only [List.length_cons]; omega
    · cases hL : splB c s with
      | nil => exact absurd hL (splB_ne c s)
      | cons a t =>
        rw [hL] at h ih
        simp only [headApp, List.mem_cons] at h
        rcases h with rfl | h
        · have := ih a (by simp)
          simp only [List.length_append, List.length_cons, List.length_nil]; omega
        · have := ih l (List.mem_cons_of_mem _ h)
          simp only [List.length_cons]; omega
theorem fieldsF_mem {s l : Str} (h : l ∈ fieldsF s) : l.length ≤ s.length := splB_mem 32 s l (List.mem_filter.1 h).1
theorem fieldsF_le (s : Str) : (fieldsF s).length ≤ s.length + 1 := Nat.le_trans (List.length_filter_le _ _) (splB_le 32 s)
theorem okFrom_cons (p : Bool) (seen r : List Str) (x : Str) : okFrom p seen (x :: r) = (wordB x && !inS seen x && (p || !patB x) && okFrom p (seen ++ [x]) r) := rfl
theorem take_succ_get {α : Type} {xs : List α} {k : Nat} {x : α} (hx : xs[k]? = some x) : xs.take (k + 1) = xs.take k ++ [x] := by rw [List.take_add_one, hx]; rfl
theorem drop_get {α : Type} {xs : List α} {k : Nat} {x : α} (hx : xs[k]? = some x) : xs.drop k = x :: xs.drop (k + 1) := by
  obtain ⟨hk, rfl⟩ := List.getElem?_eq_some_iff.1 hx
  exact List.drop_eq_getElem_cons hk
theorem any_take_succ {α : Type} (p : α → Bool) {xs : List α} {k : Nat} {x : α} (hx : xs[k]? = some x) : (xs.take (k + 1)).any p = ((xs.take k).any p || p x) := by
  rw [List.take_add_one, List.any_append, hx]
  simp
set_option maxRecDepth 100000 in
theorem IdxP_c {w : World} {A : Option Addr} {n c : Nat} {xs : List Str} (h : SlR strF w A n xs) (hn : n ≤ 100000) :
    Calls Tryz.prog 121 #[.slice A n c, .func (.func 102) #[] #[]] w fun e w' => ∃ i : Int, e = .returned (.int .i64 i) ∧ decide (0 ≤ i) = xs.any patB ∧ Ext w w' := by
  have HS := Lib.hid h
  go_enter Tryz.func121, Tryz.ntmps121
  go_wp2
  go_loopw [8] (fun i wr => ∃ k : Nat, k ≤ n ∧ i = .int .i64 k ∧ (xs.take k).any patB = false ∧ ∃ ξ : X w No, wr = ξ.v) (fun i _ => n - (intOf i).toNat)
  case atStart => exact ⟨0, Nat.zero_le _, rfl, rfl, X.here _ _, rfl⟩
  case round =>
    obtain ⟨k, hk, rfl, hT, ξ, rfl⟩ := hrel
    have HT := Lib.hid hT
    clear hT
    by_cases hlt : k < n
    · obtain ⟨b, o, f, rfl, hx, c0⟩ := strs_get HS.out hlt
      have HX := Lib.hid hx
      have HC := Lib.hid (pattern_c f)
      obtain ⟨p, hp⟩ : ∃ p, patB f = p := ⟨_, rfl⟩
      have HP := Lib.hid hp
      rw [hp] at HC
      clear hx hp h
      go_wp2_with fail
      refine (HC.out _).mono ?_
      rintro e u ⟨rfl, hu⟩
      have HU : Hid (Ext w u) := Lib.hid (ξ.h.then_ext hu)
      clear hu HC
      cases p with
      | true =>
        go_wp2_with fail
        go_ret
        refine ⟨k, rfl, ?_, HU.out⟩
        rw [decide_eq_true (by omega : 0 ≤ (k : Int))]
        exact (List.any_eq_true.2 ⟨f, List.mem_of_getElem? HX.out, HP.out⟩).symm
      | false =>
        go_wp2_with fail
        go_roundw
        case rel => exact ⟨k + 1, by omega, by go_num, by rw [any_take_succ patB HX.out, HT.out, HP.out]; rfl, ⟨_, HU.out⟩, rfl⟩
        case measure => simp [intOf]; omega
    · obtain rfl : k = n := by omega
      go_wp2_with fail
      go_ret
      have e1 := HT.out
      rw [List.take_of_length_le (by rw [HS.out.1]; exact Nat.le_refl _)] at e1
      exact ⟨-1, rfl, by rw [e1]; decide, ξ.h⟩
theorem AnyP_c {w : World} {A : Option Addr} {n c : Nat} {xs : List Str} (h : SlR strF w A n xs) (hn : n ≤ 100000) :
    Calls Tryz.prog 88 #[.slice A n c, .func (.func 102) #[] #[]] w fun e w' => e = .returned (.bool (xs.any patB)) ∧ Ext w w' := by
  have HC := Lib.hid (IdxP_c (c := c) h hn)
  clear h
  go_enter Tryz.func88, Tryz.ntmps88
  go_wp2_with fail
  refine HC.out.mono ?_
  rintro e u ⟨i, rfl, hi, hu⟩
  have HI := Lib.hid hi
  have HU := Lib.hid hu
  clear HC hi hu
  go_wp2_with fail
  go_ret
  exact ⟨by rw [← HI.out]; rfl, HU.out⟩
abbrev E (n : Int) : Value := .iface 80 (.int .i64 n)
def errV (n : Int) : Value := if n = 0 then .nilIface else E n
theorem errV_zero : errV 0 = .nilIface := rfl
theorem errV_pos {n : Int} (h : n ≠ 0) : errV n = E n := if_neg h
set_option maxRecDepth 100000 in
theorem Var_c (s : Str) (hs : s.length ≤ 1000000) (w : World) :
    Calls Tryz.prog 68 #[S s] w fun e w' => e = .returned (.bool (varB s)) ∧ Ext w w' := by
  go_enter Tryz.func68, Tryz.ntmps68
  go_wp2_with fail
  go_loopw [6] (fun i wr => ∃ k : Nat, k ≤ s.length ∧ i = .int .i64 k ∧ ((s.take k).all fun c => decide (65 ≤ c.toNat) && decide (c.toNat ≤ 90)) = true ∧ ∃ ξ : X w No, wr = ξ.v) (fun i _ => s.length - (intOf i).toNat)
  case atStart => exact ⟨0, Nat.zero_le _, rfl, rfl, X.here _ _, rfl⟩
  case round =>
    obtain ⟨k, hk, rfl, hT, ξ, rfl⟩ := hrel
    have HT := Lib.hid hT
    clear hT
    by_cases hlt : k < s.length
    · obtain ⟨x, hx⟩ : ∃ x, s[k] = x := ⟨_, rfl⟩
      have hxs : s[k]? = some x := by rw [List.getElem?_eq_getElem hlt, hx]
      have hxl := x.toNat_lt
      by_cases h1 : 65 ≤ x.toNat ∧ x.toNat ≤ 90
      · have HB : Hid (((s.take (k + 1)).all fun c => decide (65 ≤ c.toNat) && decide (c.toNat ≤ 90)) = true) := by
          have hT := HT.out
          unfold Hid
          rw [List.take_add_one, hxs]
          simp only [Option.toList, List.all_append, hT, List.all_cons, List.all_nil, Bool.and_true, Bool.true_and]
          simp [h1.1, h1.2]
        obtain ⟨h1, h2⟩ := h1
        have g1 : decide ((x.toNat : Int) < 65) = false := by rw [decide_eq_false_iff_not]; omega
        have g2 : decide ((90 : Int) < (x.toNat : Int)) = false := by rw [decide_eq_false_iff_not]; omega
        clear hxs
        go_wp2_with fail
        go_roundw
        case rel => exact ⟨k + 1, by omega, by go_num, HB.out, ξ, rfl⟩
        case measure => simp [intOf]; omega
      · have HB : Hid (varB s = false) := by
          have : (s.all fun c => decide (65 ≤ c.toNat) && decide (c.toNat ≤ 90)) = false := by
            rw [List.all_eq_false]
            refine ⟨x, List.mem_of_getElem? hxs, ?_⟩
            simp only [Bool.and_eq_true, decide_eq_true_eq]
            exact h1
          unfold Hid varB
          rw [this]; rfl
        clear hxs
        by_cases h2 : x.toNat < 65
        · have g1 : decide ((x.toNat : Int) < 65) = true := by rw [decide_eq_true_iff]; omega
          go_wp2_with fail
          go_ret
          exact ⟨by rw [HB.out]; rfl, ξ.h⟩
        · have g1 : decide ((x.toNat : Int) < 65) = false := by rw [decide_eq_false_iff_not]; omega
          have g2 : decide ((90 : Int) < (x.toNat : Int)) = true := by rw [decide_eq_true_iff]; omega
          go_wp2_with fail
          go_ret
          exact ⟨by rw [HB.out]; rfl, ξ.h⟩
    · have HB : Hid (varB s = (!(s == []) && decide (s.length ≤ 4))) := by
        have hT := HT.out
        rw [List.take_of_length_le (by omega)] at hT
        unfold Hid varB
        rw [hT]; rfl
      obtain ⟨p, hp⟩ : ∃ p, (s == ([] : Str)) = p := ⟨_, rfl⟩
      rw [hp] at HB
      by_cases h4 : s.length ≤ 4
      · have g1 : decide ((s.length : Int) ≤ 4) = true := by rw [decide_eq_true_iff]; omega
        rw [decide_eq_true h4] at HB
        cases p <;>
        · go_wp2_with fail
          go_ret
          exact ⟨by rw [HB.out]; rfl, ξ.h⟩
      · have g1 : decide ((s.length : Int) ≤ 4) = false := by rw [decide_eq_false_iff_not]; omega
        rw [decide_eq_false h4] at HB
        cases p <;>
        · go_wp2_with fail
          go_ret
          exact ⟨by rw [HB.out]; rfl, ξ.h⟩
def strLen : Value → Nat
  | .string b => b.size
  | _ => 0
theorem fnd_mem {k : Str} {xs : List File} {v : File} (h : fndL k xs = some v) : v ∈ xs := List.mem_reverse.1 (List.mem_of_find?_eq_some h)
set_option maxRecDepth 100000 in
set_option maxHeartbeats 4000000 in
theorem deep_c {w : World} (hm : Ml w) {A : Option Addr} {n c : Nat} {xs : List File} (h : SlR fileF w A n xs) (hn : n ≤ 100000) (hx : ∀ f ∈ xs, f.2.length ≤ 100000) : ∀ (d : Nat), d ≤ 6 → ∀ (s : Str), s.length ≤ 100000 → ∀ v, Ext w v →
    Calls Tryz.prog 127 #[.slice A n c, S s, .int .i64 (6 - d : Int)] v fun e w' => e = .returned (.tuple #[S (exp xs d s).1, errV (exp xs d s).2]) ∧ Ext v w' := by
  have HM := Lib.hid hm
  have H := Lib.hid h
  have HX := Lib.hid hx
  clear hm h hx
  intro d
  induction d with
  | zero =>
    intro _ s hs v hv
    show Calls Tryz.prog 127 #[.slice A n c, S s, .int .i64 6] v fun e w' => e = .returned (.tuple #[S [], errV 9]) ∧ Ext v w'
    go_enter Tryz.func127, Tryz.ntmps127
    go_wp2_with fail
    go_ret2
    exact ⟨rfl, Only.refl _ _⟩
  | succ d ih =>
    intro hd s hs v hv
    have HI := Lib.hid (ih (by omega))
    clear ih
    have hk : ((6 : Int) - ((d + 1 : Nat) : Int)) = ((5 - d : Nat) : Int) := by omega
    obtain ⟨k, hkk⟩ : ∃ k, k = 5 - d := ⟨_, rfl⟩
    have hk5 : k ≤ 5 := by omega
    have hk1 : ((6 : Int) - (d : Int)) = ((k + 1 : Nat) : Int) := by omega
    rw [hk, ← hkk]
    have HI2 : Hid (∀ (t : Str), t.length ≤ 100000 → ∀ v, Ext w v → Calls Tryz.prog 127 #[.slice A n c, S t, .int .i64 ((k : Int) + 1)] v fun e w' => e = .returned (.tuple #[S (exp xs d t).1, errV (exp xs d t).2]) ∧ Ext v w') := fun t ht v hv => by
      have := HI.out t ht v hv
      rw [hk1] at this
      exact this
    have HE : Hid (exp xs (d + 1) s = expL xs (exp xs d) (s.length + 1) s []) := rfl
    have HBd := Lib.hid (exp_bound xs d)
    have HNn := Lib.hid (exp_nonneg xs d)
    generalize exp xs (d + 1) s = R at HE ⊢
    generalize exp xs d = rec at HI2 HE HBd HNn
    obtain ⟨F0, hF0⟩ : ∃ f, f = s.length + 1 := ⟨_, rfl⟩
    have hsF : s.length < F0 := by omega
    rw [← hF0] at HE
    have g5 : decide ((5 : Int) < (k : Int)) = false := by rw [decide_eq_false_iff_not]; omega
    clear HI hk hkk hk1 hF0
    go_enter Tryz.func127, Tryz.ntmps127
    go_wp2_with fail
    go_loopw [1, 8] (fun sv ov wr => ∃ (f : Nat) (t out : Str), sv = S t ∧ ov = S out ∧ t.length < f ∧ t.length ≤ 100000 ∧ out.length ≤ 600 ∧ R = expL xs rec f t out ∧ ∃ ξ : X v No, wr = ξ.v) (fun sv _ _ => strLen sv)
    case atStart => exact ⟨F0, s, [], rfl, rfl, hsF, hs, Nat.zero_le _, HE.out, X.here _ _, rfl⟩
    case round =>
      obtain ⟨f, t, out, rfl, rfl, htf, ht, hout, hR, ξ, rfl⟩ := hrel
      obtain ⟨g, rfl⟩ : ∃ g, f = g + 1 := ⟨f - 1, by omega⟩
      have HR : Hid (R = if (Lib.cut t dlr).2.2 = false then (if 600 < (out ++ (Lib.cut t dlr).1).length then ([], 2) else (out ++ (Lib.cut t dlr).1, 0))
        else if (cutB 41 (Lib.cut t dlr).2.1).2.2 = false ∨ varB (cutB 41 (Lib.cut t dlr).2.1).1 = false then ([], 4)
        else match fndL (cutB 41 (Lib.cut t dlr).2.1).1 xs with
          | none => ([], 5)
          | some v => if (rec v.2).2 ≠ 0 then ([], (rec v.2).2) else if 600 < (out ++ (Lib.cut t dlr).1 ++ (rec v.2).1).length then ([], 2) else expL xs rec g (cutB 41 (Lib.cut t dlr).2.1).2.1 (out ++ (Lib.cut t dlr).1 ++ (rec v.2).1)) := hR
      clear hR HE
      have HC := Lib.hid (SCut_c t dlr (by omega) (HM.out.ext (hv.then_ext ξ.h)))
      have hcl := cut_len t dlr
      have hclt := cut_lt (s := t) (sep := dlr) (by simp)
      generalize Lib.cut t dlr = q at HC hcl hclt HR
      obtain ⟨a, b, is⟩ := q
      dsimp only at HC hcl hclt HR
      go_wp2_with fail
      refine (HC.out).mono ?_; rintro e uu ⟨rfl, hu⟩; obtain ⟨ξ1, hnew⟩ : ∃ ξ : X v No, ξ.v = uu := ⟨⟨uu, ξ.h.then_ext hu⟩, rfl⟩; subst hnew; have Hξ1 := Lib.hid hu; clear hu
      clear HC
      cases is with
      | false =>
        by_cases hl : 600 < (out ++ a).length
        · have HR2 : Hid (R = ([], 2)) := by rw [Hid, HR.out, if_pos rfl, if_pos hl]
          rw [List.length_append] at hl
          have g6 : decide ((600 : Int) < (out.length : Int) + (a.length : Int)) = true := by rw [decide_eq_true_iff]; omega
          clear HR
          go_wp2_with fail
          go_ret2
          rw [HR2.out]
          exact ⟨rfl, ξ1.h⟩
        · have HR2 : Hid (R = (out ++ a, 0)) := by rw [Hid, HR.out, if_pos rfl, if_neg hl]
          rw [List.length_append] at hl
          have g6 : decide ((600 : Int) < (out.length : Int) + (a.length : Int)) = false := by rw [decide_eq_false_iff_not]; omega
          clear HR
          go_wp2_with fail
          go_ret2
          rw [HR2.out]
          exact ⟨rfl, ξ1.h⟩
      | true =>
        have hbt := hclt rfl
        have HB := Lib.hid (BCut_c b 41 (by omega) (HM.out.ext (hv.then_ext ξ1.h)))
        have hbl := cutB_len 41 b
        generalize cutB 41 b = q2 at HB hbl HR
        obtain ⟨nm, rest, is2⟩ := q2
        dsimp only at HB hbl HR
        clear hclt
        go_wp2_with fail
        refine (HB.out).mono ?_; rintro e uu ⟨rfl, hu⟩; obtain ⟨ξ2, hnew⟩ : ∃ ξ : X v No, ξ.v = uu := ⟨⟨uu, ξ1.h.then_ext hu⟩, rfl⟩; subst hnew; have Hξ2 := Lib.hid hu; clear hu
        clear HB
        cases is2 with
        | false =>
          have HR2 : Hid (R = ([], 4)) := by rw [Hid, HR.out]; rfl
          clear HR
          go_wp2_with fail
          go_ret2
          rw [HR2.out]
          exact ⟨rfl, ξ2.h⟩
        | true =>
          have HV := Lib.hid (fun v => Var_c nm (by omega) v)
          have HF := Lib.hid (fun v (hv : Ext w v) => vfind_c (cap := c) (by omega) nm (H.out.ext hv))
          obtain ⟨vb, hvb⟩ : ∃ b, b = varB nm := ⟨_, rfl⟩
          rw [← hvb] at HV HR
          clear hvb
          cases vb with
          | false =>
            have HR2 : Hid (R = ([], 4)) := by rw [Hid, HR.out]; rfl
            clear HR HF
            go_upto_region 8 with fail
            refine Mix.wp_plain [4] (Cl v No) (Cl.of ξ2.h) ?_
            (repeat' (first | (refine Mix.lex_quiet0 rfl rfl rfl ?_; intro K hK; go_big_quiet_op; go_big_quiet_on) | (refine Mix.lex_quietG rfl rfl rfl (by with_reducible rfl) rfl rfl ?_; intro K hK; go_big_quiet_op; go_big_quiet_on) | ((first | refine Mix.lex_skipT rfl rfl rfl (by with_reducible rfl) ?_ | refine Mix.lex_skipF rfl rfl rfl (by with_reducible rfl) ?_ | refine Mix.lex_skipU rfl rfl rfl (by with_reducible rfl) ?_); simp only [Act.put, List.setIfInBounds_toArray, List.set_cons_succ, List.set_cons_zero]) | (refine Mix.lex_part rfl rfl rfl rfl (fun hq => ?_) (fun hq => ?_) <;> (fail_if_success (guard_hyp hq :ₛ true = true)) <;> (fail_if_success (guard_hyp hq :ₛ false = false)) <;> first | (exfalso; cases hq; done) | (exfalso; simp only [decide_eq_true_eq, decide_eq_false_iff_not, beq_iff_eq, beq_eq_false_iff_ne, ne_eq, Int.not_lt, Int.not_le] at hq; omega) | simp only [Act.put, List.setIfInBounds_toArray, List.set_cons_succ, List.set_cons_zero])))
            ((first | refine Mix.lex_goes0 rfl rfl ?_ | refine Mix.lex_goesG rfl rfl rfl (by with_reducible rfl) rfl ?_); intro K hK; go_simp); refine (HV.out _).mono ?_; rintro e uu ⟨rfl, hu⟩; obtain ⟨ξ3, hnew⟩ : ∃ ξ : X v No, ξ.v = uu := ⟨⟨uu, ξ2.h.then_ext hu⟩, rfl⟩; subst hnew; have Hξ3 := Lib.hid hu; refine ⟨_, rfl, hK _ _ (fun _ => ⟨ξ3, rfl⟩) ?_⟩; clear hK K hu; simp only [Act.put, List.setIfInBounds_toArray, List.set_cons_succ, List.set_cons_zero]; (repeat' (first | (refine Mix.lex_quiet0 rfl rfl rfl ?_; intro K hK; go_big_quiet_op; go_big_quiet_on) | (refine Mix.lex_quietG rfl rfl rfl (by with_reducible rfl) rfl rfl ?_; intro K hK; go_big_quiet_op; go_big_quiet_on) | ((first | refine Mix.lex_skipT rfl rfl rfl (by with_reducible rfl) ?_ | refine Mix.lex_skipF rfl rfl rfl (by with_reducible rfl) ?_ | refine Mix.lex_skipU rfl rfl rfl (by with_reducible rfl) ?_); simp only [Act.put, List.setIfInBounds_toArray, List.set_cons_succ, List.set_cons_zero]) | (refine Mix.lex_part rfl rfl rfl rfl (fun hq => ?_) (fun hq => ?_) <;> (fail_if_success (guard_hyp hq :ₛ true = true)) <;> (fail_if_success (guard_hyp hq :ₛ false = false)) <;> first | (exfalso; cases hq; done) | (exfalso; simp only [decide_eq_true_eq, decide_eq_false_iff_not, beq_iff_eq, beq_eq_false_iff_ne, ne_eq, Int.not_lt, Int.not_le] at hq; omega) | simp only [Act.put, List.setIfInBounds_toArray, List.set_cons_succ, List.set_cons_zero])))
            refine Mix.lex_nil ?_
            go_wp2_with fail
            go_ret2
            rw [HR2.out]
            exact ⟨rfl, ξ3.h⟩
          | true =>
            go_upto_region 8 with fail
            refine Mix.wp_plain [4] (Cl v No) (Cl.of ξ2.h) ?_
            (repeat' (first | (refine Mix.lex_quiet0 rfl rfl rfl ?_; intro K hK; go_big_quiet_op; go_big_quiet_on) | (refine Mix.lex_quietG rfl rfl rfl (by with_reducible rfl) rfl rfl ?_; intro K hK; go_big_quiet_op; go_big_quiet_on) | ((first | refine Mix.lex_skipT rfl rfl rfl (by with_reducible rfl) ?_ | refine Mix.lex_skipF rfl rfl rfl (by with_reducible rfl) ?_ | refine Mix.lex_skipU rfl rfl rfl (by with_reducible rfl) ?_); simp only [Act.put, List.setIfInBounds_toArray, List.set_cons_succ, List.set_cons_zero]) | (refine Mix.lex_part rfl rfl rfl rfl (fun hq => ?_) (fun hq => ?_) <;> (fail_if_success (guard_hyp hq :ₛ true = true)) <;> (fail_if_success (guard_hyp hq :ₛ false = false)) <;> first | (exfalso; cases hq; done) | (exfalso; simp only [decide_eq_true_eq, decide_eq_false_iff_not, beq_iff_eq, beq_eq_false_iff_ne, ne_eq, Int.not_lt, Int.not_le] at hq; omega) | simp only [Act.put, List.setIfInBounds_toArray, List.set_cons_succ, List.set_cons_zero])))
            ((first | refine Mix.lex_goes0 rfl rfl ?_ | refine Mix.lex_goesG rfl rfl rfl (by with_reducible rfl) rfl ?_); intro K hK; go_simp); refine (HV.out _).mono ?_; rintro e uu ⟨rfl, hu⟩; obtain ⟨ξ3, hnew⟩ : ∃ ξ : X v No, ξ.v = uu := ⟨⟨uu, ξ2.h.then_ext hu⟩, rfl⟩; subst hnew; have Hξ3 := Lib.hid hu; refine ⟨_, rfl, hK _ _ (fun _ => ⟨ξ3, rfl⟩) ?_⟩; clear hK K hu; simp only [Act.put, List.setIfInBounds_toArray, List.set_cons_succ, List.set_cons_zero]; (repeat' (first | (refine Mix.lex_quiet0 rfl rfl rfl ?_; intro K hK; go_big_quiet_op; go_big_quiet_on) | (refine Mix.lex_quietG rfl rfl rfl (by with_reducible rfl) rfl rfl ?_; intro K hK; go_big_quiet_op; go_big_quiet_on) | ((first | refine Mix.lex_skipT rfl rfl rfl (by with_reducible rfl) ?_ | refine Mix.lex_skipF rfl rfl rfl (by with_reducible rfl) ?_ | refine Mix.lex_skipU rfl rfl rfl (by with_reducible rfl) ?_); simp only [Act.put, List.setIfInBounds_toArray, List.set_cons_succ, List.set_cons_zero]) | (refine Mix.lex_part rfl rfl rfl rfl (fun hq => ?_) (fun hq => ?_) <;> (fail_if_success (guard_hyp hq :ₛ true = true)) <;> (fail_if_success (guard_hyp hq :ₛ false = false)) <;> first | (exfalso; cases hq; done) | (exfalso; simp only [decide_eq_true_eq, decide_eq_false_iff_not, beq_iff_eq, beq_eq_false_iff_ne, ne_eq, Int.not_lt, Int.not_le] at hq; omega) | simp only [Act.put, List.setIfInBounds_toArray, List.set_cons_succ, List.set_cons_zero])))
            refine Mix.lex_nil ?_
            cases hfn : fndL nm xs with
            | none =>
              rw [hfn] at HF HR
              have HF2 : Hid (∀ v, Ext w v → Calls Tryz.prog 157 #[.slice A n c, S nm] v fun e w' => e = .returned (.tuple #[S [], .bool false]) ∧ Ext v w') := HF.out
              have HR2 : Hid (R = ([], 5)) := by rw [Hid, HR.out]; rfl
              clear HR HF hfn
              go_wp2_with fail
              refine (HF2.out _ (hv.then_ext ξ3.h)).mono ?_; rintro e uu ⟨rfl, hu⟩; obtain ⟨ξ4, hnew⟩ : ∃ ξ : X v No, ξ.v = uu := ⟨⟨uu, ξ3.h.then_ext hu⟩, rfl⟩; subst hnew; have Hξ4 := Lib.hid hu; clear hu
              go_wp2_with fail
              go_ret2
              rw [HR2.out]
              exact ⟨rfl, ξ4.h⟩
            | some z =>
              rw [hfn] at HF HR
              have hzl := HX.out z (fnd_mem hfn)
              have HF2 : Hid (∀ v, Ext w v → Calls Tryz.prog 157 #[.slice A n c, S nm] v fun e w' => e = .returned (.tuple #[S z.2, .bool true]) ∧ Ext v w') := HF.out
              have HR1 : Hid (R = if (rec z.2).2 ≠ 0 then ([], (rec z.2).2) else if 600 < (out ++ a ++ (rec z.2).1).length then ([], 2) else expL xs rec g rest (out ++ a ++ (rec z.2).1)) := HR.out
              have HD := Lib.hid (HI2.out z.2 hzl)
              have hbd := HBd.out z.2
              have hnn := HNn.out z.2
              generalize rec z.2 = r at HR1 HD hbd hnn
              obtain ⟨rt, rf⟩ := r
              dsimp only at HR1 HD hbd hnn
              clear HR HF hfn
              go_wp2_with fail
              refine (HF2.out _ (hv.then_ext ξ3.h)).mono ?_; rintro e uu ⟨rfl, hu⟩; obtain ⟨ξ4, hnew⟩ : ∃ ξ : X v No, ξ.v = uu := ⟨⟨uu, ξ3.h.then_ext hu⟩, rfl⟩; subst hnew; have Hξ4 := Lib.hid hu; clear hu
              clear HF2
              go_wp2_with fail
              refine (HD.out _ (hv.then_ext ξ4.h)).mono ?_; rintro e uu ⟨rfl, hu⟩; obtain ⟨ξ5, hnew⟩ : ∃ ξ : X v No, ξ.v = uu := ⟨⟨uu, ξ4.h.then_ext hu⟩, rfl⟩; subst hnew; have Hξ5 := Lib.hid hu; clear hu
              clear HD
              by_cases hrf : rf = 0
              · have HR2 : Hid (R = if 600 < (out ++ a ++ rt).length then ([], 2) else expL xs rec g rest (out ++ a ++ rt)) := by rw [Hid, HR1.out, if_neg (by simpa using hrf)]
                subst hrf
                rw [errV_zero]
                clear HR1
                by_cases hl : 600 < (out ++ a ++ rt).length
                · have HR3 : Hid (R = ([], 2)) := by rw [Hid, HR2.out, if_pos hl]
                  rw [List.length_append, List.length_append] at hl
                  clear HR2
                  go_wp2_with fail
                  go_ret2
                  rw [HR3.out]
                  exact ⟨rfl, ξ5.h⟩
                · have HR3 : Hid (R = expL xs rec g rest (out ++ a ++ rt)) := by rw [Hid, HR2.out, if_neg hl]
                  rw [List.length_append, List.length_append] at hl
                  clear HR2
                  go_wp2_with fail
                  go_roundw
                  case rel => exact ⟨g, rest, out ++ a ++ rt, rfl, (by simp), by omega, by omega, by simp only [List.length_append]; omega, HR3.out, ξ5, rfl⟩
                  case measure => simp [strLen, ByteArray.size]; omega
              · have HR2 : Hid (R = ([], rf)) := by rw [Hid, HR1.out, if_pos (by simpa using hrf)]
                have HE := Lib.hid (errV_pos hrf)
                rw [errV_pos hrf]
                clear HR1 hrf
                go_wp2_with fail
                go_ret2
                rw [HR2.out]
                exact ⟨by rw [HE.out]; rfl, ξ5.h⟩
theorem Text_c {w : World} (hm : Ml w) {A : Option Addr} {n c : Nat} {xs : List File} (h : SlR fileF w A n xs) (hn : n ≤ 100000) (hx : ∀ f ∈ xs, f.2.length ≤ 100000) (s : Str) (hs : s.length ≤ 100000) :
    Calls Tryz.prog 97 #[.slice A n c, S s] w fun e w' => e = .returned (.tuple #[S (exp xs 6 s).1, errV (exp xs 6 s).2]) ∧ Ext w w' := by
  have HC := Lib.hid (deep_c hm h hn hx 6 (Nat.le_refl _) s hs w (Only.refl _ _) (c := c))
  clear hm h hx
  go_enter Tryz.func97, Tryz.ntmps97
  go_wp2_with fail
  refine (HC.out).mono ?_; rintro e uu ⟨rfl, hu⟩; obtain ⟨ξ1, hnew⟩ : ∃ ξ : X w No, ξ.v = uu := ⟨⟨uu, (X.here w No).h.then_ext hu⟩, rfl⟩; subst hnew; have Hξ1 := Lib.hid hu; clear hu
  go_wp2_with fail
  go_ret2
  exact ⟨rfl, ξ1.h⟩
theorem st_info : (Tryz.prog.info? 9).map (fun i => (i.zero, i.size, i.bytes)) = some (some (.string ⟨#[]⟩), 1, 16) := by kernel_rfl
theorem st_ty : Ety Tryz.prog 27 9 1 := Ety.mk' Tryz.underlying27 st_info rfl (by omega) (by omega)
theorem vr_info : (Tryz.prog.info? varT).map (fun i => (i.zero, i.size, i.bytes)) = some (some (.agg #[.string ⟨#[]⟩, .string ⟨#[]⟩]), 2, 32) := by kernel_rfl
theorem vr_ty : Ety Tryz.prog 25 varT 2 := Ety.mk' Tryz.underlying25 vr_info rfl (by omega) (by omega)
theorem ru_info : (Tryz.prog.info? ruleT).map (fun i => (i.zero, i.size, i.bytes)) = some (some (.agg #[.slice none 0 0, .slice none 0 0, .slice none 0 0]), 3, 72) := by kernel_rfl
theorem ru_ty : Ety Tryz.prog 26 ruleT 3 := Ety.mk' Tryz.underlying26 ru_info rfl (by omega) (by omega)
section
variable {Q : List SRow} {w wr : World} {g : Nat} {v : MkV} {rs : List (RulA × Rul)} {m : Mk}
def MkRes (Q : List SRow) (w : World) (g : Nat) (R : Mk × Int) (e : Ending) (w' : World) : Prop := ∃ v rs, e = .returned (errV R.2) ∧ MAt Q w w' g v rs R.1
theorem MAt.text (hm : Ml w) (h : MAt Q w wr g v rs m) (hv : m.vars.length ≤ 6) (ht : ∀ x ∈ m.vars, x.1.length ≤ 600 ∧ x.2.length ≤ 600) (s : Str) (hs : s.length ≤ 600) :
    Calls Tryz.prog 97 #[.slice v.vA m.vars.length v.vc, S s] wr fun e w' => e = .returned (.tuple #[S (exp m.vars 6 s).1, errV (exp m.vars 6 s).2]) ∧ Ext wr w' :=
  Text_c (hm.ext h.x) (h.fv.row (by decide)) (by omega) (fun f hf => by have := (ht f hf).2; omega) s (by omega)
end
set_option maxRecDepth 100000 in
set_option maxHeartbeats 4000000 in
theorem Command_c {Q : List SRow} {w wr : World} {g : Nat} {v : MkV} {rs : List (RulA × Rul)} {m : Mk} {k : Nat} (hm : Ml w) (h : MAt Q w wr g v rs m) (hf : m.Fit k) (s : Str) (hs : s.length ≤ 600) :
    Calls Tryz.prog 65 #[ptr g, S s] wr (MkRes Q w g (cmdF m s)) := by
  have P := Lib.hid h
  have HT := Lib.hid (h.text hm hf.v hf.vt s hs)
  have HB := Lib.hid (exp_bound m.vars 6 s)
  rcases List.eq_nil_or_concat rs with rfl | ⟨ini, ⟨a, r⟩, rfl⟩
  · have HF : Hid (cmdF m s = (m, 4)) := by
      have := h.rm
      unfold cmdF
      rw [← this]
      rfl
    have c1 : wr.cell? ⟨g, 1, none⟩ = some (.slice v.rA 0 v.rc) := h.rc.cell 1
    clear h hf HT HB
    go_enter Tryz.func65, Tryz.ntmps65
    go_wp2_with fail
    go_ret
    exact ⟨v, [], by rw [HF.out]; rfl, by rw [HF.out]; exact P.out⟩
  · rw [List.concat_eq_append] at P h
    have hrm := h.rm
    rw [List.map_append] at hrm
    have HRM : Hid (m.rules = ini.map (·.2) ++ [r]) := hrm.symm
    have hl : (ini ++ [(a, r)]).length = ini.length + 1 := by simp
    have HF : Hid (cmdF m s = if (exp m.vars 6 s).2 ≠ 0 then (m, (exp m.vars 6 s).2) else if r.cmds.length = 3 ∨ 28 < (exp m.vars 6 s).1.length then (m, 2) else (⟨m.vars, m.rules.dropLast ++ [⟨r.targets, r.needs, r.cmds ++ [(exp m.vars 6 s).1]⟩], m.phony⟩, 0)) := by
      unfold Hid cmdF
      rw [HRM.out, List.getLast?_concat]
    have hc3 : r.cmds.length ≤ 3 := (hf.rt r (by rw [HRM.out]; simp)).2.2.2
    have hn10 : ini.length + 1 ≤ 10 := by have := hf.r; rw [HRM.out] at this; simpa using this
    have c0 : wr.cell? ⟨g, 0, none⟩ = some (.slice v.vA m.vars.length v.vc) := h.rc.cell 0
    have c1 : wr.cell? ⟨g, 1, none⟩ = some (.slice v.rA (ini.length + 1 : Nat) v.rc) := by rw [← hl]; exact h.rc.cell 1
    have hne : ini.length + 1 ≠ 0 := by omega
    clear h hf hrm
    generalize exp m.vars 6 s = ex at HF HT HB
    obtain ⟨t, e⟩ := ex
    dsimp only at HF HT HB
    have htl := HB.out
    go_enter Tryz.func65, Tryz.ntmps65
    go_wp2_with fail
    refine HT.out.mono ?_
    rintro e' w1 ⟨rfl, hx⟩
    have P1 := Lib.hid (P.out.ext hx)
    clear hx P HT c0 c1
    by_cases he : e = 0
    · subst he
      rw [errV_zero]
      have HF2 : Hid (cmdF m s = if r.cmds.length = 3 ∨ 28 < t.length then (m, 2) else (⟨m.vars, m.rules.dropLast ++ [⟨r.targets, r.needs, r.cmds ++ [t]⟩], m.phony⟩, 0)) := by
        unfold Hid
        rw [HF.out]
        exact if_neg (fun h => h rfl)
      clear HF
      obtain ⟨gR, cur, hA, hC, hcur⟩ := P1.out.last
      have c1 : w1.cell? ⟨g, 1, none⟩ = some (.slice (some ⟨gR, 0, none⟩) (ini.length + 1 : Nat) v.rc) := by rw [← hl, ← hA]; exact P1.out.rc.cell 1
      have d1 : ∀ ξ : X w1 No, ξ.v.cell? ⟨g, 1, none⟩ = some (.slice (some ⟨gR, 0, none⟩) (ini.length + 1 : Nat) v.rc) := fun ξ => (P1.out.rc.keep ξ.h id).cell 1 |>.trans (by rw [← hl, ← hA]; rfl)
      have d2 : ∀ ξ : X w1 No, ξ.v.cell? ⟨gR, ini.length * 3 + 2, none⟩ = some (.slice a.cA r.cmds.length a.cc) := fun ξ => (hC.x id _ ξ).trans hcur
      clear c1 hC hcur cur
      go_wp2_with fail
      go_upto_region 6 with fail
      (refine Mix.wp_draw [] 100 (Cl (w1) (No)) (by kernel_rfl) (by kernel_rfl) (Cl.drew_ (X.here w1 No)) ?_; (repeat' (first | (refine Mix.lex_quiet0 rfl rfl rfl ?_; intro K hK; go_big_quiet_op; go_big_quiet_on) | (refine Mix.lex_quietG rfl rfl rfl (by with_reducible rfl) rfl rfl ?_; intro K hK; go_big_quiet_op; go_big_quiet_on) | ((first | refine Mix.lex_skipT rfl rfl rfl (by with_reducible rfl) ?_ | refine Mix.lex_skipF rfl rfl rfl (by with_reducible rfl) ?_ | refine Mix.lex_skipU rfl rfl rfl (by with_reducible rfl) ?_); simp only [Act.put, List.setIfInBounds_toArray, List.set_cons_succ, List.set_cons_zero]) | (refine Mix.lex_part rfl rfl rfl rfl (fun hq => ?_) (fun hq => ?_) <;> (fail_if_success (guard_hyp hq :ₛ true = true)) <;> (fail_if_success (guard_hyp hq :ₛ false = false)) <;> first | (exfalso; cases hq; done) | (exfalso; simp only [decide_eq_true_eq, decide_eq_false_iff_not, beq_iff_eq, beq_eq_false_iff_ne, ne_eq, Int.not_lt, Int.not_le] at hq; omega) | simp only [Act.put, List.setIfInBounds_toArray, List.set_cons_succ, List.set_cons_zero]))))
      all_goals (refine Mix.lex_nil ?_)
      obtain ⟨w2, hw2⟩ : ∃ u, u = w1.drew := ⟨_, rfl⟩
      have P2 : Hid (MAt Q w w2 g v (ini ++ [(a, r)]) m) := by rw [hw2]; exact P1.out.ext (Only.refl No _).drew
      have e2 : w2.cell? ⟨gR, ini.length * 3 + 2, none⟩ = some (.slice a.cA r.cmds.length a.cc) := by rw [hw2]; exact d2 ⟨_, (Only.refl No w1).drew⟩
      rw [← hw2]
      clear hw2 d1 d2 P1
      by_cases h3 : r.cmds.length = 3
      · have g3 : decide ((r.cmds.length : Int) = 3) = true := by rw [decide_eq_true_iff]; omega
        go_wp2_with fail
        go_ret
        exact ⟨v, ini ++ [(a, r)], by rw [HF2.out, if_pos (.inl h3)]; rfl, by rw [HF2.out, if_pos (.inl h3)]; exact P2.out⟩
      · have g3 : decide ((r.cmds.length : Int) = 3) = false := by rw [decide_eq_false_iff_not]; omega
        by_cases h28 : 28 < t.length
        · have g4 : decide ((28 : Int) < (t.length : Int)) = true := by rw [decide_eq_true_iff]; omega
          go_wp2_with fail
          go_ret
          exact ⟨v, ini ++ [(a, r)], by rw [HF2.out, if_pos (.inr h28)]; rfl, by rw [HF2.out, if_pos (.inr h28)]; exact P2.out⟩
        · have g4 : decide ((28 : Int) < (t.length : Int)) = false := by rw [decide_eq_false_iff_not]; omega
          have HF3 : Hid (cmdF m s = (⟨m.vars, ini.map (·.2) ++ [⟨r.targets, r.needs, r.cmds ++ [t]⟩], m.phony⟩, 0)) := by
            unfold Hid
            rw [HF2.out, if_neg (by omega), HRM.out, List.dropLast_concat]
          have P3 := Lib.hid (P2.out.ext ((Only.refl No w2).alloc (.cells #[S t] 9)))
          go_wp2_with (first | (at_builtin; go_must (refine wpList_append (v := .slice a.cA r.cmds.length a.cc) (n := r.cmds.length) (xs := r.cmds.flatMap strF.enc) rfl st_ty rfl rfl rfl P3.out.crow.own (rd_one w2 _ [S t]) (by simp [Value.oneCell']) (by omega) ?_); intro A2 c2 w5 hown5 hg5 hb5; obtain ⟨gR', cur', hA', hC', hcur', hP'⟩ := P3.out.growC (t := t) hown5 hg5 hb5; obtain rfl : gR = gR' := (by have hq := hA.symm.trans hA'; simpa using hq); have y1 : w5.cell? ⟨gR, ini.length * 3 + 2, none⟩ = some (.slice a.cA r.cmds.length a.cc) := (hC'.cell _).trans hcur'; have z1 := hC'.frozen (ini.length * 3 + 2); have P9 := Lib.hid hP'; clear hown5 hg5 hb5 hC' hcur' hP' hA') | ((first | refine Mix.wpList_guarded rfl ?_ | refine Mix.wp_still (by kernel_rfl) (by kernel_rfl) ?_); (repeat' (first | (refine Mix.lex_quiet0 rfl rfl rfl ?_; intro K hK; go_big_quiet_op; go_big_quiet_on) | (refine Mix.lex_quietG rfl rfl rfl (by with_reducible rfl) rfl rfl ?_; intro K hK; go_big_quiet_op; go_big_quiet_on) | ((first | refine Mix.lex_skipT rfl rfl rfl (by with_reducible rfl) ?_ | refine Mix.lex_skipF rfl rfl rfl (by with_reducible rfl) ?_ | refine Mix.lex_skipU rfl rfl rfl (by with_reducible rfl) ?_); simp only [Act.put, List.setIfInBounds_toArray, List.set_cons_succ, List.set_cons_zero]) | (refine Mix.lex_part rfl rfl rfl rfl (fun hq => ?_) (fun hq => ?_) <;> (fail_if_success (guard_hyp hq :ₛ true = true)) <;> (fail_if_success (guard_hyp hq :ₛ false = false)) <;> first | (exfalso; cases hq; done) | (exfalso; simp only [decide_eq_true_eq, decide_eq_false_iff_not, beq_iff_eq, beq_eq_false_iff_ne, ne_eq, Int.not_lt, Int.not_le] at hq; omega) | simp only [Act.put, List.setIfInBounds_toArray, List.set_cons_succ, List.set_cons_zero]))); all_goals (refine Mix.lex_nil ?_)))
          go_ret
          exact ⟨v, _, by rw [HF3.out]; rfl, by rw [HF3.out]; exact P9.out⟩
    · have HF2 : Hid (cmdF m s = (m, e)) := by
        unfold Hid
        rw [HF.out]
        exact if_pos he
      rw [errV_pos he]
      go_wp2_with fail
      go_ret
      exact ⟨v, ini ++ [(a, r)], by rw [HF2.out, errV_pos he]; rfl, by rw [HF2.out]; exact P1.out⟩
end Go.Proofs.YtnhaekifcieeoaaGreatDoor
