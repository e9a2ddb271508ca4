/- Put together: MkM. -/
import Derived.Test.YtnhaekifcieeoaaGreatDoorMa11
import Derived.Test.YtnhaekifcieeoaaGreatDoorMa08
/- A makefile that grows: its memory. -/
namespace Go.Proofs.YtnhaekifcieeoaaGreatDoor
open Go Go.RowKit
abbrev ptr (g : Nat) : Value := .pointer (some ⟨g, 0, none⟩)
abbrev makeT : TypeId := 29
abbrev ruleT : TypeId := 108
abbrev varT : TypeId := 110
theorem own_cs {w : World} {B : Nat} {e : TypeId} {size n : Nat} {x : Value} {xs : List Value} (h : w.ownsRow B e size x n xs) {g : Nat} (hg : x.ownBlock = some g) : ∃ cur, Cs w g e cur := by
  rcases h.2 with ⟨rfl, _⟩ | ⟨g', cap, cur, rfl, hb, hh, _⟩
  · simp [Value.ownBlock] at hg
  · simp [Value.ownBlock] at hg
    subst hg
    exact ⟨cur, hh⟩
theorem own_ne_cs {w : World} {B : Nat} {e t : TypeId} {size n g : Nat} {x : Value} {xs : List Value} {cs : Array Value} (h : w.ownsRow B e size x n xs) (hc : Cs w g t cs) (hne : e ≠ t) : ∀ b, x.ownBlock = some b → ¬ b = g := by
  rintro b hb rfl
  obtain ⟨cur, h1⟩ := own_cs h hb
  exact Cs.ne_ h1 hc hne rfl
theorem own_ne_own {w : World} {B B' : Nat} {e t : TypeId} {size size' n n' : Nat} {x y : Value} {xs ys : List Value} (h : w.ownsRow B e size x n xs) (h' : w.ownsRow B' t size' y n' ys) (hne : e ≠ t) : ∀ b, x.ownBlock = some b → y.ownBlock ≠ some b := by
  intro b hb hb'
  obtain ⟨cur, h1⟩ := own_cs h hb
  obtain ⟨cur', h2⟩ := own_cs h' hb'
  exact Cs.ne_ h1 h2 hne rfl
theorem Fresh.keep {α : Type} {T : Flat α} {t : TypeId} {w wr u : World} {A : Option Addr} {c : Nat} {xs : List α} {F : Nat → Prop} (h : Fresh T t w wr A c xs) (hx : Only F wr u) (hE : Ext w u) (hn : ∀ g, (Value.slice A xs.length c).ownBlock = some g → ¬ F g) : Fresh T t w u A c xs := ⟨own_keep h.own hx hn, hE, h.new⟩
structure RulA where
  tA : Option Addr
  tc : Nat
  nA : Option Addr
  nc : Nat
  cA : Option Addr
  cc : Nat
def rulF : Flat (RulA × Rul) := ⟨3, fun x => [.slice x.1.tA x.2.targets.length x.1.tc, .slice x.1.nA x.2.needs.length x.1.nc, .slice x.1.cA x.2.cmds.length x.1.cc], fun _ => rfl⟩
structure SRow where
  A : Option Addr
  c : Nat
  xs : List Str
abbrev SRow.own (x : SRow) : Option Nat := (Value.slice x.A x.xs.length x.c).ownBlock
abbrev SRow.F (w wr : World) (x : SRow) : Prop := Fresh strF 9 w wr x.A x.c x.xs
def SRow.off (x y : SRow) : Prop := ∀ g, x.own = some g → y.own ≠ some g
theorem SRow.off_symm {x y : SRow} (h : x.off y) : y.off x := fun g h1 h2 => h g h2 h1
structure SRows (w wr : World) (L : List SRow) : Prop where
  f : ∀ x ∈ L, x.F w wr
  p : L.Pairwise SRow.off
section
variable {w wr u : World} {L L1 L2 : List SRow} {x : SRow}
theorem SRows.ext (h : SRows w wr L) (hx : Ext wr u) : SRows w u L := ⟨fun x hm => (h.f x hm).on hx, h.p⟩
theorem SRows.lt (h : SRows w wr L) (hm : x ∈ L) : ∀ g, x.own = some g → g < wr.heap.size := fun g hg => by
  obtain ⟨_, hc⟩ := own_cs (h.f x hm).own hg
  exact hc.lt
/-- A block that is of another type has been written. -/
theorem SRows.keep (h : SRows w wr L) {F : Nat → Prop} (hx : Only F wr u) (hE : Ext w u) (hn : ∀ x ∈ L, ∀ g, x.own = some g → ¬ F g) : SRows w u L := ⟨fun x hm => (h.f x hm).keep hx hE (hn x hm), h.p⟩
/-- A row of new memory comes. -/
theorem SRows.add (h : SRows w wr L) (hw : Ext w wr) (hx : x.F wr u) : SRows w u (L ++ [x]) := by
  refine ⟨fun y hy => ?_, ?_⟩
  · rcases List.mem_append.1 hy with hy | hy
    · exact (h.f y hy).on hx.ext
    · obtain rfl := List.mem_singleton.1 hy
      exact Fresh.from hx hw
  · rw [List.pairwise_append]
    refine ⟨h.p, List.pairwise_singleton _ _, fun a ha b hb => ?_⟩
    obtain rfl := List.mem_singleton.1 hb
    intro g h1 h2
    have := h.lt ha g h1
    have := hx.new g h2
    omega
/-- One of the rows has grown. -/
theorem SRows.grow (h : SRows w u (L1 ++ x :: L2)) {A' : Option Addr} {c' : Nat} {w5 : World} {t : Str}
    (hown : w5.ownsRow 0 9 1 (.slice A' (x.xs.length + 1 : Nat) c') (x.xs.length + 1) (x.xs.flatMap strF.enc ++ [t].flatMap strF.enc)) (hg : u.grownBy w5 (Value.slice x.A x.xs.length x.c).ownBlock)
    (hb : (Value.slice A' (x.xs.length + 1 : Nat) c').ownBlock = (Value.slice x.A x.xs.length x.c).ownBlock ∨ (Value.slice A' (x.xs.length + 1 : Nat) c').ownBlock = some u.heap.size) :
    SRows w w5 (L1 ++ ⟨A', c', x.xs ++ [t]⟩ :: L2) := by
  have O5 : Only (fun b => (Value.slice x.A x.xs.length x.c).ownBlock = some b) u w5 := (Only.refl _ _).grown hg fun g e => .inr e
  have F5 := (h.f x (by simp)).grow (ys := [t]) rfl hown hg hb
  have hp := h.p
  rw [List.pairwise_append, List.pairwise_cons] at hp
  obtain ⟨p1, ⟨p2, p3⟩, p4⟩ := hp
  have q1 : ∀ y ∈ L1, y.off x := fun y hy => p4 y hy x (by simp)
  have new : ∀ y ∈ L1 ++ L2, y.off x → y.off ⟨A', c', x.xs ++ [t]⟩ := fun y hy ho g h1 h2 => by
    have hlt := h.lt (x := y) (by rcases List.mem_append.1 hy with hy | hy <;> simp [hy]) g h1
    have h2' : (Value.slice A' (x.xs.length + 1 : Nat) c').ownBlock = some g := by rw [← h2]; unfold SRow.own; rw [List.length_append]; rfl
    rcases hb with hb | hb
    · exact ho g h1 (hb.symm.trans h2')
    · rw [hb] at h2'
      injection h2' with h2'
      omega
  refine ⟨fun y hy => ?_, ?_⟩
  · rcases List.mem_append.1 hy with hy | hy
    · exact (h.f y (by simp [hy])).keep O5 F5.ext (fun g h1 h2 => q1 y hy g h1 h2)
    · rcases List.mem_cons.1 hy with rfl | hy
      · exact F5
      · exact (h.f y (by simp [hy])).keep O5 F5.ext (fun g h1 h2 => p2 y hy g h2 h1)
  · rw [List.pairwise_append, List.pairwise_cons]
    refine ⟨p1, ⟨fun y hy => SRow.off_symm (new y (by simp [hy]) (SRow.off_symm (p2 y hy))), p3⟩, fun a ha b hb' => ?_⟩
    rcases List.mem_cons.1 hb' with rfl | hb'
    · exact new a (by simp [ha]) (q1 a ha)
    · exact p4 a ha b (by simp [hb'])
end
abbrev rowsOf (x : RulA × Rul) : List SRow := [⟨x.1.tA, x.1.tc, x.2.targets⟩, ⟨x.1.nA, x.1.nc, x.2.needs⟩, ⟨x.1.cA, x.1.cc, x.2.cmds⟩]
structure MkV where
  vA : Option Addr
  vc : Nat
  rA : Option Addr
  rc : Nat
  pA : Option Addr
  pc : Nat
abbrev mkV0 : MkV := ⟨none, 0, none, 0, none, 0⟩
abbrev mkV (v : MkV) (m : Mk) : Value := .agg #[.slice v.vA m.vars.length v.vc, .slice v.rA m.rules.length v.rc, .slice v.pA m.phony.length v.pc]
structure MAt (Q : List SRow) (w wr : World) (g : Nat) (v : MkV) (rs : List (RulA × Rul)) (m : Mk) : Prop where
  rc : Cs wr g makeT #[.slice v.vA m.vars.length v.vc, .slice v.rA rs.length v.rc, .slice v.pA m.phony.length v.pc]
  fv : Fresh fileF varT w wr v.vA v.vc m.vars
  fr : Fresh rulF ruleT w wr v.rA v.rc rs
  ss : SRows w wr (Q ++ ⟨v.pA, v.pc, m.phony⟩ :: rs.flatMap rowsOf)
  rm : rs.map (·.2) = m.rules
  ng : w.heap.size ≤ g
structure MakeR (w : World) (v : MkV) (rs : List (RulA × Rul)) (m : Mk) : Prop where
  fv : SlR fileF w v.vA m.vars.length m.vars
  fr : SlR rulF w v.rA m.rules.length rs
  fp : SlR strF w v.pA m.phony.length m.phony
  rr : ∀ x ∈ rs, SlR strF w x.1.tA x.2.targets.length x.2.targets ∧ SlR strF w x.1.nA x.2.needs.length x.2.needs ∧ SlR strF w x.1.cA x.2.cmds.length x.2.cmds
  rm : rs.map (·.2) = m.rules
theorem makeR0 (w : World) : MakeR w mkV0 [] mk0 := ⟨SlR.none_, SlR.none_, SlR.none_, (fun x hx => by cases hx), rfl⟩
theorem MakeR.ext {w u : World} {v : MkV} {rs : List (RulA × Rul)} {m : Mk} (h : MakeR w v rs m) (hx : Ext w u) : MakeR u v rs m :=
  ⟨h.fv.ext hx, h.fr.ext hx, h.fp.ext hx, fun x hm => ⟨(h.rr x hm).1.ext hx, (h.rr x hm).2.1.ext hx, (h.rr x hm).2.2.ext hx⟩, h.rm⟩
theorem rules_get {w : World} {A : Option Addr} {n : Nat} {rs : List (RulA × Rul)} (h : SlR rulF w A n rs) {k : Nat} (hk : k < n) :
    ∃ b o x, A = some ⟨b, o, none⟩ ∧ rs[k]? = some x ∧ b < w.heap.size ∧ (∀ u, Ext w u → u.cell? ⟨b, o + k * 3, none⟩ = some (.slice x.1.tA x.2.targets.length x.1.tc)) ∧ (∀ u, Ext w u → u.cell? ⟨b, o + k * 3 + 1, none⟩ = some (.slice x.1.nA x.2.needs.length x.1.nc)) ∧ (∀ u, Ext w u → u.cell? ⟨b, o + k * 3 + 2, none⟩ = some (.slice x.1.cA x.2.cmds.length x.1.cc)) := by
  obtain ⟨b, o, x, e, hb, hx, hc⟩ := h.get hk
  exact ⟨b, o, x, e, hx, hb, fun u hu => (hu.cell hb id).trans (hc 0 _ rfl), fun u hu => (hu.cell hb id).trans (hc 1 _ rfl), fun u hu => (hu.cell hb id).trans (hc 2 _ rfl)⟩
section
variable {Q : List SRow} {w wr u : World} {g : Nat} {v : MkV} {rs : List (RulA × Rul)} {m : Mk}
theorem MAt.x (h : MAt Q w wr g v rs m) : Ext w wr := h.fv.ext
theorem MAt.rl (h : MAt Q w wr g v rs m) : rs.length = m.rules.length := by rw [← h.rm, List.length_map]
theorem MAt.ext (h : MAt Q w wr g v rs m) (hx : Ext wr u) : MAt Q w u g v rs m := ⟨h.rc.keep hx id, h.fv.on hx, h.fr.on hx, h.ss.ext hx, h.rm, h.ng⟩
theorem MAt.made (h : MAt Q w wr g v rs m) : MakeR wr v rs m := by
  refine ⟨h.fv.row (by decide), ?_, (h.ss.f ⟨v.pA, v.pc, m.phony⟩ (by simp)).row (by decide), fun x hx => ?_, h.rm⟩
  · have := h.fr.row (by decide)
    rw [h.rl] at this
    exact this
  · have q : ∀ y ∈ rowsOf x, y ∈ Q ++ (⟨v.pA, v.pc, m.phony⟩ : SRow) :: rs.flatMap rowsOf := fun y hy => List.mem_append_right _ (List.mem_cons_of_mem _ (List.mem_flatMap.2 ⟨x, hx, hy⟩))
    exact ⟨(h.ss.f _ (q ⟨x.1.tA, x.1.tc, x.2.targets⟩ (by simp))).row (by decide), (h.ss.f _ (q ⟨x.1.nA, x.1.nc, x.2.needs⟩ (by simp))).row (by decide), (h.ss.f _ (q ⟨x.1.cA, x.1.cc, x.2.cmds⟩ (by simp))).row (by decide)⟩
theorem MAt.ss_cs (h : MAt Q w wr g v rs m) {t : TypeId} {b : Nat} {cs : Array Value} (hc : Cs wr b t cs) (hne : 9 ≠ t) : ∀ x ∈ Q ++ (⟨v.pA, v.pc, m.phony⟩ : SRow) :: rs.flatMap rowsOf, ∀ k, x.own = some k → ¬ k = b := fun x hx => own_ne_cs (h.ss.f x hx).own hc hne
/-- A cell of the makefile's own is written. -/
theorem MAt.at_ (h : MAt Q w wr g v rs m) (i : Nat) (x : Value) : Ext w (wr.setCell ⟨g, i, none⟩ x) :=
  h.x.trans ((Only.refl (fun b => b = g) wr).at_ i x) fun b hb e => by have e : b = g := e; have := h.ng; omega
theorem MAt.growV (h : MAt Q w u g v rs m) {A' : Option Addr} {c' : Nat} {w5 : World} {t : File}
    (hown : w5.ownsRow 0 varT 2 (.slice A' (m.vars.length + 1 : Nat) c') (m.vars.length + 1) (m.vars.flatMap fileF.enc ++ [t].flatMap fileF.enc)) (hg : u.grownBy w5 (Value.slice v.vA m.vars.length v.vc).ownBlock)
    (hb : (Value.slice A' (m.vars.length + 1 : Nat) c').ownBlock = (Value.slice v.vA m.vars.length v.vc).ownBlock ∨ (Value.slice A' (m.vars.length + 1 : Nat) c').ownBlock = some u.heap.size) :
    MAt Q w (w5.setCell ⟨g, 0, none⟩ (.slice A' (m.vars.length + 1 : Nat) c')) g { v with vA := A', vc := c' } rs ⟨m.vars ++ [t], m.rules, m.phony⟩ := by
  have O5 : Only (fun b => (Value.slice v.vA m.vars.length v.vc).ownBlock = some b) u w5 := (Only.refl _ _).grown hg fun g e => .inr e
  have F5 := h.fv.grow (ys := [t]) rfl hown hg hb
  have N5 := h.fr.keep O5 F5.ext (fun g h1 h2 => own_ne_own h.fr.own h.fv.own (by decide) g h1 h2)
  have P5 := h.ss.keep O5 F5.ext (fun x hx g h1 h2 => own_ne_own (h.ss.f x hx).own h.fv.own (by decide) g h1 h2)
  have c5 := h.rc.keep O5 (fun e => own_ne_cs h.fv.own h.rc (by decide) _ e rfl)
  have O6 : Only (fun b => b = g) w5 (w5.setCell ⟨g, 0, none⟩ (.slice A' (m.vars.length + 1 : Nat) c')) := (Only.refl _ _).at_ 0 _
  have E6 : Ext w (w5.setCell ⟨g, 0, none⟩ (.slice A' (m.vars.length + 1 : Nat) c')) := F5.ext.trans O6 fun b hb e => by have e : b = g := e; have := h.ng; omega
  refine ⟨?_, F5.keep O6 E6 (own_ne_cs F5.own c5 (by decide)), N5.keep O6 E6 (own_ne_cs N5.own c5 (by decide)), P5.keep O6 E6 (fun x hx => own_ne_cs (P5.f x hx).own c5 (by decide)), h.rm, h.ng⟩
  have := c5.set_ 0 (.slice A' (m.vars.length + 1 : Nat) c')
  show Cs _ _ _ #[.slice A' (m.vars ++ [t]).length c', _, _]
  rw [List.length_append]
  exact this
theorem MAt.growP (h : MAt Q w u g v rs m) {A' : Option Addr} {c' : Nat} {w5 : World} {t : Str}
    (hown : w5.ownsRow 0 9 1 (.slice A' (m.phony.length + 1 : Nat) c') (m.phony.length + 1) (m.phony.flatMap strF.enc ++ [t].flatMap strF.enc)) (hg : u.grownBy w5 (Value.slice v.pA m.phony.length v.pc).ownBlock)
    (hb : (Value.slice A' (m.phony.length + 1 : Nat) c').ownBlock = (Value.slice v.pA m.phony.length v.pc).ownBlock ∨ (Value.slice A' (m.phony.length + 1 : Nat) c').ownBlock = some u.heap.size) :
    MAt Q w (w5.setCell ⟨g, 2, none⟩ (.slice A' (m.phony.length + 1 : Nat) c')) g { v with pA := A', pc := c' } rs ⟨m.vars, m.rules, m.phony ++ [t]⟩ := by
  have O5 : Only (fun b => (Value.slice v.pA m.phony.length v.pc).ownBlock = some b) u w5 := (Only.refl _ _).grown hg fun g e => .inr e
  have hP := (h.ss.f ⟨v.pA, v.pc, m.phony⟩ (by simp))
  have P5 := h.ss.grow (L1 := Q) (x := ⟨v.pA, v.pc, m.phony⟩) (t := t) hown hg hb
  have E5 : Ext w w5 := (P5.f ⟨A', c', m.phony ++ [t]⟩ (by simp)).ext
  have N5 := h.fr.keep O5 E5 (fun g h1 h2 => own_ne_own h.fr.own hP.own (by decide) g h1 h2)
  have F5 := h.fv.keep O5 E5 (fun g h1 h2 => own_ne_own h.fv.own hP.own (by decide) g h1 h2)
  have c5 := h.rc.keep O5 (fun e => own_ne_cs hP.own h.rc (by decide) _ e rfl)
  have O6 : Only (fun b => b = g) w5 (w5.setCell ⟨g, 2, none⟩ (.slice A' (m.phony.length + 1 : Nat) c')) := (Only.refl _ _).at_ 2 _
  have E6 : Ext w (w5.setCell ⟨g, 2, none⟩ (.slice A' (m.phony.length + 1 : Nat) c')) := E5.trans O6 fun b hb e => by have e : b = g := e; have := h.ng; omega
  refine ⟨?_, F5.keep O6 E6 (own_ne_cs F5.own c5 (by decide)), N5.keep O6 E6 (own_ne_cs N5.own c5 (by decide)), P5.keep O6 E6 (fun x hx => own_ne_cs (P5.f x hx).own c5 (by decide)), h.rm, h.ng⟩
  have := c5.set_ 2 (.slice A' (m.phony.length + 1 : Nat) c')
  show Cs _ _ _ #[_, _, .slice A' (m.phony ++ [t]).length c']
  rw [List.length_append]
  exact this
/-- A rule comes; its rows have come already. -/
theorem MAt.growR {a : RulA} {r : Rul} (h : MAt Q w u g v rs m) (hs : SRows w u (Q ++ ⟨v.pA, v.pc, m.phony⟩ :: (rs ++ [(a, r)]).flatMap rowsOf)) {A' : Option Addr} {c' : Nat} {w5 : World}
    (hown : w5.ownsRow 0 ruleT 3 (.slice A' (rs.length + 1 : Nat) c') (rs.length + 1) (rs.flatMap rulF.enc ++ [(a, r)].flatMap rulF.enc)) (hg : u.grownBy w5 (Value.slice v.rA rs.length v.rc).ownBlock)
    (hb : (Value.slice A' (rs.length + 1 : Nat) c').ownBlock = (Value.slice v.rA rs.length v.rc).ownBlock ∨ (Value.slice A' (rs.length + 1 : Nat) c').ownBlock = some u.heap.size) :
    MAt Q w (w5.setCell ⟨g, 1, none⟩ (.slice A' (rs.length + 1 : Nat) c')) g { v with rA := A', rc := c' } (rs ++ [(a, r)]) ⟨m.vars, m.rules ++ [r], m.phony⟩ := by
  have O5 : Only (fun b => (Value.slice v.rA rs.length v.rc).ownBlock = some b) u w5 := (Only.refl _ _).grown hg fun g e => .inr e
  have F5 := h.fr.grow (ys := [(a, r)]) rfl hown hg hb
  have N5 := h.fv.keep O5 F5.ext (fun g h1 h2 => own_ne_own h.fv.own h.fr.own (by decide) g h1 h2)
  have P5 := hs.keep O5 F5.ext (fun x hx g h1 h2 => own_ne_own (hs.f x hx).own h.fr.own (by decide) g h1 h2)
  have c5 := h.rc.keep O5 (fun e => own_ne_cs h.fr.own h.rc (by decide) _ e rfl)
  have O6 : Only (fun b => b = g) w5 (w5.setCell ⟨g, 1, none⟩ (.slice A' (rs.length + 1 : Nat) c')) := (Only.refl _ _).at_ 1 _
  have E6 : Ext w (w5.setCell ⟨g, 1, none⟩ (.slice A' (rs.length + 1 : Nat) c')) := F5.ext.trans O6 fun b hb e => by have e : b = g := e; have := h.ng; omega
  refine ⟨?_, N5.keep O6 E6 (own_ne_cs N5.own c5 (by decide)), F5.keep O6 E6 (own_ne_cs F5.own c5 (by decide)), P5.keep O6 E6 (fun x hx => own_ne_cs (P5.f x hx).own c5 (by decide)), by rw [List.map_append, h.rm]; rfl, h.ng⟩
  have := c5.set_ 1 (.slice A' (rs.length + 1 : Nat) c')
  rw [List.length_append]
  exact this
theorem enc_last (rs : List (RulA × Rul)) (a : RulA) (r : Rul) (rest : List Value) : ((rs ++ [(a, r)]).flatMap rulF.enc ++ rest).toArray[rs.length * 3 + 2]? = some (.slice a.cA r.cmds.length a.cc) := by
  rw [List.getElem?_toArray, List.flatMap_append, List.append_assoc, List.getElem?_append_right (by rw [length_flatMap_enc]; show rs.length * 3 ≤ _; omega), length_flatMap_enc]
  show ([_, _, _] ++ rest)[rs.length * 3 + 2 - rs.length * 3]? = _
  rw [show rs.length * 3 + 2 - rs.length * 3 = 2 by omega]
  rfl
/-- The last rule's place. -/
theorem MAt.last {a : RulA} {r : Rul} (h : MAt Q w u g v (rs ++ [(a, r)]) m) : ∃ gR cur, v.rA = some ⟨gR, 0, none⟩ ∧ Cs u gR ruleT cur ∧ cur[rs.length * 3 + 2]? = some (.slice a.cA r.cmds.length a.cc) := by
  have hown5 := h.fr.own
  rw [show (rs ++ [(a, r)]).length = rs.length + 1 by simp] at hown5
  obtain ⟨gR, rest, hA, hC, hl, hlc, hnc, hm⟩ := own_block hown5 (by omega) (by decide)
  exact ⟨gR, _, hA, hC, enc_last rs a r rest⟩
theorem MAt.crow {a : RulA} {r : Rul} (h : MAt Q w u g v (rs ++ [(a, r)]) m) : Fresh strF 9 w u a.cA a.cc r.cmds := h.ss.f ⟨a.cA, a.cc, r.cmds⟩ (by simp [List.flatMap_append])
/-- A command comes to the last rule; its row has grown. -/
theorem MAt.growC {a : RulA} {r : Rul} (h : MAt Q w u g v (rs ++ [(a, r)]) m) {A' : Option Addr} {c' : Nat} {w5 : World} {t : Str}
    (hown : w5.ownsRow 0 9 1 (.slice A' (r.cmds.length + 1 : Nat) c') (r.cmds.length + 1) (r.cmds.flatMap strF.enc ++ [t].flatMap strF.enc)) (hg : u.grownBy w5 (Value.slice a.cA r.cmds.length a.cc).ownBlock)
    (hb : (Value.slice A' (r.cmds.length + 1 : Nat) c').ownBlock = (Value.slice a.cA r.cmds.length a.cc).ownBlock ∨ (Value.slice A' (r.cmds.length + 1 : Nat) c').ownBlock = some u.heap.size) :
    ∃ gR cur, v.rA = some ⟨gR, 0, none⟩ ∧ Cs w5 gR ruleT cur ∧ cur[rs.length * 3 + 2]? = some (.slice a.cA r.cmds.length a.cc) ∧ MAt Q w (w5.setCell ⟨gR, rs.length * 3 + 2, none⟩ (.slice A' (r.cmds.length + 1 : Nat) c')) g v (rs ++ [({ a with cA := A', cc := c' }, ⟨r.targets, r.needs, r.cmds ++ [t]⟩)]) ⟨m.vars, rs.map (·.2) ++ [⟨r.targets, r.needs, r.cmds ++ [t]⟩], m.phony⟩ := by
  have O5 : Only (fun b => (Value.slice a.cA r.cmds.length a.cc).ownBlock = some b) u w5 := (Only.refl _ _).grown hg fun g e => .inr e
  have hmem : (⟨a.cA, a.cc, r.cmds⟩ : SRow) ∈ Q ++ (⟨v.pA, v.pc, m.phony⟩ : SRow) :: (rs ++ [(a, r)]).flatMap rowsOf := by simp [List.flatMap_append]
  have hP := h.ss.f _ hmem
  have eL : ∀ (b : RulA) (q : Rul), Q ++ (⟨v.pA, v.pc, m.phony⟩ : SRow) :: (rs ++ [(b, q)]).flatMap rowsOf = (Q ++ (⟨v.pA, v.pc, m.phony⟩ : SRow) :: rs.flatMap rowsOf ++ [⟨b.tA, b.tc, q.targets⟩, ⟨b.nA, b.nc, q.needs⟩]) ++ (⟨b.cA, b.cc, q.cmds⟩ : SRow) :: [] := by
    intro b q
    simp [List.flatMap_append, List.append_assoc]
  have hss := h.ss
  rw [eL] at hss
  have P5 := hss.grow (x := ⟨a.cA, a.cc, r.cmds⟩) (t := t) hown hg hb
  have E5 : Ext w w5 := (P5.f ⟨A', c', r.cmds ++ [t]⟩ (by simp)).ext
  have N5 := h.fr.keep O5 E5 (fun g h1 h2 => own_ne_own h.fr.own hP.own (by decide) g h1 h2)
  have F5 := h.fv.keep O5 E5 (fun g h1 h2 => own_ne_own h.fv.own hP.own (by decide) g h1 h2)
  have c5 := h.rc.keep O5 (fun e => own_ne_cs hP.own h.rc (by decide) _ e rfl)
  have hown5 := N5.own
  rw [show (rs ++ [(a, r)]).length = rs.length + 1 by simp] at hown5
  obtain ⟨gR, rest, hA, hC, hl, hlc, hnc, hm⟩ := own_block hown5 (by omega) (by decide)
  have hB : (Value.slice v.rA (rs ++ [(a, r)]).length v.rc).ownBlock = some gR := by rw [hA]; simp [Value.ownBlock]
  have hRw : w.heap.size ≤ gR := N5.new gR hB
  refine ⟨gR, _, hA, hC, enc_last rs a r rest, ?_⟩
  have O6 : Only (fun b => b = gR) w5 (w5.setCell ⟨gR, rs.length * 3 + 2, none⟩ (.slice A' (r.cmds.length + 1 : Nat) c')) := (Only.refl _ _).at_ _ _
  have E6 : Ext w (w5.setCell ⟨gR, rs.length * 3 + 2, none⟩ (.slice A' (r.cmds.length + 1 : Nat) c')) := E5.trans O6 fun b hb e => by have e : b = gR := e; omega
  have hCs := hC.set_ (rs.length * 3 + 2) (.slice A' (r.cmds.length + 1 : Nat) c')
  have e9 : (((rs ++ [(a, r)]).flatMap rulF.enc ++ rest).toArray.setIfInBounds (rs.length * 3 + 2) (.slice A' (r.cmds.length + 1 : Nat) c')) = ((rs ++ [({ a with cA := A', cc := c' }, (⟨r.targets, r.needs, r.cmds ++ [t]⟩ : Rul))]).flatMap rulF.enc ++ rest).toArray := by
    apply Array.ext'
    rw [Array.toList_setIfInBounds]
    have h0 : (rs.flatMap rulF.enc).length = rs.length * 3 := length_flatMap_enc rulF rs
    rw [List.flatMap_append, List.flatMap_append, List.append_assoc, List.append_assoc]
    show (rs.flatMap rulF.enc ++ ([_, _, _] ++ rest)).set (rs.length * 3 + 2) _ = rs.flatMap rulF.enc ++ ([_, _, _] ++ rest)
    rw [List.set_append_right _ _ (by omega), h0, show rs.length * 3 + 2 - rs.length * 3 = 2 by omega]
    simp
  rw [e9] at hCs
  refine ⟨?_, F5.keep O6 E6 (own_ne_cs F5.own hC (by decide)), ⟨?_, E6, ?_⟩, ?_, ?_, h.ng⟩
  · have h8 := c5.keep O6 (fun e => Cs.ne_ c5 hC (by decide) e)
    rw [show (rs ++ [(a, r)]).length = rs.length + 1 by simp] at h8
    rw [List.length_append]
    exact h8
  · rw [hA, show (rs ++ [(({ a with cA := A', cc := c' } : RulA), (⟨r.targets, r.needs, r.cmds ++ [t]⟩ : Rul))]).length = rs.length + 1 by simp]
    refine own_of_block hCs (by omega) ?_ ?_ hnc hm
    · rw [length_flatMap_enc]; simp
    · rw [List.length_append] at hlc ⊢
      rw [← hlc, length_flatMap_enc, length_flatMap_enc]
      simp
  · intro k hk
    rw [hA] at hk
    simp [Value.ownBlock] at hk
    omega
  · have q := P5.keep O6 E6 (fun x hx => own_ne_cs (P5.f x hx).own hC (by decide))
    rw [eL]
    exact q
  · rw [List.map_append]; rfl
end
end Go.Proofs.YtnhaekifcieeoaaGreatDoor
