/- Put together: Gx6, Gx7. -/
import Derived.Test.YtnhaekifcieeoaaGreatDoorMa31
/- graph.grower: its block, and the rows that grow. -/
namespace Go.Proofs.YtnhaekifcieeoaaGreatDoor
open Go Go.RowKit
abbrev grwT : TypeId := 83
structure GrwA where
  wA : Option Addr
  wc : Nat
  dA : Option Addr
  dc : Nat
  oA : Option Addr
  oc : Nat
/-- What the growing writes. -/
def Gfp (g : Nat) (a : GrwA) (wn dn on : Nat) : Nat → Prop := fun b => b = g ∨ (Value.slice a.wA wn a.wc).ownBlock = some b ∨ (Value.slice a.dA dn a.dc).ownBlock = some b ∨ (Value.slice a.oA on a.oc).ownBlock = some b
/-- A row of texts that such writes leave. -/
def RbS (F : Nat → Prop) (u : World) (A : Option Addr) (xs : List Str) : Prop := ∀ v, Only F u v → SlR strF v A xs.length xs
section
variable {F F' : Nat → Prop} {u u' : World} {A : Option Addr} {xs : List Str} {c : Nat}
theorem RbS.step (h : RbS F u A xs) (hx : Only F u u') (hf : ∀ b, F' b → F b ∨ u.heap.size ≤ b) : RbS F' u' A xs := fun v hv => h v (hx.trans hv fun b hb e => by
  rcases hf b e with h1 | h1
  · exact h1
  · omega)
theorem RbS.ext (h : RbS F u A xs) (hx : Ext u u') : RbS F u' A xs := h.step (Only.any hx) fun _ e => .inl e
theorem RbS.here (h : RbS F u A xs) : SlR strF u A xs.length xs := h u (Only.refl _ _)
theorem RbS.fresh (h : Fresh strF 9 u u' A c xs) (hF : ∀ b, F b → b < u.heap.size) : RbS F u' A xs := fun v hv => SlR.of_own (T := strF) (by decide) (own_keep h.own hv fun g hg e => by
  have := h.new g hg
  have := hF g e
  omega)
end
structure Gw (w u : World) (g : Nat) (v : MkV) (m : Mk) (lA : Option Addr) (lc ll : Nat) (a : GrwA) (way done : List Str) (gs : List (RulA × Grp)) : Prop where
  cs : Cs u g grwT #[.slice v.vA m.vars.length v.vc, .slice v.rA m.rules.length v.rc, .slice v.pA m.phony.length v.pc, .slice lA ll lc, .slice a.wA way.length a.wc, .slice a.dA done.length a.dc, .slice a.oA gs.length a.oc]
  fw : Fresh strF 9 w u a.wA a.wc way
  fd : Fresh strF 9 w u a.dA a.dc done
  fo : Fresh grpF grpT w u a.oA a.oc gs
  hg : w.heap.size ≤ g
  wd : ∀ b, (Value.slice a.wA way.length a.wc).ownBlock = some b → (Value.slice a.dA done.length a.dc).ownBlock ≠ some b
  rw : ∀ x ∈ gs, RbS (Gfp g a way.length done.length gs.length) u x.1.tA x.2.targets ∧ RbS (Gfp g a way.length done.length gs.length) u x.1.nA x.2.needs ∧ RbS (Gfp g a way.length done.length gs.length) u x.1.cA x.2.cmds
section
variable {w u u' : World} {g : Nat} {v : MkV} {m : Mk} {lA : Option Addr} {lc ll : Nat} {a : GrwA} {way done : List Str} {gs : List (RulA × Grp)}
theorem Gw.x (h : Gw w u g v m lA lc ll a way done gs) : Ext w u := h.fw.ext
theorem Gw.ext (h : Gw w u g v m lA lc ll a way done gs) (hx : Ext u u') : Gw w u' g v m lA lc ll a way done gs :=
  ⟨h.cs.keep hx id, h.fw.on hx, h.fd.on hx, h.fo.on hx, h.hg, h.wd, fun x hm => ⟨(h.rw x hm).1.ext hx, (h.rw x hm).2.1.ext hx, (h.rw x hm).2.2.ext hx⟩⟩
theorem Gw.growW (h : Gw w u g v m lA lc ll a way done gs) {A' : Option Addr} {c' : Nat} {w5 : World} {ts : List Str}
    (hown : w5.ownsRow 0 9 1 (.slice A' (way.length + ts.length : Nat) c') (way.length + ts.length) (way.flatMap strF.enc ++ ts.flatMap strF.enc)) (hg : u.grownBy w5 (Value.slice a.wA way.length a.wc).ownBlock)
    (hb : (Value.slice A' (way.length + ts.length : Nat) c').ownBlock = (Value.slice a.wA way.length a.wc).ownBlock ∨ (Value.slice A' (way.length + ts.length : Nat) c').ownBlock = some u.heap.size) :
    Gw w (w5.setCell ⟨g, 4, none⟩ (.slice A' (way.length + ts.length : Nat) c')) g v m lA lc ll { a with wA := A', wc := c' } (way ++ ts) done gs := by
  have O5 : Only (fun q => (Value.slice a.wA way.length a.wc).ownBlock = some q) u w5 := (Only.refl _ _).grown hg fun q e => .inr e
  have F5 := h.fw.grow (ys := ts) rfl hown hg hb
  have D5 := h.fd.keep O5 F5.ext (fun q h1 h2 => h.wd q h2 h1)
  have G5 := h.fo.keep O5 F5.ext (fun q h1 h2 => own_ne_own h.fw.own h.fo.own (by decide) q h2 h1)
  have c5 := h.cs.keep O5 (fun e => own_ne_cs h.fw.own h.cs (by decide) _ e rfl)
  have O6 : Only (fun q => q = g) w5 (w5.setCell ⟨g, 4, none⟩ (.slice A' (way.length + ts.length : Nat) c')) := (Only.refl _ _).at_ 4 _
  have E6 : Ext w (w5.setCell ⟨g, 4, none⟩ (.slice A' (way.length + ts.length : Nat) c')) := F5.ext.trans O6 fun q hq e => by have e : q = g := e; have := h.hg; omega
  have OA : Only (Gfp g a way.length done.length gs.length) u (w5.setCell ⟨g, 4, none⟩ (.slice A' (way.length + ts.length : Nat) c')) := (O5.weak fun q _ e => .inr (.inl e)).trans O6 fun q _ e => .inl e
  have hst : ∀ q, Gfp g { a with wA := A', wc := c' } (way ++ ts).length done.length gs.length q → Gfp g a way.length done.length gs.length q ∨ u.heap.size ≤ q := by
    rintro q (e | e | e | e)
    · exact .inl (.inl e)
    · rw [List.length_append] at e
      rcases hb with hb | hb
      · exact .inl (.inr (.inl (hb.symm.trans e)))
      · have h3 : some u.heap.size = some q := hb.symm.trans e
        injection h3 with h3
        exact .inr (by omega)
    · exact .inl (.inr (.inr (.inl e)))
    · exact .inl (.inr (.inr (.inr e)))
  refine ⟨?_, F5.keep O6 E6 (own_ne_cs F5.own c5 (by decide)), D5.keep O6 E6 (own_ne_cs D5.own c5 (by decide)), G5.keep O6 E6 (own_ne_cs G5.own c5 (by decide)), h.hg, fun q h1 h2 => ?_, fun x hm => ⟨(h.rw x hm).1.step OA hst, (h.rw x hm).2.1.step OA hst, (h.rw x hm).2.2.step OA hst⟩⟩
  · have := c5.set_ 4 (.slice A' (way.length + ts.length : Nat) c')
    rw [List.length_append]
    exact this
  · rw [List.length_append] at h1
    rcases hb with hb | hb
    · exact h.wd q (hb.symm.trans h1) h2
    · have h3 : some u.heap.size = some q := hb.symm.trans h1
      injection h3 with h3
      obtain ⟨cur, hc⟩ := own_cs h.fd.own h2
      have := hc.lt
      omega
theorem Gw.growD (h : Gw w u g v m lA lc ll a way done gs) {A' : Option Addr} {c' : Nat} {w5 : World} {ts : List Str}
    (hown : w5.ownsRow 0 9 1 (.slice A' (done.length + ts.length : Nat) c') (done.length + ts.length) (done.flatMap strF.enc ++ ts.flatMap strF.enc)) (hg : u.grownBy w5 (Value.slice a.dA done.length a.dc).ownBlock)
    (hb : (Value.slice A' (done.length + ts.length : Nat) c').ownBlock = (Value.slice a.dA done.length a.dc).ownBlock ∨ (Value.slice A' (done.length + ts.length : Nat) c').ownBlock = some u.heap.size) :
    Gw w (w5.setCell ⟨g, 5, none⟩ (.slice A' (done.length + ts.length : Nat) c')) g v m lA lc ll { a with dA := A', dc := c' } way (done ++ ts) gs := by
  have O5 : Only (fun q => (Value.slice a.dA done.length a.dc).ownBlock = some q) u w5 := (Only.refl _ _).grown hg fun q e => .inr e
  have F5 := h.fd.grow (ys := ts) rfl hown hg hb
  have D5 := h.fw.keep O5 F5.ext (fun q h1 h2 => h.wd q h1 h2)
  have G5 := h.fo.keep O5 F5.ext (fun q h1 h2 => own_ne_own h.fd.own h.fo.own (by decide) q h2 h1)
  have c5 := h.cs.keep O5 (fun e => own_ne_cs h.fd.own h.cs (by decide) _ e rfl)
  have O6 : Only (fun q => q = g) w5 (w5.setCell ⟨g, 5, none⟩ (.slice A' (done.length + ts.length : Nat) c')) := (Only.refl _ _).at_ 5 _
  have E6 : Ext w (w5.setCell ⟨g, 5, none⟩ (.slice A' (done.length + ts.length : Nat) c')) := F5.ext.trans O6 fun q hq e => by have e : q = g := e; have := h.hg; omega
  have OA : Only (Gfp g a way.length done.length gs.length) u (w5.setCell ⟨g, 5, none⟩ (.slice A' (done.length + ts.length : Nat) c')) := (O5.weak fun q _ e => .inr (.inr (.inl e))).trans O6 fun q _ e => .inl e
  have hst : ∀ q, Gfp g { a with dA := A', dc := c' } way.length (done ++ ts).length gs.length q → Gfp g a way.length done.length gs.length q ∨ u.heap.size ≤ q := by
    rintro q (e | e | e | e)
    · exact .inl (.inl e)
    · exact .inl (.inr (.inl e))
    · rw [List.length_append] at e
      rcases hb with hb | hb
      · exact .inl (.inr (.inr (.inl (hb.symm.trans e))))
      · have h3 : some u.heap.size = some q := hb.symm.trans e
        injection h3 with h3
        exact .inr (by omega)
    · exact .inl (.inr (.inr (.inr e)))
  refine ⟨?_, D5.keep O6 E6 (own_ne_cs D5.own c5 (by decide)), F5.keep O6 E6 (own_ne_cs F5.own c5 (by decide)), G5.keep O6 E6 (own_ne_cs G5.own c5 (by decide)), h.hg, fun q h1 h2 => ?_, fun x hm => ⟨(h.rw x hm).1.step OA hst, (h.rw x hm).2.1.step OA hst, (h.rw x hm).2.2.step OA hst⟩⟩
  · have := c5.set_ 5 (.slice A' (done.length + ts.length : Nat) c')
    rw [List.length_append]
    exact this
  · rw [List.length_append] at h2
    rcases hb with hb | hb
    · exact h.wd q h1 (hb.symm.trans h2)
    · have h3 : some u.heap.size = some q := hb.symm.trans h2
      injection h3 with h3
      obtain ⟨cur, hc⟩ := own_cs h.fw.own h1
      have := hc.lt
      omega
theorem Gw.growO (h : Gw w u g v m lA lc ll a way done gs) {A' : Option Addr} {c' : Nat} {w5 : World} {t : RulA × Grp}
    (hown : w5.ownsRow 0 grpT 4 (.slice A' (gs.length + 1 : Nat) c') (gs.length + 1) (gs.flatMap grpF.enc ++ [t].flatMap grpF.enc)) (hg : u.grownBy w5 (Value.slice a.oA gs.length a.oc).ownBlock)
    (hb : (Value.slice A' (gs.length + 1 : Nat) c').ownBlock = (Value.slice a.oA gs.length a.oc).ownBlock ∨ (Value.slice A' (gs.length + 1 : Nat) c').ownBlock = some u.heap.size)
    (ht : RbS (Gfp g a way.length done.length gs.length) u t.1.tA t.2.targets ∧ RbS (Gfp g a way.length done.length gs.length) u t.1.nA t.2.needs ∧ RbS (Gfp g a way.length done.length gs.length) u t.1.cA t.2.cmds) :
    Gw w (w5.setCell ⟨g, 6, none⟩ (.slice A' (gs.length + 1 : Nat) c')) g v m lA lc ll { a with oA := A', oc := c' } way done (gs ++ [t]) := by
  have O5 : Only (fun q => (Value.slice a.oA gs.length a.oc).ownBlock = some q) u w5 := (Only.refl _ _).grown hg fun q e => .inr e
  have F5 := h.fo.grow (ys := [t]) rfl hown hg hb
  have D5 := h.fw.keep O5 F5.ext (fun q h1 h2 => own_ne_own h.fw.own h.fo.own (by decide) q h1 h2)
  have G5 := h.fd.keep O5 F5.ext (fun q h1 h2 => own_ne_own h.fd.own h.fo.own (by decide) q h1 h2)
  have c5 := h.cs.keep O5 (fun e => own_ne_cs h.fo.own h.cs (by decide) _ e rfl)
  have O6 : Only (fun q => q = g) w5 (w5.setCell ⟨g, 6, none⟩ (.slice A' (gs.length + 1 : Nat) c')) := (Only.refl _ _).at_ 6 _
  have E6 : Ext w (w5.setCell ⟨g, 6, none⟩ (.slice A' (gs.length + 1 : Nat) c')) := F5.ext.trans O6 fun q hq e => by have e : q = g := e; have := h.hg; omega
  have OA : Only (Gfp g a way.length done.length gs.length) u (w5.setCell ⟨g, 6, none⟩ (.slice A' (gs.length + 1 : Nat) c')) := (O5.weak fun q _ e => .inr (.inr (.inr e))).trans O6 fun q _ e => .inl e
  have hst : ∀ q, Gfp g { a with oA := A', oc := c' } way.length done.length (gs ++ [t]).length q → Gfp g a way.length done.length gs.length q ∨ u.heap.size ≤ q := by
    rintro q (e | e | e | e)
    · exact .inl (.inl e)
    · exact .inl (.inr (.inl e))
    · exact .inl (.inr (.inr (.inl e)))
    · rw [List.length_append] at e
      rcases hb with hb | hb
      · exact .inl (.inr (.inr (.inr (hb.symm.trans e))))
      · have h3 : some u.heap.size = some q := hb.symm.trans e
        injection h3 with h3
        exact .inr (by omega)
  have hall : ∀ x ∈ gs ++ [t], RbS (Gfp g a way.length done.length gs.length) u x.1.tA x.2.targets ∧ RbS (Gfp g a way.length done.length gs.length) u x.1.nA x.2.needs ∧ RbS (Gfp g a way.length done.length gs.length) u x.1.cA x.2.cmds := fun x hm => by
    rcases List.mem_append.1 hm with hm | hm
    · exact h.rw x hm
    · simp at hm; rw [hm]; exact ht
  refine ⟨?_, D5.keep O6 E6 (own_ne_cs D5.own c5 (by decide)), G5.keep O6 E6 (own_ne_cs G5.own c5 (by decide)), F5.keep O6 E6 (own_ne_cs F5.own c5 (by decide)), h.hg, h.wd, fun x hm => ⟨(hall x hm).1.step OA hst, (hall x hm).2.1.step OA hst, (hall x hm).2.2.step OA hst⟩⟩
  have := c5.set_ 6 (.slice A' (gs.length + 1 : Nat) c')
  rw [List.length_append]
  exact this
/-- The way is cut. -/
theorem own_take {w : World} {B : Nat} {e : TypeId} {A : Option Addr} {n c k : Nat} {xs : List Value} (h : w.ownsRow B e 1 (.slice A n c) n xs) (hk : k ≤ n) : w.ownsRow B e 1 (.slice A k c) k (xs.take k) := by
  obtain ⟨hl, h⟩ := h
  refine ⟨by rw [List.length_take]; omega, ?_⟩
  rcases h with ⟨h1, h2⟩ | ⟨g, cap, cur, h1, h3, h4, h5, h6, h7, h8⟩
  · injection h1 with h1 _ h3
    subst h1
    obtain rfl : k = 0 := by omega
    have h9 : c = 0 := by omega
    subst h9
    exact .inl ⟨rfl, rfl⟩
  · injection h1 with h1 _ h2
    subst h1
    have h9 : c = cap := by omega
    subst h9
    refine .inr ⟨g, c, cur, rfl, h3, h4, by omega, h6, h7, ?_⟩
    rw [← h8, List.take_take]
    congr 1
    omega
theorem Gw.cutW {k : Nat} (h : Gw w u g v m lA lc ll a way done gs) (hk : k ≤ way.length) : Gw w (u.setCell ⟨g, 4, none⟩ (.slice a.wA k a.wc)) g v m lA lc ll a (way.take k) done gs := by
  have hl : (way.take k).length = k := by rw [List.length_take]; omega
  have O6 : Only (fun q => q = g) u (u.setCell ⟨g, 4, none⟩ (.slice a.wA k a.wc)) := (Only.refl _ _).at_ 4 _
  have E6 : Ext w (u.setCell ⟨g, 4, none⟩ (.slice a.wA k a.wc)) := h.x.trans O6 fun q hq e => by have e : q = g := e; have := h.hg; omega
  have hob : ∀ n, (Value.slice a.wA n a.wc).ownBlock = (Value.slice a.wA way.length a.wc).ownBlock := fun n => by cases a.wA <;> rfl
  have OA : Only (Gfp g a way.length done.length gs.length) u (u.setCell ⟨g, 4, none⟩ (.slice a.wA k a.wc)) := O6.weak fun q _ e => .inl e
  have hst : ∀ q, Gfp g a (way.take k).length done.length gs.length q → Gfp g a way.length done.length gs.length q ∨ u.heap.size ≤ q := by
    rintro q (e | e | e)
    · exact .inl (.inl e)
    · exact .inl (.inr (.inl ((hob _).symm.trans e)))
    · exact .inl (.inr (.inr e))
  have hF : Fresh strF 9 w u a.wA a.wc (way.take k) := by
    refine ⟨?_, h.x, fun q hq => h.fw.new q ((hob _).symm.trans hq)⟩
    have h1 := own_take h.fw.own hk
    rw [hl]
    have h2 : (way.take k).flatMap strF.enc = (way.flatMap strF.enc).take k := by
      have : ∀ l : List Str, l.flatMap strF.enc = l.map S := fun l => by induction l with
        | nil => rfl
        | cons x xs ih => rw [List.flatMap_cons, ih]; rfl
      rw [this, this, List.map_take]
    rw [h2]
    exact h1
  refine ⟨?_, hF.keep O6 E6 (own_ne_cs hF.own h.cs (by decide)), h.fd.keep O6 E6 (own_ne_cs h.fd.own h.cs (by decide)), h.fo.keep O6 E6 (own_ne_cs h.fo.own h.cs (by decide)), h.hg, fun q h1 h2 => h.wd q ((hob _).symm.trans h1) h2, fun x hm => ⟨(h.rw x hm).1.step OA hst, (h.rw x hm).2.1.step OA hst, (h.rw x hm).2.2.step OA hst⟩⟩
  have := h.cs.set_ 4 (.slice a.wA k a.wc)
  rw [hl]
  exact this
end
end Go.Proofs.YtnhaekifcieeoaaGreatDoor

/- graph.grower: what is done, and what a visit answers. -/
namespace Go.Proofs.YtnhaekifcieeoaaGreatDoor
open Go Go.RowKit
/-- What was come to: plain files, and what the groups make. -/
def DoneOk (m : Mk) (l : List File) (done : List Str) (out : List Grp) : Prop :=
  ∃ fs : List Str, fs.Nodup ∧ (∀ x ∈ fs, isF l x = true ∧ ruleF m l x = none) ∧ done.length = fs.length + (out.flatMap (·.targets)).length ∧ ∀ n, n ∈ done ↔ n ∈ fs ∨ n ∈ out.flatMap (·.targets)
section
variable {m : Mk} {l : List File} {done way : List Str} {out : List Grp} {n : Str}
theorem DoneOk.nil : DoneOk m l [] [] := ⟨[], by simp, (fun x hx => by cases hx), rfl, by simp⟩
theorem DoneOk.file (h : DoneOk m l done out) (hn : n ∉ done) (hf : isF l n = true) (hr : ruleF m l n = none) : DoneOk m l (done ++ [n]) out := by
  obtain ⟨fs, h1, h2, h3, h4⟩ := h
  refine ⟨fs ++ [n], ?_, ?_, ?_, ?_⟩
  · rw [List.nodup_append]
    refine ⟨h1, by simp, ?_⟩
    intro a ha b hb e
    simp at hb
    subst e; subst hb
    exact hn ((h4 _).2 (.inl ha))
  · intro x hx
    rcases List.mem_append.1 hx with hx | hx
    · exact h2 x hx
    · simp at hx; rw [hx]; exact ⟨hf, hr⟩
  · simp only [List.length_append, List.length_cons, List.length_nil]; omega
  · intro k
    simp only [List.mem_append, h4, List.mem_cons, List.not_mem_nil, or_false]
    constructor
    · rintro ((h | h) | h)
      · exact .inl (.inl h)
      · exact .inr h
      · exact .inl (.inr h)
    · rintro ((h | h) | h)
      · exact .inl (.inl h)
      · exact .inr h
      · exact .inl (.inr h)
theorem DoneOk.grp {g : Grp} (h : DoneOk m l done out) : DoneOk m l (done ++ g.targets) (out ++ [g]) := by
  obtain ⟨fs, h1, h2, h3, h4⟩ := h
  refine ⟨fs, h1, h2, ?_, ?_⟩
  · simp only [List.length_append, List.flatMap_append, List.flatMap_cons, List.flatMap_nil, List.append_nil]; omega
  · intro k
    simp only [List.mem_append, h4, List.flatMap_append, List.flatMap_cons, List.flatMap_nil, List.append_nil]
    constructor
    · rintro ((h | h) | h)
      · exact .inl h
      · exact .inr (.inl h)
      · exact .inr (.inr h)
    · rintro (h | h | h)
      · exact .inl (.inl h)
      · exact .inl (.inr h)
      · exact .inr h
theorem maker_some {n : Str} : (makerF out n).isSome = true ↔ n ∈ out.flatMap (·.targets) := by
  unfold makerF
  rw [List.findIdx?_isSome, List.any_eq_true, List.mem_flatMap]
  constructor
  · rintro ⟨g, h1, h2⟩; exact ⟨g, h1, by simpa [inS] using h2⟩
  · rintro ⟨g, h1, h2⟩; exact ⟨g, h1, by simpa [inS] using h2⟩
theorem visit_done (h : DoneOk m l done out) (hw : inS way n = false) (hd : inS done n = true) (f : Nat) : visitF m l (f + 1) way out n = (out, 0) := by
  obtain ⟨fs, h1, h2, h3, h4⟩ := h
  have hd : n ∈ done := by simpa [inS] using hd
  rw [visitF, if_neg (by rw [hw]; decide)]
  by_cases hm : (makerF out n).isSome = true
  · rw [if_pos hm]
  · rw [if_neg hm]
    rcases (h4 n).1 hd with hx | hx
    · obtain ⟨q1, q2⟩ := h2 n hx
      rw [q2]
      show (if isF l n = true then (out, (0 : Int)) else (out, 5)) = _
      rw [if_pos q1]
    · exact absurd (maker_some.2 hx) hm
theorem not_done (h : DoneOk m l done out) (hd : inS done n = false) : (makerF out n).isSome = false := by
  obtain ⟨fs, h1, h2, h3, h4⟩ := h
  have hd : ¬ n ∈ done := by simpa [inS] using hd
  rw [← Bool.not_eq_true, maker_some]
  exact fun e => hd ((h4 n).2 (.inr e))
theorem nodup_sub : ∀ {a b : List Str}, a.Nodup → (∀ x ∈ a, x ∈ b) → a.length ≤ b.length
  | [], _, _, _ => Nat.zero_le _
  | x :: xs, b, hn, hs => by
    have hx := hs x (by simp)
    rw [List.nodup_cons] at hn
    have := nodup_sub (b := b.erase x) hn.2 fun y hy => (List.mem_erase_of_ne (show y ≠ x from fun e => hn.1 (by rw [← e]; exact hy))).2 (hs y (List.mem_cons_of_mem _ hy))
    rw [List.length_erase_of_mem hx] at this
    have := List.length_pos_of_mem hx
    simp only [List.length_cons]
    omega
theorem flat_le : ∀ {out : List Grp}, (∀ g ∈ out, g.targets.length ≤ 2) → (out.flatMap (·.targets)).length ≤ 2 * out.length
  | [], _ => by simp
  | g :: gs, h => by
    have h1 := h g (by simp)
    have h2 := flat_le (out := gs) fun x hx => h x (List.mem_cons_of_mem _ hx)
    simp only [List.flatMap_cons, List.length_append, List.length_cons]
    omega
theorem DoneOk.len (h : DoneOk m l done out) (ho : out.length ≤ 10) (ht : ∀ g ∈ out, g.targets.length ≤ 2) : done.length ≤ l.length + 20 := by
  obtain ⟨fs, h1, h2, h3, h4⟩ := h
  have a1 := flat_le ht
  have a2 : fs.length ≤ (l.map (·.1)).length := by
    refine nodup_sub h1 fun x hx => ?_
    obtain ⟨y, hy⟩ := Option.isSome_iff_exists.1 (h2 x hx).1
    unfold getL at hy
    have e := List.find?_some hy
    simp only [decide_eq_true_eq] at e
    exact e ▸ List.mem_map_of_mem (List.mem_of_find?_eq_some hy)
  rw [List.length_map] at a2
  omega
end
end Go.Proofs.YtnhaekifcieeoaaGreatDoor
