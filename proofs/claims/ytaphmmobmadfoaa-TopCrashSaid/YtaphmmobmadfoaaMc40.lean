/- Put together: StY. -/
import Derived.Test.YtaphmmobmadfoaaMc39
/- TopCrash's walk. -/
namespace Go.Proofs.Ytaphmmobmadfoaa
open Go Go.RowKit
/-- A store that may carry a fuse. -/
structure FV (w0 u : World) (dg sg E1 F1 : Nat) (rows : List Ch) (Z : StS) (r : DkR) (d : Dk) : Prop where
  lv : Live w0 u Z r d
  dg : r.g = dg
  sg : Z.g = sg
  dl : d.fuse = -1 ∨ DullL Z.l d.now
  rw : Z.rows = rows
  mn : Z.l.many = 20
  ep : Z.h.epoch ≤ E1
  fs : Z.l.first ≤ F1
  dn : d.now.length = 64
/-- A disk that fell, or rests: what a restart may find, and the two lists. -/
structure CrS (w0 u : World) (dg E F : Nat) (wA lA : Option Addr) (want last : List Ch) (r : DkR) (d : Dk) : Prop where
  dk : DiskAt u r d
  dg : r.g = dg
  fp : ∀ b, r.fp b → w0.heap.size ≤ b
  wt : d.wait.length ≤ 1000
  len : d.kept.length = 64
  al : ∀ K, ∃ h2 l2 r2, (r2 = want ∨ r2 = last) ∧ DiskOk (keepFrom K d.kept d.wait 0) h2 l2 r2 ∧ h2.epoch ≤ E ∧ l2.first ≤ F
  sw : ∀ v, Only r.fp u v → SlR chF v wA want.length want
  sl : ∀ v, Only r.fp u v → SlR chF v lA last.length last
  x : Ext w0 u
  ml : Ml u
def RbF (F : Nat → Prop) (u : World) (A : Option Addr) (xs : List Ch) : Prop := ∀ v, Only F u v → SlR chF v A xs.length xs
section
variable {w0 u u' : World} {F F' : Nat → Prop} {A : Option Addr} {c : Nat} {xs : List Ch}
theorem RbF.step (h : RbF F u A xs) (hx : Only F u u') (hf : ∀ b, F' b → F b ∨ u.heap.size ≤ b) : RbF F' u' A xs := fun v hv => h v (hx.trans hv fun b hb e => by
  rcases hf b e with k | k
  · exact k
  · omega)
theorem RbF.ext (h : RbF F u A xs) (hx : Ext u u') : RbF F u' A xs := h.step (Only.any hx) fun _ e => .inl e
theorem RbF.here (h : RbF F u A xs) : SlR chF u A xs.length xs := h u (Only.refl _ _)
theorem RbF.fresh (h : Fresh chF 61 u u' A c xs) (hF : ∀ b, F b → b < u.heap.size) : RbF F u' A xs := fun v hv => SlR.of_own (T := chF) (by decide) (own_keep h.own hv fun g hg e => by
  have := h.new g hg
  have := hF g e
  omega)
theorem RbF.less (h : RbF F u A xs) (hf : ∀ b, F' b → F b) : RbF F' u A xs := fun v hv => h v (hv.weak fun b _ e => hf b e)
end
section
variable {w0 u v : World} {dg sg E1 F1 : Nat} {rows : List Ch} {Z : StS} {r : DkR} {d : Dk}
theorem FV.ext (h : FV w0 u dg sg E1 F1 rows Z r d) (hx : Ext u v) : FV w0 v dg sg E1 F1 rows Z r d := ⟨h.lv.ext hx, h.dg, h.sg, h.dl, h.rw, h.mn, h.ep, h.fs, h.dn⟩
theorem FV.weak {E2 F2 : Nat} (h : FV w0 u dg sg E1 F1 rows Z r d) (hE : E1 ≤ E2) (hF : F1 ≤ F2) : FV w0 u dg sg E2 F2 rows Z r d := ⟨h.lv, h.dg, h.sg, h.dl, h.rw, h.mn, Nat.le_trans h.ep hE, Nat.le_trans h.fs hF, h.dn⟩
/-- What comes of a step: the store stands, or the disk fell. -/
def FvR (w0 u w' : World) (dg sg E F : Nat) (old new : List Ch) (Z : StS) (r : DkR) (f : Int) (ok : List Ch) : Prop :=
  ∃ Z' r' d', Only (Z.fp r) u w' ∧ (∀ b, Z'.fp r' b → Z.fp r b ∨ u.heap.size ≤ b) ∧ ((f ≠ 11 ∧ FV w0 w' dg sg E F ok Z' r' d') ∨
    (f = 11 ∧ DiskAt w' r' d' ∧ r'.g = dg ∧ (∀ b, Z'.fp r' b → w0.heap.size ≤ b) ∧ d'.wait.length ≤ 1000 ∧ d'.kept.length = 64 ∧ ∀ K, ∃ h2 l2 r2, (r2 = old ∨ r2 = new) ∧ DiskOk (keepFrom K d'.kept d'.wait 0) h2 l2 r2 ∧ h2.epoch ≤ E ∧ l2.first ≤ F))
theorem FV.commit (h : FV w0 u dg sg E1 F1 rows Z r d) (hm0 : Ml w0) (hm : Ml u) (h0 : w0.heap.size ≤ u.heap.size) (hE : E1 + 1 ≤ 1000000000 ∧ F1 + 20 ≤ 1000000000)
    {A : Option Addr} {n cap : Nat} {c : List Ch} (hc : ∀ v, Only (Z.fp r) u v → SlR chF v A n c) (hn : n ≤ 1000000) (hcb : ∀ x ∈ c, x.1.length ≤ 1000 ∧ x.2.1.length ≤ 1000) :
    Calls Try.prog 12 #[pt sg, .slice A n cap] u fun e w' => ∃ f, e = .returned (errV f) ∧ 0 ≤ f ∧ FvR w0 u w' dg sg (E1 + 1) (F1 + 20) rows (applyL rows c) Z r f (if f = 0 then applyL rows c else rows) := by
  have k1 := h.ep
  have k2 := h.fs
  have k3 := h.mn
  have := Commit_live hm0 hm h0 h.lv h.dl (by omega) hc hn hcb (cap := cap)
  rw [h.sg] at this
  refine this.mono ?_
  rintro e w' ⟨f, d', Z', r', he, hon, hlen, hcc⟩
  rw [h.rw] at hcc
  have hg : Z'.g = sg := hon.sg.trans h.sg
  have hr : r'.g = dg := hon.g.trans h.dg
  have hd : d'.now.length = 64 := hlen.trans h.dn
  have hkl : d'.kept.length = 64 := hon.dk.fine.len.trans hd
  rcases hcc with ⟨hf, hf2, hp, hL, e1, e2, e3, e4, e5⟩ | ⟨rfl, hL, hfu, e1, e2, e3, e6, e4, e5⟩ | ⟨rfl, hf, hfp, hwt, hK⟩
  · obtain ⟨z1, z2, z3, z4⟩ := z_eq e2
    refine ⟨f, he, hp, Z', r', d', hon.o, hon.f, .inl ⟨hf2, hL, hr, hg, ?_, by rw [if_neg hf, e3], by rw [z2, k3], by rw [e1]; omega, by rw [z3]; omega, hd⟩⟩
    rcases h.dl with k | k
    · exact .inl (by rw [e4]; exact k)
    · right
      rw [e4]
      intro a s b1 b2 b3 x
      rw [z3]
      exact k a s (by rw [← z4]; exact b1) (by rw [← z2]; exact b2) (by rw [← z1]; exact b3) x
  · refine ⟨0, he, Int.le_refl _, Z', r', d', hon.o, hon.f, .inl ⟨by decide, hL, hr, hg, ?_, by rw [if_pos rfl, e1], by rw [e3, k3], by omega, by omega, hd⟩⟩
    rcases h.dl with k | k
    · exact .inl (hfu k)
    · exact .inr (e6 k)
  · refine ⟨11, he, by decide, Z', r', d', hon.o, hon.f, .inr ⟨rfl, hon.dk, hr, hfp, hwt, hkl, fun K => ?_⟩⟩
    obtain ⟨h2, l2, r2, a1, a2, a3, a4⟩ := hK K
    exact ⟨h2, l2, r2, a1, a2, by omega, by omega⟩
theorem FV.save (h : FV w0 u dg sg E1 F1 rows Z r d) (hm0 : Ml w0) (hm : Ml u) (h0 : w0.heap.size ≤ u.heap.size) (hE : E1 + 1 ≤ 1000000000 ∧ F1 + 20 ≤ 1000000000) :
    Calls Try.prog 14 #[pt sg] u fun e w' => ∃ f, e = .returned (errV f) ∧ (f = 0 ∨ f = 11) ∧ FvR w0 u w' dg sg (E1 + 1) (F1 + 20) rows rows Z r f rows := by
  have k1 := h.ep
  have k2 := h.fs
  have k3 := h.mn
  have := Ckpt_live hm0 hm h0 h.lv (by omega)
  rw [h.sg] at this
  refine this.mono ?_
  rintro e w' ⟨f, d', Z', r', he, hon, hlen, hcc⟩
  rw [h.rw] at hcc
  have hg : Z'.g = sg := hon.sg.trans h.sg
  have hr : r'.g = dg := hon.g.trans h.dg
  have hd : d'.now.length = 64 := hlen.trans h.dn
  have hkl : d'.kept.length = 64 := hon.dk.fine.len.trans hd
  rcases hcc with ⟨rfl, hL, hfu, e1, e2, e3, e6, e4, e5⟩ | ⟨rfl, hf, hfp, hwt, hK⟩
  · exact ⟨0, he, .inl rfl, Z', r', d', hon.o, hon.f, .inl ⟨by decide, hL, hr, hg, .inr e6, e1, e3.trans k3, by omega, by omega, hd⟩⟩
  · refine ⟨11, he, .inr rfl, Z', r', d', hon.o, hon.f, .inr ⟨rfl, hon.dk, hr, hfp, hwt, hkl, fun K => ?_⟩⟩
    obtain ⟨h2, l2, a2, a3, a4⟩ := hK K
    exact ⟨h2, l2, rows, .inl rfl, a2, by omega, by omega⟩
/-- A store at rest, as a disk that a restart meets. -/
theorem FV.rests (h : FV w0 u dg sg E1 F1 rows Z r d) {A : Option Addr} (hw : RbF (Z.fp r) u A rows) (hx : Ext w0 u) (hm : Ml u) : CrS w0 u dg E1 F1 A A rows rows r d :=
  ⟨h.lv.dk, h.dg, fun b hb => h.lv.fp b (.inl hb), by rw [h.lv.wt]; exact Nat.zero_le _, h.lv.dk.fine.len.trans h.dn, fun K => ⟨Z.h, Z.l, rows, .inl rfl, by rw [h.lv.wt, h.lv.kn, ← h.rw]; exact h.lv.on, h.ep, h.fs⟩, hw.less fun b e => .inl e, hw.less fun b e => .inl e, hx, hm⟩
end
theorem CrS.ext {w0 u v : World} {dg E F : Nat} {wA lA : Option Addr} {want last : List Ch} {r : DkR} {d : Dk} (h : CrS w0 u dg E F wA lA want last r d) (hx : Ext u v) : CrS w0 v dg E F wA lA want last r d :=
  ⟨h.dk.ext hx, h.dg, h.fp, h.wt, h.len, h.al, RbF.ext (F := r.fp) h.sw hx, RbF.ext (F := r.fp) h.sl hx, h.x.then_ext hx, h.ml.ext hx⟩
theorem CrS.weak {w0 u : World} {dg E F E2 F2 : Nat} {wA lA : Option Addr} {want last : List Ch} {r : DkR} {d : Dk} (h : CrS w0 u dg E F wA lA want last r d) (hE : E ≤ E2) (hF : F ≤ F2) : CrS w0 u dg E2 F2 wA lA want last r d :=
  ⟨h.dk, h.dg, h.fp, h.wt, h.len, fun K => by
    obtain ⟨h2, l2, r2, a1, a2, a3, a4⟩ := h.al K
    exact ⟨h2, l2, r2, a1, a2, by omega, by omega⟩, h.sw, h.sl, h.x, h.ml⟩
theorem rcF_nil {rows : List Ch} {u m : Nat} (h : manyB rows = false) (hm : 1 ≤ m) : (rcF rows u m []).2 = 0 ∧ (rcF rows u m []).1.1 = rows := by
  have a1 : ¬ (manyB (applyL rows []) = true ∨ m < ([] : List Ch).length + 1) := fun e => by
    rcases e with e | e
    · rw [show applyL rows [] = rows from rfl, h] at e; cases e
    · simp at e; omega
  unfold rcF
  rw [if_neg (by simp), if_neg (by decide), if_neg a1]
  exact ⟨rfl, rfl⟩
end Go.Proofs.Ytaphmmobmadfoaa
