/- An overlay in memory, and what its methods do: the program's and the document's. -/
import Derived.Test.YtnplipljfmnjgaaDoorFiles4
import Derived.Test.YtnplipljfmnjgaaDoorStrs
namespace Go.Proofs.YtnplipljfmnjgaaDoor
open Go Go.RowKit
structure Ov where
  base : List File
  own : List File
  needs : List Str
  targets : List Str
structure OvR where
  bA : Option Addr
  bc : Nat
  oA : Option Addr
  oc : Nat
  nA : Option Addr
  nc : Nat
  tA : Option Addr
  tc : Nat
structure OvAt (t : TypeId) (w : World) (g : Nat) (r : OvR) (o : Ov) : Prop where
  cs : Cs w g t #[.slice r.bA o.base.length r.bc, .slice r.oA o.own.length r.oc, .slice r.nA o.needs.length r.nc, .slice r.tA o.targets.length r.tc]
  base : SlR fileF w r.bA o.base.length o.base
  own : SlR fileF w r.oA o.own.length o.own
  needs : SlR strF w r.nA o.needs.length o.needs
  targets : SlR strF w r.tA o.targets.length o.targets
/-- Where a block holds four slices no file and no text lies. -/
theorem SlR.far {α : Type} {T : Flat α} (hT : ∀ x : α, ∃ s l, T.enc x = S s :: l) {w : World} {A : Option Addr} {n g : Nat} {t : TypeId} {xs : List α} (h : SlR T w A n xs) {a1 a2 a3 a4 : Option Addr} {n1 n2 n3 n4 c1 c2 c3 c4 : Nat} (hc : Cs w g t #[.slice a1 n1 c1, .slice a2 n2 c2, .slice a3 n3 c3, .slice a4 n4 c4]) :
    ∀ b o, A = some ⟨b, o, none⟩ → 0 < n → b ≠ g := by
  rintro b o rfl hn rfl
  obtain ⟨b', o', x, he, _, hx, hcell⟩ := h.get hn
  injection he with he
  injection he with he1 he2
  subst he1; subst he2
  obtain ⟨s, l, hs⟩ := hT x
  have := hcell 0 (S s) (by rw [hs]; rfl)
  rw [hc.cell] at this
  match o, this with
  | 0, this => simp at this
  | 1, this => simp at this
  | 2, this => simp at this
  | 3, this => simp at this
  | o + 4, this => simp at this
theorem SlR.keep_far {α : Type} {T : Flat α} {w v : World} {A : Option Addr} {n : Nat} {xs : List α} {F : Nat → Prop} (h : SlR T w A n xs) (hx : Only F w v) (hn : ∀ b o, A = some ⟨b, o, none⟩ → 0 < n → ¬ F b) : SlR T v A n xs :=
  ⟨h.1, fun hp => by
    obtain ⟨b, o, e, hb, hc⟩ := h.2 hp
    exact ⟨b, o, e, Nat.lt_of_lt_of_le hb hx.size, fun k x hk j u hu => (hx.cell (p := ⟨b, _, none⟩) hb (hn b o e hp)).trans (hc k x hk j u hu)⟩⟩
theorem fileF_head (x : File) : ∃ s l, fileF.enc x = S s :: l := ⟨_, _, rfl⟩
theorem strF_head (x : Str) : ∃ s l, strF.enc x = S s :: l := ⟨_, _, rfl⟩
section
variable {t t' : TypeId} {w v : World} {g g' : Nat} {r : OvR} {o : Ov}
theorem OvAt.ext (h : OvAt t w g r o) (hx : Ext w v) : OvAt t v g r o := ⟨h.cs.keep hx id, h.base.ext hx, h.own.ext hx, h.needs.ext hx, h.targets.ext hx⟩
/-- Beside another one: what is written there does not reach here. -/
theorem OvAt.beside {a1 a2 a3 a4 : Option Addr} {n1 n2 n3 n4 c1 c2 c3 c4 : Nat} (h : OvAt t w g r o) (hc : Cs w g' t' #[.slice a1 n1 c1, .slice a2 n2 c2, .slice a3 n3 c3, .slice a4 n4 c4]) (hne : g ≠ g') (hx : Only (fun b => b = g') w v) : OvAt t v g r o :=
  ⟨h.cs.keep hx hne, h.base.keep_far hx fun b o e hp => h.base.far fileF_head hc b o e hp, h.own.keep_far hx fun b o e hp => h.own.far fileF_head hc b o e hp,
   h.needs.keep_far hx fun b o e hp => h.needs.far strF_head hc b o e hp, h.targets.keep_far hx fun b o e hp => h.targets.far strF_head hc b o e hp⟩
/-- Other files of its own. -/
theorem OvAt.store (h : OvAt t w g r o) {A : Option Addr} {c : Nat} {l : List File} (hl : SlR fileF w A l.length l) : OvAt t (w.setCell ⟨g, 1, none⟩ (.slice A l.length c)) g { r with oA := A, oc := c } { o with own := l } := by
  have hx : Only (fun b => b = g) w (w.setCell ⟨g, 1, none⟩ (.slice A l.length c)) := (Only.refl _ _).at_ _ _
  have hS := h.cs.set_ 1 (.slice A l.length c)
  simp only [List.setIfInBounds_toArray, List.set_cons_succ, List.set_cons_zero] at hS
  exact ⟨hS, h.base.keep_far hx fun b o e hp => h.base.far fileF_head h.cs b o e hp, hl.keep_far hx fun b o e hp => hl.far fileF_head h.cs b o e hp,
    h.needs.keep_far hx fun b o e hp => h.needs.far strF_head h.cs b o e hp, h.targets.keep_far hx fun b o e hp => h.targets.far strF_head h.cs b o e hp⟩
end
/-- What reading, writing comes to. -/
def Ov.rd (o : Ov) (k : Str) : Str := if getB k o.own then getT k o.own else if inS o.needs k then (if getB k o.base then getT k o.base else []) else []
def Ov.rdF (o : Ov) (k : Str) : Int := if getB k o.own then 0 else if inS o.needs k then (if getB k o.base then 0 else 5) else 6
def Ov.wrF (o : Ov) (k s : Str) : Int := if inS o.targets k then (if 20 < s.length then 2 else 0) else 6
def Ov.wr (o : Ov) (k s : Str) : Ov := if o.wrF k s = 0 then { o with own := putL fk (k, s) o.own } else o
theorem Ov.rdF_nonneg (o : Ov) (k : Str) : 0 ≤ o.rdF k := by unfold Ov.rdF; split <;> (try split) <;> (try split) <;> omega
theorem Ov.wrF_nonneg (o : Ov) (k s : Str) : 0 ≤ o.wrF k s := by unfold Ov.wrF; split <;> (try split) <;> omega
structure Ov.Small (o : Ov) : Prop where
  base : o.base.length ≤ 10000
  own : o.own.length ≤ 10000
  needs : o.needs.length ≤ 10000
  targets : o.targets.length ≤ 10000
  rise : Rise fk o.own
  riseB : Rise fk o.base
theorem getT_none {k : Str} {l : List File} (h : getB k l = false) : getT k l = [] := by
  unfold getB at h; unfold getT
  cases hg : getL fk k l with
  | none => rfl
  | some x => rw [hg] at h; cases h
theorem Ov.wr_base (o : Ov) (n s : Str) : (o.wr n s).base = o.base := by unfold Ov.wr; split <;> rfl
theorem Ov.wr_needs (o : Ov) (n s : Str) : (o.wr n s).needs = o.needs := by unfold Ov.wr; split <;> rfl
theorem Ov.wr_targets (o : Ov) (n s : Str) : (o.wr n s).targets = o.targets := by unfold Ov.wr; split <;> rfl
theorem Ov.wr_rise {o : Ov} (h : Rise fk o.own) (n s : Str) : Rise fk (o.wr n s).own := by
  unfold Ov.wr; split
  · exact rise_putL h _
  · exact h
theorem Ov.wr_len (o : Ov) (n s : Str) : (o.wr n s).own.length ≤ o.own.length + 1 := by
  unfold Ov.wr; split
  · exact length_putL _ _
  · omega
end Go.Proofs.YtnplipljfmnjgaaDoor
