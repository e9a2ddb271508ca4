/- The program's disk in memory, and what its methods do. -/
import Derived.Test.YtlfiobciahnapaaFull
namespace Go.Proofs.Ytlfiobciahnapaa
open Go Go.RowKit
structure Dk where
  kept : List Str
  now : List Str
  wait : List (Nat × Str)
  fuse : Int
  down : Bool
structure DkR where
  g : Nat
  kg : Nat
  kc : Nat
  ng : Nat
  nc : Nat
  wv : Value
def turnC (t : Nat × Str) : List Value := [.int .i64 (t.1 : Int), S t.2]
structure Dk.Fine (d : Dk) : Prop where
  len : d.kept.length = d.now.length
  pos : 0 < d.now.length
  most : d.now.length ≤ 120
  lo : -1 ≤ d.fuse
  hi : d.fuse ≤ 9223372036854775807
  at_ : ∀ t ∈ d.wait, t.1 < d.now.length
abbrev DkR.cells (r : DkR) (d : Dk) : Array Value := #[.slice (some ⟨r.kg, 0, none⟩) d.now.length r.kc, .slice (some ⟨r.ng, 0, none⟩) d.now.length r.nc, r.wv, .int .i64 d.fuse, .bool d.down]
structure DiskAt (w : World) (r : DkR) (d : Dk) : Prop where
  cs : Cs w r.g 64 (r.cells d)
  kept : w.ownsRow 0 9 1 (.slice (some ⟨r.kg, 0, none⟩) d.now.length r.kc) d.now.length (d.kept.map S)
  now : w.ownsRow 0 9 1 (.slice (some ⟨r.ng, 0, none⟩) d.now.length r.nc) d.now.length (d.now.map S)
  wait : w.ownsRow 0 67 2 r.wv d.wait.length (d.wait.flatMap turnC)
  ne : r.kg ≠ r.ng
  fine : d.Fine
/-- The blocks that a disk lies in. -/
def DkR.fp (r : DkR) (b : Nat) : Prop := b = r.g ∨ b = r.kg ∨ b = r.ng ∨ r.wv.ownBlock = some b
theorem own_ne {w : World} {B g n : Nat} {t e : TypeId} {size : Nat} {cs : Array Value} {v : Value} {xs : List Value} (h : w.ownsRow B e size v n xs) (hg : Cs w g t cs) (hne : e ≠ t) : v.ownBlock ≠ some g := by
  rcases h.2 with ⟨rfl, _⟩ | ⟨g', cap, cur, rfl, _, hh, _⟩
  · simp [Value.ownBlock]
  · intro he
    have : g' = g := by simpa [Value.ownBlock] using he
    subst this
    exact Cs.ne_ (t := e) hh hg hne rfl
section
variable {w v : World} {r : DkR} {d : Dk} {F : Nat → Prop}
theorem DiskAt.keep (h : DiskAt w r d) (hx : Only F w v) (hn : ∀ b, r.fp b → ¬ F b) : DiskAt v r d :=
  ⟨h.cs.keep hx (hn _ (.inl rfl)), own_keep h.kept hx (fun g hg => by simp [Value.ownBlock] at hg; subst hg; exact hn _ (.inr (.inl rfl))),
   own_keep h.now hx (fun g hg => by simp [Value.ownBlock] at hg; subst hg; exact hn _ (.inr (.inr (.inl rfl)))), own_keep h.wait hx (fun g hg => hn _ (.inr (.inr (.inr hg)))), h.ne, h.fine⟩
theorem DiskAt.ext (h : DiskAt w r d) (hx : Ext w v) : DiskAt v r d := h.keep hx fun _ _ h => h
theorem DiskAt.gk (h : DiskAt w r d) : r.kg ≠ r.g := fun e => own_ne h.kept h.cs (by decide) (by rw [← e]; rfl)
theorem DiskAt.gn (h : DiskAt w r d) : r.ng ≠ r.g := fun e => own_ne h.now h.cs (by decide) (by rw [← e]; rfl)
theorem DiskAt.gw (h : DiskAt w r d) : r.wv.ownBlock ≠ some r.g := own_ne h.wait h.cs (by decide)
theorem DiskAt.nowCell (h : DiskAt w r d) {k : Nat} (hk : k < d.now.length) : w.cell? ⟨r.ng, k, none⟩ = some (S (d.now[k])) := by
  rw [h.now.cellAt k (by omega), List.getElem?_map, List.getElem?_eq_getElem hk]; rfl
/-- What a step leaves. -/
def Dk.stepped (d : Dk) : Dk := if d.down then d else if d.fuse = 0 then { d with fuse := -1, down := true } else { d with fuse := max (d.fuse - 1) (-1) }
def Dk.falls (d : Dk) : Bool := d.down || decide (d.fuse = 0)
theorem Dk.Fine.stepped (h : d.Fine) : d.stepped.Fine := by
  unfold Dk.stepped
  split
  · exact h
  · have := h.lo; have := h.hi
    split
    · exact ⟨h.len, h.pos, h.most, by simp, by simp, h.at_⟩
    · exact ⟨h.len, h.pos, h.most, by simp; omega, by simp; omega, h.at_⟩
end
def DkRes (w : World) (r : DkR) (d' : Dk) (v : Value) (e : Ending) (w' : World) : Prop :=
  e = .returned v ∧ ∃ r' : DkR, DiskAt w' r' d' ∧ r'.g = r.g ∧ Only r.fp w w' ∧ ∀ b, r'.fp b → r.fp b ∨ w.heap.size ≤ b
theorem step_c {w : World} {r : DkR} {d : Dk} (h : DiskAt w r d) :
    Calls Try.prog 27 #[pt r.g] w fun e w' => e = .returned (if d.falls then E 11 else .nilIface) ∧ DiskAt w' r d.stepped ∧ Only (· = r.g) w w' := by
  obtain ⟨kept, now, wait, fuse, down⟩ := d
  have hk := h.gk; have hn := h.gn; have hw := h.gw
  cases down with
  | true =>
    refine (step_down h.cs).mono fun e w' ⟨he, hx⟩ => ⟨by simpa [Dk.falls] using he, ?_, hx.weak fun _ _ h => h.elim⟩
    simpa [Dk.stepped] using h.ext hx
  | false =>
    by_cases h0 : fuse = 0
    · subst h0
      refine (step_fuse h.cs).mono fun e w' ⟨he, hc, hx⟩ => ⟨by simpa [Dk.falls] using he, ?_, hx⟩
      have := h.fine.stepped
      simp only [Dk.stepped] at this ⊢
      exact ⟨hc, own_keep h.kept hx (fun g hg => by simp [Value.ownBlock] at hg; omega), own_keep h.now hx (fun g hg => by simp [Value.ownBlock] at hg; omega),
        own_keep h.wait hx (fun g hg e => hw (by rw [hg, e])), h.ne, this⟩
    · refine (step_on h.cs h0 h.fine.lo h.fine.hi).mono fun e w' ⟨he, hc, hx⟩ => ⟨by simpa [Dk.falls, h0] using he, ?_, hx⟩
      have := h.fine.stepped
      simp only [Dk.stepped, h0, Bool.false_eq_true, if_false] at this ⊢
      exact ⟨hc, own_keep h.kept hx (fun g hg => by simp [Value.ownBlock] at hg; omega), own_keep h.now hx (fun g hg => by simp [Value.ownBlock] at hg; omega),
        own_keep h.wait hx (fun g hg e => hw (by rw [hg, e])), h.ne, this⟩
end Go.Proofs.Ytlfiobciahnapaa
