/- How the data of this program lie in memory: strings, and slices whose elements are laid in cells. -/
import Derived.Test.YtnhaekifcieeoaaMix
namespace Go.Proofs.Ytnhaekifcieeoaa
open Go Go.RowKit
/-- How one element is laid in cells. -/
structure Flat (α : Type) where
  size : Nat
  enc : α → List Value
  len : ∀ x, (enc x).length = size
abbrev File := Str × Str
def strF : Flat Str := ⟨1, fun s => [S s], fun _ => rfl⟩
def fileF : Flat File := ⟨2, fun f => [S f.1, S f.2], fun _ => rfl⟩
/-- The slice value '.slice A n c' reads as 'xs', in blocks below 'w''s size. -/
def SlR {α : Type} (T : Flat α) (w : World) (A : Option Addr) (n : Nat) (xs : List α) : Prop :=
  xs.length = n ∧ (0 < n → ∃ b o, A = some ⟨b, o, none⟩ ∧ b < w.heap.size ∧ ∀ k x, xs[k]? = some x → ∀ j u, (T.enc x)[j]? = some u → w.cell? ⟨b, o + k * T.size + j, none⟩ = some u)
section
variable {α : Type} {T : Flat α} {w v : World} {A : Option Addr} {n : Nat} {xs : List α}
theorem SlR.get (h : SlR T w A n xs) {k : Nat} (hk : k < n) : ∃ b o x, A = some ⟨b, o, none⟩ ∧ b < w.heap.size ∧ xs[k]? = some x ∧
    ∀ j u, (T.enc x)[j]? = some u → w.cell? ⟨b, o + k * T.size + j, none⟩ = some u := by
  obtain ⟨b, o, e, hb, hc⟩ := h.2 (by omega)
  have hl : k < xs.length := by rw [h.1]; exact hk
  exact ⟨b, o, xs[k], e, hb, List.getElem?_eq_getElem hl, hc k _ (List.getElem?_eq_getElem hl)⟩
theorem SlR.none_ : SlR T w none 0 [] := ⟨rfl, fun h => absurd h (by omega)⟩
theorem SlR.nil_ (h : SlR T w A 0 xs) : xs = [] := List.eq_nil_of_length_eq_zero h.1
theorem SlR.keep (h : SlR T w A n xs) (hs : w.heap.size ≤ v.heap.size) (hk : ∀ p : Addr, p.block < w.heap.size → v.cell? p = w.cell? p) : SlR T v A n xs :=
  ⟨h.1, fun hn => by
    obtain ⟨b, o, e, hb, hc⟩ := h.2 hn
    exact ⟨b, o, e, by omega, fun k x hx j u hu => (hk _ hb).trans (hc k x hx j u hu)⟩⟩
theorem SlR.ext (h : SlR T w A n xs) (hx : Ext w v) : SlR T v A n xs := h.keep hx.size fun _ hp => hx.cell hp id
end
theorem files_get {w : World} {A : Option Addr} {n : Nat} {xs : List File} (h : SlR fileF w A n xs) {k : Nat} (hk : k < n) :
    ∃ b o f, A = some ⟨b, o, none⟩ ∧ xs[k]? = some f ∧ (∀ ξ : X w No, ξ.v.cell? ⟨b, o + k * 2, none⟩ = some (S f.1)) ∧ (∀ ξ : X w No, ξ.v.cell? ⟨b, o + k * 2 + 1, none⟩ = some (S f.2)) := by
  obtain ⟨b, o, x, e, hb, hx, hc⟩ := h.get hk
  exact ⟨b, o, x, e, hx, fun ξ => (ξ.h.cell hb id).trans (hc 0 _ rfl), fun ξ => (ξ.h.cell hb id).trans (hc 1 _ rfl)⟩
theorem strs_get {w : World} {A : Option Addr} {n : Nat} {xs : List Str} (h : SlR strF w A n xs) {k : Nat} (hk : k < n) :
    ∃ b o s, A = some ⟨b, o, none⟩ ∧ xs[k]? = some s ∧ (∀ ξ : X w No, ξ.v.cell? ⟨b, o + k, none⟩ = some (S s)) := by
  obtain ⟨b, o, x, e, hb, hx, hc⟩ := h.get hk
  exact ⟨b, o, x, e, hx, fun ξ => (ξ.h.cell hb id).trans (by simpa [strF] using hc 0 _ rfl)⟩
theorem take_grow {α : Type} {xs ys : List α} {k : Nat} {x y : α} (h : xs.take k = ys.take k) (hx : xs[k]? = some x) (hy : ys[k]? = some y) (e : x = y) : xs.take (k + 1) = ys.take (k + 1) := by
  rw [List.take_add_one, List.take_add_one, h, hx, hy, e]
theorem ne_at {α : Type} {xs ys : List α} {k : Nat} {x y : α} (hx : xs[k]? = some x) (hy : ys[k]? = some y) (e : x ≠ y) : xs ≠ ys := by
  intro h; subst h; rw [hx] at hy; exact e (Option.some.inj hy)
theorem eq_of_take {α : Type} {xs ys : List α} {k n : Nat} (h : xs.take k = ys.take k) (hx : xs.length = n) (hy : ys.length = n) (hk : n ≤ k) : xs = ys := by
  rw [List.take_of_length_le (by omega), List.take_of_length_le (by omega)] at h; exact h
theorem ret_bool {a b : Bool} (h : a = b) : Ending.returned (.bool a) = .returned (.bool b) := by rw [h]
end Go.Proofs.Ytnhaekifcieeoaa
