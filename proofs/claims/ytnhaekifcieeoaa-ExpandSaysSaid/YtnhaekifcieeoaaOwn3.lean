/- Rows of the call's own beside one another. -/
import Derived.Test.YtnhaekifcieeoaaOwn2
namespace Go.Proofs.Ytnhaekifcieeoaa
open Go Go.RowKit
theorem own_cs {w : World} {B : Nat} {e : TypeId} {size n : Nat} {x : Value} {xs : List Value} (h : w.ownsRow B e size x n xs) {g : Nat} (hg : x.ownBlock = some g) : ∃ cur, Cs w g e cur := by
  rcases h.2 with ⟨rfl, _⟩ | ⟨g', cap, cur, rfl, hb, hh, _⟩
  · simp [Value.ownBlock] at hg
  · simp [Value.ownBlock] at hg
    subst hg
    exact ⟨cur, hh⟩
theorem own_ne_cs {w : World} {B : Nat} {e t : TypeId} {size n g : Nat} {x : Value} {xs : List Value} {cs : Array Value} (h : w.ownsRow B e size x n xs) (hc : Cs w g t cs) (hne : e ≠ t) : ∀ b, x.ownBlock = some b → ¬ b = g := by
  rintro b hb rfl
  obtain ⟨cur, h1⟩ := own_cs h hb
  exact Cs.ne_ h1 hc hne rfl
theorem own_ne_own {w : World} {B B' : Nat} {e t : TypeId} {size size' n n' : Nat} {x y : Value} {xs ys : List Value} (h : w.ownsRow B e size x n xs) (h' : w.ownsRow B' t size' y n' ys) (hne : e ≠ t) : ∀ b, x.ownBlock = some b → y.ownBlock ≠ some b := by
  intro b hb hb'
  obtain ⟨cur, h1⟩ := own_cs h hb
  obtain ⟨cur', h2⟩ := own_cs h' hb'
  exact Cs.ne_ h1 h2 hne rfl
theorem Fresh.keep {α : Type} {T : Flat α} {t : TypeId} {w wr u : World} {A : Option Addr} {c : Nat} {xs : List α} {F : Nat → Prop} (h : Fresh T t w wr A c xs) (hx : Only F wr u) (hE : Ext w u) (hn : ∀ g, (Value.slice A xs.length c).ownBlock = some g → ¬ F g) : Fresh T t w u A c xs := ⟨own_keep h.own hx hn, hE, h.new⟩
end Go.Proofs.Ytnhaekifcieeoaa
