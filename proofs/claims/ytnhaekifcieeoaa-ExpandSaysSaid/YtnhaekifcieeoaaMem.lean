/- Blocks that are known whole, and rows that the call owns. -/
import Derived.Test.YtnhaekifcieeoaaData
import Derived.Laws.OwnMore
import Derived.Maps.AppendAt
import Derived.Deep.AppendLies
namespace Go.Proofs.Ytnhaekifcieeoaa
open Go Go.RowKit
/-- Block 'g' is just the cells 'cs' of element type 't', none frozen. -/
def Cs (w : World) (g : Nat) (t : TypeId) (cs : Array Value) : Prop := w.heap[g]? = some (.cells cs t (0, 0))
section
variable {w v : World} {g : Nat} {t : TypeId} {cs : Array Value} {F : Nat → Prop}
theorem Cs.lt (h : Cs w g t cs) : g < w.heap.size := by
  rcases Nat.lt_or_ge g w.heap.size with hlt | hge
  · exact hlt
  · unfold Cs at h; rw [Array.getElem?_eq_none hge] at h; cases h
theorem Cs.cell (h : Cs w g t cs) (i : Nat) : w.cell? ⟨g, i, none⟩ = cs[i]? := cell_of_row w g i cs t (0, 0) h
theorem Cs.frozen (h : Cs w g t cs) (i : Nat) : w.frozen? ⟨g, i, none⟩ = false := by
  unfold Cs at h
  simp [World.frozen?, h]
theorem Cs.new (w : World) (t : TypeId) (cs : Array Value) : Cs (w.alloc (.cells cs t)) w.heap.size t cs := heap_alloc_new w _
theorem Cs.drew (h : Cs w g t cs) : Cs w.drew g t cs := h
theorem Cs.drewN (h : Cs w g t cs) (n : Nat) : Cs (w.drewN n) g t cs := h
theorem Cs.alloc (h : Cs w g t cs) (o : Obj) : Cs (w.alloc o) g t cs := (Below.heap_alloc w o g h.lt).trans h
theorem Cs.set_ (h : Cs w g t cs) (i : Nat) (u : Value) : Cs (w.setCell ⟨g, i, none⟩ u) g t (cs.setIfInBounds i u) := by
  unfold Cs at h ⊢
  simp [World.setCell, Array.getElem?_modify, h]
theorem Cs.far (h : Cs w g t cs) {p : Addr} (hp : g ≠ p.block) (u : Value) : Cs (w.setCell p u) g t cs := (Below.heap_setCell w p u g hp).trans h
theorem Cs.keep (h : Cs w g t cs) (hx : Only F w v) (hg : ¬ F g) : Cs v g t cs := (hx.block g h.lt hg).trans h
theorem Cs.ne_ {g' : Nat} {t' : TypeId} {cs' : Array Value} (h : Cs w g t cs) (h' : Cs w g' t' cs') (hne : t ≠ t') : g ≠ g' := by
  rintro rfl
  unfold Cs at h h'
  rw [h] at h'
  injection h' with h'
  injection h' with _ ht
  exact hne ht
end
theorem own_keep {w v : World} {F : Nat → Prop} {B : Nat} {e : TypeId} {size n : Nat} {x : Value} {xs : List Value} (h : w.ownsRow B e size x n xs) (hx : Only F w v) (hn : ∀ g, x.ownBlock = some g → ¬ F g) : v.ownsRow B e size x n xs := by
  obtain ⟨h1, h2⟩ := h
  refine ⟨h1, ?_⟩
  rcases h2 with h2 | ⟨g, cap, cur, hv, hg, hh, r⟩
  · exact Or.inl h2
  · refine Or.inr ⟨g, cap, cur, hv, hg, ?_, r⟩
    rw [hx.block g (Array.getElem?_eq_some_iff.1 hh).1 (hn g (by rw [hv]; rfl))]
    exact hh
theorem Cs.x {w : World} {g : Nat} {t : TypeId} {cs : Array Value} {F : Nat → Prop} (h : Cs w g t cs) (hg : ¬ F g) (i : Nat) : ∀ ξ : X w F, ξ.v.cell? ⟨g, i, none⟩ = cs[i]? := fun ξ => (h.keep ξ.h hg).cell i
/-- Storing over one element of a row of the call's own (elements of one cell). -/
theorem Cs.of_own {w : World} {B : Nat} {e : TypeId} {size g n cap : Nat} {xs : List Value} (h : w.ownsRow B e size (.slice (some ⟨g, 0, none⟩) n cap) n xs) : ∃ cur, Cs w g e cur := by
  rcases h.2 with ⟨h2, _⟩ | ⟨g', cap', cur, hv, hb, hh, _⟩
  · cases h2
  · injection hv with hv1 hv2 hv3
    injection hv1 with hv1
    injection hv1 with hv1
    subst hv1
    exact ⟨cur, hh⟩
theorem own_set {w : World} {B : Nat} {e : TypeId} {g n cap : Nat} {xs : List Value} (h : w.ownsRow B e 1 (.slice (some ⟨g, 0, none⟩) n cap) n xs) (k : Nat) (hk : k < n) (u : Value) :
    (w.setCell ⟨g, k, none⟩ u).ownsRow B e 1 (.slice (some ⟨g, 0, none⟩) n cap) n (xs.set k u) := by
  obtain ⟨h1, h2⟩ := h
  refine ⟨by simpa using h1, .inr ?_⟩
  rcases h2 with ⟨h2, _⟩ | ⟨g', cap', cur, hv, hb, hh, hn, hc, hs, ht⟩
  · cases h2
  · injection hv with hv1 hv2 hv3
    injection hv1 with hv1
    injection hv1 with hv1
    subst hv1; subst hv3
    refine ⟨g, cap, cur.setIfInBounds k u, rfl, hb, ?_, hn, hc, by simpa using hs, ?_⟩
    · simp [World.setCell, Array.getElem?_modify, hh]
    · rw [Array.toList_setIfInBounds, List.take_set, ht]
end Go.Proofs.Ytnhaekifcieeoaa
