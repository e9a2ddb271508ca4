/- Put together: StK. -/
import Derived.Test.YtaphmmobmadfoaaMc16
import Derived.Test.YtaphmmobmadfoaaMc17
import Derived.Test.YtaphmmobmadfoaaMc07
import Derived.Test.YtaphmmobmadfoaaMc09
/- What store and log share. -/
namespace Go.Proofs.Ytaphmmobmadfoaa
open Go Go.RowKit
theorem Deds.rob {w0 : Nat → Prop} {w wB : World} {A : Option Addr} {c : Nat} {ys : List DeedV} (h : Deds w wB A c ys) : Rob w0 wB fun u => DedR u A ys.length ys := fun u hu =>
  ⟨SlR.of_own (T := dedF) (by decide) (own_rob h.row.own (by decide) (by decide) (by decide) (by decide) u hu), fun y hy => SlR.of_own (T := chF) (by decide) (own_rob (h.own y hy) (by decide) (by decide) (by decide) (by decide) u hu)⟩
theorem rob_cs {w0 : Nat → Prop} {w : World} {g : Nat} {t : TypeId} {cs : Array Value} (h : Cs w g t cs) (h1 : t ≠ diskT) (h2 : t ≠ strT) (h3 : t ≠ turnT) (h4 : t ≠ logT) : Rob w0 w fun u => Cs u g t cs := fun _ hu => h.frn h1 h2 h3 h4 hu
theorem sl_cs {α : Type} {T : Flat α} {w : World} {g : Nat} {t : TypeId} {x : α} {cs : Array Value} (h : Cs w g t cs) (hcs : (T.enc x).toArray = cs) : SlR T w (some ⟨g, 0, none⟩) 1 [x] := by
  subst hcs
  refine ⟨rfl, fun _ => ⟨g, 0, rfl, h.lt, fun k y hk j u hu => ?_⟩⟩
  match k, hk with
  | 0, hk =>
    injection hk with hk
    subst hk
    rw [h.cell]
    simpa using hu
theorem fresh_up (n : Nat) : (Dk.fresh n).Up := ⟨rfl, rfl, fun s hs => by
  have : s = full [] := List.eq_of_mem_replicate hs
  rw [this]; exact length_full [] (by simp)⟩
theorem fresh_len (n : Nat) : (Dk.fresh n).now.length = n := List.length_replicate
theorem scan_zeros (first : Nat) : ∀ (L : List Str) (i : Nat) (deed : List Ch) (out : List (List Ch)) (nx : Nat), (∀ s ∈ L, s = full []) → scanF first L i deed out nx = (out, nx)
  | [], _, _, _, _, _ => rfl
  | s :: r, i, deed, out, nx, h => by rw [h s (by simp)]; exact scan_zero _ _ _ _ _ _
theorem scan_fresh (l : LogR) (n : Nat) (first : Nat) : scanF first (reg l (Dk.fresh n).now) 0 [] [] 0 = ([], 0) :=
  scan_zeros first _ 0 [] [] 0 fun s hs => List.eq_of_mem_replicate (List.mem_of_mem_drop (List.mem_of_mem_take hs))
@[go_sem] theorem ch_build2 (a b : ByteArray) (w : World) : (Instr.build chT #[(0, .string a), (1, .string b)]).run Try.prog w = .ok (.agg #[.string a, .string b, .bool false]) w := run_build w chT _ _ (by kernel_rfl)
theorem scan_bound (first : Nat) : ∀ (L : List Str) (i : Nat) (deed : List Ch) (o0 : List (List Ch)) (nx B : Nat), (∀ x ∈ o0, x.length ≤ B) → deed.length + L.length ≤ B → (∀ x ∈ (scanF first L i deed o0 nx).1, x.length ≤ B) ∧ (scanF first L i deed o0 nx).1.length ≤ o0.length + L.length
  | [], i, deed, o0, nx, B, h, _ => ⟨h, Nat.le_refl _⟩
  | s :: r, i, deed, o0, nx, B, h, hb => by
    rw [List.length_cons] at hb
    rw [scanF_cons, List.length_cons]
    cases hl : lookF s (first + i) with
    | none => exact ⟨h, Nat.le_add_right _ _⟩
    | some kt =>
      obtain ⟨k, t⟩ := kt
      dsimp only
      by_cases h99 : k = 99
      · rw [if_pos h99]
        by_cases ht : t = fourF deed.length
        · rw [if_pos ht]
          have := scan_bound first r (i + 1) [] (o0 ++ [deed]) (i + 1) B (fun x hx => by
            rcases List.mem_append.1 hx with hx | hx
            · exact h x hx
            · rw [List.mem_singleton] at hx; rw [hx]; omega) (by simp; omega)
          refine ⟨this.1, ?_⟩
          have h2 := this.2
          rw [List.length_append, List.length_singleton] at h2
          omega
        · rw [if_neg ht]; exact ⟨h, Nat.le_add_right _ _⟩
      · rw [if_neg h99]
        cases chGood t with
        | none => exact ⟨h, Nat.le_add_right _ _⟩
        | some c =>
          have := scan_bound first r (i + 1) (deed ++ [c]) o0 nx B h (by rw [List.length_append, List.length_singleton]; omega)
          exact ⟨this.1, Nat.le_trans this.2 (by omega)⟩
end Go.Proofs.Ytaphmmobmadfoaa
