/- Put together: Lg3. -/
import Derived.Test.YtaphmmobmadfoaaMa11
import Derived.Test.YtaphmmobmadfoaaMa12
import Derived.Test.YtaphmmobmadfoaaMa13
/- Deeds in memory: rows of rows of changes. Plain: what a log's sectors say. -/
namespace Go.Proofs.Ytaphmmobmadfoaa
open Go Go.RowKit
abbrev chT : TypeId := 61
abbrev deedT : TypeId := 36
abbrev DeedV := (Option Addr × Nat) × List Ch
def dedF : Flat DeedV := ⟨1, fun x => [.slice x.1.1 x.2.length x.1.2], fun _ => rfl⟩
/-- What a log's sectors say: the deeds that are closed, how many sectors these take. -/
def scanF (first : Nat) : List Str → Nat → List Ch → List (List Ch) → Nat → List (List Ch) × Nat
  | [], _, _, out, nx => (out, nx)
  | s :: r, i, deed, out, nx => match lookF s (first + i) with
    | none => (out, nx)
    | some (k, t) =>
      if k = 99 then (if t = fourF deed.length then scanF first r (i + 1) [] (out ++ [deed]) (i + 1) else (out, nx))
      else match chGood t with
        | none => (out, nx)
        | some c => scanF first r (i + 1) (deed ++ [c]) out nx
structure Deds (w wB : World) (A : Option Addr) (c : Nat) (ys : List DeedV) : Prop where
  row : Fresh dedF deedT w wB A c ys
  own : ∀ y ∈ ys, wB.ownsRow 0 chT 3 (.slice y.1.1 y.2.length y.1.2) y.2.length (y.2.flatMap chF.enc)
section
variable {w wB wr u : World} {A : Option Addr} {c : Nat} {ys : List DeedV}
theorem Deds.nil (h : Ext w u) : Deds w u none 0 [] := ⟨Fresh.nil _ _ _ _ h, fun y hy => by cases hy⟩
theorem Deds.ext (h : Deds w wB A c ys) (hx : Ext wB u) : Deds w u A c ys := ⟨h.row.on hx, fun y hy => own_ext (h.own y hy) hx⟩
theorem Deds.keep (h : Deds w wB A c ys) {g : Nat} {t : TypeId} {cs : Array Value} (hc : Cs wB g t cs) (h1 : deedT ≠ t) (h2 : chT ≠ t) (hO : Only (fun b => b = g) wB u) (hg : w.heap.size ≤ g) : Deds w u A c ys :=
  ⟨h.row.keep hO (h.row.ext.trans hO fun b hb e => by have e : b = g := e; omega) (own_ne_cs h.row.own hc h1), fun y hy => own_keep (h.own y hy) hO (own_ne_cs (h.own y hy) hc h2)⟩
/-- One deed more. -/
theorem Deds.grow {dA : Option Addr} {dc : Nat} {deed : List Ch} (h : Deds w wB A c ys) (hd : wB.ownsRow 0 chT 3 (.slice dA deed.length dc) deed.length (deed.flatMap chF.enc)) {A' : Option Addr} {c' : Nat} {w5 : World}
    (hown : w5.ownsRow 0 deedT 1 (.slice A' (ys.length + 1 : Nat) c') (ys.length + 1) (ys.flatMap dedF.enc ++ [((dA, dc), deed)].flatMap dedF.enc)) (hg : wB.grownBy w5 (Value.slice A ys.length c).ownBlock)
    (hb : (Value.slice A' (ys.length + 1 : Nat) c').ownBlock = (Value.slice A ys.length c).ownBlock ∨ (Value.slice A' (ys.length + 1 : Nat) c').ownBlock = some wB.heap.size) :
    Deds w w5 A' c' (ys ++ [((dA, dc), deed)]) := by
  have O5 : Only (fun b => (Value.slice A ys.length c).ownBlock = some b) wB w5 := (Only.refl _ _).grown hg fun g e => .inr e
  have F5 := h.row.grow (ys := [((dA, dc), deed)]) rfl hown hg hb
  refine ⟨F5, fun y hy => ?_⟩
  rcases List.mem_append.1 hy with hy | hy
  · exact own_keep (h.own y hy) O5 fun g h1 h2 => own_ne_own (h.own y hy) h.row.own (by decide) g h1 h2
  · obtain rfl := List.mem_singleton.1 hy
    exact own_keep hd O5 fun g h1 h2 => own_ne_own hd h.row.own (by decide) g h1 h2
end
/-- Deeds that read. -/
def DedR (w : World) (A : Option Addr) (n : Nat) (ys : List DeedV) : Prop := SlR dedF w A n ys ∧ ∀ y ∈ ys, SlR chF w y.1.1 y.2.length y.2
theorem Deds.red {w wB : World} {A : Option Addr} {c : Nat} {ys : List DeedV} (h : Deds w wB A c ys) : DedR wB A ys.length ys := ⟨h.row.row (by decide), fun y hy => SlR.of_own (T := chF) (by decide) (h.own y hy)⟩
theorem dd_info : (Try.prog.info? deedT).map (fun i => (i.zero, i.size, i.bytes)) = some (some (.slice none 0 0), 1, 24) := by kernel_rfl
theorem dd_ty : Ety Try.prog 49 deedT 1 := Ety.mk' Try.underlying49 dd_info rfl (by omega) (by omega)
theorem cg_info : (Try.prog.info? chT).map (fun i => (i.zero, i.size, i.bytes)) = some (some (.agg #[.string ⟨#[]⟩, .string ⟨#[]⟩, .bool false]), 3, 40) := by kernel_rfl
theorem cg_ty : Ety Try.prog 36 chT 3 := Ety.mk' Try.underlying36 cg_info rfl (by omega) (by omega)
theorem ch_enc1 (xs : List Ch) : ∀ u ∈ xs.flatMap chF.enc, u.oneCell' = true := by
  intro u hu
  obtain ⟨x, _, hx⟩ := List.mem_flatMap.1 hu
  simp only [chF, List.mem_cons, List.not_mem_nil, or_false] at hx
  rcases hx with rfl | rfl | rfl <;> rfl
theorem rd_cs {w : World} {g : Nat} {t : TypeId} {cs : List Value} (h : Cs w g t cs.toArray) : Rd w (some ⟨g, 0, none⟩) 1 cs.length cs := by
  refine ⟨by simp, fun _ => ⟨g, 0, rfl, fun j u hu => ?_⟩⟩
  rw [Nat.zero_add, h.cell]
  simpa using hu
theorem scanF_cons (first : Nat) (s : Str) (r : List Str) (i : Nat) (deed : List Ch) (out : List (List Ch)) (nx : Nat) : scanF first (s :: r) i deed out nx = match lookF s (first + i) with
    | none => (out, nx)
    | some (k, t) =>
      if k = 99 then (if t = fourF deed.length then scanF first r (i + 1) [] (out ++ [deed]) (i + 1) else (out, nx))
      else match chGood t with
        | none => (out, nx)
        | some c => scanF first r (i + 1) (deed ++ [c]) out nx := rfl
theorem lookF_kind {s : Str} {n : Nat} {k : UInt8} {t : Str} (h : lookF s n = some (k, t)) : k = 111 ∨ k = 99 := by
  unfold lookF at h
  split at h
  · rename_i hh
    injection h with h
    injection h with h1 h2
    rw [← h1]; exact hh.2.1
  · cases h
theorem lookF_len {s : Str} {n : Nat} {k : UInt8} {t : Str} (h : lookF s n = some (k, t)) : t.length ≤ s.length := by
  unfold lookF at h
  split at h
  · injection h with h
    injection h with h1 h2
    rw [← h2, List.length_drop, List.length_take]
    omega
  · cases h
end Go.Proofs.Ytaphmmobmadfoaa
