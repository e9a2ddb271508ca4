/- Deeds as they come in, and whether they are light. -/
import Derived.Test.YtlfiobciahnapaaChs
namespace Go.Proofs.Ytlfiobciahnapaa
open Go Go.RowKit
structure Dd where
  kind : Str
  s : Str
  t : Str
  a : Int
  k : Nat
  ca : Option Addr
  cn : Nat
  cc : Nat
  ch : List Ch
def Dd.enc (d : Dd) : List Value := [S d.kind, S d.s, S d.t, .int .i64 d.a, .int .u64 (d.k : Int), .slice d.ca d.cn d.cc]
def ddF : Flat Dd := ⟨6, Dd.enc, fun _ => rfl⟩
structure DeedsR (w : World) (A : Option Addr) (n : Nat) (ds : List Dd) : Prop where
  row : SlR ddF w A n ds
  ch : ∀ d ∈ ds, SlR chF w d.ca d.cn d.ch
  a : ∀ d ∈ ds, -9223372036854775808 ≤ d.a ∧ d.a ≤ 9223372036854775807
  k : ∀ d ∈ ds, d.k < 18446744073709551616
theorem DeedsR.ext {w v : World} {A : Option Addr} {n : Nat} {ds : List Dd} (h : DeedsR w A n ds) (hx : Ext w v) : DeedsR v A n ds :=
  ⟨h.row.ext hx, fun d hd => (h.ch d hd).ext hx, h.a, h.k⟩
theorem deeds_get {w : World} {A : Option Addr} {n : Nat} {ds : List Dd} (h : DeedsR w A n ds) {i : Nat} (hi : i < n) :
    ∃ b o d, A = some ⟨b, o, none⟩ ∧ ds[i]? = some d ∧ d ∈ ds ∧ ∀ j, ∀ ξ : X w No, ∀ u, d.enc[j]? = some u → ξ.v.cell? ⟨b, o + i * 6 + j, none⟩ = some u := by
  obtain ⟨b, o, d, e, hb, hx, hc⟩ := h.row.get hi
  exact ⟨b, o, d, e, hx, List.mem_of_getElem? hx, fun j ξ u hu => (ξ.h.cell hb id).trans (hc j u hu)⟩
def lightD (most : Nat) (l : List Dd) : Bool := decide (l.length ≤ most) && l.all fun d => decide (d.s.length ≤ 800) && decide (d.t.length ≤ 400) && lightC 50 d.ch
end Go.Proofs.Ytlfiobciahnapaa
