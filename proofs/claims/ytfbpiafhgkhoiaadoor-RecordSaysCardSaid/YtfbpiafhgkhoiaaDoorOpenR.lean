/- Arguments: records. -/
import Derived.Test.YtfbpiafhgkhoiaaDoorOpenS
import Derived.Test.YtfbpiafhgkhoiaaDoorOpenF
import Derived.Test.YtfbpiafhgkhoiaaDoorRcd
namespace Go.Proofs.YtfbpiafhgkhoiaaDoor
open Go Go.RowKit Go.ChangeShapes Go.WideShapes Go.Deep
section
variable {H : Type} {enc : TypeId × Value → H} {w : World} {base : Nat} {held : Bool}
set_option maxRecDepth 100000 in
theorem arg_rcd {r : Reach} {b0 : Nat} {v : Value} {d : DataW H} {p : List MemPlace} (hv : Value.okWide Tryd.prog w r b0 rcT v) (h : DataW.Trod enc Tryd.prog w base allP held rcT v d p) :
    ∃ (gv : RcdV) (g : Rcd), v = rcdV gv g ∧ RcdR w gv g ∧ g.cmds.length ≤ maxLen ∧ g.needs.length ≤ maxLen ∧ g.out.length ≤ maxLen := by
  obtain ⟨v0, v1, v2, y0, y1, y2, n, rfl, _, _, h0, h1, h2⟩ := Joins.open_agg3 Tryd.underlying27 (by kernel_rfl) (by kernel_rfl) hv h
  obtain ⟨tA, tn, tc, ts, rfl, s1, l1⟩ := open_strs_ h0
  obtain ⟨nA, nn, nc, ns, rfl, s2, l2⟩ := open_files h1
  obtain ⟨oA, on_, oc, os, rfl, s3, l3⟩ := open_files h2
  have e1 := s1.1; have e2 := s2.1; have e3 := s3.1
  subst e1; subst e2; subst e3
  exact ⟨⟨tA, tc, nA, nc, oA, oc⟩, ⟨ts, ns, os⟩, rfl, ⟨s1, s2, s3⟩, l1, l2, l3⟩
end
end Go.Proofs.YtfbpiafhgkhoiaaDoor
