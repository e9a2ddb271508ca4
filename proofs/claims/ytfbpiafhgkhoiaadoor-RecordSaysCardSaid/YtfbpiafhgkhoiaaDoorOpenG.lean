/- Arguments: groups. -/
import Derived.Test.YtfbpiafhgkhoiaaDoorOpenS
import Derived.Test.YtfbpiafhgkhoiaaDoorGrp
import Derived.Lib.SmallJoins
namespace Go.Proofs.YtfbpiafhgkhoiaaDoor
open Go Go.RowKit Go.ChangeShapes Go.WideShapes Go.Deep
section
variable {H : Type} {enc : TypeId × Value → H} {w : World} {base : Nat} {held : Bool}
set_option maxRecDepth 100000 in
theorem arg_grp {r : Reach} {b0 : Nat} {v : Value} {d : DataW H} {p : List MemPlace} (hv : Value.okWide Tryd.prog w r b0 24 v) (h : DataW.Trod enc Tryd.prog w base allP held 24 v d p) :
    ∃ (gv : GrpV) (g : Grp), v = .agg #[.slice gv.tA g.targets.length gv.tc, .slice gv.nA g.needs.length gv.nc, .slice gv.cA g.cmds.length gv.cc, .bool g.phony] ∧ GrpR w gv g ∧ g.targets.length ≤ maxLen ∧ g.needs.length ≤ maxLen ∧ g.cmds.length ≤ maxLen := by
  obtain ⟨v0, v1, v2, v3, y0, y1, y2, y3, n, rfl, _, _, h0, h1, h2, h3⟩ := Joins.open_agg4 Tryd.underlying24 (by kernel_rfl) (by kernel_rfl) hv h
  obtain ⟨tA, tn, tc, ts, rfl, s1, l1⟩ := open_strs_ h0
  obtain ⟨nA, nn, nc, ns, rfl, s2, l2⟩ := open_strs_ h1
  obtain ⟨cA, cn, cc, cs, rfl, s3, l3⟩ := open_strs_ h2
  obtain ⟨b, rfl⟩ := open_b Tryd.underlying4 h3
  have e1 := s1.1; have e2 := s2.1; have e3 := s3.1
  subst e1; subst e2; subst e3
  exact ⟨⟨tA, tc, nA, nc, cA, cc⟩, ⟨ts, ns, cs, b⟩, rfl, ⟨s1, s2, s3⟩, l1, l2, l3⟩
end
end Go.Proofs.YtfbpiafhgkhoiaaDoor
