/- Groups as they lie in memory. -/
import Derived.Test.YtfbpiafhgkhoiaaDoorData
import Derived.Test.YtfbpiafhgkhoiaaDoorProg
namespace Go.Proofs.YtfbpiafhgkhoiaaDoor
open Go Go.RowKit
structure Grp where
  targets : List Str
  needs : List Str
  cmds : List Str
  phony : Bool
structure GrpV where
  tA : Option Addr
  tc : Nat
  nA : Option Addr
  nc : Nat
  cA : Option Addr
  cc : Nat
def grpCs (v : GrpV) (g : Grp) : Array Value := #[.slice v.tA g.targets.length v.tc, .slice v.nA g.needs.length v.nc, .slice v.cA g.cmds.length v.cc, .bool g.phony]
abbrev grpV (v : GrpV) (g : Grp) : Value := .agg (grpCs v g)
structure GrpR (w : World) (v : GrpV) (g : Grp) : Prop where
  t : SlR strF w v.tA g.targets.length g.targets
  n : SlR strF w v.nA g.needs.length g.needs
  c : SlR strF w v.cA g.cmds.length g.cmds
theorem GrpR.ext {w u : World} {v : GrpV} {g : Grp} (h : GrpR w v g) (hx : Ext w u) : GrpR u v g := ⟨h.t.ext hx, h.n.ext hx, h.c.ext hx⟩
/-- Few, and short. -/
structure Grp.Lim (g : Grp) : Prop where
  t : g.targets.length ≤ 1000
  n : g.needs.length ≤ 1000
  c : g.cmds.length ≤ 1000
  l : ∀ x ∈ g.cmds, x.length ≤ 1000
end Go.Proofs.YtfbpiafhgkhoiaaDoor
