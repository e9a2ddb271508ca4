/-
  No cell of these rows narrows 'for every input' (looked for: loops, veiled, ifaces, maps, wideKeys, modest, calm, conditions, laid).
  DERIVED. THE GIVEN ROWS OF THIS SEAT. 2 by the template 'for every input the law returns true; each argument reads behind the call as it read before'; 0 by the template 'total and deterministic' (their statements: YtfbpiafhgkhoiaaTotals.lean).
  GIVEN WITH THE SEED: the statements are not yours to turn. If you find one false, say at which input.
  Laid BY PROGRAM, IN A SANDBOX (cutbox-rows.mjs): the forced cells as the released guide's own fill.sh prints them over the translation 1e96f6491c32123a… (all of the seat's roots in one cut). By AI agents, Wed Nov 11 2026. No macro, syntax, notation, axiom, sorry.
-/
import Derived.Test.YtfbpiafhgkhoiaaChecked
import GoSem.Claim
import GoSem.ClaimJoined
import GoSem.ClaimMapViews
import Derived.JoinedTies
import Derived.KernelRfl
namespace Go.Proofs.Ytfbpiafhgkhoiaa
/- THE CELL 'sum', in the pinned program and in every row, IS THE sha256 OF THE DUMP (.gsa) THAT YtfbpiafhgkhoiaaProg.lean LOADS. Nothing in Lean hashes anything: it is a label: what it is worth is what the hold of that sum in a sandbox is worth. -/
noncomputable def Try.pinned : Pinned := { name := "ytfbpiafhgkhoiaa", sum := "1e96f6491c32123ab42ac695d66e4d6919643fc650fbd528eb0f6462c8334924", checked := Try.checked }
namespace Rows
def none {H : Type} : Left H := { results := [], args := [] }

/-- 'hammerpondtop.TopStem': WHATEVER THE INPUT: true; the input reads as it did. -/
def topStemSpec : ChangeSpec := { name := "topStem", fn := fun _ => fun
  | [d1, d2, d3, d4] => { results := [.lit (.bool true)], args := [d1, d2, d3, d4] }
  | _ => none }
def topStemRow : OpenClaim := { program := "ytfbpiafhgkhoiaa", sum := "1e96f6491c32123ab42ac695d66e4d6919643fc650fbd528eb0f6462c8334924", func := "hammerpond/hammerpondtop.TopStem", spec := "topStem", inPlace := ["internal/bytealg.IndexByteString", "internal/bytealg.IndexString"], named := ["internal/bytealg.MaxLen"], apart := false }
def TopStemSaid : Prop := topStemRow.holds Try.pinned (OpenSpec.ofChange topStemSpec)

/-- ITS FALSE NEIGHBOUR: 'it returns false'. Refute it at one input. -/
def topStemWrong : ChangeSpec := { name := "topStem", fn := fun _ => fun
  | [d1, d2, d3, d4] => { results := [.lit (.bool false)], args := [d1, d2, d3, d4] }
  | _ => none }
def TopStemWrongFalsely : Prop := topStemRow.holds Try.pinned (OpenSpec.ofChange topStemWrong)

/-- 'hammerpondtop.TopExpand': WHATEVER THE INPUT: true; the input reads as it did. -/
def topExpandSpec : ChangeSpec := { name := "topExpand", fn := fun _ => fun
  | [d1, d2, d3] => { results := [.lit (.bool true)], args := [d1, d2, d3] }
  | _ => none }
def topExpandRow : OpenClaim := { program := "ytfbpiafhgkhoiaa", sum := "1e96f6491c32123ab42ac695d66e4d6919643fc650fbd528eb0f6462c8334924", func := "hammerpond/hammerpondtop.TopExpand", spec := "topExpand", inPlace := ["internal/bytealg.IndexByteString", "internal/bytealg.IndexString"], unfollowed := true, recurses := true, named := ["internal/bytealg.MaxLen"], apart := false }
def TopExpandSaid : Prop := topExpandRow.holds Try.pinned (OpenSpec.ofChange topExpandSpec)

/-- ITS FALSE NEIGHBOUR: 'it returns false'. Refute it at one input. -/
def topExpandWrong : ChangeSpec := { name := "topExpand", fn := fun _ => fun
  | [d1, d2, d3] => { results := [.lit (.bool false)], args := [d1, d2, d3] }
  | _ => none }
def TopExpandWrongFalsely : Prop := topExpandRow.holds Try.pinned (OpenSpec.ofChange topExpandWrong)

/- THE SECOND FORM. 'bulk': how many values and letters a reading holds, each counted each time it is reached (what is shared counts as often as it is met; a slice's spare places count too). A statement '..UptoSaid' is the law's where the arguments, and the package variables that the reading takes, are together of bulk at most 1048576: NARROWER than '..Said'. Prove '..Said' where nothing that the law and all that it calls make is longer than what came in: it says more and counts as full. Else prove '..UptoSaid'. A law counts once. -/
mutual
def uptoBulk {H : Type} : DataW H → Nat
  | .lit (.string bytes) => bytes.length + 1
  | .lit _ => 1
  | .nil => 1
  | .ptr d => uptoBulk d + 1
  | .slice elems spare => uptoBulkAll elems + uptoBulkAll spare + 1
  | .agg parts => uptoBulkAll parts + 1
  | .iface _ d => uptoBulk d + 1
  | .map entries => uptoBulkEntries entries + 1
  | .held _ => 1
def uptoBulkAll {H : Type} : List (DataW H) → Nat
  | [] => 0
  | d :: r => uptoBulk d + uptoBulkAll r
def uptoBulkEntries {H : Type} : List (Lit × DataW H) → Nat
  | [] => 0
  | x :: r => uptoBulkEntry x + uptoBulkEntries r
def uptoBulkEntry {H : Type} : Lit × DataW H → Nat
  | (.string bytes, d) => bytes.length + uptoBulk d + 1
  | (_, d) => uptoBulk d + 1
 end
def uptoSmall : (H : Type) → List (DataW H) → Bool := fun _ ds => decide (uptoBulkAll ds ≤ 1048576)
def OpenSpec.upto (s : _root_.Go.ChangeSpec) : _root_.Go.OpenSpec := { _root_.Go.OpenSpec.ofChange s with cond := some uptoSmall }

/-- 'hammerpondtop.TopStem', WHERE WHAT IT READS IS OF BULK AT MOST 1048576: true; the input reads as it did. -/
def topStemUptoRow : OpenClaim := { program := "ytfbpiafhgkhoiaa", sum := "1e96f6491c32123ab42ac695d66e4d6919643fc650fbd528eb0f6462c8334924", func := "hammerpond/hammerpondtop.TopStem", spec := "topStem", inPlace := ["internal/bytealg.IndexByteString", "internal/bytealg.IndexString"], named := ["internal/bytealg.MaxLen"], apart := false, narrowed := true }
def TopStemUptoSaid : Prop := topStemUptoRow.holds Try.pinned (OpenSpec.upto topStemSpec)

/-- 'hammerpondtop.TopExpand', WHERE WHAT IT READS IS OF BULK AT MOST 1048576: true; the input reads as it did. -/
def topExpandUptoRow : OpenClaim := { program := "ytfbpiafhgkhoiaa", sum := "1e96f6491c32123ab42ac695d66e4d6919643fc650fbd528eb0f6462c8334924", func := "hammerpond/hammerpondtop.TopExpand", spec := "topExpand", inPlace := ["internal/bytealg.IndexByteString", "internal/bytealg.IndexString"], unfollowed := true, recurses := true, named := ["internal/bytealg.MaxLen"], apart := false, narrowed := true }
def TopExpandUptoSaid : Prop := topExpandUptoRow.holds Try.pinned (OpenSpec.upto topExpandSpec)

end Rows
end Go.Proofs.Ytfbpiafhgkhoiaa
