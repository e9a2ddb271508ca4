/-
  No cell of these rows narrows 'for every input' (looked for: loops, veiled, ifaces, maps, wideKeys, modest, calm, conditions, laid).
  DERIVED. THE GIVEN ROWS OF THIS SEAT. 5 by the template 'for every input the law returns true; each argument reads behind the call as it read before'; 0 by the template 'total and deterministic' (their statements: YtgdabmfdfgdlkaaTotals.lean).
  GIVEN WITH THE SEED: the statements are not yours to turn. If you find one false, say at which input.
  Laid BY PROGRAM, IN A SANDBOX (cutbox-rows.mjs): the forced cells as the released guide's own fill.sh prints them over the translation 271fcb562ad00cc3… (all of the seat's roots in one cut). By AI agents, Wed Nov 11 2026. No macro, syntax, notation, axiom, sorry.
-/
import Derived.Test.YtgdabmfdfgdlkaaChecked
import GoSem.Claim
import GoSem.ClaimJoined
import GoSem.ClaimMapViews
import Derived.JoinedTies
import Derived.KernelRfl
namespace Go.Proofs.Ytgdabmfdfgdlkaa
/- THE CELL 'sum', in the pinned program and in every row, IS THE sha256 OF THE DUMP (.gsa) THAT YtgdabmfdfgdlkaaProg.lean LOADS. Nothing in Lean hashes anything: it is a label: what it is worth is what the hold of that sum in a sandbox is worth. -/
noncomputable def Try.pinned : Pinned := { name := "ytgdabmfdfgdlkaa", sum := "271fcb562ad00cc3de57ddc1c7c088ca5c78b19ebfa8ab6fe5079983b5128e9e", checked := Try.checked }
namespace Rows
def none {H : Type} : Left H := { results := [], args := [] }

/-- 'hammerpondlaw.FilesSays': WHATEVER THE INPUT: true; the input reads as it did. -/
def filesSaysSpec : ChangeSpec := { name := "filesSays", fn := fun _ => fun
  | [d1, d2] => { results := [.lit (.bool true)], args := [d1, d2] }
  | _ => none }
def filesSaysRow : OpenClaim := { program := "ytgdabmfdfgdlkaa", sum := "271fcb562ad00cc3de57ddc1c7c088ca5c78b19ebfa8ab6fe5079983b5128e9e", func := "hammerpond/hammerpondlaw.FilesSays", spec := "filesSays", inPlace := ["internal/bytealg.abigen_runtime_cmpstring", "slices.overlaps[hammerpond/api.File]"], unfollowed := true, recurses := true, apart := false }
def FilesSaysSaid : Prop := filesSaysRow.holds Try.pinned (OpenSpec.ofChange filesSaysSpec)

/-- ITS FALSE NEIGHBOUR: 'it returns false'. Refute it at one input. -/
def filesSaysWrong : ChangeSpec := { name := "filesSays", fn := fun _ => fun
  | [d1, d2] => { results := [.lit (.bool false)], args := [d1, d2] }
  | _ => none }
def FilesSaysWrongFalsely : Prop := filesSaysRow.holds Try.pinned (OpenSpec.ofChange filesSaysWrong)

/-- 'hammerpondtop.TopFiles': WHATEVER THE INPUT: true; the input reads as it did. -/
def topFilesSpec : ChangeSpec := { name := "topFiles", fn := fun _ => fun
  | [d1, d2, d3] => { results := [.lit (.bool true)], args := [d1, d2, d3] }
  | _ => none }
def topFilesRow : OpenClaim := { program := "ytgdabmfdfgdlkaa", sum := "271fcb562ad00cc3de57ddc1c7c088ca5c78b19ebfa8ab6fe5079983b5128e9e", func := "hammerpond/hammerpondtop.TopFiles", spec := "topFiles", inPlace := ["internal/bytealg.abigen_runtime_cmpstring", "slices.overlaps[hammerpond/api.File]"], unfollowed := true, recurses := true, apart := false }
def TopFilesSaid : Prop := topFilesRow.holds Try.pinned (OpenSpec.ofChange topFilesSpec)

/-- ITS FALSE NEIGHBOUR: 'it returns false'. Refute it at one input. -/
def topFilesWrong : ChangeSpec := { name := "topFiles", fn := fun _ => fun
  | [d1, d2, d3] => { results := [.lit (.bool false)], args := [d1, d2, d3] }
  | _ => none }
def TopFilesWrongFalsely : Prop := topFilesRow.holds Try.pinned (OpenSpec.ofChange topFilesWrong)

/-- 'hammerpondlaw.OverlaySays': WHATEVER THE INPUT: true; the input reads as it did. -/
def overlaySaysSpec : ChangeSpec := { name := "overlaySays", fn := fun _ => fun
  | [d1, d2, d3, d4] => { results := [.lit (.bool true)], args := [d1, d2, d3, d4] }
  | _ => none }
def overlaySaysRow : OpenClaim := { program := "ytgdabmfdfgdlkaa", sum := "271fcb562ad00cc3de57ddc1c7c088ca5c78b19ebfa8ab6fe5079983b5128e9e", func := "hammerpond/hammerpondlaw.OverlaySays", spec := "overlaySays", inPlace := ["internal/bytealg.abigen_runtime_cmpstring", "slices.overlaps[hammerpond/api.File]"], unfollowed := true, recurses := true, apart := false }
def OverlaySaysSaid : Prop := overlaySaysRow.holds Try.pinned (OpenSpec.ofChange overlaySaysSpec)

/-- ITS FALSE NEIGHBOUR: 'it returns false'. Refute it at one input. -/
def overlaySaysWrong : ChangeSpec := { name := "overlaySays", fn := fun _ => fun
  | [d1, d2, d3, d4] => { results := [.lit (.bool false)], args := [d1, d2, d3, d4] }
  | _ => none }
def OverlaySaysWrongFalsely : Prop := overlaySaysRow.holds Try.pinned (OpenSpec.ofChange overlaySaysWrong)

/-- 'hammerpondlaw.RowSays': WHATEVER THE INPUT: true; the input reads as it did. -/
def rowSaysSpec : ChangeSpec := { name := "rowSays", fn := fun _ => fun
  | [d1, d2, d3, d4] => { results := [.lit (.bool true)], args := [d1, d2, d3, d4] }
  | _ => none }
def rowSaysRow : OpenClaim := { program := "ytgdabmfdfgdlkaa", sum := "271fcb562ad00cc3de57ddc1c7c088ca5c78b19ebfa8ab6fe5079983b5128e9e", func := "hammerpond/hammerpondlaw.RowSays", spec := "rowSays", inPlace := ["internal/bytealg.IndexByteString", "internal/bytealg.IndexString", "internal/bytealg.abigen_runtime_cmpstring", "slices.overlaps[hammerpond/api.Change]"], unfollowed := true, recurses := true, named := ["internal/bytealg.MaxLen"], apart := false }
def RowSaysSaid : Prop := rowSaysRow.holds Try.pinned (OpenSpec.ofChange rowSaysSpec)

/-- ITS FALSE NEIGHBOUR: 'it returns false'. Refute it at one input. -/
def rowSaysWrong : ChangeSpec := { name := "rowSays", fn := fun _ => fun
  | [d1, d2, d3, d4] => { results := [.lit (.bool false)], args := [d1, d2, d3, d4] }
  | _ => none }
def RowSaysWrongFalsely : Prop := rowSaysRow.holds Try.pinned (OpenSpec.ofChange rowSaysWrong)

/-- 'hammerpondtop.TopRow': WHATEVER THE INPUT: true; the input reads as it did. -/
def topRowSpec : ChangeSpec := { name := "topRow", fn := fun _ => fun
  | [d1, d2, d3] => { results := [.lit (.bool true)], args := [d1, d2, d3] }
  | _ => none }
def topRowRow : OpenClaim := { program := "ytgdabmfdfgdlkaa", sum := "271fcb562ad00cc3de57ddc1c7c088ca5c78b19ebfa8ab6fe5079983b5128e9e", func := "hammerpond/hammerpondtop.TopRow", spec := "topRow", inPlace := ["internal/bytealg.IndexByteString", "internal/bytealg.IndexString", "internal/bytealg.abigen_runtime_cmpstring", "slices.overlaps[hammerpond/api.Change]"], unfollowed := true, recurses := true, named := ["internal/bytealg.MaxLen"], apart := false }
def TopRowSaid : Prop := topRowRow.holds Try.pinned (OpenSpec.ofChange topRowSpec)

/-- ITS FALSE NEIGHBOUR: 'it returns false'. Refute it at one input. -/
def topRowWrong : ChangeSpec := { name := "topRow", fn := fun _ => fun
  | [d1, d2, d3] => { results := [.lit (.bool false)], args := [d1, d2, d3] }
  | _ => none }
def TopRowWrongFalsely : Prop := topRowRow.holds Try.pinned (OpenSpec.ofChange topRowWrong)

/- THE SECOND FORM. 'bulk': how many values and letters a reading holds, each counted each time it is reached (what is shared counts as often as it is met; a slice's spare places count too). A statement '..UptoSaid' is the law's where the arguments, and the package variables that the reading takes, are together of bulk at most 1048576: NARROWER than '..Said'. Prove '..Said' where nothing that the law and all that it calls make is longer than what came in: it says more and counts as full. Else prove '..UptoSaid'. A law counts once. -/
mutual
def uptoBulk {H : Type} : DataW H → Nat
  | .lit (.string bytes) => bytes.length + 1
  | .lit _ => 1
  | .nil => 1
  | .ptr d => uptoBulk d + 1
  | .slice elems spare => uptoBulkAll elems + uptoBulkAll spare + 1
  | .agg parts => uptoBulkAll parts + 1
  | .iface _ d => uptoBulk d + 1
  | .map entries => uptoBulkEntries entries + 1
  | .held _ => 1
def uptoBulkAll {H : Type} : List (DataW H) → Nat
  | [] => 0
  | d :: r => uptoBulk d + uptoBulkAll r
def uptoBulkEntries {H : Type} : List (Lit × DataW H) → Nat
  | [] => 0
  | x :: r => uptoBulkEntry x + uptoBulkEntries r
def uptoBulkEntry {H : Type} : Lit × DataW H → Nat
  | (.string bytes, d) => bytes.length + uptoBulk d + 1
  | (_, d) => uptoBulk d + 1
 end
def uptoSmall : (H : Type) → List (DataW H) → Bool := fun _ ds => decide (uptoBulkAll ds ≤ 1048576)
def OpenSpec.upto (s : _root_.Go.ChangeSpec) : _root_.Go.OpenSpec := { _root_.Go.OpenSpec.ofChange s with cond := some uptoSmall }

/-- 'hammerpondlaw.FilesSays', WHERE WHAT IT READS IS OF BULK AT MOST 1048576: true; the input reads as it did. -/
def filesSaysUptoRow : OpenClaim := { program := "ytgdabmfdfgdlkaa", sum := "271fcb562ad00cc3de57ddc1c7c088ca5c78b19ebfa8ab6fe5079983b5128e9e", func := "hammerpond/hammerpondlaw.FilesSays", spec := "filesSays", inPlace := ["internal/bytealg.abigen_runtime_cmpstring", "slices.overlaps[hammerpond/api.File]"], unfollowed := true, recurses := true, apart := false, narrowed := true }
def FilesSaysUptoSaid : Prop := filesSaysUptoRow.holds Try.pinned (OpenSpec.upto filesSaysSpec)

/-- 'hammerpondtop.TopFiles', WHERE WHAT IT READS IS OF BULK AT MOST 1048576: true; the input reads as it did. -/
def topFilesUptoRow : OpenClaim := { program := "ytgdabmfdfgdlkaa", sum := "271fcb562ad00cc3de57ddc1c7c088ca5c78b19ebfa8ab6fe5079983b5128e9e", func := "hammerpond/hammerpondtop.TopFiles", spec := "topFiles", inPlace := ["internal/bytealg.abigen_runtime_cmpstring", "slices.overlaps[hammerpond/api.File]"], unfollowed := true, recurses := true, apart := false, narrowed := true }
def TopFilesUptoSaid : Prop := topFilesUptoRow.holds Try.pinned (OpenSpec.upto topFilesSpec)

/-- 'hammerpondlaw.OverlaySays', WHERE WHAT IT READS IS OF BULK AT MOST 1048576: true; the input reads as it did. -/
def overlaySaysUptoRow : OpenClaim := { program := "ytgdabmfdfgdlkaa", sum := "271fcb562ad00cc3de57ddc1c7c088ca5c78b19ebfa8ab6fe5079983b5128e9e", func := "hammerpond/hammerpondlaw.OverlaySays", spec := "overlaySays", inPlace := ["internal/bytealg.abigen_runtime_cmpstring", "slices.overlaps[hammerpond/api.File]"], unfollowed := true, recurses := true, apart := false, narrowed := true }
def OverlaySaysUptoSaid : Prop := overlaySaysUptoRow.holds Try.pinned (OpenSpec.upto overlaySaysSpec)

/-- 'hammerpondlaw.RowSays', WHERE WHAT IT READS IS OF BULK AT MOST 1048576: true; the input reads as it did. -/
def rowSaysUptoRow : OpenClaim := { program := "ytgdabmfdfgdlkaa", sum := "271fcb562ad00cc3de57ddc1c7c088ca5c78b19ebfa8ab6fe5079983b5128e9e", func := "hammerpond/hammerpondlaw.RowSays", spec := "rowSays", inPlace := ["internal/bytealg.IndexByteString", "internal/bytealg.IndexString", "internal/bytealg.abigen_runtime_cmpstring", "slices.overlaps[hammerpond/api.Change]"], unfollowed := true, recurses := true, named := ["internal/bytealg.MaxLen"], apart := false, narrowed := true }
def RowSaysUptoSaid : Prop := rowSaysUptoRow.holds Try.pinned (OpenSpec.upto rowSaysSpec)

/-- 'hammerpondtop.TopRow', WHERE WHAT IT READS IS OF BULK AT MOST 1048576: true; the input reads as it did. -/
def topRowUptoRow : OpenClaim := { program := "ytgdabmfdfgdlkaa", sum := "271fcb562ad00cc3de57ddc1c7c088ca5c78b19ebfa8ab6fe5079983b5128e9e", func := "hammerpond/hammerpondtop.TopRow", spec := "topRow", inPlace := ["internal/bytealg.IndexByteString", "internal/bytealg.IndexString", "internal/bytealg.abigen_runtime_cmpstring", "slices.overlaps[hammerpond/api.Change]"], unfollowed := true, recurses := true, named := ["internal/bytealg.MaxLen"], apart := false, narrowed := true }
def TopRowUptoSaid : Prop := topRowUptoRow.holds Try.pinned (OpenSpec.upto topRowSpec)

end Rows
end Go.Proofs.Ytgdabmfdfgdlkaa
