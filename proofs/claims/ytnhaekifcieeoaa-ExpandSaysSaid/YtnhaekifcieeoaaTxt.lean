/- Parts of texts, as the walk has them. -/
import Derived.Test.YtnhaekifcieeoaaOrd
namespace Go.Proofs.Ytnhaekifcieeoaa
open Go Go.RowKit
theorem S_extract (l : Str) (i j : Nat) : (⟨l.toArray⟩ : ByteArray).extract i j = ⟨((l.take j).drop i).toArray⟩ := by
  apply ByteArray.ext
  rw [ByteArray.data_extract]
  simp
  rw [List.drop_take]
theorem eql_lit (l : Str) (k : List UInt8) : ((⟨l.toArray⟩ : ByteArray).toList == k) = (l == k) := by rw [toList_S]
attribute [go_sem] S_extract eql_lit List.take_succ_cons List.drop_succ_cons List.drop_zero List.take_zero List.take_length
end Go.Proofs.Ytnhaekifcieeoaa
