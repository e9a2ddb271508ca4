/- The library's variable that strings.Index reads. -/
import Derived.Test.YtnhaekifcieeoaaProg
import Derived.Test.YtnhaekifcieeoaaBase
namespace Go.Proofs.Ytnhaekifcieeoaa
open Go Go.RowKit
/-- The library's variable internal/bytealg.MaxLen holds some number. -/
def Ml (w : World) : Prop := ∃ m, w.cell? ⟨0, 0, none⟩ = some (.int .i64 m)
theorem Ml.only {w v : World} {F : Nat → Prop} (h : Ml w) (hx : Only F w v) (hF : ¬ F 0) : Ml v := by
  obtain ⟨m, hm⟩ := h
  exact ⟨m, (hx.cell (World.block_lt_of_cell? _ _ hm) hF).trans hm⟩
theorem Ml.ext {w v : World} (h : Ml w) (hx : Ext w v) : Ml v := h.only hx id
end Go.Proofs.Ytnhaekifcieeoaa
