/- What the record layer takes of the world: the library's variables that it reads; numbers as texts. -/
import Derived.Test.YtfbpiafhgkhoiaaDoorCut
import Derived.Test.YtfbpiafhgkhoiaaDoorMem
import Derived.Lib.SmallJoins
import Derived.Lib.AppendIntMem
namespace Go.Proofs.YtfbpiafhgkhoiaaDoor
open Go Go.RowKit
abbrev tabName : String := "internal/strconv.uint64pow10"
/-- An interface value, or nil. -/
def IfV (v : Value) : Prop := v = .nilIface ∨ ∃ te pe, v = .iface te pe
structure Env (w : World) : Prop where
  ml : Ml w
  tb : Lib.TabIs Tryd.prog w tabName .u64 Lib.pow10Tab
  es : ∃ ev, w.cell? ⟨2, 0, none⟩ = some ev ∧ IfV ev
  er : ∃ ev, w.cell? ⟨3, 0, none⟩ = some ev ∧ IfV ev
theorem Env.ext {w v : World} (h : Env w) (hx : Ext w v) : Env v := by
  obtain ⟨h1, h2, ⟨e1, c1, i1⟩, e2, c2, i2⟩ := h
  exact ⟨h1.ext hx, Lib.tabBelow_of_tabIs h2 v hx.toBelow, ⟨e1, (hx.cell (World.block_lt_of_cell? _ _ c1) id).trans c1, i1⟩, ⟨e2, (hx.cell (World.block_lt_of_cell? _ _ c2) id).trans c2, i2⟩⟩
theorem Itoa_c (n : Int) (h0 : -9223372036854775808 ≤ n) (h1 : n ≤ 9223372036854775807) {w : World} (h : Env w) :
    Calls Tryd.prog 28 #[.int .i64 n] w fun e w' => e = .returned (S (Lib.itoa n)) ∧ Ext w w' := by
  refine (Tryd.strconv_Itoa n h0 h1 w h.tb).mono ?_
  rintro e w' ⟨rfl, k, os, rfl⟩
  exact ⟨rfl, Only.below (Lib.below_grow _ w (Nat.le_refl _) k os)⟩
def atV (s : Str) : Int := match Lib.atoiAll s with | .ok v => v | .range => Lib.atoiSat s | _ => 0
def atOk (s : Str) : Bool := match Lib.atoiAll s with | .ok _ => true | _ => false
theorem atV_bounds (s : Str) : -9223372036854775808 ≤ atV s ∧ atV s ≤ 9223372036854775807 := by
  unfold atV
  split
  · rename_i v h
    exact Lib.atoiAll_bounds h
  · exact Lib.atoiSat_bounds s
  · omega
theorem Atoi_c (s : Str) (hs : s.length ≤ 1000000) {w : World} (h : Env w) :
    Calls Tryd.prog 42 #[S s] w fun e w' => ∃ ev, e = .returned (.tuple #[.int .i64 (atV s), ev]) ∧ ((atOk s = true ∧ ev = .nilIface) ∨ (atOk s = false ∧ ∃ te pe, ev = .iface te pe)) ∧ Ext w w' := by
  have hsz : (⟨s.toArray⟩ : ByteArray).size = s.length := by simp [ByteArray.size]
  obtain ⟨_, _, ⟨e1, c1, i1⟩, e2, c2, i2⟩ := h
  unfold atV atOk
  cases ha : Lib.atoiAll s
  · rename_i v
    refine (Tryd.strconv_Atoi_ok ⟨s.toArray⟩ (by omega) v ha w).mono ?_
    rintro e w' ⟨rfl, hw⟩
    refine ⟨_, rfl, .inl ⟨rfl, rfl⟩, ?_⟩
    rcases hw with rfl | ⟨t, rfl⟩
    · exact Only.refl _ _
    · exact Only.below (Joins.below_bytesWorld _ _ _ _ (Nat.le_refl _))
  · refine (Tryd.strconv_Atoi_syntax ⟨s.toArray⟩ (by omega) ha e1 w c1 i1).mono ?_
    rintro e w' ⟨N, rfl, _, _, hx⟩
    exact ⟨_, rfl, .inr ⟨rfl, _, _, rfl⟩, Only.below hx⟩
  · refine (Tryd.strconv_Atoi_range ⟨s.toArray⟩ (by omega) ha e2 w c2 i2).mono ?_
    rintro e w' ⟨N, rfl, _, _, hx⟩
    exact ⟨_, rfl, .inr ⟨rfl, _, _, rfl⟩, Only.below hx⟩
end Go.Proofs.YtfbpiafhgkhoiaaDoor
