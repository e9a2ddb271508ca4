/- Sectors: a text with noughts behind it. -/
import Derived.Test.YtlfiobciahnapaaDisk1
import Derived.Laws.MakeOwn
import Derived.Laws.BytesArg
namespace Go.Proofs.Ytlfiobciahnapaa
open Go Go.RowKit
def zeros (n : Nat) : Str := List.replicate n 0
theorem length_zeros (n : Nat) : (zeros n).length = n := List.length_replicate
theorem byte_info : (Try.prog.info? 5).map (fun i => (i.zero, i.size, i.bytes)) = some (some (.int .u8 0), 1, 1) := by kernel_rfl
theorem strOf_zeros (n : Nat) : strOfNums (List.replicate n 0) = ⟨(zeros n).toArray⟩ := by
  unfold strOfNums zeros
  simp
theorem make_bytes (n : Nat) (hn : n ≤ 1000000) (w : World) : (Instr.makeSlice 86 (.int .i64 (n : Int)) (.int .i64 (n : Int))).run Try.prog w =
    .ok (.slice (some ⟨w.heap.size, 0, none⟩) n n) (w.alloc (.cells (madeCells #[.int .u8 0] n) 5)) := by
  obtain ⟨i0, hi, hz, h1, h2⟩ := info_parts byte_info
  have hb : (i0.bytes : Int) * (n : Int) ≤ 281474976710656 := by rw [h2]; omega
  have hr := run_make (P := Try.prog) w 86 5 i0 (.int .u8 0) Try.underlying86 hi hz .i64 .i64 n n (by omega) (by omega) hb (by omega)
  simp only [Int.toNat_natCast] at hr
  rw [hr, h1]
  simp [Value.cells]
theorem cell_made (n i : Nat) (hi : i < n) : (madeCells #[.int .u8 0] n)[i]? = some (.int .u8 0) := by
  unfold madeCells
  rw [Array.getElem?_map, Array.getElem?_range]
  simp [hi, Nat.mod_one]
theorem str_bytes (n : Nat) (w : World) : (convert 86 9 (.slice (some ⟨w.heap.size, 0, none⟩) n n)).run Try.prog (w.alloc (.cells (madeCells #[.int .u8 0] n) 5)) =
    .ok (S (zeros n)) (w.alloc (.cells (madeCells #[.int .u8 0] n) 5)) := by
  rw [run_convert_bytes_arg _ 86 5 Try.underlying86 Try.underlying5 w.heap.size 0 n n (List.replicate n 0) (by simp) (fun i hi => ?_) 9 Try.underlying9, strOf_zeros]
  rw [(Cs.new w 5 (madeCells #[.int .u8 0] n)).cell, Nat.zero_add, cell_made n i hi]
  simp [List.getD, hi]
def full (s : Str) : Str := s ++ zeros (340 - s.length)
theorem length_full (s : Str) (h : s.length ≤ 340) : (full s).length = 340 := by
  unfold full; rw [List.length_append, length_zeros]; omega
theorem full_c (s : Str) (hs : s.length ≤ 340) (w : World) :
    Calls Try.prog 25 #[S s] w fun e w' => e = .returned (S (full s)) ∧ Ext w w' := by
  have h1 := make_bytes (340 - s.length) (by omega)
  have h2 := str_bytes (340 - s.length)
  have e : ((340 - s.length : Nat) : Int) = 340 - (s.length : Int) := by omega
  rw [e] at h1
  clear e
  have hz : (zeros (340 - s.length)).length ≤ 340 := by rw [length_zeros]; omega
  go_enter Try.func25, Try.ntmps25
  go_wp2
  go_ret
  exact ⟨rfl, (Only.refl _ _).alloc _⟩
end Go.Proofs.Ytlfiobciahnapaa
