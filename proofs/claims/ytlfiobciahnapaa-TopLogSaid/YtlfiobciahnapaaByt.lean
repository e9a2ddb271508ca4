/- Texts made of one, two or four bytes. -/
import Derived.Test.YtlfiobciahnapaaTxt
import Derived.Test.YtlfiobciahnapaaOwn
import Derived.Test.YtlfiobciahnapaaProg
import Derived.Laws.BytesArg
namespace Go.Proofs.Ytlfiobciahnapaa
open Go Go.RowKit
def bt (z : Int) : UInt8 := UInt8.ofNat z.toNat
@[go_sem] theorem str_new1 (a : Int) (w : World) : (convert 86 9 (.slice (some ⟨w.heap.size, 0, none⟩) 1 1)).run Try.prog (w.alloc (.cells #[.int .u8 a] 5)) = .ok (S [bt a]) (w.alloc (.cells #[.int .u8 a] 5)) := by
  rw [run_convert_bytes_arg _ 86 5 Try.underlying86 Try.underlying5 w.heap.size 0 1 1 [a] rfl (fun i hi => ?_) 9 Try.underlying9]
  · rfl
  · rw [(Cs.new w 5 #[.int .u8 a]).cell]
    match i, hi with
    | 0, _ => rfl
@[go_sem] theorem str_new2 (a b : Int) (w : World) : (convert 86 9 (.slice (some ⟨w.heap.size, 0, none⟩) 2 2)).run Try.prog (w.alloc (.cells #[.int .u8 a, .int .u8 b] 5)) = .ok (S [bt a, bt b]) (w.alloc (.cells #[.int .u8 a, .int .u8 b] 5)) := by
  rw [run_convert_bytes_arg _ 86 5 Try.underlying86 Try.underlying5 w.heap.size 0 2 2 [a, b] rfl (fun i hi => ?_) 9 Try.underlying9]
  · rfl
  · rw [(Cs.new w 5 #[.int .u8 a, .int .u8 b]).cell]
    match i, hi with
    | 0, _ => rfl
    | 1, _ => rfl
@[go_sem] theorem str_new4 (a b c d : Int) (w : World) : (convert 86 9 (.slice (some ⟨w.heap.size, 0, none⟩) 4 4)).run Try.prog (w.alloc (.cells #[.int .u8 a, .int .u8 b, .int .u8 c, .int .u8 d] 5)) = .ok (S [bt a, bt b, bt c, bt d]) (w.alloc (.cells #[.int .u8 a, .int .u8 b, .int .u8 c, .int .u8 d] 5)) := by
  rw [run_convert_bytes_arg _ 86 5 Try.underlying86 Try.underlying5 w.heap.size 0 4 4 [a, b, c, d] rfl (fun i hi => ?_) 9 Try.underlying9]
  · rfl
  · rw [(Cs.new w 5 #[.int .u8 a, .int .u8 b, .int .u8 c, .int .u8 d]).cell]
    match i, hi with
    | 0, _ => rfl
    | 1, _ => rfl
    | 2, _ => rfl
    | 3, _ => rfl
theorem str_cs1 {w : World} {g : Nat} {a : Int} (h : Cs w g 5 #[.int .u8 a]) : (convert 86 9 (.slice (some ⟨g, 0, none⟩) 1 1)).run Try.prog w = .ok (S [bt a]) w := by
  rw [run_convert_bytes_arg _ 86 5 Try.underlying86 Try.underlying5 g 0 1 1 [a] rfl (fun i hi => ?_) 9 Try.underlying9]
  · rfl
  · rw [h.cell]
    match i, hi with
    | 0, _ => rfl
theorem str_cs2 {w : World} {g : Nat} {a b : Int} (h : Cs w g 5 #[.int .u8 a, .int .u8 b]) : (convert 86 9 (.slice (some ⟨g, 0, none⟩) 2 2)).run Try.prog w = .ok (S [bt a, bt b]) w := by
  rw [run_convert_bytes_arg _ 86 5 Try.underlying86 Try.underlying5 g 0 2 2 [a, b] rfl (fun i hi => ?_) 9 Try.underlying9]
  · rfl
  · rw [h.cell]
    match i, hi with
    | 0, _ => rfl
    | 1, _ => rfl
end Go.Proofs.Ytlfiobciahnapaa
