/- Texts made of one, two or four bytes. -/
import Derived.Test.YtfbpiafhgkhoiaaDoorTxt
import Derived.Test.YtfbpiafhgkhoiaaDoorOwn
import Derived.Test.YtfbpiafhgkhoiaaDoorProg
import Derived.Laws.BytesArg
namespace Go.Proofs.YtfbpiafhgkhoiaaDoor
open Go Go.RowKit
def bt (z : Int) : UInt8 := UInt8.ofNat z.toNat
@[go_sem] theorem str_new1 (a : Int) (w : World) : (convert 70 9 (.slice (some ⟨w.heap.size, 0, none⟩) 1 1)).run Tryd.prog (w.alloc (.cells #[.int .u8 a] 5)) = .ok (S [bt a]) (w.alloc (.cells #[.int .u8 a] 5)) := by
  rw [run_convert_bytes_arg _ 70 5 Tryd.underlying70 Tryd.underlying5 w.heap.size 0 1 1 [a] rfl (fun i hi => ?_) 9 Tryd.underlying9]
  · rfl
  · rw [(Cs.new w 5 #[.int .u8 a]).cell]
    match i, hi with
    | 0, _ => rfl
@[go_sem] theorem str_new2 (a b : Int) (w : World) : (convert 70 9 (.slice (some ⟨w.heap.size, 0, none⟩) 2 2)).run Tryd.prog (w.alloc (.cells #[.int .u8 a, .int .u8 b] 5)) = .ok (S [bt a, bt b]) (w.alloc (.cells #[.int .u8 a, .int .u8 b] 5)) := by
  rw [run_convert_bytes_arg _ 70 5 Tryd.underlying70 Tryd.underlying5 w.heap.size 0 2 2 [a, b] rfl (fun i hi => ?_) 9 Tryd.underlying9]
  · rfl
  · rw [(Cs.new w 5 #[.int .u8 a, .int .u8 b]).cell]
    match i, hi with
    | 0, _ => rfl
    | 1, _ => rfl
@[go_sem] theorem str_new4 (a b c d : Int) (w : World) : (convert 70 9 (.slice (some ⟨w.heap.size, 0, none⟩) 4 4)).run Tryd.prog (w.alloc (.cells #[.int .u8 a, .int .u8 b, .int .u8 c, .int .u8 d] 5)) = .ok (S [bt a, bt b, bt c, bt d]) (w.alloc (.cells #[.int .u8 a, .int .u8 b, .int .u8 c, .int .u8 d] 5)) := by
  rw [run_convert_bytes_arg _ 70 5 Tryd.underlying70 Tryd.underlying5 w.heap.size 0 4 4 [a, b, c, d] rfl (fun i hi => ?_) 9 Tryd.underlying9]
  · rfl
  · rw [(Cs.new w 5 #[.int .u8 a, .int .u8 b, .int .u8 c, .int .u8 d]).cell]
    match i, hi with
    | 0, _ => rfl
    | 1, _ => rfl
    | 2, _ => rfl
    | 3, _ => rfl
end Go.Proofs.YtfbpiafhgkhoiaaDoor
