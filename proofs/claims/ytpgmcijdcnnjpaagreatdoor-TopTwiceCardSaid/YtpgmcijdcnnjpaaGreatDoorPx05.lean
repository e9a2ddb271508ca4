/- Lemmas for it. -/
import Derived.Test.YtpgmcijdcnnjpaaGreatDoorPkS
import Derived.Test.YtpgmcijdcnnjpaaGreatDoorRows
import Derived.SevenTiedAt
set_option linter.all false
set_option maxHeartbeats 4000000
namespace Go.Proofs.YtpgmcijdcnnjpaaGreatDoor
open Go
theorem mK{a b:Bool}(h:a=true)(k:b=true):(a&&b)=true:=by rw[h,k];rfl
theorem yB:joinedFacts Tryz.prog 3 Tryz.f3 Rows.topTwiceSpec Rows.topTwiceRow=true:=by
 unfold joinedFacts
 repeat' with_reducible refine mK ?_ ?_
 all_goals (as_aux_lemma=>kernel_rfl)
theorem sQ:Tryz.prog.funcNamed "hammerpond/hammerpondtop.TopTwice" = some 3:=by kernel_rfl
theorem GW:Rows.topTwiceRow.wfByText (OpenSpec.ofChange Rows.topTwiceSpec)=true:=by kernel_rfl
theorem Bd:Tryz.prog.mainIs=some (true, "ffd68a14712d974b97a37936cf1983d5470571ba7685bd8d6514d25c40d93b73".toList):=by kernel_rfl
theorem zF:true=Tryz.prog.looks []:=by kernel_rfl
theorem Bm:false=Rows.topTwiceRow.goesBy Tryz.prog:=by kernel_rfl
end Go.Proofs.YtpgmcijdcnnjpaaGreatDoor
