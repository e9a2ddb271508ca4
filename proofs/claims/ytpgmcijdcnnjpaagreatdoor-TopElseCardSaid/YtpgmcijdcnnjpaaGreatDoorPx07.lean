/- Lemmas for it. -/
import Derived.Test.YtpgmcijdcnnjpaaGreatDoorPkS
import Derived.Test.YtpgmcijdcnnjpaaGreatDoorRows
import Derived.SevenTiedAt
set_option linter.all false
set_option maxHeartbeats 4000000
namespace Go.Proofs.YtpgmcijdcnnjpaaGreatDoor
open Go
theorem mK{a b:Bool}(h:a=true)(k:b=true):(a&&b)=true:=by rw[h,k];rfl
theorem yX:joinedFacts Tryz.prog 6 Tryz.f6 Rows.topElseSpec Rows.topElseRow=true:=by
 unfold joinedFacts
 repeat' with_reducible refine mK ?_ ?_
 all_goals (as_aux_lemma=>kernel_rfl)
theorem uf:Tryz.prog.funcNamed "hammerpond/hammerpondtop.TopElse" = some 6:=by kernel_rfl
theorem Iy:Rows.topElseRow.wfByText (OpenSpec.ofChange Rows.topElseSpec)=true:=by kernel_rfl
theorem Ea:Tryz.prog.mainIs=some (true, "ffd68a14712d974b97a37936cf1983d5470571ba7685bd8d6514d25c40d93b73".toList):=by kernel_rfl
theorem Bh:true=Tryz.prog.looks []:=by kernel_rfl
theorem Dg:false=Rows.topElseRow.goesBy Tryz.prog:=by kernel_rfl
end Go.Proofs.YtpgmcijdcnnjpaaGreatDoor
