/- Lemmas for it. -/
import Derived.Test.YtpgmcijdcnnjpaaGreatDoorPkS
import Derived.Test.YtpgmcijdcnnjpaaGreatDoorRows
import Derived.SevenTiedAt
set_option linter.all false
set_option maxHeartbeats 4000000
namespace Go.Proofs.YtpgmcijdcnnjpaaGreatDoor
open Go
theorem mK{a b:Bool}(h:a=true)(k:b=true):(a&&b)=true:=by rw[h,k];rfl
theorem zJ:joinedFacts Tryz.prog 7 Tryz.f7 Rows.topGoalSpec Rows.topGoalRow=true:=by
 unfold joinedFacts
 repeat' with_reducible refine mK ?_ ?_
 all_goals (as_aux_lemma=>kernel_rfl)
theorem uo:Tryz.prog.funcNamed "hammerpond/hammerpondtop.TopGoal" = some 7:=by kernel_rfl
theorem Je:Rows.topGoalRow.wfByText (OpenSpec.ofChange Rows.topGoalSpec)=true:=by kernel_rfl
theorem Eg:Tryz.prog.mainIs=some (true, "ffd68a14712d974b97a37936cf1983d5470571ba7685bd8d6514d25c40d93b73".toList):=by kernel_rfl
theorem AW:true=Tryz.prog.looks []:=by kernel_rfl
theorem Ep:false=Rows.topGoalRow.goesBy Tryz.prog:=by kernel_rfl
end Go.Proofs.YtpgmcijdcnnjpaaGreatDoor
