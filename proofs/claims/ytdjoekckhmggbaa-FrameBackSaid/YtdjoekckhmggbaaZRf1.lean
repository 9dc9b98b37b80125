import Derived.Test.YtdjoekckhmggbaaZRf0
namespace Go.Proofs.Ytdjoekckhmggbaa.PRF
open Go.RowKit Go.Proofs.YtdjoekckhmggbaaW.PrintWords Go.Proofs.YtdjoekckhmggbaaW.PrintLast Go.Proofs.YtdjoekckhmggbaaW.PrintMore
attribute [local go_sem] max2_int min2_int max_two min_two max_three min_three max_four min_four
set_option linter.unusedVariables false
set_option linter.unusedSimpArgs false
def proctorref03_May.f (a0_0 : Int) (a0_1 : Int) (a0_2 : Bool) (l0_3 : List Int) : Option (Bool) := if a0_1 ≥ 0 then (if a0_1 < 1024 then (some (decide ((l0_3.length : Int) ≤ 4096))) else (some false)) else (some false)
end Go.Proofs.Ytdjoekckhmggbaa.PRF
