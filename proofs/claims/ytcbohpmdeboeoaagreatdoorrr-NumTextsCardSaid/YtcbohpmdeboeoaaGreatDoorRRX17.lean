-- Printed by xprint.py, this session's own program (wip/tool), out of the translation. Lean checks it.
import Derived.Test.YtcbohpmdeboeoaaGreatDoorRRZ
import Derived.Test.YtcbohpmdeboeoaaGreatDoorRRX0
import Derived.Test.YtcbohpmdeboeoaaGreatDoorRRX1
import Derived.Test.YtcbohpmdeboeoaaGreatDoorRRX2
import Derived.Test.YtcbohpmdeboeoaaGreatDoorRRX3
import Derived.Test.YtcbohpmdeboeoaaGreatDoorRRX4
import Derived.Test.YtcbohpmdeboeoaaGreatDoorRRX5
import Derived.Test.YtcbohpmdeboeoaaGreatDoorRRX10
namespace Go.Proofs.YtcbohpmdeboeoaaGreatDoorRR.X
open Go.Proofs.YtcbohpmdeboeoaaGreatDoorRR.Z
open Go.RowKit Go.Proofs.YtcbohpmdeboeoaaGreatDoorRRW.PrintWords Go.Proofs.YtcbohpmdeboeoaaGreatDoorRRW.PrintLast Go.Proofs.YtcbohpmdeboeoaaGreatDoorRRW.PrintMore
open List renaming setIfInBounds_toArray → sA, set_cons_zero → sZ, set_cons_succ → sS
open Aside0 renaming mk → am
open Bool renaming true → tt, false → ff
set_option maxHeartbeats 8000000
set_option maxRecDepth 100000
attribute [local go_sem] max2_int min2_int max_two min_two max_three min_three max_four min_four   -- for this text's walks alone
set_option linter.unusedVariables false
set_option linter.unusedSimpArgs false

/-! ### whetstonelaw02_great: function 12 -/
/-! ### num_together_at_num_number_plus: function 164 -/
/-! ### num_Add: function 14 -/
/-! ### nat_folded_at_nat_number_times: function 166 -/
/-! ### nat_Mul: function 69 -/
end Go.Proofs.YtcbohpmdeboeoaaGreatDoorRR.X
