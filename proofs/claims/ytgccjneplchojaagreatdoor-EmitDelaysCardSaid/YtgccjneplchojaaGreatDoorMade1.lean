/- What is proved: the program of a row of 1 delays, as it is made. Conditions: none. -/
import Derived.Test.YtgccjneplchojaaGreatDoorWL
import Derived.KernelRfl
import Derived.Test.YtgccjneplchojaaGreatDoorProg
namespace Go.Proofs.YtgccjneplchojaaGreatDoor
open Go.Eng
set_option autoImplicit false
set_option maxRecDepth 100000
set_option maxHeartbeats 0
noncomputable def made1 : Known := ⟨[.str 53 18343941944070908794905707690172815322360342446555085707408176187746155617901632464134137845852839927213167668759151964743561070], .tup [.agg [.slice 0 0 1 (.un 1), .slice 1 0 1 (.un 1), .slice 2 0 7 (.un 1), .slice 3 0 2 (.un 1), .slice 4 0 2 (.un 1), .slice 5 0 13 (.un 4)], .bool true, .int .i64 0], [[.int .i64 2], [.int .i64 2], [.int .i64 2, .int .i64 2, .int .i64 2, .int .i64 2, .int .i64 1, .int .i64 2, .int .i64 1], [.int .i64 2, .int .i64 1], [.int .i64 5, .int .i64 1], [.int .i64 2, .int .i64 3, .int .i64 0, .int .i64 0, .int .i64 2, .int .i64 4, .int .i64 1, .int .i64 0, .int .i64 4, .int .i64 0, .int .i64 0, .int .i64 0, .int .i64 0, .int .i64 2, .int .i64 0, .int .i64 0, .int .i64 19, .int .i64 7, .int .i64 4, .int .i64 0, .int .i64 1, .int .i64 5, .int .i64 3, .int .i64 0, .int .i64 20, .int .i64 8, .int .i64 0, .int .i64 0, .int .i64 1, .int .i64 5, .int .i64 2, .int .i64 0, .int .i64 1, .int .i64 1, .int .i64 5, .int .i64 0, .int .i64 3, .int .i64 0, .int .i64 0, .int .i64 0, .int .i64 0, .int .i64 6, .int .i64 1, .int .i64 0, .int .i64 3, .int .i64 1, .int .i64 6, .int .i64 0, .int .i64 5, .int .i64 0, .int .i64 1, .int .i64 0]], [801, 1151, 1101, 989, 1099, 1191]⟩
theorem made1_ok : @KnownAll ⟨6, 1000000⟩ Tryz.prog (@noNats ⟨6, 1000000⟩) 400 23 [made1] := @KnownAll.of ⟨6, 1000000⟩ noEnv _ _ _ _ _ (by kernel_rfl)
end Go.Proofs.YtgccjneplchojaaGreatDoor
