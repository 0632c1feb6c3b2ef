/- What is proved: the program of a row of 2 delays, as it is made. Conditions: none. -/
import Derived.Test.YtgccjneplchojaaGreatDoorWL
import Derived.KernelRfl
import Derived.Test.YtgccjneplchojaaGreatDoorProg
namespace Go.Proofs.YtgccjneplchojaaGreatDoor
open Go.Eng
set_option autoImplicit false
set_option maxRecDepth 100000
set_option maxHeartbeats 0
noncomputable def made2 : Known := ⟨[.str 59 5163360631488984801549928754907060750338945951999518716134493492627885735632208932442716698174057632879398919907751779684560252795827119222638], .tup [.agg [.slice 0 0 1 (.un 1), .slice 1 0 1 (.un 1), .slice 2 0 11 (.un 1), .slice 3 0 4 (.un 1), .slice 4 0 2 (.un 1), .slice 5 0 22 (.un 4)], .bool true, .int .i64 0], [[.int .i64 2], [.int .i64 2], [.int .i64 2, .int .i64 2, .int .i64 2, .int .i64 2, .int .i64 1, .int .i64 2, .int .i64 2, .int .i64 2, .int .i64 1, .int .i64 2, .int .i64 1], [.int .i64 2, .int .i64 1, .int .i64 2, .int .i64 1], [.int .i64 5, .int .i64 1], [.int .i64 2, .int .i64 3, .int .i64 0, .int .i64 0, .int .i64 2, .int .i64 4, .int .i64 1, .int .i64 0, .int .i64 2, .int .i64 7, .int .i64 2, .int .i64 0, .int .i64 2, .int .i64 8, .int .i64 3, .int .i64 0, .int .i64 4, .int .i64 0, .int .i64 0, .int .i64 0, .int .i64 0, .int .i64 2, .int .i64 0, .int .i64 0, .int .i64 19, .int .i64 9, .int .i64 4, .int .i64 0, .int .i64 1, .int .i64 5, .int .i64 3, .int .i64 0, .int .i64 20, .int .i64 10, .int .i64 0, .int .i64 0, .int .i64 1, .int .i64 5, .int .i64 2, .int .i64 0, .int .i64 1, .int .i64 1, .int .i64 5, .int .i64 0, .int .i64 0, .int .i64 6, .int .i64 0, .int .i64 0, .int .i64 19, .int .i64 15, .int .i64 8, .int .i64 0, .int .i64 1, .int .i64 9, .int .i64 7, .int .i64 0, .int .i64 20, .int .i64 16, .int .i64 0, .int .i64 0, .int .i64 1, .int .i64 9, .int .i64 6, .int .i64 0, .int .i64 3, .int .i64 0, .int .i64 9, .int .i64 0, .int .i64 3, .int .i64 2, .int .i64 0, .int .i64 0, .int .i64 0, .int .i64 10, .int .i64 1, .int .i64 0, .int .i64 3, .int .i64 1, .int .i64 10, .int .i64 0, .int .i64 3, .int .i64 3, .int .i64 10, .int .i64 0, .int .i64 5, .int .i64 0, .int .i64 1, .int .i64 0]], [977, 1510, 1443, 1328, 1441, 1557]⟩
theorem made2_ok : @KnownAll ⟨6, 1000000⟩ Tryz.prog (@noNats ⟨6, 1000000⟩) 400 23 [made2] := @KnownAll.of ⟨6, 1000000⟩ noEnv _ _ _ _ _ (by kernel_rfl)
end Go.Proofs.YtgccjneplchojaaGreatDoor
