/- What is proved: the program of a row of 0 delays, as it is made. Conditions: none. -/
import Derived.Test.YtgccjneplchojaaGreatDoorWL
import Derived.KernelRfl
import Derived.Test.YtgccjneplchojaaGreatDoorProg
namespace Go.Proofs.YtgccjneplchojaaGreatDoor
open Go.Eng
set_option autoImplicit false
set_option maxRecDepth 100000
set_option maxHeartbeats 0
noncomputable def made0 : Known := ⟨[.str 47 65170773467822970749055677707844008456554539291494134926012066124019069167995724840325113585708627306890681151342], .tup [.agg [.slice 0 0 1 (.un 1), .slice 1 0 1 (.un 1), .slice 2 0 2 (.un 1), .nilslice, .nilslice, .slice 3 0 3 (.un 4)], .bool true, .int .i64 0], [[.int .i64 2], [.int .i64 2], [.int .i64 2, .int .i64 2], [.int .i64 4, .int .i64 0, .int .i64 0, .int .i64 0, .int .i64 1, .int .i64 1, .int .i64 0, .int .i64 0, .int .i64 5, .int .i64 0, .int .i64 1, .int .i64 0]], [626, 768, 672, 798]⟩
theorem made0_ok : @KnownAll ⟨6, 1000000⟩ Tryz.prog (@noNats ⟨6, 1000000⟩) 400 23 [made0] := @KnownAll.of ⟨6, 1000000⟩ noEnv _ _ _ _ _ (by kernel_rfl)
end Go.Proofs.YtgccjneplchojaaGreatDoor
