/- What is proved: some of the roots, as they are reckoned. Conditions: as each theorem says. -/
import Derived.Test.YtjljolnhmmbkoaaWL
import Derived.KernelRfl
import Derived.Test.YtjljolnhmmbkoaaProg
namespace Go.Proofs.Ytjljolnhmmbkoaa
open Go.Eng
set_option autoImplicit false
set_option maxRecDepth 100000
set_option maxHeartbeats 0
noncomputable def root0 : List Known := [⟨[.int .u64 2, .int .i64 3], .int .u32 1116352408, [], []⟩, ⟨[.int .u64 3, .int .i64 3], .int .u32 1899447441, [], []⟩, ⟨[.int .u64 5, .int .i64 3], .int .u32 3049323471, [], []⟩, ⟨[.int .u64 7, .int .i64 3], .int .u32 3921009573, [], []⟩]
theorem root0_ok : @KnownAll ⟨6, 1000000⟩ Try.prog (@noNats ⟨6, 1000000⟩) 200 67 root0 := @KnownAll.of ⟨6, 1000000⟩ noEnv _ _ _ _ _ (by kernel_rfl)
end Go.Proofs.Ytjljolnhmmbkoaa
