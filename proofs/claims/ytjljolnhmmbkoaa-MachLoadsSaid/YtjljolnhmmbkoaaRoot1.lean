/- What is proved: some of the roots, as they are reckoned. Conditions: as each theorem says. -/
import Derived.Test.YtjljolnhmmbkoaaWL
import Derived.KernelRfl
import Derived.Test.YtjljolnhmmbkoaaProg
namespace Go.Proofs.Ytjljolnhmmbkoaa
open Go.Eng
set_option autoImplicit false
set_option maxRecDepth 100000
set_option maxHeartbeats 0
noncomputable def root1 : List Known := [⟨[.int .u64 11, .int .i64 3], .int .u32 961987163, [], []⟩, ⟨[.int .u64 13, .int .i64 3], .int .u32 1508970993, [], []⟩, ⟨[.int .u64 17, .int .i64 3], .int .u32 2453635748, [], []⟩, ⟨[.int .u64 19, .int .i64 3], .int .u32 2870763221, [], []⟩]
theorem root1_ok : @KnownAll ⟨6, 1000000⟩ Try.prog (@noNats ⟨6, 1000000⟩) 200 67 root1 := @KnownAll.of ⟨6, 1000000⟩ noEnv _ _ _ _ _ (by kernel_rfl)
end Go.Proofs.Ytjljolnhmmbkoaa
