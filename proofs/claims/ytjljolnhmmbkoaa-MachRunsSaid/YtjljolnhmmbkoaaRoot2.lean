/- What is proved: some of the roots, as they are reckoned. Conditions: as each theorem says. -/
import Derived.Test.YtjljolnhmmbkoaaWL
import Derived.KernelRfl
import Derived.Test.YtjljolnhmmbkoaaProg
namespace Go.Proofs.Ytjljolnhmmbkoaa
open Go.Eng
set_option autoImplicit false
set_option maxRecDepth 100000
set_option maxHeartbeats 0
noncomputable def root2 : List Known := [⟨[.int .u64 23, .int .i64 3], .int .u32 3624381080, [], []⟩, ⟨[.int .u64 29, .int .i64 3], .int .u32 310598401, [], []⟩, ⟨[.int .u64 31, .int .i64 3], .int .u32 607225278, [], []⟩, ⟨[.int .u64 37, .int .i64 3], .int .u32 1426881987, [], []⟩]
theorem root2_ok : @KnownAll ⟨6, 1000000⟩ Try.prog (@noNats ⟨6, 1000000⟩) 200 67 root2 := @KnownAll.of ⟨6, 1000000⟩ noEnv _ _ _ _ _ (by kernel_rfl)
end Go.Proofs.Ytjljolnhmmbkoaa
