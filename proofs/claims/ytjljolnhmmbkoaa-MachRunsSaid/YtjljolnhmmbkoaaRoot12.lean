/- What is proved: some of the roots, as they are reckoned. Conditions: as each theorem says. -/
import Derived.Test.YtjljolnhmmbkoaaWL
import Derived.KernelRfl
import Derived.Test.YtjljolnhmmbkoaaProg
namespace Go.Proofs.Ytjljolnhmmbkoaa
open Go.Eng
set_option autoImplicit false
set_option maxRecDepth 100000
set_option maxHeartbeats 0
noncomputable def root12 : List Known := [⟨[.int .u64 227, .int .i64 3], .int .u32 430227734, [], []⟩, ⟨[.int .u64 229, .int .i64 3], .int .u32 506948616, [], []⟩, ⟨[.int .u64 233, .int .i64 3], .int .u32 659060556, [], []⟩, ⟨[.int .u64 239, .int .i64 3], .int .u32 883997877, [], []⟩]
theorem root12_ok : @KnownAll ⟨6, 1000000⟩ Try.prog (@noNats ⟨6, 1000000⟩) 200 67 root12 := @KnownAll.of ⟨6, 1000000⟩ noEnv _ _ _ _ _ (by kernel_rfl)
end Go.Proofs.Ytjljolnhmmbkoaa
