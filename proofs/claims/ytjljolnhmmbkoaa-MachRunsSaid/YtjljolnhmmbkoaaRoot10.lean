/- What is proved: some of the roots, as they are reckoned. Conditions: as each theorem says. -/
import Derived.Test.YtjljolnhmmbkoaaWL
import Derived.KernelRfl
import Derived.Test.YtjljolnhmmbkoaaProg
namespace Go.Proofs.Ytjljolnhmmbkoaa
open Go.Eng
set_option autoImplicit false
set_option maxRecDepth 100000
set_option maxHeartbeats 0
noncomputable def root10 : List Known := [⟨[.int .u64 179, .int .i64 3], .int .u32 2730485921, [], []⟩, ⟨[.int .u64 181, .int .i64 3], .int .u32 2820302411, [], []⟩, ⟨[.int .u64 191, .int .i64 3], .int .u32 3259730800, [], []⟩, ⟨[.int .u64 193, .int .i64 3], .int .u32 3345764771, [], []⟩]
theorem root10_ok : @KnownAll ⟨6, 1000000⟩ Try.prog (@noNats ⟨6, 1000000⟩) 200 67 root10 := @KnownAll.of ⟨6, 1000000⟩ noEnv _ _ _ _ _ (by kernel_rfl)
end Go.Proofs.Ytjljolnhmmbkoaa
