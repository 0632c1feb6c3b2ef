/- What is proved: some of the roots, as they are reckoned. Conditions: as each theorem says. -/
import Derived.Test.YtjljolnhmmbkoaaWL
import Derived.KernelRfl
import Derived.Test.YtjljolnhmmbkoaaProg
namespace Go.Proofs.Ytjljolnhmmbkoaa
open Go.Eng
set_option autoImplicit false
set_option maxRecDepth 100000
set_option maxHeartbeats 0
noncomputable def root14 : List Known := [⟨[.int .u64 269, .int .i64 3], .int .u32 1955562222, [], []⟩, ⟨[.int .u64 271, .int .i64 3], .int .u32 2024104815, [], []⟩, ⟨[.int .u64 277, .int .i64 3], .int .u32 2227730452, [], []⟩, ⟨[.int .u64 281, .int .i64 3], .int .u32 2361852424, [], []⟩]
theorem root14_ok : @KnownAll ⟨6, 1000000⟩ Try.prog (@noNats ⟨6, 1000000⟩) 200 67 root14 := @KnownAll.of ⟨6, 1000000⟩ noEnv _ _ _ _ _ (by kernel_rfl)
end Go.Proofs.Ytjljolnhmmbkoaa
