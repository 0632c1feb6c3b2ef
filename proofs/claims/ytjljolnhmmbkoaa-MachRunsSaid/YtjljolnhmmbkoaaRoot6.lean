/- What is proved: some of the roots, as they are reckoned. Conditions: as each theorem says. -/
import Derived.Test.YtjljolnhmmbkoaaWL
import Derived.KernelRfl
import Derived.Test.YtjljolnhmmbkoaaProg
namespace Go.Proofs.Ytjljolnhmmbkoaa
open Go.Eng
set_option autoImplicit false
set_option maxRecDepth 100000
set_option maxHeartbeats 0
noncomputable def root6 : List Known := [⟨[.int .u64 97, .int .i64 3], .int .u32 2554220882, [], []⟩, ⟨[.int .u64 101, .int .i64 3], .int .u32 2821834349, [], []⟩, ⟨[.int .u64 103, .int .i64 3], .int .u32 2952996808, [], []⟩, ⟨[.int .u64 107, .int .i64 3], .int .u32 3210313671, [], []⟩]
theorem root6_ok : @KnownAll ⟨6, 1000000⟩ Try.prog (@noNats ⟨6, 1000000⟩) 200 67 root6 := @KnownAll.of ⟨6, 1000000⟩ noEnv _ _ _ _ _ (by kernel_rfl)
end Go.Proofs.Ytjljolnhmmbkoaa
