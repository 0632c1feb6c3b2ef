/- What is proved: some of the roots, as they are reckoned. Conditions: as each theorem says. -/
import Derived.Test.YtjljolnhmmbkoaaWL
import Derived.KernelRfl
import Derived.Test.YtjljolnhmmbkoaaProg
namespace Go.Proofs.Ytjljolnhmmbkoaa
open Go.Eng
set_option autoImplicit false
set_option maxRecDepth 100000
set_option maxHeartbeats 0
noncomputable def root8 : List Known := [⟨[.int .u64 137, .int .i64 3], .int .u32 666307205, [], []⟩, ⟨[.int .u64 139, .int .i64 3], .int .u32 773529912, [], []⟩, ⟨[.int .u64 149, .int .i64 3], .int .u32 1294757372, [], []⟩, ⟨[.int .u64 151, .int .i64 3], .int .u32 1396182291, [], []⟩]
theorem root8_ok : @KnownAll ⟨6, 1000000⟩ Try.prog (@noNats ⟨6, 1000000⟩) 200 67 root8 := @KnownAll.of ⟨6, 1000000⟩ noEnv _ _ _ _ _ (by kernel_rfl)
end Go.Proofs.Ytjljolnhmmbkoaa
