/- What is proved: some of the roots, as they are reckoned. Conditions: as each theorem says. -/
import Derived.Test.YtjljolnhmmbkoaaWL
import Derived.KernelRfl
import Derived.Test.YtjljolnhmmbkoaaProg
namespace Go.Proofs.Ytjljolnhmmbkoaa
open Go.Eng
set_option autoImplicit false
set_option maxRecDepth 100000
set_option maxHeartbeats 0
noncomputable def root5 : List Known := [⟨[.int .u64 73, .int .i64 3], .int .u32 770255983, [], []⟩, ⟨[.int .u64 79, .int .i64 3], .int .u32 1249150122, [], []⟩, ⟨[.int .u64 83, .int .i64 3], .int .u32 1555081692, [], []⟩, ⟨[.int .u64 89, .int .i64 3], .int .u32 1996064986, [], []⟩]
theorem root5_ok : @KnownAll ⟨6, 1000000⟩ Try.prog (@noNats ⟨6, 1000000⟩) 200 67 root5 := @KnownAll.of ⟨6, 1000000⟩ noEnv _ _ _ _ _ (by kernel_rfl)
end Go.Proofs.Ytjljolnhmmbkoaa
