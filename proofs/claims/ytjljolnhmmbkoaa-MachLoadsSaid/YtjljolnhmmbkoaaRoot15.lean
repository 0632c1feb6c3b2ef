/- What is proved: some of the roots, as they are reckoned. Conditions: as each theorem says. -/
import Derived.Test.YtjljolnhmmbkoaaWL
import Derived.KernelRfl
import Derived.Test.YtjljolnhmmbkoaaProg
namespace Go.Proofs.Ytjljolnhmmbkoaa
open Go.Eng
set_option autoImplicit false
set_option maxRecDepth 100000
set_option maxHeartbeats 0
noncomputable def root15 : List Known := [⟨[.int .u64 283, .int .i64 3], .int .u32 2428436474, [], []⟩, ⟨[.int .u64 293, .int .i64 3], .int .u32 2756734187, [], []⟩, ⟨[.int .u64 307, .int .i64 3], .int .u32 3204031479, [], []⟩, ⟨[.int .u64 311, .int .i64 3], .int .u32 3329325298, [], []⟩]
theorem root15_ok : @KnownAll ⟨6, 1000000⟩ Try.prog (@noNats ⟨6, 1000000⟩) 200 67 root15 := @KnownAll.of ⟨6, 1000000⟩ noEnv _ _ _ _ _ (by kernel_rfl)
end Go.Proofs.Ytjljolnhmmbkoaa
