/- What is proved: some of the roots, as they are reckoned. Conditions: as each theorem says. -/
import Derived.Test.YtjljolnhmmbkoaaWL
import Derived.KernelRfl
import Derived.Test.YtjljolnhmmbkoaaProg
namespace Go.Proofs.Ytjljolnhmmbkoaa
open Go.Eng
set_option autoImplicit false
set_option maxRecDepth 100000
set_option maxHeartbeats 0
noncomputable def root11 : List Known := [⟨[.int .u64 197, .int .i64 3], .int .u32 3516065817, [], []⟩, ⟨[.int .u64 199, .int .i64 3], .int .u32 3600352804, [], []⟩, ⟨[.int .u64 211, .int .i64 3], .int .u32 4094571909, [], []⟩, ⟨[.int .u64 223, .int .i64 3], .int .u32 275423344, [], []⟩]
theorem root11_ok : @KnownAll ⟨6, 1000000⟩ Try.prog (@noNats ⟨6, 1000000⟩) 200 67 root11 := @KnownAll.of ⟨6, 1000000⟩ noEnv _ _ _ _ _ (by kernel_rfl)
end Go.Proofs.Ytjljolnhmmbkoaa
