/- What is proved: some of the roots, as they are reckoned. Conditions: as each theorem says. -/
import Derived.Test.YtjljolnhmmbkoaaWL
import Derived.KernelRfl
import Derived.Test.YtjljolnhmmbkoaaProg
namespace Go.Proofs.Ytjljolnhmmbkoaa
open Go.Eng
set_option autoImplicit false
set_option maxRecDepth 100000
set_option maxHeartbeats 0
noncomputable def root17 : List Known := [⟨[.int .u64 11, .int .i64 2], .int .u32 1359893119, [], []⟩, ⟨[.int .u64 13, .int .i64 2], .int .u32 2600822924, [], []⟩, ⟨[.int .u64 17, .int .i64 2], .int .u32 528734635, [], []⟩, ⟨[.int .u64 19, .int .i64 2], .int .u32 1541459225, [], []⟩]
theorem root17_ok : @KnownAll ⟨6, 1000000⟩ Try.prog (@noNats ⟨6, 1000000⟩) 200 67 root17 := @KnownAll.of ⟨6, 1000000⟩ noEnv _ _ _ _ _ (by kernel_rfl)
end Go.Proofs.Ytjljolnhmmbkoaa
