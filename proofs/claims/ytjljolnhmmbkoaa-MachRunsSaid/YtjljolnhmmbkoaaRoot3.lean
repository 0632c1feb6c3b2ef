/- What is proved: some of the roots, as they are reckoned. Conditions: as each theorem says. -/
import Derived.Test.YtjljolnhmmbkoaaWL
import Derived.KernelRfl
import Derived.Test.YtjljolnhmmbkoaaProg
namespace Go.Proofs.Ytjljolnhmmbkoaa
open Go.Eng
set_option autoImplicit false
set_option maxRecDepth 100000
set_option maxHeartbeats 0
noncomputable def root3 : List Known := [⟨[.int .u64 41, .int .i64 3], .int .u32 1925078388, [], []⟩, ⟨[.int .u64 43, .int .i64 3], .int .u32 2162078206, [], []⟩, ⟨[.int .u64 47, .int .i64 3], .int .u32 2614888103, [], []⟩, ⟨[.int .u64 53, .int .i64 3], .int .u32 3248222580, [], []⟩]
theorem root3_ok : @KnownAll ⟨6, 1000000⟩ Try.prog (@noNats ⟨6, 1000000⟩) 200 67 root3 := @KnownAll.of ⟨6, 1000000⟩ noEnv _ _ _ _ _ (by kernel_rfl)
end Go.Proofs.Ytjljolnhmmbkoaa
