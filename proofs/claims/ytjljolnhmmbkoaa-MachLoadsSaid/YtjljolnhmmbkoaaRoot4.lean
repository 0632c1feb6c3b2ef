/- What is proved: some of the roots, as they are reckoned. Conditions: as each theorem says. -/
import Derived.Test.YtjljolnhmmbkoaaWL
import Derived.KernelRfl
import Derived.Test.YtjljolnhmmbkoaaProg
namespace Go.Proofs.Ytjljolnhmmbkoaa
open Go.Eng
set_option autoImplicit false
set_option maxRecDepth 100000
set_option maxHeartbeats 0
noncomputable def root4 : List Known := [⟨[.int .u64 59, .int .i64 3], .int .u32 3835390401, [], []⟩, ⟨[.int .u64 61, .int .i64 3], .int .u32 4022224774, [], []⟩, ⟨[.int .u64 67, .int .i64 3], .int .u32 264347078, [], []⟩, ⟨[.int .u64 71, .int .i64 3], .int .u32 604807628, [], []⟩]
theorem root4_ok : @KnownAll ⟨6, 1000000⟩ Try.prog (@noNats ⟨6, 1000000⟩) 200 67 root4 := @KnownAll.of ⟨6, 1000000⟩ noEnv _ _ _ _ _ (by kernel_rfl)
end Go.Proofs.Ytjljolnhmmbkoaa
