/- What is proved: some of the roots, as they are reckoned. Conditions: as each theorem says. -/
import Derived.Test.YtjljolnhmmbkoaaWL
import Derived.KernelRfl
import Derived.Test.YtjljolnhmmbkoaaProg
namespace Go.Proofs.Ytjljolnhmmbkoaa
open Go.Eng
set_option autoImplicit false
set_option maxRecDepth 100000
set_option maxHeartbeats 0
noncomputable def root13 : List Known := [⟨[.int .u64 241, .int .i64 3], .int .u32 958139571, [], []⟩, ⟨[.int .u64 251, .int .i64 3], .int .u32 1322822218, [], []⟩, ⟨[.int .u64 257, .int .i64 3], .int .u32 1537002063, [], []⟩, ⟨[.int .u64 263, .int .i64 3], .int .u32 1747873779, [], []⟩]
theorem root13_ok : @KnownAll ⟨6, 1000000⟩ Try.prog (@noNats ⟨6, 1000000⟩) 200 67 root13 := @KnownAll.of ⟨6, 1000000⟩ noEnv _ _ _ _ _ (by kernel_rfl)
end Go.Proofs.Ytjljolnhmmbkoaa
