/- What is proved: some of the roots, as they are reckoned. Conditions: as each theorem says. -/
import Derived.Test.YtjljolnhmmbkoaaWL
import Derived.KernelRfl
import Derived.Test.YtjljolnhmmbkoaaProg
namespace Go.Proofs.Ytjljolnhmmbkoaa
open Go.Eng
set_option autoImplicit false
set_option maxRecDepth 100000
set_option maxHeartbeats 0
noncomputable def root9 : List Known := [⟨[.int .u64 157, .int .i64 3], .int .u32 1695183700, [], []⟩, ⟨[.int .u64 163, .int .i64 3], .int .u32 1986661051, [], []⟩, ⟨[.int .u64 167, .int .i64 3], .int .u32 2177026350, [], []⟩, ⟨[.int .u64 173, .int .i64 3], .int .u32 2456956037, [], []⟩]
theorem root9_ok : @KnownAll ⟨6, 1000000⟩ Try.prog (@noNats ⟨6, 1000000⟩) 200 67 root9 := @KnownAll.of ⟨6, 1000000⟩ noEnv _ _ _ _ _ (by kernel_rfl)
end Go.Proofs.Ytjljolnhmmbkoaa
