/- What is proved: some of the roots, as they are reckoned. Conditions: as each theorem says. -/
import Derived.Test.YtjljolnhmmbkoaaWL
import Derived.KernelRfl
import Derived.Test.YtjljolnhmmbkoaaProg
namespace Go.Proofs.Ytjljolnhmmbkoaa
open Go.Eng
set_option autoImplicit false
set_option maxRecDepth 100000
set_option maxHeartbeats 0
noncomputable def root7 : List Known := [⟨[.int .u64 109, .int .i64 3], .int .u32 3336571891, [], []⟩, ⟨[.int .u64 113, .int .i64 3], .int .u32 3584528711, [], []⟩, ⟨[.int .u64 127, .int .i64 3], .int .u32 113926993, [], []⟩, ⟨[.int .u64 131, .int .i64 3], .int .u32 338241895, [], []⟩]
theorem root7_ok : @KnownAll ⟨6, 1000000⟩ Try.prog (@noNats ⟨6, 1000000⟩) 200 67 root7 := @KnownAll.of ⟨6, 1000000⟩ noEnv _ _ _ _ _ (by kernel_rfl)
end Go.Proofs.Ytjljolnhmmbkoaa
