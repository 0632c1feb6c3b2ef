/- What is proved: some of the roots, as they are reckoned. Conditions: as each theorem says. -/
import Derived.Test.YtjljolnhmmbkoaaWL
import Derived.KernelRfl
import Derived.Test.YtjljolnhmmbkoaaProg
namespace Go.Proofs.Ytjljolnhmmbkoaa
open Go.Eng
set_option autoImplicit false
set_option maxRecDepth 100000
set_option maxHeartbeats 0
noncomputable def root16 : List Known := [⟨[.int .u64 2, .int .i64 2], .int .u32 1779033703, [], []⟩, ⟨[.int .u64 3, .int .i64 2], .int .u32 3144134277, [], []⟩, ⟨[.int .u64 5, .int .i64 2], .int .u32 1013904242, [], []⟩, ⟨[.int .u64 7, .int .i64 2], .int .u32 2773480762, [], []⟩]
theorem root16_ok : @KnownAll ⟨6, 1000000⟩ Try.prog (@noNats ⟨6, 1000000⟩) 200 67 root16 := @KnownAll.of ⟨6, 1000000⟩ noEnv _ _ _ _ _ (by kernel_rfl)
end Go.Proofs.Ytjljolnhmmbkoaa
