/- What is proved: the first primes, as they are reckoned. Conditions: as each theorem says. -/
import Derived.Test.YtjljolnhmmbkoaaWL
import Derived.KernelRfl
import Derived.Test.YtjljolnhmmbkoaaProg
namespace Go.Proofs.Ytjljolnhmmbkoaa
open Go.Eng
set_option autoImplicit false
set_option maxRecDepth 100000
set_option maxHeartbeats 0
noncomputable def primesL : List Known := [⟨[.int .i64 64], .slice 0 0 64 (.un 1), [[.int .u64 2, .int .u64 3, .int .u64 5, .int .u64 7, .int .u64 11, .int .u64 13, .int .u64 17, .int .u64 19, .int .u64 23, .int .u64 29, .int .u64 31, .int .u64 37, .int .u64 41, .int .u64 43, .int .u64 47, .int .u64 53, .int .u64 59, .int .u64 61, .int .u64 67, .int .u64 71, .int .u64 73, .int .u64 79, .int .u64 83, .int .u64 89, .int .u64 97, .int .u64 101, .int .u64 103, .int .u64 107, .int .u64 109, .int .u64 113, .int .u64 127, .int .u64 131, .int .u64 137, .int .u64 139, .int .u64 149, .int .u64 151, .int .u64 157, .int .u64 163, .int .u64 167, .int .u64 173, .int .u64 179, .int .u64 181, .int .u64 191, .int .u64 193, .int .u64 197, .int .u64 199, .int .u64 211, .int .u64 223, .int .u64 227, .int .u64 229, .int .u64 233, .int .u64 239, .int .u64 241, .int .u64 251, .int .u64 257, .int .u64 263, .int .u64 269, .int .u64 271, .int .u64 277, .int .u64 281, .int .u64 283, .int .u64 293, .int .u64 307, .int .u64 311]], [127]⟩]
theorem primesL_ok : @KnownAll ⟨6, 1000000⟩ Try.prog (@noNats ⟨6, 1000000⟩) 200 66 primesL := @KnownAll.of ⟨6, 1000000⟩ noEnv _ _ _ _ _ (by kernel_rfl)
end Go.Proofs.Ytjljolnhmmbkoaa
