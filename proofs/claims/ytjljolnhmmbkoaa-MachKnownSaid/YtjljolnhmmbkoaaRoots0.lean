/- What is proved: what the document's own reckoning of roots answers, for some of the primes that digests ask for, is worked out. Conditions: none. -/
import Derived.Test.YtjljolnhmmbkoaaRows
import Derived.Test.YtjljolnhmmbkoaaEngG
namespace Go.Proofs.Ytjljolnhmmbkoaa.machKnown
set_option linter.unusedVariables false
noncomputable def c0 : List Eng.Known := [⟨[.int .u64 2, .int .i64 3], .int .u32 1116352408, [], []⟩]
theorem k0 : Eng.KnownAll Try.prog Eng.noNats 60 67 c0 := .of (by kernel_rfl)
noncomputable def c1 : List Eng.Known := [⟨[.int .u64 3, .int .i64 3], .int .u32 1899447441, [], []⟩]
theorem k1 : Eng.KnownAll Try.prog Eng.noNats 60 67 c1 := .of (by kernel_rfl)
noncomputable def c2 : List Eng.Known := [⟨[.int .u64 5, .int .i64 3], .int .u32 3049323471, [], []⟩]
theorem k2 : Eng.KnownAll Try.prog Eng.noNats 60 67 c2 := .of (by kernel_rfl)
noncomputable def c3 : List Eng.Known := [⟨[.int .u64 7, .int .i64 3], .int .u32 3921009573, [], []⟩]
theorem k3 : Eng.KnownAll Try.prog Eng.noNats 60 67 c3 := .of (by kernel_rfl)
noncomputable def c4 : List Eng.Known := [⟨[.int .u64 11, .int .i64 3], .int .u32 961987163, [], []⟩]
theorem k4 : Eng.KnownAll Try.prog Eng.noNats 60 67 c4 := .of (by kernel_rfl)
noncomputable def c5 : List Eng.Known := [⟨[.int .u64 13, .int .i64 3], .int .u32 1508970993, [], []⟩]
theorem k5 : Eng.KnownAll Try.prog Eng.noNats 60 67 c5 := .of (by kernel_rfl)
noncomputable def c6 : List Eng.Known := [⟨[.int .u64 17, .int .i64 3], .int .u32 2453635748, [], []⟩]
theorem k6 : Eng.KnownAll Try.prog Eng.noNats 60 67 c6 := .of (by kernel_rfl)
noncomputable def c7 : List Eng.Known := [⟨[.int .u64 19, .int .i64 3], .int .u32 2870763221, [], []⟩]
theorem k7 : Eng.KnownAll Try.prog Eng.noNats 60 67 c7 := .of (by kernel_rfl)
noncomputable def c8 : List Eng.Known := [⟨[.int .u64 23, .int .i64 3], .int .u32 3624381080, [], []⟩]
theorem k8 : Eng.KnownAll Try.prog Eng.noNats 60 67 c8 := .of (by kernel_rfl)
noncomputable def c9 : List Eng.Known := [⟨[.int .u64 29, .int .i64 3], .int .u32 310598401, [], []⟩]
theorem k9 : Eng.KnownAll Try.prog Eng.noNats 60 67 c9 := .of (by kernel_rfl)
noncomputable def c10 : List Eng.Known := [⟨[.int .u64 31, .int .i64 3], .int .u32 607225278, [], []⟩]
theorem k10 : Eng.KnownAll Try.prog Eng.noNats 60 67 c10 := .of (by kernel_rfl)
noncomputable def c11 : List Eng.Known := [⟨[.int .u64 37, .int .i64 3], .int .u32 1426881987, [], []⟩]
theorem k11 : Eng.KnownAll Try.prog Eng.noNats 60 67 c11 := .of (by kernel_rfl)
noncomputable def c12 : List Eng.Known := [⟨[.int .u64 41, .int .i64 3], .int .u32 1925078388, [], []⟩]
theorem k12 : Eng.KnownAll Try.prog Eng.noNats 60 67 c12 := .of (by kernel_rfl)
noncomputable def c13 : List Eng.Known := [⟨[.int .u64 43, .int .i64 3], .int .u32 2162078206, [], []⟩]
theorem k13 : Eng.KnownAll Try.prog Eng.noNats 60 67 c13 := .of (by kernel_rfl)
noncomputable def c14 : List Eng.Known := [⟨[.int .u64 47, .int .i64 3], .int .u32 2614888103, [], []⟩]
theorem k14 : Eng.KnownAll Try.prog Eng.noNats 60 67 c14 := .of (by kernel_rfl)
noncomputable def c15 : List Eng.Known := [⟨[.int .u64 53, .int .i64 3], .int .u32 3248222580, [], []⟩]
theorem k15 : Eng.KnownAll Try.prog Eng.noNats 60 67 c15 := .of (by kernel_rfl)
noncomputable def c16 : List Eng.Known := [⟨[.int .u64 59, .int .i64 3], .int .u32 3835390401, [], []⟩]
theorem k16 : Eng.KnownAll Try.prog Eng.noNats 60 67 c16 := .of (by kernel_rfl)
noncomputable def c17 : List Eng.Known := [⟨[.int .u64 61, .int .i64 3], .int .u32 4022224774, [], []⟩]
theorem k17 : Eng.KnownAll Try.prog Eng.noNats 60 67 c17 := .of (by kernel_rfl)
end Go.Proofs.Ytjljolnhmmbkoaa.machKnown
