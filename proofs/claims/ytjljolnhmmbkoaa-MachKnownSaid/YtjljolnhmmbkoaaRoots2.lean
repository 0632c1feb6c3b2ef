/- What is proved: what the document's own reckoning of roots answers, for some of the primes that digests ask for, is worked out. Conditions: none. -/
import Derived.Test.YtjljolnhmmbkoaaRows
import Derived.Test.YtjljolnhmmbkoaaEngG
namespace Go.Proofs.Ytjljolnhmmbkoaa.machKnown
set_option linter.unusedVariables false
noncomputable def c36 : List Eng.Known := [⟨[.int .u64 157, .int .i64 3], .int .u32 1695183700, [], []⟩]
theorem k36 : Eng.KnownAll Try.prog Eng.noNats 60 67 c36 := .of (by kernel_rfl)
noncomputable def c37 : List Eng.Known := [⟨[.int .u64 163, .int .i64 3], .int .u32 1986661051, [], []⟩]
theorem k37 : Eng.KnownAll Try.prog Eng.noNats 60 67 c37 := .of (by kernel_rfl)
noncomputable def c38 : List Eng.Known := [⟨[.int .u64 167, .int .i64 3], .int .u32 2177026350, [], []⟩]
theorem k38 : Eng.KnownAll Try.prog Eng.noNats 60 67 c38 := .of (by kernel_rfl)
noncomputable def c39 : List Eng.Known := [⟨[.int .u64 173, .int .i64 3], .int .u32 2456956037, [], []⟩]
theorem k39 : Eng.KnownAll Try.prog Eng.noNats 60 67 c39 := .of (by kernel_rfl)
noncomputable def c40 : List Eng.Known := [⟨[.int .u64 179, .int .i64 3], .int .u32 2730485921, [], []⟩]
theorem k40 : Eng.KnownAll Try.prog Eng.noNats 60 67 c40 := .of (by kernel_rfl)
noncomputable def c41 : List Eng.Known := [⟨[.int .u64 181, .int .i64 3], .int .u32 2820302411, [], []⟩]
theorem k41 : Eng.KnownAll Try.prog Eng.noNats 60 67 c41 := .of (by kernel_rfl)
noncomputable def c42 : List Eng.Known := [⟨[.int .u64 191, .int .i64 3], .int .u32 3259730800, [], []⟩]
theorem k42 : Eng.KnownAll Try.prog Eng.noNats 60 67 c42 := .of (by kernel_rfl)
noncomputable def c43 : List Eng.Known := [⟨[.int .u64 193, .int .i64 3], .int .u32 3345764771, [], []⟩]
theorem k43 : Eng.KnownAll Try.prog Eng.noNats 60 67 c43 := .of (by kernel_rfl)
noncomputable def c44 : List Eng.Known := [⟨[.int .u64 197, .int .i64 3], .int .u32 3516065817, [], []⟩]
theorem k44 : Eng.KnownAll Try.prog Eng.noNats 60 67 c44 := .of (by kernel_rfl)
noncomputable def c45 : List Eng.Known := [⟨[.int .u64 199, .int .i64 3], .int .u32 3600352804, [], []⟩]
theorem k45 : Eng.KnownAll Try.prog Eng.noNats 60 67 c45 := .of (by kernel_rfl)
noncomputable def c46 : List Eng.Known := [⟨[.int .u64 211, .int .i64 3], .int .u32 4094571909, [], []⟩]
theorem k46 : Eng.KnownAll Try.prog Eng.noNats 60 67 c46 := .of (by kernel_rfl)
noncomputable def c47 : List Eng.Known := [⟨[.int .u64 223, .int .i64 3], .int .u32 275423344, [], []⟩]
theorem k47 : Eng.KnownAll Try.prog Eng.noNats 60 67 c47 := .of (by kernel_rfl)
noncomputable def c48 : List Eng.Known := [⟨[.int .u64 227, .int .i64 3], .int .u32 430227734, [], []⟩]
theorem k48 : Eng.KnownAll Try.prog Eng.noNats 60 67 c48 := .of (by kernel_rfl)
noncomputable def c49 : List Eng.Known := [⟨[.int .u64 229, .int .i64 3], .int .u32 506948616, [], []⟩]
theorem k49 : Eng.KnownAll Try.prog Eng.noNats 60 67 c49 := .of (by kernel_rfl)
noncomputable def c50 : List Eng.Known := [⟨[.int .u64 233, .int .i64 3], .int .u32 659060556, [], []⟩]
theorem k50 : Eng.KnownAll Try.prog Eng.noNats 60 67 c50 := .of (by kernel_rfl)
noncomputable def c51 : List Eng.Known := [⟨[.int .u64 239, .int .i64 3], .int .u32 883997877, [], []⟩]
theorem k51 : Eng.KnownAll Try.prog Eng.noNats 60 67 c51 := .of (by kernel_rfl)
noncomputable def c52 : List Eng.Known := [⟨[.int .u64 241, .int .i64 3], .int .u32 958139571, [], []⟩]
theorem k52 : Eng.KnownAll Try.prog Eng.noNats 60 67 c52 := .of (by kernel_rfl)
noncomputable def c53 : List Eng.Known := [⟨[.int .u64 251, .int .i64 3], .int .u32 1322822218, [], []⟩]
theorem k53 : Eng.KnownAll Try.prog Eng.noNats 60 67 c53 := .of (by kernel_rfl)
end Go.Proofs.Ytjljolnhmmbkoaa.machKnown
