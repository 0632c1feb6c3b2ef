/- What is proved: what the document's own reckoning of roots answers, for some of the primes that digests ask for, is worked out. Conditions: none. -/
import Derived.Test.YtjljolnhmmbkoaaRows
import Derived.Test.YtjljolnhmmbkoaaEngG
namespace Go.Proofs.Ytjljolnhmmbkoaa.machKnown
set_option linter.unusedVariables false
noncomputable def c18 : List Eng.Known := [⟨[.int .u64 67, .int .i64 3], .int .u32 264347078, [], []⟩]
theorem k18 : Eng.KnownAll Try.prog Eng.noNats 60 67 c18 := .of (by kernel_rfl)
noncomputable def c19 : List Eng.Known := [⟨[.int .u64 71, .int .i64 3], .int .u32 604807628, [], []⟩]
theorem k19 : Eng.KnownAll Try.prog Eng.noNats 60 67 c19 := .of (by kernel_rfl)
noncomputable def c20 : List Eng.Known := [⟨[.int .u64 73, .int .i64 3], .int .u32 770255983, [], []⟩]
theorem k20 : Eng.KnownAll Try.prog Eng.noNats 60 67 c20 := .of (by kernel_rfl)
noncomputable def c21 : List Eng.Known := [⟨[.int .u64 79, .int .i64 3], .int .u32 1249150122, [], []⟩]
theorem k21 : Eng.KnownAll Try.prog Eng.noNats 60 67 c21 := .of (by kernel_rfl)
noncomputable def c22 : List Eng.Known := [⟨[.int .u64 83, .int .i64 3], .int .u32 1555081692, [], []⟩]
theorem k22 : Eng.KnownAll Try.prog Eng.noNats 60 67 c22 := .of (by kernel_rfl)
noncomputable def c23 : List Eng.Known := [⟨[.int .u64 89, .int .i64 3], .int .u32 1996064986, [], []⟩]
theorem k23 : Eng.KnownAll Try.prog Eng.noNats 60 67 c23 := .of (by kernel_rfl)
noncomputable def c24 : List Eng.Known := [⟨[.int .u64 97, .int .i64 3], .int .u32 2554220882, [], []⟩]
theorem k24 : Eng.KnownAll Try.prog Eng.noNats 60 67 c24 := .of (by kernel_rfl)
noncomputable def c25 : List Eng.Known := [⟨[.int .u64 101, .int .i64 3], .int .u32 2821834349, [], []⟩]
theorem k25 : Eng.KnownAll Try.prog Eng.noNats 60 67 c25 := .of (by kernel_rfl)
noncomputable def c26 : List Eng.Known := [⟨[.int .u64 103, .int .i64 3], .int .u32 2952996808, [], []⟩]
theorem k26 : Eng.KnownAll Try.prog Eng.noNats 60 67 c26 := .of (by kernel_rfl)
noncomputable def c27 : List Eng.Known := [⟨[.int .u64 107, .int .i64 3], .int .u32 3210313671, [], []⟩]
theorem k27 : Eng.KnownAll Try.prog Eng.noNats 60 67 c27 := .of (by kernel_rfl)
noncomputable def c28 : List Eng.Known := [⟨[.int .u64 109, .int .i64 3], .int .u32 3336571891, [], []⟩]
theorem k28 : Eng.KnownAll Try.prog Eng.noNats 60 67 c28 := .of (by kernel_rfl)
noncomputable def c29 : List Eng.Known := [⟨[.int .u64 113, .int .i64 3], .int .u32 3584528711, [], []⟩]
theorem k29 : Eng.KnownAll Try.prog Eng.noNats 60 67 c29 := .of (by kernel_rfl)
noncomputable def c30 : List Eng.Known := [⟨[.int .u64 127, .int .i64 3], .int .u32 113926993, [], []⟩]
theorem k30 : Eng.KnownAll Try.prog Eng.noNats 60 67 c30 := .of (by kernel_rfl)
noncomputable def c31 : List Eng.Known := [⟨[.int .u64 131, .int .i64 3], .int .u32 338241895, [], []⟩]
theorem k31 : Eng.KnownAll Try.prog Eng.noNats 60 67 c31 := .of (by kernel_rfl)
noncomputable def c32 : List Eng.Known := [⟨[.int .u64 137, .int .i64 3], .int .u32 666307205, [], []⟩]
theorem k32 : Eng.KnownAll Try.prog Eng.noNats 60 67 c32 := .of (by kernel_rfl)
noncomputable def c33 : List Eng.Known := [⟨[.int .u64 139, .int .i64 3], .int .u32 773529912, [], []⟩]
theorem k33 : Eng.KnownAll Try.prog Eng.noNats 60 67 c33 := .of (by kernel_rfl)
noncomputable def c34 : List Eng.Known := [⟨[.int .u64 149, .int .i64 3], .int .u32 1294757372, [], []⟩]
theorem k34 : Eng.KnownAll Try.prog Eng.noNats 60 67 c34 := .of (by kernel_rfl)
noncomputable def c35 : List Eng.Known := [⟨[.int .u64 151, .int .i64 3], .int .u32 1396182291, [], []⟩]
theorem k35 : Eng.KnownAll Try.prog Eng.noNats 60 67 c35 := .of (by kernel_rfl)
end Go.Proofs.Ytjljolnhmmbkoaa.machKnown
