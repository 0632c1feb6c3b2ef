/- What is proved: what the document's own reckoning of roots answers, for some of the primes that digests ask for, is worked out. Conditions: none. -/
import Derived.Test.YtjljolnhmmbkoaaRows
import Derived.Test.YtjljolnhmmbkoaaEngG
namespace Go.Proofs.Ytjljolnhmmbkoaa.machKnown
set_option linter.unusedVariables false
noncomputable def c54 : List Eng.Known := [⟨[.int .u64 257, .int .i64 3], .int .u32 1537002063, [], []⟩]
theorem k54 : Eng.KnownAll Try.prog Eng.noNats 60 67 c54 := .of (by kernel_rfl)
noncomputable def c55 : List Eng.Known := [⟨[.int .u64 263, .int .i64 3], .int .u32 1747873779, [], []⟩]
theorem k55 : Eng.KnownAll Try.prog Eng.noNats 60 67 c55 := .of (by kernel_rfl)
noncomputable def c56 : List Eng.Known := [⟨[.int .u64 269, .int .i64 3], .int .u32 1955562222, [], []⟩]
theorem k56 : Eng.KnownAll Try.prog Eng.noNats 60 67 c56 := .of (by kernel_rfl)
noncomputable def c57 : List Eng.Known := [⟨[.int .u64 271, .int .i64 3], .int .u32 2024104815, [], []⟩]
theorem k57 : Eng.KnownAll Try.prog Eng.noNats 60 67 c57 := .of (by kernel_rfl)
noncomputable def c58 : List Eng.Known := [⟨[.int .u64 277, .int .i64 3], .int .u32 2227730452, [], []⟩]
theorem k58 : Eng.KnownAll Try.prog Eng.noNats 60 67 c58 := .of (by kernel_rfl)
noncomputable def c59 : List Eng.Known := [⟨[.int .u64 281, .int .i64 3], .int .u32 2361852424, [], []⟩]
theorem k59 : Eng.KnownAll Try.prog Eng.noNats 60 67 c59 := .of (by kernel_rfl)
noncomputable def c60 : List Eng.Known := [⟨[.int .u64 283, .int .i64 3], .int .u32 2428436474, [], []⟩]
theorem k60 : Eng.KnownAll Try.prog Eng.noNats 60 67 c60 := .of (by kernel_rfl)
noncomputable def c61 : List Eng.Known := [⟨[.int .u64 293, .int .i64 3], .int .u32 2756734187, [], []⟩]
theorem k61 : Eng.KnownAll Try.prog Eng.noNats 60 67 c61 := .of (by kernel_rfl)
noncomputable def c62 : List Eng.Known := [⟨[.int .u64 307, .int .i64 3], .int .u32 3204031479, [], []⟩]
theorem k62 : Eng.KnownAll Try.prog Eng.noNats 60 67 c62 := .of (by kernel_rfl)
noncomputable def c63 : List Eng.Known := [⟨[.int .u64 311, .int .i64 3], .int .u32 3329325298, [], []⟩]
theorem k63 : Eng.KnownAll Try.prog Eng.noNats 60 67 c63 := .of (by kernel_rfl)
noncomputable def c64 : List Eng.Known := [⟨[.int .u64 2, .int .i64 2], .int .u32 1779033703, [], []⟩]
theorem k64 : Eng.KnownAll Try.prog Eng.noNats 60 67 c64 := .of (by kernel_rfl)
noncomputable def c65 : List Eng.Known := [⟨[.int .u64 3, .int .i64 2], .int .u32 3144134277, [], []⟩]
theorem k65 : Eng.KnownAll Try.prog Eng.noNats 60 67 c65 := .of (by kernel_rfl)
noncomputable def c66 : List Eng.Known := [⟨[.int .u64 5, .int .i64 2], .int .u32 1013904242, [], []⟩]
theorem k66 : Eng.KnownAll Try.prog Eng.noNats 60 67 c66 := .of (by kernel_rfl)
noncomputable def c67 : List Eng.Known := [⟨[.int .u64 7, .int .i64 2], .int .u32 2773480762, [], []⟩]
theorem k67 : Eng.KnownAll Try.prog Eng.noNats 60 67 c67 := .of (by kernel_rfl)
noncomputable def c68 : List Eng.Known := [⟨[.int .u64 11, .int .i64 2], .int .u32 1359893119, [], []⟩]
theorem k68 : Eng.KnownAll Try.prog Eng.noNats 60 67 c68 := .of (by kernel_rfl)
noncomputable def c69 : List Eng.Known := [⟨[.int .u64 13, .int .i64 2], .int .u32 2600822924, [], []⟩]
theorem k69 : Eng.KnownAll Try.prog Eng.noNats 60 67 c69 := .of (by kernel_rfl)
noncomputable def c70 : List Eng.Known := [⟨[.int .u64 17, .int .i64 2], .int .u32 528734635, [], []⟩]
theorem k70 : Eng.KnownAll Try.prog Eng.noNats 60 67 c70 := .of (by kernel_rfl)
noncomputable def c71 : List Eng.Known := [⟨[.int .u64 19, .int .i64 2], .int .u32 1541459225, [], []⟩]
theorem k71 : Eng.KnownAll Try.prog Eng.noNats 60 67 c71 := .of (by kernel_rfl)
end Go.Proofs.Ytjljolnhmmbkoaa.machKnown
