/- What is proved: MachKnown gives true, whatever the world. Conditions: none. The frame was written by the seat's own tool; the walk is an evaluation. -/
import Derived.Test.YtjljolnhmmbkoaaRows
import Derived.Test.YtjljolnhmmbkoaaRoots0
import Derived.Test.YtjljolnhmmbkoaaRoots1
import Derived.Test.YtjljolnhmmbkoaaRoots2
import Derived.Test.YtjljolnhmmbkoaaRoots3
import Derived.WalkKit
import Derived.ProofKit
import Derived.OpenShut
namespace Go.Proofs.Ytjljolnhmmbkoaa.machKnown
open Go.ChangeShapes Go.WideShapes Go.ChangeAt Go.RowKit
set_option linter.unusedVariables false      -- a walk need not use every 'w<i>' (that an integer argument fits its kind)

theorem own : ownKnob Try.prog.godebug = none := by kernel_rfl

/-! ### The walk: worked out -/
noncomputable def primes64 : Eng.Known := ⟨[.int .i64 64], .slice 0 0 64 (.un 1), [[.int .u64 2, .int .u64 3, .int .u64 5, .int .u64 7, .int .u64 11, .int .u64 13, .int .u64 17, .int .u64 19, .int .u64 23, .int .u64 29, .int .u64 31, .int .u64 37, .int .u64 41, .int .u64 43, .int .u64 47, .int .u64 53, .int .u64 59, .int .u64 61, .int .u64 67, .int .u64 71, .int .u64 73, .int .u64 79, .int .u64 83, .int .u64 89, .int .u64 97, .int .u64 101, .int .u64 103, .int .u64 107, .int .u64 109, .int .u64 113, .int .u64 127, .int .u64 131, .int .u64 137, .int .u64 139, .int .u64 149, .int .u64 151, .int .u64 157, .int .u64 163, .int .u64 167, .int .u64 173, .int .u64 179, .int .u64 181, .int .u64 191, .int .u64 193, .int .u64 197, .int .u64 199, .int .u64 211, .int .u64 223, .int .u64 227, .int .u64 229, .int .u64 233, .int .u64 239, .int .u64 241, .int .u64 251, .int .u64 257, .int .u64 263, .int .u64 269, .int .u64 271, .int .u64 277, .int .u64 281, .int .u64 283, .int .u64 293, .int .u64 307, .int .u64 311]], [127]⟩
theorem good : Eng.progOk Try.prog = true := by kernel_rfl
theorem few : Try.prog.globals.size ≤ Eng.mostBlocks := of_decide_eq_true (by kernel_rfl)
theorem kp : Eng.KnownAll Try.prog Eng.noNats 60 66 [primes64] := .of (by kernel_rfl)
noncomputable def roots : List Eng.Known := (Eng.lapp c0 (Eng.lapp c1 (Eng.lapp c2 (Eng.lapp c3 (Eng.lapp c4 (Eng.lapp c5 (Eng.lapp c6 (Eng.lapp c7 (Eng.lapp c8 (Eng.lapp c9 (Eng.lapp c10 (Eng.lapp c11 (Eng.lapp c12 (Eng.lapp c13 (Eng.lapp c14 (Eng.lapp c15 (Eng.lapp c16 (Eng.lapp c17 (Eng.lapp c18 (Eng.lapp c19 (Eng.lapp c20 (Eng.lapp c21 (Eng.lapp c22 (Eng.lapp c23 (Eng.lapp c24 (Eng.lapp c25 (Eng.lapp c26 (Eng.lapp c27 (Eng.lapp c28 (Eng.lapp c29 (Eng.lapp c30 (Eng.lapp c31 (Eng.lapp c32 (Eng.lapp c33 (Eng.lapp c34 (Eng.lapp c35 (Eng.lapp c36 (Eng.lapp c37 (Eng.lapp c38 (Eng.lapp c39 (Eng.lapp c40 (Eng.lapp c41 (Eng.lapp c42 (Eng.lapp c43 (Eng.lapp c44 (Eng.lapp c45 (Eng.lapp c46 (Eng.lapp c47 (Eng.lapp c48 (Eng.lapp c49 (Eng.lapp c50 (Eng.lapp c51 (Eng.lapp c52 (Eng.lapp c53 (Eng.lapp c54 (Eng.lapp c55 (Eng.lapp c56 (Eng.lapp c57 (Eng.lapp c58 (Eng.lapp c59 (Eng.lapp c60 (Eng.lapp c61 (Eng.lapp c62 (Eng.lapp c63 (Eng.lapp c64 (Eng.lapp c65 (Eng.lapp c66 (Eng.lapp c67 (Eng.lapp c68 (Eng.lapp c69 (Eng.lapp c70 c71)))))))))))))))))))))))))))))))))))))))))))))))))))))))))))))))))))))))
theorem kr : Eng.KnownAll Try.prog Eng.noNats 60 67 roots := (.app k0 (.app k1 (.app k2 (.app k3 (.app k4 (.app k5 (.app k6 (.app k7 (.app k8 (.app k9 (.app k10 (.app k11 (.app k12 (.app k13 (.app k14 (.app k15 (.app k16 (.app k17 (.app k18 (.app k19 (.app k20 (.app k21 (.app k22 (.app k23 (.app k24 (.app k25 (.app k26 (.app k27 (.app k28 (.app k29 (.app k30 (.app k31 (.app k32 (.app k33 (.app k34 (.app k35 (.app k36 (.app k37 (.app k38 (.app k39 (.app k40 (.app k41 (.app k42 (.app k43 (.app k44 (.app k45 (.app k46 (.app k47 (.app k48 (.app k49 (.app k50 (.app k51 (.app k52 (.app k53 (.app k54 (.app k55 (.app k56 (.app k57 (.app k58 (.app k59 (.app k60 (.app k61 (.app k62 (.app k63 (.app k64 (.app k65 (.app k66 (.app k67 (.app k68 (.app k69 (.app k70 k71)))))))))))))))))))))))))))))))))))))))))))))))))))))))))))))))))))))))
noncomputable def nat0 : Eng.Nats := Eng.natsOf [(67, Eng.knownNat roots), (66, Eng.knownNat [primes64])]
theorem nat0_ok : Eng.NatsOK Try.prog nat0 :=
  Eng.natsOf_cons (Eng.known_ok good few Eng.noNats_ok (by kernel_rfl) kr) (Eng.natsOf_cons (Eng.known_ok good few Eng.noNats_ok (by kernel_rfl) kp) Eng.natsOf_nil)
theorem wakes : Eng.runA Try.prog nat0 200 22 [] = true := by kernel_rfl
noncomputable def nat : Eng.Nats := Eng.natsOf [(22, Eng.trueNat)]
theorem nat_ok : Eng.NatsOK Try.prog nat := Eng.natsOf_cons (Eng.trueNat_ok (by kernel_rfl) fun w => Eng.runA_calls (us := []) good few nat0_ok Eng.VL.nil wakes w) Eng.natsOf_nil
theorem worked : Eng.runA Try.prog nat 200 8 [] = true := by kernel_rfl
theorem walk (w : World) : Calls Try.prog 8 #[] w fun e w' => e = .returned (.bool true) ∧ Eng.Kept w w' := Eng.runA_calls (us := []) good few nat_ok Eng.VL.nil worked w

/-! ### The row's step -/
set_option maxRecDepth 100000 in
theorem lifted (os : Os) (started : os.Started) (H : Type) (enc : TypeId × Value → H) :
    ReturnsInHanded {} Try.checked os 8 .any (Rows.machKnownSpec.pre6 enc Try.prog Try.f8 Rows.machKnownRow.domain false) (Rows.machKnownSpec.post enc Try.prog Try.f8 false true false false) := by
  refine returnsInHanded_of_change (C := Try.checked) own started (by kernel_rfl) Try.func8
    (ChangeSpec.witness6 (enc := enc) (C := Try.checked) false ⟨#[], #[], []⟩ 8 (by kernel_rfl) (by kernel_rfl) (by kernel_rfl) (by kernel_rfl)) ?_
  intro W base args ds gs before hval0 hW hcnd _
  have hval : ∀ (j : Nat) t v, Try.f8.params[j]? = some t → args[j]? = some v → Value.okWide Try.prog W .any base t v := hval0
  have hW' := hW
  obtain ⟨p, q, hA0, hV, rfl, hfz, hnd⟩ := hW
  have hA : DataW.TrodAll enc Try.prog W 0 (fun _ => true) true Try.f8.params.toList args.toList ds p := hA0
  rw [Try.params8] at hA hval
  obtain ⟨rfl, rfl, rfl⟩ := trodAll_none hA
  obtain ⟨rfl, rfl⟩ := trodVars_none hV
  clear hA0 hval0
  simp only [List.append_nil] at hW'
  refine (walk  W).mono fun e W' ⟨he, hg⟩ => ?_
  subst he
  exact ⟨_, rfl, Eng.post_of_kept (pa := []) (pv := []) hW' (fun _ _ => (trodAll_cons_mk (shut_bool Try.underlying4 _) trodAll_mk0)) (fun sp _ => rfl) (fun _ _ => rfl) rfl hg⟩

theorem over : Rows.machKnownRow.holds Try.pinned (OpenSpec.ofChange Rows.machKnownSpec) :=
  OpenClaim.holds_of_wide 8 Try.f8 rfl rfl rfl rfl rfl rfl rfl ⟨rfl, rfl, rfl, rfl, rfl⟩ rfl rfl rfl rfl rfl (by kernel_rfl) Try.func8 (by kernel_rfl)
    (of_decide_eq_true (by kernel_rfl)) (by unfold Func.isWrapper; first | (rw [if_pos (by decide +kernel)]; kernel_rfl) | (rw [if_neg (by decide +kernel)]; exact ⟨rfl, rfl⟩))
    (fun os started H enc _ => lifted os started H enc)

/-- the statement -/
theorem proved : Rows.MachKnownSaid :=
  over
#print axioms proved
end Go.Proofs.Ytjljolnhmmbkoaa.machKnown
