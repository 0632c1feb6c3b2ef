/- What is proved: the mixing of one block is told, so the digests' contracts stand. Conditions: as each theorem says. -/
import Derived.Test.YtjljolnhmmbkoaaWake
import Derived.Test.YtjljolnhmmbkoaaDig
import Derived.Test.YtjljolnhmmbkoaaWJ
set_option linter.unusedVariables false
set_option linter.unusedSimpArgs false
set_option linter.unusedSectionVars false
namespace Go.Proofs.Ytjljolnhmmbkoaa
open Go.Eng Go.Plain
set_option autoImplicit false
set_option maxRecDepth 100000
namespace Dig
noncomputable def seOf (x : AV) : SE := AV.rec (motive_1 := fun _ => SE) (motive_2 := fun _ => Unit) (fun _ => .c 0) (fun _ _ => .c 0) (fun _ _ => .c 0) (.c 0) (fun _ _ => .c 0) (.c 0) (fun _ _ _ _ => .c 0) (fun _ _ _ _ _ => .c 0) (.c 0) (fun _ _ _ => .c 0) (.c 0) (fun _ _ => .c 0) (fun _ _ => .c 0) (fun _ => .c 0) (.c 0) (fun _ _ _ => .c 0) (fun _ e => e) () (fun _ _ _ _ => ()) x
noncomputable def es : List SE := lmap seOf (@rvk D0 _ (@toldRun D0 Try.prog (@noNats D0) 20 107 [.agg .u32 8] .u8 64 64) (fun v _ => cellsA v) (fun _ => []))
theorem es_len : es.length = 8 := by kernel_rfl
theorem mixTold (c : Nat) : @toldIs D0 (@toldRun D0 Try.prog (@noNats D0) 20 107 [.agg .u32 8] .u8 64 c) .u32 es = true := by kernel_rfl
noncomputable def F (h l : List Nat) : List Nat := es.map fun e => @SE.val (envL (h ++ l)) e
theorem hs_app {h l : List Nat} : (AV.agg (es.map fun e => AV.int .u32 (@SE.val (envL (h ++ l)) e))) = .agg (u32s (F h l)) := by
  unfold u32s F; rw [List.map_map]; rfl
end Dig
noncomputable def nat4 [Deep] : Nats := natsOf [(22, knownNat wakeL), (107, @toldNat2 _ noEnv [.agg .u32 8] .u8 64 .u32 Dig.es)]
theorem nat4_ok [Deep] : @NatsOK _ noEnv Try.prog nat4 := by
  refine @natsOf_cons _ noEnv _ _ _ _ wake_ok (@natsOf_cons _ noEnv _ _ _ _ ?_ (@natsOf_nil _ noEnv _))
  exact @told_ok2 _ D0 _ noEnv good few 20 _ _ _ _ _ _ (by decide) Dig.mixTold
theorem usual4 : Usual nat4 := fun f hf => by
  intro _
  have h : Nat.beq 22 f = false := beq_false.2 fun e => hf (by rw [← e]; decide)
  have h2 : Nat.beq 107 f = false := beq_false.2 fun e => hf (by rw [← e]; decide)
  show ifB (Nat.beq 22 f) _ (ifB (Nat.beq 107 f) _ _) = none
  rw [h, h2]; rfl
theorem wakes4 (η : HN) : CallN Try.prog nat4 22 [] η (.bool true) η := callN_nat (P := Try.prog) (nat := nat4) (f := 22) (g := fun args h => knownNat wakeL args h) rfl (HV.pure fun h => wake_at h)
theorem dig4 : Dig.Ctx nat4 Dig.F := by
  refine ⟨fun h l => by unfold Dig.F; rw [List.length_map, Dig.es_len], fun η h b off cap l h8 hr => ?_, fun f hf => ?_⟩
  · have := callN_nat (P := Try.prog) (nat := nat4) (f := 107) (g := fun args h => @toldNat2 _ noEnv [.agg .u32 8] .u8 64 .u32 Dig.es args h) rfl (told_hv (ok := .u32) (es := Dig.es) (k := .u32) (n := 8) (sn := 64) h8 hr)
    rw [Dig.hs_app] at this
    exact this
  · rcases hf with rfl | rfl | rfl | rfl | rfl <;> rfl
end Go.Proofs.Ytjljolnhmmbkoaa
