/- What is proved: the mixing of one block is told by one run; so the functions of a digest do what their contracts say. Conditions: none. -/
import Derived.Test.YtfcakkiakodokaaSha5
set_option linter.unusedVariables false
set_option linter.unusedSimpArgs false
set_option linter.unusedSectionVars false
namespace Go.Proofs.Ytfcakkiakodokaa
open Go.Eng
set_option autoImplicit false
set_option maxRecDepth 100000
abbrev D0 : Deep := ⟨6, 1000000⟩
theorem good : progOk Try.prog = true := by kernel_rfl
theorem few : Try.prog.globals.size ≤ @mostBlocks D0 := Nat.le_of_ble_eq_true (by kernel_rfl)
theorem wakes : @runB D0 Try.prog 200 8 = true := by kernel_rfl
/-- the ints of a result, told -/
noncomputable def seOf (x : AV) : SE := AV.rec (motive_1 := fun _ => SE) (motive_2 := fun _ => Unit) (fun _ => .c 0) (fun _ _ => .c 0) (fun _ _ => .c 0) (.c 0) (fun _ _ => .c 0) (.c 0) (fun _ _ _ _ => .c 0) (fun _ _ _ _ _ => .c 0) (.c 0) (fun _ _ _ => .c 0) (.c 0) (fun _ _ => .c 0) (fun _ _ => .c 0) (fun _ => .c 0) (.c 0) (fun _ _ _ => .c 0) (fun _ e => e) () (fun _ _ _ _ => ()) x
noncomputable def es : List SE := lmap seOf (@rvk D0 _ (@toldRun D0 Try.prog (@noNats D0) 20 22 [.agg .u32 8] .u8 64 64) (fun v _ => cellsA v) (fun _ => []))
theorem es_len : es.length = 8 := by kernel_rfl
theorem mixTold (c : Nat) : @toldIs D0 (@toldRun D0 Try.prog (@noNats D0) 20 22 [.agg .u32 8] .u8 64 c) .u32 es = true := by kernel_rfl
noncomputable def F (h l : List Nat) : List Nat := es.map fun e => @SE.val (envL (h ++ l)) e
noncomputable def nat [Deep] : Nats := natsOf [(8, trueNat), (22, @toldNat2 _ noEnv [.agg .u32 8] .u8 64 .u32 es)]
theorem nat_ok [Deep] : @NatsOK _ noEnv Try.prog nat := by
  refine @natsOf_cons _ noEnv _ _ _ _ (@trueNat_ok _ noEnv _ _ (by kernel_rfl) fun w => @runB_calls D0 noEnv _ good few _ _ wakes w) (@natsOf_cons _ noEnv _ _ _ _ ?_ (@natsOf_nil _ noEnv _))
  exact @told_ok2 _ D0 _ noEnv good few 20 _ _ _ _ _ _ (by decide) mixTold
theorem ctx : Ctx nat F := by
  refine ⟨fun h l => by unfold F; rw [List.length_map, es_len], fun η h b off cap l h8 hr => ?_, fun f hf => ?_⟩
  · have := callN_nat (P := Try.prog) (nat := nat) (f := 22) (g := fun args h => @toldNat2 _ noEnv [.agg .u32 8] .u8 64 .u32 es args h) rfl (told_hv (ok := .u32) (es := es) (k := .u32) (n := 8) (sn := 64) h8 hr)
    have e : (AV.agg (es.map fun e => AV.int .u32 (@SE.val (envL (h ++ l)) e))) = .agg (u32s (F h l)) := by
      unfold u32s F; rw [List.map_map]; rfl
    rw [e] at this
    exact this
  · rcases hf with rfl | rfl | rfl | rfl | rfl <;> rfl
end Go.Proofs.Ytfcakkiakodokaa
