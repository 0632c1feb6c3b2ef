/- What is proved: the mixing of one block is told, so the digests' contracts stand. rounds are told, roots and primes are known, so the document's own digest is the program's. Conditions: as each theorem says. -/
import Derived.Test.YtjljolnhmmbkoaaWake
import Derived.Test.YtjljolnhmmbkoaaDig
import Derived.Test.YtjljolnhmmbkoaaWJ
set_option linter.unusedVariables false
set_option linter.unusedSimpArgs false
set_option linter.unusedSectionVars false
namespace Go.Proofs.Ytjljolnhmmbkoaa
open Go.Eng Go.Plain
set_option autoImplicit false
set_option maxRecDepth 100000
namespace Dig
noncomputable def seOf (x : AV) : SE := AV.rec (motive_1 := fun _ => SE) (motive_2 := fun _ => Unit) (fun _ => .c 0) (fun _ _ => .c 0) (fun _ _ => .c 0) (.c 0) (fun _ _ => .c 0) (.c 0) (fun _ _ _ _ => .c 0) (fun _ _ _ _ _ => .c 0) (.c 0) (fun _ _ _ => .c 0) (.c 0) (fun _ _ => .c 0) (fun _ _ => .c 0) (fun _ => .c 0) (.c 0) (fun _ _ _ => .c 0) (fun _ e => e) () (fun _ _ _ _ => ()) x
noncomputable def es : List SE := lmap seOf (@rvk D0 _ (@toldRun D0 Try.prog (@noNats D0) 20 107 [.agg .u32 8] .u8 64 64) (fun v _ => cellsA v) (fun _ => []))
theorem es_len : es.length = 8 := by kernel_rfl
theorem mixTold (c : Nat) : @toldIs D0 (@toldRun D0 Try.prog (@noNats D0) 20 107 [.agg .u32 8] .u8 64 c) .u32 es = true := by kernel_rfl
noncomputable def F (h l : List Nat) : List Nat := es.map fun e => @SE.val (envL (h ++ l)) e
theorem hs_app {h l : List Nat} : (AV.agg (es.map fun e => AV.int .u32 (@SE.val (envL (h ++ l)) e))) = .agg (u32s (F h l)) := by
 unfold u32s F; rw [List.map_map]; rfl
end Dig
end Go.Proofs.Ytjljolnhmmbkoaa
namespace Go.Proofs.Ytjljolnhmmbkoaa
open Go.Eng Go.Plain
set_option autoImplicit false
set_option maxRecDepth 100000
namespace Dig
theorem roots_int : intsB roots = true := by kernel_rfl
theorem rootK_at : lall (fun i => isSome (findK roots [.int .u64 (prs.getD i 0), .int .i64 3]) (.int .u32 (ks.getD i 0))) (List.range 64) = true := by kernel_rfl
theorem rootH_at : lall (fun i => isSome (findK roots [.int .u64 (prs.getD i 0), .int .i64 2]) (.int .u32 (H0.getD i 0))) (List.range 8) = true := by kernel_rfl
theorem roundTold (c : Nat) : @toldIs D0 (@toldRun D0 Try.prog (@noNats D0) 20 68 [.agg .u32 8, .con .u32 ks] .u8 64 c) .u32 es = true := by kernel_rfl
theorem intL_eq (k : IntKind) : ∀ ns : List Nat, intL k ns = ns.map (.int k)
 | [] => rfl
 | n :: ns => congrArg (AV.int k n :: ·) (intL_eq k ns)
theorem told_hv2 {n sn : Nat} {ok : IntKind} {es : List SE} {k k2 : IntKind} {ns : List Nat} {η : HN} {b off : Nat} {cap : Cp} {hs bs : List Nat} (hl : hs.length = n) (hr : RdS η b off sn cap bs) :
  HV (fun h => @toldNat2 _ noEnv [.agg k n, .con k2 ns] .u8 sn ok es [.agg (hs.map (.int k)), .agg (ns.map (.int k2)), .slice b off sn cap] h) η (.agg (es.map fun e => .int ok (@SE.val (envL (hs ++ bs)) e))) η := by
 obtain ⟨h1, h2, ro, row, h3, h4, h5⟩ := hr
 refine ⟨b + 1, fun hd h r => ⟨h, ?_, r⟩⟩
 have q := r.blk b (lt_most' (Nat.lt_succ_self b) hd)
 rw [h3] at q
 obtain ⟨cs, q1, q2⟩ := q
 show ifB (Nat.beq sn sn) (rdS h b off sn fun l => seL .u8 l (.c 0) _) (.fail 96) = _
 rw [Nat.beq_refl, ifB_true]
 unfold rdS
 rw [q1]
 show ifB (Nat.ble (off + sn) row.length) _ _ = _
 rw [ble_true.2 h4, ifB_true, cgets_eq, row_eq q2 h4, h5]
 obtain ⟨r1, e1, e2⟩ := seL_map (k := .u8) (tail := .c 0) bs (fun tail => ifB (avEq (AV.agg (ns.map (AV.int k2))) (AV.agg (intL k2 ns))) (Eng.asAgg (AV.agg (hs.map (AV.int k))) fun l => ifB (Nat.beq (llen l) n) (seL k l tail fun xs => .val (.agg (es.map fun e => .int ok (@SE.val (envL (@SE.list noEnv xs)) e))) h) (.fail 96)) (.fail 96))
 refine e1.trans ?_
 rw [intL_eq, avEqL_refl, ifB_true]
 show ifB (Nat.beq (llen (hs.map (AV.int k))) n) _ _ = _
 rw [llen_eq, List.length_map, beq_true.2 hl, ifB_true]
 obtain ⟨r2, e3, e4⟩ := seL_map (k := k) (tail := r1) hs (fun xs => RV.val (.agg (es.map fun e => .int ok (@SE.val (envL (@SE.list noEnv xs)) e))) h)
 refine e3.trans ?_
 rw [@e4 noEnv, @e2 noEnv]
 have : @SE.list noEnv (.c 0) = [] := rfl
 rw [this, List.append_nil]
end Dig
noncomputable def nat5 [Deep] : Nats := natsOf [(22, knownNat wakeL), (107, @toldNat2 _ noEnv [.agg .u32 8] .u8 64 .u32 Dig.es), (68, @toldNat2 _ noEnv [.agg .u32 8, .con .u32 Dig.ks] .u8 64 .u32 Dig.es), (67, knownNat roots), (66, knownNat primesL)]
theorem nat5_ok [Deep] : @NatsOK _ noEnv Try.prog nat5 := by
 refine @natsOf_cons _ noEnv _ _ _ _ wake_ok (@natsOf_cons _ noEnv _ _ _ _ ?_ (@natsOf_cons _ noEnv _ _ _ _ ?_ (@natsOf_cons _ noEnv _ _ _ _ ?_ (@natsOf_cons _ noEnv _ _ _ _ ?_ (@natsOf_nil _ noEnv _)))))
 ·exact @told_ok2 _ D0 _ noEnv good few 20 _ _ _ _ _ _ (by decide) Dig.mixTold
 ·exact @told_ok2 _ D0 _ noEnv good few 20 _ _ _ _ _ _ (by decide) Dig.roundTold
 ·exact @known_all D0 _ noEnv _ good few _ (@noNats_ok D0 noEnv _) _ _ (by kernel_rfl) _ roots_ok fun e he => (lall_iff _ _).1 roots_plain e he
 ·exact @known_all D0 _ noEnv _ good few _ (@noNats_ok D0 noEnv _) _ _ (by kernel_rfl) _ primesL_ok fun e he => (lall_iff _ _).1 primes_plain e he
theorem usual5 : Usual nat5 := fun f hf => by
 intro _
 have h : Nat.beq 22 f = false := beq_false.2 fun e => hf (by rw [← e]; decide)
 have h2 : Nat.beq 107 f = false := beq_false.2 fun e => hf (by rw [← e]; decide)
 have h3 : Nat.beq 68 f = false := beq_false.2 fun e => hf (by rw [← e]; decide)
 have h4 : Nat.beq 67 f = false := beq_false.2 fun e => hf (by rw [← e]; decide)
 have h5 : Nat.beq 66 f = false := beq_false.2 fun e => hf (by rw [← e]; decide)
 show ifB (Nat.beq 22 f) _ (ifB (Nat.beq 107 f) _ (ifB (Nat.beq 68 f) _ (ifB (Nat.beq 67 f) _ (ifB (Nat.beq 66 f) _ _)))) = none
 rw [h, h2, h3, h4, h5]; rfl
theorem wakes5 (η : HN) : CallN Try.prog nat5 22 [] η (.bool true) η := callN_nat (P := Try.prog) (nat := nat5) (f := 22) (g := fun args h => knownNat wakeL args h) rfl (HV.pure fun h => wake_at h)
theorem dig5 : Dig.Ctx2 nat5 Dig.F := by
 refine ⟨⟨fun h l => by unfold Dig.F; rw [List.length_map, Dig.es_len], fun η h b off cap l h8 hr => ?_, fun f hf => ?_⟩, fun η h b off cap l h8 hr => ?_, fun η i hi => ?_, fun η i hi => ?_, fun η => ?_, fun f hf => ?_⟩
 ·have := callN_nat (P := Try.prog) (nat := nat5) (f := 107) (g := fun args h => @toldNat2 _ noEnv [.agg .u32 8] .u8 64 .u32 Dig.es args h) rfl (told_hv (ok := .u32) (es := Dig.es) (k := .u32) (n := 8) (sn := 64) h8 hr)
  rw [Dig.hs_app] at this
  exact this
 ·rcases hf with rfl | rfl | rfl | rfl | rfl <;> rfl
 ·have := callN_nat (P := Try.prog) (nat := nat5) (f := 68) (g := fun args h => @toldNat2 _ noEnv [.agg .u32 8, .con .u32 Dig.ks] .u8 64 .u32 Dig.es args h) rfl (Dig.told_hv2 (ok := .u32) (es := Dig.es) (k := .u32) (k2 := .u32) (ns := Dig.ks) (n := 8) (sn := 64) h8 hr)
  rw [Dig.hs_app] at this
  exact this
 ·exact callN_nat (P := Try.prog) (nat := nat5) (f := 67) (g := fun args h => knownNat roots args h) rfl (HV.pure fun h => find_known h roots Dig.roots_int (isSome_eq ((lall_iff _ _).1 Dig.rootK_at i (List.mem_range.2 hi))))
 ·exact callN_nat (P := Try.prog) (nat := nat5) (f := 67) (g := fun args h => knownNat roots args h) rfl (HV.pure fun h => find_known h roots Dig.roots_int (isSome_eq ((lall_iff _ _).1 Dig.rootH_at i (List.mem_range.2 hi))))
 ·refine callN_nat (P := Try.prog) (nat := nat5) (f := 66) (g := fun args h => knownNat primesL args h) rfl (HV.eqR (g' := fun h => newBlk h (Dig.u64s Dig.prs) fun _ h => .val (.slice η.nx 0 64 (.un 1)) h) (fun h hn => ?_) (HV.new fun h => rfl))
  show forceN h.nx (fun nx => layAll (fun i => Nat.add i nx) [Dig.u64s Dig.prs] h fun h' => mkV (mvA (fun i => Nat.add i nx) (.slice 0 0 64 (.un 1))) h') = _
  rw [forceN_eq, hn]
  show forceL (mvL _ (Dig.u64s Dig.prs)) (fun l => newBlk h l fun _ h => mkV (.slice (0 + η.nx) 0 64 (.un 1)) h) = _
  rw [forceL_eq, Nat.zero_add]
  rfl
 ·rcases hf with rfl | rfl | rfl <;> rfl
end Go.Proofs.Ytjljolnhmmbkoaa
