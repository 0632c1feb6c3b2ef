/- What is proved: rounds, roots and primes are told or known; so the digests' contracts stand. Conditions: none. -/
import Derived.Test.YtfcakkiakodokaaSha7
import Derived.Test.YtfcakkiakodokaaSha11
import Derived.Test.YtfcakkiakodokaaPrimes
import Derived.Test.YtfcakkiakodokaaRoot0
import Derived.Test.YtfcakkiakodokaaRoot1
import Derived.Test.YtfcakkiakodokaaRoot2
import Derived.Test.YtfcakkiakodokaaRoot3
import Derived.Test.YtfcakkiakodokaaRoot4
import Derived.Test.YtfcakkiakodokaaRoot5
import Derived.Test.YtfcakkiakodokaaRoot6
import Derived.Test.YtfcakkiakodokaaRoot7
import Derived.Test.YtfcakkiakodokaaRoot8
import Derived.Test.YtfcakkiakodokaaRoot9
import Derived.Test.YtfcakkiakodokaaRoot10
import Derived.Test.YtfcakkiakodokaaRoot11
import Derived.Test.YtfcakkiakodokaaRoot12
import Derived.Test.YtfcakkiakodokaaRoot13
import Derived.Test.YtfcakkiakodokaaRoot14
import Derived.Test.YtfcakkiakodokaaRoot15
import Derived.Test.YtfcakkiakodokaaRoot16
import Derived.Test.YtfcakkiakodokaaRoot17
set_option linter.unusedVariables false
set_option linter.unusedSimpArgs false
set_option linter.unusedSectionVars false
namespace Go.Proofs.Ytfcakkiakodokaa
open Go.Eng
set_option autoImplicit false
set_option maxRecDepth 100000
theorem HV.eqR {g g' : ∀ [Deep], H → RV} {η η' : HN} {v : AV} (e : ∀ [Deep] (h : H), h.nx = η.nx → g h = g' h) (k : HV g' η v η') : HV g η v η' := by
  obtain ⟨k0, k⟩ := k
  refine ⟨k0, fun hd h r => ?_⟩
  obtain ⟨h', e1, e2⟩ := k hd h r
  exact ⟨h', (e h r.1).trans e1, e2⟩
noncomputable def findK (t : List Known) (args : List AV) : Option AV := List.rec (motive := fun _ => Option AV) none (fun e _ ih => ifB (avEq (.agg args) (.agg e.args)) (some e.v) ih) t
noncomputable def isIntB (a : AV) : Bool := AV.rec (motive_1 := fun _ => Bool) (motive_2 := fun _ => Unit) (fun _ => false) (fun _ _ => true) (fun _ _ => false) false (fun _ _ => false) false (fun _ _ _ _ => false) (fun _ _ _ _ _ => false) false (fun _ _ _ => false) false (fun _ _ => false) (fun _ _ => false) (fun _ => false) false (fun _ _ _ => false) (fun _ _ => false) () (fun _ _ _ _ => ()) a
noncomputable def intsB (t : List Known) : Bool := lall (fun e => and2 (Nat.beq (llen e.bs) 0) (isIntB e.v)) t
theorem find_known [Deep] {args : List AV} {v : AV} (h : H) (t : List Known) (hi : intsB t = true) (e : findK t args = some v) : knownNat t args h = .val v h := by
  induction t with
  | nil => cases e
  | cons a t ih =>
    obtain ⟨h1, h2⟩ := and2_true (show and2 (and2 (Nat.beq (llen a.bs) 0) (isIntB a.v)) (intsB t) = true from hi)
    obtain ⟨h3, h4⟩ := and2_true h1
    have e : ifB (avEq (.agg args) (.agg a.args)) (some a.v) (findK t args) = some v := e
    show ifB (avEq (.agg args) (.agg a.args)) (knownOne a h) (knownNat t args h) = _
    cases hq : avEq (.agg args) (.agg a.args) with
    | false => rw [hq] at e; exact ih h2 e
    | true =>
      rw [hq] at e
      obtain rfl : a.v = v := Option.some.inj e
      have hb : a.bs = [] := List.eq_nil_of_length_eq_zero (by have := beq_true.1 h3; rw [llen_eq] at this; exact this)
      show forceN h.nx (fun nx => layAll (fun i => Nat.add i nx) a.bs h fun h' => mkV (mvA (fun i => Nat.add i nx) a.v) h') = _
      rw [forceN_eq, hb]
      show mkV (mvA _ a.v) h = _
      rw [mkV_eq]
      cases hv : a.v <;> first | rfl | (rw [hv] at h4; exact nomatch (show false = true from h4))
theorem known_all (D0 : Deep) [D : Deep] [E : Env] {P : Program} (hok : progOk P = true) (hsz : P.globals.size ≤ @mostBlocks D0) {nat : @Nats D0} (hnat : @NatsOK D0 E P nat) {n : Nat} {f : FuncId} (hb : hasBody P f = true) {t : List Known}
    (ht : @KnownAll D0 P nat n f t) (hp : ∀ e ∈ t, lall plainB e.args = true) : NatOK P f (knownNat t) :=
  natOK_of_gives fun e he _ _ _ hv => @gives_of D0 E P hok hsz nat hnat n f hb e (ht e he) (hp e he) _ _ _ hv
noncomputable def isSome (o : Option AV) (v : AV) : Bool := Option.rec (motive := fun _ => Bool) false (fun x => avEq x v) o
theorem isSome_eq {o : Option AV} {v : AV} (h : isSome o v = true) : o = some v := by
  cases o with
  | none => cases h
  | some x =>
    letI : Deep := D0
    letI : Env := noEnv
    exact congrArg some (avEq_sound _ _ h)
noncomputable def roots : List Known := (lapp root0 (lapp root1 (lapp root2 (lapp root3 (lapp root4 (lapp root5 (lapp root6 (lapp root7 (lapp root8 (lapp root9 (lapp root10 (lapp root11 (lapp root12 (lapp root13 (lapp root14 (lapp root15 (lapp root16 root17)))))))))))))))))
theorem roots_ok : @KnownAll D0 Try.prog (@noNats D0) 200 17 roots := by
  letI : Env := noEnv
  letI : Deep := D0
  exact (root0_ok.app (root1_ok.app (root2_ok.app (root3_ok.app (root4_ok.app (root5_ok.app (root6_ok.app (root7_ok.app (root8_ok.app (root9_ok.app (root10_ok.app (root11_ok.app (root12_ok.app (root13_ok.app (root14_ok.app (root15_ok.app (root16_ok.app root17_ok)))))))))))))))))
theorem roots_int : intsB roots = true := by kernel_rfl
theorem rootK_at : lall (fun i => isSome (findK roots [.int .u64 (prs.getD i 0), .int .i64 3]) (.int .u32 (ks.getD i 0))) (List.range 64) = true := by kernel_rfl
theorem rootH_at : lall (fun i => isSome (findK roots [.int .u64 (prs.getD i 0), .int .i64 2]) (.int .u32 (H0.getD i 0))) (List.range 8) = true := by kernel_rfl
theorem roots_plain : lall (fun e => lall plainB e.args) roots = true := by kernel_rfl
theorem primes_plain : lall (fun e => lall plainB e.args) primesL = true := by kernel_rfl
theorem roundTold (c : Nat) : @toldIs D0 (@toldRun D0 Try.prog (@noNats D0) 20 18 [.agg .u32 8, .con .u32 ks] .u8 64 c) .u32 es = true := by kernel_rfl
noncomputable def nat2 [Deep] : Nats := natsOf [(8, trueNat), (22, @toldNat2 _ noEnv [.agg .u32 8] .u8 64 .u32 es), (18, @toldNat2 _ noEnv [.agg .u32 8, .con .u32 ks] .u8 64 .u32 es), (17, knownNat roots), (16, knownNat primesL)]
theorem nat2_ok [Deep] : @NatsOK _ noEnv Try.prog nat2 := by
  refine @natsOf_cons _ noEnv _ _ _ _ (@trueNat_ok _ noEnv _ _ (by kernel_rfl) fun w => @runB_calls D0 noEnv _ good few _ _ wakes w) (@natsOf_cons _ noEnv _ _ _ _ ?_ (@natsOf_cons _ noEnv _ _ _ _ ?_ (@natsOf_cons _ noEnv _ _ _ _ ?_ (@natsOf_cons _ noEnv _ _ _ _ ?_ (@natsOf_nil _ noEnv _)))))
  · exact @told_ok2 _ D0 _ noEnv good few 20 _ _ _ _ _ _ (by decide) mixTold
  · exact @told_ok2 _ D0 _ noEnv good few 20 _ _ _ _ _ _ (by decide) roundTold
  · exact @known_all D0 _ noEnv _ good few _ (@noNats_ok D0 noEnv _) _ _ (by kernel_rfl) _ roots_ok fun e he => (lall_iff _ _).1 roots_plain e he
  · exact @known_all D0 _ noEnv _ good few _ (@noNats_ok D0 noEnv _) _ _ (by kernel_rfl) _ primesL_ok fun e he => (lall_iff _ _).1 primes_plain e he
theorem hs_app {h l : List Nat} : (AV.agg (es.map fun e => AV.int .u32 (@SE.val (envL (h ++ l)) e))) = .agg (u32s (F h l)) := by
  unfold u32s F; rw [List.map_map]; rfl
theorem intL_eq (k : IntKind) : ∀ ns : List Nat, intL k ns = ns.map (.int k)
  | [] => rfl
  | n :: ns => congrArg (AV.int k n :: ·) (intL_eq k ns)
theorem told_hv2 {n sn : Nat} {ok : IntKind} {es : List SE} {k k2 : IntKind} {ns : List Nat} {η : HN} {b off : Nat} {cap : Cp} {hs bs : List Nat} (hl : hs.length = n) (hr : RdS η b off sn cap bs) :
    HV (fun h => @toldNat2 _ noEnv [.agg k n, .con k2 ns] .u8 sn ok es [.agg (hs.map (.int k)), .agg (ns.map (.int k2)), .slice b off sn cap] h) η (.agg (es.map fun e => .int ok (@SE.val (envL (hs ++ bs)) e))) η := by
  obtain ⟨h1, h2, ro, row, h3, h4, h5⟩ := hr
  refine ⟨b + 1, fun hd h r => ⟨h, ?_, r⟩⟩
  have q := r.blk b (lt_most' (Nat.lt_succ_self b) hd)
  rw [h3] at q
  obtain ⟨cs, q1, q2⟩ := q
  show ifB (Nat.beq sn sn) (rdS h b off sn fun l => seL .u8 l (.c 0) _) (.fail 96) = _
  rw [Nat.beq_refl, ifB_true]
  unfold rdS
  rw [q1]
  show ifB (Nat.ble (off + sn) row.length) _ _ = _
  rw [ble_true.2 h4, ifB_true, cgets_eq, row_eq q2 h4, h5]
  obtain ⟨r1, e1, e2⟩ := seL_map (k := .u8) (tail := .c 0) bs (fun tail => ifB (avEq (AV.agg (ns.map (AV.int k2))) (AV.agg (intL k2 ns))) (Eng.asAgg (AV.agg (hs.map (AV.int k))) fun l => ifB (Nat.beq (llen l) n) (seL k l tail fun xs => .val (.agg (es.map fun e => .int ok (@SE.val (envL (@SE.list noEnv xs)) e))) h) (.fail 96)) (.fail 96))
  refine e1.trans ?_
  rw [intL_eq, avEqL_refl, ifB_true]
  show ifB (Nat.beq (llen (hs.map (AV.int k))) n) _ _ = _
  rw [llen_eq, List.length_map, beq_true.2 hl, ifB_true]
  obtain ⟨r2, e3, e4⟩ := seL_map (k := k) (tail := r1) hs (fun xs => RV.val (.agg (es.map fun e => .int ok (@SE.val (envL (@SE.list noEnv xs)) e))) h)
  refine e3.trans ?_
  rw [@e4 noEnv, @e2 noEnv]
  have : @SE.list noEnv (.c 0) = [] := rfl
  rw [this, List.append_nil]
theorem ctx2 : Ctx2 nat2 F := by
  refine ⟨⟨fun h l => by unfold F; rw [List.length_map, es_len], fun η h b off cap l h8 hr => ?_, fun f hf => ?_⟩, fun η h b off cap l h8 hr => ?_, fun η i hi => ?_, fun η i hi => ?_, fun η => ?_, fun f hf => ?_⟩
  · have := callN_nat (P := Try.prog) (nat := nat2) (f := 22) (g := fun args h => @toldNat2 _ noEnv [.agg .u32 8] .u8 64 .u32 es args h) rfl (told_hv (ok := .u32) (es := es) (k := .u32) (n := 8) (sn := 64) h8 hr)
    rw [hs_app] at this
    exact this
  · rcases hf with rfl | rfl | rfl | rfl | rfl <;> rfl
  · have := callN_nat (P := Try.prog) (nat := nat2) (f := 18) (g := fun args h => @toldNat2 _ noEnv [.agg .u32 8, .con .u32 ks] .u8 64 .u32 es args h) rfl (told_hv2 (ok := .u32) (es := es) (k := .u32) (k2 := .u32) (ns := ks) (n := 8) (sn := 64) h8 hr)
    rw [hs_app] at this
    exact this
  · exact callN_nat (P := Try.prog) (nat := nat2) (f := 17) (g := fun args h => knownNat roots args h) rfl (HV.pure fun h => find_known h roots roots_int (isSome_eq ((lall_iff _ _).1 rootK_at i (List.mem_range.2 hi))))
  · exact callN_nat (P := Try.prog) (nat := nat2) (f := 17) (g := fun args h => knownNat roots args h) rfl (HV.pure fun h => find_known h roots roots_int (isSome_eq ((lall_iff _ _).1 rootH_at i (List.mem_range.2 hi))))
  · refine callN_nat (P := Try.prog) (nat := nat2) (f := 16) (g := fun args h => knownNat primesL args h) rfl (HV.eqR (g' := fun h => newBlk h (u64s prs) fun _ h => .val (.slice η.nx 0 64 (.un 1)) h) (fun h hn => ?_) (HV.new fun h => rfl))
    show forceN h.nx (fun nx => layAll (fun i => Nat.add i nx) [u64s prs] h fun h' => mkV (mvA (fun i => Nat.add i nx) (.slice 0 0 64 (.un 1))) h') = _
    rw [forceN_eq, hn]
    show forceL (mvL _ (u64s prs)) (fun l => newBlk h l fun _ h => mkV (.slice (0 + η.nx) 0 64 (.un 1)) h) = _
    rw [forceL_eq, Nat.zero_add]
    rfl
  · rcases hf with rfl | rfl | rfl <;> rfl
end Go.Proofs.Ytfcakkiakodokaa
