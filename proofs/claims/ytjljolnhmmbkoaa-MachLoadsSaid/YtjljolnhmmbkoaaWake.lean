/- What is proved: the law's own waking gives true, so all other functions are walked. Conditions: as each theorem says. -/
import Derived.Test.YtjljolnhmmbkoaaValC
import Derived.Test.YtjljolnhmmbkoaaPrimes
import Derived.Test.YtjljolnhmmbkoaaRoot0
import Derived.Test.YtjljolnhmmbkoaaRoot1
import Derived.Test.YtjljolnhmmbkoaaRoot2
import Derived.Test.YtjljolnhmmbkoaaRoot3
import Derived.Test.YtjljolnhmmbkoaaRoot4
import Derived.Test.YtjljolnhmmbkoaaRoot5
import Derived.Test.YtjljolnhmmbkoaaRoot6
import Derived.Test.YtjljolnhmmbkoaaRoot7
import Derived.Test.YtjljolnhmmbkoaaRoot8
import Derived.Test.YtjljolnhmmbkoaaRoot9
import Derived.Test.YtjljolnhmmbkoaaRoot10
import Derived.Test.YtjljolnhmmbkoaaRoot11
import Derived.Test.YtjljolnhmmbkoaaRoot12
import Derived.Test.YtjljolnhmmbkoaaRoot13
import Derived.Test.YtjljolnhmmbkoaaRoot14
import Derived.Test.YtjljolnhmmbkoaaRoot15
import Derived.Test.YtjljolnhmmbkoaaRoot16
import Derived.Test.YtjljolnhmmbkoaaRoot17
import Derived.Test.YtjljolnhmmbkoaaWL
set_option linter.unusedVariables false
set_option linter.unusedSimpArgs false
set_option linter.unusedSectionVars false
namespace Go.Proofs.Ytjljolnhmmbkoaa
open Go.Eng Go.Plain
set_option autoImplicit false
set_option maxRecDepth 100000
abbrev D0 : Deep := ⟨6, 1000000⟩
theorem good : progOk Try.prog = true := by kernel_rfl
theorem few : Try.prog.globals.size ≤ @mostBlocks D0 := Nat.le_of_ble_eq_true (by kernel_rfl)
theorem HV.eqR {g g' : ∀ [Deep], H → RV} {η η' : HN} {v : AV} (e : ∀ [Deep] (h : H), h.nx = η.nx → g h = g' h) (k : HV g' η v η') : HV g η v η' := by
 obtain ⟨k0, k⟩ := k
 refine ⟨k0, fun hd h r => ?_⟩
 obtain ⟨h', e1, e2⟩ := k hd h r
 exact ⟨h', (e h r.1).trans e1, e2⟩
noncomputable def findK (t : List Known) (args : List AV) : Option AV := List.rec (motive := fun _ => Option AV) none (fun e _ ih => ifB (avEq (.agg args) (.agg e.args)) (some e.v) ih) t
noncomputable def isIntB (a : AV) : Bool := AV.rec (motive_1 := fun _ => Bool) (motive_2 := fun _ => Unit) (fun _ => false) (fun _ _ => true) (fun _ _ => false) false (fun _ _ => false) false (fun _ _ _ _ => false) (fun _ _ _ _ _ => false) false (fun _ _ _ => false) false (fun _ _ => false) (fun _ _ => false) (fun _ => false) false (fun _ _ _ => false) (fun _ _ => false) () (fun _ _ _ _ => ()) a
noncomputable def intsB (t : List Known) : Bool := lall (fun e => and2 (Nat.beq (llen e.bs) 0) (isIntB e.v)) t
theorem find_known [Deep] {args : List AV} {v : AV} (h : H) (t : List Known) (hi : intsB t = true) (e : findK t args = some v) : knownNat t args h = .val v h := by
 induction t with
 | nil => cases e
 | cons a t ih =>
  obtain ⟨h1, h2⟩ := and2_true (show and2 (and2 (Nat.beq (llen a.bs) 0) (isIntB a.v)) (intsB t) = true from hi)
  obtain ⟨h3, h4⟩ := and2_true h1
  have e : ifB (avEq (.agg args) (.agg a.args)) (some a.v) (findK t args) = some v := e
  show ifB (avEq (.agg args) (.agg a.args)) (knownOne a h) (knownNat t args h) = _
  cases hq : avEq (.agg args) (.agg a.args) with
  | false => rw [hq] at e; exact ih h2 e
  | true =>
   rw [hq] at e
   obtain rfl : a.v = v := Option.some.inj e
   have hb : a.bs = [] := List.eq_nil_of_length_eq_zero (by have := beq_true.1 h3; rw [llen_eq] at this; exact this)
   show forceN h.nx (fun nx => layAll (fun i => Nat.add i nx) a.bs h fun h' => mkV (mvA (fun i => Nat.add i nx) a.v) h') = _
   rw [forceN_eq, hb]
   show mkV (mvA _ a.v) h = _
   rw [mkV_eq]
   cases hv : a.v <;> first | rfl | (rw [hv] at h4; exact nomatch (show false = true from h4))
theorem known_all (D0 : Deep) [D : Deep] [E : Env] {P : Program} (hok : progOk P = true) (hsz : P.globals.size ≤ @mostBlocks D0) {nat : @Nats D0} (hnat : @NatsOK D0 E P nat) {n : Nat} {f : FuncId} (hb : hasBody P f = true) {t : List Known}
  (ht : @KnownAll D0 P nat n f t) (hp : ∀ e ∈ t, lall plainB e.args = true) : NatOK P f (knownNat t) :=
 natOK_of_gives fun e he _ _ _ hv => @gives_of D0 E P hok hsz nat hnat n f hb e (ht e he) (hp e he) _ _ _ hv
noncomputable def isSome (o : Option AV) (v : AV) : Bool := Option.rec (motive := fun _ => Bool) false (fun x => avEq x v) o
theorem isSome_eq {o : Option AV} {v : AV} (h : isSome o v = true) : o = some v := by
 cases o with
 | none => cases h
 | some x =>
  letI : Deep := D0
  letI : Env := noEnv
  exact congrArg some (avEq_sound _ _ h)
noncomputable def roots : List Known := (lapp root0 (lapp root1 (lapp root2 (lapp root3 (lapp root4 (lapp root5 (lapp root6 (lapp root7 (lapp root8 (lapp root9 (lapp root10 (lapp root11 (lapp root12 (lapp root13 (lapp root14 (lapp root15 (lapp root16 root17)))))))))))))))))
theorem roots_ok : @KnownAll D0 Try.prog (@noNats D0) 200 67 roots := by
 letI : Env := noEnv
 letI : Deep := D0
 exact (root0_ok.app (root1_ok.app (root2_ok.app (root3_ok.app (root4_ok.app (root5_ok.app (root6_ok.app (root7_ok.app (root8_ok.app (root9_ok.app (root10_ok.app (root11_ok.app (root12_ok.app (root13_ok.app (root14_ok.app (root15_ok.app (root16_ok.app root17_ok)))))))))))))))))
theorem roots_plain : lall (fun e => lall plainB e.args) roots = true := by kernel_rfl
theorem primes_plain : lall (fun e => lall plainB e.args) primesL = true := by kernel_rfl
noncomputable def natR [Deep] : Nats := natsOf [(67, knownNat roots), (66, knownNat primesL)]
theorem natR_ok [Deep] : @NatsOK _ noEnv Try.prog natR := by
 refine @natsOf_cons _ noEnv _ _ _ _ ?_ (@natsOf_cons _ noEnv _ _ _ _ ?_ (@natsOf_nil _ noEnv _))
 ·exact @known_all D0 _ noEnv _ good few _ (@noNats_ok D0 noEnv _) _ _ (by kernel_rfl) _ roots_ok fun e he => (lall_iff _ _).1 roots_plain e he
 ·exact @known_all D0 _ noEnv _ good few _ (@noNats_ok D0 noEnv _) _ _ (by kernel_rfl) _ primesL_ok fun e he => (lall_iff _ _).1 primes_plain e he
noncomputable def wakeL : List Known := [⟨[], .bool true, [], []⟩]
theorem wakeL_ok : @KnownAll D0 Try.prog (@natR D0) 200 22 wakeL := @KnownAll.of D0 noEnv _ _ _ _ _ (by kernel_rfl)
noncomputable def nat3 [Deep] : Nats := natsOf [(22, knownNat wakeL)]
theorem wake_ok [Deep] : @NatOK _ noEnv Try.prog 22 (knownNat wakeL) :=
 @known_all D0 _ noEnv _ good few _ (@natR_ok D0) _ _ (by kernel_rfl) _ wakeL_ok fun e he => by
  rcases List.mem_cons.1 he with rfl | he
  ·rfl
  ·cases he
theorem nat3_ok [Deep] : @NatsOK _ noEnv Try.prog nat3 := @natsOf_cons _ noEnv _ _ _ _ wake_ok (@natsOf_nil _ noEnv _)
theorem wake_at [Deep] (h : H) : knownNat wakeL [] h = .val (.bool true) h := by
 show ifB (avEq (.agg []) (.agg [])) (knownOne ⟨[], .bool true, [], []⟩ h) (knownNat [] [] h) = _
 have e : avEq (.agg []) (.agg []) = true := rfl
 rw [e]
 show forceN h.nx (fun nx => layAll (fun i => Nat.add i nx) [] h fun h' => mkV (mvA (fun i => Nat.add i nx) (.bool true)) h') = _
 rw [forceN_eq]
 show mkV (.bool true) h = _
 rw [mkV_eq]
theorem usual3 : Usual nat3 := fun f hf => by
 intro _
 have h : Nat.beq 22 f = false := beq_false.2 fun e => hf (by rw [← e]; decide)
 show ifB (Nat.beq 22 f) _ _ = none
 rw [h]; rfl
theorem wakes3 (η : HN) : CallN Try.prog nat3 22 [] η (.bool true) η := callN_nat (P := Try.prog) (nat := nat3) (f := 22) (g := fun args h => knownNat wakeL args h) rfl (HV.pure fun h => wake_at h)
end Go.Proofs.Ytjljolnhmmbkoaa
