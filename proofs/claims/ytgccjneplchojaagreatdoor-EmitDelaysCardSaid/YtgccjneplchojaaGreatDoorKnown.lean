/- What is proved: the programs of rows of delays, known; what they do. Conditions: as each theorem says. -/
import Derived.Test.YtgccjneplchojaaGreatDoorWalk
import Derived.Test.YtgccjneplchojaaGreatDoorWL
import Derived.Test.YtgccjneplchojaaGreatDoorMade0
import Derived.Test.YtgccjneplchojaaGreatDoorMade1
import Derived.Test.YtgccjneplchojaaGreatDoorMade2
import Derived.Test.YtgccjneplchojaaGreatDoorMade3
import Derived.Test.YtgccjneplchojaaGreatDoorMade4
import Derived.Test.YtgccjneplchojaaGreatDoorMade5
import Derived.Test.YtgccjneplchojaaGreatDoorMade6
import Derived.Test.YtgccjneplchojaaGreatDoorMade7
import Derived.Test.YtgccjneplchojaaGreatDoorMade8
import Derived.Test.YtgccjneplchojaaGreatDoorMade9
import Derived.Test.YtgccjneplchojaaGreatDoorMade10
import Derived.Test.YtgccjneplchojaaGreatDoorMade11
import Derived.Test.YtgccjneplchojaaGreatDoorMade12
import Derived.Test.YtgccjneplchojaaGreatDoorMade13
import Derived.Test.YtgccjneplchojaaGreatDoorMade14
import Derived.Test.YtgccjneplchojaaGreatDoorMade15
import Derived.Test.YtgccjneplchojaaGreatDoorMade16
import Derived.Test.YtgccjneplchojaaGreatDoorMade17
import Derived.Test.YtgccjneplchojaaGreatDoorMade18
import Derived.Test.YtgccjneplchojaaGreatDoorMade19
import Derived.Test.YtgccjneplchojaaGreatDoorMade20
set_option linter.unusedVariables false
set_option linter.unusedSimpArgs false
set_option linter.unusedSectionVars false
namespace Go.Proofs.YtgccjneplchojaaGreatDoor
open Go.Eng Go.Plain
set_option autoImplicit false
set_option maxRecDepth 100000
variable {nat : ∀ [Deep], Nats}
abbrev D0 : Deep := ⟨6, 1000000⟩
theorem good : progOk Tryz.prog = true := by kernel_rfl
theorem few : Tryz.prog.globals.size ≤ @mostBlocks D0 := Nat.le_of_ble_eq_true (by kernel_rfl)
theorem known_all (D0 : Deep) [D : Deep] [E : Env] {P : Program} (hok : progOk P = true) (hsz : P.globals.size ≤ @mostBlocks D0) {nat : @Nats D0} (hnat : @NatsOK D0 E P nat) {n : Nat} {f : FuncId} (hb : hasBody P f = true) {t : List Known}
    (ht : @KnownAll D0 P nat n f t) (hp : ∀ e ∈ t, lall plainB e.args = true) : NatOK P f (knownNat t) :=
  natOK_of_gives fun e he _ _ _ hv => @gives_of D0 E P hok hsz nat hnat n f hb e (ht e he) (hp e he) _ _ _ hv
def progK (e : Known) : Option PD := match e.v with
  | .tup [.agg [a, b, c, d, f, g], .bool true, .int .i64 0] => match sliceI e.bs a, sliceI e.bs b, sliceI e.bs c, sliceI e.bs d, sliceI e.bs f, sliceC e.bs g with
    | some l1, some l2, some l3, some l4, some l5, some l6 => some ⟨l1, l2, l3, l4, l5, l6⟩
    | _, _, _, _, _, _ => none
  | _ => none
theorem progK_call {t : List Known} {args : List AV} {e : Known} {p : PD} {η : HN} {Q : AV → HN → Prop} (hn : ∀ [Deep], nat 23 = some (knownNat t)) (he : knownAt t args = some e) (hp : progK e = some p)
    (h : ∀ z η', IsP η' z p → ExtB η.nx η η' → Q (.tup [.agg z.cells, .bool true, .int .i64 0]) η') : ∃ v η', CallN Tryz.prog nat 23 args η v η' ∧ Q v η' := by
  refine ⟨_, _, callN_known hn he, ?_⟩
  unfold progK at hp
  split at hp
  · rename_i a b c d f g hv
    split at hp
    · rename_i l1 l2 l3 l4 l5 l6 h1 h2 h3 h4 h5 h6
      cases hp
      rw [hv]
      exact h ⟨mvA _ a, mvA _ b, mvA _ c, mvA _ d, mvA _ f, mvA _ g⟩ _ ⟨sliceI_rd h1, sliceI_rd h2, sliceI_rd h3, sliceI_rd h4, sliceI_rd h5, sliceC_rd h6⟩ (layH_ext _ _)
    · cases hp
  · cases hp
def ltB (l : List Nat) : Bool := decide (l.length ≤ 100000) && l.all fun n => decide (n < 18446744073709551616)
theorem ltB_ok {l : List Nat} (h : ltB l = true) : l.length ≤ 1099511627776 ∧ ∀ n ∈ l, n < 18446744073709551616 := by
  obtain ⟨h1, h2⟩ := Bool.and_eq_true_iff.1 h
  have := of_decide_eq_true h1
  exact ⟨by omega, fun n hn => of_decide_eq_true (List.all_eq_true.1 h2 n hn)⟩
def insB (l : List Ins) : Bool := decide (l.length ≤ 100000) && l.all fun i => decide (i.op < 18446744073709551616) && (decide (i.a < 18446744073709551616) && (decide (i.b < 18446744073709551616) && decide (i.c < 18446744073709551616)))
theorem insB_ok {l : List Ins} (h : insB l = true) : l.length ≤ 1099511627776 ∧ ∀ i ∈ l, i.op < 18446744073709551616 ∧ i.a < 18446744073709551616 ∧ i.b < 18446744073709551616 ∧ i.c < 18446744073709551616 := by
  obtain ⟨h1, h2⟩ := Bool.and_eq_true_iff.1 h
  have := of_decide_eq_true h1
  refine ⟨by omega, fun i hi => ?_⟩
  obtain ⟨a, b⟩ := Bool.and_eq_true_iff.1 (List.all_eq_true.1 h2 i hi)
  obtain ⟨b, c⟩ := Bool.and_eq_true_iff.1 b
  obtain ⟨c, d⟩ := Bool.and_eq_true_iff.1 c
  exact ⟨of_decide_eq_true a, of_decide_eq_true b, of_decide_eq_true c, of_decide_eq_true d⟩
def fineB (p : PD) : Bool := ltB p.ins && (ltB p.outs && (ltB p.slots && (ltB p.mems && (ltB p.consts && insB p.code))))
theorem fineB_ok {p : PD} (h : fineB p = true) : Fine p := by
  obtain ⟨a, h⟩ := Bool.and_eq_true_iff.1 h
  obtain ⟨b, h⟩ := Bool.and_eq_true_iff.1 h
  obtain ⟨c, h⟩ := Bool.and_eq_true_iff.1 h
  obtain ⟨d, h⟩ := Bool.and_eq_true_iff.1 h
  obtain ⟨e, h⟩ := Bool.and_eq_true_iff.1 h
  exact ⟨ltB_ok a, ltB_ok b, ltB_ok c, ltB_ok d, ltB_ok e, insB_ok h⟩
noncomputable def progD (e : Known) : PD := (progK e).getD ⟨[], [], [], [], [], []⟩
theorem prog0 : progK made0 = some (progD made0) := by kernel_rfl
theorem delays0 : Delays (progD made0) 0 := ⟨fun v a => by kernel_rfl, fun v a => by kernel_rfl, fun a => by kernel_rfl, fun a => by kernel_rfl⟩
theorem prog1 : progK made1 = some (progD made1) := by kernel_rfl
theorem delays1 : Delays (progD made1) 1 := ⟨fun v a => by kernel_rfl, fun v a => by kernel_rfl, fun a => by kernel_rfl, fun a => by kernel_rfl⟩
theorem prog2 : progK made2 = some (progD made2) := by kernel_rfl
theorem delays2 : Delays (progD made2) 2 := ⟨fun v a => by kernel_rfl, fun v a => by kernel_rfl, fun a => by kernel_rfl, fun a => by kernel_rfl⟩
theorem prog3 : progK made3 = some (progD made3) := by kernel_rfl
theorem delays3 : Delays (progD made3) 3 := ⟨fun v a => by kernel_rfl, fun v a => by kernel_rfl, fun a => by kernel_rfl, fun a => by kernel_rfl⟩
theorem prog4 : progK made4 = some (progD made4) := by kernel_rfl
theorem delays4 : Delays (progD made4) 4 := ⟨fun v a => by kernel_rfl, fun v a => by kernel_rfl, fun a => by kernel_rfl, fun a => by kernel_rfl⟩
theorem prog5 : progK made5 = some (progD made5) := by kernel_rfl
theorem delays5 : Delays (progD made5) 5 := ⟨fun v a => by kernel_rfl, fun v a => by kernel_rfl, fun a => by kernel_rfl, fun a => by kernel_rfl⟩
theorem prog6 : progK made6 = some (progD made6) := by kernel_rfl
theorem delays6 : Delays (progD made6) 6 := ⟨fun v a => by kernel_rfl, fun v a => by kernel_rfl, fun a => by kernel_rfl, fun a => by kernel_rfl⟩
theorem prog7 : progK made7 = some (progD made7) := by kernel_rfl
theorem delays7 : Delays (progD made7) 7 := ⟨fun v a => by kernel_rfl, fun v a => by kernel_rfl, fun a => by kernel_rfl, fun a => by kernel_rfl⟩
theorem prog8 : progK made8 = some (progD made8) := by kernel_rfl
theorem delays8 : Delays (progD made8) 8 := ⟨fun v a => by kernel_rfl, fun v a => by kernel_rfl, fun a => by kernel_rfl, fun a => by kernel_rfl⟩
theorem prog9 : progK made9 = some (progD made9) := by kernel_rfl
theorem delays9 : Delays (progD made9) 9 := ⟨fun v a => by kernel_rfl, fun v a => by kernel_rfl, fun a => by kernel_rfl, fun a => by kernel_rfl⟩
theorem prog10 : progK made10 = some (progD made10) := by kernel_rfl
theorem delays10 : Delays (progD made10) 10 := ⟨fun v a => by kernel_rfl, fun v a => by kernel_rfl, fun a => by kernel_rfl, fun a => by kernel_rfl⟩
theorem prog11 : progK made11 = some (progD made11) := by kernel_rfl
theorem delays11 : Delays (progD made11) 11 := ⟨fun v a => by kernel_rfl, fun v a => by kernel_rfl, fun a => by kernel_rfl, fun a => by kernel_rfl⟩
theorem prog12 : progK made12 = some (progD made12) := by kernel_rfl
theorem delays12 : Delays (progD made12) 12 := ⟨fun v a => by kernel_rfl, fun v a => by kernel_rfl, fun a => by kernel_rfl, fun a => by kernel_rfl⟩
theorem prog13 : progK made13 = some (progD made13) := by kernel_rfl
theorem delays13 : Delays (progD made13) 13 := ⟨fun v a => by kernel_rfl, fun v a => by kernel_rfl, fun a => by kernel_rfl, fun a => by kernel_rfl⟩
theorem prog14 : progK made14 = some (progD made14) := by kernel_rfl
theorem delays14 : Delays (progD made14) 14 := ⟨fun v a => by kernel_rfl, fun v a => by kernel_rfl, fun a => by kernel_rfl, fun a => by kernel_rfl⟩
theorem prog15 : progK made15 = some (progD made15) := by kernel_rfl
theorem delays15 : Delays (progD made15) 15 := ⟨fun v a => by kernel_rfl, fun v a => by kernel_rfl, fun a => by kernel_rfl, fun a => by kernel_rfl⟩
theorem prog16 : progK made16 = some (progD made16) := by kernel_rfl
theorem delays16 : Delays (progD made16) 16 := ⟨fun v a => by kernel_rfl, fun v a => by kernel_rfl, fun a => by kernel_rfl, fun a => by kernel_rfl⟩
theorem prog17 : progK made17 = some (progD made17) := by kernel_rfl
theorem delays17 : Delays (progD made17) 17 := ⟨fun v a => by kernel_rfl, fun v a => by kernel_rfl, fun a => by kernel_rfl, fun a => by kernel_rfl⟩
theorem prog18 : progK made18 = some (progD made18) := by kernel_rfl
theorem delays18 : Delays (progD made18) 18 := ⟨fun v a => by kernel_rfl, fun v a => by kernel_rfl, fun a => by kernel_rfl, fun a => by kernel_rfl⟩
theorem prog19 : progK made19 = some (progD made19) := by kernel_rfl
theorem delays19 : Delays (progD made19) 19 := ⟨fun v a => by kernel_rfl, fun v a => by kernel_rfl, fun a => by kernel_rfl, fun a => by kernel_rfl⟩
theorem prog20 : progK made20 = some (progD made20) := by kernel_rfl
theorem delays20 : Delays (progD made20) 20 := ⟨fun v a => by kernel_rfl, fun v a => by kernel_rfl, fun a => by kernel_rfl, fun a => by kernel_rfl⟩
noncomputable def madeT : List Known := (lapp [made0] (lapp [made1] (lapp [made2] (lapp [made3] (lapp [made4] (lapp [made5] (lapp [made6] (lapp [made7] (lapp [made8] (lapp [made9] (lapp [made10] (lapp [made11] (lapp [made12] (lapp [made13] (lapp [made14] (lapp [made15] (lapp [made16] (lapp [made17] (lapp [made18] (lapp [made19] [made20]))))))))))))))))))))
theorem madeT_ok : @KnownAll D0 Tryz.prog (@noNats D0) 400 23 madeT := by
  letI : Env := noEnv
  letI : Deep := D0
  exact (made0_ok.app (made1_ok.app (made2_ok.app (made3_ok.app (made4_ok.app (made5_ok.app (made6_ok.app (made7_ok.app (made8_ok.app (made9_ok.app (made10_ok.app (made11_ok.app (made12_ok.app (made13_ok.app (made14_ok.app (made15_ok.app (made16_ok.app (made17_ok.app (made18_ok.app (made19_ok.app made20_ok))))))))))))))))))))
theorem madeT_plain : lall (fun e => lall plainB e.args) madeT = true := by kernel_rfl
theorem made_nat [Deep] : @NatOK _ noEnv Tryz.prog 23 (knownNat madeT) := @known_all D0 _ noEnv _ good few _ (@noNats_ok D0 noEnv _) _ _ (by kernel_rfl) _ madeT_ok fun e he => (lall_iff _ _).1 madeT_plain e he
theorem at0 : knownAt madeT [.str (textL 0).length (bV (textL 0))] = some made0 := by kernel_rfl
theorem one0 (hn : ∀ [Deep], nat 23 = some (knownNat madeT)) : ∃ p : PD, Delays p 0 ∧ Fine p ∧ (checkF p).2 = 0 ∧ p.ins = [2] ∧ List.replicate p.mems.length 0 = memV 0 (fun _ => 0) 0 ∧
    ∀ (η : HN) (Q : AV → HN → Prop), (∀ z η', IsP η' z p → ExtB η.nx η η' → Q (.tup [.agg z.cells, .bool true, .int .i64 0]) η') → ∃ v η', CallN Tryz.prog nat 23 [.str (textL 0).length (bV (textL 0))] η v η' ∧ Q v η' :=
  ⟨progD made0, delays0, fineB_ok (by kernel_rfl), by kernel_rfl, by kernel_rfl, by kernel_rfl, fun _ _ h => progK_call hn at0 prog0 h⟩
theorem at1 : knownAt madeT [.str (textL 1).length (bV (textL 1))] = some made1 := by kernel_rfl
theorem one1 (hn : ∀ [Deep], nat 23 = some (knownNat madeT)) : ∃ p : PD, Delays p 1 ∧ Fine p ∧ (checkF p).2 = 0 ∧ p.ins = [2] ∧ List.replicate p.mems.length 0 = memV 1 (fun _ => 0) 0 ∧
    ∀ (η : HN) (Q : AV → HN → Prop), (∀ z η', IsP η' z p → ExtB η.nx η η' → Q (.tup [.agg z.cells, .bool true, .int .i64 0]) η') → ∃ v η', CallN Tryz.prog nat 23 [.str (textL 1).length (bV (textL 1))] η v η' ∧ Q v η' :=
  ⟨progD made1, delays1, fineB_ok (by kernel_rfl), by kernel_rfl, by kernel_rfl, by kernel_rfl, fun _ _ h => progK_call hn at1 prog1 h⟩
theorem at2 : knownAt madeT [.str (textL 2).length (bV (textL 2))] = some made2 := by kernel_rfl
theorem one2 (hn : ∀ [Deep], nat 23 = some (knownNat madeT)) : ∃ p : PD, Delays p 2 ∧ Fine p ∧ (checkF p).2 = 0 ∧ p.ins = [2] ∧ List.replicate p.mems.length 0 = memV 2 (fun _ => 0) 0 ∧
    ∀ (η : HN) (Q : AV → HN → Prop), (∀ z η', IsP η' z p → ExtB η.nx η η' → Q (.tup [.agg z.cells, .bool true, .int .i64 0]) η') → ∃ v η', CallN Tryz.prog nat 23 [.str (textL 2).length (bV (textL 2))] η v η' ∧ Q v η' :=
  ⟨progD made2, delays2, fineB_ok (by kernel_rfl), by kernel_rfl, by kernel_rfl, by kernel_rfl, fun _ _ h => progK_call hn at2 prog2 h⟩
theorem at3 : knownAt madeT [.str (textL 3).length (bV (textL 3))] = some made3 := by kernel_rfl
theorem one3 (hn : ∀ [Deep], nat 23 = some (knownNat madeT)) : ∃ p : PD, Delays p 3 ∧ Fine p ∧ (checkF p).2 = 0 ∧ p.ins = [2] ∧ List.replicate p.mems.length 0 = memV 3 (fun _ => 0) 0 ∧
    ∀ (η : HN) (Q : AV → HN → Prop), (∀ z η', IsP η' z p → ExtB η.nx η η' → Q (.tup [.agg z.cells, .bool true, .int .i64 0]) η') → ∃ v η', CallN Tryz.prog nat 23 [.str (textL 3).length (bV (textL 3))] η v η' ∧ Q v η' :=
  ⟨progD made3, delays3, fineB_ok (by kernel_rfl), by kernel_rfl, by kernel_rfl, by kernel_rfl, fun _ _ h => progK_call hn at3 prog3 h⟩
theorem at4 : knownAt madeT [.str (textL 4).length (bV (textL 4))] = some made4 := by kernel_rfl
theorem one4 (hn : ∀ [Deep], nat 23 = some (knownNat madeT)) : ∃ p : PD, Delays p 4 ∧ Fine p ∧ (checkF p).2 = 0 ∧ p.ins = [2] ∧ List.replicate p.mems.length 0 = memV 4 (fun _ => 0) 0 ∧
    ∀ (η : HN) (Q : AV → HN → Prop), (∀ z η', IsP η' z p → ExtB η.nx η η' → Q (.tup [.agg z.cells, .bool true, .int .i64 0]) η') → ∃ v η', CallN Tryz.prog nat 23 [.str (textL 4).length (bV (textL 4))] η v η' ∧ Q v η' :=
  ⟨progD made4, delays4, fineB_ok (by kernel_rfl), by kernel_rfl, by kernel_rfl, by kernel_rfl, fun _ _ h => progK_call hn at4 prog4 h⟩
theorem at5 : knownAt madeT [.str (textL 5).length (bV (textL 5))] = some made5 := by kernel_rfl
theorem one5 (hn : ∀ [Deep], nat 23 = some (knownNat madeT)) : ∃ p : PD, Delays p 5 ∧ Fine p ∧ (checkF p).2 = 0 ∧ p.ins = [2] ∧ List.replicate p.mems.length 0 = memV 5 (fun _ => 0) 0 ∧
    ∀ (η : HN) (Q : AV → HN → Prop), (∀ z η', IsP η' z p → ExtB η.nx η η' → Q (.tup [.agg z.cells, .bool true, .int .i64 0]) η') → ∃ v η', CallN Tryz.prog nat 23 [.str (textL 5).length (bV (textL 5))] η v η' ∧ Q v η' :=
  ⟨progD made5, delays5, fineB_ok (by kernel_rfl), by kernel_rfl, by kernel_rfl, by kernel_rfl, fun _ _ h => progK_call hn at5 prog5 h⟩
theorem at6 : knownAt madeT [.str (textL 6).length (bV (textL 6))] = some made6 := by kernel_rfl
theorem one6 (hn : ∀ [Deep], nat 23 = some (knownNat madeT)) : ∃ p : PD, Delays p 6 ∧ Fine p ∧ (checkF p).2 = 0 ∧ p.ins = [2] ∧ List.replicate p.mems.length 0 = memV 6 (fun _ => 0) 0 ∧
    ∀ (η : HN) (Q : AV → HN → Prop), (∀ z η', IsP η' z p → ExtB η.nx η η' → Q (.tup [.agg z.cells, .bool true, .int .i64 0]) η') → ∃ v η', CallN Tryz.prog nat 23 [.str (textL 6).length (bV (textL 6))] η v η' ∧ Q v η' :=
  ⟨progD made6, delays6, fineB_ok (by kernel_rfl), by kernel_rfl, by kernel_rfl, by kernel_rfl, fun _ _ h => progK_call hn at6 prog6 h⟩
theorem at7 : knownAt madeT [.str (textL 7).length (bV (textL 7))] = some made7 := by kernel_rfl
theorem one7 (hn : ∀ [Deep], nat 23 = some (knownNat madeT)) : ∃ p : PD, Delays p 7 ∧ Fine p ∧ (checkF p).2 = 0 ∧ p.ins = [2] ∧ List.replicate p.mems.length 0 = memV 7 (fun _ => 0) 0 ∧
    ∀ (η : HN) (Q : AV → HN → Prop), (∀ z η', IsP η' z p → ExtB η.nx η η' → Q (.tup [.agg z.cells, .bool true, .int .i64 0]) η') → ∃ v η', CallN Tryz.prog nat 23 [.str (textL 7).length (bV (textL 7))] η v η' ∧ Q v η' :=
  ⟨progD made7, delays7, fineB_ok (by kernel_rfl), by kernel_rfl, by kernel_rfl, by kernel_rfl, fun _ _ h => progK_call hn at7 prog7 h⟩
theorem at8 : knownAt madeT [.str (textL 8).length (bV (textL 8))] = some made8 := by kernel_rfl
theorem one8 (hn : ∀ [Deep], nat 23 = some (knownNat madeT)) : ∃ p : PD, Delays p 8 ∧ Fine p ∧ (checkF p).2 = 0 ∧ p.ins = [2] ∧ List.replicate p.mems.length 0 = memV 8 (fun _ => 0) 0 ∧
    ∀ (η : HN) (Q : AV → HN → Prop), (∀ z η', IsP η' z p → ExtB η.nx η η' → Q (.tup [.agg z.cells, .bool true, .int .i64 0]) η') → ∃ v η', CallN Tryz.prog nat 23 [.str (textL 8).length (bV (textL 8))] η v η' ∧ Q v η' :=
  ⟨progD made8, delays8, fineB_ok (by kernel_rfl), by kernel_rfl, by kernel_rfl, by kernel_rfl, fun _ _ h => progK_call hn at8 prog8 h⟩
theorem at9 : knownAt madeT [.str (textL 9).length (bV (textL 9))] = some made9 := by kernel_rfl
theorem one9 (hn : ∀ [Deep], nat 23 = some (knownNat madeT)) : ∃ p : PD, Delays p 9 ∧ Fine p ∧ (checkF p).2 = 0 ∧ p.ins = [2] ∧ List.replicate p.mems.length 0 = memV 9 (fun _ => 0) 0 ∧
    ∀ (η : HN) (Q : AV → HN → Prop), (∀ z η', IsP η' z p → ExtB η.nx η η' → Q (.tup [.agg z.cells, .bool true, .int .i64 0]) η') → ∃ v η', CallN Tryz.prog nat 23 [.str (textL 9).length (bV (textL 9))] η v η' ∧ Q v η' :=
  ⟨progD made9, delays9, fineB_ok (by kernel_rfl), by kernel_rfl, by kernel_rfl, by kernel_rfl, fun _ _ h => progK_call hn at9 prog9 h⟩
theorem at10 : knownAt madeT [.str (textL 10).length (bV (textL 10))] = some made10 := by kernel_rfl
theorem one10 (hn : ∀ [Deep], nat 23 = some (knownNat madeT)) : ∃ p : PD, Delays p 10 ∧ Fine p ∧ (checkF p).2 = 0 ∧ p.ins = [2] ∧ List.replicate p.mems.length 0 = memV 10 (fun _ => 0) 0 ∧
    ∀ (η : HN) (Q : AV → HN → Prop), (∀ z η', IsP η' z p → ExtB η.nx η η' → Q (.tup [.agg z.cells, .bool true, .int .i64 0]) η') → ∃ v η', CallN Tryz.prog nat 23 [.str (textL 10).length (bV (textL 10))] η v η' ∧ Q v η' :=
  ⟨progD made10, delays10, fineB_ok (by kernel_rfl), by kernel_rfl, by kernel_rfl, by kernel_rfl, fun _ _ h => progK_call hn at10 prog10 h⟩
theorem at11 : knownAt madeT [.str (textL 11).length (bV (textL 11))] = some made11 := by kernel_rfl
theorem one11 (hn : ∀ [Deep], nat 23 = some (knownNat madeT)) : ∃ p : PD, Delays p 11 ∧ Fine p ∧ (checkF p).2 = 0 ∧ p.ins = [2] ∧ List.replicate p.mems.length 0 = memV 11 (fun _ => 0) 0 ∧
    ∀ (η : HN) (Q : AV → HN → Prop), (∀ z η', IsP η' z p → ExtB η.nx η η' → Q (.tup [.agg z.cells, .bool true, .int .i64 0]) η') → ∃ v η', CallN Tryz.prog nat 23 [.str (textL 11).length (bV (textL 11))] η v η' ∧ Q v η' :=
  ⟨progD made11, delays11, fineB_ok (by kernel_rfl), by kernel_rfl, by kernel_rfl, by kernel_rfl, fun _ _ h => progK_call hn at11 prog11 h⟩
theorem at12 : knownAt madeT [.str (textL 12).length (bV (textL 12))] = some made12 := by kernel_rfl
theorem one12 (hn : ∀ [Deep], nat 23 = some (knownNat madeT)) : ∃ p : PD, Delays p 12 ∧ Fine p ∧ (checkF p).2 = 0 ∧ p.ins = [2] ∧ List.replicate p.mems.length 0 = memV 12 (fun _ => 0) 0 ∧
    ∀ (η : HN) (Q : AV → HN → Prop), (∀ z η', IsP η' z p → ExtB η.nx η η' → Q (.tup [.agg z.cells, .bool true, .int .i64 0]) η') → ∃ v η', CallN Tryz.prog nat 23 [.str (textL 12).length (bV (textL 12))] η v η' ∧ Q v η' :=
  ⟨progD made12, delays12, fineB_ok (by kernel_rfl), by kernel_rfl, by kernel_rfl, by kernel_rfl, fun _ _ h => progK_call hn at12 prog12 h⟩
theorem at13 : knownAt madeT [.str (textL 13).length (bV (textL 13))] = some made13 := by kernel_rfl
theorem one13 (hn : ∀ [Deep], nat 23 = some (knownNat madeT)) : ∃ p : PD, Delays p 13 ∧ Fine p ∧ (checkF p).2 = 0 ∧ p.ins = [2] ∧ List.replicate p.mems.length 0 = memV 13 (fun _ => 0) 0 ∧
    ∀ (η : HN) (Q : AV → HN → Prop), (∀ z η', IsP η' z p → ExtB η.nx η η' → Q (.tup [.agg z.cells, .bool true, .int .i64 0]) η') → ∃ v η', CallN Tryz.prog nat 23 [.str (textL 13).length (bV (textL 13))] η v η' ∧ Q v η' :=
  ⟨progD made13, delays13, fineB_ok (by kernel_rfl), by kernel_rfl, by kernel_rfl, by kernel_rfl, fun _ _ h => progK_call hn at13 prog13 h⟩
theorem at14 : knownAt madeT [.str (textL 14).length (bV (textL 14))] = some made14 := by kernel_rfl
theorem one14 (hn : ∀ [Deep], nat 23 = some (knownNat madeT)) : ∃ p : PD, Delays p 14 ∧ Fine p ∧ (checkF p).2 = 0 ∧ p.ins = [2] ∧ List.replicate p.mems.length 0 = memV 14 (fun _ => 0) 0 ∧
    ∀ (η : HN) (Q : AV → HN → Prop), (∀ z η', IsP η' z p → ExtB η.nx η η' → Q (.tup [.agg z.cells, .bool true, .int .i64 0]) η') → ∃ v η', CallN Tryz.prog nat 23 [.str (textL 14).length (bV (textL 14))] η v η' ∧ Q v η' :=
  ⟨progD made14, delays14, fineB_ok (by kernel_rfl), by kernel_rfl, by kernel_rfl, by kernel_rfl, fun _ _ h => progK_call hn at14 prog14 h⟩
theorem at15 : knownAt madeT [.str (textL 15).length (bV (textL 15))] = some made15 := by kernel_rfl
theorem one15 (hn : ∀ [Deep], nat 23 = some (knownNat madeT)) : ∃ p : PD, Delays p 15 ∧ Fine p ∧ (checkF p).2 = 0 ∧ p.ins = [2] ∧ List.replicate p.mems.length 0 = memV 15 (fun _ => 0) 0 ∧
    ∀ (η : HN) (Q : AV → HN → Prop), (∀ z η', IsP η' z p → ExtB η.nx η η' → Q (.tup [.agg z.cells, .bool true, .int .i64 0]) η') → ∃ v η', CallN Tryz.prog nat 23 [.str (textL 15).length (bV (textL 15))] η v η' ∧ Q v η' :=
  ⟨progD made15, delays15, fineB_ok (by kernel_rfl), by kernel_rfl, by kernel_rfl, by kernel_rfl, fun _ _ h => progK_call hn at15 prog15 h⟩
theorem at16 : knownAt madeT [.str (textL 16).length (bV (textL 16))] = some made16 := by kernel_rfl
theorem one16 (hn : ∀ [Deep], nat 23 = some (knownNat madeT)) : ∃ p : PD, Delays p 16 ∧ Fine p ∧ (checkF p).2 = 0 ∧ p.ins = [2] ∧ List.replicate p.mems.length 0 = memV 16 (fun _ => 0) 0 ∧
    ∀ (η : HN) (Q : AV → HN → Prop), (∀ z η', IsP η' z p → ExtB η.nx η η' → Q (.tup [.agg z.cells, .bool true, .int .i64 0]) η') → ∃ v η', CallN Tryz.prog nat 23 [.str (textL 16).length (bV (textL 16))] η v η' ∧ Q v η' :=
  ⟨progD made16, delays16, fineB_ok (by kernel_rfl), by kernel_rfl, by kernel_rfl, by kernel_rfl, fun _ _ h => progK_call hn at16 prog16 h⟩
theorem at17 : knownAt madeT [.str (textL 17).length (bV (textL 17))] = some made17 := by kernel_rfl
theorem one17 (hn : ∀ [Deep], nat 23 = some (knownNat madeT)) : ∃ p : PD, Delays p 17 ∧ Fine p ∧ (checkF p).2 = 0 ∧ p.ins = [2] ∧ List.replicate p.mems.length 0 = memV 17 (fun _ => 0) 0 ∧
    ∀ (η : HN) (Q : AV → HN → Prop), (∀ z η', IsP η' z p → ExtB η.nx η η' → Q (.tup [.agg z.cells, .bool true, .int .i64 0]) η') → ∃ v η', CallN Tryz.prog nat 23 [.str (textL 17).length (bV (textL 17))] η v η' ∧ Q v η' :=
  ⟨progD made17, delays17, fineB_ok (by kernel_rfl), by kernel_rfl, by kernel_rfl, by kernel_rfl, fun _ _ h => progK_call hn at17 prog17 h⟩
theorem at18 : knownAt madeT [.str (textL 18).length (bV (textL 18))] = some made18 := by kernel_rfl
theorem one18 (hn : ∀ [Deep], nat 23 = some (knownNat madeT)) : ∃ p : PD, Delays p 18 ∧ Fine p ∧ (checkF p).2 = 0 ∧ p.ins = [2] ∧ List.replicate p.mems.length 0 = memV 18 (fun _ => 0) 0 ∧
    ∀ (η : HN) (Q : AV → HN → Prop), (∀ z η', IsP η' z p → ExtB η.nx η η' → Q (.tup [.agg z.cells, .bool true, .int .i64 0]) η') → ∃ v η', CallN Tryz.prog nat 23 [.str (textL 18).length (bV (textL 18))] η v η' ∧ Q v η' :=
  ⟨progD made18, delays18, fineB_ok (by kernel_rfl), by kernel_rfl, by kernel_rfl, by kernel_rfl, fun _ _ h => progK_call hn at18 prog18 h⟩
theorem at19 : knownAt madeT [.str (textL 19).length (bV (textL 19))] = some made19 := by kernel_rfl
theorem one19 (hn : ∀ [Deep], nat 23 = some (knownNat madeT)) : ∃ p : PD, Delays p 19 ∧ Fine p ∧ (checkF p).2 = 0 ∧ p.ins = [2] ∧ List.replicate p.mems.length 0 = memV 19 (fun _ => 0) 0 ∧
    ∀ (η : HN) (Q : AV → HN → Prop), (∀ z η', IsP η' z p → ExtB η.nx η η' → Q (.tup [.agg z.cells, .bool true, .int .i64 0]) η') → ∃ v η', CallN Tryz.prog nat 23 [.str (textL 19).length (bV (textL 19))] η v η' ∧ Q v η' :=
  ⟨progD made19, delays19, fineB_ok (by kernel_rfl), by kernel_rfl, by kernel_rfl, by kernel_rfl, fun _ _ h => progK_call hn at19 prog19 h⟩
theorem at20 : knownAt madeT [.str (textL 20).length (bV (textL 20))] = some made20 := by kernel_rfl
theorem one20 (hn : ∀ [Deep], nat 23 = some (knownNat madeT)) : ∃ p : PD, Delays p 20 ∧ Fine p ∧ (checkF p).2 = 0 ∧ p.ins = [2] ∧ List.replicate p.mems.length 0 = memV 20 (fun _ => 0) 0 ∧
    ∀ (η : HN) (Q : AV → HN → Prop), (∀ z η', IsP η' z p → ExtB η.nx η η' → Q (.tup [.agg z.cells, .bool true, .int .i64 0]) η') → ∃ v η', CallN Tryz.prog nat 23 [.str (textL 20).length (bV (textL 20))] η v η' ∧ Q v η' :=
  ⟨progD made20, delays20, fineB_ok (by kernel_rfl), by kernel_rfl, by kernel_rfl, by kernel_rfl, fun _ _ h => progK_call hn at20 prog20 h⟩
theorem made_of (h22 : ∀ [Deep], nat 22 = some trueNat) (hn : ∀ [Deep], nat 23 = some (knownNat madeT)) : Made nat := ⟨h22, fun n h => match n, h with
  | 0, _ => one0 hn
  | 1, _ => one1 hn
  | 2, _ => one2 hn
  | 3, _ => one3 hn
  | 4, _ => one4 hn
  | 5, _ => one5 hn
  | 6, _ => one6 hn
  | 7, _ => one7 hn
  | 8, _ => one8 hn
  | 9, _ => one9 hn
  | 10, _ => one10 hn
  | 11, _ => one11 hn
  | 12, _ => one12 hn
  | 13, _ => one13 hn
  | 14, _ => one14 hn
  | 15, _ => one15 hn
  | 16, _ => one16 hn
  | 17, _ => one17 hn
  | 18, _ => one18 hn
  | 19, _ => one19 hn
  | 20, _ => one20 hn
  | n + 21, h => absurd h (by omega)⟩
theorem wakes22 : @runA D0 Tryz.prog (@noNats D0) 400 22 [] = true := by kernel_rfl
theorem awake22 [Deep] : @NatOK _ noEnv Tryz.prog 22 trueNat :=
  @trueNat_ok _ noEnv _ _ (by kernel_rfl) fun w => @runA_calls D0 noEnv _ good few _ (@noNats_ok D0 noEnv _) _ _ _ _ (@VL.nil D0 noEnv _) wakes22 w
noncomputable def natE [Deep] : Nats := natsOf [(22, trueNat), (23, knownNat madeT)]
theorem natE_ok [Deep] : @NatsOK _ noEnv Tryz.prog natE := @natsOf_cons _ noEnv _ _ _ _ awake22 (@natsOf_cons _ noEnv _ _ _ _ made_nat (@natsOf_nil _ noEnv _))
theorem usualE : Usual natE := fun f hf => by
  intro _
  have n : ∀ g, g ∈ [22, 23] → Nat.beq g f = false := fun g hg => beq_false.2 fun e => hf (by rw [← e]; exact hg)
  show ifB (Nat.beq 22 f) _ (ifB (Nat.beq 23 f) _ none) = none
  rw [n 22 (by decide), n 23 (by decide)]; rfl
theorem madeE : Made natE := made_of rfl rfl
end Go.Proofs.YtgccjneplchojaaGreatDoor
