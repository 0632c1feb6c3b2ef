/- What is proved: FlatCounts gives true, if its walk does, whatever its arguments and the world in which the listed variables read as the program's text lays them; with the tie to that text. Conditions: as each theorem says. -/
import Derived.Test.YtdeejbnhlbddgaaGreatDoorWN
import Derived.Test.YtdeejbnhlbddgaaGreatDoorWJ
import Derived.Test.YtdeejbnhlbddgaaGreatDoorRows
import Derived.Test.YtdeejbnhlbddgaaGreatDoorCards
import Derived.Test.YtdeejbnhlbddgaaGreatDoorTie
import Derived.WalkKit
import Derived.ProofKit
import Derived.LaidMore
import Derived.OpenShut
import Derived.Stop.Joined
import Derived.SevenTiedAt
set_option linter.unusedVariables false
set_option linter.unusedSimpArgs false
set_option linter.unusedSectionVars false
namespace Go.Proofs.YtdeejbnhlbddgaaGreatDoor.flatCounts
open Go.ChangeShapes Go.WideShapes Go.ChangeAt Go.WideMaps Go.WideElems Go.RowKit
set_option autoImplicit false
set_option maxRecDepth 100000
set_option linter.unusedVariables false
theorem own:ownKnob Tryz.prog.godebug=none:=by kernel_rfl
theorem laid:laidOutB Tryz.prog=true:=by kernel_rfl
theorem reads3:Tryz.prog.readableRec 3=true:=by kernel_rfl
theorem row3:3<Tryz.prog.types.size:=Nat.le_of_ble_eq_true (by kernel_rfl)
theorem plain_in3:Tryz.prog.wantsStandIn 3=false:=by kernel_rfl
def WalkS:Prop:=∀{H:Type} {enc:TypeId×Value→H} {W:World} {base:Nat} {v0:Value} {d0:DataW H} {ps0:List MemPlace} {v1:Value} {d1:DataW H} {ps1:List MemPlace} (o0:Value.okWide Tryz.prog W .any base 3 v0) (h0:DataW.Trod enc Tryz.prog W 0 (fun _=>true) true 3 v0 d0 ps0) (o1:Value.okWide Tryz.prog W .any base 3 v1) (h1:DataW.Trod enc Tryz.prog W 0 (fun _=>true) true 3 v1 d1 ps1),
  Calls Tryz.prog 3 #[v0,v1] W fun e w'=>e=.returned (.bool true)∧Eng.Kept W w'
def laidHere:List (String×DataW Unit):=[("math/bits.deBruijn32tab",Rows.laid_math_bits_deBruijn32tab),("math/bits.deBruijn64tab",Rows.laid_math_bits_deBruijn64tab),("internal/strconv.uint64pow10",Rows.laid_internal_strconv_uint64pow10)]
theorem door_met (os:Os) (args:Array Value):laidMetH Tryz.prog laidHere ((World.doorLaid Tryz.prog 400 os).forCall (fun _ _=>0) ⟨#[],args,[]⟩).memory :=
 laidMetH_of_parts3 (fuel:=8) (laidMet_of_run' 8 (by kernel_rfl) (by kernel_rfl)) (by kernel_rfl) (by kernel_rfl)
set_option maxRecDepth 100000 in
theorem lifted (walk:WalkS) (os:Os) (started:os.Started) (H:Type) (enc:TypeId×Value→H) :
  ReturnsInHanded {} Tryz.checked os 3 .any (fun w args=>(Rows.flatCountsSpec.pre enc Tryz.prog Tryz.f3 [] false w args∧laidMetH Tryz.prog laidHere w)∧sizedMet enc Tryz.prog Tryz.f3 (OpenSpec.ofChange Rows.flatCountsSpec) false w args)
   (Rows.flatCountsSpec.post enc Tryz.prog Tryz.f3 false true false false):=by
 refine returnsInHanded_of_change_and (C:=Tryz.checked) (X:=fun w _=>laidMetH Tryz.prog laidHere w) (fun _ _ _ hh h=>h.of_heap hh) own started (by kernel_rfl) Tryz.func3
  (ChangeSpec.witness_shaped (enc:=enc) (C:=Tryz.checked) (os:=os) (X:=fun w _=>laidMetH Tryz.prog laidHere w) false (World.doorLaid Tryz.prog 400 os) #[.int .i64 0,.int .i64 0] 8 rfl (World.shaped_of_RefB (by kernel_rfl) (by kernel_rfl)) (by kernel_rfl) (by kernel_rfl) (by kernel_rfl) (door_met os _)) ?_
 intro W base args ds gs before hval0 hW _ _ hL _
 have hval:∀(j:Nat) t v,Tryz.f3.params[j]?=some t→args[j]?=some v→Value.okWide Tryz.prog W .any base t v:=hval0
 have hW':=hW
 obtain⟨p,q,hA0,hV,rfl,hfz,hnd⟩:=hW
 have hA:DataW.TrodAll enc Tryz.prog W 0 (fun _=>true) true Tryz.f3.params.toList args.toList ds p:=hA0
 rw[Tryz.params3]at hA hval
 obtain⟨v0,vs0,d0,ds0,p0,q0,hargs,rfl,rfl,h0,r0⟩:=trodAll_cons hA
 obtain⟨v1,vs1,d1,ds1,p1,q1,rfl,rfl,rfl,h1,r1⟩:=trodAll_cons r0
 obtain⟨rfl,rfl,rfl⟩:=trodAll_nil r1
 obtain rfl:args=#[v0,v1]:=by cases args;simp_all
 obtain⟨rfl,rfl⟩:=trodVars_none hV
 have o0:=hval 0 3 v0 rfl rfl
 have o1:=hval 1 3 v1 rfl rfl
 clear hA0 hval0
 simp only[List.append_nil]at hW'
 refine(walk o0 h0 o1 h1).mono fun e W' ⟨he,hg⟩=>?_
 subst he
 letI:Eng.Deep:=⟨0,0⟩
 letI:Eng.Env:=Eng.noEnv
 exact⟨_,rfl,Eng.post_of_kept (pa:=p0++(p1)) (pv:=[]) hW' (fun _ _=>(trodAll_cons_mk (shut_bool Tryz.underlying4 _) trodAll_mk0))
  (fun sp hsp=>by
   have q:=(trodAll_cons_mk (Eng.trod_keep (sp:=sp) laid reads3 row3 h0 hg fun q hq=>hsp q (by simp [hq])) (trodAll_cons_mk (Eng.trod_keep (sp:=sp) laid reads3 row3 h1 hg fun q hq=>hsp q (by simp [hq])) trodAll_mk0))
   simp only[List.append_nil]at q
   rw[Tryz.params3];exact q) (fun _ _=>rfl) (by simp) hg⟩
theorem over (walk:WalkS):Rows.FlatCountsSaid :=
 OpenClaim.holds_of_wide 3 Tryz.f3 rfl rfl rfl rfl rfl rfl rfl ⟨rfl,rfl,rfl,rfl,rfl⟩ rfl rfl rfl rfl rfl (by kernel_rfl) Tryz.func3 (by kernel_rfl)
  (of_decide_eq_true (by kernel_rfl)) (by unfold Func.isWrapper;first|(rw[if_pos (by decide +kernel)];kernel_rfl)|(rw[if_neg (by decide +kernel)];exact⟨rfl,rfl⟩))
  (fun os started H enc _=>lifted walk os started H enc)
theorem proved_of (walk:WalkS):Rows.FlatCountsCardSaid :=
 Claim7.holds_tied_plain_at .later [] [.data,.data,.data] true (true, "17595ee79196bfd607931eccb709d5550df451cd481530d8b66f224b610959f7") false
  (over walk) (fun _ h=>by cases h) (by kernel_rfl) (fun _ h=>by cases h) flatCounts_row_tie rfl ⟨rfl,rfl⟩ (by kernel_rfl) rfl
  (fun f fn hf hfn=>by
   obtain rfl:f=3:=Option.some.inj ((show Tryz.prog.funcNamed "escapement/escapementlaw13.FlatCounts" = some 3 by kernel_rfl).symm.trans hf) |>.symm
   obtain rfl:fn=Tryz.f3:=(Option.some.inj (Tryz.func3.symm.trans hfn)).symm
   exact⟨by kernel_rfl,fun j t ht=>by
    rw[Tryz.params3]at ht
    match j with
    |0=>simp at ht;subst ht;exact plain_in3
    |1=>simp at ht;subst ht;exact plain_in3
    |j+2=>simp at ht⟩)
  (by kernel_rfl)
end Go.Proofs.YtdeejbnhlbddgaaGreatDoor.flatCounts
