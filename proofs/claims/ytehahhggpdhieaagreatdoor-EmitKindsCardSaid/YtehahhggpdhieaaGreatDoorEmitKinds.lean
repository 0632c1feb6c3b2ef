/- EmitKinds: a program's kinds are its main node's; each step ends; its memories begin at noughts. Conditions: none. -/
import Derived.Test.YtehahhggpdhieaaGreatDoorCards
import Derived.Test.YtehahhggpdhieaaGreatDoorTie
import Derived.WalkKit
import Derived.ProofKit
import Derived.LaidMore
import Derived.OpenShut
import Derived.Stop.Joined
import Derived.SevenTiedAt
import Derived.Test.YtehahhggpdhieaaGreatDoorX38
namespace Go.Proofs.YtehahhggpdhieaaGreatDoor.emitKinds
open Go.ChangeShapes Go.WideShapes Go.ChangeAt Go.WideMaps Go.WideElems Go.RowKit
set_option autoImplicit false
set_option maxRecDepth 100000
set_option linter.all false
theorem own:ownKnob Tryz.prog.godebug=none:=by kernel_rfl
theorem laid:laidOutB Tryz.prog=true:=by kernel_rfl
theorem ahX:Tryz.prog.readableRec 9=true:=by kernel_rfl
theorem ain:9<Tryz.prog.types.size:=gf (by kernel_rfl)
theorem ahv:Tryz.prog.wantsStandIn 9=false:=by kernel_rfl
theorem walk{Hh:Type}{enc:TypeId×Value->Hh}{W:World}{base:Nat}(hT:∃N,∀H,CR H true pS 0 0 N W){v0:Value}{d0:DataW Hh}{ps0:L MemPlace}(o0:Value.okWide Tryz.prog W .any base 9 v0)(h0:DataW.Trod enc Tryz.prog W 0 (λ_=>true) true 9 v0 d0 ps0):
  Calls Tryz.prog 5 #[v0] W λe w'=>e=.returned (.bool true)/\Kept W w':=by
 let⟨N,hT⟩:=hT;obtain⟨a0,rfl,rfl,rfl,w0⟩:=Go.ChangeMaps.open_string Tryz.underlying9 o0 h0;obtain⟨r,U',hc,rfl⟩:=ac5 (T:=a0.data.toList) (by rw[ZA];exact w0);refine(afc R3 (q:=[.string a0]) (j:=[]) (n:=[]) R hc (w:=W) hT (λi l _ hi=>by simp at hi) (VL.cons (mc.2 ⟨a0,R,R,R⟩) VL.nil)).mono λe w' ⟨u,H',he,hu,hk⟩=>?_;rw[mK.1 hu] at he;exact⟨he,hk⟩
theorem acS(os:Os)(args:Array Value):laidMetH Tryz.prog AO ((World.doorLaid Tryz.prog 400 os).forCall (λ_ _=>0) ⟨#[],args,[]⟩).memory:=
 laidMetH_of_parts3 (fuel:=8) (laidMet_of_run' 8 (by kernel_rfl) (by kernel_rfl)) (by kernel_rfl) (by kernel_rfl)
theorem lifted(os:Os)(started:os.Started)(Hh:Type)(enc:TypeId×Value->Hh):
  ReturnsInHanded {} Tryz.checked os 5 .any (λw args=>(Rows.emitKindsSpec.pre enc Tryz.prog Tryz.f5 [] false w args/\laidMetH Tryz.prog AO w)/\sizedMet enc Tryz.prog Tryz.f5 (OpenSpec.ofChange Rows.emitKindsSpec) false w args)
   (Rows.emitKindsSpec.post enc Tryz.prog Tryz.f5 false true false false):=by
 refine returnsInHanded_of_change_and (C:=Tryz.checked) (X:=λw _=>laidMetH Tryz.prog AO w) (λ_ _ _ hh h=>h.of_heap hh) own started (by kernel_rfl) Tryz.func5
  (ChangeSpec.witness_shaped (enc:=enc) (C:=Tryz.checked) (os:=os) (X:=λw _=>laidMetH Tryz.prog AO w) false (World.doorLaid Tryz.prog 400 os) #[.string ⟨#[]⟩] 8 R (World.shaped_of_RefB (by kernel_rfl) (by kernel_rfl)) (by kernel_rfl) (by kernel_rfl) (by kernel_rfl) (acS os _)) ?_
 intro W base args ds gs before hval0 hW _ _ hL _;have hval:∀(j:Nat) t v,Tryz.f5.params[j]?=some t->args[j]?=some v->Value.okWide Tryz.prog W .any base t v:=hval0;have hW':=hW;obtain⟨p,q,hA0,hV,rfl,hfz,hnd⟩:=hW;have hA:DataW.TrodAll enc Tryz.prog W 0 (λ_=>true) true Tryz.f5.params.toList args.toList ds p:=hA0;rw[Tryz.params5] at hA hval;obtain⟨v0,vs0,d0,ds0,p0,q0,hargs,rfl,rfl,h0,r0⟩:=trodAll_cons hA;obtain⟨rfl,rfl,rfl⟩:=trodAll_nil r0;obtain rfl:args=#[v0]:=by cases args;simp_all
 obtain⟨rfl,rfl⟩:=trodVars_none hV;have o0:=hval 0 9 v0 R R;clear hA0 hval0;simp only[eB] at hW';refine(walk (ai8 hL) o0 h0).mono λe W' ⟨he,hg⟩=>?_;subst he;exact⟨_,R,ahw (l:=p0) (m:=[]) hW' (λ_ _=>(trodAll_cons_mk (shut_bool Tryz.underlying4 _) trodAll_mk0))
  (λsp hsp=>by
   have q:=(trodAll_cons_mk (ajr (i:=sp) laid ahX ain h0 hg λq hq=>hsp q (by simp[hq])) trodAll_mk0);simp only[eB] at q;rw[Tryz.params5];exact q) (λ_ _=>R) dp hg⟩
theorem over:Rows.EmitKindsSaid:=
 OpenClaim.holds_of_wide 5 Tryz.f5 R R R R R R R dy R R R R R (by kernel_rfl) Tryz.func5 (by kernel_rfl)
  (eL (by kernel_rfl)) (by unfold Func.isWrapper;first|(rw[ae (by decide+kernel)];kernel_rfl)|(rw[ac (by decide+kernel)];exact dy))
  (λos started Hh enc _=>lifted os started Hh enc)
theorem proved:Rows.EmitKindsCardSaid:=
 Claim7.holds_tied_plain_at .later [] [.data,.data,.data] true (true,"ea6996639465d0de482fa28c91c3a11b06981a352c93bb0c16bdac20a635faef") false
  over (λ_ h=>by cases h) (by kernel_rfl) (λ_ h=>by cases h) emitKinds_row_tie R dy (by kernel_rfl) R
  (λf fn hf hfn=>by
   obtain rfl:f=5:=jX ((show Tryz.prog.funcNamed "escapement/escapementlaw15.EmitKinds"=some 5 by kernel_rfl).s.t hf)|>.s;obtain rfl:fn=Tryz.f5:=(jX (Tryz.func5.s.t hfn)).s;exact⟨by kernel_rfl,λj t ht=>by
    rw[Tryz.params5] at ht
    match j with
    |0=>simp at ht;subst ht;exact ahv
    |j+1=>simp at ht⟩)
  (by kernel_rfl)
#print axioms proved
end Go.Proofs.YtehahhggpdhieaaGreatDoor.emitKinds
