/- What is proved: what the document's kind of an expression does. Conditions: as each theorem says. -/
import Derived.Test.YtdeejbnhlbddgaaGreatDoorRefA
import Derived.Test.YtdeejbnhlbddgaaGreatDoorPlainR
import Derived.Test.YtdeejbnhlbddgaaGreatDoorRefB
set_option linter.unusedVariables false
set_option linter.unusedSimpArgs false
set_option linter.unusedSectionVars false
namespace Go.Plain
open Go.Eng
set_option autoImplicit false
theorem kdEs_snoc {l:List Nd} {n:Nd}:∀(ks:List Tr) (k:Tr) (b:Bd),kdEs l n (ks++[k]) b=((kdEs l n ks b).1++[(kdE l n k (kdEs l n ks b).2).1],(kdE l n k (kdEs l n ks b).2).2)
 | [],k,b=>by simp only[kdEs,List.nil_append]
 |a::r,k,b=>by simp only[kdEs,List.cons_append,kdEs_snoc r]
theorem kdEs_len {l:List Nd} {n:Nd}:∀(ks:List Tr) (b:Bd),(kdEs l n ks b).1.length=ks.length
 | [],b=>by simp only[kdEs,List.length_nil]
 |a::r,b=>by simp only[kdEs,List.length_cons,kdEs_len r]
mutual
theorem kdE_le {l:List Nd} {n:Nd}:∀(e:Tr) (b:Bd),b.1≤100→(kdE l n e b).2.1≤100
 |.mk op nm _ a ks,b,hb=>by
  unfold kdE
  exact failIf_le (by decide) (kdEs_le ks _ hb)
theorem kdEs_le {l:List Nd} {n:Nd}:∀(ks:List Tr) (b:Bd),b.1≤100→(kdEs l n ks b).2.1≤100
 | [],b,hb=>by unfold kdEs;exact hb
 |k::r,b,hb=>by
  unfold kdEs
  exact kdEs_le r _ (kdE_le k _ hb)
end
def kdc (K:List Nat):List AV:=K.map fun k=>.int .i64 k
theorem own_kinds {lo:Nat} {η:HN} {x:AV} {K:List Nat} (o:OwnA 1 lo η x K.length (kdc K)) (h:0<K.length):∃b,lo≤b∧b<η.nx∧x=.slice b 0 K.length (.un 1)∧η.f b=.live false (kdc K):=by
 obtain⟨_,⟨_,q⟩|⟨b,h1,h2,⟨_,q,_⟩|⟨h3,h4⟩⟩⟩:=o
 ·omega
 ·omega
 ·exact⟨b,h1,h2,h3,h4⟩
theorem kdc_flat:∀K:List Nat,(K.map fun k=>[AV.int .i64 k]).flatten=kdc K
 | []=>rfl
 |k::K=>by
  show AV.int .i64 k::(K.map fun k=>[AV.int .i64 k]).flatten=AV.int .i64 k::kdc K
  rw[kdc_flat K]
end Go.Plain
namespace Go.Proofs.YtdeejbnhlbddgaaGreatDoor
open Go.Eng Go.Plain
set_option autoImplicit false
set_option maxRecDepth 100000
variable {nat:∀ [Deep],Nats}
theorem own_kdR {lo:Nat} {η:HN} {x:AV} {K:List Nat} (o:OwnA 1 lo η x K.length (kdc K)):RdR 1 η x (K.map fun k=>[AV.int .i64 k]) :=
 own_rdR (ls:=K.map fun k=>[AV.int .i64 k]) (by rw[kdc_flat,List.length_map];exact o) fun l hl=>by obtain⟨k,_,rfl⟩:=List.mem_map.1 hl;rfl
set_option maxHeartbeats 8000000 in
theorem kind6_then (U:Usual nat) {η0:HN} {v:AV} {l:List Nd} {n:Nd} {z:List AV} (T:Trees η0 v l n z) {cb:Nat} (hc:η0.nx≤cb):∀(e:Tr),okE e→wanE e→knownE l n e→∀(η:HN) (ze:List AV) (b:Bd) (Q:AV→HN→Prop),ExtB η0.nx η0 η→cb<η.nx→BdAt η cb b→b.1≤100→rdE tt η0 e ze →
  (∀η',ExtX cb η η'→BdAt η' cb (kdE l n e b).2→Q (.int .i64 (kdE l n e b).1) η')→∃v' η',CallN Tryz.prog nat 76 [.ptr cb 0,v,.agg z,.agg ze] η v' η'∧Q v' η':=by
 refine Tr.ind fun op nm N a ks ih=>?_
 intro ok wan kno η ze b Q x' hcn hb hb1 r kk
 unfold okE at ok
 unfold wanE at wan
 unfold knownE at kno
 obtain⟨ha,hkl,hks⟩:=ok
 have hks:=(okEs_iff _).1 hks
 have hws:=(wanEs_iff _).1 wan.2
 have hkn:=(knownEs_iff _).1 kno.2
 unfold rdE at r
 obtain⟨y,rfl,-,ls,ry,rks⟩:=r
 have hll:=(rdEs_len rks).1
 have T':=T
 obtain⟨y1,y2,y3,y4,rfl,-⟩:=T'.hz
 obtain⟨ls',rv,rl⟩:=T.hv
 obtain⟨hl,hok⟩:=T.hl
 have hsn:sV n.nm=.str n.nm.1 n.nm.2:=rfl
 have eE:kdE l n (.mk op nm N a ks) b=((ownD l n op nm (kdEs l n ks b).1).2,failIf (!(ownD l n op nm (kdEs l n ks b).1).1) 9 a (kdEs l n ks b).2):=by
  conv=>lhs;unfold kdE
 rw[eE]at kk
 have l3:=fun η' e w=>row_len (η':=η') ry hll (by omega) e w
 refine call_of (PT:=pl76) Tryz.func76 rfl (U 76 (by decide)) ok76 rfl ?_
 obtain⟨K,hK⟩:∃K:FN→HN→Prop,∀φ ζ,K φ ζ↔∃x,(φ 0=.ptr cb 0∧φ 1=v∧φ 6=.ptr η.nx 0∧φ 7=.ptr (η.nx+1) 0∧φ 9=x)∧OwnA 1 (η.nx+2) ζ x (kdEs l n ks b).1.length (kdc (kdEs l n ks b).1)∧ExtX cb η ζ∧η.nx+1<ζ.nx∧ζ.f η.nx=.live false [.str n.nm.1 n.nm.2,y1,y2,y3,y4,.int .i64 n.a]∧ζ.f (η.nx+1)=.live false [.str op.1 op.2,.str nm.1 nm.2,.int .i64 N,.int .i64 a,y]∧BdAt ζ cb (kdEs l n ks b).2:=⟨_,fun _ _=>Iff.rfl⟩
 refine wp_cut (M:=K) 3 _ _ _ ?_ ?_
 rotate_left
 ·obtain⟨η1,h1⟩:∃η1,η1=(η.new (.live false [.str n.nm.1 n.nm.2,y1,y2,y3,y4,.int .i64 n.a])).new (.live false [.str op.1 op.2,.str nm.1 nm.2,.int .i64 N,.int .i64 a,y]):=⟨_,rfl⟩
  have E:ExtB η.nx η η1:=by rw[h1];exact extN (extN (.refl _ _))
  have c0:η1.f η.nx=.live false [.str n.nm.1 n.nm.2,y1,y2,y3,y4,.int .i64 n.a]:=by rw[h1];exact(if_neg (by show¬η.nx=η.nx+1;omega)).trans (if_pos rfl)
  have c1:η1.f (η.nx+1)=.live false [.str op.1 op.2,.str nm.1 nm.2,.int .i64 N,.int .i64 a,y]:=by rw[h1];exact if_pos rfl
  have n1:η1.nx=η.nx+2:=by rw[h1];rfl
  have cb1:BdAt η1 cb b:=(E.2 _ hcn).trans hb
  have X:ExtX cb η η1:=extB_X cb E
  simp -implicitDefEqProofs(disch:=omega)only[go_sem,sV,hsn]
  rw[←h1]
  clear h1
  obtain⟨I,hI⟩:∃I:Nat→FN→HN→Prop,∀m φ ζ,I m φ ζ↔∃i x,m=ks.length-i∧i≤ks.length∧(φ 0=.ptr cb 0∧φ 1=v∧φ 6=.ptr η.nx 0∧φ 7=.ptr (η.nx+1) 0∧φ 9=x∧φ 10=.int .i64 i)∧OwnA 1 (η.nx+2) ζ x i (kdc (kdEs l n (ks.take i) b).1)∧ExtX cb η ζ∧η.nx+1<ζ.nx∧ζ.f η.nx=.live false [.str n.nm.1 n.nm.2,y1,y2,y3,y4,.int .i64 n.a]∧ζ.f (η.nx+1)=.live false [.str op.1 op.2,.str nm.1 nm.2,.int .i64 N,.int .i64 a,y]∧BdAt ζ cb (kdEs l n (ks.take i) b).2:=⟨_,fun _ _ _=>Iff.rfl⟩
  have k0:kdEs l n (ks.take 0) b=([],b):=by simp only[List.take_zero,kdEs]
  refine wpN_loop I ks.length ((hI _ _ _).2 ⟨0,.nilslice,rfl,Nat.zero_le _,⟨rfl,rfl,rfl,rfl,rfl,rfl⟩,by rw[k0];exact .nil,X,by omega,c0,c1,by rw[k0];exact cb1⟩) ?_
  clear X c0 c1
  intro m φ ζ hi
  obtain⟨i,xk,hm,hi,⟨p0,p1,p6,p7,p9,p10⟩,ox,X,nz,c0,c1,hbd⟩:=(hI _ _ _).1 hi
  have xz:=extX_B x' hc X
  by_cases hlt:i<ks.length
  ·obtain⟨hi',ri⟩:=rdEs_at rks i hlt
   obtain⟨bk,off,cap,ro,row,rfl,hbv,hbn,hlen,hrow⟩:=ry.at hi'
   have hbz:ζ.f bk=_:=(xz.2 bk hbn).trans hbv
   obtain⟨f1,f2,f3,f4,f5,ef⟩:=rdE_cells ri
   rw[ef]at hrow ri
   simp -implicitDefEqProofs(disch:=omega)only[go_sem,p0,p1,p6,p7,p9,p10,c0,c1,l3,hbz,hrow]
   have xa:ExtB η0.nx η0 (ζ.at_ (ζ.nx+13)):=⟨by show η0.nx≤ζ.nx+13;have:=xz.1;omega,xz.2⟩
   refine dE_call (ih _ (List.getElem_mem hlt) (hks _ (List.getElem_mem hlt)) (hws _ (List.getElem_mem hlt)) (hkn _ (List.getElem_mem hlt)) (ζ.at_ (ζ.nx+13)) _ (kdEs l n (ks.take i) b).2 _ xa (by show cb<ζ.nx+13;have:=X.1;omega) hbd (kdEs_le _ _ hb1) ri fun ζ8 X8 hbd8=>?_)
   have n8:ζ.nx+13≤ζ8.nx:=X8.1
   have k8:∀c,c<ζ.nx→c≠cb→ζ8.f c=ζ.f c:=fun c h1 h2=>X8.2 c (by show c<ζ.nx+13;omega) h2
   have lx:=X.1
   have cx:=x'.1
   have d0:ζ8.f η.nx=_:=(k8 _ (by omega) (by omega)).trans c0
   have d1:ζ8.f (η.nx+1)=_:=(k8 _ (by omega) (by omega)).trans c1
   have d2:ζ8.f bk=_:=(k8 _ (by have:=xz.1;omega) (by omega)).trans hbz
   simp -implicitDefEqProofs(disch:=omega)only[go_sem,p0,p1,p6,p7,p9,p10,d0,d1,d2,hrow,repL_s,repL_z,setsL_c]
   generalize hkd:(kdE l n ks[i] (kdEs l n (ks.take i) b).2).1=kd at *
   have kH:∀c,c≠ζ.nx+10→(((ζ8.at_ (ζ.nx+10)).new (.live false [.int .i64 kd])).at_ ζ8.nx).f c=ζ8.f c:=fun c hc=>if_neg hc
   have wH:(((ζ8.at_ (ζ.nx+10)).new (.live false [.int .i64 kd])).at_ ζ8.nx).f (ζ.nx+10)=.live false [.int .i64 kd]:=if_pos rfl
   have nH:(((ζ8.at_ (ζ.nx+10)).new (.live false [.int .i64 kd])).at_ ζ8.nx).nx=ζ8.nx:=rfl
   generalize ((ζ8.at_ (ζ.nx+10)).new (.live false [.int .i64 kd])).at_ ζ8.nx=ζH at *
   have oH:OwnA 1 (η.nx+2) ζH xk i (kdc (kdEs l n (ks.take i) b).1):=own_keep ox (fun c h1 h2=>(kH c (by omega)).trans (k8 c (by omega) (by omega))) (by omega)
   have yH:RdA 1 ζH (.slice (ζ.nx+10) 0 1 (.kn 1)) 1 [.int .i64 kd]:=.inr ⟨ζ.nx+10,0,_,false,_,rfl,wH,by omega,Nat.le_refl _,rfl,rfl⟩
   have xl:∀c,blkIs xk c→η.nx+2≤c∧c<ζ.nx:=fun c hc=>own_at ox hc
   refine dE_sep (by decide) oH yH (by decide) (by omega) (by omega) fun ζ9 o9 n9 k9=>?_
   have k9':∀c,c<ζ.nx→c≠cb→¬blkIs xk c→ζ9.f c=ζ.f c:=fun c h1 h2 h3=>(k9 c (by omega) h3).trans ((kH c (by omega)).trans (k8 c h1 h2))
   have g0:ζ9.f η.nx=_:=(k9' _ (by omega) (by omega) (fun g=>by have:=xl _ g;omega)).trans c0
   have g1:ζ9.f (η.nx+1)=_:=(k9' _ (by omega) (by omega) (fun g=>by have:=xl _ g;omega)).trans c1
   have gb:ζ9.f bk=_:=(k9' _ (by have:=xz.1;omega) (by omega) (fun g=>by have:=xl _ g;omega)).trans hbz
   simp -implicitDefEqProofs(disch:=omega)only[go_sem,p0,p1,p6,p7,p9,p10,d0,d1,d2,g0,g1,gb,c0,c1,hbz,hrow]
   refine⟨ks.length-(i+1),by omega,(hI _ _ _).2 ⟨i+1,.slice ζH.nx 0 (i+1) (.un 1),rfl,hlt,⟨by exact p0,by exact p1,by exact p6,by exact p7,rfl,rfl⟩,?_,?_,?_,g0,g1,?_⟩⟩
   ·rw[List.take_succ_eq_append_getElem hlt,kdEs_snoc,hkd]
    unfold kdc
    rw[List.map_append]
    exact o9
   ·exact⟨by omega,fun c h1 h2=>(k9' c (by omega) h2 (fun g=>by have:=xl _ g;omega)).trans (X.2 c h1 h2)⟩
   ·omega
   ·rw[List.take_succ_eq_append_getElem hlt,kdEs_snoc]
    exact(k9 _ (by omega) (fun g=>by have:=xl _ g;omega)).trans ((kH _ (by omega)).trans hbd8)
  ·obtain rfl:i=ks.length:=by omega
   rw[List.take_length]at ox hbd
   simp -implicitDefEqProofs(disch:=omega)only[go_sem,p0,p1,p6,p7,p9,p10,c1,l3]
   exact(hK _ _).2 ⟨xk,⟨by exact p0,by exact p1,by exact p6,by exact p7,by exact p9⟩,by rw[kdEs_len];exact ox,X,nz,c0,c1,hbd⟩
 ·intro φ ζ hk
  obtain⟨x,⟨p0,p1,p6,p7,p9⟩,ox,X,nz,c0,c1,hbd⟩:=(hK _ _).1 hk
  have hb2:(kdEs l n ks b).2.1≤100:=kdEs_le _ _ hb1
  have hKl:=kdEs_len (l:=l) (n:=n) ks b
  generalize (kdEs l n ks b).1=K at *
  generalize (kdEs l n ks b).2=b2 at *
  clear hk hK
  have xz:=extX_B x' hc X
  have rz1:=rdN_ext T.hz xz
  rw[hsn]at rz1
  have hcz:cb<ζ.nx:=Nat.lt_of_lt_of_le hcn X.1
  have hwc:∀w:Vr,w.cells=[.str w.nm.1 w.nm.2,.int .i64 w.kd,.str w.on.1 w.on.2,.bool w.nt,.int .i64 w.a]:=fun _=>rfl
  obtain⟨M,hM⟩:∃M:FN→HN→Prop,∀φ ζ,M φ ζ↔(φ 0=.ptr cb 0∧φ 7=.ptr (η.nx+1) 0∧φ 11=.bool (ownD l n op nm K).1∧φ 12=.int .i64 (ownD l n op nm K).2)∧ExtX cb η ζ∧η.nx+1<ζ.nx∧ζ.f (η.nx+1)=.live false [.str op.1 op.2,.str nm.1 nm.2,.int .i64 N,.int .i64 a,y]∧BdAt ζ cb b2:=⟨_,fun _ _=>Iff.rfl⟩
  refine wp_cut (M:=M) 2 _ _ _ ?_ ?_
  ·intro φ ζ' hm
   obtain⟨⟨p0,p7,p11,p12⟩,X,nz,c1,hbd⟩:=(hM _ _).1 hm
   clear hM hm
   cases hok:(ownD l n op nm K).1 with
   |true =>
    rw[hok]at p11 kk
    simp -implicitDefEqProofs(disch:=omega)only[go_sem,p0,p7,p11,p12,Bool.not_true]
    exact kk _ X hbd
   |false =>
    rw[hok]at p11 kk
    simp -implicitDefEqProofs(disch:=omega)only[go_sem,p0,p7,p11,p12,c1,Bool.not_false]
    refine thenN_call (fail6_then U hbd (by omega) fun ζ2 g1 g2 g3=>?_)
    simp -implicitDefEqProofs(disch:=omega)only[go_sem,p0,p7,p11,p12]
    exact kk _ ⟨by have:=X.1;omega,fun c h1 h2=>(g3 c h2).trans (X.2 c h1 h2)⟩ g2
  have e1:strEq op.1 op.2 3 7630441=decide (op=sInt):=strEq_S op sInt
  have e2:strEq op.1 op.2 4 1819242338=decide (op=sBool):=strEq_S op sBool
  have e3:strEq op.1 op.2 3 7496054=decide (op=sVar):=strEq_S op sVar
  have e4:strEq op.1 op.2 3 7630702=decide (op=sNot):=strEq_S op sNot
  have e5:strEq op.1 op.2 3 6776174=decide (op=sNeg):=strEq_S op sNeg
  have e6:strEq op.1 op.2 3 6648432=decide (op=sPre):=strEq_S op sPre
  have e7:strEq op.1 op.2 1 43=decide (op=sPlus):=strEq_S op sPlus
  have e8:strEq op.1 op.2 1 45=decide (op=sMinus):=strEq_S op sMinus
  have e9:strEq op.1 op.2 1 42=decide (op=sTimes):=strEq_S op sTimes
  have e10:strEq op.1 op.2 1 47=decide (op=sDiv):=strEq_S op sDiv
  have e11:strEq op.1 op.2 3 6582125=decide (op=sMod):=strEq_S op sMod
  have e12:strEq op.1 op.2 1 61=decide (op=sEq):=strEq_S op sEq
  have e13:strEq op.1 op.2 2 15932=decide (op=sNe):=strEq_S op sNe
  have e14:strEq op.1 op.2 1 60=decide (op=sLt):=strEq_S op sLt
  have e15:strEq op.1 op.2 2 15676=decide (op=sLe):=strEq_S op sLe
  have e16:strEq op.1 op.2 1 62=decide (op=sGt):=strEq_S op sGt
  have e17:strEq op.1 op.2 2 15678=decide (op=sGe):=strEq_S op sGe
  have e18:strEq op.1 op.2 3 6581857=decide (op=sAnd):=strEq_S op sAnd
  have e19:strEq op.1 op.2 2 29295=decide (op=sOr):=strEq_S op sOr
  have e20:strEq op.1 op.2 3 7499640=decide (op=sXor):=strEq_S op sXor
  have e21:strEq op.1 op.2 2 15917=decide (op=sArrow):=strEq_S op sArrow
  have e22:strEq op.1 op.2 3 7955046=decide (op=sFby):=strEq_S op sFby
  have e23:strEq op.1 op.2 2 26217=decide (op=sIf):=strEq_S op sIf
  have e24:strEq op.1 op.2 4 1852139639=decide (op=sWhen):=strEq_S op sWhen
  have e25:strEq op.1 op.2 5 435527247213=decide (op=sMerge):=strEq_S op sMerge
  have e26:strEq op.1 op.2 4 1819042147=decide (op=sCall):=strEq_S op sCall
  have arity:op≠sCall→need op=some K.length:=fun g=>by rw[hKl];exact wan.1.resolve_left g
  by_cases qq:op=sInt
  ·rw[decide_eq_true qq]at e1
   have eo:ownD l n op nm K=(true,2):=by rw[qq];rfl
   rw[eo]at hM
   simp -implicitDefEqProofs(disch:=omega)only[go_sem,p0,p1,p6,p7,p9,c0,c1,e1]
   exact(hM _ _).2 ⟨⟨by exact p0,by exact p7,rfl,rfl⟩,X,nz,c1,hbd⟩
  have q1:=qq
  clear qq
  rw[decide_eq_false q1]at e1
  by_cases qq:op=sBool
  ·rw[decide_eq_true qq]at e2
   have eo:ownD l n op nm K=(true,1):=by rw[qq];rfl
   rw[eo]at hM
   simp -implicitDefEqProofs(disch:=omega)only[go_sem,p0,p1,p6,p7,p9,c0,c1,e1,e2]
   exact(hM _ _).2 ⟨⟨by exact p0,by exact p7,rfl,rfl⟩,X,nz,c1,hbd⟩
  have q2:=qq
  clear qq
  rw[decide_eq_false q2]at e2
  by_cases qq:op=sVar
  ·rw[decide_eq_true qq]at e3
   have eo:ownD l n op nm K=(true,kdOf n nm):=by rw[qq];rfl
   rw[eo]at hM
   simp -implicitDefEqProofs(disch:=omega)only[go_sem,p0,p1,p6,p7,p9,c0,c1,e1,e2,e3]
   refine thenN_call (find6_then U rz1 T.ok nm fun ζ2 ex=>?_)
   rw[hwc]
   have Ez:ExtB ζ.nx ζ (ζ2.new (.live false [.str ((findV n nm).getD zVr).nm.1 ((findV n nm).getD zVr).nm.2,.int .i64 ((findV n nm).getD zVr).kd,.str ((findV n nm).getD zVr).on.1 ((findV n nm).getD zVr).on.2,.bool ((findV n nm).getD zVr).nt,.int .i64 ((findV n nm).getD zVr).a])):=extN ex
   have nw:(ζ2.new (.live false [.str ((findV n nm).getD zVr).nm.1 ((findV n nm).getD zVr).nm.2,.int .i64 ((findV n nm).getD zVr).kd,.str ((findV n nm).getD zVr).on.1 ((findV n nm).getD zVr).on.2,.bool ((findV n nm).getD zVr).nt,.int .i64 ((findV n nm).getD zVr).a])).f ζ2.nx=.live false [.str ((findV n nm).getD zVr).nm.1 ((findV n nm).getD zVr).nm.2,.int .i64 ((findV n nm).getD zVr).kd,.str ((findV n nm).getD zVr).on.1 ((findV n nm).getD zVr).on.2,.bool ((findV n nm).getD zVr).nt,.int .i64 ((findV n nm).getD zVr).a]:=if_pos rfl
   have d1:=(Ez.2 _ nz).trans c1
   have d0:=(Ez.2 _ (by omega)).trans c0
   have db:BdAt _ cb b2:=(Ez.2 _ hcz).trans hbd
   have nE:=Ez.1
   have X2:=X.of Ez
   simp -implicitDefEqProofs(disch:=omega)only[go_sem,p0,p1,p6,p7,p9,repL_s,repL_z,setsL_c,nw,d0,d1]
   exact(hM _ _).2 ⟨⟨by exact p0,by exact p7,rfl,rfl⟩,X2,by omega,d1,db⟩
  have q3:=qq
  clear qq
  rw[decide_eq_false q3]at e3
  by_cases qq:op=sNot
  ·rw[decide_eq_true qq]at e4
   have hn:K.length=1:=by
    have g:=arity (by rw[qq];decide)
    rw[qq]at g
    exact(Option.some.inj g).symm
   obtain⟨k0,rfl⟩:∃k0,K=[k0]:=by
    match K,hn with
    | [k0],_=>exact⟨k0,rfl⟩
   obtain⟨bx,hb1,hb2,rfl,hbx⟩:=own_kinds ox (Nat.succ_pos _)
   have hbx:ζ.f bx=.live false [.int .i64 k0]:=hbx
   have eo:ownD l n op nm [k0]=(decide (k0=1),1):=by rw[qq];rfl
   rw[eo]at hM
   simp -implicitDefEqProofs(disch:=omega)only[go_sem,p0,p1,p6,p7,p9,c0,c1,e1,e2,e3,e4,hbx]
   exact(hM _ _).2 ⟨⟨by exact p0,by exact p7,rfl,rfl⟩,X,nz,c1,hbd⟩
  have q4:=qq
  clear qq
  rw[decide_eq_false q4]at e4
  by_cases qq:op=sNeg
  ·rw[decide_eq_true qq]at e5
   have hn:K.length=1:=by
    have g:=arity (by rw[qq];decide)
    rw[qq]at g
    exact(Option.some.inj g).symm
   obtain⟨k0,rfl⟩:∃k0,K=[k0]:=by
    match K,hn with
    | [k0],_=>exact⟨k0,rfl⟩
   obtain⟨bx,hb1,hb2,rfl,hbx⟩:=own_kinds ox (Nat.succ_pos _)
   have hbx:ζ.f bx=.live false [.int .i64 k0]:=hbx
   have eo:ownD l n op nm [k0]=(decide (k0=2),2):=by rw[qq];rfl
   rw[eo]at hM
   simp -implicitDefEqProofs(disch:=omega)only[go_sem,p0,p1,p6,p7,p9,c0,c1,e1,e2,e3,e4,e5,hbx]
   exact(hM _ _).2 ⟨⟨by exact p0,by exact p7,rfl,rfl⟩,X,nz,c1,hbd⟩
  have q5:=qq
  clear qq
  rw[decide_eq_false q5]at e5
  by_cases qq:op=sPre
  ·rw[decide_eq_true qq]at e6
   have hn:K.length=1:=by
    have g:=arity (by rw[qq];decide)
    rw[qq]at g
    exact(Option.some.inj g).symm
   obtain⟨k0,rfl⟩:∃k0,K=[k0]:=by
    match K,hn with
    | [k0],_=>exact⟨k0,rfl⟩
   obtain⟨bx,hb1,hb2,rfl,hbx⟩:=own_kinds ox (Nat.succ_pos _)
   have hbx:ζ.f bx=.live false [.int .i64 k0]:=hbx
   have eo:ownD l n op nm [k0]=(true,k0):=by rw[qq];rfl
   rw[eo]at hM
   simp -implicitDefEqProofs(disch:=omega)only[go_sem,p0,p1,p6,p7,p9,c0,c1,e1,e2,e3,e4,e5,e6,hbx]
   exact(hM _ _).2 ⟨⟨by exact p0,by exact p7,rfl,rfl⟩,X,nz,c1,hbd⟩
  have q6:=qq
  clear qq
  rw[decide_eq_false q6]at e6
  by_cases qq:op=sPlus
  ·rw[decide_eq_true qq]at e7
   have hn:K.length=2:=by
    have g:=arity (by rw[qq];decide)
    rw[qq]at g
    exact(Option.some.inj g).symm
   obtain⟨k0,k1,rfl⟩:∃k0 k1,K=[k0,k1]:=by
    match K,hn with
    | [k0,k1],_=>exact⟨k0,k1,rfl⟩
   obtain⟨bx,hb1,hb2,rfl,hbx⟩:=own_kinds ox (Nat.succ_pos _)
   have hbx:ζ.f bx=.live false [.int .i64 k0,.int .i64 k1]:=hbx
   have eo:ownD l n op nm [k0,k1]=(decide (k0=2∧k1=2),2):=by rw[qq];rfl
   rw[eo]at hM
   by_cases w:k0=2
   ·have eb:decide (k0=2∧k1=2)=decide (k1=2):=by simp [w]
    rw[eb]at hM
    simp -implicitDefEqProofs(disch:=omega)only[go_sem,p0,p1,p6,p7,p9,c0,c1,e1,e2,e3,e4,e5,e6,e7,hbx,w]
    exact(hM _ _).2 ⟨⟨by exact p0,by exact p7,rfl,rfl⟩,X,nz,c1,hbd⟩
   ·have eb:decide (k0=2∧k1=2)=false:=by simp [w]
    rw[eb]at hM
    simp -implicitDefEqProofs(disch:=omega)only[go_sem,p0,p1,p6,p7,p9,c0,c1,e1,e2,e3,e4,e5,e6,e7,hbx,w]
    exact(hM _ _).2 ⟨⟨by exact p0,by exact p7,rfl,rfl⟩,X,nz,c1,hbd⟩
  have q7:=qq
  clear qq
  rw[decide_eq_false q7]at e7
  by_cases qq:op=sMinus
  ·rw[decide_eq_true qq]at e8
   have hn:K.length=2:=by
    have g:=arity (by rw[qq];decide)
    rw[qq]at g
    exact(Option.some.inj g).symm
   obtain⟨k0,k1,rfl⟩:∃k0 k1,K=[k0,k1]:=by
    match K,hn with
    | [k0,k1],_=>exact⟨k0,k1,rfl⟩
   obtain⟨bx,hb1,hb2,rfl,hbx⟩:=own_kinds ox (Nat.succ_pos _)
   have hbx:ζ.f bx=.live false [.int .i64 k0,.int .i64 k1]:=hbx
   have eo:ownD l n op nm [k0,k1]=(decide (k0=2∧k1=2),2):=by rw[qq];rfl
   rw[eo]at hM
   by_cases w:k0=2
   ·have eb:decide (k0=2∧k1=2)=decide (k1=2):=by simp [w]
    rw[eb]at hM
    simp -implicitDefEqProofs(disch:=omega)only[go_sem,p0,p1,p6,p7,p9,c0,c1,e1,e2,e3,e4,e5,e6,e7,e8,hbx,w]
    exact(hM _ _).2 ⟨⟨by exact p0,by exact p7,rfl,rfl⟩,X,nz,c1,hbd⟩
   ·have eb:decide (k0=2∧k1=2)=false:=by simp [w]
    rw[eb]at hM
    simp -implicitDefEqProofs(disch:=omega)only[go_sem,p0,p1,p6,p7,p9,c0,c1,e1,e2,e3,e4,e5,e6,e7,e8,hbx,w]
    exact(hM _ _).2 ⟨⟨by exact p0,by exact p7,rfl,rfl⟩,X,nz,c1,hbd⟩
  have q8:=qq
  clear qq
  rw[decide_eq_false q8]at e8
  by_cases qq:op=sTimes
  ·rw[decide_eq_true qq]at e9
   have hn:K.length=2:=by
    have g:=arity (by rw[qq];decide)
    rw[qq]at g
    exact(Option.some.inj g).symm
   obtain⟨k0,k1,rfl⟩:∃k0 k1,K=[k0,k1]:=by
    match K,hn with
    | [k0,k1],_=>exact⟨k0,k1,rfl⟩
   obtain⟨bx,hb1,hb2,rfl,hbx⟩:=own_kinds ox (Nat.succ_pos _)
   have hbx:ζ.f bx=.live false [.int .i64 k0,.int .i64 k1]:=hbx
   have eo:ownD l n op nm [k0,k1]=(decide (k0=2∧k1=2),2):=by rw[qq];rfl
   rw[eo]at hM
   by_cases w:k0=2
   ·have eb:decide (k0=2∧k1=2)=decide (k1=2):=by simp [w]
    rw[eb]at hM
    simp -implicitDefEqProofs(disch:=omega)only[go_sem,p0,p1,p6,p7,p9,c0,c1,e1,e2,e3,e4,e5,e6,e7,e8,e9,hbx,w]
    exact(hM _ _).2 ⟨⟨by exact p0,by exact p7,rfl,rfl⟩,X,nz,c1,hbd⟩
   ·have eb:decide (k0=2∧k1=2)=false:=by simp [w]
    rw[eb]at hM
    simp -implicitDefEqProofs(disch:=omega)only[go_sem,p0,p1,p6,p7,p9,c0,c1,e1,e2,e3,e4,e5,e6,e7,e8,e9,hbx,w]
    exact(hM _ _).2 ⟨⟨by exact p0,by exact p7,rfl,rfl⟩,X,nz,c1,hbd⟩
  have q9:=qq
  clear qq
  rw[decide_eq_false q9]at e9
  by_cases qq:op=sDiv
  ·rw[decide_eq_true qq]at e10
   have hn:K.length=2:=by
    have g:=arity (by rw[qq];decide)
    rw[qq]at g
    exact(Option.some.inj g).symm
   obtain⟨k0,k1,rfl⟩:∃k0 k1,K=[k0,k1]:=by
    match K,hn with
    | [k0,k1],_=>exact⟨k0,k1,rfl⟩
   obtain⟨bx,hb1,hb2,rfl,hbx⟩:=own_kinds ox (Nat.succ_pos _)
   have hbx:ζ.f bx=.live false [.int .i64 k0,.int .i64 k1]:=hbx
   have eo:ownD l n op nm [k0,k1]=(decide (k0=2∧k1=2),2):=by rw[qq];rfl
   rw[eo]at hM
   by_cases w:k0=2
   ·have eb:decide (k0=2∧k1=2)=decide (k1=2):=by simp [w]
    rw[eb]at hM
    simp -implicitDefEqProofs(disch:=omega)only[go_sem,p0,p1,p6,p7,p9,c0,c1,e1,e2,e3,e4,e5,e6,e7,e8,e9,e10,hbx,w]
    exact(hM _ _).2 ⟨⟨by exact p0,by exact p7,rfl,rfl⟩,X,nz,c1,hbd⟩
   ·have eb:decide (k0=2∧k1=2)=false:=by simp [w]
    rw[eb]at hM
    simp -implicitDefEqProofs(disch:=omega)only[go_sem,p0,p1,p6,p7,p9,c0,c1,e1,e2,e3,e4,e5,e6,e7,e8,e9,e10,hbx,w]
    exact(hM _ _).2 ⟨⟨by exact p0,by exact p7,rfl,rfl⟩,X,nz,c1,hbd⟩
  have q10:=qq
  clear qq
  rw[decide_eq_false q10]at e10
  by_cases qq:op=sMod
  ·rw[decide_eq_true qq]at e11
   have hn:K.length=2:=by
    have g:=arity (by rw[qq];decide)
    rw[qq]at g
    exact(Option.some.inj g).symm
   obtain⟨k0,k1,rfl⟩:∃k0 k1,K=[k0,k1]:=by
    match K,hn with
    | [k0,k1],_=>exact⟨k0,k1,rfl⟩
   obtain⟨bx,hb1,hb2,rfl,hbx⟩:=own_kinds ox (Nat.succ_pos _)
   have hbx:ζ.f bx=.live false [.int .i64 k0,.int .i64 k1]:=hbx
   have eo:ownD l n op nm [k0,k1]=(decide (k0=2∧k1=2),2):=by rw[qq];rfl
   rw[eo]at hM
   by_cases w:k0=2
   ·have eb:decide (k0=2∧k1=2)=decide (k1=2):=by simp [w]
    rw[eb]at hM
    simp -implicitDefEqProofs(disch:=omega)only[go_sem,p0,p1,p6,p7,p9,c0,c1,e1,e2,e3,e4,e5,e6,e7,e8,e9,e10,e11,hbx,w]
    exact(hM _ _).2 ⟨⟨by exact p0,by exact p7,rfl,rfl⟩,X,nz,c1,hbd⟩
   ·have eb:decide (k0=2∧k1=2)=false:=by simp [w]
    rw[eb]at hM
    simp -implicitDefEqProofs(disch:=omega)only[go_sem,p0,p1,p6,p7,p9,c0,c1,e1,e2,e3,e4,e5,e6,e7,e8,e9,e10,e11,hbx,w]
    exact(hM _ _).2 ⟨⟨by exact p0,by exact p7,rfl,rfl⟩,X,nz,c1,hbd⟩
  have q11:=qq
  clear qq
  rw[decide_eq_false q11]at e11
  by_cases qq:op=sEq
  ·rw[decide_eq_true qq]at e12
   have hn:K.length=2:=by
    have g:=arity (by rw[qq];decide)
    rw[qq]at g
    exact(Option.some.inj g).symm
   obtain⟨k0,k1,rfl⟩:∃k0 k1,K=[k0,k1]:=by
    match K,hn with
    | [k0,k1],_=>exact⟨k0,k1,rfl⟩
   obtain⟨bx,hb1,hb2,rfl,hbx⟩:=own_kinds ox (Nat.succ_pos _)
   have hbx:ζ.f bx=.live false [.int .i64 k0,.int .i64 k1]:=hbx
   have eo:ownD l n op nm [k0,k1]=(decide (k0=k1),1):=by rw[qq];rfl
   rw[eo]at hM
   simp -implicitDefEqProofs(disch:=omega)only[go_sem,p0,p1,p6,p7,p9,c0,c1,e1,e2,e3,e4,e5,e6,e7,e8,e9,e10,e11,e12,hbx]
   exact(hM _ _).2 ⟨⟨by exact p0,by exact p7,rfl,rfl⟩,X,nz,c1,hbd⟩
  have q12:=qq
  clear qq
  rw[decide_eq_false q12]at e12
  by_cases qq:op=sNe
  ·rw[decide_eq_true qq]at e13
   have hn:K.length=2:=by
    have g:=arity (by rw[qq];decide)
    rw[qq]at g
    exact(Option.some.inj g).symm
   obtain⟨k0,k1,rfl⟩:∃k0 k1,K=[k0,k1]:=by
    match K,hn with
    | [k0,k1],_=>exact⟨k0,k1,rfl⟩
   obtain⟨bx,hb1,hb2,rfl,hbx⟩:=own_kinds ox (Nat.succ_pos _)
   have hbx:ζ.f bx=.live false [.int .i64 k0,.int .i64 k1]:=hbx
   have eo:ownD l n op nm [k0,k1]=(decide (k0=k1),1):=by rw[qq];rfl
   rw[eo]at hM
   simp -implicitDefEqProofs(disch:=omega)only[go_sem,p0,p1,p6,p7,p9,c0,c1,e1,e2,e3,e4,e5,e6,e7,e8,e9,e10,e11,e12,e13,hbx]
   exact(hM _ _).2 ⟨⟨by exact p0,by exact p7,rfl,rfl⟩,X,nz,c1,hbd⟩
  have q13:=qq
  clear qq
  rw[decide_eq_false q13]at e13
  by_cases qq:op=sLt
  ·rw[decide_eq_true qq]at e14
   have hn:K.length=2:=by
    have g:=arity (by rw[qq];decide)
    rw[qq]at g
    exact(Option.some.inj g).symm
   obtain⟨k0,k1,rfl⟩:∃k0 k1,K=[k0,k1]:=by
    match K,hn with
    | [k0,k1],_=>exact⟨k0,k1,rfl⟩
   obtain⟨bx,hb1,hb2,rfl,hbx⟩:=own_kinds ox (Nat.succ_pos _)
   have hbx:ζ.f bx=.live false [.int .i64 k0,.int .i64 k1]:=hbx
   have eo:ownD l n op nm [k0,k1]=(decide (k0=2∧k1=2),1):=by rw[qq];rfl
   rw[eo]at hM
   by_cases w:k0=2
   ·have eb:decide (k0=2∧k1=2)=decide (k1=2):=by simp [w]
    rw[eb]at hM
    simp -implicitDefEqProofs(disch:=omega)only[go_sem,p0,p1,p6,p7,p9,c0,c1,e1,e2,e3,e4,e5,e6,e7,e8,e9,e10,e11,e12,e13,e14,hbx,w]
    exact(hM _ _).2 ⟨⟨by exact p0,by exact p7,rfl,rfl⟩,X,nz,c1,hbd⟩
   ·have eb:decide (k0=2∧k1=2)=false:=by simp [w]
    rw[eb]at hM
    simp -implicitDefEqProofs(disch:=omega)only[go_sem,p0,p1,p6,p7,p9,c0,c1,e1,e2,e3,e4,e5,e6,e7,e8,e9,e10,e11,e12,e13,e14,hbx,w]
    exact(hM _ _).2 ⟨⟨by exact p0,by exact p7,rfl,rfl⟩,X,nz,c1,hbd⟩
  have q14:=qq
  clear qq
  rw[decide_eq_false q14]at e14
  by_cases qq:op=sLe
  ·rw[decide_eq_true qq]at e15
   have hn:K.length=2:=by
    have g:=arity (by rw[qq];decide)
    rw[qq]at g
    exact(Option.some.inj g).symm
   obtain⟨k0,k1,rfl⟩:∃k0 k1,K=[k0,k1]:=by
    match K,hn with
    | [k0,k1],_=>exact⟨k0,k1,rfl⟩
   obtain⟨bx,hb1,hb2,rfl,hbx⟩:=own_kinds ox (Nat.succ_pos _)
   have hbx:ζ.f bx=.live false [.int .i64 k0,.int .i64 k1]:=hbx
   have eo:ownD l n op nm [k0,k1]=(decide (k0=2∧k1=2),1):=by rw[qq];rfl
   rw[eo]at hM
   by_cases w:k0=2
   ·have eb:decide (k0=2∧k1=2)=decide (k1=2):=by simp [w]
    rw[eb]at hM
    simp -implicitDefEqProofs(disch:=omega)only[go_sem,p0,p1,p6,p7,p9,c0,c1,e1,e2,e3,e4,e5,e6,e7,e8,e9,e10,e11,e12,e13,e14,e15,hbx,w]
    exact(hM _ _).2 ⟨⟨by exact p0,by exact p7,rfl,rfl⟩,X,nz,c1,hbd⟩
   ·have eb:decide (k0=2∧k1=2)=false:=by simp [w]
    rw[eb]at hM
    simp -implicitDefEqProofs(disch:=omega)only[go_sem,p0,p1,p6,p7,p9,c0,c1,e1,e2,e3,e4,e5,e6,e7,e8,e9,e10,e11,e12,e13,e14,e15,hbx,w]
    exact(hM _ _).2 ⟨⟨by exact p0,by exact p7,rfl,rfl⟩,X,nz,c1,hbd⟩
  have q15:=qq
  clear qq
  rw[decide_eq_false q15]at e15
  by_cases qq:op=sGt
  ·rw[decide_eq_true qq]at e16
   have hn:K.length=2:=by
    have g:=arity (by rw[qq];decide)
    rw[qq]at g
    exact(Option.some.inj g).symm
   obtain⟨k0,k1,rfl⟩:∃k0 k1,K=[k0,k1]:=by
    match K,hn with
    | [k0,k1],_=>exact⟨k0,k1,rfl⟩
   obtain⟨bx,hb1,hb2,rfl,hbx⟩:=own_kinds ox (Nat.succ_pos _)
   have hbx:ζ.f bx=.live false [.int .i64 k0,.int .i64 k1]:=hbx
   have eo:ownD l n op nm [k0,k1]=(decide (k0=2∧k1=2),1):=by rw[qq];rfl
   rw[eo]at hM
   by_cases w:k0=2
   ·have eb:decide (k0=2∧k1=2)=decide (k1=2):=by simp [w]
    rw[eb]at hM
    simp -implicitDefEqProofs(disch:=omega)only[go_sem,p0,p1,p6,p7,p9,c0,c1,e1,e2,e3,e4,e5,e6,e7,e8,e9,e10,e11,e12,e13,e14,e15,e16,hbx,w]
    exact(hM _ _).2 ⟨⟨by exact p0,by exact p7,rfl,rfl⟩,X,nz,c1,hbd⟩
   ·have eb:decide (k0=2∧k1=2)=false:=by simp [w]
    rw[eb]at hM
    simp -implicitDefEqProofs(disch:=omega)only[go_sem,p0,p1,p6,p7,p9,c0,c1,e1,e2,e3,e4,e5,e6,e7,e8,e9,e10,e11,e12,e13,e14,e15,e16,hbx,w]
    exact(hM _ _).2 ⟨⟨by exact p0,by exact p7,rfl,rfl⟩,X,nz,c1,hbd⟩
  have q16:=qq
  clear qq
  rw[decide_eq_false q16]at e16
  by_cases qq:op=sGe
  ·rw[decide_eq_true qq]at e17
   have hn:K.length=2:=by
    have g:=arity (by rw[qq];decide)
    rw[qq]at g
    exact(Option.some.inj g).symm
   obtain⟨k0,k1,rfl⟩:∃k0 k1,K=[k0,k1]:=by
    match K,hn with
    | [k0,k1],_=>exact⟨k0,k1,rfl⟩
   obtain⟨bx,hb1,hb2,rfl,hbx⟩:=own_kinds ox (Nat.succ_pos _)
   have hbx:ζ.f bx=.live false [.int .i64 k0,.int .i64 k1]:=hbx
   have eo:ownD l n op nm [k0,k1]=(decide (k0=2∧k1=2),1):=by rw[qq];rfl
   rw[eo]at hM
   by_cases w:k0=2
   ·have eb:decide (k0=2∧k1=2)=decide (k1=2):=by simp [w]
    rw[eb]at hM
    simp -implicitDefEqProofs(disch:=omega)only[go_sem,p0,p1,p6,p7,p9,c0,c1,e1,e2,e3,e4,e5,e6,e7,e8,e9,e10,e11,e12,e13,e14,e15,e16,e17,hbx,w]
    exact(hM _ _).2 ⟨⟨by exact p0,by exact p7,rfl,rfl⟩,X,nz,c1,hbd⟩
   ·have eb:decide (k0=2∧k1=2)=false:=by simp [w]
    rw[eb]at hM
    simp -implicitDefEqProofs(disch:=omega)only[go_sem,p0,p1,p6,p7,p9,c0,c1,e1,e2,e3,e4,e5,e6,e7,e8,e9,e10,e11,e12,e13,e14,e15,e16,e17,hbx,w]
    exact(hM _ _).2 ⟨⟨by exact p0,by exact p7,rfl,rfl⟩,X,nz,c1,hbd⟩
  have q17:=qq
  clear qq
  rw[decide_eq_false q17]at e17
  by_cases qq:op=sAnd
  ·rw[decide_eq_true qq]at e18
   have hn:K.length=2:=by
    have g:=arity (by rw[qq];decide)
    rw[qq]at g
    exact(Option.some.inj g).symm
   obtain⟨k0,k1,rfl⟩:∃k0 k1,K=[k0,k1]:=by
    match K,hn with
    | [k0,k1],_=>exact⟨k0,k1,rfl⟩
   obtain⟨bx,hb1,hb2,rfl,hbx⟩:=own_kinds ox (Nat.succ_pos _)
   have hbx:ζ.f bx=.live false [.int .i64 k0,.int .i64 k1]:=hbx
   have eo:ownD l n op nm [k0,k1]=(decide (k0=1∧k1=1),1):=by rw[qq];rfl
   rw[eo]at hM
   by_cases w:k0=1
   ·have eb:decide (k0=1∧k1=1)=decide (k1=1):=by simp [w]
    rw[eb]at hM
    simp -implicitDefEqProofs(disch:=omega)only[go_sem,p0,p1,p6,p7,p9,c0,c1,e1,e2,e3,e4,e5,e6,e7,e8,e9,e10,e11,e12,e13,e14,e15,e16,e17,e18,hbx,w]
    exact(hM _ _).2 ⟨⟨by exact p0,by exact p7,rfl,rfl⟩,X,nz,c1,hbd⟩
   ·have eb:decide (k0=1∧k1=1)=false:=by simp [w]
    rw[eb]at hM
    simp -implicitDefEqProofs(disch:=omega)only[go_sem,p0,p1,p6,p7,p9,c0,c1,e1,e2,e3,e4,e5,e6,e7,e8,e9,e10,e11,e12,e13,e14,e15,e16,e17,e18,hbx,w]
    exact(hM _ _).2 ⟨⟨by exact p0,by exact p7,rfl,rfl⟩,X,nz,c1,hbd⟩
  have q18:=qq
  clear qq
  rw[decide_eq_false q18]at e18
  by_cases qq:op=sOr
  ·rw[decide_eq_true qq]at e19
   have hn:K.length=2:=by
    have g:=arity (by rw[qq];decide)
    rw[qq]at g
    exact(Option.some.inj g).symm
   obtain⟨k0,k1,rfl⟩:∃k0 k1,K=[k0,k1]:=by
    match K,hn with
    | [k0,k1],_=>exact⟨k0,k1,rfl⟩
   obtain⟨bx,hb1,hb2,rfl,hbx⟩:=own_kinds ox (Nat.succ_pos _)
   have hbx:ζ.f bx=.live false [.int .i64 k0,.int .i64 k1]:=hbx
   have eo:ownD l n op nm [k0,k1]=(decide (k0=1∧k1=1),1):=by rw[qq];rfl
   rw[eo]at hM
   by_cases w:k0=1
   ·have eb:decide (k0=1∧k1=1)=decide (k1=1):=by simp [w]
    rw[eb]at hM
    simp -implicitDefEqProofs(disch:=omega)only[go_sem,p0,p1,p6,p7,p9,c0,c1,e1,e2,e3,e4,e5,e6,e7,e8,e9,e10,e11,e12,e13,e14,e15,e16,e17,e18,e19,hbx,w]
    exact(hM _ _).2 ⟨⟨by exact p0,by exact p7,rfl,rfl⟩,X,nz,c1,hbd⟩
   ·have eb:decide (k0=1∧k1=1)=false:=by simp [w]
    rw[eb]at hM
    simp -implicitDefEqProofs(disch:=omega)only[go_sem,p0,p1,p6,p7,p9,c0,c1,e1,e2,e3,e4,e5,e6,e7,e8,e9,e10,e11,e12,e13,e14,e15,e16,e17,e18,e19,hbx,w]
    exact(hM _ _).2 ⟨⟨by exact p0,by exact p7,rfl,rfl⟩,X,nz,c1,hbd⟩
  have q19:=qq
  clear qq
  rw[decide_eq_false q19]at e19
  by_cases qq:op=sXor
  ·rw[decide_eq_true qq]at e20
   have hn:K.length=2:=by
    have g:=arity (by rw[qq];decide)
    rw[qq]at g
    exact(Option.some.inj g).symm
   obtain⟨k0,k1,rfl⟩:∃k0 k1,K=[k0,k1]:=by
    match K,hn with
    | [k0,k1],_=>exact⟨k0,k1,rfl⟩
   obtain⟨bx,hb1,hb2,rfl,hbx⟩:=own_kinds ox (Nat.succ_pos _)
   have hbx:ζ.f bx=.live false [.int .i64 k0,.int .i64 k1]:=hbx
   have eo:ownD l n op nm [k0,k1]=(decide (k0=1∧k1=1),1):=by rw[qq];rfl
   rw[eo]at hM
   by_cases w:k0=1
   ·have eb:decide (k0=1∧k1=1)=decide (k1=1):=by simp [w]
    rw[eb]at hM
    simp -implicitDefEqProofs(disch:=omega)only[go_sem,p0,p1,p6,p7,p9,c0,c1,e1,e2,e3,e4,e5,e6,e7,e8,e9,e10,e11,e12,e13,e14,e15,e16,e17,e18,e19,e20,hbx,w]
    exact(hM _ _).2 ⟨⟨by exact p0,by exact p7,rfl,rfl⟩,X,nz,c1,hbd⟩
   ·have eb:decide (k0=1∧k1=1)=false:=by simp [w]
    rw[eb]at hM
    simp -implicitDefEqProofs(disch:=omega)only[go_sem,p0,p1,p6,p7,p9,c0,c1,e1,e2,e3,e4,e5,e6,e7,e8,e9,e10,e11,e12,e13,e14,e15,e16,e17,e18,e19,e20,hbx,w]
    exact(hM _ _).2 ⟨⟨by exact p0,by exact p7,rfl,rfl⟩,X,nz,c1,hbd⟩
  have q20:=qq
  clear qq
  rw[decide_eq_false q20]at e20
  by_cases qq:op=sArrow
  ·rw[decide_eq_true qq]at e21
   have hn:K.length=2:=by
    have g:=arity (by rw[qq];decide)
    rw[qq]at g
    exact(Option.some.inj g).symm
   obtain⟨k0,k1,rfl⟩:∃k0 k1,K=[k0,k1]:=by
    match K,hn with
    | [k0,k1],_=>exact⟨k0,k1,rfl⟩
   obtain⟨bx,hb1,hb2,rfl,hbx⟩:=own_kinds ox (Nat.succ_pos _)
   have hbx:ζ.f bx=.live false [.int .i64 k0,.int .i64 k1]:=hbx
   have eo:ownD l n op nm [k0,k1]=(decide (k0=k1),k0):=by rw[qq];rfl
   rw[eo]at hM
   simp -implicitDefEqProofs(disch:=omega)only[go_sem,p0,p1,p6,p7,p9,c0,c1,e1,e2,e3,e4,e5,e6,e7,e8,e9,e10,e11,e12,e13,e14,e15,e16,e17,e18,e19,e20,e21,hbx]
   exact(hM _ _).2 ⟨⟨by exact p0,by exact p7,rfl,rfl⟩,X,nz,c1,hbd⟩
  have q21:=qq
  clear qq
  rw[decide_eq_false q21]at e21
  by_cases qq:op=sFby
  ·rw[decide_eq_true qq]at e22
   have hn:K.length=2:=by
    have g:=arity (by rw[qq];decide)
    rw[qq]at g
    exact(Option.some.inj g).symm
   obtain⟨k0,k1,rfl⟩:∃k0 k1,K=[k0,k1]:=by
    match K,hn with
    | [k0,k1],_=>exact⟨k0,k1,rfl⟩
   obtain⟨bx,hb1,hb2,rfl,hbx⟩:=own_kinds ox (Nat.succ_pos _)
   have hbx:ζ.f bx=.live false [.int .i64 k0,.int .i64 k1]:=hbx
   have eo:ownD l n op nm [k0,k1]=(decide (k0=k1),k0):=by rw[qq];rfl
   rw[eo]at hM
   simp -implicitDefEqProofs(disch:=omega)only[go_sem,p0,p1,p6,p7,p9,c0,c1,e1,e2,e3,e4,e5,e6,e7,e8,e9,e10,e11,e12,e13,e14,e15,e16,e17,e18,e19,e20,e21,e22,hbx]
   exact(hM _ _).2 ⟨⟨by exact p0,by exact p7,rfl,rfl⟩,X,nz,c1,hbd⟩
  have q22:=qq
  clear qq
  rw[decide_eq_false q22]at e22
  by_cases qq:op=sIf
  ·rw[decide_eq_true qq]at e23
   have hn:K.length=3:=by
    have g:=arity (by rw[qq];decide)
    rw[qq]at g
    exact(Option.some.inj g).symm
   obtain⟨k0,k1,k2,rfl⟩:∃k0 k1 k2,K=[k0,k1,k2]:=by
    match K,hn with
    | [k0,k1,k2],_=>exact⟨k0,k1,k2,rfl⟩
   obtain⟨bx,hb1,hb2,rfl,hbx⟩:=own_kinds ox (Nat.succ_pos _)
   have hbx:ζ.f bx=.live false [.int .i64 k0,.int .i64 k1,.int .i64 k2]:=hbx
   have eo:ownD l n op nm [k0,k1,k2]=(decide (k0=1∧k1=k2),k1):=by rw[qq];rfl
   rw[eo]at hM
   by_cases w:k0=1
   ·have eb:decide (k0=1∧k1=k2)=decide (k1=k2):=by simp [w]
    rw[eb]at hM
    simp -implicitDefEqProofs(disch:=omega)only[go_sem,p0,p1,p6,p7,p9,c0,c1,e1,e2,e3,e4,e5,e6,e7,e8,e9,e10,e11,e12,e13,e14,e15,e16,e17,e18,e19,e20,e21,e22,e23,hbx,w]
    exact(hM _ _).2 ⟨⟨by exact p0,by exact p7,rfl,rfl⟩,X,nz,c1,hbd⟩
   ·have eb:decide (k0=1∧k1=k2)=false:=by simp [w]
    rw[eb]at hM
    simp -implicitDefEqProofs(disch:=omega)only[go_sem,p0,p1,p6,p7,p9,c0,c1,e1,e2,e3,e4,e5,e6,e7,e8,e9,e10,e11,e12,e13,e14,e15,e16,e17,e18,e19,e20,e21,e22,e23,hbx,w]
    exact(hM _ _).2 ⟨⟨by exact p0,by exact p7,rfl,rfl⟩,X,nz,c1,hbd⟩
  have q23:=qq
  clear qq
  rw[decide_eq_false q23]at e23
  by_cases qq:op=sWhen
  ·rw[decide_eq_true qq]at e24
   have hn:K.length=1:=by
    have g:=arity (by rw[qq];decide)
    rw[qq]at g
    exact(Option.some.inj g).symm
   obtain⟨k0,rfl⟩:∃k0,K=[k0]:=by
    match K,hn with
    | [k0],_=>exact⟨k0,rfl⟩
   obtain⟨bx,hb1,hb2,rfl,hbx⟩:=own_kinds ox (Nat.succ_pos _)
   have hbx:ζ.f bx=.live false [.int .i64 k0]:=hbx
   have eo:ownD l n op nm [k0]=(decide (kdOf n nm=1),k0):=by rw[qq];rfl
   rw[eo]at hM
   have hkd:kdOf n nm=((findV n nm).getD zVr).kd:=rfl
   rw[hkd]at hM
   simp -implicitDefEqProofs(disch:=omega)only[go_sem,p0,p1,p6,p7,p9,c0,c1,e1,e2,e3,e4,e5,e6,e7,e8,e9,e10,e11,e12,e13,e14,e15,e16,e17,e18,e19,e20,e21,e22,e23,e24,hbx]
   refine thenN_call (find6_then U rz1 T.ok nm fun ζ2 ex=>?_)
   rw[hwc]
   have Ez:ExtB ζ.nx ζ (ζ2.new (.live false [.str ((findV n nm).getD zVr).nm.1 ((findV n nm).getD zVr).nm.2,.int .i64 ((findV n nm).getD zVr).kd,.str ((findV n nm).getD zVr).on.1 ((findV n nm).getD zVr).on.2,.bool ((findV n nm).getD zVr).nt,.int .i64 ((findV n nm).getD zVr).a])):=extN ex
   have nw:(ζ2.new (.live false [.str ((findV n nm).getD zVr).nm.1 ((findV n nm).getD zVr).nm.2,.int .i64 ((findV n nm).getD zVr).kd,.str ((findV n nm).getD zVr).on.1 ((findV n nm).getD zVr).on.2,.bool ((findV n nm).getD zVr).nt,.int .i64 ((findV n nm).getD zVr).a])).f ζ2.nx=.live false [.str ((findV n nm).getD zVr).nm.1 ((findV n nm).getD zVr).nm.2,.int .i64 ((findV n nm).getD zVr).kd,.str ((findV n nm).getD zVr).on.1 ((findV n nm).getD zVr).on.2,.bool ((findV n nm).getD zVr).nt,.int .i64 ((findV n nm).getD zVr).a]:=if_pos rfl
   have d1:=(Ez.2 _ nz).trans c1
   have d0:=(Ez.2 _ (by omega)).trans c0
   have db:BdAt _ cb b2:=(Ez.2 _ hcz).trans hbd
   have nE:=Ez.1
   have X2:=X.of Ez
   have dx:=(Ez.2 _ hb2).trans hbx
   simp -implicitDefEqProofs(disch:=omega)only[go_sem,p0,p1,p6,p7,p9,repL_s,repL_z,setsL_c,nw,d0,d1,dx]
   exact(hM _ _).2 ⟨⟨by exact p0,by exact p7,rfl,rfl⟩,X2,by omega,d1,db⟩
  have q24:=qq
  clear qq
  rw[decide_eq_false q24]at e24
  by_cases qq:op=sMerge
  ·rw[decide_eq_true qq]at e25
   have hn:K.length=2:=by
    have g:=arity (by rw[qq];decide)
    rw[qq]at g
    exact(Option.some.inj g).symm
   obtain⟨k0,k1,rfl⟩:∃k0 k1,K=[k0,k1]:=by
    match K,hn with
    | [k0,k1],_=>exact⟨k0,k1,rfl⟩
   obtain⟨bx,hb1,hb2,rfl,hbx⟩:=own_kinds ox (Nat.succ_pos _)
   have hbx:ζ.f bx=.live false [.int .i64 k0,.int .i64 k1]:=hbx
   have eo:ownD l n op nm [k0,k1]=(decide (kdOf n nm=1∧k0=k1),k0):=by rw[qq];rfl
   rw[eo]at hM
   have hkd:kdOf n nm=((findV n nm).getD zVr).kd:=rfl
   rw[hkd]at hM
   simp -implicitDefEqProofs(disch:=omega)only[go_sem,p0,p1,p6,p7,p9,c0,c1,e1,e2,e3,e4,e5,e6,e7,e8,e9,e10,e11,e12,e13,e14,e15,e16,e17,e18,e19,e20,e21,e22,e23,e24,e25,hbx]
   refine thenN_call (find6_then U rz1 T.ok nm fun ζ2 ex=>?_)
   rw[hwc]
   have Ez:ExtB ζ.nx ζ (ζ2.new (.live false [.str ((findV n nm).getD zVr).nm.1 ((findV n nm).getD zVr).nm.2,.int .i64 ((findV n nm).getD zVr).kd,.str ((findV n nm).getD zVr).on.1 ((findV n nm).getD zVr).on.2,.bool ((findV n nm).getD zVr).nt,.int .i64 ((findV n nm).getD zVr).a])):=extN ex
   have nw:(ζ2.new (.live false [.str ((findV n nm).getD zVr).nm.1 ((findV n nm).getD zVr).nm.2,.int .i64 ((findV n nm).getD zVr).kd,.str ((findV n nm).getD zVr).on.1 ((findV n nm).getD zVr).on.2,.bool ((findV n nm).getD zVr).nt,.int .i64 ((findV n nm).getD zVr).a])).f ζ2.nx=.live false [.str ((findV n nm).getD zVr).nm.1 ((findV n nm).getD zVr).nm.2,.int .i64 ((findV n nm).getD zVr).kd,.str ((findV n nm).getD zVr).on.1 ((findV n nm).getD zVr).on.2,.bool ((findV n nm).getD zVr).nt,.int .i64 ((findV n nm).getD zVr).a]:=if_pos rfl
   have d1:=(Ez.2 _ nz).trans c1
   have d0:=(Ez.2 _ (by omega)).trans c0
   have db:BdAt _ cb b2:=(Ez.2 _ hcz).trans hbd
   have nE:=Ez.1
   have X2:=X.of Ez
   have dx:=(Ez.2 _ hb2).trans hbx
   by_cases w:((findV n nm).getD zVr).kd=1
   ·have eb:decide (((findV n nm).getD zVr).kd=1∧k0=k1)=decide (k0=k1):=by simp [w]
    have wd:decide (((findV n nm).getD zVr).kd=1)=true:=decide_eq_true w
    rw[eb]at hM
    simp -implicitDefEqProofs(disch:=omega)only[go_sem,p0,p1,p6,p7,p9,repL_s,repL_z,setsL_c,nw,d0,d1,dx,wd]
    exact(hM _ _).2 ⟨⟨by exact p0,by exact p7,rfl,rfl⟩,X2,by omega,d1,db⟩
   ·have eb:decide (((findV n nm).getD zVr).kd=1∧k0=k1)=false:=by simp [w]
    have wd:decide (((findV n nm).getD zVr).kd=1)=false:=decide_eq_false w
    rw[eb]at hM
    simp -implicitDefEqProofs(disch:=omega)only[go_sem,p0,p1,p6,p7,p9,repL_s,repL_z,setsL_c,nw,d0,d1,dx,wd]
    exact(hM _ _).2 ⟨⟨by exact p0,by exact p7,rfl,rfl⟩,X2,by omega,d1,db⟩
  have q25:=qq
  clear qq
  rw[decide_eq_false q25]at e25
  by_cases qq:op=sCall
  ·rw[decide_eq_true qq]at e26
   have hkc:callOk l nm ks.length=true:=by
    have g:=kno.1
    rw[qq]at g
    exact g
   unfold callOk at hkc
   have fd:=ixL_find (fun n:Nd=>decide (n.nm=nm)) l 0
   simp -implicitDefEqProofs(disch:=omega)only[go_sem,p0,p1,p6,p7,p9,c0,c1,e1,e2,e3,e4,e5,e6,e7,e8,e9,e10,e11,e12,e13,e14,e15,e16,e17,e18,e19,e20,e21,e22,e23,e24,e25,e26]
   refine thenN_call (nodeOf_then U (rv.ext (base:=0) xz) (rdNs_keep (keep_b xz) xz.1 (fun _ h=>h) rl) hl nm ?_)
   cases e:ixL (fun n:Nd=>decide (n.nm=nm)) l 0 with
   |none =>
    rw[e]at fd
    have fd:none=l.find? (fun n:Nd=>decide (n.nm=nm)):=fd
    rw[←fd]at hkc
    cases hkc
   |some j =>
    obtain⟨_,hj,_⟩:=ixL_lt e
    have ee:encO (some j)=j:=rfl
    have hj:j<l.length:=by omega
    rw[e]at fd
    have fd:l[j-0]?=l.find? (fun n:Nd=>decide (n.nm=nm)):=fd
    rw[Nat.sub_zero,List.getElem?_eq_getElem hj]at fd
    rw[←fd]at hkc
    have hkc:=of_decide_eq_true hkc
    obtain⟨hj',rj⟩:=rdNs_at rl j hj
    obtain⟨bv,off,cap,ro,row,rfl,hbv,hbn,hlen,hrow⟩:=rv.at hj'
    have okd:=hok _ (List.getElem_mem hj)
    have eo:ownD l n op nm K=callD l nm K:=by rw[qq];rfl
    have ec:callD l nm K=(insOk l[j].ins K,outKd l[j]):=by unfold callD;rw[←fd]
    rw[eo,ec]at hM
    generalize l[j]=d at *
    generalize ls'[j]=zd at *
    obtain⟨x1',x2',x3',x4',ez,-,r1,r2,-⟩:=rj
    have hdn:sV d.nm=.str d.nm.1 d.nm.2:=rfl
    rw[ez,hdn]at hrow
    have hbz:ζ.f bv=_:=(xz.2 bv hbn).trans hbv
    simp -implicitDefEqProofs(disch:=omega)only[go_sem,p0,p1,p6,p7,p9,c0,c1,ee,hbz,hrow,repL_s,repL_z,setsL_c]
    obtain⟨ζ1,h1⟩:∃ζ1,ζ1=ζ.new (.live false [.str d.nm.1 d.nm.2,x1',x2',x3',x4',.int .i64 d.a]):=⟨_,rfl⟩
    have Ez:ExtB ζ.nx ζ ζ1:=by rw[h1];exact extN (.refl _ _)
    have nw:ζ1.f ζ.nx=.live false [.str d.nm.1 d.nm.2,x1',x2',x3',x4',.int .i64 d.a]:=by rw[h1];exact if_pos rfl
    rw[←h1]
    clear h1
    have d1:=(Ez.2 _ nz).trans c1
    have db:BdAt ζ1 cb b2:=(Ez.2 _ hcz).trans hbd
    have nE:=Ez.1
    have X2:=X.of Ez
    have x1:ExtB η0.nx η0 ζ1:=extT xz Ez
    have i1:=okd.2.1.1
    have l1:=fun η' e w=>row_len (η':=η') r1 (vrs_len _) (by omega) e w
    have lk:=fun η' e w=>row_len (η':=η') (own_kdR ox) (List.length_map ..) (by omega) e w
    have hout:0<d.outs.length:=by omega
    obtain⟨bo,offo,capo,roo,rowo,ex2,hbo,hbon,hcello⟩:=vrs_row r2 hout
    obtain⟨co1,co2⟩:=hcello 0 hout
    have bo1:ζ1.f bo=_:=(x1.2 _ hbon).trans hbo
    have eout:outKd d=d.outs[0].kd:=by
     unfold outKd
     rw[List.getD_eq_getElem?_getD,List.getElem?_eq_getElem hout];rfl
    rw[eout]at hM
    have hiK:d.ins.length=K.length:=by omega
    obtain⟨J,hJ⟩:∃J:Nat→FN→HN→Prop,∀m φ ζ',J m φ ζ'↔∃i t,m=K.length-i∧i≤K.length∧(φ 0=.ptr cb 0∧φ 7=.ptr (η.nx+1) 0∧φ 9=x∧φ 11=.bool t∧φ 19=.ptr ζ.nx 0∧φ 20=.int .i64 i)∧ζ'=ζ1∧(t&&insOk (d.ins.drop i) (K.drop i))=insOk d.ins K:=⟨_,fun _ _ _=>Iff.rfl⟩
    refine wpN_loop J K.length ((hJ _ _ _).2 ⟨0,true,rfl,Nat.zero_le _,⟨by exact p0,by exact p7,by exact p9,rfl,rfl,rfl⟩,rfl,rfl⟩) ?_
    clear p0 p1 p6 p7 p9
    intro m φ ζ' hj
    obtain⟨i,t,hm,hi,⟨p0,p7,p9,p11,p19,p20⟩,rfl,et⟩:=(hJ _ _ _).1 hj
    by_cases hlt:i<K.length
    ·obtain⟨bx,hb1',hb2',rfl,hbx⟩:=own_kinds ox (by omega)
     have dx:ζ'.f bx=_:=(Ez.2 _ hb2').trans hbx
     obtain⟨bi,offi,capi,roi,rowi,rfl,hbi,hbin,hcelli⟩:=vrs_row r1 (by omega)
     obtain⟨ci1,ci2⟩:=hcelli i (by omega)
     have bi1:ζ'.f bi=_:=(x1.2 _ hbin).trans hbi
     have gk:(kdc K).getD i und=.int .i64 K[i]:=by
      unfold kdc
      rw[List.getD_eq_getElem?_getD,List.getElem?_map,List.getElem?_eq_getElem hlt];rfl
     have gl:(kdc K).length=K.length:=List.length_map ..
     have gi:rowi.getD (offi+i*5+1) und=.int .i64 d.ins[i].kd:=(cell_at ci2 1 (by decide)).trans rfl
     have ed:insOk (d.ins.drop i) (K.drop i)=(decide (d.ins[i].kd=K[i])&&insOk (d.ins.drop (i+1)) (K.drop (i+1))):=by
      rw[List.drop_eq_getElem_cons (by omega:i<d.ins.length),List.drop_eq_getElem_cons hlt];rfl
     rw[ed,←Bool.and_assoc]at et
     cases t with
     |true =>
      simp -implicitDefEqProofs(disch:=omega)only[go_sem,p0,p7,p9,p11,p19,p20,nw,dx,bi1,gk,gl,gi,l1,lk]
      exact⟨K.length-(i+1),by omega,(hJ _ _ _).2 ⟨i+1,_,rfl,hlt,⟨by exact p0,by exact p7,by exact p9,rfl,by exact p19,rfl⟩,rfl,et⟩⟩
     |false =>
      simp -implicitDefEqProofs(disch:=omega)only[go_sem,p0,p7,p9,p11,p19,p20,lk]
      exact⟨K.length-(i+1),by omega,(hJ _ _ _).2 ⟨i+1,_,rfl,hlt,⟨by exact p0,by exact p7,by exact p9,rfl,by exact p19,rfl⟩,rfl,et⟩⟩
    ·obtain rfl:i=K.length:=by omega
     have et:t=insOk d.ins K:=by
      rw[←et,List.drop_length]
      cases d.ins.drop K.length<;>simp [insOk]
     rw[←et]at hM
     subst ex2
     rw[Nat.zero_mul,Nat.add_zero]at co1 co2
     have go1:rowo.getD (offo+1) und=.int .i64 d.outs[0].kd:=(cell_at co2 1 (by decide)).trans rfl
     simp -implicitDefEqProofs(disch:=omega)only[go_sem,p0,p7,p9,p11,p19,p20,nw,bo1,go1,lk]
     exact(hM _ _).2 ⟨⟨by exact p0,by exact p7,by exact p11,rfl⟩,X2,by omega,d1,db⟩
  have q26:=qq
  clear qq
  rw[decide_eq_false q26]at e26
  have eo:ownD l n op nm K=(true,0):=by unfold ownD;simp only[q1,q2,q3,q4,q5,q6,q7,q8,q9,q10,q11,q12,q13,q14,q15,q16,q17,q18,q19,q20,q21,q22,q23,q24,q25,q26,if_false,or_self]
  rw[eo]at hM
  simp -implicitDefEqProofs(disch:=omega)only[go_sem,p0,p1,p6,p7,p9,c0,c1,e1,e2,e3,e4,e5,e6,e7,e8,e9,e10,e11,e12,e13,e14,e15,e16,e17,e18,e19,e20,e21,e22,e23,e24,e25,e26]
  exact(hM _ _).2 ⟨⟨by exact p0,by exact p7,rfl,rfl⟩,X,nz,c1,hbd⟩
end Go.Proofs.YtdeejbnhlbddgaaGreatDoor
