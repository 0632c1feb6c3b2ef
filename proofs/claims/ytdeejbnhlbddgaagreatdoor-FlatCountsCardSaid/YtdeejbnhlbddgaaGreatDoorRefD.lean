/- What is proved: what the document's check of kinds does. what the document's clock of an expression does. Conditions: as each theorem says. -/
import Derived.Test.YtdeejbnhlbddgaaGreatDoorRefC
set_option linter.unusedVariables false
set_option linter.unusedSimpArgs false
set_option linter.unusedSectionVars false
namespace Go.Plain
open Go.Eng
set_option autoImplicit false
theorem kdLs_drop {n:Nd} {l:List Vr} {k:Nat} {b:Bd} (hk:k<l.length):kdLs n (l.drop k) b=kdLs n (l.drop (k+1)) (failIf (!decide (l[k].on=(0,0))&&!decide (kdOf n l[k].on=1)) 9 l[k].a b):=by
 rw[List.drop_eq_getElem_cons hk];rfl
theorem kdQs_drop {l:List Nd} {n:Nd} {qs:List Eqn} {k:Nat} {b:Bd} (hk:k<qs.length):kdQs l n (qs.drop k) b=kdQs l n (qs.drop (k+1)) (failIf (!decide ((kdE l n qs[k].e b).1=kdOf n qs[k].nm)) 9 qs[k].a (kdE l n qs[k].e b).2):=by
 rw[List.drop_eq_getElem_cons hk];rfl
theorem eq_take {l:List AV} {n:Nat} {a b1 b2 b3 b4 b5 c:AV} (h:(l.drop n).take 7=[a,b1,b2,b3,b4,b5,c]):(l.drop (n+1)).take 5=[b1,b2,b3,b4,b5]:=by
 have h2:(((l.drop n).take 7).drop 1).take 5=[b1,b2,b3,b4,b5]:=by rw[h];rfl
 rw[List.drop_take,List.take_take,List.drop_drop]at h2
 exact h2
theorem kdNs_drop {l ns:List Nd} {k:Nat} {b:Bd} (hk:k<ns.length):kdNs l (ns.drop k) b=kdNs l (ns.drop (k+1)) (kdQs l ns[k] ns[k].eqs (kdLs ns[k] ns[k].locs b)):=by
 rw[List.drop_eq_getElem_cons hk];rfl
end Go.Plain
namespace Go.Proofs.YtdeejbnhlbddgaaGreatDoor
open Go.Eng Go.Plain
set_option autoImplicit false
set_option maxRecDepth 100000
variable {nat:∀ [Deep],Nats}
attribute [-go_sem] Go.Eng.wp_block in
set_option maxHeartbeats 16000000 in
theorem types6_then (U:Usual nat) {l:List Nd} {ls:List (List AV)} {η:HN} {v:AV} (ok:okL l) (hmd:∀n∈l,Made n) (hkn:∀n∈l,∀q∈n.eqs,knownE l n q.e) (rv:RdR 6 η v ls) (rl:rdNs tt η l ls) {Q:AV→HN→Prop}
  (k:∀η',ExtB η.nx η η'→Q (.agg [.int .i64 (typesR l).1,.int .i64 (typesR l).2]) η'):∃v' η',CallN Tryz.prog nat 39 [v] η v' η'∧Q v' η':=by
 obtain⟨hl,okn⟩:=ok
 obtain⟨lsl,ls6⟩:=rdNs_len rl
 refine call_of (PT:=pl39) Tryz.func39 rfl (U 39 (by decide)) ok39 rfl ?_
 have ln:=fun η' e w=>row_len (η':=η') rv lsl (by omega) e w
 have E0:ExtB η.nx η ((η.new (.live false [.int .i64 0,.int .i64 0])).new (.live false [.int .i64 0,.int .i64 0])):=extN (extN (.refl _ _))
 have c0:((η.new (.live false [.int .i64 0,.int .i64 0])).new (.live false [.int .i64 0,.int .i64 0])).f η.nx=.live false [.int .i64 0,.int .i64 0]:=(if_neg (by show¬η.nx=η.nx+1;omega)).trans (if_pos rfl)
 have c1:BdAt ((η.new (.live false [.int .i64 0,.int .i64 0])).new (.live false [.int .i64 0,.int .i64 0])) (η.nx+1) (0,0):=if_pos rfl
 have n0:((η.new (.live false [.int .i64 0,.int .i64 0])).new (.live false [.int .i64 0,.int .i64 0])).nx=η.nx+2:=rfl
 simp -implicitDefEqProofs(disch:=omega)only[go_sem]
 generalize (η.new (.live false [.int .i64 0,.int .i64 0])).new (.live false [.int .i64 0,.int .i64 0])=ηs at *
 obtain⟨cb,hcb⟩:∃cb,cb=η.nx+1:=⟨_,rfl⟩
 rw[←hcb]at c1 ⊢
 obtain⟨I,hI⟩:∃I:Nat→FN→HN→Prop,∀m φ ζ,I m φ ζ↔∃i b,m=l.length-i∧i≤l.length∧(φ 0=v∧φ 2=.ptr η.nx 0∧φ 3=.ptr cb 0∧φ 4=.int .i64 i)∧ExtX cb ηs ζ∧BdAt ζ cb b∧b.1≤100∧kdNs l (l.drop i) b=typesR l:=⟨_,fun _ _ _=>Iff.rfl⟩
 refine wpN_loop I l.length ((hI _ _ _).2 ⟨0,(0,0),rfl,Nat.zero_le _,⟨rfl,rfl,rfl,rfl⟩,.refl _ _,c1,Nat.zero_le _,rfl⟩) ?_
 clear c1
 intro m φ ζ hi
 obtain⟨i,b,hm,hi,⟨p0,p2,p3,p4⟩,X,hbd,hb1,en⟩:=(hI _ _ _).1 hi
 have nX:=X.1
 have xz:ExtB η.nx η ζ:=extX_B E0 (by omega) X
 by_cases hlt:i<l.length
 ·obtain⟨hi',ri⟩:=rdNs_at rl i hlt
  obtain⟨b',off,cap,ro,row,rfl,hbv,hbn,hlen,hrow⟩:=rv.at hi'
  have hbz:ζ.f b'=_:=(xz.2 b' hbn).trans hbv
  have okd:=okn _ (List.getElem_mem hlt)
  have mdd:=hmd _ (List.getElem_mem hlt)
  have knd:=hkn _ (List.getElem_mem hlt)
  rw[kdNs_drop hlt]at en
  generalize hd:l[i]=d at *
  generalize hz:ls[i]=zd at *
  have ri':=ri
  obtain⟨y1,y2,y3,y4,rfl,-,r1,r2,r3,qs,r4,r5⟩:=ri'
  have hsn:sV d.nm=.str d.nm.1 d.nm.2:=rfl
  rw[hsn]at ri hrow
  have l3:=fun η' e w=>row_len (η':=η') r3 (vrs_len _) (by have:=okd.2.2.2.1.1;omega) e w
  have lq:=(rdQs_len r5).1
  have l4:=fun η' e w=>row_len (η':=η') r4 lq (by have:=okd.2.2.2.2.1;omega) e w
  obtain⟨ζ1,e1⟩:∃ζ1,ζ1=ζ.new (.live false [.str d.nm.1 d.nm.2,y1,y2,y3,y4,.int .i64 d.a]):=⟨_,rfl⟩
  have X1:ExtX cb ηs ζ1:=by rw[e1];exact X.new
  have cn:ζ1.f ζ.nx=.live false [.str d.nm.1 d.nm.2,y1,y2,y3,y4,.int .i64 d.a]:=by rw[e1];exact if_pos rfl
  have n1:ζ1.nx=ζ.nx+1:=by rw[e1];rfl
  have hbd1:BdAt ζ1 cb b:=by rw[e1];exact(if_neg (by omega)).trans hbd
  have x1:ExtB η.nx η ζ1:=extX_B E0 (by omega) X1
  simp -implicitDefEqProofs(disch:=omega)only[tailC_s,go_sem,Go.Eng.wp_block,p0,p2,p3,p4,ln,hbz,hrow,repL_s,repL_z,setsL_c]
  rw[←e1]
  clear e1
  have hwc:∀w:Vr,w.cells=[.str w.nm.1 w.nm.2,.int .i64 w.kd,.str w.on.1 w.on.2,.bool w.nt,.int .i64 w.a]:=fun _=>rfl
  obtain⟨V,hV⟩:∃V,V=d.locs:=⟨_,rfl⟩
  have hVl:V.length≤1073741824:=by rw[hV];exact okd.2.2.2.1.1
  have hVk:∀v∈V,okV v:=by rw[hV];exact okd.2.2.2.1.2
  rw[←hV]at r3 en
  have l3:=fun η' e w=>row_len (η':=η') r3 (vrs_len _) (by omega) e w
  obtain⟨J2,hJ2⟩:∃J:Nat→FN→HN→Prop,∀m φ ζ2,J m φ ζ2↔∃k bb,m=V.length-k∧k≤V.length∧(φ 0=.slice b' off ls.length cap∧φ 2=.ptr η.nx 0∧φ 3=.ptr cb 0∧φ 4=.int .i64 i∧φ 5=.ptr ζ.nx 0∧φ 6=.int .i64 k)∧ExtX cb ζ1 ζ2∧BdAt ζ2 cb bb∧bb.1≤100∧kdLs d (V.drop k) bb=kdLs d V b:=⟨_,fun _ _ _=>Iff.rfl⟩
  refine wpN_loop J2 V.length ((hJ2 _ _ _).2 ⟨0,b,rfl,Nat.zero_le _,⟨by exact p0,by exact p2,by exact p3,by exact p4,rfl,rfl⟩,.refl _ _,hbd1,hb1,rfl⟩) ?_
  clear p0 p2 p3 p4
  intro m φ ζ2 hj2
  obtain⟨k2,bb,hm2,hk2,⟨p0,p2,p3,p4,p5,p6⟩,X4,hbd4,hb4,ev⟩:=(hJ2 _ _ _).1 hj2
  have n4:=X4.1
  have XX:=X1.trans X4
  have x4:ExtB η.nx η ζ2:=extX_B E0 (by omega) XX
  have cn4:=(X4.2 _ (by omega) (by omega)).trans cn
  by_cases hkt:k2<V.length
  ·obtain⟨bx,offx,capx,rox,rowx,rfl,hbx,hbxn,hcell⟩:=vrs_row r3 (by omega)
   have bx4:ζ2.f bx=_:=(x4.2 _ hbxn).trans hbx
   obtain⟨ck1,ck2⟩:=hcell k2 hkt
   have okv:=hVk _ (List.getElem_mem hkt)
   rw[kdLs_drop hkt]at ev
   generalize V[k2]=w at *
   have eo:strEq w.on.1 w.on.2 0 0=decide (w.on=(0,0)):=strEq_S w.on (0,0)
   have E5:ExtB ζ2.nx ζ2 (ζ2.new (.live false [.str w.nm.1 w.nm.2,.int .i64 w.kd,.str w.on.1 w.on.2,.bool w.nt,.int .i64 w.a])):=extN (.refl _ _)
   have c5:(ζ2.new (.live false [.str w.nm.1 w.nm.2,.int .i64 w.kd,.str w.on.1 w.on.2,.bool w.nt,.int .i64 w.a])).f ζ2.nx=.live false [.str w.nm.1 w.nm.2,.int .i64 w.kd,.str w.on.1 w.on.2,.bool w.nt,.int .i64 w.a]:=if_pos rfl
   have n5:(ζ2.new (.live false [.str w.nm.1 w.nm.2,.int .i64 w.kd,.str w.on.1 w.on.2,.bool w.nt,.int .i64 w.a])).nx=ζ2.nx+1:=rfl
   by_cases hon:w.on=(0,0)
   ·rw[decide_eq_true hon]at eo ev
    simp -implicitDefEqProofs(disch:=omega)only[go_sem,Go.Eng.wp_block,p0,p2,p3,p4,p5,p6,cn4,l3,bx4,ck2,repL_s,repL_z,setsL_c,c5,eo]
    exact⟨V.length-(k2+1),by omega,(hJ2 _ _ _).2 ⟨k2+1,_,rfl,hkt,⟨by exact p0,by exact p2,by exact p3,by exact p4,by exact p5,rfl⟩,X4.of E5,(E5.2 _ (by omega)).trans hbd4,hb4,ev⟩⟩
   ·rw[decide_eq_false hon]at eo ev
    have cn5:=(E5.2 _ (by omega)).trans cn4
    have hbd5:BdAt _ cb bb:=(E5.2 _ (by omega)).trans hbd4
    simp -implicitDefEqProofs(disch:=omega)only[go_sem,Go.Eng.wp_block,p0,p2,p3,p4,p5,p6,cn4,l3,bx4,ck2,repL_s,repL_z,setsL_c,c5,cn5,eo]
    generalize ζ2.new (.live false [.str w.nm.1 w.nm.2,.int .i64 w.kd,.str w.on.1 w.on.2,.bool w.nt,.int .i64 w.a])=ζ5 at *
    refine thenN_call (find6_then U (rdN_ext ri (extT x4 E5)) okd w.on fun ζ6 e6=>?_)
    rw[hwc]
    have hkd:kdOf d w.on=((findV d w.on).getD zVr).kd:=rfl
    rw[hkd]at ev
    generalize (findV d w.on).getD zVr=u at *
    have E7:ExtB ζ5.nx ζ5 (ζ6.new (.live false [.str u.nm.1 u.nm.2,.int .i64 u.kd,.str u.on.1 u.on.2,.bool u.nt,.int .i64 u.a])):=extN e6
    have c7:(ζ6.new (.live false [.str u.nm.1 u.nm.2,.int .i64 u.kd,.str u.on.1 u.on.2,.bool u.nt,.int .i64 u.a])).f ζ6.nx=.live false [.str u.nm.1 u.nm.2,.int .i64 u.kd,.str u.on.1 u.on.2,.bool u.nt,.int .i64 u.a]:=if_pos rfl
    have d5:=(E7.2 _ (by omega)).trans c5
    have hbd7:BdAt _ cb bb:=(E7.2 _ (by omega)).trans hbd5
    have X7:=(X4.of E5).of E7
    have n7:=X7.1
    have nn7:=E7.1
    by_cases w1:u.kd=1
    ·rw[decide_eq_true w1]at ev
     simp -implicitDefEqProofs(disch:=omega)only[go_sem,Go.Eng.wp_block,p0,p2,p3,p4,p5,p6,repL_s,repL_z,setsL_c,c7,d5,w1]
     rw[w1]at X7 hbd7
     exact⟨V.length-(k2+1),by omega,(hJ2 _ _ _).2 ⟨k2+1,_,rfl,hkt,⟨by exact p0,by exact p2,by exact p3,by exact p4,by exact p5,rfl⟩,X7,hbd7,hb4,ev⟩⟩
    ·rw[decide_eq_false w1]at ev
     simp -implicitDefEqProofs(disch:=omega)only[go_sem,Go.Eng.wp_block,p0,p2,p3,p4,p5,p6,repL_s,repL_z,setsL_c,c7,d5,w1]
     refine thenN_call (fail6_then U hbd7 (by omega) fun ζ8 g1 g2 g3=>?_)
     simp -implicitDefEqProofs(disch:=omega)only[go_sem,Go.Eng.wp_block,p0,p2,p3,p4,p5,p6]
     exact⟨V.length-(k2+1),by omega,(hJ2 _ _ _).2 ⟨k2+1,_,rfl,hkt,⟨by exact p0,by exact p2,by exact p3,by exact p4,by exact p5,rfl⟩,⟨by omega,fun c h1 h2=>(g3 c h2).trans (X7.2 c h1 h2)⟩,g2,fail_le (by decide) hb4,ev⟩⟩
  ·obtain rfl:k2=V.length:=by omega
   rw[List.drop_length]at ev
   have ev:bb=kdLs d V b:=ev
   rw[←ev]at en
   simp -implicitDefEqProofs(disch:=omega)only[go_sem,Go.Eng.wp_block,p0,p2,p3,p4,p5,p6,cn4,l3]
   have hEl:=okd.2.2.2.2.1
   have hEo:=okd.2.2.2.2.2
   have hEm:=mdd.eqs
   generalize hEQ:d.eqs=EQ at *
   obtain⟨J6,hJ6⟩:∃J:Nat→FN→HN→Prop,∀m φ ζ6,J m φ ζ6↔∃k6 b6,m=EQ.length-k6∧k6≤EQ.length∧(φ 0=.slice b' off ls.length cap∧φ 2=.ptr η.nx 0∧φ 3=.ptr cb 0∧φ 4=.int .i64 i∧φ 5=.ptr ζ.nx 0∧φ 10=.int .i64 k6)∧ExtX cb ζ1 ζ6∧BdAt ζ6 cb b6∧b6.1≤100∧kdQs l d (EQ.drop k6) b6=kdQs l d EQ bb:=⟨_,fun _ _ _=>Iff.rfl⟩
   refine wpN_loop J6 EQ.length ((hJ6 _ _ _).2 ⟨0,bb,rfl,Nat.zero_le _,⟨by exact p0,by exact p2,by exact p3,by exact p4,by exact p5,rfl⟩,X4,hbd4,hb4,rfl⟩) ?_
   clear p0 p2 p3 p4 p5 p6 X4 XX x4 hbd4 hb4 n4 cn4
   intro m φ ζ6 hj6
   obtain⟨k6,b6,hm6,hk6,⟨p0,p2,p3,p4,p5,p10⟩,X6,hbd6,hb6,eq6⟩:=(hJ6 _ _ _).1 hj6
   have n6:=X6.1
   have cn6:=(X6.2 _ (by omega) (by omega)).trans cn
   have x6:ExtB η.nx η ζ6:=extX_B E0 (by omega) (X1.trans X6)
   by_cases hkt:k6<EQ.length
   ·obtain⟨bq,offq,capq,roq,rowq,ey,hbq,hbqn,hcell⟩:=eqs_row r4 r5 (by omega)
    obtain⟨f1,f2,f3,f4,f5,cq1,cq2,req⟩:=hcell k6 hkt
    have okq:=hEo _ (List.getElem_mem hkt)
    have mdq:=hEm _ (List.getElem_mem hkt)
    have knq:=knd _ (List.getElem_mem hkt)
    rw[kdQs_drop hkt]at eq6
    subst ey
    have bq6:ζ6.f bq=_:=(x6.2 _ hbqn).trans hbq
    generalize hq:EQ[k6]=q at *
    have gqe:=eq_take cq2
    have gq0:rowq.getD (offq+k6*7) und=.str q.nm.1 q.nm.2:=(cell_0 cq2 (by decide)).trans rfl
    simp -implicitDefEqProofs(disch:=omega)only[go_sem,Go.Eng.wp_block,p0,p2,p3,p4,p5,p10,cn6,l4,bq6,cq2,gq0]
    have EA:ExtB ζ6.nx ζ6 (ζ6.at_ (ζ6.nx+14)):=⟨by show ζ6.nx≤ζ6.nx+14;omega,fun _ _=>rfl⟩
    refine dE_call (find6_then U (rdN_ext ri (extT x6 EA)) okd q.nm fun ζa Ea=>?_)
    rw[hwc]
    have hkd:kdOf d q.nm=((findV d q.nm).getD zVr).kd:=rfl
    rw[hkd]at eq6
    generalize (findV d q.nm).getD zVr=u at *
    have na:ζ6.nx+14≤ζa.nx:=Ea.1
    have cna:=(Ea.2 _ (show ζ.nx<ζ6.nx+14 by omega)).trans cn6
    have bqa:ζa.f bq=_:=(Ea.2 _ (by show bq<ζ6.nx+14;have:=x6.1;omega)).trans bq6
    have WX:ExtB ζ6.nx ζ6 ((((ζa.at_ (ζ6.nx+(1+1+1+1+1+1+1+1+1+1+1))).new (.live false [.str 0 0,.int .i64 0,.str 0 0,.bool false,.int .i64 0])).at_ ζa.nx).put (ζ6.nx+(1+1+1+1+1+1+1+1+1+1+1)) (.live false [.str u.nm.1 u.nm.2,.int .i64 u.kd,.str u.on.1 u.on.2,.bool u.nt,.int .i64 u.a])):=⟨by show ζ6.nx≤ζa.nx;omega,fun c hc=>(if_neg (by omega)).trans ((if_neg (by show¬c=ζ6.nx+(1+1+1+1+1+1+1+1+1+1+1);omega)).trans (Ea.2 c (by show c<ζ6.nx+14;omega)))⟩
    have Wn:((((ζa.at_ (ζ6.nx+(1+1+1+1+1+1+1+1+1+1+1))).new (.live false [.str 0 0,.int .i64 0,.str 0 0,.bool false,.int .i64 0])).at_ ζa.nx).put (ζ6.nx+(1+1+1+1+1+1+1+1+1+1+1)) (.live false [.str u.nm.1 u.nm.2,.int .i64 u.kd,.str u.on.1 u.on.2,.bool u.nt,.int .i64 u.a])).nx=ζa.nx:=rfl
    have Wu:((((ζa.at_ (ζ6.nx+(1+1+1+1+1+1+1+1+1+1+1))).new (.live false [.str 0 0,.int .i64 0,.str 0 0,.bool false,.int .i64 0])).at_ ζa.nx).put (ζ6.nx+(1+1+1+1+1+1+1+1+1+1+1)) (.live false [.str u.nm.1 u.nm.2,.int .i64 u.kd,.str u.on.1 u.on.2,.bool u.nt,.int .i64 u.a])).f (ζ6.nx+(1+1+1+1+1+1+1+1+1+1+1))=.live false [.str u.nm.1 u.nm.2,.int .i64 u.kd,.str u.on.1 u.on.2,.bool u.nt,.int .i64 u.a]:=if_pos rfl
    have cnW:=(WX.2 _ (by omega)).trans cn6
    have bqW:=(WX.2 _ (by have:=x6.1;omega)).trans bq6
    have hbW:BdAt _ cb b6:=(WX.2 _ (by omega)).trans hbd6
    simp -implicitDefEqProofs(disch:=omega)only[go_sem,Go.Eng.wp_block,p0,p2,p3,p4,p5,p10,cn6,l4,bq6,cq2,gq0,gqe,cna,bqa,repL_s,repL_z,setsL_c,cnW,bqW]
    generalize (((ζa.at_ (ζ6.nx+(1+1+1+1+1+1+1+1+1+1+1))).new (.live false [.str 0 0,.int .i64 0,.str 0 0,.bool false,.int .i64 0])).at_ ζa.nx).put (ζ6.nx+(1+1+1+1+1+1+1+1+1+1+1)) (.live false [.str u.nm.1 u.nm.2,.int .i64 u.kd,.str u.on.1 u.on.2,.bool u.nt,.int .i64 u.a])=W at *
    have XW:=X6.of WX
    have xW:ExtB η.nx η W:=extX_B E0 (by omega) (X1.trans XW)
    have T:Trees η (.slice b' off ls.length cap) l d [.str d.nm.1 d.nm.2,y1,y2,y3,.slice bq offq qs.length capq,.int .i64 d.a]:=⟨⟨ls,rv,rl⟩,ri,⟨hl,okn⟩,okd⟩
    have nW:=WX.1
    refine dE_call (kind6_then U T (by omega) q.e okq.2 mdq knq W _ b6 _ xW (by omega) hbW hb6 req fun ζc Xc hbdc=>?_)
    have nc:=Xc.1
    have hle:=kdE_le (l:=l) (n:=d) q.e b6 hb6
    have cnc:=(Xc.2 _ (by omega) (by omega)).trans cnW
    have bqc:=(Xc.2 _ (by have:=x6.1;omega) (by have:=E0.1;omega)).trans bqW
    have uc:=(Xc.2 _ (by omega) (by omega)).trans Wu
    have XC:=XW.trans Xc
    generalize (kdE l d q.e b6).1=kk at *
    generalize (kdE l d q.e b6).2=b7 at *
    by_cases w1:kk=u.kd
    ·rw[decide_eq_true w1]at eq6
     simp -implicitDefEqProofs(disch:=omega)only[go_sem,Go.Eng.wp_block,p0,p2,p3,p4,p5,p10,cnW,l4,bqW,cq2,gq0,gqe,cnc,bqc,Wu,uc,w1]
     exact⟨EQ.length-(k6+1),by omega,(hJ6 _ _ _).2 ⟨k6+1,_,rfl,hkt,⟨by exact p0,by exact p2,by exact p3,by exact p4,by exact p5,rfl⟩,XC,hbdc,hle,eq6⟩⟩
    ·rw[decide_eq_false w1]at eq6
     have gq6:rowq.getD (offq+k6*7+6) und=.int .i64 q.a:=(cell_at cq2 6 (by decide)).trans rfl
     have oqa:=okq.1
     simp -implicitDefEqProofs(disch:=omega)only[go_sem,Go.Eng.wp_block,p0,p2,p3,p4,p5,p10,cnW,l4,bqW,cq2,gq0,gqe,cnc,bqc,Wu,uc,w1,gq6]
     refine thenN_call (fail6_then U hbdc (by omega) fun ζ8 g1 g2 g3=>?_)
     simp -implicitDefEqProofs(disch:=omega)only[go_sem,Go.Eng.wp_block,p0,p2,p3,p4,p5,p10]
     exact⟨EQ.length-(k6+1),by omega,(hJ6 _ _ _).2 ⟨k6+1,_,rfl,hkt,⟨by exact p0,by exact p2,by exact p3,by exact p4,by exact p5,rfl⟩,⟨by have:=XC.1;omega,fun c h1 h2=>(g3 c h2).trans (XC.2 c h1 h2)⟩,g2,fail_le (by decide) hle,eq6⟩⟩
   ·obtain rfl:k6=EQ.length:=by omega
    rw[List.drop_length]at eq6
    have eq6:b6=kdQs l d EQ bb:=eq6
    rw[←eq6]at en
    simp -implicitDefEqProofs(disch:=omega)only[go_sem,Go.Eng.wp_block,p0,p2,p3,p4,p5,p10,cn6,l4]
    exact⟨l.length-(i+1),by omega,(hI _ _ _).2 ⟨i+1,_,rfl,hlt,⟨by exact p0,by exact p2,by exact p3,rfl⟩,X1.trans X6,hbd6,hb6,en⟩⟩
 ·obtain rfl:i=l.length:=by omega
  rw[List.drop_length]at en
  have en:b=typesR l:=en
  have hbd':ζ.f cb=.live false [.int .i64 b.1,.int .i64 b.2]:=hbd
  have d0:=(X.2 _ (by omega) (by omega)).trans c0
  rw[←en]at k
  simp -implicitDefEqProofs(disch:=omega)only[go_sem,Go.Eng.wp_block,p0,p2,p3,p4,ln,hbd',d0]
  exact k _ (extP xz (by omega))
end Go.Proofs.YtdeejbnhlbddgaaGreatDoor
namespace Go.Plain
open Go.Eng
set_option autoImplicit false
theorem oneR_le {a:Nat}:∀(ks:List Ck) (k:Ck) (b:Bd),b.1≤100→(oneR a ks k b).2.1≤100
 | [],k,b,h=>h
 |q::r,k,b,h=>by
  unfold oneR
  split
  ·exact oneR_le r k b h
  ·split
   ·exact oneR_le r _ b h
   ·exact oneR_le r _ _ (failIf_le (by decide) h)
theorem ownR_le {n:Nd} {op nm:S} {N a:Nat} {ks:List Ck} {b:Bd} (h:b.1≤100):(ownR n op nm N a ks b).2.1≤100:=by
 unfold ownR
 split
 ·exact h
 split
 ·exact h
 split
 ·exact failIf_le (by decide) h
 split
 ·exact failIf_le (by decide) (failIf_le (by decide) h)
 ·exact oneR_le _ _ _ h
mutual
theorem clkE_le {n:Nd}:∀(e:Tr) (b:Bd),b.1≤100→(clkE n e b).2.1≤100
 |.mk op nm N a ks,b,h=>by
  unfold clkE
  exact ownR_le (clkEs_le ks b h)
theorem clkEs_le {n:Nd}:∀(ks:List Tr) (b:Bd),b.1≤100→(clkEs n ks b).2.1≤100
 | [],b,h=>by unfold clkEs;exact h
 |k::r,b,h=>by
  unfold clkEs
  exact clkEs_le r _ (clkE_le k b h)
end
def smallC (k:Ck):Prop:=k.1.length≤1073741825
theorem oneR_small {a:Nat}:∀(ks:List Ck) (k:Ck) (b:Bd),(∀q∈ks,smallC q)→smallC k→smallC (oneR a ks k b).1
 | [],k,b,_,h=>h
 |q::r,k,b,g,h=>by
  have g':=fun x hx=>g x (List.mem_cons_of_mem q hx)
  unfold oneR
  split
  ·exact oneR_small r k b g' h
  ·split
   ·exact oneR_small r _ b g' (g q (List.mem_cons_self ..))
   ·exact oneR_small r _ _ g' h
theorem clkEs_len {n:Nd}:∀(ks:List Tr) (b:Bd),(clkEs n ks b).1.length=ks.length
 | [],b=>by simp only[clkEs,List.length_nil]
 |a::r,b=>by simp only[clkEs,List.length_cons,clkEs_len r]
theorem clkEs_snoc {n:Nd}:∀(ks:List Tr) (k:Tr) (b:Bd),clkEs n (ks++[k]) b=((clkEs n ks b).1++[(clkE n k (clkEs n ks b).2).1],(clkE n k (clkEs n ks b).2).2)
 | [],k,b=>by simp only[clkEs,List.nil_append]
 |a::r,k,b=>by simp only[clkEs,List.cons_append,clkEs_snoc r]
mutual
theorem clkE_small {n:Nd} (hc:∀s,(clkOf n s).length≤1073741824):∀(e:Tr) (b:Bd),smallC (clkE n e b).1
 |.mk op nm N a ks,b=>by
  have hk:=clkEs_small hc ks b
  have h0:∀s q,smallC (clkOf n s,q):=fun s q=>Nat.le_succ_of_le (hc s)
  unfold clkE ownR
  split
  ·exact Nat.zero_le _
  split
  ·exact h0 _ _
  split
  ·show(stepK _ _ _).length≤_
   have:=hc nm
   unfold stepK
   rw[List.length_append]
   show _+1≤_
   omega
  split
  ·exact h0 _ _
  ·exact oneR_small _ _ _ hk (Nat.zero_le _)
theorem clkEs_small {n:Nd} (hc:∀s,(clkOf n s).length≤1073741824):∀(ks:List Tr) (b:Bd),∀q∈(clkEs n ks b).1,smallC q
 | [],b=>by unfold clkEs;exact fun q h=>by cases h
 |k::r,b=>by
  unfold clkEs
  intro q hq
  rcases List.mem_cons.1 hq with rfl|hq
  ·exact clkE_small hc k b
  ·exact clkEs_small hc r _ q hq
end
def cksB (η:HN):List Ck→List AV→Prop
 | [],ys=>ys=[]
 |k::ks,ys=>∃y r,ys=y::r∧CkB η y k.1∧cksB η ks r
theorem cksB_at {η:HN}:∀{C:List Ck} {ys:List AV},cksB η C ys→∀i (h:i<C.length),∃h':i<ys.length,CkB η ys[i] C[i].1
 |k::ks,_,⟨y,r,e,h2,h3⟩,0,hi=>by subst e;exact⟨Nat.succ_pos _,h2⟩
 |k::ks,_,⟨y,r,e,h2,h3⟩,i+1,hi=>by
  subst e
  obtain⟨q,r⟩:=cksB_at h3 i (by simpa using hi)
  exact⟨Nat.succ_lt_succ q,r⟩
theorem cksB_len {η:HN}:∀{C:List Ck} {ys:List AV},cksB η C ys→ys.length=C.length
 | [],ys,h=>by
  have h:ys=[]:=h
  rw[h];rfl
 |k::ks,_,⟨y,r,e,h2,h3⟩=>by
  subst e
  exact congrArg (·+1) (cksB_len h3)
theorem cksB_app {η:HN} {k:Ck} {y:AV} (g:CkB η y k.1):∀{C:List Ck} {ys:List AV},cksB η C ys→cksB η (C++[k]) (ys++[y])
 | [],ys,h=>by
  have h:ys=[]:=h
  subst h
  exact⟨y,[],rfl,g,rfl⟩
 |_::_,_,⟨l,r,e,h2,h3⟩=>by
  subst e
  exact⟨l,r++[y],rfl,h2,cksB_app g h3⟩
def KeepC (η η':HN):Prop:=η.nx≤η'.nx∧∀b,b<η.nx→∀c:List Stp,η.f b=.live false (c.map stc).flatten→η'.f b=η.f b
theorem CkB.keep {η η':HN} {y:AV} {c:List Stp} (h:CkB η y c) (k:KeepC η η'):CkB η' y c:=by
 rcases h with h|⟨b,cp,h1,h2,h3⟩
 ·exact .inl h
 ·exact .inr ⟨b,cp,Nat.lt_of_lt_of_le h1 k.1,h2,(k.2 b h1 c h3).trans h3⟩
theorem cksB_keep {η η':HN} (k:KeepC η η'):∀{C:List Ck} {ys:List AV},cksB η C ys→cksB η' C ys
 | [],_,h=>h
 |_::_,_,⟨l,r,e,h2,h3⟩=>⟨l,r,e,h2.keep k,cksB_keep k h3⟩
theorem stc_no {c:List Stp} {x:AV} {l:List AV} (hx:∀n v,x≠.str n v):(c.map stc).flatten≠x::l:=by
 cases c with
 |nil=>exact fun h=>by cases h
 |cons s c =>
  intro h
  have h:AV.str s.1.1 s.1.2::_=x::l:=h
  injection h with h1 _
  exact hx _ _ h1.symm
def RowA (lo:Nat) (η:HN) (x:AV) (l:List AV):Prop:=(x=.nilslice∧l=[])∨∃b,lo≤b∧b<η.nx∧x=.slice b 0 l.length (.un 1)∧l≠[]∧η.f b=.live false l
theorem RowA.own {lo:Nat} {η:HN} {x:AV} {l:List AV} (h:RowA lo η x l):OwnA 1 lo η x l.length l:=by
 rcases h with ⟨rfl,rfl⟩|⟨b,h1,h2,rfl,h3,h4⟩
 ·exact⟨rfl,.inl ⟨rfl,rfl⟩⟩
 ·exact⟨(Nat.mul_one _).symm,.inr ⟨b,h1,h2,.inr ⟨rfl,h4⟩⟩⟩
theorem RowA.rd {lo:Nat} {η:HN} {x:AV} {l:List AV} (h:RowA lo η x l):RdR 1 η x (l.map fun v=>[v]):=by
 have fl:∀l:List AV,(l.map fun v=>[v]).flatten=l:=fun l=>by
  induction l with
  |nil=>rfl
  |cons a l ih=>show a::(l.map fun v=>[v]).flatten=a::l;rw[ih]
 rcases h with ⟨rfl,rfl⟩|⟨b,h1,h2,rfl,h3,h4⟩
 ·exact .inl ⟨rfl,.inl rfl⟩
 ·have:=RdR.blk (s:=1) (cap:=.un 1) (l.map fun v=>[v]) (by rw[fl];exact h4) h2 (fun l hl=>by obtain⟨v,_,rfl⟩:=List.mem_map.1 hl;rfl)
  rw[List.length_map]at this
  exact this
theorem rowA_app {w lo:Nat} {η:HN} {x v:AV} {l:List AV} {zb:Nat} {c:Cp} (h:RowA lo η x l) (hz:η.f zb=.live false [v]) (hzn:zb<η.nx) (hlen:(l.length+1)*w≤140737488355328) (hb:lo≤η.nx) :
  ∃η',apSrcN 1 w x (.slice zb 0 1 c) η=.ok (.slice η.nx 0 (l.length+1) (.un 1)) η'∧RowA lo η' (.slice η.nx 0 (l.length+1) (.un 1)) (l++[v])∧η'.nx=η.nx+1∧∀b,b<η.nx→¬blkIs x b→η'.f b=η.f b:=by
 obtain⟨η',e,o,hn,hk⟩:=app_sep (s:=1) (w:=w) (base:=lo) (m:=1) (k:=[v]) (by decide) h.own (.inr ⟨zb,0,_,false,_,rfl,hz,hzn,Nat.le_refl _,rfl,rfl⟩) (by decide) hlen hb
 refine⟨η',e,.inr ⟨η.nx,hb,by omega,by rw[List.length_append];rfl,by simp,?_⟩,hn,hk⟩
 obtain⟨_,⟨q,_⟩|⟨b,h1,h2,⟨q,g,_⟩|⟨q,h4⟩⟩⟩:=o
 ·cases q
 ·omega
 ·cases q;exact h4
theorem RowA.keep {lo:Nat} {η η':HN} {x:AV} {l:List AV} (h:RowA lo η x l) (hn:η.nx≤η'.nx) (hk:∀b,lo≤b→b<η.nx→η.f b=.live false l→η'.f b=η.f b):RowA lo η' x l:=by
 rcases h with h|⟨b,h1,h2,h3,h4,h5⟩
 ·exact .inl h
 ·exact .inr ⟨b,h1,by omega,h3,h4,(hk b h1 h2 h5).trans h5⟩
theorem RowA.blk {lo:Nat} {η:HN} {x:AV} {l:List AV} (h:RowA lo η x l) {b:Nat} (hb:blkIs x b):lo≤b∧b<η.nx∧l≠[]∧η.f b=.live false l:=by
 rcases h with ⟨rfl,_⟩|⟨c,h1,h2,rfl,h4,h5⟩
 ·exact hb.elim
 ·obtain rfl:c=b:=hb
  exact⟨h1,h2,h4,h5⟩
theorem ckB_form {η:HN} {y:AV} {c:List Stp} (h:CkB η y c):∀n v,y≠.str n v:=by
 rcases h with ⟨rfl,_⟩|⟨b,cp,_,rfl,_⟩<;>exact fun _ _ g=>by cases g
end Go.Plain
namespace Go.Proofs.YtdeejbnhlbddgaaGreatDoor
open Go.Eng Go.Plain
set_option autoImplicit false
set_option maxRecDepth 100000
variable {nat:∀ [Deep],Nats}
theorem keepX {η η':HN} {cb:Nat} {b:Bd} (h:BdAt η cb b) (x:ExtX cb η η'):KeepC η η':=⟨x.1,fun c h1 s h2=>x.2 c h1 (fun g=>by
 rw[g,h]at h2
 injection h2 with _ h3
 exact stc_no (fun _ _ h=>by cases h) h3.symm)⟩
set_option maxHeartbeats 16000000 in
theorem clock6_then (U:Usual nat) {η0:HN} {n:Nd} {z:List AV} (r0:rdN tt η0 n z) (okn:okN n) {k0:Nat} (hu:∀s,upL n k0 s []=some (clkOf n s)) {cb:Nat} (hc:η0.nx≤cb):∀(e:Tr),okE e→wanE e→∀(η:HN) (ze:List AV) (b:Bd) (Q:AV→HN→Prop),ExtB η0.nx η0 η→cb<η.nx→BdAt η cb b→b.1≤100→rdE tt η0 e ze →
  (∀y η',ExtX cb η η'→CkB η' y (clkE n e b).1.1→BdAt η' cb (clkE n e b).2→Q (.tup [y,.bool (clkE n e b).1.2]) η')→∃v' η',CallN Tryz.prog nat 77 [.ptr cb 0,.agg z,.agg ze] η v' η'∧Q v' η':=by
 refine Tr.ind fun op nm N a ks ih=>?_
 intro ok wan η ze b Q x' hcn hb hb1 r kk
 unfold okE at ok
 unfold wanE at wan
 obtain⟨ha,hkl,hks⟩:=ok
 have hks:=(okEs_iff _).1 hks
 have hws:=(wanEs_iff _).1 wan.2
 unfold rdE at r
 obtain⟨y,rfl,-,ls,ry,rks⟩:=r
 have hll:=(rdEs_len rks).1
 have r0':=r0
 obtain⟨y1,y2,y3,y4,rfl,-⟩:=r0'
 have hsn:sV n.nm=.str n.nm.1 n.nm.2:=rfl
 have cle:=clk_len okn
 have eE:clkE n (.mk op nm N a ks) b=ownR n op nm N a (clkEs n ks b).1 (clkEs n ks b).2:=by
  conv=>lhs;unfold clkE
 rw[eE]at kk
 have l3:=fun η' e w=>row_len (η':=η') ry hll (by omega) e w
 refine call_of (PT:=pl77) Tryz.func77 rfl (U 77 (by decide)) ok77 rfl ?_
 obtain⟨K,hK⟩:∃K:FN→HN→Prop,∀φ ζ,K φ ζ↔∃xa xb ya,(φ 0=.ptr cb 0∧φ 4=.ptr η.nx 0∧φ 5=.ptr (η.nx+1) 0∧φ 8=xa∧φ 9=xb)∧RowA (η.nx+2) ζ xa ya∧RowA (η.nx+2) ζ xb ((clkEs n ks b).1.map fun c=>.bool c.2)∧cksB ζ (clkEs n ks b).1 ya∧ExtX cb η ζ∧η.nx+1<ζ.nx∧ζ.f η.nx=.live false [.str n.nm.1 n.nm.2,y1,y2,y3,y4,.int .i64 n.a]∧ζ.f (η.nx+1)=.live false [.str op.1 op.2,.str nm.1 nm.2,.int .i64 N,.int .i64 a,y]∧BdAt ζ cb (clkEs n ks b).2:=⟨_,fun _ _=>Iff.rfl⟩
 refine wp_cut (M:=K) 4 _ _ _ ?_ ?_
 rotate_left
 ·obtain⟨η1,h1⟩:∃η1,η1=(η.new (.live false [.str n.nm.1 n.nm.2,y1,y2,y3,y4,.int .i64 n.a])).new (.live false [.str op.1 op.2,.str nm.1 nm.2,.int .i64 N,.int .i64 a,y]):=⟨_,rfl⟩
  have E:ExtB η.nx η η1:=by rw[h1];exact extN (extN (.refl _ _))
  have c0:η1.f η.nx=.live false [.str n.nm.1 n.nm.2,y1,y2,y3,y4,.int .i64 n.a]:=by rw[h1];exact(if_neg (by show¬η.nx=η.nx+1;omega)).trans (if_pos rfl)
  have c1:η1.f (η.nx+1)=.live false [.str op.1 op.2,.str nm.1 nm.2,.int .i64 N,.int .i64 a,y]:=by rw[h1];exact if_pos rfl
  have n1:η1.nx=η.nx+2:=by rw[h1];rfl
  have cb1:BdAt η1 cb b:=(E.2 _ hcn).trans hb
  have X:ExtX cb η η1:=extB_X cb E
  simp -implicitDefEqProofs(disch:=omega)only[go_sem,sV,hsn]
  rw[←h1]
  clear h1
  obtain⟨I,hI⟩:∃I:Nat→FN→HN→Prop,∀m φ ζ,I m φ ζ↔∃i xa xb ya,m=ks.length-i∧i≤ks.length∧(φ 0=.ptr cb 0∧φ 4=.ptr η.nx 0∧φ 5=.ptr (η.nx+1) 0∧φ 8=xa∧φ 9=xb∧φ 10=.int .i64 i)∧RowA (η.nx+2) ζ xa ya∧RowA (η.nx+2) ζ xb ((clkEs n (ks.take i) b).1.map fun c=>.bool c.2)∧cksB ζ (clkEs n (ks.take i) b).1 ya∧ExtX cb η ζ∧η.nx+1<ζ.nx∧ζ.f η.nx=.live false [.str n.nm.1 n.nm.2,y1,y2,y3,y4,.int .i64 n.a]∧ζ.f (η.nx+1)=.live false [.str op.1 op.2,.str nm.1 nm.2,.int .i64 N,.int .i64 a,y]∧BdAt ζ cb (clkEs n (ks.take i) b).2:=⟨_,fun _ _ _=>Iff.rfl⟩
  have k0:clkEs n (ks.take 0) b=([],b):=by simp only[List.take_zero,clkEs]
  refine wpN_loop I ks.length ((hI _ _ _).2 ⟨0,.nilslice,.nilslice,[],rfl,Nat.zero_le _,⟨rfl,rfl,rfl,rfl,rfl,rfl⟩,.inl ⟨rfl,rfl⟩,by rw[k0];exact .inl ⟨rfl,rfl⟩,by rw[k0];exact rfl,X,by omega,c0,c1,by rw[k0];exact cb1⟩) ?_
  clear X c0 c1
  intro m φ ζ hi
  obtain⟨i,xa,xb,ya,hm,hi,⟨p0,p4,p5,p8,p9,p10⟩,ra,rb,cy,X,nz,c0,c1,hbd⟩:=(hI _ _ _).1 hi
  have xz:=extX_B x' hc X
  by_cases hlt:i<ks.length
  ·obtain⟨hi',ri⟩:=rdEs_at rks i hlt
   obtain⟨bk,off,cap,ro,row,rfl,hbv,hbn,hlen,hrow⟩:=ry.at hi'
   have hbz:ζ.f bk=_:=(xz.2 bk hbn).trans hbv
   obtain⟨f1,f2,f3,f4,f5,ef⟩:=rdE_cells ri
   rw[ef]at hrow ri
   have hCl:(clkEs n (ks.take i) b).1.length=i:=by rw[clkEs_len,List.length_take];omega
   have hyl:ya.length=i:=(cksB_len cy).trans hCl
   simp -implicitDefEqProofs(disch:=omega)only[go_sem,p0,p4,p5,p8,p9,p10,c0,c1,l3,hbz,hrow]
   refine dE_call (ih _ (List.getElem_mem hlt) (hks _ (List.getElem_mem hlt)) (hws _ (List.getElem_mem hlt)) ζ _ (clkEs n (ks.take i) b).2 _ xz (Nat.lt_of_lt_of_le hcn X.1) hbd (clkEs_le _ _ hb1) ri fun y8 ζ8 X8 ck8 hbd8=>?_)
   have n8:ζ.nx≤ζ8.nx:=X8.1
   have lx:=X.1
   have cx:=x'.1
   have d0:ζ8.f η.nx=_:=(X8.2 _ (by omega) (by omega)).trans c0
   have d1:ζ8.f (η.nx+1)=_:=(X8.2 _ (by omega) (by omega)).trans c1
   have d2:ζ8.f bk=_:=(X8.2 _ (by have:=xz.1;omega) (by omega)).trans hbz
   have kc8:KeepC ζ ζ8:=⟨n8,fun c h1 s h2=>X8.2 c h1 (fun g=>by
    rw[g,hbd]at h2
    injection h2 with _ h3
    exact stc_no (fun _ _ h=>by cases h) h3.symm)⟩
   have ra8:RowA (η.nx+2) ζ8 xa ya:=ra.keep n8 fun c h1 h2 _=>X8.2 c h2 (by omega)
   have rb8:=rb.keep (η':=ζ8) n8 fun c h1 h2 _=>X8.2 c h2 (by omega)
   have cy8:=cksB_keep kc8 cy
   generalize hck:(clkE n ks[i] (clkEs n (ks.take i) b).2).1=ck at *
   have hyc:=ck8.cells
   have hyf:=ckB_form ck8
   obtain⟨ζ9,e9,ra9,n9,k9⟩:=rowA_app (w:=24) (η:=ζ8.new (.live false [y8])) (v:=y8) (zb:=ζ8.nx) (c:=.kn 1) (ra8.keep (Nat.le_succ _) fun c h1 h2 _=>if_neg (by omega)) (if_pos rfl) (Nat.lt_succ_self _) (by omega) (by show η.nx+2≤ζ8.nx+1;omega)
   have k9':∀c,c<ζ8.nx→¬blkIs xa c→ζ9.f c=ζ8.f c:=fun c h1 h2=>(k9 c (by show c<ζ8.nx+1;omega) h2).trans (if_neg (by omega))
   have n9':ζ9.nx=ζ8.nx+2:=n9
   have xal:∀c,blkIs xa c→η.nx+2≤c∧ya≠[]∧ζ8.f c=.live false ya:=fun c hc=>⟨(ra8.blk hc).1,(ra8.blk hc).2.2⟩
   have kc9:KeepC ζ8 ζ9:=⟨by omega,fun c h1 s h2=>k9' c h1 (fun g=>by
    obtain⟨_,q1,q2⟩:=xal c g
    rw[q2]at h2
    injection h2 with _ h3
    obtain⟨u,v,rfl⟩:=List.exists_cons_of_ne_nil q1
    have:=cksB_at cy8 0 (by rw[hCl,←hyl];exact Nat.succ_pos _)
    exact stc_no (ckB_form this.2) h3.symm)⟩
   have rb9:=rb8.keep (η':=ζ9) (by omega) fun c h1 h2 h3=>k9' c h2 (fun g=>by
    obtain⟨_,q1,q2⟩:=xal c g
    rw[q2]at h3
    injection h3 with _ h4
    obtain⟨u,v,rfl⟩:=List.exists_cons_of_ne_nil q1
    have hi0:0<(clkEs n (ks.take i) b).1.length:=by rw[hCl,←hyl];exact Nat.succ_pos _
    have:=cksB_at cy8 0 hi0
    cases hC:(clkEs n (ks.take i) b).1 with
    |nil=>rw[hC]at hi0;cases hi0
    |cons q Q =>
     rw[hC]at h4
     injection h4 with h5 _
     have h6:=this.2
     rw[List.getElem_cons_zero,h5]at h6
     rcases h6 with ⟨h6,_⟩|⟨_,_,_,h6,_⟩<;>cases h6)
   have cy9:=cksB_app (ck8.keep kc9) (cksB_keep kc9 cy8)
   obtain⟨ζ10,e10,rb10,n10,k10⟩:=rowA_app (w:=1) (η:=ζ9.new (.live false [.bool ck.2])) (v:=.bool ck.2) (zb:=ζ9.nx) (c:=.kn 1) (rb9.keep (Nat.le_succ _) fun c h1 h2 _=>if_neg (by omega)) (if_pos rfl) (Nat.lt_succ_self _) (by rw[List.length_map,hCl];omega) (by show η.nx+2≤ζ9.nx+1;omega)
   have k10':∀c,c<ζ9.nx→¬blkIs xb c→ζ10.f c=ζ9.f c:=fun c h1 h2=>(k10 c (by show c<ζ9.nx+1;omega) h2).trans (if_neg (by omega))
   have n10':ζ10.nx=ζ9.nx+2:=n10
   have xbl:∀c,blkIs xb c→η.nx+2≤c∧((clkEs n (ks.take i) b).1.map fun c=>AV.bool c.2)≠[]∧ζ9.f c=.live false ((clkEs n (ks.take i) b).1.map fun c=>AV.bool c.2):=fun c hc=>⟨(rb9.blk hc).1,(rb9.blk hc).2.2⟩
   have bno:∀(l:List Ck) (x:AV) (v:List AV),(l.map fun c=>AV.bool c.2)=x::v→∃q,x=.bool q:=fun l x v h=>by
    cases l with
    |nil=>cases h
    |cons q l=>injection h with h1 _;exact⟨_,h1.symm⟩
   have kc10:KeepC ζ9 ζ10:=⟨by omega,fun c h1 s h2=>k10' c h1 (fun g=>by
    obtain⟨_,q1,q2⟩:=xbl c g
    rw[q2]at h2
    injection h2 with _ h3
    obtain⟨u,v,e⟩:=List.exists_cons_of_ne_nil q1
    obtain⟨q,rfl⟩:=bno _ _ _ e
    rw[e]at h3
    exact stc_no (fun _ _ h=>by cases h) h3.symm)⟩
   have ra10:=ra9.keep (η':=ζ10) (by omega) fun c h1 h2 h3=>k10' c h2 (fun g=>by
    obtain⟨_,q1,q2⟩:=xbl c g
    rw[q2]at h3
    injection h3 with _ h4
    obtain⟨u,v,e⟩:=List.exists_cons_of_ne_nil q1
    obtain⟨q,rfl⟩:=bno _ _ _ e
    rw[e]at h4
    have:=cksB_at cy9 0 (by simp)
    have h6:=this.2
    have e0:(ya++[y8])[0]'this.1=.bool q:=by
     have:(ya++[y8])[0]?=some (.bool q):=by rw[←h4];rfl
     exact(List.getElem?_eq_some_iff.1 this).2
    rw[e0]at h6
    rcases h6 with ⟨h6,_⟩|⟨_,_,_,h6,_⟩<;>cases h6)
   have cy10:=cksB_keep kc10 cy9
   have k10z:∀c,c<η.nx+2→ζ10.f c=ζ8.f c:=fun c h1=>(k10' c (by omega) (fun g=>by have:=(xbl c g).1;omega)).trans (k9' c (by omega) (fun g=>by have:=(xal c g).1;omega))
   rw[hyl]at e9 ra9 ra10
   rw[List.length_map,hCl]at e10 rb10
   simp -implicitDefEqProofs(disch:=omega)only[go_sem,p0,p4,p5,p8,p9,p10,d0,d1,d2,hrow,hyc,hbz,c0,c1]
   rw[e9]
   simp -implicitDefEqProofs(disch:=omega)only[go_sem,p0,p4,p5,p8,p9,p10]
   rw[e10]
   simp -implicitDefEqProofs(disch:=omega)only[go_sem,p0,p4,p5,p8,p9,p10]
   refine⟨ks.length-(i+1),by omega,(hI _ _ _).2 ⟨i+1,_,_,ya++[y8],rfl,hlt,⟨by exact p0,by exact p4,by exact p5,rfl,rfl,rfl⟩,ra10,?_,?_,?_,?_,(k10z _ (by omega)).trans d0,(k10z _ (by omega)).trans d1,?_⟩⟩
   ·rw[List.take_succ_eq_append_getElem hlt,clkEs_snoc,hck,List.map_append]
    exact rb10
   ·rw[List.take_succ_eq_append_getElem hlt,clkEs_snoc,hck]
    exact cy10
   ·exact⟨by omega,fun c h1 h2=>(k10z c (by omega)).trans ((X8.2 c (by omega) h2).trans (X.2 c h1 h2))⟩
   ·omega
   ·rw[List.take_succ_eq_append_getElem hlt,clkEs_snoc]
    exact(k10z _ (by omega)).trans hbd8
  ·obtain rfl:i=ks.length:=by omega
   rw[List.take_length]at rb cy hbd
   simp -implicitDefEqProofs(disch:=omega)only[go_sem,p0,p4,p5,p8,p9,p10,c1,l3]
   exact(hK _ _).2 ⟨xa,xb,ya,⟨by exact p0,by exact p4,by exact p5,by exact p8,by exact p9⟩,ra,rb,cy,X,nz,c0,c1,hbd⟩
 ·intro φ ζ hk
  obtain⟨xa,xb,ya,⟨p0,p4,p5,p8,p9⟩,ra,rb,cy,X,nz,c0,c1,hbd⟩:=(hK _ _).1 hk
  have hb2:(clkEs n ks b).2.1≤100:=clkEs_le _ _ hb1
  have hCl:=clkEs_len (n:=n) ks b
  have hsm:=clkEs_small cle ks b
  generalize (clkEs n ks b).1=C at *
  generalize (clkEs n ks b).2=b2 at *
  clear hk hK
  have xz:=extX_B x' hc X
  have rz:=rdN_ext r0 xz
  rw[hsn]at rz
  have hcz:cb<ζ.nx:=Nat.lt_of_lt_of_le hcn X.1
  have cx:=x'.1
  have ua:=hu nm
  have ul:=cle nm
  have arity:op≠sCall→need op=some C.length:=fun g=>by rw[hCl];exact wan.1.resolve_left g
  have e1:strEq op.1 op.2 3 7630441=decide (op=sInt):=strEq_S op sInt
  have e2:strEq op.1 op.2 4 1819242338=decide (op=sBool):=strEq_S op sBool
  have e3:strEq op.1 op.2 3 7496054=decide (op=sVar):=strEq_S op sVar
  have e4:strEq op.1 op.2 4 1852139639=decide (op=sWhen):=strEq_S op sWhen
  have e5:strEq op.1 op.2 5 435527247213=decide (op=sMerge):=strEq_S op sMerge
  by_cases q1:op=sInt
  ·rw[decide_eq_true q1]at e1
   have eo:ownR n op nm N a C b2=(([],true),b2):=by rw[q1];rfl
   rw[eo]at kk
   simp -implicitDefEqProofs(disch:=omega)only[go_sem,p0,p4,p5,p8,p9,c0,c1,e1]
   exact kk _ _ X (.inl ⟨rfl,rfl⟩) hbd
  rw[decide_eq_false q1]at e1
  by_cases q2:op=sBool
  ·rw[decide_eq_true q2]at e2
   have eo:ownR n op nm N a C b2=(([],true),b2):=by rw[q2];rfl
   rw[eo]at kk
   simp -implicitDefEqProofs(disch:=omega)only[go_sem,p0,p4,p5,p8,p9,c0,c1,e1,e2]
   exact kk _ _ X (.inl ⟨rfl,rfl⟩) hbd
  rw[decide_eq_false q2]at e2
  by_cases q3:op=sVar
  ·rw[decide_eq_true q3]at e3
   have eo:ownR n op nm N a C b2=((clkOf n nm,false),b2):=by rw[q3];rfl
   rw[eo]at kk
   simp -implicitDefEqProofs(disch:=omega)only[go_sem,p0,p4,p5,p8,p9,c0,c1,e1,e2,e3]
   refine thenN_call (clockOf_then U rz okn nm ua ul fun y2 ζ2 ck2 E2=>?_)
   simp -implicitDefEqProofs(disch:=omega)only[go_sem]
   exact kk _ _ (X.of E2) ck2 ((E2.2 _ hcz).trans hbd)
  rw[decide_eq_false q3]at e3
  by_cases q4:op=sWhen
  ·rw[decide_eq_true q4]at e4
   have hn:C.length=1:=by
    have g:=arity (by rw[q4];decide)
    rw[q4]at g
    exact(Option.some.inj g).symm
   obtain⟨k0',rfl⟩:∃k0',C=[k0']:=by
    match C,hn with
    | [k0'],_=>exact⟨k0',rfl⟩
   obtain⟨ya0,_,rfl,ck0,rfl⟩:=cy
   have eo:ownR n op nm N a [k0'] b2=((stepK (clkOf n nm) nm (decide (N=0)),false),failIf (missR k0' (clkOf n nm)) 10 a b2):=by rw[q4];rfl
   rw[eo]at kk
   obtain⟨_,ba,-,ba2,rfl,-,hba⟩:∃u:Unit,∃ba,η.nx+2≤ba∧ba<ζ.nx∧xa=.slice ba 0 1 (.un 1)∧True∧ζ.f ba=.live false [ya0]:=by
    rcases ra with ⟨_,g⟩|⟨ba,h1,h2,h3,h4,h5⟩
    ·cases g
    ·exact⟨(),ba,h1,h2,h3,trivial,h5⟩
   obtain⟨bb,-,bb2,rfl,-,hbb⟩:∃bb,η.nx+2≤bb∧bb<ζ.nx∧xb=.slice bb 0 1 (.un 1)∧True∧ζ.f bb=.live false [.bool k0'.2]:=by
    rcases rb with ⟨_,g⟩|⟨ba,h1,h2,h3,h4,h5⟩
    ·cases g
    ·exact⟨ba,h1,h2,h3,trivial,h5⟩
   have sm0:k0'.1.length≤1073741825:=hsm k0' (List.mem_cons_self ..)
   simp -implicitDefEqProofs(disch:=omega)only[go_sem,p0,p4,p5,p8,p9,c0,c1,e1,e2,e3,e4]
   refine thenN_call (clockOf_then U rz okn nm ua ul fun y2 ζ2 ck2 E2=>?_)
   have X2:=X.of E2
   have n2:=E2.1
   have d1:=(E2.2 _ (by omega)).trans c1
   have da:=(E2.2 _ ba2).trans hba
   have db:=(E2.2 _ bb2).trans hbb
   have ck0':=ck0.ext E2
   have hbd2:BdAt ζ2 cb b2:=(E2.2 _ hcz).trans hbd
   have fE:strEq 1 1 1 1=true:=rfl
   have el:decide (N=0)=decide (N=0):=rfl
   cases hq:k0'.2 with
   |true =>
    have em:missR k0' (clkOf n nm)=false:=by unfold missR;rw[hq];rfl
    rw[em]at kk
    rw[hq]at db
    simp -implicitDefEqProofs(disch:=omega)only[go_sem,p0,p4,p5,p8,p9,d1,da,db,Bool.not_true]
    refine thenN_call (on_then U ck2 (by omega) fun y4 ζ4 ck4 E4=>?_)
    simp -implicitDefEqProofs(disch:=omega)only[go_sem]
    exact kk _ _ (X2.of E4) ck4 ((E4.2 _ (by omega)).trans hbd2)
   |false =>
    have em:missR k0' (clkOf n nm)=!decide (k0'.1=clkOf n nm):=by unfold missR;rw[hq];rfl
    rw[em]at kk
    rw[hq]at db
    simp -implicitDefEqProofs(disch:=omega)only[go_sem,p0,p4,p5,p8,p9,d1,da,db,Bool.not_false]
    refine thenN_call (same6_then U ck0' ck2 (by omega) (by omega) ?_)
    cases hd:decide (k0'.1=clkOf n nm) with
    |true =>
     rw[hd]at kk
     simp -implicitDefEqProofs(disch:=omega)only[go_sem,p0,p4,p5,p8,p9,d1,da,db,Bool.not_true]
     refine thenN_call (on_then U ck2 (by omega) fun y4 ζ4 ck4 E4=>?_)
     simp -implicitDefEqProofs(disch:=omega)only[go_sem]
     exact kk _ _ (X2.of E4) ck4 ((E4.2 _ (by omega)).trans hbd2)
    |false =>
     rw[hd]at kk
     simp -implicitDefEqProofs(disch:=omega)only[go_sem,p0,p4,p5,p8,p9,d1,da,db,Bool.not_false]
     refine thenN_call (fail6_then U hbd2 (by omega) fun ζ3 g1 g2 g3=>?_)
     have X3:ExtX cb ζ2 ζ3:=⟨by omega,fun c h1 h2=>g3 c h2⟩
     have ck3:=ck2.keep (keepX hbd2 X3)
     have d3:=(X3.2 _ (by omega) (by omega)).trans d1
     simp -implicitDefEqProofs(disch:=omega)only[go_sem,p0,p4,p5,p8,p9,d3]
     refine thenN_call (on_then U ck3 (by omega) fun y4 ζ4 ck4 E4=>?_)
     simp -implicitDefEqProofs(disch:=omega)only[go_sem]
     exact kk _ _ ((X2.trans X3).of E4) ck4 ((E4.2 _ (by omega)).trans g2)
  rw[decide_eq_false q4]at e4
  by_cases q5:op=sMerge
  ·rw[decide_eq_true q5]at e5
   have hn:C.length=2:=by
    have g:=arity (by rw[q5];decide)
    rw[q5]at g
    exact(Option.some.inj g).symm
   obtain⟨k0',k1',rfl⟩:∃k0' k1',C=[k0',k1']:=by
    match C,hn with
    | [k0',k1'],_=>exact⟨k0',k1',rfl⟩
   obtain⟨ya0,_,rfl,ck0,ya1,_,rfl,ck1,rfl⟩:=cy
   have eo:ownR n op nm N a [k0',k1'] b2=((clkOf n nm,false),failIf (missR k1' (stepK (clkOf n nm) nm true)) 10 a (failIf (missR k0' (stepK (clkOf n nm) nm false)) 10 a b2)):=by rw[q5];rfl
   rw[eo]at kk
   obtain⟨ba,ba1,ba2,rfl,hba⟩:∃ba,η.nx+2≤ba∧ba<ζ.nx∧xa=.slice ba 0 2 (.un 1)∧ζ.f ba=.live false [ya0,ya1]:=by
    rcases ra with ⟨_,g⟩|⟨ba,h1,h2,h3,h4,h5⟩
    ·cases g
    ·exact⟨ba,h1,h2,h3,h5⟩
   obtain⟨bb,bb1,bb2,rfl,hbb⟩:∃bb,η.nx+2≤bb∧bb<ζ.nx∧xb=.slice bb 0 2 (.un 1)∧ζ.f bb=.live false [.bool k0'.2,.bool k1'.2]:=by
    rcases rb with ⟨_,g⟩|⟨ba,h1,h2,h3,h4,h5⟩
    ·cases g
    ·exact⟨ba,h1,h2,h3,h5⟩
   have sm0:k0'.1.length≤1073741825:=hsm k0' (by simp)
   have sm1:k1'.1.length≤1073741825:=hsm k1' (by simp)
   have sk:∀q,(stepK (clkOf n nm) nm q).length≤1073741825:=fun q=>by
    unfold stepK
    rw[List.length_append]
    show _+1≤_
    omega
   simp -implicitDefEqProofs(disch:=omega)only[go_sem,p0,p4,p5,p8,p9,c0,c1,e1,e2,e3,e4,e5]
   refine thenN_call (clockOf_then U rz okn nm ua ul fun y2 ζ2 ck2 E2=>?_)
   have X2:=X.of E2
   have n2:=E2.1
   have d1:=(E2.2 _ (by omega)).trans c1
   have da:=(E2.2 _ ba2).trans hba
   have db:=(E2.2 _ bb2).trans hbb
   have ck0':=ck0.ext E2
   have ck1':=ck1.ext E2
   have hbd2:BdAt ζ2 cb b2:=(E2.2 _ hcz).trans hbd
   simp -implicitDefEqProofs(disch:=omega)only[go_sem,p0,p4,p5,p8,p9]
   obtain⟨B1,hB1⟩:∃B1,B1=failIf (missR k0' (stepK (clkOf n nm) nm false)) 10 a b2:=⟨_,rfl⟩
   obtain⟨B2,hB2⟩:∃B2,B2=failIf (missR k1' (stepK (clkOf n nm) nm true)) 10 a B1:=⟨_,rfl⟩
   rw[←hB1,←hB2]at kk
   have hB1':B1.1≤100:=by rw[hB1];exact failIf_le (by decide) hb2
   obtain⟨J,hJ⟩:∃J:Nat→FN→HN→Prop,∀m φ ζ',J m φ ζ'↔∃i,m=2-i∧i≤2∧(φ 0=.ptr cb 0∧φ 5=.ptr (η.nx+1) 0∧φ 8=.slice ba 0 2 (.un 1)∧φ 9=.slice bb 0 2 (.un 1)∧φ 14=y2∧φ 15=.int .i64 i)∧ExtX cb ζ2 ζ'∧BdAt ζ' cb (if i=0 then b2 else if i=1 then B1 else B2):=⟨_,fun _ _ _=>Iff.rfl⟩
   refine wpN_loop J 2 ((hJ _ _ _).2 ⟨0,rfl,Nat.zero_le _,⟨by exact p0,by exact p5,by exact p8,by exact p9,rfl,rfl⟩,.refl _ _,hbd2⟩) ?_
   clear p0 p4 p5 p8 p9
   intro m φ ζ' hj
   obtain⟨i,hm,hi,⟨p0,p5,p8,p9,p14,p15⟩,X3,hb3⟩:=(hJ _ _ _).1 hj
   have n3:=X3.1
   have f1:=(X3.2 _ (by omega) (by omega)).trans d1
   have fa:=(X3.2 _ (by omega) (by omega)).trans da
   have fb:=(X3.2 _ (by omega) (by omega)).trans db
   have kx:=keepX hbd2 X3
   have cy2:=ck2.keep kx
   by_cases i0:i=0
   ·subst i0
    rw[if_pos rfl]at hb3
    cases hq:k0'.2 with
    |true =>
     have em:missR k0' (stepK (clkOf n nm) nm false)=false:=by unfold missR;rw[hq];rfl
     rw[em]at hB1
     rw[hq]at fb
     simp -implicitDefEqProofs(disch:=omega)only[go_sem,p0,p5,p8,p9,p14,p15,f1,fa,fb,Bool.not_true]
     exact⟨2-(0+1),by omega,(hJ _ _ _).2 ⟨0+1,rfl,by decide,⟨by exact p0,by exact p5,by exact p8,by exact p9,by exact p14,rfl⟩,X3,(by rw[if_neg (by decide),if_pos rfl];exact(hB1▸hb3))⟩⟩
    |false =>
     have em:missR k0' (stepK (clkOf n nm) nm false)=!decide (k0'.1=stepK (clkOf n nm) nm false):=by unfold missR;rw[hq];rfl
     rw[em]at hB1
     rw[hq]at fb
     simp -implicitDefEqProofs(disch:=omega)only[go_sem,p0,p5,p8,p9,p14,p15,f1,fa,fb,Bool.not_false]
     refine dE_call (on_then (q:=false) U cy2 (by omega) fun y4 ζ4 ck4 E4=>?_)
     have n4:=E4.1
     have g1:=(E4.2 _ (by omega)).trans f1
     have ga:=(E4.2 _ (by omega)).trans fa
     have gb:=(E4.2 _ (by omega)).trans fb
     have ckj:=(ck0'.keep kx).ext E4
     have hb4:BdAt ζ4 cb b2:=(E4.2 _ (by omega)).trans hb3
     have X4:=X3.of E4
     simp -implicitDefEqProofs(disch:=omega)only[go_sem,p0,p5,p8,p9,p14,p15,f1,fa,fb,g1,ga,gb]
     refine dE_call (same6_then U ckj ck4 (by omega) (by have:=sk false;omega) ?_)
     cases hd:decide (k0'.1=stepK (clkOf n nm) nm false) with
     |true =>
      rw[hd]at hB1
      simp -implicitDefEqProofs(disch:=omega)only[go_sem,p0,p5,p8,p9,p14,p15,f1,fa,fb,g1,ga,gb,Bool.not_true]
      exact⟨2-(0+1),by omega,(hJ _ _ _).2 ⟨0+1,rfl,by decide,⟨by exact p0,by exact p5,by exact p8,by exact p9,by exact p14,rfl⟩,X4,(by rw[if_neg (by decide),if_pos rfl];exact(hB1▸hb4))⟩⟩
     |false =>
      rw[hd]at hB1
      simp -implicitDefEqProofs(disch:=omega)only[go_sem,p0,p5,p8,p9,p14,p15,f1,fa,fb,g1,ga,gb,Bool.not_false]
      refine thenN_call (fail6_then U hb4 (by omega) fun ζ5 w1 w2 w3=>?_)
      simp -implicitDefEqProofs(disch:=omega)only[go_sem,p0,p5,p8,p9,p14,p15]
      exact⟨2-(0+1),by omega,(hJ _ _ _).2 ⟨0+1,rfl,by decide,⟨by exact p0,by exact p5,by exact p8,by exact p9,by exact p14,rfl⟩,⟨by have:=X4.1;omega,fun c h1 h2=>(w3 c h2).trans (X4.2 c h1 h2)⟩,(by rw[if_neg (by decide),if_pos rfl];exact(hB1▸w2))⟩⟩
   by_cases i1:i=1
   ·subst i1
    rw[if_neg (by decide),if_pos rfl]at hb3
    cases hq:k1'.2 with
    |true =>
     have em:missR k1' (stepK (clkOf n nm) nm true)=false:=by unfold missR;rw[hq];rfl
     rw[em]at hB2
     rw[hq]at fb
     simp -implicitDefEqProofs(disch:=omega)only[go_sem,p0,p5,p8,p9,p14,p15,f1,fa,fb,Bool.not_true]
     exact⟨2-(1+1),by omega,(hJ _ _ _).2 ⟨1+1,rfl,by decide,⟨by exact p0,by exact p5,by exact p8,by exact p9,by exact p14,rfl⟩,X3,(by rw[if_neg (by decide),if_neg (by decide)];exact(hB2▸hb3))⟩⟩
    |false =>
     have em:missR k1' (stepK (clkOf n nm) nm true)=!decide (k1'.1=stepK (clkOf n nm) nm true):=by unfold missR;rw[hq];rfl
     rw[em]at hB2
     rw[hq]at fb
     simp -implicitDefEqProofs(disch:=omega)only[go_sem,p0,p5,p8,p9,p14,p15,f1,fa,fb,Bool.not_false]
     refine dE_call (on_then (q:=true) U cy2 (by omega) fun y4 ζ4 ck4 E4=>?_)
     have n4:=E4.1
     have g1:=(E4.2 _ (by omega)).trans f1
     have ga:=(E4.2 _ (by omega)).trans fa
     have gb:=(E4.2 _ (by omega)).trans fb
     have ckj:=(ck1'.keep kx).ext E4
     have hb4:BdAt ζ4 cb B1:=(E4.2 _ (by omega)).trans hb3
     have X4:=X3.of E4
     simp -implicitDefEqProofs(disch:=omega)only[go_sem,p0,p5,p8,p9,p14,p15,f1,fa,fb,g1,ga,gb]
     refine dE_call (same6_then U ckj ck4 (by omega) (by have:=sk true;omega) ?_)
     cases hd:decide (k1'.1=stepK (clkOf n nm) nm true) with
     |true =>
      rw[hd]at hB2
      simp -implicitDefEqProofs(disch:=omega)only[go_sem,p0,p5,p8,p9,p14,p15,f1,fa,fb,g1,ga,gb,Bool.not_true]
      exact⟨2-(1+1),by omega,(hJ _ _ _).2 ⟨1+1,rfl,by decide,⟨by exact p0,by exact p5,by exact p8,by exact p9,by exact p14,rfl⟩,X4,(by rw[if_neg (by decide),if_neg (by decide)];exact(hB2▸hb4))⟩⟩
     |false =>
      rw[hd]at hB2
      simp -implicitDefEqProofs(disch:=omega)only[go_sem,p0,p5,p8,p9,p14,p15,f1,fa,fb,g1,ga,gb,Bool.not_false]
      refine thenN_call (fail6_then U hb4 (by omega) fun ζ5 w1 w2 w3=>?_)
      simp -implicitDefEqProofs(disch:=omega)only[go_sem,p0,p5,p8,p9,p14,p15]
      exact⟨2-(1+1),by omega,(hJ _ _ _).2 ⟨1+1,rfl,by decide,⟨by exact p0,by exact p5,by exact p8,by exact p9,by exact p14,rfl⟩,⟨by have:=X4.1;omega,fun c h1 h2=>(w3 c h2).trans (X4.2 c h1 h2)⟩,(by rw[if_neg (by decide),if_neg (by decide)];exact(hB2▸w2))⟩⟩
   obtain rfl:i=2:=by omega
   rw[if_neg (by decide),if_neg (by decide)]at hb3
   simp -implicitDefEqProofs(disch:=omega)only[go_sem,p0,p5,p8,p9,p14,p15]
   exact kk _ _ (X2.trans X3) cy2 hb3
  rw[decide_eq_false q5]at e5
  have eo:ownR n op nm N a C b2=oneR a C ([],true) b2:=by
   unfold ownR
   rw[if_neg (by rintro(g|g)<;>contradiction),if_neg q3,if_neg q4,if_neg q5]
  rw[eo]at kk
  simp -implicitDefEqProofs(disch:=omega)only[go_sem,p0,p4,p5,p8,p9,c0,c1,e1,e2,e3,e4,e5]
  have hyl:=cksB_len cy
  have la:=fun η' e w=>row_len (η':=η') ra.rd (n:=C.length) (by rw[List.length_map];exact hyl) (by omega) e w
  obtain⟨J,hJ⟩:∃J:Nat→FN→HN→Prop,∀m φ ζ',J m φ ζ'↔∃i cx any b' x16,m=C.length-i∧i≤C.length∧(φ 0=.ptr cb 0∧φ 5=.ptr (η.nx+1) 0∧φ 8=xa∧φ 9=xb∧φ 16=x16∧φ 17=.bool any∧φ 18=.int .i64 i)∧ExtX cb ζ ζ'∧BdAt ζ' cb b'∧b'.1≤100∧CkB ζ' x16 cx∧cx.length≤1073741825∧oneR a (C.drop i) (cx,any) b'=oneR a C ([],true) b2:=⟨_,fun _ _ _=>Iff.rfl⟩
  refine wpN_loop J C.length ((hJ _ _ _).2 ⟨0,[],true,b2,.nilslice,rfl,Nat.zero_le _,⟨by exact p0,by exact p5,by exact p8,by exact p9,rfl,rfl,rfl⟩,.refl _ _,hbd,hb2,.inl ⟨rfl,rfl⟩,Nat.zero_le _,rfl⟩) ?_
  clear p0 p4 p5 p8 p9
  intro m φ ζ' hj
  obtain⟨i,cx',any,b',x16,hm,hi,⟨p0,p5,p8,p9,p16,p17,p18⟩,X3,hb3,hb3',ck16,sm16,eR⟩:=(hJ _ _ _).1 hj
  have n3:=X3.1
  have f1:=(X3.2 _ (by omega) (by omega)).trans c1
  by_cases hlt:i<C.length
  ·obtain⟨ba,ba1,ba2,rfl,-,hba⟩:=ra.resolve_left (fun g=>by rw[g.2]at hyl;have:(0:Nat)=C.length:=hyl;omega)
   obtain⟨bb,bb1,bb2,rfl,-,hbb⟩:=rb.resolve_left (fun g=>by have:=congrArg List.length g.2;rw[List.length_map]at this;have:C.length=0:=this;omega)
   have fa:=(X3.2 _ (by omega) (by omega)).trans hba
   have fb:=(X3.2 _ (by omega) (by omega)).trans hbb
   obtain⟨hiy,cki⟩:=cksB_at (cksB_keep (keepX hbd X3) cy) i hlt
   have gy:ya.getD i und=ya[i]:=by rw[List.getD_eq_getElem?_getD,List.getElem?_eq_getElem hiy];rfl
   have gb:(C.map fun c=>AV.bool c.2).getD i und=.bool C[i].2:=by rw[List.getD_eq_getElem?_getD,List.getElem?_map,List.getElem?_eq_getElem hlt];rfl
   have gl:(C.map fun c=>AV.bool c.2).length=C.length:=List.length_map ..
   have smi:=hsm _ (List.getElem_mem hlt)
   have smi:C[i].1.length≤1073741825:=smi
   have ed:oneR a (C.drop i) (cx',any) b'=if C[i].2 then oneR a (C.drop (i+1)) (cx',any) b' else if any then oneR a (C.drop (i+1)) (C[i].1,false) b' else oneR a (C.drop (i+1)) (cx',any) (failIf (!decide (cx'=C[i].1)) 10 a b'):=by
    rw[List.drop_eq_getElem_cons hlt];rfl
   rw[ed]at eR
   generalize ya[i]=yi at *
   generalize C[i]=q at *
   cases hq:q.2 with
   |true =>
    rw[hq,if_pos rfl]at eR
    rw[hq]at gb
    simp -implicitDefEqProofs(disch:=omega)only[go_sem,p0,p5,p8,p9,p16,p17,p18,la,fb,gb,gl]
    exact⟨C.length-(i+1),by omega,(hJ _ _ _).2 ⟨i+1,cx',any,b',x16,rfl,hlt,⟨by exact p0,by exact p5,by exact p8,by exact p9,by exact p16,by exact p17,rfl⟩,X3,hb3,hb3',ck16,sm16,eR⟩⟩
   |false =>
    rw[hq,if_neg Bool.false_ne_true]at eR
    rw[hq]at gb
    cases any with
    |true =>
     rw[if_pos rfl]at eR
     simp -implicitDefEqProofs(disch:=omega)only[go_sem,p0,p5,p8,p9,p16,p17,p18,la,fa,fb,gb,gy,gl,hyl]
     exact⟨C.length-(i+1),by omega,(hJ _ _ _).2 ⟨i+1,q.1,false,b',yi,rfl,hlt,⟨by exact p0,by exact p5,by exact p8,by exact p9,rfl,rfl,rfl⟩,X3,hb3,hb3',cki,smi,eR⟩⟩
    |false =>
     rw[if_neg Bool.false_ne_true]at eR
     simp -implicitDefEqProofs(disch:=omega)only[go_sem,p0,p5,p8,p9,p16,p17,p18,la,fa,fb,gb,gy,gl,hyl]
     refine thenN_call (same6_then U ck16 cki (by omega) (by omega) ?_)
     cases hd:decide (cx'=q.1) with
     |true =>
      rw[hd]at eR
      simp -implicitDefEqProofs(disch:=omega)only[go_sem,p0,p5,p8,p9,p16,p17,p18,la,Bool.not_true]
      exact⟨C.length-(i+1),by omega,(hJ _ _ _).2 ⟨i+1,cx',false,b',x16,rfl,hlt,⟨by exact p0,by exact p5,by exact p8,by exact p9,by exact p16,by exact p17,rfl⟩,X3,hb3,hb3',ck16,sm16,eR⟩⟩
     |false =>
      rw[hd]at eR
      simp -implicitDefEqProofs(disch:=omega)only[go_sem,p0,p5,p8,p9,p16,p17,p18,la,f1,Bool.not_false]
      refine thenN_call (fail6_then U hb3 (by omega) fun ζ5 w1 w2 w3=>?_)
      have X5:ExtX cb ζ' ζ5:=⟨by omega,fun c h1 h2=>w3 c h2⟩
      simp -implicitDefEqProofs(disch:=omega)only[go_sem,p0,p5,p8,p9,p16,p17,p18]
      exact⟨C.length-(i+1),by omega,(hJ _ _ _).2 ⟨i+1,cx',false,_,x16,rfl,hlt,⟨by exact p0,by exact p5,by exact p8,by exact p9,by exact p16,by exact p17,rfl⟩,X3.trans X5,w2,fail_le (by decide) hb3',ck16.keep (keepX hb3 X5),sm16,eR⟩⟩
  ·obtain rfl:i=C.length:=by omega
   rw[List.drop_length]at eR
   have eR:((cx',any),b')=oneR a C ([],true) b2:=eR
   rw[←eR]at kk
   simp -implicitDefEqProofs(disch:=omega)only[go_sem,p0,p5,p8,p9,p16,p17,p18,la]
   exact kk _ _ (X.trans X3) ck16 hb3
end Go.Proofs.YtdeejbnhlbddgaaGreatDoor
