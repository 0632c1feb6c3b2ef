/- What is proved: what the document's check of an expression's names does. what the document's check of names does. Conditions: as each theorem says. -/
import Derived.Test.YtdeejbnhlbddgaaGreatDoorRefA
set_option linter.unusedVariables false
set_option linter.unusedSimpArgs false
set_option linter.unusedSectionVars false
namespace Go.Plain
open Go.Eng
set_option autoImplicit false
theorem fail_le {e a:Nat} {b:Bd} {m:Nat} (he:e≤m) (h:b.1≤m):(failB e a b).1≤m:=by
 unfold failB
 split
 ·exact he
 ·exact h
theorem failIf_le {c:Bool} {e a:Nat} {b:Bd} {m:Nat} (he:e≤m) (h:b.1≤m):(failIf c e a b).1≤m:=by
 unfold failIf
 split
 ·exact fail_le he h
 ·exact h
mutual
theorem nmE_le {h:List Nd} {n:Nd}:∀(e:Tr) (b:Bd),b.1≤100→(nmE h n e b).1≤100
 |.mk op nm _ a ks,b,hb=>by
  unfold nmE
  exact nmEs_le ks _ (failIf_le (by decide) hb)
theorem nmEs_le {h:List Nd} {n:Nd}:∀(ks:List Tr) (b:Bd),b.1≤100→(nmEs h n ks b).1≤100
 | [],b,hb=>by unfold nmEs;exact hb
 |k::r,b,hb=>by
  unfold nmEs
  exact nmEs_le r _ (nmE_le k _ hb)
end
theorem nmEs_drop {h:List Nd} {n:Nd} {ks:List Tr} {i:Nat} {b:Bd} (hi:i<ks.length):nmEs h n (ks.drop i) b=nmEs h n (ks.drop (i+1)) (nmE h n ks[i] b):=by
 rw[List.drop_eq_getElem_cons hi]
 conv=>lhs;unfold nmEs
theorem extX_B {η0 η η':HN} {cb:Nat} (x:ExtB η0.nx η0 η) (hc:η0.nx≤cb) (y:ExtX cb η η'):ExtB η0.nx η0 η':=⟨Nat.le_trans x.1 y.1,fun b hb=>(y.2 b (Nat.lt_of_lt_of_le hb x.1) (by omega)).trans (x.2 b hb)⟩
theorem extB_X {η η':HN} (cb:Nat) (x:ExtB η.nx η η'):ExtX cb η η':=⟨x.1,fun b hb _=>x.2 b hb⟩
end Go.Plain
namespace Go.Proofs.YtdeejbnhlbddgaaGreatDoor
open Go.Eng Go.Plain
set_option autoImplicit false
set_option maxRecDepth 100000
variable {nat:∀ [Deep],Nats}
def BdAt (η:HN) (cb:Nat) (b:Bd):Prop:=η.f cb=.live false [.int .i64 b.1,.int .i64 b.2]
set_option maxHeartbeats 8000000 in
theorem names6_then (U:Usual nat) {η0:HN} {v:AV} {h:List Nd} {n:Nd} {z:List AV} (T:Trees η0 v h n z) {cb:Nat} (hc:η0.nx≤cb):∀(e:Tr),okE e→∀(η:HN) (ze:List AV) (b:Bd) (Q:AV→HN→Prop),ExtB η0.nx η0 η→cb<η.nx→BdAt η cb b→b.1≤100→rdE tt η0 e ze →
  (∀η',ExtX cb η η'→BdAt η' cb (nmE h n e b)→Q (.tup []) η')→∃v' η',CallN Tryz.prog nat 74 [.ptr cb 0,v,.agg z,.agg ze] η v' η'∧Q v' η':=by
 refine Tr.ind fun op nm N a ks ih=>?_
 intro ok η ze b Q x hcn hb hb1 r kk
 have ok':=ok
 unfold okE at ok
 obtain⟨ha,hkl,hks⟩:=ok
 have hks:=(okEs_iff _).1 hks
 have rE:=r
 unfold rdE at r
 obtain⟨y,rfl,-,ls,ry,rks⟩:=r
 have hll:=(rdEs_len rks).1
 obtain⟨y1,y2,y3,y4,rfl,-⟩:=T.hz
 obtain⟨lv,rv,rl⟩:=T.hv
 obtain⟨hl,hok⟩:=T.hl
 have hsn:sV n.nm=.str n.nm.1 n.nm.2:=rfl
 have eE:nmE h n (.mk op nm N a ks) b=nmEs h n ks (failIf (!okExprR h n op nm ks.length) 8 a b):=by
  conv=>lhs;unfold nmE
 rw[eE]at kk
 have l3:=fun η' e w=>row_len (η':=η') ry hll (by omega) e w
 have e1:strEq op.1 op.2 3 7496054=decide (op=sVar):=strEq_S op sVar
 have e2:strEq op.1 op.2 4 1852139639=decide (op=sWhen):=strEq_S op sWhen
 have e3:strEq op.1 op.2 5 435527247213=decide (op=sMerge):=strEq_S op sMerge
 have e4:strEq op.1 op.2 4 1819042147=decide (op=sCall):=strEq_S op sCall
 refine call_of (PT:=pl74) Tryz.func74 rfl (U 74 (by decide)) ok74 rfl ?_
 obtain⟨K,hK⟩:∃K:FN→HN→Prop,∀φ ζ,K φ ζ↔(φ 0=.ptr cb 0∧φ 1=v∧φ 6=.ptr η.nx 0∧φ 7=.ptr (η.nx+1) 0∧φ 11=.int .i64 0)∧ExtX cb η ζ∧η.nx+1<ζ.nx∧ζ.f η.nx=.live false [.str n.nm.1 n.nm.2,y1,y2,y3,y4,.int .i64 n.a]∧ζ.f (η.nx+1)=.live false [.str op.1 op.2,.str nm.1 nm.2,.int .i64 N,.int .i64 a,y]∧BdAt ζ cb (failIf (!okExprR h n op nm ks.length) 8 a b):=⟨_,fun _ _=>Iff.rfl⟩
 refine wp_cut (M:=K) 3 _ _ _ ?_ ?_
 rotate_left
 ·obtain⟨η1,h1⟩:∃η1,η1=(η.new (.live false [.str n.nm.1 n.nm.2,y1,y2,y3,y4,.int .i64 n.a])).new (.live false [.str op.1 op.2,.str nm.1 nm.2,.int .i64 N,.int .i64 a,y]):=⟨_,rfl⟩
  have E:ExtB η.nx η η1:=by rw[h1];exact extN (extN (.refl _ _))
  have c0:η1.f η.nx=.live false [.str n.nm.1 n.nm.2,y1,y2,y3,y4,.int .i64 n.a]:=by rw[h1];exact(if_neg (by show¬η.nx=η.nx+1;omega)).trans (if_pos rfl)
  have c1:η1.f (η.nx+1)=.live false [.str op.1 op.2,.str nm.1 nm.2,.int .i64 N,.int .i64 a,y]:=by rw[h1];exact if_pos rfl
  have n1:η1.nx=η.nx+2:=by rw[h1];rfl
  have cb1:η1.f cb=_:=(E.2 _ hcn).trans hb
  have X:ExtX cb η η1:=extB_X cb E
  simp -implicitDefEqProofs(disch:=omega)only[go_sem,sV,hsn]
  rw[←h1]
  clear h1
  have x1:ExtB η0.nx η0 η1:=x.trans (E.mono x.1)
  have rz1:=rdN_ext T.hz x1
  rw[hsn]at rz1
  have fin:∀(f:Bool) (φ:FN) (ζ:HN),okExprR h n op nm ks.length=f→(φ 0=.ptr cb 0∧φ 1=v∧φ 6=.ptr η.nx 0∧φ 7=.ptr (η.nx+1) 0∧φ 11=.int .i64 0)→ExtB η1.nx η1 ζ→f=true→K φ ζ:=fun f φ ζ ef hp ex hf=>by
   subst hf
   rw[ef]at hK
   have:=ex.1
   exact(hK _ _).2 ⟨hp,X.of ex,by omega,(ex.2 _ (by omega)).trans c0,(ex.2 _ (by omega)).trans c1,(ex.2 _ (by omega)).trans cb1⟩
  have bad:∀(φ:FN) (ζ ζ':HN),okExprR h n op nm ks.length=false→(φ 0=.ptr cb 0∧φ 1=v∧φ 6=.ptr η.nx 0∧φ 7=.ptr (η.nx+1) 0∧φ 11=.int .i64 0)→ExtB η1.nx η1 ζ→ζ'.nx=ζ.nx→BdAt ζ' cb (failB 8 a b)→(∀c,c≠cb→ζ'.f c=ζ.f c)→K φ ζ':=fun φ ζ ζ' ef hp ex hn hbd hk=>by
   rw[ef]at hK
   have:=ex.1
   exact(hK _ _).2 ⟨hp,⟨by omega,fun c h1 h2=>(hk c h2).trans ((X.of ex).2 c h1 h2)⟩,by omega,(hk _ (by omega)).trans ((ex.2 _ (by omega)).trans c0),(hk _ (by omega)).trans ((ex.2 _ (by omega)).trans c1),hbd⟩
  have named:op=sVar∨op=sWhen∨op=sMerge→okExprR h n op nm ks.length=(findV n nm).isSome:=fun g=>if_pos g
  have hwc:∀w:Vr,w.cells=[.str w.nm.1 w.nm.2,.int .i64 w.kd,.str w.on.1 w.on.2,.bool w.nt,.int .i64 w.a]:=fun _=>rfl
  by_cases q1:op=sVar
  ·rw[decide_eq_true q1]at e1
   have ef:=named (.inl q1)
   simp -implicitDefEqProofs(disch:=omega)only[go_sem,e1,c0,c1]
   refine thenN_call (find6_then U rz1 T.ok nm fun ζ ex=>?_)
   rw[hwc]
   have Ez:ExtB η1.nx η1 (ζ.new (.live false [.str ((findV n nm).getD zVr).nm.1 ((findV n nm).getD zVr).nm.2,.int .i64 ((findV n nm).getD zVr).kd,.str ((findV n nm).getD zVr).on.1 ((findV n nm).getD zVr).on.2,.bool ((findV n nm).getD zVr).nt,.int .i64 ((findV n nm).getD zVr).a])):=extN ex
   have d1:=(Ez.2 _ (by omega)).trans c1
   have db:=(Ez.2 _ (by omega)).trans cb1
   simp -implicitDefEqProofs(disch:=omega)only[go_sem,repL_s,repL_z,setsL_c]
   generalize ζ.new (.live false [.str ((findV n nm).getD zVr).nm.1 ((findV n nm).getD zVr).nm.2,.int .i64 ((findV n nm).getD zVr).kd,.str ((findV n nm).getD zVr).on.1 ((findV n nm).getD zVr).on.2,.bool ((findV n nm).getD zVr).nt,.int .i64 ((findV n nm).getD zVr).a])=ζ1 at *
   cases hf:(findV n nm).isSome with
   |true =>
    rw[hf]at ef
    simp -implicitDefEqProofs(disch:=omega)only[go_sem,Bool.not_true]
    exact fin _ _ _ ef ⟨rfl,rfl,rfl,rfl,rfl⟩ Ez rfl
   |false =>
    rw[hf]at ef
    simp -implicitDefEqProofs(disch:=omega)only[go_sem,Bool.not_false,d1]
    refine thenN_call (fail6_then U db (by omega) fun ζ' g1 g2 g3=>?_)
    simp -implicitDefEqProofs(disch:=omega)only[go_sem]
    exact bad _ _ _ ef ⟨rfl,rfl,rfl,rfl,rfl⟩ Ez g1 g2 g3
  rw[decide_eq_false q1]at e1
  by_cases q2:op=sWhen
  ·rw[decide_eq_true q2]at e2
   have ef:=named (.inr (.inl q2))
   simp -implicitDefEqProofs(disch:=omega)only[go_sem,e1,e2,c0,c1]
   refine thenN_call (find6_then U rz1 T.ok nm fun ζ ex=>?_)
   rw[hwc]
   have Ez:ExtB η1.nx η1 (ζ.new (.live false [.str ((findV n nm).getD zVr).nm.1 ((findV n nm).getD zVr).nm.2,.int .i64 ((findV n nm).getD zVr).kd,.str ((findV n nm).getD zVr).on.1 ((findV n nm).getD zVr).on.2,.bool ((findV n nm).getD zVr).nt,.int .i64 ((findV n nm).getD zVr).a])):=extN ex
   have d1:=(Ez.2 _ (by omega)).trans c1
   have db:=(Ez.2 _ (by omega)).trans cb1
   simp -implicitDefEqProofs(disch:=omega)only[go_sem,repL_s,repL_z,setsL_c]
   generalize ζ.new (.live false [.str ((findV n nm).getD zVr).nm.1 ((findV n nm).getD zVr).nm.2,.int .i64 ((findV n nm).getD zVr).kd,.str ((findV n nm).getD zVr).on.1 ((findV n nm).getD zVr).on.2,.bool ((findV n nm).getD zVr).nt,.int .i64 ((findV n nm).getD zVr).a])=ζ1 at *
   cases hf:(findV n nm).isSome with
   |true =>
    rw[hf]at ef
    simp -implicitDefEqProofs(disch:=omega)only[go_sem,Bool.not_true]
    exact fin _ _ _ ef ⟨rfl,rfl,rfl,rfl,rfl⟩ Ez rfl
   |false =>
    rw[hf]at ef
    simp -implicitDefEqProofs(disch:=omega)only[go_sem,Bool.not_false,d1]
    refine thenN_call (fail6_then U db (by omega) fun ζ' g1 g2 g3=>?_)
    simp -implicitDefEqProofs(disch:=omega)only[go_sem]
    exact bad _ _ _ ef ⟨rfl,rfl,rfl,rfl,rfl⟩ Ez g1 g2 g3
  rw[decide_eq_false q2]at e2
  by_cases q3:op=sMerge
  ·rw[decide_eq_true q3]at e3
   have ef:=named (.inr (.inr q3))
   simp -implicitDefEqProofs(disch:=omega)only[go_sem,e1,e2,e3,c0,c1]
   refine thenN_call (find6_then U rz1 T.ok nm fun ζ ex=>?_)
   rw[hwc]
   have Ez:ExtB η1.nx η1 (ζ.new (.live false [.str ((findV n nm).getD zVr).nm.1 ((findV n nm).getD zVr).nm.2,.int .i64 ((findV n nm).getD zVr).kd,.str ((findV n nm).getD zVr).on.1 ((findV n nm).getD zVr).on.2,.bool ((findV n nm).getD zVr).nt,.int .i64 ((findV n nm).getD zVr).a])):=extN ex
   have d1:=(Ez.2 _ (by omega)).trans c1
   have db:=(Ez.2 _ (by omega)).trans cb1
   simp -implicitDefEqProofs(disch:=omega)only[go_sem,repL_s,repL_z,setsL_c]
   generalize ζ.new (.live false [.str ((findV n nm).getD zVr).nm.1 ((findV n nm).getD zVr).nm.2,.int .i64 ((findV n nm).getD zVr).kd,.str ((findV n nm).getD zVr).on.1 ((findV n nm).getD zVr).on.2,.bool ((findV n nm).getD zVr).nt,.int .i64 ((findV n nm).getD zVr).a])=ζ1 at *
   cases hf:(findV n nm).isSome with
   |true =>
    rw[hf]at ef
    simp -implicitDefEqProofs(disch:=omega)only[go_sem,Bool.not_true]
    exact fin _ _ _ ef ⟨rfl,rfl,rfl,rfl,rfl⟩ Ez rfl
   |false =>
    rw[hf]at ef
    simp -implicitDefEqProofs(disch:=omega)only[go_sem,Bool.not_false,d1]
    refine thenN_call (fail6_then U db (by omega) fun ζ' g1 g2 g3=>?_)
    simp -implicitDefEqProofs(disch:=omega)only[go_sem]
    exact bad _ _ _ ef ⟨rfl,rfl,rfl,rfl,rfl⟩ Ez g1 g2 g3
  rw[decide_eq_false q3]at e3
  have other:okExprR h n op nm ks.length=if op=sCall then callOk h nm ks.length else true:=if_neg (by rintro(g|g|g)<;>contradiction)
  by_cases q4:op=sCall
  ·rw[if_pos q4]at other
   rw[decide_eq_true q4]at e4
   simp -implicitDefEqProofs(disch:=omega)only[go_sem,e1,e2,e3,e4,c0,c1]
   have ll:=(rdNs_len rl).1
   refine thenN_call (nodeOf_then U (rv.ext (base:=0) x1) (rdNs_keep (keep_b x1) x1.1 (fun _ h=>h) rl) hl nm ?_)
   have fd:=ixL_find (fun n:Nd=>decide (n.nm=nm)) h 0
   cases e:ixL (fun n:Nd=>decide (n.nm=nm)) h 0 with
   |none =>
    have ec:callOk h nm ks.length=false:=by
     rw[e]at fd
     unfold callOk
     rw[←fd]
    rw[ec]at other
    have ee:encO none=18446744073709551615:=rfl
    simp -implicitDefEqProofs(disch:=omega)only[go_sem,c1,ee,lt_m1]
    refine thenN_call (fail6_then U cb1 (by omega) fun ζ' g1 g2 g3=>?_)
    simp -implicitDefEqProofs(disch:=omega)only[go_sem]
    exact bad _ _ _ other ⟨rfl,rfl,rfl,rfl,rfl⟩ (.refl _ _) g1 g2 g3
   |some j =>
    obtain⟨_,hj,_⟩:=ixL_lt e
    have ee:encO (some j)=j:=rfl
    have hj:j<h.length:=by omega
    obtain⟨hj',rj⟩:=rdNs_at rl j hj
    obtain⟨bv,off,cap,ro,row,rfl,hbv,hbn,hlen,hrow⟩:=rv.at hj'
    obtain⟨d,hd⟩:∃d,d=h[j]:=⟨_,rfl⟩
    have okd:=hok _ (List.getElem_mem hj)
    rw[←hd]at rj okd
    obtain⟨x1',x2',x3',x4',ez,-,r1,r2,-⟩:=rj
    rw[ez]at hrow
    have hbz:η1.f bv=_:=(x1.2 bv hbn).trans hbv
    have g1:row.getD (off+j*6+1) und=x1':=(cell_at hrow 1 (by decide)).trans rfl
    have g2:row.getD (off+j*6+2) und=x2':=(cell_at hrow 2 (by decide)).trans rfl
    have l1:=fun η' e w=>row_len (η':=η') r1 (n:=d.ins.length) (by rw[List.length_map]) (by have:=okd.2.1.1;omega) e w
    have l2:=fun η' e w=>row_len (η':=η') r2 (n:=d.outs.length) (by rw[List.length_map]) (by have:=okd.2.2.1.1;omega) e w
    have o1:=okd.2.1.1
    have o2:=okd.2.2.1.1
    have ec:callOk h nm ks.length=decide (d.outs.length=1∧d.ins.length=ks.length):=by
     rw[e]at fd
     have fd:h[j-0]?=h.find? (fun n:Nd=>decide (n.nm=nm)):=fd
     unfold callOk
     rw[←fd,Nat.sub_zero,List.getElem?_eq_getElem hj,hd]
    rw[ec]at other
    by_cases w1:d.outs.length=1
    ·by_cases w2:d.ins.length=ks.length
     ·rw[decide_eq_true ⟨w1,w2⟩]at other
      simp -implicitDefEqProofs(disch:=omega)only[go_sem,c1,ee,hbz,g1,g2,l1,l2,l3,w1,w2]
      exact fin _ _ _ other ⟨rfl,rfl,rfl,rfl,rfl⟩ (.refl _ _) rfl
     ·rw[decide_eq_false (fun g=>w2 g.2)]at other
      simp -implicitDefEqProofs(disch:=omega)only[go_sem,c1,ee,hbz,g1,g2,l1,l2,l3,w1,w2]
      refine thenN_call (fail6_then U cb1 (by omega) fun ζ' g1 g2 g3=>?_)
      simp -implicitDefEqProofs(disch:=omega)only[go_sem]
      exact bad _ _ _ other ⟨rfl,rfl,rfl,rfl,rfl⟩ (.refl _ _) g1 g2 g3
    ·rw[decide_eq_false (fun g=>w1 g.1)]at other
     simp -implicitDefEqProofs(disch:=omega)only[go_sem,c1,ee,hbz,g1,g2,l1,l2,l3,w1]
     refine thenN_call (fail6_then U cb1 (by omega) fun ζ' g1 g2 g3=>?_)
     simp -implicitDefEqProofs(disch:=omega)only[go_sem]
     exact bad _ _ _ other ⟨rfl,rfl,rfl,rfl,rfl⟩ (.refl _ _) g1 g2 g3
  ·rw[if_neg q4]at other
   rw[decide_eq_false q4]at e4
   simp -implicitDefEqProofs(disch:=omega)only[go_sem,e1,e2,e3,e4,c0,c1]
   exact fin _ _ _ other ⟨rfl,rfl,rfl,rfl,rfl⟩ (.refl _ _) rfl
 ·intro φ ζ hk
  obtain⟨⟨p0,p1,p6,p7,p11⟩,X,nz,c0,c1,hbd⟩:=(hK _ _).1 hk
  have hb2:(failIf (!okExprR h n op nm ks.length) 8 a b).1≤100:=failIf_le (by decide) hb1
  generalize failIf (!okExprR h n op nm ks.length) 8 a b=b2 at *
  clear hk hK
  simp -implicitDefEqProofs(disch:=omega)only[go_sem,p0,p1,p6,p7]
  obtain⟨I,hI⟩:∃I:Nat→FN→HN→Prop,∀m φ ζ,I m φ ζ↔∃i b',m=ks.length-i∧i≤ks.length∧(φ 0=.ptr cb 0∧φ 1=v∧φ 6=.ptr η.nx 0∧φ 7=.ptr (η.nx+1) 0∧φ 11=.int .i64 i)∧ExtX cb η ζ∧η.nx+1<ζ.nx∧ζ.f η.nx=.live false [.str n.nm.1 n.nm.2,y1,y2,y3,y4,.int .i64 n.a]∧ζ.f (η.nx+1)=.live false [.str op.1 op.2,.str nm.1 nm.2,.int .i64 N,.int .i64 a,y]∧BdAt ζ cb b'∧b'.1≤100∧nmEs h n (ks.drop i) b'=nmEs h n ks b2:=⟨_,fun _ _ _=>Iff.rfl⟩
  refine wpN_loop I ks.length ((hI _ _ _).2 ⟨0,b2,rfl,Nat.zero_le _,⟨by exact p0,by exact p1,by exact p6,by exact p7,by exact p11⟩,X,nz,c0,c1,hbd,hb2,rfl⟩) ?_
  clear p0 p1 p6 p7 p11 X nz c0 c1 hbd
  intro m φ ζ hi
  obtain⟨i,b',hm,hi,⟨p0,p1,p6,p7,p11⟩,X,nz,c0,c1,hbd,hb',en⟩:=(hI _ _ _).1 hi
  have xz:=extX_B x hc X
  by_cases hlt:i<ks.length
  ·obtain⟨hi',ri⟩:=rdEs_at rks i hlt
   obtain⟨bk,off,cap,ro,row,rfl,hbv,hbn,hlen,hrow⟩:=ry.at hi'
   have hbz:ζ.f bk=_:=(xz.2 bk hbn).trans hbv
   obtain⟨f1,f2,f3,f4,f5,ef⟩:=rdE_cells ri
   rw[ef]at hrow ri
   rw[nmEs_drop hlt]at en
   simp -implicitDefEqProofs(disch:=omega)only[go_sem,p0,p1,p6,p7,p11,c0,c1,l3,hbz,hrow]
   refine dE_call (ih _ (List.getElem_mem hlt) (hks _ (List.getElem_mem hlt)) ζ _ b' _ xz (Nat.lt_of_lt_of_le hcn X.1) hbd hb' ri fun ζ2 X2 hbd2=>?_)
   have d0:=(X2.2 _ (by omega) (by omega)).trans c0
   have d1:=(X2.2 _ (by omega) (by omega)).trans c1
   have n2:=X2.1
   simp -implicitDefEqProofs(disch:=omega)only[go_sem,p0,p1,p6,p7,p11,c0,c1,d0,d1,l3,hbz,hrow]
   trace_state
   exact⟨ks.length-(i+1),by omega,(hI _ _ _).2 ⟨i+1,nmE h n ks[i] b',rfl,hlt,⟨by exact p0,by exact p1,by exact p6,by exact p7,rfl⟩,X.trans X2,by omega,d0,d1,hbd2,nmE_le _ _ hb',en⟩⟩
  ·obtain rfl:i=ks.length:=by omega
   rw[List.drop_length]at en
   have en:b'=nmEs h n ks b2:=by rw[←en];unfold nmEs;rfl
   rw[←en]at kk
   simp -implicitDefEqProofs(disch:=omega)only[go_sem,p0,p1,p6,p7,p11,c1,l3]
   exact kk _ X hbd
end Go.Proofs.YtdeejbnhlbddgaaGreatDoor
namespace Go.Plain
open Go.Eng
set_option autoImplicit false
theorem nmPair_drop {v:Vr} {l:List Vr} {j:Nat} {r:Bool×Bd} (hj:j<l.length):nmPair v (l.drop j) r=nmPair v (l.drop (j+1)) (r.1||decide (l[j].nm=v.on),failIf (decide (l[j].nm=v.nm)) 8 v.a r.2):=by
 rw[List.drop_eq_getElem_cons hj];rfl
theorem nmVars_drop {l:List Vr} {k:Nat} {b:Bd} (hk:k<l.length):nmVars (l.take k) (l.drop k) b=nmVars (l.take (k+1)) (l.drop (k+1)) (failIf (!(nmPair l[k] (l.take k) (decide (l[k].on=(0,0)),b)).1) 8 l[k].a (nmPair l[k] (l.take k) (decide (l[k].on=(0,0)),b)).2):=by
 rw[List.drop_eq_getElem_cons hk,List.take_succ_eq_append_getElem hk];rfl
theorem nmEqs_drop {h:List Nd} {n:Nd} {l:List Eqn} {k:Nat} {b:Bd} (hk:k<l.length):nmEqs h n (l.take k) (l.drop k) b=nmEqs h n (l.take (k+1)) (l.drop (k+1)) (nmE h n l[k].e (failIf (!(findV n l[k].nm).isSome||n.ins.any (fun v=>decide (v.nm=l[k].nm))||(l.take k).any (fun p=>decide (p.nm=l[k].nm))) 8 l[k].a b)):=by
 rw[List.drop_eq_getElem_cons hk,List.take_succ_eq_append_getElem hk];rfl
theorem nmOwn_drop {n:Nd} {l:List Vr} {k:Nat} {b:Bd} (hk:k<l.length):nmOwn n (l.drop k) b=nmOwn n (l.drop (k+1)) (failIf (!n.eqs.any fun q=>decide (q.nm=l[k].nm)) 8 l[k].a b):=by
 rw[List.drop_eq_getElem_cons hk];rfl
theorem nmNodesR_drop {l:List Nd} {i:Nat} {b:Bd} (hi:i<l.length):nmNodesR (l.take i) (l.drop i) b=nmNodesR (l.take (i+1)) (l.drop (i+1)) (nmNodeR (l.take i) l[i] b):=by
 rw[List.drop_eq_getElem_cons hi,List.take_succ_eq_append_getElem hi];rfl
theorem rdR_pre {s b off n i:Nat} {η:HN} {ls:List (List AV)} {cap:Cp} (h:RdR s η (.slice b off n cap) ls) (hi:i≤ls.length):RdR s η (.slice b off i cap) (ls.take i):=by
 rcases h with ⟨rfl,_⟩|⟨b',off',cap',ro,row,h1,h2,h3,h4,h5,h6⟩
 ·obtain rfl:i=0:=Nat.le_zero.1 hi
  exact .inl ⟨rfl,.inr ⟨b,off,cap,rfl⟩⟩
 ·cases h1
  have tl:(ls.take i).length=i:=by rw[List.length_take];omega
  have le:i*s≤ls.length*s:=Nat.mul_le_mul_right _ hi
  refine .inr ⟨b,off,cap,ro,row,by rw[tl],h2,h3,by rw[tl];omega,fun l h=>h5 l (List.mem_of_mem_take h),?_⟩
  have fl:=flat_len (s:=s) (ls.take i) (fun l h=>h5 l (List.mem_of_mem_take h))
  have e:ls.flatten=(ls.take i).flatten++(ls.drop i).flatten:=by rw[←List.flatten_append,List.take_append_drop]
  have:(row.drop off).take (i*s)=((row.drop off).take (ls.length*s)).take (i*s):=by rw[List.take_take,Nat.min_eq_left le]
  rw[tl,this,h6,e]
  rw[tl]at fl
  rw[←fl,List.take_left'];rfl
end Go.Plain
namespace Go.Proofs.YtdeejbnhlbddgaaGreatDoor
open Go.Eng Go.Plain
set_option autoImplicit false
set_option maxRecDepth 100000
variable {nat:∀ [Deep],Nats}
theorem ge_m1:ltN .i64 18446744073709551615 0=true:=rfl
theorem vrs_row {η:HN} {x:AV} {V:List Vr} (rx:RdR 5 η x (V.map Vr.cells)) (h:0<V.length):∃b off cap ro row,x=.slice b off V.length cap∧η.f b=.live ro row∧b<η.nx∧∀j (hj:j<V.length),off+j*5+5≤row.length∧(row.drop (off+j*5)).take 5=[.str V[j].nm.1 V[j].nm.2,.int .i64 V[j].kd,.str V[j].on.1 V[j].on.2,.bool V[j].nt,.int .i64 V[j].a]:=by
 obtain⟨b,off,cap,ro,row,rfl,h1,h2,-,-⟩:=vr_at rx h
 refine⟨b,off,cap,ro,row,rfl,h1,h2,fun j hj=>?_⟩
 obtain⟨b',off',cap',ro',row',e,h1',-,h3,h4⟩:=vr_at rx hj
 cases e
 rw[h1]at h1'
 cases h1'
 exact⟨h3,h4⟩
theorem eqs_row {η:HN} {y:AV} {EQ:List Eqn} {qs:List (List AV)} (r4:RdR 7 η y qs) (r5:rdQs tt η EQ qs) (h:0<EQ.length):∃b off cap ro row,y=.slice b off qs.length cap∧η.f b=.live ro row∧b<η.nx∧∀j (hj:j<EQ.length),∃(f1 f2:S) (f3 f4:Nat) (f5:AV),off+j*7+7≤row.length∧(row.drop (off+j*7)).take 7=[.str EQ[j].nm.1 EQ[j].nm.2,.str f1.1 f1.2,.str f2.1 f2.2,.int .i64 f3,.int .i64 f4,f5,.int .i64 EQ[j].a]∧rdE tt η EQ[j].e [.str f1.1 f1.2,.str f2.1 f2.2,.int .i64 f3,.int .i64 f4,f5]:=by
 obtain⟨hi,ri⟩:=rdQs_at r5 0 h
 obtain⟨b,off,cap,ro,row,rfl,h1,h2,-,-⟩:=r4.at hi
 refine⟨b,off,cap,ro,row,rfl,h1,h2,fun j hj=>?_⟩
 obtain⟨hi',ri'⟩:=rdQs_at r5 j hj
 obtain⟨b',off',cap',ro',row',e,h1',-,h3,h4⟩:=r4.at hi'
 cases e
 rw[h1]at h1'
 cases h1'
 obtain⟨ze,eze,re⟩:=ri'
 obtain⟨f1,f2,f3,f4,f5,rfl⟩:=rdE_cells re
 rw[eze]at h4
 exact⟨f1,f2,f3,f4,f5,h3,h4,re⟩
attribute [-go_sem] Go.Eng.wp_block in
set_option maxHeartbeats 16000000 in
theorem names6All_then (U:Usual nat) {l:List Nd} {ls:List (List AV)} {η:HN} {v:AV} (ok:okL l) (sl:SlV v) (rv:RdR 6 η v ls) (rl:rdNs tt η l ls) {Q:AV→HN→Prop}
  (k:∀η',ExtB η.nx η η'→Q (.agg [.int .i64 (namesR l).1,.int .i64 (namesR l).2]) η'):∃v' η',CallN Tryz.prog nat 38 [v] η v' η'∧Q v' η':=by
 obtain⟨hl,okn⟩:=ok
 obtain⟨lsl,ls6⟩:=rdNs_len rl
 refine call_of (PT:=pl38) Tryz.func38 rfl (U 38 (by decide)) ok38 rfl ?_
 have ln:=fun η' e w=>row_len (η':=η') rv lsl (by omega) e w
 have E0:ExtB η.nx η ((η.new (.live false [.int .i64 0,.int .i64 0])).new (.live false [.int .i64 0,.int .i64 0])):=extN (extN (.refl _ _))
 have c0:((η.new (.live false [.int .i64 0,.int .i64 0])).new (.live false [.int .i64 0,.int .i64 0])).f η.nx=.live false [.int .i64 0,.int .i64 0]:=(if_neg (by show¬η.nx=η.nx+1;omega)).trans (if_pos rfl)
 have c1:BdAt ((η.new (.live false [.int .i64 0,.int .i64 0])).new (.live false [.int .i64 0,.int .i64 0])) (η.nx+1) (0,0):=if_pos rfl
 have n0:((η.new (.live false [.int .i64 0,.int .i64 0])).new (.live false [.int .i64 0,.int .i64 0])).nx=η.nx+2:=rfl
 simp -implicitDefEqProofs(disch:=omega)only[go_sem]
 generalize (η.new (.live false [.int .i64 0,.int .i64 0])).new (.live false [.int .i64 0,.int .i64 0])=ηs at *
 obtain⟨cb,hcb⟩:∃cb,cb=η.nx+1:=⟨_,rfl⟩
 rw[←hcb]at c1 ⊢
 obtain⟨I,hI⟩:∃I:Nat→FN→HN→Prop,∀m φ ζ,I m φ ζ↔∃i b,m=l.length-i∧i≤l.length∧(φ 0=v∧φ 2=.ptr η.nx 0∧φ 3=.ptr cb 0∧φ 4=.int .i64 i)∧ExtX cb ηs ζ∧BdAt ζ cb b∧b.1≤100∧nmNodesR (l.take i) (l.drop i) b=namesR l:=⟨_,fun _ _ _=>Iff.rfl⟩
 refine wpN_loop I l.length ((hI _ _ _).2 ⟨0,(0,0),rfl,Nat.zero_le _,⟨rfl,rfl,rfl,rfl⟩,.refl _ _,c1,Nat.zero_le _,rfl⟩) ?_
 clear c1
 intro m φ ζ hi
 obtain⟨i,b,hm,hi,⟨p0,p2,p3,p4⟩,X,hbd,hb1,en⟩:=(hI _ _ _).1 hi
 have nX:=X.1
 have xz:ExtB η.nx η ζ:=extX_B E0 (by omega) X
 by_cases hlt:i<l.length
 ·obtain⟨hi',ri⟩:=rdNs_at rl i hlt
  obtain⟨b',n',rfl⟩:∃b n,v=.slice b 0 n (.un 6):=by
   rcases sl with rfl|⟨b,rfl⟩|h
   ·rcases rv with ⟨h,_⟩|⟨_,_,_,_,_,h,_⟩
    ·subst h;exact absurd hi' (Nat.not_lt_zero _)
    ·cases h
   ·rcases rv with ⟨h,_⟩|⟨_,_,_,_,_,h,h2,h3,h4,h5,h6⟩
    ·subst h;exact absurd hi' (Nat.not_lt_zero _)
    ·injection h with _ _ h9 _
     omega
   ·exact h
  obtain⟨b'',off,cap,ro,row,ev,hbv,hbn,hlen,hrow⟩:=rv.at hi'
  cases ev
  have hbz:ζ.f b'=_:=(xz.2 b' hbn).trans hbv
  have okd:=okn _ (List.getElem_mem hlt)
  rw[nmNodesR_drop hlt]at en
  have rtake:=rdNs_take i rl
  generalize hd:l[i]=d at *
  generalize hz:ls[i]=zd at *
  have ri':=ri
  obtain⟨y1,y2,y3,y4,rfl,-,r1,r2,r3,qs,r4,r5⟩:=ri'
  have hsn:sV d.nm=.str d.nm.1 d.nm.2:=rfl
  rw[hsn]at ri hrow
  rw[Nat.zero_add]at hrow
  have l1:=fun η' e w=>row_len (η':=η') r1 (vrs_len _) (by have:=okd.2.1.1;omega) e w
  have l2:=fun η' e w=>row_len (η':=η') r2 (vrs_len _) (by have:=okd.2.2.1.1;omega) e w
  have lq:=(rdQs_len r5).1
  have l4:=fun η' e w=>row_len (η':=η') r4 lq (by have:=okd.2.2.2.2.1;omega) e w
  obtain⟨ζ1,e1⟩:∃ζ1,ζ1=ζ.new (.live false [.str d.nm.1 d.nm.2,y1,y2,y3,y4,.int .i64 d.a]):=⟨_,rfl⟩
  have X1:ExtX cb ηs ζ1:=by rw[e1];exact X.new
  have cn:ζ1.f ζ.nx=.live false [.str d.nm.1 d.nm.2,y1,y2,y3,y4,.int .i64 d.a]:=by rw[e1];exact if_pos rfl
  have n1:ζ1.nx=ζ.nx+1:=by rw[e1];rfl
  have hbd1:BdAt ζ1 cb b:=by rw[e1];exact(if_neg (by omega)).trans hbd
  have x1:ExtB η.nx η ζ1:=extX_B E0 (by omega) X1
  obtain⟨b1,hb1e⟩:∃b1,b1=failIf (((l.take i).any fun d'=>decide (d'.nm=d.nm))||decide (d.outs.length=0)) 8 d.a b:=⟨_,rfl⟩
  have eN:nmNodeR (l.take i) d b=nmOwn d (d.outs++d.locs) (nmEqs (l.take i) d [] d.eqs (nmVars [] (allOf d) b1)):=by rw[hb1e];rfl
  have b1le:b1.1≤100:=by rw[hb1e];exact failIf_le (by decide) hb1
  obtain⟨M,hM⟩:∃M:FN→HN→Prop,∀φ ζ',M φ ζ'↔(φ 0=.slice b' 0 ls.length (.un 6)∧φ 2=.ptr η.nx 0∧φ 3=.ptr cb 0∧φ 4=.int .i64 i∧φ 5=.ptr ζ.nx 0)∧ExtX cb ζ1 ζ'∧BdAt ζ' cb b1:=⟨_,fun _ _=>Iff.rfl⟩
  simp -implicitDefEqProofs(disch:=omega)only[tailC_s,go_sem,p0,p2,p3,p4,ln]
  rw[Go.Eng.wp_block]
  refine wp_cut (M:=M) 2 _ _ _ ?_ ?_
  rotate_left
  ·simp -implicitDefEqProofs(disch:=omega)only[go_sem,p0,p2,p3,p4,hbz,hrow,repL_s,repL_z,setsL_c]
   rw[←e1]
   clear e1
   refine dE_call (nodeOf_then U (rdR_pre (RdR.ext (base:=0) rv x1) (by omega)) (rdNs_keep (keep_b x1) x1.1 (fun _ h=>h) rtake) (by rw[List.length_take];omega) d.nm ?_)
   have ea:=ixL_any (fun d':Nd=>decide (d'.nm=d.nm)) (l.take i) 0
   have fin:∀φ,(φ 0=.slice b' 0 ls.length (.un 6)∧φ 2=.ptr η.nx 0∧φ 3=.ptr cb 0∧φ 4=.int .i64 i∧φ 5=.ptr ζ.nx 0)→b1=b→M φ ζ1:=fun φ hp e=>(hM _ _).2 ⟨hp,.refl _ _,e▸hbd1⟩
   have bad:∀φ ζ',(φ 0=.slice b' 0 ls.length (.un 6)∧φ 2=.ptr η.nx 0∧φ 3=.ptr cb 0∧φ 4=.int .i64 i∧φ 5=.ptr ζ.nx 0)→ζ'.nx=ζ1.nx→BdAt ζ' cb (failB 8 d.a b)→b1=failB 8 d.a b→(∀c,c≠cb→ζ'.f c=ζ1.f c)→M φ ζ':=fun φ ζ' hp hn hbd e hk=>(hM _ _).2 ⟨hp,⟨by omega,fun c _ h2=>hk c h2⟩,e▸hbd⟩
   cases ex:ixL (fun d':Nd=>decide (d'.nm=d.nm)) (l.take i) 0 with
   |some j =>
    rw[ex]at ea
    have ea:true=(l.take i).any (fun d':Nd=>decide (d'.nm=d.nm)):=ea
    rw[←ea]at hb1e
    obtain⟨_,hj,_⟩:=ixL_lt ex
    rw[List.length_take]at hj
    have ee:encO (some j)=j:=rfl
    simp -implicitDefEqProofs(disch:=omega)only[go_sem,p3,cn,ee]
    refine thenN_call (fail6_then U hbd1 (by omega) fun ζ' g1 g2 g3=>?_)
    simp -implicitDefEqProofs(disch:=omega)only[go_sem]
    exact bad _ _ ⟨by exact p0,by exact p2,by exact p3,by exact p4,rfl⟩ g1 g2 hb1e g3
   |none =>
    rw[ex]at ea
    have ea:false=(l.take i).any (fun d':Nd=>decide (d'.nm=d.nm)):=ea
    rw[←ea,Bool.false_or]at hb1e
    have ee:encO none=18446744073709551615:=rfl
    by_cases ho:d.outs.length=0
    ·rw[decide_eq_true ho]at hb1e
     simp -implicitDefEqProofs(disch:=omega)only[go_sem,p3,cn,ee,ge_m1,l2,ho]
     refine thenN_call (fail6_then U hbd1 (by omega) fun ζ' g1 g2 g3=>?_)
     simp -implicitDefEqProofs(disch:=omega)only[go_sem]
     exact bad _ _ ⟨by exact p0,by exact p2,by exact p3,by exact p4,rfl⟩ g1 g2 hb1e g3
    ·rw[decide_eq_false ho]at hb1e
     simp -implicitDefEqProofs(disch:=omega)only[go_sem,p3,cn,ee,ge_m1,l2,ho]
     exact fin _ ⟨by exact p0,by exact p2,by exact p3,by exact p4,rfl⟩ hb1e
  ·intro φ ζ' hm
   obtain⟨⟨p0,p2,p3,p4,p5⟩,X2,hbd2⟩:=(hM _ _).1 hm
   clear hm hM hb1e
   have X3:=X1.trans X2
   have x3:ExtB η.nx η ζ':=extX_B E0 (by omega) X3
   have nX2:=X2.1
   have cn2:=(X2.2 _ (by omega) (by omega)).trans cn
   simp -implicitDefEqProofs(disch:=omega)only[tailC_s,tailC_z,go_sem,p0,p2,p3,p4,p5,cn2]
   refine thenN_call (vars6_then U (rdN_ext ri x3) okd fun x ζv ox Ev=>?_)
   have nv:=Ev.1
   have cnv:=(Ev.2 _ (by omega)).trans cn2
   have hbv2:BdAt ζv cb b1:=(Ev.2 _ (by omega)).trans hbd2
   have xv:ExtB η.nx η ζv:=extT x3 Ev
   have ox':OwnA 5 ζ'.nx ζv x ((allOf d).map Vr.cells).length ((allOf d).map Vr.cells).flatten:=by rw[vrs_len];exact ox
   have rx:=own_rdR ox' (fun l hl=>by obtain⟨v,_,rfl⟩:=List.mem_map.1 hl;rfl)
   obtain⟨hal,hok⟩:=all_len okd
   have lx:=fun η' e w=>row_len (η':=η') rx (vrs_len _) (by omega) e w
   simp -implicitDefEqProofs(disch:=omega)only[go_sem]
   generalize hV:allOf d=V at *
   have hcbx:∀bx,blkIs x bx→ζ'.nx≤bx:=fun bx hb=>(own_at ox hb).1
   rw[Go.Eng.wp_block]
   obtain⟨J2,hJ2⟩:∃J:Nat→FN→HN→Prop,∀m φ ζ2,J m φ ζ2↔∃k bb,m=V.length-k∧k≤V.length∧(φ 0=.slice b' 0 ls.length (.un 6)∧φ 2=.ptr η.nx 0∧φ 3=.ptr cb 0∧φ 4=.int .i64 i∧φ 5=.ptr ζ.nx 0∧φ 6=x∧φ 7=.int .i64 k)∧ExtX cb ζv ζ2∧BdAt ζ2 cb bb∧bb.1≤100∧nmVars (V.take k) (V.drop k) bb=nmVars [] V b1:=⟨_,fun _ _ _=>Iff.rfl⟩
   refine wpN_loop J2 V.length ((hJ2 _ _ _).2 ⟨0,b1,rfl,Nat.zero_le _,⟨by exact p0,by exact p2,by exact p3,by exact p4,by exact p5,rfl,rfl⟩,.refl _ _,hbv2,b1le,rfl⟩) ?_
   clear p0 p2 p3 p4 p5
   intro m φ ζ2 hj2
   obtain⟨k2,bb,hm2,hk2,⟨p0,p2,p3,p4,p5,p6,p7⟩,X4,hbd4,hb4,ev⟩:=(hJ2 _ _ _).1 hj2
   have n4:=X4.1
   by_cases hkt:k2<V.length
   ·obtain⟨bx,offx,capx,rox,rowx,ex,hbx,hbxn,hcell⟩:=vrs_row rx (by omega)
    have lobx:=hcbx bx (by rw[ex];exact rfl)
    have bx4:ζ2.f bx=_:=(X4.2 _ hbxn (by omega)).trans hbx
    rw[ex]at p6
    obtain⟨ck1,ck2⟩:=hcell k2 hkt
    have gk0:rowx.getD (offx+k2*5) und=.str V[k2].nm.1 V[k2].nm.2:=(cell_0 ck2 (by decide)).trans rfl
    have gk2:rowx.getD (offx+k2*5+2) und=.str V[k2].on.1 V[k2].on.2:=(cell_at ck2 2 (by decide)).trans rfl
    have gk4:rowx.getD (offx+k2*5+4) und=.int .i64 V[k2].a:=(cell_at ck2 4 (by decide)).trans rfl
    have okv:=hok _ (List.getElem_mem hkt)
    rw[nmVars_drop hkt]at ev
    have lx':=lx
    rw[ex]at lx'
    have eo:strEq V[k2].on.1 V[k2].on.2 0 0=decide (V[k2].on=(0,0)):=strEq_S V[k2].on (0,0)
    simp -implicitDefEqProofs(disch:=omega)only[go_sem,Go.Eng.wp_block,p0,p2,p3,p4,p5,p6,p7,lx',bx4,gk0,gk2,gk4,eo]
    generalize hw:V[k2]=w at *
    obtain⟨J4,hJ4⟩:∃J:Nat→FN→HN→Prop,∀m φ ζ4,J m φ ζ4↔∃j t8 b4,m=k2-j∧j≤k2∧(φ 0=.slice b' 0 ls.length (.un 6)∧φ 2=.ptr η.nx 0∧φ 3=.ptr cb 0∧φ 4=.int .i64 i∧φ 5=.ptr ζ.nx 0∧φ 6=.slice bx offx V.length capx∧φ 7=.int .i64 k2∧φ 8=.bool t8∧φ 9=.int .i64 j)∧ExtX cb ζv ζ4∧BdAt ζ4 cb b4∧b4.1≤100∧nmPair w ((V.take k2).drop j) (t8,b4)=nmPair w (V.take k2) (decide (w.on=(0,0)),bb):=⟨_,fun _ _ _=>Iff.rfl⟩
    refine wpN_loop J4 k2 ((hJ4 _ _ _).2 ⟨0,_,bb,rfl,Nat.zero_le _,⟨by exact p0,by exact p2,by exact p3,by exact p4,by exact p5,by exact p6,by exact p7,rfl,rfl⟩,X4,hbd4,hb4,rfl⟩) ?_
    clear p0 p2 p3 p4 p5 p6 p7
    intro m φ ζ4 hj4
    obtain⟨j,t8,b4,hm4,hj4,⟨p0,p2,p3,p4,p5,p6,p7,p8,p9⟩,X5,hbd5,hb5,ep⟩:=(hJ4 _ _ _).1 hj4
    have n5:=X5.1
    have bx5:ζ4.f bx=_:=(X5.2 _ hbxn (by omega)).trans hbx
    have hbd5':ζ4.f cb=.live false [.int .i64 b4.1,.int .i64 b4.2]:=hbd5
    by_cases hjt:j<k2
    ·have hjV:j<V.length:=by omega
     obtain⟨cj1,cj2⟩:=hcell j hjV
     have gj0:rowx.getD (offx+j*5) und=.str V[j].nm.1 V[j].nm.2:=(cell_0 cj2 (by decide)).trans rfl
     rw[nmPair_drop (by rw[List.length_take];omega),List.getElem_take]at ep
     generalize V[j]=u at *
     have es:=strEq_S u.nm w.nm
     have eso:=strEq_S u.nm w.on
     by_cases q:u.nm=w.nm
     ·rw[decide_eq_true q]at es ep
      cases t8 with
      |true =>
       simp -implicitDefEqProofs(disch:=omega)only[go_sem,Go.Eng.wp_block,p0,p2,p3,p4,p5,p6,p7,p8,p9,lx',bx5,gk0,gk2,gk4,gj0,es,eso]
       refine thenN_call (fail6_then U hbd5' (by omega) fun ζ6 g1 g2 g3=>?_)
       have X6:ExtX cb ζv ζ6:=⟨by omega,fun c h1 h2=>(g3 c h2).trans (X5.2 c h1 h2)⟩
       have bx6:ζ6.f bx=_:=(X6.2 _ hbxn (by omega)).trans hbx
       simp -implicitDefEqProofs(disch:=omega)only[go_sem,Go.Eng.wp_block,p0,p2,p3,p4,p5,p6,p7,p8,p9,lx',bx5,gk0,gk2,gk4,gj0,es,eso,bx6]
       exact⟨k2-(j+1),by omega,(hJ4 _ _ _).2 ⟨j+1,_,_,rfl,hjt,⟨by exact p0,by exact p2,by exact p3,by exact p4,by exact p5,by exact p6,by exact p7,rfl,rfl⟩,X6,g2,fail_le (by decide) hb5,ep⟩⟩
      |false =>
       simp -implicitDefEqProofs(disch:=omega)only[go_sem,Go.Eng.wp_block,p0,p2,p3,p4,p5,p6,p7,p8,p9,lx',bx5,gk0,gk2,gk4,gj0,es,eso]
       refine thenN_call (fail6_then U hbd5' (by omega) fun ζ6 g1 g2 g3=>?_)
       have X6:ExtX cb ζv ζ6:=⟨by omega,fun c h1 h2=>(g3 c h2).trans (X5.2 c h1 h2)⟩
       have bx6:ζ6.f bx=_:=(X6.2 _ hbxn (by omega)).trans hbx
       simp -implicitDefEqProofs(disch:=omega)only[go_sem,Go.Eng.wp_block,p0,p2,p3,p4,p5,p6,p7,p8,p9,lx',bx5,gk0,gk2,gk4,gj0,es,eso,bx6]
       exact⟨k2-(j+1),by omega,(hJ4 _ _ _).2 ⟨j+1,_,_,rfl,hjt,⟨by exact p0,by exact p2,by exact p3,by exact p4,by exact p5,by exact p6,by exact p7,rfl,rfl⟩,X6,g2,fail_le (by decide) hb5,ep⟩⟩
     ·rw[decide_eq_false q]at es ep
      cases t8 with
      |true =>
       simp -implicitDefEqProofs(disch:=omega)only[go_sem,Go.Eng.wp_block,p0,p2,p3,p4,p5,p6,p7,p8,p9,lx',bx5,gk0,gk2,gk4,gj0,es,eso]
       exact⟨k2-(j+1),by omega,(hJ4 _ _ _).2 ⟨j+1,_,_,rfl,hjt,⟨by exact p0,by exact p2,by exact p3,by exact p4,by exact p5,by exact p6,by exact p7,rfl,rfl⟩,X5,hbd5,hb5,ep⟩⟩
      |false =>
       simp -implicitDefEqProofs(disch:=omega)only[go_sem,Go.Eng.wp_block,p0,p2,p3,p4,p5,p6,p7,p8,p9,lx',bx5,gk0,gk2,gk4,gj0,es,eso]
       exact⟨k2-(j+1),by omega,(hJ4 _ _ _).2 ⟨j+1,_,_,rfl,hjt,⟨by exact p0,by exact p2,by exact p3,by exact p4,by exact p5,by exact p6,by exact p7,rfl,rfl⟩,X5,hbd5,hb5,ep⟩⟩
    ·obtain rfl:j=k2:=by omega
     have el:(V.take j).drop j=[]:=List.drop_eq_nil_of_le (by rw[List.length_take];omega)
     rw[el]at ep
     have ep:(t8,b4)=nmPair w (V.take j) (decide (w.on=(0,0)),bb):=ep
     rw[←ep]at ev
     dsimp only at ev
     cases t8 with
     |true =>
      simp -implicitDefEqProofs(disch:=omega)only[go_sem,Go.Eng.wp_block,p0,p2,p3,p4,p5,p6,p7,p8,p9,Bool.not_true]
      exact⟨V.length-(j+1),by omega,(hJ2 _ _ _).2 ⟨j+1,b4,rfl,hkt,⟨by exact p0,by exact p2,by exact p3,by exact p4,by exact p5,by exact p6.trans ex.symm,rfl⟩,X5,hbd5,hb5,ev⟩⟩
     |false =>
      simp -implicitDefEqProofs(disch:=omega)only[go_sem,Go.Eng.wp_block,p0,p2,p3,p4,p5,p6,p7,p8,p9,lx',bx5,gk4,Bool.not_false]
      refine thenN_call (fail6_then U hbd5' (by omega) fun ζ6 g1 g2 g3=>?_)
      have X6:ExtX cb ζv ζ6:=⟨by omega,fun c h1 h2=>(g3 c h2).trans (X5.2 c h1 h2)⟩
      simp -implicitDefEqProofs(disch:=omega)only[go_sem,Go.Eng.wp_block,p0,p2,p3,p4,p5,p6,p7,p8,p9]
      exact⟨V.length-(j+1),by omega,(hJ2 _ _ _).2 ⟨j+1,_,rfl,hkt,⟨by exact p0,by exact p2,by exact p3,by exact p4,by exact p5,by exact p6.trans ex.symm,rfl⟩,X6,g2,fail_le (by decide) hb5,ev⟩⟩
   ·obtain rfl:k2=V.length:=by omega
    rw[List.drop_length]at ev
    have ev:bb=nmVars [] V b1:=by rw[←ev];cases V.take V.length<;>rfl
    rw[←ev]at eN
    have cn4:=(X4.2 _ (by omega) (by omega)).trans cnv
    simp -implicitDefEqProofs(disch:=omega)only[go_sem,Go.Eng.wp_block,p0,p2,p3,p4,p5,p6,p7,lx,cn4]
    have hEl:=okd.2.2.2.2.1
    generalize hEQ:d.eqs=EQ at *
    obtain⟨J6,hJ6⟩:∃J:Nat→FN→HN→Prop,∀m φ ζ6,J m φ ζ6↔∃k6 b6,m=EQ.length-k6∧k6≤EQ.length∧(φ 0=.slice b' 0 ls.length (.un 6)∧φ 2=.ptr η.nx 0∧φ 3=.ptr cb 0∧φ 4=.int .i64 i∧φ 5=.ptr ζ.nx 0∧φ 6=x∧φ 10=.int .i64 k6)∧ExtX cb ζv ζ6∧BdAt ζ6 cb b6∧b6.1≤100∧nmEqs (l.take i) d (EQ.take k6) (EQ.drop k6) b6=nmEqs (l.take i) d [] EQ bb:=⟨_,fun _ _ _=>Iff.rfl⟩
    refine wpN_loop J6 EQ.length ((hJ6 _ _ _).2 ⟨0,bb,rfl,Nat.zero_le _,⟨by exact p0,by exact p2,by exact p3,by exact p4,by exact p5,by exact p6,rfl⟩,X4,hbd4,hb4,rfl⟩) ?_
    clear p0 p2 p3 p4 p5 p6 p7 X4 hbd4 hb4 n4 cn4
    intro m φ ζ6 hj6
    obtain⟨k6,b6,hm6,hk6,⟨p0,p2,p3,p4,p5,p6,p10⟩,X6,hbd6,hb6,eq6⟩:=(hJ6 _ _ _).1 hj6
    have n6:=X6.1
    have cn6:=(X6.2 _ (by omega) (by omega)).trans cnv
    have x6:ExtB η.nx η ζ6:=extX_B xv (by omega) X6
    by_cases hkt:k6<EQ.length
    ·obtain⟨bq,offq,capq,roq,rowq,ey,hbq,hbqn,hcell⟩:=eqs_row r4 r5 (by omega)
     obtain⟨f1,f2,f3,f4,f5,cq1,cq2,req⟩:=hcell k6 hkt
     have okq:=okd.2.2.2.2.2 _ (by rw[hEQ];exact List.getElem_mem hkt)
     rw[nmEqs_drop hkt]at eq6
     subst ey
     have bq6:ζ6.f bq=_:=(x6.2 _ hbqn).trans hbq
     obtain⟨b7,hb7⟩:∃b7,b7=failIf (!(findV d EQ[k6].nm).isSome||d.ins.any (fun v=>decide (v.nm=EQ[k6].nm))||(EQ.take k6).any (fun p=>decide (p.nm=EQ[k6].nm))) 8 EQ[k6].a b6:=⟨_,rfl⟩
     rw[←hb7]at eq6
     have b7le:b7.1≤100:=by rw[hb7];exact failIf_le (by decide) hb6
     generalize hq:EQ[k6]=q at *
     obtain⟨M7,hM7⟩:∃M:FN→HN→Prop,∀φ ζ7,M φ ζ7↔(φ 0=.slice b' 0 ls.length (.un 6)∧φ 2=.ptr η.nx 0∧φ 3=.ptr cb 0∧φ 4=.int .i64 i∧φ 5=.ptr ζ.nx 0∧φ 6=x∧φ 10=.int .i64 k6∧φ 11=.ptr ζ6.nx 0)∧ExtX cb ζv ζ7∧BdAt ζ7 cb b7∧ζ6.nx<ζ7.nx∧ζ7.f ζ6.nx=.live false [.str q.nm.1 q.nm.2,.str f1.1 f1.2,.str f2.1 f2.2,.int .i64 f3,.int .i64 f4,f5,.int .i64 q.a]:=⟨_,fun _ _=>Iff.rfl⟩
     simp -implicitDefEqProofs(disch:=omega)only[go_sem,p0,p2,p3,p4,p5,p6,p10,cn6,l4]
     rw[Go.Eng.wp_block]
     refine wp_cut (M:=M7) 5 _ _ _ ?_ ?_
     rotate_left
     ·obtain⟨ζ7,e7⟩:∃ζ7,ζ7=ζ6.new (.live false [.str q.nm.1 q.nm.2,.str f1.1 f1.2,.str f2.1 f2.2,.int .i64 f3,.int .i64 f4,f5,.int .i64 q.a]):=⟨_,rfl⟩
      have E7:ExtB ζ6.nx ζ6 ζ7:=by rw[e7];exact extN (.refl _ _)
      have c7:ζ7.f ζ6.nx=.live false [.str q.nm.1 q.nm.2,.str f1.1 f1.2,.str f2.1 f2.2,.int .i64 f3,.int .i64 f4,f5,.int .i64 q.a]:=by rw[e7];exact if_pos rfl
      have n7:ζ7.nx=ζ6.nx+1:=by rw[e7];rfl
      have cn7:=(E7.2 _ (by omega)).trans cn6
      simp -implicitDefEqProofs(disch:=omega)only[go_sem,Go.Eng.wp_block,p0,p2,p3,p4,p5,p6,p10,cn6,bq6,cq2,repL_s,repL_z,setsL_c]
      rw[←e7]
      clear e7
      have x7:=extT x6 E7
      have hwc:∀w:Vr,w.cells=[.str w.nm.1 w.nm.2,.int .i64 w.kd,.str w.on.1 w.on.2,.bool w.nt,.int .i64 w.a]:=fun _=>rfl
      refine thenN_call (find6_then U (rdN_ext ri x7) okd q.nm fun ζ8 E8=>?_)
      rw[hwc]
      generalize hwv:(findV d q.nm).getD zVr=wv
      obtain⟨ζ9,e9⟩:∃ζ9,ζ9=ζ8.new (.live false [.str wv.nm.1 wv.nm.2,.int .i64 wv.kd,.str wv.on.1 wv.on.2,.bool wv.nt,.int .i64 wv.a]):=⟨_,rfl⟩
      have E9:ExtB ζ7.nx ζ7 ζ9:=by rw[e9];exact extN E8
      have n9:=E9.1
      have c9:=(E9.2 _ (by omega)).trans c7
      have cn9:=(E9.2 _ (by omega)).trans cn7
      have x9:=extT x7 E9
      have bq9:ζ9.f bq=_:=(x9.2 _ hbqn).trans hbq
      have X9:ExtX cb ζv ζ9:=(X6.of E7).of E9
      have hbd9:ζ9.f cb=.live false [.int .i64 b6.1,.int .i64 b6.2]:=(E9.2 _ (by omega)).trans ((E7.2 _ (by omega)).trans hbd6)
      simp -implicitDefEqProofs(disch:=omega)only[go_sem,Go.Eng.wp_block,repL_s,repL_z,setsL_c]
      rw[←e9]
      clear e9
      obtain⟨J8,hJ8⟩:∃J:Nat→FN→HN→Prop,∀m φ ζ',J m φ ζ'↔∃j t14,m=k6-j∧j≤k6∧(φ 0=.slice b' 0 ls.length (.un 6)∧φ 2=.ptr η.nx 0∧φ 3=.ptr cb 0∧φ 4=.int .i64 i∧φ 5=.ptr ζ.nx 0∧φ 6=x∧φ 10=.int .i64 k6∧φ 11=.ptr ζ6.nx 0∧φ 13=.bool (findV d q.nm).isSome∧φ 14=.bool t14∧φ 15=.int .i64 j)∧ζ'=ζ9∧t14=(EQ.take j).any (fun p=>decide (p.nm=q.nm)):=⟨_,fun _ _ _=>Iff.rfl⟩
      refine wpN_loop J8 k6 ((hJ8 _ _ _).2 ⟨0,false,rfl,Nat.zero_le _,⟨by exact p0,by exact p2,by exact p3,by exact p4,by exact p5,by exact p6,by exact p10,rfl,rfl,rfl,rfl⟩,rfl,rfl⟩) ?_
      clear p0 p2 p3 p4 p5 p6 p10
      intro m φ ζ9x hj8
      obtain⟨j,t14,hm8,hj8,⟨p0,p2,p3,p4,p5,p6,p10,p11,p13,p14,p15⟩,rfl,ht⟩:=(hJ8 _ _ _).1 hj8
      by_cases hjt:j<k6
      ·obtain⟨h1',h2',h3',h4',h5',cj1,cj2,-⟩:=hcell j (by omega)
       have gj0:rowq.getD (offq+j*7) und=.str EQ[j].nm.1 EQ[j].nm.2:=(cell_0 cj2 (by decide)).trans rfl
       have ht2:(EQ.take (j+1)).any (fun p=>decide (p.nm=q.nm))=(t14||decide (EQ[j].nm=q.nm)):=by rw[List.take_succ_eq_append_getElem (by omega),List.any_append,ht];simp
       generalize EQ[j]=u at *
       have es:=strEq_S u.nm q.nm
       cases t14 with
       |true =>
        simp -implicitDefEqProofs(disch:=omega)only[go_sem,Go.Eng.wp_block,p0,p2,p3,p4,p5,p6,p10,p11,p13,p14,p15]
        exact⟨k6-(j+1),by omega,(hJ8 _ _ _).2 ⟨j+1,true,rfl,hjt,⟨by exact p0,by exact p2,by exact p3,by exact p4,by exact p5,by exact p6,by exact p10,by exact p11,by exact p13,rfl,rfl⟩,rfl,ht2.symm⟩⟩
       |false =>
        simp -implicitDefEqProofs(disch:=omega)only[go_sem,Go.Eng.wp_block,p0,p2,p3,p4,p5,p6,p10,p11,p13,p14,p15,cn9,c9,bq9,gj0,es]
        exact⟨k6-(j+1),by omega,(hJ8 _ _ _).2 ⟨j+1,_,rfl,hjt,⟨by exact p0,by exact p2,by exact p3,by exact p4,by exact p5,by exact p6,by exact p10,by exact p11,by exact p13,rfl,rfl⟩,rfl,ht2.symm⟩⟩
      ·obtain rfl:j=k6:=by omega
       rw[←ht]at hb7
       have fin:∀φ ζ',(φ 0=.slice b' 0 ls.length (.un 6)∧φ 2=.ptr η.nx 0∧φ 3=.ptr cb 0∧φ 4=.int .i64 i∧φ 5=.ptr ζ.nx 0∧φ 6=x∧φ 10=.int .i64 j∧φ 11=.ptr ζ6.nx 0)→ExtB ζ9x.nx ζ9x ζ'→b7=b6→M7 φ ζ':=fun φ ζ' hp ex e=>by
        have:=ex.1
        exact(hM7 _ _).2 ⟨hp,X9.of ex,e▸((ex.2 _ (by omega)).trans hbd9),by omega,(ex.2 _ (by omega)).trans c9⟩
       have bad:∀φ ζ' ζ'',(φ 0=.slice b' 0 ls.length (.un 6)∧φ 2=.ptr η.nx 0∧φ 3=.ptr cb 0∧φ 4=.int .i64 i∧φ 5=.ptr ζ.nx 0∧φ 6=x∧φ 10=.int .i64 j∧φ 11=.ptr ζ6.nx 0)→ExtB ζ9x.nx ζ9x ζ'→ζ''.nx=ζ'.nx→BdAt ζ'' cb (failB 8 q.a b6)→(∀c,c≠cb→ζ''.f c=ζ'.f c)→b7=failB 8 q.a b6→M7 φ ζ'':=fun φ ζ' ζ'' hp ex hn hbd hk e=>by
        have:=ex.1
        exact(hM7 _ _).2 ⟨hp,⟨by have:=X9.1;omega,fun c h1 h2=>(hk c h2).trans ((X9.of ex).2 c h1 h2)⟩,e▸hbd,by omega,(hk _ (by omega)).trans ((ex.2 _ (by omega)).trans c9)⟩
       have oqa:=okq.1
       cases hf:(findV d q.nm).isSome with
       |false =>
        rw[hf]at p13 hb7
        simp -implicitDefEqProofs(disch:=omega)only[go_sem,Go.Eng.wp_block,p0,p2,p3,p4,p5,p6,p10,p11,p13,p14,p15,c9,Bool.not_false]
        refine thenN_call (fail6_then U hbd9 (by omega) fun ζ'' g1 g2 g3=>?_)
        simp -implicitDefEqProofs(disch:=omega)only[go_sem]
        exact bad _ _ _ ⟨by exact p0,by exact p2,by exact p3,by exact p4,by exact p5,by exact p6,by exact p10,by exact p11⟩ (.refl _ _) g1 g2 g3 hb7
       |true =>
        rw[hf]at p13 hb7
        simp -implicitDefEqProofs(disch:=omega)only[go_sem,Go.Eng.wp_block,p0,p2,p3,p4,p5,p6,p10,p11,p13,p14,p15,cn9,c9,Bool.not_true]
        refine thenN_call (input_then U (rdN_ext ri x9) okd q.nm fun ζa Ea=>?_)
        have na:=Ea.1
        have ca:=(Ea.2 _ (by omega)).trans c9
        have hbda:ζa.f cb=.live false [.int .i64 b6.1,.int .i64 b6.2]:=(Ea.2 _ (by omega)).trans hbd9
        cases hin:d.ins.any (fun v=>decide (v.nm=q.nm)) with
        |true =>
         rw[hin]at hb7
         simp -implicitDefEqProofs(disch:=omega)only[go_sem,Go.Eng.wp_block,p0,p2,p3,p4,p5,p6,p10,p11,p13,p14,p15,ca]
         refine thenN_call (fail6_then U hbda (by omega) fun ζ'' g1 g2 g3=>?_)
         simp -implicitDefEqProofs(disch:=omega)only[go_sem]
         exact bad _ _ _ ⟨by exact p0,by exact p2,by exact p3,by exact p4,by exact p5,by exact p6,by exact p10,by exact p11⟩ Ea g1 g2 g3 hb7
        |false =>
         rw[hin]at hb7
         cases t14 with
         |true =>
          simp -implicitDefEqProofs(disch:=omega)only[go_sem,Go.Eng.wp_block,p0,p2,p3,p4,p5,p6,p10,p11,p13,p14,p15,ca]
          refine thenN_call (fail6_then U hbda (by omega) fun ζ'' g1 g2 g3=>?_)
          simp -implicitDefEqProofs(disch:=omega)only[go_sem]
          exact bad _ _ _ ⟨by exact p0,by exact p2,by exact p3,by exact p4,by exact p5,by exact p6,by exact p10,by exact p11⟩ Ea g1 g2 g3 hb7
         |false =>
          simp -implicitDefEqProofs(disch:=omega)only[go_sem,Go.Eng.wp_block,p0,p2,p3,p4,p5,p6,p10,p11,p13,p14,p15]
          exact fin _ _ ⟨by exact p0,by exact p2,by exact p3,by exact p4,by exact p5,by exact p6,by exact p10,by exact p11⟩ Ea hb7
     ·intro φ ζ7 hm7
      obtain⟨⟨p0,p2,p3,p4,p5,p6,p10,p11⟩,X7,hbd7,n7,c7⟩:=(hM7 _ _).1 hm7
      clear hM7 hb7
      have cn7:=(X7.2 _ (by omega) (by omega)).trans cnv
      have x7:ExtB η.nx η ζ7:=extX_B xv (by omega) X7
      have T:Trees η (.slice b' 0 i (.un 6)) (l.take i) d [.str d.nm.1 d.nm.2,y1,y2,y3,.slice bq offq qs.length capq,.int .i64 d.a]:=⟨⟨_,rdR_pre rv (by omega),rtake⟩,ri,⟨by rw[List.length_take];omega,fun d hd=>okn d (List.mem_of_mem_take hd)⟩,okd⟩
      simp -implicitDefEqProofs(disch:=omega)only[tailC_s,tailC_z,go_sem,Go.Eng.wp_block,p0,p2,p3,p4,p5,p6,p10,p11,cn7,c7]
      refine dE_call (names6_then U T (by omega) q.e okq.2 ζ7 _ b7 _ x7 (by have:=X7.1;omega) hbd7 b7le req fun ζ8 X8 hbd8=>?_)
      have cn8:=(X8.2 _ (by have:=X7.1;omega) (by omega)).trans cn7
      have c8:=(X8.2 _ n7 (by omega)).trans c7
      simp -implicitDefEqProofs(disch:=omega)only[go_sem,Go.Eng.wp_block,p0,p2,p3,p4,p5,p6,p10,p11,cn7,c7,cn8,c8]
      exact⟨EQ.length-(k6+1),by omega,(hJ6 _ _ _).2 ⟨k6+1,_,rfl,hkt,⟨by exact p0,by exact p2,by exact p3,by exact p4,by exact p5,by exact p6,rfl⟩,X7.trans X8,hbd8,nmE_le _ _ b7le,eq6⟩⟩
    ·obtain rfl:k6=EQ.length:=by omega
     rw[List.drop_length]at eq6
     have eq6:b6=nmEqs (l.take i) d [] EQ bb:=by rw[←eq6];cases EQ.take EQ.length<;>rfl
     rw[←eq6]at eN
     simp -implicitDefEqProofs(disch:=omega)only[go_sem,Go.Eng.wp_block,p0,p2,p3,p4,p5,p6,p10,cn6,l4,l1]
     have hdrop:V.drop d.ins.length=d.outs++d.locs:=by rw[←hV];unfold allOf;rw[List.drop_left]
     have hinl:d.ins.length≤V.length:=by rw[←hV];unfold allOf;rw[List.length_append];omega
     obtain⟨JX,hJX⟩:∃J:Nat→FN→HN→Prop,∀m φ ζ9,J m φ ζ9↔∃kx bx,m=V.length-kx∧kx≤V.length∧(φ 0=.slice b' 0 ls.length (.un 6)∧φ 2=.ptr η.nx 0∧φ 3=.ptr cb 0∧φ 4=.int .i64 i∧φ 5=.ptr ζ.nx 0∧φ 6=x∧φ 16=.int .i64 kx)∧ExtX cb ζv ζ9∧BdAt ζ9 cb bx∧bx.1≤100∧nmOwn d (V.drop kx) bx=nmOwn d (d.outs++d.locs) b6:=⟨_,fun _ _ _=>Iff.rfl⟩
     refine wpN_loop JX (V.length-d.ins.length) ((hJX _ _ _).2 ⟨d.ins.length,b6,rfl,hinl,⟨by exact p0,by exact p2,by exact p3,by exact p4,by exact p5,by exact p6,rfl⟩,X6,hbd6,hb6,by rw[hdrop]⟩) ?_
     clear p0 p2 p3 p4 p5 p6 p10
     intro m φ ζ9 hjx
     obtain⟨kx,bk,hmx,hkx,⟨p0,p2,p3,p4,p5,p6,p16⟩,X9,hbd9,hb9,ex9⟩:=(hJX _ _ _).1 hjx
     have n9:=X9.1
     have cn9:=(X9.2 _ (by omega) (by omega)).trans cnv
     have x9:ExtB η.nx η ζ9:=extX_B xv (by omega) X9
     by_cases hkt:kx<V.length
     ·obtain⟨bx,offx,capx,rox,rowx,ex,hbx,hbxn,hcell⟩:=vrs_row rx (by omega)
      have lobx:=hcbx bx (by rw[ex];exact rfl)
      have bx9:ζ9.f bx=_:=(X9.2 _ hbxn (by omega)).trans hbx
      rw[ex]at p6
      have lx':=lx
      rw[ex]at lx'
      obtain⟨ck1,ck2⟩:=hcell kx hkt
      have gk0:rowx.getD (offx+kx*5) und=.str V[kx].nm.1 V[kx].nm.2:=(cell_0 ck2 (by decide)).trans rfl
      have gk4:rowx.getD (offx+kx*5+4) und=.int .i64 V[kx].a:=(cell_at ck2 4 (by decide)).trans rfl
      have okv:=hok _ (List.getElem_mem hkt)
      rw[nmOwn_drop hkt]at ex9
      generalize V[kx]=w at *
      simp -implicitDefEqProofs(disch:=omega)only[go_sem,Go.Eng.wp_block,p0,p2,p3,p4,p5,p6,p16,lx',bx9,gk0,cn9]
      have EA:ExtB ζ9.nx ζ9 (ζ9.at_ (ζ9.nx+13)):=⟨by show ζ9.nx≤ζ9.nx+13;omega,fun _ _=>rfl⟩
      refine dE_call (eqOf_then U (rdN_ext ri (extT x9 EA)) okd w.nm fun ζa zq hzq Ea=>?_)
      have na:ζ9.nx+13≤ζa.nx:=Ea.1
      have bxa:ζa.f bx=_:=(Ea.2 _ (by show bx<ζ9.nx+13;omega)).trans bx9
      have cna:=(Ea.2 _ (show ζ.nx<ζ9.nx+13 by omega)).trans cn9
      obtain⟨u0,u1,u2,u3,u4,u5,u6,rfl⟩:∃u0 u1 u2 u3 u4 u5 u6,zq=[u0,u1,u2,u3,u4,u5,u6]:=by
       match zq,hzq with
       | [u0,u1,u2,u3,u4,u5,u6],_=>exact⟨_,_,_,_,_,_,_,rfl⟩
      have WX:ExtB ζ9.nx ζ9 ((((ζa.at_ (ζ9.nx+(1+1+1+1+1+1+1+1+1+1))).new (.live false [.str 0 0,.str 0 0,.str 0 0,.int .i64 0,.int .i64 0,.nilslice,.int .i64 0])).at_ ζa.nx).put (ζ9.nx+(1+1+1+1+1+1+1+1+1+1)) (.live false [u0,u1,u2,u3,u4,u5,u6])):=⟨by show ζ9.nx≤ζa.nx;omega,fun c hc=>(if_neg (by omega)).trans ((if_neg (by show¬c=ζ9.nx+(1+1+1+1+1+1+1+1+1+1);omega)).trans (Ea.2 c (by show c<ζ9.nx+13;omega)))⟩
      cases hany:d.eqs.any (fun q=>decide (q.nm=w.nm)) with
      |true =>
       simp -implicitDefEqProofs(disch:=omega)only[go_sem,Go.Eng.wp_block,p0,p2,p3,p4,p5,p6,p16,bx9,gk0,cn9,bxa,cna,repL_s,repL_z,setsL_c,Bool.not_true]
       rw[hany]at ex9
       exact⟨V.length-(kx+1),by omega,(hJX _ _ _).2 ⟨kx+1,bk,rfl,hkt,⟨by exact p0,by exact p2,by exact p3,by exact p4,by exact p5,by exact p6.trans ex.symm,rfl⟩,X9.of WX,(WX.2 _ (by omega)).trans hbd9,hb9,ex9⟩⟩
      |false =>
       simp -implicitDefEqProofs(disch:=omega)only[go_sem,Go.Eng.wp_block,p0,p2,p3,p4,p5,p6,p16,bx9,gk0,cn9,bxa,cna,repL_s,repL_z,setsL_c,Bool.not_false,gk4]
       rw[hany]at ex9
       have hbW:((((ζa.at_ (ζ9.nx+(1+1+1+1+1+1+1+1+1+1))).new (.live false [.str 0 0,.str 0 0,.str 0 0,.int .i64 0,.int .i64 0,.nilslice,.int .i64 0])).at_ ζa.nx).put (ζ9.nx+(1+1+1+1+1+1+1+1+1+1)) (.live false [u0,u1,u2,u3,u4,u5,u6])).f cb=.live false [.int .i64 bk.1,.int .i64 bk.2]:=(WX.2 _ (by omega)).trans hbd9
       generalize (((ζa.at_ (ζ9.nx+(1+1+1+1+1+1+1+1+1+1))).new (.live false [.str 0 0,.str 0 0,.str 0 0,.int .i64 0,.int .i64 0,.nilslice,.int .i64 0])).at_ ζa.nx).put (ζ9.nx+(1+1+1+1+1+1+1+1+1+1)) (.live false [u0,u1,u2,u3,u4,u5,u6])=W at *
       refine thenN_call (fail6_then U hbW (by omega) fun ζ'' g1 g2 g3=>?_)
       have nW:=WX.1
       simp -implicitDefEqProofs(disch:=omega)only[go_sem,Go.Eng.wp_block,p0,p2,p3,p4,p5,p6,p16]
       exact⟨V.length-(kx+1),by omega,(hJX _ _ _).2 ⟨kx+1,_,rfl,hkt,⟨by exact p0,by exact p2,by exact p3,by exact p4,by exact p5,by exact p6.trans ex.symm,rfl⟩,⟨by omega,fun c h1 h2=>(g3 c h2).trans ((X9.of WX).2 c h1 h2)⟩,g2,fail_le (by decide) hb9,ex9⟩⟩
     ·obtain rfl:kx=V.length:=by omega
      rw[List.drop_length]at ex9
      have ex9:bk=nmOwn d (d.outs++d.locs) b6:=ex9
      rw[←ex9]at eN
      rw[eN]at en
      simp -implicitDefEqProofs(disch:=omega)only[go_sem,Go.Eng.wp_block,p0,p2,p3,p4,p5,p6,p16,lx]
      exact⟨l.length-(i+1),by omega,(hI _ _ _).2 ⟨i+1,bk,rfl,hlt,⟨by exact p0,by exact p2,by exact p3,rfl⟩,((X3.of Ev).trans X9),hbd9,hb9,en⟩⟩
 ·obtain rfl:i=l.length:=by omega
  rw[List.drop_length]at en
  have en:b=namesR l:=by rw[←en];rfl
  rw[←en]at k
  have d0:ζ.f η.nx=_:=(X.2 _ (by omega) (by omega)).trans c0
  have hbd':ζ.f cb=.live false [.int .i64 b.1,.int .i64 b.2]:=hbd
  simp -implicitDefEqProofs(disch:=omega)only[go_sem,p0,p2,p3,p4,ln,d0,hbd']
  exact k _ (extP xz (by omega))
end Go.Proofs.YtdeejbnhlbddgaaGreatDoor
