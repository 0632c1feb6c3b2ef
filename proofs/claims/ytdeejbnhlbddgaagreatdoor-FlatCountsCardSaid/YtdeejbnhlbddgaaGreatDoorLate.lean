/- What is proved: what the document's leaves of what is late do. what tells the document's late names does. what the document's look at an expression's late parts does. what the document's check of what is late does. Conditions: as each theorem says. -/
import Derived.Test.YtdeejbnhlbddgaaGreatDoorRefE
import Derived.Test.YtdeejbnhlbddgaaGreatDoorPlainR
set_option linter.unusedVariables false
set_option linter.unusedSimpArgs false
set_option linter.unusedSectionVars false
namespace Go.Plain
open Go.Eng
set_option autoImplicit false
def strc (m:List S):List AV:=m.map fun s=>.str s.1 s.2
theorem strc_len (m:List S):(strc m).length=m.length:=List.length_map ..
theorem strc_get {m:List S} {i:Nat} (h:i<m.length):(strc m).getD i und=.str m[i].1 m[i].2:=by
 unfold strc
 rw[List.getD_eq_getElem?_getD,List.getElem?_map,List.getElem?_eq_getElem h];rfl
theorem strc_app (m:List S) (s:S):strc m++[.str s.1 s.2]=strc (m++[s]):=by unfold strc;rw[List.map_append];rfl
theorem has_drop {m:List S} {i:Nat} {s:S} (h:i<m.length):(m.drop i).contains s=(decide (m[i]=s)||(m.drop (i+1)).contains s):=by
 rw[List.drop_eq_getElem_cons h,List.contains_cons]
 congr 1
 by_cases g:m[i]=s
 ·rw[decide_eq_true g,g];simp
 ·rw[decide_eq_false g];exact beq_eq_false_iff_ne.2 fun e=>g e.symm
theorem ltEs_drop {m:List S} {ks:List Tr} {i:Nat} (h:i<ks.length):ltEs m (ks.drop i)=(ltE m ks[i]||ltEs m (ks.drop (i+1))):=by
 rw[List.drop_eq_getElem_cons h]
 conv=>lhs;unfold ltEs
end Go.Plain
namespace Go.Proofs.YtdeejbnhlbddgaaGreatDoor
open Go.Eng Go.Plain
set_option autoImplicit false
set_option maxRecDepth 100000
variable {nat:∀ [Deep],Nats}
theorem has6_then (U:Usual nat) {η:HN} {lo:Nat} {x:AV} {m:List S} (r:RowA lo η x (strc m)) (hm:m.length≤1099511627776) (s:S) {Q:AV→HN→Prop} (k:Q (.bool (m.contains s)) η):∃v' η',CallN Tryz.prog nat 81 [x,.str s.1 s.2] η v' η'∧Q v' η':=by
 refine call_of (PT:=pl81) Tryz.func81 rfl (U 81 (by decide)) ok81 rfl ?_
 have ln:=fun η' e w=>row_len (η':=η') r.rd (n:=m.length) (by rw[List.length_map];exact strc_len m) (by omega) e w
 simp -implicitDefEqProofs(disch:=omega)only[go_sem]
 obtain⟨I,hI⟩:∃I:Nat→FN→HN→Prop,∀j φ ζ,I j φ ζ↔∃i,j=m.length-i∧i≤m.length∧(φ 0=x∧φ 1=.str s.1 s.2∧φ 5=.int .i64 i)∧ζ=η∧(m.drop i).contains s=m.contains s:=⟨_,fun _ _ _=>Iff.rfl⟩
 refine wpN_loop I m.length ((hI _ _ _).2 ⟨0,rfl,Nat.zero_le _,⟨rfl,rfl,rfl⟩,rfl,rfl⟩) ?_
 intro j φ ζ hi
 obtain⟨i,hj,hi,⟨p0,p1,p5⟩,rfl,ed⟩:=(hI _ _ _).1 hi
 by_cases hlt:i<m.length
 ·obtain⟨b,h1,h2,rfl,-,hb⟩:=r.resolve_left (fun g=>by have:=congrArg List.length g.2;rw[strc_len]at this;have:m.length=0:=this;omega)
  have gl:=strc_len m
  have gs:=strc_get hlt
  rw[has_drop hlt]at ed
  generalize m[i]=w at *
  have es:=strEq_S w s
  by_cases e:w=s
  ·rw[decide_eq_true e]at es ed
   have ed:true=m.contains s:=ed
   rw[←ed]at k
   simp -implicitDefEqProofs(disch:=omega)only[go_sem,p0,p1,p5,ln,hb,gl,gs,es]
   exact k
  ·rw[decide_eq_false e]at es ed
   simp -implicitDefEqProofs(disch:=omega)only[go_sem,p0,p1,p5,ln,hb,gl,gs,es]
   exact⟨m.length-(i+1),by omega,(hI _ _ _).2 ⟨i+1,rfl,hlt,⟨by exact p0,by exact p1,rfl⟩,rfl,ed⟩⟩
 ·obtain rfl:i=m.length:=by omega
  rw[List.drop_length]at ed
  have ed:false=m.contains s:=ed
  rw[←ed]at k
  simp -implicitDefEqProofs(disch:=omega)only[go_sem,p0,p1,p5,ln]
  exact k
set_option maxHeartbeats 8000000 in
theorem late6_then (U:Usual nat) {lo:Nat} {x:AV} {m:List S} (hm:m.length≤1099511627776) {η0:HN} (r:RowA lo η0 x (strc m)):∀(e:Tr),okE e→∀(η:HN) (ze:List AV) (Q:AV→HN→Prop),ExtB η0.nx η0 η→rdE tt η0 e ze→(∀η',ExtB η.nx η η'→Q (.bool (ltE m e)) η')→∃v' η',CallN Tryz.prog nat 102 [.agg ze,x] η v' η'∧Q v' η':=by
 refine Tr.ind fun op nm N a ks ih=>?_
 intro ok η ze Q x0 re k
 unfold okE at ok
 obtain⟨ha,hkl,hks⟩:=ok
 have hks:=(okEs_iff _).1 hks
 unfold rdE at re
 obtain⟨y,rfl,-,ls,ry,rks⟩:=re
 have hll:=(rdEs_len rks).1
 have l3:=fun η' e w=>row_len (η':=η') ry hll (by omega) e w
 have eE:ltE m (.mk op nm N a ks)=if op=sVar then m.contains nm else if op=sPre then true else if op=sArrow∨op=sFby∨op=sMerge∨op=sCall∨op=sInt∨op=sBool then false else ltEs m ks:=by
  conv=>lhs;unfold ltE
 rw[eE]at k
 refine call_of (PT:=pl102) Tryz.func102 rfl (U 102 (by decide)) ok102 rfl ?_
 obtain⟨η1,h1⟩:∃η1,η1=η.new (.live false [.str op.1 op.2,.str nm.1 nm.2,.int .i64 N,.int .i64 a,y]):=⟨_,rfl⟩
 have E:ExtB η.nx η η1:=by rw[h1];exact extN (.refl _ _)
 have c1:η1.f η.nx=.live false [.str op.1 op.2,.str nm.1 nm.2,.int .i64 N,.int .i64 a,y]:=by rw[h1];exact if_pos rfl
 have n1:η1.nx=η.nx+1:=by rw[h1];rfl
 have x1:=extT x0 E
 have e1:strEq op.1 op.2 3 7496054=decide (op=sVar):=strEq_S op sVar
 have e2:strEq op.1 op.2 3 6648432=decide (op=sPre):=strEq_S op sPre
 have e3:strEq op.1 op.2 2 15917=decide (op=sArrow):=strEq_S op sArrow
 have e4:strEq op.1 op.2 3 7955046=decide (op=sFby):=strEq_S op sFby
 have e5:strEq op.1 op.2 5 435527247213=decide (op=sMerge):=strEq_S op sMerge
 have e6:strEq op.1 op.2 4 1819042147=decide (op=sCall):=strEq_S op sCall
 have e7:strEq op.1 op.2 3 7630441=decide (op=sInt):=strEq_S op sInt
 have e8:strEq op.1 op.2 4 1819242338=decide (op=sBool):=strEq_S op sBool
 simp -implicitDefEqProofs(disch:=omega)only[go_sem,sV]
 rw[←h1]
 clear h1
 by_cases q1:op=sVar
 ·rw[decide_eq_true q1]at e1
  rw[if_pos q1]at k
  simp -implicitDefEqProofs(disch:=omega)only[go_sem,c1,e1]
  refine thenN_call (has6_then U (r.keep x1.1 fun b _ h2 _=>x1.2 b h2) hm nm ?_)
  simp -implicitDefEqProofs(disch:=omega)only[go_sem]
  exact k _ E
 rw[decide_eq_false q1]at e1
 rw[if_neg q1]at k
 by_cases q2:op=sPre
 ·rw[decide_eq_true q2]at e2
  rw[if_pos q2]at k
  simp -implicitDefEqProofs(disch:=omega)only[go_sem,c1,e1,e2]
  exact k _ E
 rw[decide_eq_false q2]at e2
 rw[if_neg q2]at k
 by_cases q3:op=sArrow
 ·rw[decide_eq_true q3]at e3
  rw[if_pos (.inl q3)]at k
  simp -implicitDefEqProofs(disch:=omega)only[go_sem,c1,e1,e2,e3]
  exact k _ E
 rw[decide_eq_false q3]at e3
 by_cases q4:op=sFby
 ·rw[decide_eq_true q4]at e4
  rw[if_pos (.inr (.inl q4))]at k
  simp -implicitDefEqProofs(disch:=omega)only[go_sem,c1,e1,e2,e3,e4]
  exact k _ E
 rw[decide_eq_false q4]at e4
 by_cases q5:op=sMerge
 ·rw[decide_eq_true q5]at e5
  rw[if_pos (.inr (.inr (.inl q5)))]at k
  simp -implicitDefEqProofs(disch:=omega)only[go_sem,c1,e1,e2,e3,e4,e5]
  exact k _ E
 rw[decide_eq_false q5]at e5
 by_cases q6:op=sCall
 ·rw[decide_eq_true q6]at e6
  rw[if_pos (.inr (.inr (.inr (.inl q6))))]at k
  simp -implicitDefEqProofs(disch:=omega)only[go_sem,c1,e1,e2,e3,e4,e5,e6]
  exact k _ E
 rw[decide_eq_false q6]at e6
 by_cases q7:op=sInt
 ·rw[decide_eq_true q7]at e7
  rw[if_pos (.inr (.inr (.inr (.inr (.inl q7)))))]at k
  simp -implicitDefEqProofs(disch:=omega)only[go_sem,c1,e1,e2,e3,e4,e5,e6,e7]
  exact k _ E
 rw[decide_eq_false q7]at e7
 by_cases q8:op=sBool
 ·rw[decide_eq_true q8]at e8
  rw[if_pos (.inr (.inr (.inr (.inr (.inr q8)))))]at k
  simp -implicitDefEqProofs(disch:=omega)only[go_sem,c1,e1,e2,e3,e4,e5,e6,e7,e8]
  exact k _ E
 rw[decide_eq_false q8]at e8
 rw[if_neg (by rintro(g|g|g|g|g|g)<;>contradiction)]at k
 simp -implicitDefEqProofs(disch:=omega)only[go_sem,c1,e1,e2,e3,e4,e5,e6,e7,e8]
 obtain⟨I,hI⟩:∃I:Nat→FN→HN→Prop,∀j φ ζ,I j φ ζ↔∃i,j=ks.length-i∧i≤ks.length∧(φ 1=x∧φ 2=.ptr η.nx 0∧φ 5=.int .i64 i)∧ExtB η.nx η ζ∧η.nx<ζ.nx∧ζ.f η.nx=.live false [.str op.1 op.2,.str nm.1 nm.2,.int .i64 N,.int .i64 a,y]∧ltEs m (ks.drop i)=ltEs m ks:=⟨_,fun _ _ _=>Iff.rfl⟩
 refine wpN_loop I ks.length ((hI _ _ _).2 ⟨0,rfl,Nat.zero_le _,⟨rfl,rfl,rfl⟩,E,by omega,c1,rfl⟩) ?_
 clear c1 E x1
 intro j φ ζ hi
 obtain⟨i,hj,hi,⟨p1,p2,p5⟩,E,nz,c1,ed⟩:=(hI _ _ _).1 hi
 have xz:=extT x0 E
 by_cases hlt:i<ks.length
 ·obtain⟨hi',ri⟩:=rdEs_at rks i hlt
  obtain⟨bk,off,cap,ro,row,rfl,hbv,hbn,hlen,hrow⟩:=ry.at hi'
  have hbz:ζ.f bk=_:=(xz.2 bk hbn).trans hbv
  obtain⟨f1,f2,f3,f4,f5,ef⟩:=rdE_cells ri
  rw[ef]at hrow ri
  rw[ltEs_drop hlt]at ed
  simp -implicitDefEqProofs(disch:=omega)only[go_sem,p1,p2,p5,c1,l3,hbz,hrow]
  refine thenN_call (ih _ (List.getElem_mem hlt) (hks _ (List.getElem_mem hlt)) ζ _ _ xz ri fun ζ2 E2=>?_)
  cases hl:ltE m ks[i] with
  |true =>
   rw[hl]at ed
   have ed:true=ltEs m ks:=ed
   rw[←ed]at k
   simp -implicitDefEqProofs(disch:=omega)only[go_sem,p1,p2,p5]
   exact k _ (extT E E2)
  |false =>
   rw[hl]at ed
   have n2:=E2.1
   simp -implicitDefEqProofs(disch:=omega)only[go_sem,p1,p2,p5]
   exact⟨ks.length-(i+1),by omega,(hI _ _ _).2 ⟨i+1,rfl,hlt,⟨by exact p1,by exact p2,rfl⟩,extT E E2,by omega,(E2.2 _ nz).trans c1,ed⟩⟩
 ·obtain rfl:i=ks.length:=by omega
  rw[List.drop_length]at ed
  have e0:ltEs m []=false:=by unfold ltEs;rfl
  rw[e0]at ed
  rw[←ed]at k
  simp -implicitDefEqProofs(disch:=omega)only[go_sem,p1,p2,p5,c1,l3]
  exact k _ E
end Go.Proofs.YtdeejbnhlbddgaaGreatDoor
namespace Go.Plain
open Go.Eng
set_option autoImplicit false
theorem sweepL_drop {l:List Eqn} {i:Nat} {m:List S} (h:i<l.length):sweepL (l.drop i) m=sweepL (l.drop (i+1)) (if !m.contains l[i].nm&&ltE m l[i].e then m++[l[i].nm] else m):=by
 rw[List.drop_eq_getElem_cons h];rfl
theorem lateV_drop {m:List S} {l:List Vr} {i:Nat} (h:i<l.length):lateV m (l.drop i)=if m.contains l[i].nm then l[i].nm::lateV m (l.drop (i+1)) else lateV m (l.drop (i+1)):=by
 rw[List.drop_eq_getElem_cons h];rfl
end Go.Plain
namespace Go.Proofs.YtdeejbnhlbddgaaGreatDoor
open Go.Eng Go.Plain
set_option autoImplicit false
set_option maxRecDepth 100000
variable {nat:∀ [Deep],Nats}
attribute [-go_sem] Go.Eng.wp_block in
set_option maxHeartbeats 16000000 in
theorem lateS6_then (U:Usual nat) {η:HN} {n:Nd} {z:List AV} (r:rdN tt η n z) (ok:okN n) {Q:AV→HN→Prop} (k:∀y η',RowA η.nx η' y (strc (lateF n))→(lateF n).length≤4294967296→ExtB η.nx η η'→Q y η'):∃v' η',CallN Tryz.prog nat 79 [.agg z] η v' η'∧Q v' η':=by
 refine call_of (PT:=pl79) Tryz.func79 rfl (U 79 (by decide)) ok79 rfl ?_
 have r':=r
 obtain⟨y1,y2,y3,y4,rfl,-,-,-,-,qs,r4,r5⟩:=r'
 have hsn:sV n.nm=.str n.nm.1 n.nm.2:=rfl
 rw[hsn]at r
 have hEl:=ok.2.2.2.2.1
 have hEo:=ok.2.2.2.2.2
 have lq:=(rdQs_len r5).1
 have l4:=fun η' e w=>row_len (η':=η') r4 lq (by omega) e w
 obtain⟨EQ,hEQ⟩:∃EQ,EQ=n.eqs:=⟨_,rfl⟩
 rw[←hEQ]at hEl hEo lq l4 r5
 obtain⟨NQ,hNQ⟩:∃NQ,NQ=EQ.map Eqn.nm:=⟨_,rfl⟩
 have hNl:NQ.length=EQ.length:=by rw[hNQ,List.length_map]
 obtain⟨η1,h1⟩:∃η1,η1=η.new (.live false [.str n.nm.1 n.nm.2,y1,y2,y3,y4,.int .i64 n.a]):=⟨_,rfl⟩
 have E1:ExtB η.nx η η1:=by rw[h1];exact extN (.refl _ _)
 have c1:η1.f η.nx=.live false [.str n.nm.1 n.nm.2,y1,y2,y3,y4,.int .i64 n.a]:=by rw[h1];exact if_pos rfl
 have n1:η1.nx=η.nx+1:=by rw[h1];rfl
 simp -implicitDefEqProofs(disch:=omega)only[go_sem,Go.Eng.wp_block,hsn]
 rw[←h1]
 clear h1
 obtain⟨I,hI⟩:∃I:Nat→FN→HN→Prop,∀j φ ζ,I j φ ζ↔∃i x M,j=EQ.length+1-i∧i≤EQ.length+1∧(φ 1=.ptr η.nx 0∧φ 3=x∧φ 4=.int .i64 i)∧RowA (η.nx+1) ζ x (strc M)∧SomeOf NQ M∧ExtB η.nx η ζ∧η.nx<ζ.nx∧ζ.f η.nx=.live false [.str n.nm.1 n.nm.2,y1,y2,y3,y4,.int .i64 n.a]∧lateN n (EQ.length+1-i) M=lateN n (EQ.length+1) []:=⟨_,fun _ _ _=>Iff.rfl⟩
 refine wpN_loop I (EQ.length+1) ((hI _ _ _).2 ⟨0,.nilslice,[],rfl,Nat.zero_le _,⟨rfl,rfl,rfl⟩,.inl ⟨rfl,rfl⟩,⟨List.nodup_nil,fun _ h=>by cases h⟩,E1,by omega,c1,rfl⟩) ?_
 clear E1 c1
 intro j φ ζ hi
 obtain⟨i,x,M,hj,hi,⟨p1,p3,p4⟩,ra,so,E,nz,c1,el⟩:=(hI _ _ _).1 hi
 have hml:=so.len
 by_cases hlt:i≤EQ.length
 ·have eN:lateN n (EQ.length+1-i) M=lateN n (EQ.length+1-(i+1)) (sweepL EQ M):=by
   rw[show EQ.length+1-i=(EQ.length+1-(i+1))+1 by omega,hEQ];rfl
  rw[eN]at el
  simp -implicitDefEqProofs(disch:=omega)only[go_sem,Go.Eng.wp_block,p1,p3,p4,c1,l4]
  obtain⟨J,hJ⟩:∃J:Nat→FN→HN→Prop,∀j φ ζ,J j φ ζ↔∃q x M',j=EQ.length-q∧q≤EQ.length∧(φ 1=.ptr η.nx 0∧φ 3=x∧φ 4=.int .i64 i∧φ 5=.int .i64 q)∧RowA (η.nx+1) ζ x (strc M')∧SomeOf NQ M'∧ExtB η.nx η ζ∧η.nx<ζ.nx∧ζ.f η.nx=.live false [.str n.nm.1 n.nm.2,y1,y2,y3,y4,.int .i64 n.a]∧sweepL (EQ.drop q) M'=sweepL EQ M:=⟨_,fun _ _ _=>Iff.rfl⟩
  refine wpN_loop J EQ.length ((hJ _ _ _).2 ⟨0,x,M,rfl,Nat.zero_le _,⟨by exact p1,by exact p3,by exact p4,rfl⟩,ra,so,E,nz,c1,rfl⟩) ?_
  clear p1 p3 p4 ra E nz c1
  intro j φ ζ hj'
  obtain⟨q,x,M',hj',hq,⟨p1,p3,p4,p5⟩,ra,so',E,nz,c1,es⟩:=(hJ _ _ _).1 hj'
  have hml':=so'.len
  by_cases hqt:q<EQ.length
  ·obtain⟨bq,offq,capq,roq,rowq,rfl,hbq,hbqn,hcell⟩:=eqs_row r4 r5 (by omega)
   obtain⟨f1,f2,f3,f4,f5,cq1,cq2,req⟩:=hcell q hqt
   have okq:=hEo _ (List.getElem_mem hqt)
   have bqz:ζ.f bq=_:=(E.2 _ hbqn).trans hbq
   have gqe:=eq_take cq2
   have gq0:rowq.getD (offq+q*7) und=.str EQ[q].nm.1 EQ[q].nm.2:=(cell_0 cq2 (by decide)).trans rfl
   have hin:EQ[q].nm∈NQ:=by rw[hNQ];exact List.mem_map.2 ⟨_,List.getElem_mem hqt,rfl⟩
   rw[sweepL_drop hqt]at es
   generalize EQ[q]=w at *
   simp -implicitDefEqProofs(disch:=omega)only[go_sem,Go.Eng.wp_block,p1,p3,p4,p5,c1,l4,bqz,gq0,gqe]
   refine thenN_call (has6_then U ra (by omega) w.nm ?_)
   cases hh:M'.contains w.nm with
   |true =>
    rw[hh]at es
    simp -implicitDefEqProofs(disch:=omega)only[go_sem,Go.Eng.wp_block,p1,p3,p4,p5,c1,l4,bqz,gq0,gqe,Bool.not_true]
    exact⟨EQ.length-(q+1),by omega,(hJ _ _ _).2 ⟨q+1,x,M',rfl,hqt,⟨by exact p1,by exact p3,by exact p4,rfl⟩,ra,so',E,nz,c1,es⟩⟩
   |false =>
    rw[hh]at es
    simp -implicitDefEqProofs(disch:=omega)only[go_sem,Go.Eng.wp_block,p1,p3,p4,p5,c1,l4,bqz,gq0,gqe,Bool.not_false]
    refine thenN_call (late6_then U (by omega) ra w.e okq.2 ζ _ _ (.refl _ _) (rdE_keep (keep_b E) E.1 (fun _ h=>h) _ _ req) fun ζ2 E2=>?_)
    have n2:=E2.1
    have EE:=extT E E2
    have c2:=(E2.2 _ nz).trans c1
    have bq2:=(EE.2 _ hbqn).trans hbq
    have ra2:=ra.keep (η':=ζ2) n2 fun b _ h2 _=>E2.2 b h2
    cases hl:ltE M' w.e with
    |false =>
     rw[hl]at es
     simp -implicitDefEqProofs(disch:=omega)only[go_sem,Go.Eng.wp_block,p1,p3,p4,p5]
     exact⟨EQ.length-(q+1),by omega,(hJ _ _ _).2 ⟨q+1,x,M',rfl,hqt,⟨by exact p1,by exact p3,by exact p4,rfl⟩,ra2,so',EE,by omega,c2,es⟩⟩
    |true =>
     rw[hl]at es
     obtain⟨ζ9,e9,ra9,n9,k9⟩:=rowA_app (w:=16) (η:=ζ2.new (.live false [.str w.nm.1 w.nm.2])) (v:=.str w.nm.1 w.nm.2) (zb:=ζ2.nx) (c:=.kn 1) (ra2.keep (η':=ζ2.new (.live false [.str w.nm.1 w.nm.2])) (Nat.le_succ _) fun c _ h2 _=>if_neg (by omega)) (if_pos rfl) (Nat.lt_succ_self _) (by rw[strc_len];omega) (by show η.nx+1≤ζ2.nx+1;omega)
     rw[strc_app]at ra9
     rw[strc_len]at e9 ra9
     have n9':ζ9.nx=ζ2.nx+2:=n9
     have xal:∀c,blkIs x c→η.nx+1≤c:=fun c hc=>(ra2.blk hc).1
     have k9z:∀c,c<η.nx+1→ζ9.f c=ζ2.f c:=fun c h1=>(k9 c (by show c<ζ2.nx+1;omega) (fun g=>by have:=xal c g;omega)).trans (if_neg (by omega))
     simp -implicitDefEqProofs(disch:=omega)only[go_sem,Go.Eng.wp_block,p1,p3,p4,p5,c2,bq2,gq0]
     rw[e9]
     simp -implicitDefEqProofs(disch:=omega)only[go_sem,Go.Eng.wp_block,p1,p3,p4,p5]
     exact⟨EQ.length-(q+1),by omega,(hJ _ _ _).2 ⟨q+1,_,M'++[w.nm],rfl,hqt,⟨by exact p1,rfl,by exact p4,rfl⟩,ra9,so'.app hin hh,⟨by omega,fun c hc=>(k9z c (by omega)).trans (EE.2 c hc)⟩,by omega,(k9z _ (by omega)).trans c2,es⟩⟩
  ·obtain rfl:q=EQ.length:=by omega
   rw[List.drop_length]at es
   have es:M'=sweepL EQ M:=es
   rw[←es]at el
   simp -implicitDefEqProofs(disch:=omega)only[go_sem,Go.Eng.wp_block,p1,p3,p4,p5,c1,l4]
   exact⟨EQ.length+1-(i+1),by omega,(hI _ _ _).2 ⟨i+1,x,M',rfl,by omega,⟨by exact p1,by exact p3,rfl⟩,ra,so',E,nz,c1,el⟩⟩
 ·obtain rfl:i=EQ.length+1:=by omega
  rw[Nat.sub_self]at el
  have el:M=lateN n (n.eqs.length+1) []:=by rw[←hEQ];exact el
  have eF:lateF n=lateV M (allOf n):=by unfold lateF;rw[←el]
  rw[eF]at k
  have rz:=rdN_ext r E
  simp -implicitDefEqProofs(disch:=omega)only[go_sem,Go.Eng.wp_block,p1,p3,p4,c1,l4]
  refine thenN_call (vars6_then U rz ok fun xv ζv ox Ev=>?_)
  have nv:=Ev.1
  have EV:=extT E Ev
  have ox':OwnA 5 ζ.nx ζv xv ((allOf n).map Vr.cells).length ((allOf n).map Vr.cells).flatten:=by rw[vrs_len];exact ox
  have rx:=own_rdR ox' (fun l hl=>by obtain⟨v,_,rfl⟩:=List.mem_map.1 hl;rfl)
  obtain⟨hal,hok⟩:=all_len ok
  have lx:=fun η' e w=>row_len (η':=η') rx (vrs_len _) (by omega) e w
  have rav:=ra.keep (η':=ζv) nv fun b _ h2 _=>Ev.2 b h2
  simp -implicitDefEqProofs(disch:=omega)only[go_sem,Go.Eng.wp_block]
  generalize allOf n=V at *
  obtain⟨J,hJ⟩:∃J:Nat→FN→HN→Prop,∀j φ ζ',J j φ ζ'↔∃q x6 L6,j=V.length-q∧q≤V.length∧(φ 3=x∧φ 6=x6∧φ 7=xv∧φ 8=.int .i64 q)∧RowA ζv.nx ζ' x6 (strc L6)∧L6.length≤q∧ExtB ζv.nx ζv ζ'∧L6++lateV M (V.drop q)=lateV M V:=⟨_,fun _ _ _=>Iff.rfl⟩
  refine wpN_loop J V.length ((hJ _ _ _).2 ⟨0,.nilslice,[],rfl,Nat.zero_le _,⟨by exact p3,rfl,rfl,rfl⟩,.inl ⟨rfl,rfl⟩,Nat.le_refl _,.refl _ _,rfl⟩) ?_
  clear p1 p3 p4
  intro j φ ζ' hj'
  obtain⟨q,x6,L6,hj',hq,⟨p3,p6,p7,p8⟩,r6,hl6,E',ev⟩:=(hJ _ _ _).1 hj'
  have n':=E'.1
  by_cases hqt:q<V.length
  ·obtain⟨bx,offx,capx,rox,rowx,rfl,hbx,hbxn,hcell⟩:=vrs_row rx (by omega)
   have bx2:ζ'.f bx=_:=(E'.2 _ hbxn).trans hbx
   obtain⟨ck1,ck2⟩:=hcell q hqt
   have gk0:rowx.getD (offx+q*5) und=.str V[q].nm.1 V[q].nm.2:=(cell_0 ck2 (by decide)).trans rfl
   rw[lateV_drop hqt]at ev
   generalize V[q].nm=s at *
   have ra':=rav.keep (η':=ζ') n' fun b _ h2 _=>E'.2 b h2
   simp -implicitDefEqProofs(disch:=omega)only[go_sem,Go.Eng.wp_block,p3,p6,p7,p8,lx,bx2,gk0]
   refine thenN_call (has6_then U ra' (by omega) s ?_)
   cases hh:M.contains s with
   |false =>
    rw[hh,if_neg Bool.false_ne_true]at ev
    simp -implicitDefEqProofs(disch:=omega)only[go_sem,Go.Eng.wp_block,p3,p6,p7,p8]
    exact⟨V.length-(q+1),by omega,(hJ _ _ _).2 ⟨q+1,x6,L6,rfl,hqt,⟨by exact p3,by exact p6,by exact p7,rfl⟩,r6,by omega,E',ev⟩⟩
   |true =>
    rw[hh,if_pos rfl]at ev
    obtain⟨ζ9,e9,ra9,n9,k9⟩:=rowA_app (w:=16) (η:=ζ'.new (.live false [.str s.1 s.2])) (v:=.str s.1 s.2) (zb:=ζ'.nx) (c:=.kn 1) (r6.keep (η':=ζ'.new (.live false [.str s.1 s.2])) (Nat.le_succ _) fun c _ h2 _=>if_neg (by omega)) (if_pos rfl) (Nat.lt_succ_self _) (by rw[strc_len];omega) (by show ζv.nx≤ζ'.nx+1;omega)
    rw[strc_app]at ra9
    rw[strc_len]at e9 ra9
    have n9':ζ9.nx=ζ'.nx+2:=n9
    have xal:∀c,blkIs x6 c→ζv.nx≤c:=fun c hc=>(r6.blk hc).1
    simp -implicitDefEqProofs(disch:=omega)only[go_sem,Go.Eng.wp_block,p3,p6,p7,p8,lx,bx2,gk0]
    rw[e9]
    simp -implicitDefEqProofs(disch:=omega)only[go_sem,Go.Eng.wp_block,p3,p6,p7,p8]
    exact⟨V.length-(q+1),by omega,(hJ _ _ _).2 ⟨q+1,_,L6++[s],rfl,hqt,⟨by exact p3,rfl,by exact p7,rfl⟩,ra9,by rw[List.length_append];show L6.length+1≤q+1;omega,⟨by omega,fun c hc=>(k9 c (by show c<ζ'.nx+1;omega) (fun g=>by have:=xal c g;omega)).trans ((if_neg (by omega)).trans (E'.2 c hc))⟩,by rw[←ev,List.append_assoc];rfl⟩⟩
  ·obtain rfl:q=V.length:=by omega
   rw[List.drop_length]at ev
   have ev:L6=lateV M V:=by rw[←ev];exact(List.append_nil _).symm
   rw[←ev]at k
   simp -implicitDefEqProofs(disch:=omega)only[go_sem,Go.Eng.wp_block,p3,p6,p7,p8,lx]
   have EEV:=extT EV E'
   refine k _ _ ?_ (by omega) EEV
   rcases r6 with h|⟨b,h1,h2,h3,h4,h5⟩
   ·exact .inl h
   ·exact .inr ⟨b,by have:=EV.1;omega,h2,h3,h4,h5⟩
end Go.Proofs.YtdeejbnhlbddgaaGreatDoor
namespace Go.Plain
open Go.Eng
set_option autoImplicit false
theorem inEs_drop {m:List S} {ks:List Tr} {i:Nat} {b:Bd} (h:i<ks.length):inEs m (ks.drop i) b=inEs m (ks.drop (i+1)) (inE m ks[i] b):=by
 rw[List.drop_eq_getElem_cons h]
 conv=>lhs;unfold inEs
theorem badK_drop {m:List S} {op:S} {ks:List Tr} {i:Nat} {b:Bool} (h:i<ks.length):badK m op i (ks.drop i) b=badK m op (i+1) (ks.drop (i+1)) (if op=sPre∨op=sFby∨op=sMerge∨op=sCall then b||ltE m ks[i] else if op=sArrow then b||(decide (i=0)&&ltE m ks[i]) else b):=by
 rw[List.drop_eq_getElem_cons h];rfl
end Go.Plain
namespace Go.Proofs.YtdeejbnhlbddgaaGreatDoor
open Go.Eng Go.Plain
set_option autoImplicit false
set_option maxRecDepth 100000
variable {nat:∀ [Deep],Nats}
set_option maxHeartbeats 16000000 in
theorem inits6_then (U:Usual nat) {lo:Nat} {x:AV} {m:List S} (hm:m.length≤1099511627776) {η0:HN} {cb:Nat} (hc:η0.nx≤cb) (hlo:cb<lo):∀(e:Tr),okE e→∀(η:HN) (ze:List AV) (b:Bd) (Q:AV→HN→Prop),ExtB η0.nx η0 η→RowA lo η x (strc m)→cb<η.nx→BdAt η cb b→b.1≤100→rdE tt η0 e ze →
  (∀η',ExtX cb η η'→BdAt η' cb (inE m e b)→Q (.tup []) η')→∃v' η',CallN Tryz.prog nat 80 [.ptr cb 0,.agg ze,x] η v' η'∧Q v' η':=by
 refine Tr.ind fun op nm N a ks ih=>?_
 intro ok η ze b Q x0 r hcn hb hb1 re k
 unfold okE at ok
 obtain⟨ha,hkl,hks⟩:=ok
 have hks:=(okEs_iff _).1 hks
 unfold rdE at re
 obtain⟨y,rfl,-,ls,ry,rks⟩:=re
 have hll:=(rdEs_len rks).1
 have l3:=fun η' e w=>row_len (η':=η') ry hll (by omega) e w
 have eE:inE m (.mk op nm N a ks) b=failIf (badK m op 0 ks (decide (op=sWhen∨op=sMerge)&&m.contains nm)) 11 a (inEs m ks b):=by
  conv=>lhs;unfold inE
 rw[eE]at k
 have cx:=x0.1
 refine call_of (PT:=pl80) Tryz.func80 rfl (U 80 (by decide)) ok80 rfl ?_
 obtain⟨B0,hB0⟩:∃B,B=(decide (op=sWhen∨op=sMerge)&&m.contains nm):=⟨_,rfl⟩
 rw[←hB0]at k
 have hb2:(inEs m ks b).1≤100:=inEs_le _ _ hb1
 obtain⟨M,hM⟩:∃M:FN→HN→Prop,∀φ ζ,M φ ζ↔(φ 0=.ptr cb 0∧φ 2=x∧φ 4=.ptr η.nx 0∧φ 7=.bool B0)∧ExtX cb η ζ∧η.nx<ζ.nx∧ζ.f η.nx=.live false [.str op.1 op.2,.str nm.1 nm.2,.int .i64 N,.int .i64 a,y]∧BdAt ζ cb (inEs m ks b):=⟨_,fun _ _=>Iff.rfl⟩
 refine wp_cut (M:=M) 3 _ _ _ ?_ ?_
 ·intro φ ζ hm'
  obtain⟨⟨p0,p2,p4,p7⟩,X,nz,c1,hbd⟩:=(hM _ _).1 hm'
  clear hM hm'
  generalize inEs m ks b=b2 at *
  simp -implicitDefEqProofs(disch:=omega)only[go_sem,p0,p2,p4,p7]
  obtain⟨I,hI⟩:∃I:Nat→FN→HN→Prop,∀j φ ζ,I j φ ζ↔∃i bad,j=ks.length-i∧i≤ks.length∧(φ 0=.ptr cb 0∧φ 2=x∧φ 4=.ptr η.nx 0∧φ 7=.bool bad∧φ 8=.int .i64 i)∧ExtX cb η ζ∧η.nx<ζ.nx∧ζ.f η.nx=.live false [.str op.1 op.2,.str nm.1 nm.2,.int .i64 N,.int .i64 a,y]∧BdAt ζ cb b2∧badK m op i (ks.drop i) bad=badK m op 0 ks B0:=⟨_,fun _ _ _=>Iff.rfl⟩
  refine wpN_loop I ks.length ((hI _ _ _).2 ⟨0,B0,rfl,Nat.zero_le _,⟨by exact p0,by exact p2,by exact p4,by exact p7,rfl⟩,X,nz,c1,hbd,rfl⟩) ?_
  clear p0 p2 p4 p7 X nz c1 hbd
  intro j φ ζ hi
  obtain⟨i,bad,hj,hi,⟨p0,p2,p4,p7,p8⟩,X,nz,c1,hbd,ed⟩:=(hI _ _ _).1 hi
  have xz:=extX_B x0 hc X
  by_cases hlt:i<ks.length
  ·obtain⟨hi',ri⟩:=rdEs_at rks i hlt
   obtain⟨bk,off,cap,ro,row,rfl,hbv,hbn,hlen,hrow⟩:=ry.at hi'
   have hbz:ζ.f bk=_:=(xz.2 bk hbn).trans hbv
   obtain⟨f1,f2,f3,f4,f5,ef⟩:=rdE_cells ri
   rw[ef]at hrow ri
   have rz:RowA lo ζ x (strc m):=r.keep X.1 fun b h1 h2 _=>X.2 b h2 (by omega)
   rw[badK_drop hlt]at ed
   have e1:strEq op.1 op.2 3 6648432=decide (op=sPre):=strEq_S op sPre
   have e2:strEq op.1 op.2 3 7955046=decide (op=sFby):=strEq_S op sFby
   have e3:strEq op.1 op.2 5 435527247213=decide (op=sMerge):=strEq_S op sMerge
   have e4:strEq op.1 op.2 4 1819042147=decide (op=sCall):=strEq_S op sCall
   have e5:strEq op.1 op.2 2 15917=decide (op=sArrow):=strEq_S op sArrow
   by_cases q1:op=sPre
   ·rw[decide_eq_true q1]at e1
    rw[if_pos (.inl q1)]at ed
    cases bad with
    |true =>
     rw[Bool.true_or]at ed
     simp -implicitDefEqProofs(disch:=omega)only[go_sem,p0,p2,p4,p7,p8,c1,l3,e1]
     exact⟨ks.length-(i+1),by omega,(hI _ _ _).2 ⟨i+1,true,rfl,hlt,⟨by exact p0,by exact p2,by exact p4,rfl,rfl⟩,X,nz,c1,hbd,ed⟩⟩
    |false =>
     rw[Bool.false_or]at ed
     simp -implicitDefEqProofs(disch:=omega)only[go_sem,p0,p2,p4,p7,p8,c1,l3,e1,hbz,hrow]
     refine thenN_call (late6_then U hm rz ks[i] (hks _ (List.getElem_mem hlt)) ζ _ _ (.refl _ _) (rdE_keep (keep_b xz) xz.1 (fun _ h=>h) _ _ ri) fun ζ2 E2=>?_)
     have n2:=E2.1
     simp -implicitDefEqProofs(disch:=omega)only[go_sem,p0,p2,p4,p7,p8,c1,l3]
     exact⟨ks.length-(i+1),by omega,(hI _ _ _).2 ⟨i+1,_,rfl,hlt,⟨by exact p0,by exact p2,by exact p4,rfl,rfl⟩,X.of E2,by omega,(E2.2 _ nz).trans c1,(E2.2 _ (by omega)).trans hbd,ed⟩⟩
   rw[decide_eq_false q1]at e1
   by_cases q2:op=sFby
   ·rw[decide_eq_true q2]at e2
    rw[if_pos (.inr (.inl q2))]at ed
    cases bad with
    |true =>
     rw[Bool.true_or]at ed
     simp -implicitDefEqProofs(disch:=omega)only[go_sem,p0,p2,p4,p7,p8,c1,l3,e1,e2]
     exact⟨ks.length-(i+1),by omega,(hI _ _ _).2 ⟨i+1,true,rfl,hlt,⟨by exact p0,by exact p2,by exact p4,rfl,rfl⟩,X,nz,c1,hbd,ed⟩⟩
    |false =>
     rw[Bool.false_or]at ed
     simp -implicitDefEqProofs(disch:=omega)only[go_sem,p0,p2,p4,p7,p8,c1,l3,e1,e2,hbz,hrow]
     refine thenN_call (late6_then U hm rz ks[i] (hks _ (List.getElem_mem hlt)) ζ _ _ (.refl _ _) (rdE_keep (keep_b xz) xz.1 (fun _ h=>h) _ _ ri) fun ζ2 E2=>?_)
     have n2:=E2.1
     simp -implicitDefEqProofs(disch:=omega)only[go_sem,p0,p2,p4,p7,p8,c1,l3]
     exact⟨ks.length-(i+1),by omega,(hI _ _ _).2 ⟨i+1,_,rfl,hlt,⟨by exact p0,by exact p2,by exact p4,rfl,rfl⟩,X.of E2,by omega,(E2.2 _ nz).trans c1,(E2.2 _ (by omega)).trans hbd,ed⟩⟩
   rw[decide_eq_false q2]at e2
   by_cases q3:op=sMerge
   ·rw[decide_eq_true q3]at e3
    rw[if_pos (.inr (.inr (.inl q3)))]at ed
    cases bad with
    |true =>
     rw[Bool.true_or]at ed
     simp -implicitDefEqProofs(disch:=omega)only[go_sem,p0,p2,p4,p7,p8,c1,l3,e1,e2,e3]
     exact⟨ks.length-(i+1),by omega,(hI _ _ _).2 ⟨i+1,true,rfl,hlt,⟨by exact p0,by exact p2,by exact p4,rfl,rfl⟩,X,nz,c1,hbd,ed⟩⟩
    |false =>
     rw[Bool.false_or]at ed
     simp -implicitDefEqProofs(disch:=omega)only[go_sem,p0,p2,p4,p7,p8,c1,l3,e1,e2,e3,hbz,hrow]
     refine thenN_call (late6_then U hm rz ks[i] (hks _ (List.getElem_mem hlt)) ζ _ _ (.refl _ _) (rdE_keep (keep_b xz) xz.1 (fun _ h=>h) _ _ ri) fun ζ2 E2=>?_)
     have n2:=E2.1
     simp -implicitDefEqProofs(disch:=omega)only[go_sem,p0,p2,p4,p7,p8,c1,l3]
     exact⟨ks.length-(i+1),by omega,(hI _ _ _).2 ⟨i+1,_,rfl,hlt,⟨by exact p0,by exact p2,by exact p4,rfl,rfl⟩,X.of E2,by omega,(E2.2 _ nz).trans c1,(E2.2 _ (by omega)).trans hbd,ed⟩⟩
   rw[decide_eq_false q3]at e3
   by_cases q4:op=sCall
   ·rw[decide_eq_true q4]at e4
    rw[if_pos (.inr (.inr (.inr q4)))]at ed
    cases bad with
    |true =>
     rw[Bool.true_or]at ed
     simp -implicitDefEqProofs(disch:=omega)only[go_sem,p0,p2,p4,p7,p8,c1,l3,e1,e2,e3,e4]
     exact⟨ks.length-(i+1),by omega,(hI _ _ _).2 ⟨i+1,true,rfl,hlt,⟨by exact p0,by exact p2,by exact p4,rfl,rfl⟩,X,nz,c1,hbd,ed⟩⟩
    |false =>
     rw[Bool.false_or]at ed
     simp -implicitDefEqProofs(disch:=omega)only[go_sem,p0,p2,p4,p7,p8,c1,l3,e1,e2,e3,e4,hbz,hrow]
     refine thenN_call (late6_then U hm rz ks[i] (hks _ (List.getElem_mem hlt)) ζ _ _ (.refl _ _) (rdE_keep (keep_b xz) xz.1 (fun _ h=>h) _ _ ri) fun ζ2 E2=>?_)
     have n2:=E2.1
     simp -implicitDefEqProofs(disch:=omega)only[go_sem,p0,p2,p4,p7,p8,c1,l3]
     exact⟨ks.length-(i+1),by omega,(hI _ _ _).2 ⟨i+1,_,rfl,hlt,⟨by exact p0,by exact p2,by exact p4,rfl,rfl⟩,X.of E2,by omega,(E2.2 _ nz).trans c1,(E2.2 _ (by omega)).trans hbd,ed⟩⟩
   rw[decide_eq_false q4]at e4
   rw[if_neg (by rintro(g|g|g|g)<;>contradiction)]at ed
   by_cases q5:op=sArrow
   ·rw[decide_eq_true q5]at e5
    rw[if_pos q5]at ed
    by_cases i0:i=0
    ·rw[decide_eq_true i0,Bool.true_and]at ed
     have di:decide (i=0)=true:=decide_eq_true i0
     cases bad with
     |true =>
      rw[Bool.true_or]at ed
      simp -implicitDefEqProofs(disch:=omega)only[go_sem,p0,p2,p4,p7,p8,c1,l3,e1,e2,e3,e4,e5,di]
      exact⟨ks.length-(i+1),by omega,(hI _ _ _).2 ⟨i+1,true,rfl,hlt,⟨by exact p0,by exact p2,by exact p4,rfl,rfl⟩,X,nz,c1,hbd,ed⟩⟩
     |false =>
      rw[Bool.false_or]at ed
      simp -implicitDefEqProofs(disch:=omega)only[go_sem,p0,p2,p4,p7,p8,c1,l3,e1,e2,e3,e4,e5,di,hbz,hrow]
      refine thenN_call (late6_then U hm rz ks[i] (hks _ (List.getElem_mem hlt)) ζ _ _ (.refl _ _) (rdE_keep (keep_b xz) xz.1 (fun _ h=>h) _ _ ri) fun ζ2 E2=>?_)
      have n2:=E2.1
      simp -implicitDefEqProofs(disch:=omega)only[go_sem,p0,p2,p4,p7,p8,c1,l3]
      exact⟨ks.length-(i+1),by omega,(hI _ _ _).2 ⟨i+1,_,rfl,hlt,⟨by exact p0,by exact p2,by exact p4,rfl,rfl⟩,X.of E2,by omega,(E2.2 _ nz).trans c1,(E2.2 _ (by omega)).trans hbd,ed⟩⟩
    ·rw[decide_eq_false i0,Bool.false_and,Bool.or_false]at ed
     have di:decide (i=0)=false:=decide_eq_false i0
     cases bad with
     |true =>
      simp -implicitDefEqProofs(disch:=omega)only[go_sem,p0,p2,p4,p7,p8,c1,l3,e1,e2,e3,e4,e5,di]
      exact⟨ks.length-(i+1),by omega,(hI _ _ _).2 ⟨i+1,true,rfl,hlt,⟨by exact p0,by exact p2,by exact p4,rfl,rfl⟩,X,nz,c1,hbd,ed⟩⟩
     |false =>
      simp -implicitDefEqProofs(disch:=omega)only[go_sem,p0,p2,p4,p7,p8,c1,l3,e1,e2,e3,e4,e5,di]
      exact⟨ks.length-(i+1),by omega,(hI _ _ _).2 ⟨i+1,false,rfl,hlt,⟨by exact p0,by exact p2,by exact p4,rfl,rfl⟩,X,nz,c1,hbd,ed⟩⟩
   rw[decide_eq_false q5]at e5
   rw[if_neg q5]at ed
   simp -implicitDefEqProofs(disch:=omega)only[go_sem,p0,p2,p4,p7,p8,c1,l3,e1,e2,e3,e4,e5]
   exact⟨ks.length-(i+1),by omega,(hI _ _ _).2 ⟨i+1,bad,rfl,hlt,⟨by exact p0,by exact p2,by exact p4,by exact p7,rfl⟩,X,nz,c1,hbd,ed⟩⟩
  ·obtain rfl:i=ks.length:=by omega
   rw[List.drop_length]at ed
   have ed:bad=badK m op 0 ks B0:=ed
   rw[←ed]at k
   cases bad with
   |false =>
    simp -implicitDefEqProofs(disch:=omega)only[go_sem,p0,p2,p4,p7,p8,c1,l3]
    exact k _ X hbd
   |true =>
    simp -implicitDefEqProofs(disch:=omega)only[go_sem,p0,p2,p4,p7,p8,c1,l3]
    refine thenN_call (fail6_then U hbd (by omega) fun ζ2 g1 g2 g3=>?_)
    simp -implicitDefEqProofs(disch:=omega)only[go_sem,p0,p2,p4,p7,p8]
    exact k _ ⟨by have:=X.1;omega,fun c h1 h2=>(g3 c h2).trans (X.2 c h1 h2)⟩ g2
 ·obtain⟨η1,h1⟩:∃η1,η1=η.new (.live false [.str op.1 op.2,.str nm.1 nm.2,.int .i64 N,.int .i64 a,y]):=⟨_,rfl⟩
  have E:ExtB η.nx η η1:=by rw[h1];exact extN (.refl _ _)
  have c1:η1.f η.nx=.live false [.str op.1 op.2,.str nm.1 nm.2,.int .i64 N,.int .i64 a,y]:=by rw[h1];exact if_pos rfl
  have n1:η1.nx=η.nx+1:=by rw[h1];rfl
  have cb1:BdAt η1 cb b:=(E.2 _ hcn).trans hb
  have X:ExtX cb η η1:=extB_X cb E
  simp -implicitDefEqProofs(disch:=omega)only[go_sem,sV]
  rw[←h1]
  clear h1
  obtain⟨I,hI⟩:∃I:Nat→FN→HN→Prop,∀j φ ζ,I j φ ζ↔∃i b',j=ks.length-i∧i≤ks.length∧(φ 0=.ptr cb 0∧φ 2=x∧φ 4=.ptr η.nx 0∧φ 6=.int .i64 i)∧ExtX cb η ζ∧η.nx<ζ.nx∧ζ.f η.nx=.live false [.str op.1 op.2,.str nm.1 nm.2,.int .i64 N,.int .i64 a,y]∧BdAt ζ cb b'∧b'.1≤100∧inEs m (ks.drop i) b'=inEs m ks b:=⟨_,fun _ _ _=>Iff.rfl⟩
  refine wpN_loop I ks.length ((hI _ _ _).2 ⟨0,b,rfl,Nat.zero_le _,⟨rfl,rfl,rfl,rfl⟩,X,by omega,c1,cb1,hb1,rfl⟩) ?_
  clear X c1 cb1
  intro j φ ζ hi
  obtain⟨i,b',hj,hi,⟨p0,p2,p4,p6⟩,X,nz,c1,hbd,hb',ed⟩:=(hI _ _ _).1 hi
  have xz:=extX_B x0 hc X
  by_cases hlt:i<ks.length
  ·obtain⟨hi',ri⟩:=rdEs_at rks i hlt
   obtain⟨bk,off,cap,ro,row,rfl,hbv,hbn,hlen,hrow⟩:=ry.at hi'
   have hbz:ζ.f bk=_:=(xz.2 bk hbn).trans hbv
   obtain⟨f1,f2,f3,f4,f5,ef⟩:=rdE_cells ri
   rw[ef]at hrow ri
   rw[inEs_drop hlt]at ed
   have rz:RowA lo ζ x (strc m):=r.keep X.1 fun b h1 h2 _=>X.2 b h2 (by omega)
   simp -implicitDefEqProofs(disch:=omega)only[go_sem,p0,p2,p4,p6,c1,l3,hbz,hrow]
   refine thenN_call (ih _ (List.getElem_mem hlt) (hks _ (List.getElem_mem hlt)) ζ _ b' _ xz rz (Nat.lt_of_lt_of_le hcn X.1) hbd hb' ri fun ζ2 X2 hbd2=>?_)
   have n2:=X2.1
   simp -implicitDefEqProofs(disch:=omega)only[go_sem,p0,p2,p4,p6]
   exact⟨ks.length-(i+1),by omega,(hI _ _ _).2 ⟨i+1,_,rfl,hlt,⟨by exact p0,by exact p2,by exact p4,rfl⟩,X.trans X2,by omega,(X2.2 _ (by omega) (by omega)).trans c1,hbd2,inE_le _ _ hb',ed⟩⟩
  ·obtain rfl:i=ks.length:=by omega
   rw[List.drop_length]at ed
   have e0:inEs m [] b'=b':=by unfold inEs;rfl
   rw[e0]at ed
   rw[ed]at hbd
   have rz:RowA lo ζ x (strc m):=r.keep X.1 fun b h1 h2 _=>X.2 b h2 (by omega)
   have e1:strEq op.1 op.2 4 1852139639=decide (op=sWhen):=strEq_S op sWhen
   have e2:strEq op.1 op.2 5 435527247213=decide (op=sMerge):=strEq_S op sMerge
   by_cases q1:op=sWhen
   ·rw[decide_eq_true q1]at e1
    rw[decide_eq_true (.inl q1),Bool.true_and]at hB0
    simp -implicitDefEqProofs(disch:=omega)only[go_sem,p0,p2,p4,p6,c1,l3,e1]
    refine thenN_call (has6_then U rz hm nm ?_)
    simp -implicitDefEqProofs(disch:=omega)only[go_sem]
    exact(hM _ _).2 ⟨⟨by exact p0,by exact p2,by exact p4,by rw[hB0];rfl⟩,X,nz,c1,hbd⟩
   rw[decide_eq_false q1]at e1
   by_cases q2:op=sMerge
   ·rw[decide_eq_true q2]at e2
    rw[decide_eq_true (.inr q2),Bool.true_and]at hB0
    simp -implicitDefEqProofs(disch:=omega)only[go_sem,p0,p2,p4,p6,c1,l3,e1,e2]
    refine thenN_call (has6_then U rz hm nm ?_)
    simp -implicitDefEqProofs(disch:=omega)only[go_sem]
    exact(hM _ _).2 ⟨⟨by exact p0,by exact p2,by exact p4,by rw[hB0];rfl⟩,X,nz,c1,hbd⟩
   rw[decide_eq_false q2]at e2
   rw[decide_eq_false (by rintro(g|g)<;>contradiction),Bool.false_and]at hB0
   simp -implicitDefEqProofs(disch:=omega)only[go_sem,p0,p2,p4,p6,c1,l3,e1,e2]
   exact(hM _ _).2 ⟨⟨by exact p0,by exact p2,by exact p4,by rw[hB0];rfl⟩,X,nz,c1,hbd⟩
end Go.Proofs.YtdeejbnhlbddgaaGreatDoor
namespace Go.Plain
open Go.Eng
set_option autoImplicit false
theorem inQs_drop {m:List S} {n:Nd} {qs:List Eqn} {k:Nat} {b:Bd} (hk:k<qs.length):inQs m n (qs.drop k) b=inQs m n (qs.drop (k+1)) (failIf (((n.outs.any fun v=>decide (v.nm=qs[k].nm))||n.locs.any fun v=>decide (v.on=qs[k].nm))&&m.contains qs[k].nm) 11 qs[k].a (inE m qs[k].e b)):=by
 rw[List.drop_eq_getElem_cons hk];rfl
theorem inNs_drop {ns:List Nd} {k:Nat} {b:Bd} (hk:k<ns.length):inNs (ns.drop k) b=inNs (ns.drop (k+1)) (inQs (lateF ns[k]) ns[k] ns[k].eqs b):=by
 rw[List.drop_eq_getElem_cons hk];rfl
end Go.Plain
namespace Go.Proofs.YtdeejbnhlbddgaaGreatDoor
open Go.Eng Go.Plain
set_option autoImplicit false
set_option maxRecDepth 100000
variable {nat:∀ [Deep],Nats}
attribute [-go_sem] Go.Eng.wp_block in
set_option maxHeartbeats 16000000 in
theorem initsAll6_then (U:Usual nat) {l:List Nd} {ls:List (List AV)} {η:HN} {v:AV} (ok:okL l) (rv:RdR 6 η v ls) (rl:rdNs tt η l ls) {Q:AV→HN→Prop}
  (k:∀η',ExtB η.nx η η'→Q (.agg [.int .i64 (initsR l).1,.int .i64 (initsR l).2]) η'):∃v' η',CallN Tryz.prog nat 41 [v] η v' η'∧Q v' η':=by
 obtain⟨hl,okn⟩:=ok
 obtain⟨lsl,ls6⟩:=rdNs_len rl
 refine call_of (PT:=pl41) Tryz.func41 rfl (U 41 (by decide)) ok41 rfl ?_
 have ln:=fun η' e w=>row_len (η':=η') rv lsl (by omega) e w
 have E0:ExtB η.nx η ((η.new (.live false [.int .i64 0,.int .i64 0])).new (.live false [.int .i64 0,.int .i64 0])):=extN (extN (.refl _ _))
 have c0:((η.new (.live false [.int .i64 0,.int .i64 0])).new (.live false [.int .i64 0,.int .i64 0])).f η.nx=.live false [.int .i64 0,.int .i64 0]:=(if_neg (by show¬η.nx=η.nx+1;omega)).trans (if_pos rfl)
 have c1:BdAt ((η.new (.live false [.int .i64 0,.int .i64 0])).new (.live false [.int .i64 0,.int .i64 0])) (η.nx+1) (0,0):=if_pos rfl
 have n0:((η.new (.live false [.int .i64 0,.int .i64 0])).new (.live false [.int .i64 0,.int .i64 0])).nx=η.nx+2:=rfl
 simp -implicitDefEqProofs(disch:=omega)only[go_sem]
 generalize (η.new (.live false [.int .i64 0,.int .i64 0])).new (.live false [.int .i64 0,.int .i64 0])=ηs at *
 obtain⟨cb,hcb⟩:∃cb,cb=η.nx+1:=⟨_,rfl⟩
 rw[←hcb]at c1 ⊢
 obtain⟨I,hI⟩:∃I:Nat→FN→HN→Prop,∀m φ ζ,I m φ ζ↔∃i b,m=l.length-i∧i≤l.length∧(φ 0=v∧φ 2=.ptr η.nx 0∧φ 3=.ptr cb 0∧φ 4=.int .i64 i)∧ExtX cb ηs ζ∧BdAt ζ cb b∧b.1≤100∧inNs (l.drop i) b=initsR l:=⟨_,fun _ _ _=>Iff.rfl⟩
 refine wpN_loop I l.length ((hI _ _ _).2 ⟨0,(0,0),rfl,Nat.zero_le _,⟨rfl,rfl,rfl,rfl⟩,.refl _ _,c1,Nat.zero_le _,rfl⟩) ?_
 clear c1
 intro m φ ζ hi
 obtain⟨i,b,hm,hi,⟨p0,p2,p3,p4⟩,X,hbd,hb1,en⟩:=(hI _ _ _).1 hi
 have nX:=X.1
 have xz:ExtB η.nx η ζ:=extX_B E0 (by omega) X
 by_cases hlt:i<l.length
 ·obtain⟨hi',ri⟩:=rdNs_at rl i hlt
  obtain⟨b',off,cap,ro,row,rfl,hbv,hbn,hlen,hrow⟩:=rv.at hi'
  have hbz:ζ.f b'=_:=(xz.2 b' hbn).trans hbv
  have okd:=okn _ (List.getElem_mem hlt)
  rw[inNs_drop hlt]at en
  generalize hd:l[i]=d at *
  generalize hz:ls[i]=zd at *
  have ri':=ri
  obtain⟨y1,y2,y3,y4,rfl,-,r1,r2,r3,qs,r4,r5⟩:=ri'
  have hsn:sV d.nm=.str d.nm.1 d.nm.2:=rfl
  rw[hsn]at ri hrow
  have lq:=(rdQs_len r5).1
  have l4:=fun η' e w=>row_len (η':=η') r4 lq (by have:=okd.2.2.2.2.1;omega) e w
  obtain⟨ζ1,e1⟩:∃ζ1,ζ1=ζ.new (.live false [.str d.nm.1 d.nm.2,y1,y2,y3,y4,.int .i64 d.a]):=⟨_,rfl⟩
  have X1:ExtX cb ηs ζ1:=by rw[e1];exact X.new
  have cn:ζ1.f ζ.nx=.live false [.str d.nm.1 d.nm.2,y1,y2,y3,y4,.int .i64 d.a]:=by rw[e1];exact if_pos rfl
  have n1:ζ1.nx=ζ.nx+1:=by rw[e1];rfl
  have hbd1:BdAt ζ1 cb b:=by rw[e1];exact(if_neg (by omega)).trans hbd
  have x1:ExtB η.nx η ζ1:=extX_B E0 (by omega) X1
  simp -implicitDefEqProofs(disch:=omega)only[tailC_s,go_sem,Go.Eng.wp_block,p0,p2,p3,p4,ln,hbz,hrow,repL_s,repL_z,setsL_c]
  rw[←e1]
  clear e1
  have hwc:∀w:Vr,w.cells=[.str w.nm.1 w.nm.2,.int .i64 w.kd,.str w.on.1 w.on.2,.bool w.nt,.int .i64 w.a]:=fun _=>rfl
  have hwc:∀w:Vr,w.cells=[.str w.nm.1 w.nm.2,.int .i64 w.kd,.str w.on.1 w.on.2,.bool w.nt,.int .i64 w.a]:=fun _=>rfl
  refine thenN_call (lateS6_then U (rdN_ext ri x1) okd fun x ζv rx hml Ev=>?_)
  have nv:=Ev.1
  have cnv:=(Ev.2 _ (by omega)).trans cn
  have hbv2:BdAt ζv cb b:=(Ev.2 _ (by omega)).trans hbd1
  have xv:ExtB η.nx η ζv:=extT x1 Ev
  have XV:=X1.of Ev
  have l1:=fun η' e w=>row_len (η':=η') r2 (n:=d.outs.length) (vrs_len _) (by have:=okd.2.2.1.1;omega) e w
  have l2:=fun η' e w=>row_len (η':=η') r3 (n:=d.locs.length) (vrs_len _) (by have:=okd.2.2.2.1.1;omega) e w
  have hol:=okd.2.2.1.1
  have hll:=okd.2.2.2.1.1
  simp -implicitDefEqProofs(disch:=omega)only[go_sem,Go.Eng.wp_block]
  generalize hm:lateF d=m at *
  have hEl:=okd.2.2.2.2.1
  have hEo:=okd.2.2.2.2.2
  generalize hEQ:d.eqs=EQ at *
  obtain⟨J6,hJ6⟩:∃J:Nat→FN→HN→Prop,∀m' φ ζ6,J m' φ ζ6↔∃k6 b6,m'=EQ.length-k6∧k6≤EQ.length∧(φ 0=.slice b' off ls.length cap∧φ 2=.ptr η.nx 0∧φ 3=.ptr cb 0∧φ 4=.int .i64 i∧φ 5=.ptr ζ.nx 0∧φ 6=x∧φ 7=.int .i64 k6)∧ExtX cb ζv ζ6∧BdAt ζ6 cb b6∧b6.1≤100∧inQs m d (EQ.drop k6) b6=inQs m d EQ b:=⟨_,fun _ _ _=>Iff.rfl⟩
  refine wpN_loop J6 EQ.length ((hJ6 _ _ _).2 ⟨0,b,rfl,Nat.zero_le _,⟨by exact p0,by exact p2,by exact p3,by exact p4,rfl,rfl,rfl⟩,.refl _ _,hbv2,hb1,rfl⟩) ?_
  clear p0 p2 p3 p4
  intro m' φ ζ6 hj6
  obtain⟨k6,b6,hm6,hk6,⟨p0,p2,p3,p4,p5,p6,p7⟩,X6,hbd6,hb6,eq6⟩:=(hJ6 _ _ _).1 hj6
  have n6:=X6.1
  have cn6:=(X6.2 _ (by omega) (by omega)).trans cnv
  have x6:ExtB η.nx η ζ6:=extX_B xv (by omega) X6
  by_cases hkt:k6<EQ.length
  ·obtain⟨bq,offq,capq,roq,rowq,ey,hbq,hbqn,hcell⟩:=eqs_row r4 r5 (by omega)
   obtain⟨f1,f2,f3,f4,f5,cq1,cq2,req⟩:=hcell k6 hkt
   have okq:=hEo _ (List.getElem_mem hkt)
   rw[inQs_drop hkt]at eq6
   subst ey
   have bq6:ζ6.f bq=_:=(x6.2 _ hbqn).trans hbq
   generalize hq:EQ[k6]=q at *
   obtain⟨ζ7,e7⟩:∃ζ7,ζ7=ζ6.new (.live false [.str q.nm.1 q.nm.2,.str f1.1 f1.2,.str f2.1 f2.2,.int .i64 f3,.int .i64 f4,f5,.int .i64 q.a]):=⟨_,rfl⟩
   have E7:ExtB ζ6.nx ζ6 ζ7:=by rw[e7];exact extN (.refl _ _)
   have c7:ζ7.f ζ6.nx=.live false [.str q.nm.1 q.nm.2,.str f1.1 f1.2,.str f2.1 f2.2,.int .i64 f3,.int .i64 f4,f5,.int .i64 q.a]:=by rw[e7];exact if_pos rfl
   have n7:ζ7.nx=ζ6.nx+1:=by rw[e7];rfl
   have rx7:RowA ζ1.nx ζ7 x (strc m):=rx.keep (by omega) fun c h1 h2 _=>(E7.2 c (by omega)).trans (X6.2 c h2 (by omega))
   have hbd7:BdAt ζ7 cb b6:=(E7.2 _ (by omega)).trans hbd6
   simp -implicitDefEqProofs(disch:=omega)only[go_sem,Go.Eng.wp_block,p0,p2,p3,p4,p5,p6,p7,cn6,l4,bq6,cq2,repL_s,repL_z,setsL_c]
   rw[←e7]
   clear e7
   refine thenN_call (inits6_then U (lo:=ζ1.nx) (x:=x) (m:=m) (by omega) (cb:=cb) (η0:=η) (by omega) (by omega) q.e okq.2 ζ7 _ b6 _ (extT x6 E7) rx7 (by omega) hbd7 hb6 req fun ζ8 X8 hbd8=>?_)
   have n8:=X8.1
   have hle:=inE_le (m:=m) q.e b6 hb6
   have X68:ExtX cb ζv ζ8:=(X6.of E7).trans X8
   have x8:ExtB η.nx η ζ8:=extX_B xv (by omega) X68
   have cn8:=(X68.2 _ (by omega) (by omega)).trans cnv
   have c8:=(X8.2 _ (by omega) (by omega)).trans c7
   have rx8:RowA ζ1.nx ζ8 x (strc m):=rx.keep (by omega) fun c h1 h2 _=>X68.2 c h2 (by omega)
   generalize inE m q.e b6=b7 at *
   simp -implicitDefEqProofs(disch:=omega)only[go_sem,Go.Eng.wp_block,p0,p2,p3,p4,p5,p6,p7]
   obtain⟨J8,hJ8⟩:∃J:Nat→FN→HN→Prop,∀m' φ ζ',J m' φ ζ'↔∃j t,m'=d.outs.length-j∧j≤d.outs.length∧(φ 0=.slice b' off ls.length cap∧φ 2=.ptr η.nx 0∧φ 3=.ptr cb 0∧φ 4=.int .i64 i∧φ 5=.ptr ζ.nx 0∧φ 6=x∧φ 7=.int .i64 k6∧φ 8=.ptr ζ6.nx 0∧φ 9=.bool t∧φ 10=.int .i64 j)∧ζ'=ζ8∧(t||(d.outs.drop j).any fun v=>decide (v.nm=q.nm))=d.outs.any fun v=>decide (v.nm=q.nm):=⟨_,fun _ _ _=>Iff.rfl⟩
   refine wpN_loop J8 d.outs.length ((hJ8 _ _ _).2 ⟨0,false,rfl,Nat.zero_le _,⟨by exact p0,by exact p2,by exact p3,by exact p4,by exact p5,by exact p6,by exact p7,rfl,rfl,rfl⟩,rfl,rfl⟩) ?_
   clear p0 p2 p3 p4 p5 p6 p7
   intro m' φ ζ8x hj8
   obtain⟨j,t,hm8,hj8,⟨p0,p2,p3,p4,p5,p6,p7,p8,p9,p10⟩,rfl,et⟩:=(hJ8 _ _ _).1 hj8
   by_cases hjt:j<d.outs.length
   ·obtain⟨bo,offo,capo,roo,rowo,rfl,hbo,hbon,hcello⟩:=vrs_row r2 (by omega)
    obtain⟨co1,co2⟩:=hcello j hjt
    have bo8:ζ8x.f bo=_:=(x8.2 _ hbon).trans hbo
    have go0:rowo.getD (offo+j*5) und=.str d.outs[j].nm.1 d.outs[j].nm.2:=(cell_0 co2 (by decide)).trans rfl
    rw[List.drop_eq_getElem_cons hjt,List.any_cons,←Bool.or_assoc]at et
    have es:=strEq_S d.outs[j].nm q.nm
    cases t with
    |true =>
     simp -implicitDefEqProofs(disch:=omega)only[go_sem,Go.Eng.wp_block,p0,p2,p3,p4,p5,p6,p7,p8,p9,p10,cn8,l1]
     exact⟨d.outs.length-(j+1),by omega,(hJ8 _ _ _).2 ⟨j+1,true,rfl,hjt,⟨by exact p0,by exact p2,by exact p3,by exact p4,by exact p5,by exact p6,by exact p7,by exact p8,rfl,rfl⟩,rfl,et⟩⟩
    |false =>
     simp -implicitDefEqProofs(disch:=omega)only[go_sem,Go.Eng.wp_block,p0,p2,p3,p4,p5,p6,p7,p8,p9,p10,cn8,l1,c8,bo8,go0,es]
     exact⟨d.outs.length-(j+1),by omega,(hJ8 _ _ _).2 ⟨j+1,_,rfl,hjt,⟨by exact p0,by exact p2,by exact p3,by exact p4,by exact p5,by exact p6,by exact p7,by exact p8,rfl,rfl⟩,rfl,et⟩⟩
   ·obtain rfl:j=d.outs.length:=by omega
    have et:t=d.outs.any fun v=>decide (v.nm=q.nm):=by rw[←et,List.drop_length];exact(Bool.or_false _).symm
    rw[←et]at eq6
    simp -implicitDefEqProofs(disch:=omega)only[go_sem,Go.Eng.wp_block,p0,p2,p3,p4,p5,p6,p7,p8,p9,p10,cn8,l1]
    obtain⟨J9,hJ9⟩:∃J:Nat→FN→HN→Prop,∀m' φ ζ',J m' φ ζ'↔∃j t',m'=d.locs.length-j∧j≤d.locs.length∧(φ 0=.slice b' off ls.length cap∧φ 2=.ptr η.nx 0∧φ 3=.ptr cb 0∧φ 4=.int .i64 i∧φ 5=.ptr ζ.nx 0∧φ 6=x∧φ 7=.int .i64 k6∧φ 8=.ptr ζ6.nx 0∧φ 9=.bool t'∧φ 11=.int .i64 j)∧ζ'=ζ8x∧(t'||(d.locs.drop j).any fun v=>decide (v.on=q.nm))=(t||d.locs.any fun v=>decide (v.on=q.nm)):=⟨_,fun _ _ _=>Iff.rfl⟩
    refine wpN_loop J9 d.locs.length ((hJ9 _ _ _).2 ⟨0,t,rfl,Nat.zero_le _,⟨by exact p0,by exact p2,by exact p3,by exact p4,by exact p5,by exact p6,by exact p7,by exact p8,by exact p9,rfl⟩,rfl,rfl⟩) ?_
    clear p0 p2 p3 p4 p5 p6 p7 p8 p9 p10
    intro m' φ ζ8x hj9
    obtain⟨j,t',hm9,hj9,⟨p0,p2,p3,p4,p5,p6,p7,p8,p9,p11⟩,rfl,et'⟩:=(hJ9 _ _ _).1 hj9
    by_cases hjt:j<d.locs.length
    ·obtain⟨bo,offo,capo,roo,rowo,rfl,hbo,hbon,hcello⟩:=vrs_row r3 (by omega)
     obtain⟨co1,co2⟩:=hcello j hjt
     have bo8:ζ8x.f bo=_:=(x8.2 _ hbon).trans hbo
     have go0:rowo.getD (offo+j*5+2) und=.str d.locs[j].on.1 d.locs[j].on.2:=(cell_at co2 2 (by decide)).trans rfl
     rw[List.drop_eq_getElem_cons hjt,List.any_cons,←Bool.or_assoc]at et'
     have es:=strEq_S d.locs[j].on q.nm
     cases t' with
     |true =>
      simp -implicitDefEqProofs(disch:=omega)only[go_sem,Go.Eng.wp_block,p0,p2,p3,p4,p5,p6,p7,p8,p9,p11,cn8,l2]
      exact⟨d.locs.length-(j+1),by omega,(hJ9 _ _ _).2 ⟨j+1,true,rfl,hjt,⟨by exact p0,by exact p2,by exact p3,by exact p4,by exact p5,by exact p6,by exact p7,by exact p8,rfl,rfl⟩,rfl,et'⟩⟩
     |false =>
      simp -implicitDefEqProofs(disch:=omega)only[go_sem,Go.Eng.wp_block,p0,p2,p3,p4,p5,p6,p7,p8,p9,p11,cn8,l2,c8,bo8,go0,es]
      exact⟨d.locs.length-(j+1),by omega,(hJ9 _ _ _).2 ⟨j+1,_,rfl,hjt,⟨by exact p0,by exact p2,by exact p3,by exact p4,by exact p5,by exact p6,by exact p7,by exact p8,rfl,rfl⟩,rfl,et'⟩⟩
    ·obtain rfl:j=d.locs.length:=by omega
     have et':t'=(t||d.locs.any fun v=>decide (v.on=q.nm)):=by rw[←et',List.drop_length];exact(Bool.or_false _).symm
     rw[←et']at eq6
     cases t' with
     |false =>
      rw[Bool.false_and]at eq6
      simp -implicitDefEqProofs(disch:=omega)only[go_sem,Go.Eng.wp_block,p0,p2,p3,p4,p5,p6,p7,p8,p9,p11,cn8,l2]
      exact⟨EQ.length-(k6+1),by omega,(hJ6 _ _ _).2 ⟨k6+1,_,rfl,hkt,⟨by exact p0,by exact p2,by exact p3,by exact p4,by exact p5,by exact p6,rfl⟩,X68,hbd8,hle,eq6⟩⟩
     |true =>
      rw[Bool.true_and]at eq6
      simp -implicitDefEqProofs(disch:=omega)only[go_sem,Go.Eng.wp_block,p0,p2,p3,p4,p5,p6,p7,p8,p9,p11,cn8,l2,c8]
      refine thenN_call (has6_then U rx8 (by omega) q.nm ?_)
      cases hh:m.contains q.nm with
      |false =>
       rw[hh]at eq6
       simp -implicitDefEqProofs(disch:=omega)only[go_sem,Go.Eng.wp_block,p0,p2,p3,p4,p5,p6,p7,p8,p9,p11]
       exact⟨EQ.length-(k6+1),by omega,(hJ6 _ _ _).2 ⟨k6+1,_,rfl,hkt,⟨by exact p0,by exact p2,by exact p3,by exact p4,by exact p5,by exact p6,rfl⟩,X68,hbd8,hle,eq6⟩⟩
      |true =>
       rw[hh]at eq6
       have oqa:=okq.1
       simp -implicitDefEqProofs(disch:=omega)only[go_sem,Go.Eng.wp_block,p0,p2,p3,p4,p5,p6,p7,p8,p9,p11,c8]
       refine thenN_call (fail6_then U hbd8 (by omega) fun ζ9 g1 g2 g3=>?_)
       simp -implicitDefEqProofs(disch:=omega)only[go_sem,Go.Eng.wp_block,p0,p2,p3,p4,p5,p6,p7,p8,p9,p11]
       exact⟨EQ.length-(k6+1),by omega,(hJ6 _ _ _).2 ⟨k6+1,_,rfl,hkt,⟨by exact p0,by exact p2,by exact p3,by exact p4,by exact p5,by exact p6,rfl⟩,⟨by omega,fun c h1 h2=>(g3 c h2).trans (X68.2 c h1 h2)⟩,g2,fail_le (by decide) hle,eq6⟩⟩
  ·obtain rfl:k6=EQ.length:=by omega
   rw[List.drop_length]at eq6
   have eq6:b6=inQs m d EQ b:=eq6
   rw[←eq6]at en
   simp -implicitDefEqProofs(disch:=omega)only[go_sem,Go.Eng.wp_block,p0,p2,p3,p4,p5,p6,p7,cn6,l4]
   exact⟨l.length-(i+1),by omega,(hI _ _ _).2 ⟨i+1,_,rfl,hlt,⟨by exact p0,by exact p2,by exact p3,rfl⟩,XV.trans X6,hbd6,hb6,en⟩⟩
 ·obtain rfl:i=l.length:=by omega
  rw[List.drop_length]at en
  have en:b=initsR l:=en
  have hbd':ζ.f cb=.live false [.int .i64 b.1,.int .i64 b.2]:=hbd
  have d0:=(X.2 _ (by omega) (by omega)).trans c0
  rw[←en]at k
  simp -implicitDefEqProofs(disch:=omega)only[go_sem,Go.Eng.wp_block,p0,p2,p3,p4,ln,hbd',d0]
  exact k _ (extP xz (by omega))
end Go.Proofs.YtdeejbnhlbddgaaGreatDoor
