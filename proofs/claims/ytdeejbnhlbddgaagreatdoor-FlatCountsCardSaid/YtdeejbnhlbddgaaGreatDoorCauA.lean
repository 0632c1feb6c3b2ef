/- What is proved: what the leaves of cau do: own, and the lists of texts. what finds the names that an expression leans on does. what the document finds that an expression mentions. on whom a name leans, as the document finds it, where it is on none. Conditions: as each theorem says. -/
import Derived.Test.YtdeejbnhlbddgaaGreatDoorLate
import Derived.Test.YtdeejbnhlbddgaaGreatDoorPlainR
set_option linter.unusedVariables false
set_option linter.unusedSimpArgs false
set_option linter.unusedSectionVars false
namespace Go.Proofs.YtdeejbnhlbddgaaGreatDoor
open Go.Eng Go.Plain
set_option autoImplicit false
set_option maxRecDepth 100000
variable {nat:∀ [Deep],Nats}
end Go.Proofs.YtdeejbnhlbddgaaGreatDoor
namespace Go.Plain
open Go.Eng
set_option autoImplicit false
def kidsM (op:S) (ks:List Tr):List Tr:=if op=sPre then[] else if op=sFby then ks.take 1 else ks
def namM (op nm:S):List S:=if op=sVar∨op=sWhen∨op=sMerge then[nm] else[]
theorem mn1_take (ks:List Tr):mn1 ks=mnEs (ks.take 1):=by
 cases ks with
 |nil=>unfold mn1;rw[List.take_nil];unfold mnEs;rfl
 |cons k ks =>
  rw[show(k::ks).take 1=[k] from rfl]
  conv=>lhs;unfold mn1
  conv=>rhs;unfold mnEs
  rw[show mnEs []=[] by unfold mnEs;rfl,List.append_nil]
theorem mnE_is (op nm:S) (n a:Nat) (ks:List Tr):mnE (.mk op nm n a ks)=namM op nm++mnEs (kidsM op ks):=by
 conv=>lhs;unfold mnE
 unfold namM kidsM
 congr 1
 by_cases h:op=sPre
 ·rw[if_pos h,if_pos h];conv=>rhs;unfold mnEs
 ·rw[if_neg h,if_neg h]
  by_cases g:op=sFby
  ·rw[if_pos g,if_pos g,mn1_take]
  ·rw[if_neg g,if_neg g]
theorem mnEs_take {ks:List Tr} {i:Nat} (h:i<ks.length):mnEs (ks.take (i+1))=mnEs (ks.take i)++mnE ks[i]:=by
 have app:∀(a b:List Tr),mnEs (a++b)=mnEs a++mnEs b:=by
  intro a b
  induction a with
  |nil=>rw[List.nil_append,show mnEs []=[] by unfold mnEs;rfl,List.nil_append]
  |cons x a ih =>
   rw[List.cons_append]
   conv=>lhs;unfold mnEs
   conv=>rhs;enter [1];unfold mnEs
   rw[ih,List.append_assoc]
 rw[List.take_succ_eq_append_getElem h,app]
 congr 1
 conv=>lhs;unfold mnEs
 rw[show mnEs []=[] by unfold mnEs;rfl,List.append_nil]
end Go.Plain
namespace Go.Proofs.YtdeejbnhlbddgaaGreatDoor
open Go.Eng Go.Plain
set_option autoImplicit false
set_option maxRecDepth 100000
variable {nat:∀ [Deep],Nats}
end Go.Proofs.YtdeejbnhlbddgaaGreatDoor
namespace Go.Plain
open Go.Eng
set_option autoImplicit false
theorem RowA.down6 {lo lo':Nat} {η:HN} {x:AV} {l:List AV} (h:RowA lo η x l) (hl:lo'≤lo):RowA lo' η x l:=h.imp id fun⟨b,h1,h2⟩=>⟨b,by omega,h2⟩
theorem rowA_apps {w lo lo':Nat} {η:HN} {x y:AV} {l m:List AV} (hx:RowA lo η x l) (hy:RowA lo' η y m) (hlen:(l.length+m.length)*w≤140737488355328) (hb:lo≤η.nx) :
  ∃x' η',apSrcN 1 w x y η=.ok x' η'∧RowA lo η' x' (l++m)∧η.nx≤η'.nx∧∀b,b<η.nx→¬blkIs x b→η'.f b=η.f b:=by
 by_cases h0:m=[]
 ·subst h0
  have hy:y=.nilslice:=by
   rcases hy with ⟨h,_⟩|⟨_,_,_,_,h,_⟩
   ·exact h
   ·exact absurd rfl h
  subst hy
  refine⟨x,η,?_,by rw[List.append_nil];exact hx,Nat.le_refl _,fun _ _ _=>rfl⟩
  rw[apSrc_nil]
  rcases hx with ⟨rfl,rfl⟩|⟨c,_,_,rfl,_,_⟩
  ·rfl
  ·have hlen:(l.length+0)*w≤140737488355328:=hlen
   rw[apN_un,if_pos hlen,if_pos rfl]
 ·have hm:0<m.length:=List.length_pos_iff.2 h0
  obtain⟨c,c1,c2,rfl,-,c5⟩:=hy.resolve_left fun g=>h0 g.2
  obtain⟨η',e,o,hn,hk⟩:=app_sep (s:=1) (w:=w) (base:=lo) (m:=m.length) (k:=m) (by decide) hx.own (.inr ⟨c,0,_,false,_,rfl,c5,c2,by omega,by omega,by rw[List.drop_zero,Nat.mul_one,List.take_length]⟩) hm hlen hb
  refine⟨_,η',e,.inr ⟨η.nx,hb,by omega,by rw[List.length_append],by simp [h0],?_⟩,by omega,hk⟩
  obtain⟨_,⟨q,_⟩|⟨b,h1,h2,⟨q,g,_⟩|⟨q,h4⟩⟩⟩:=o
  ·cases q
  ·omega
  ·cases q;exact h4
theorem mnEs_le {ks:List Tr} {i:Nat} (h:i<ks.length):(mnEs (ks.take i)).length+(mnE ks[i]).length≤(mnEs ks).length:=by
 have app:∀(a b:List Tr),mnEs (a++b)=mnEs a++mnEs b:=by
  intro a b
  induction a with
  |nil=>rw[List.nil_append,show mnEs []=[] by unfold mnEs;rfl,List.nil_append]
  |cons x a ih =>
   rw[List.cons_append]
   conv=>lhs;unfold mnEs
   conv=>rhs;enter [1];unfold mnEs
   rw[ih,List.append_assoc]
 have e:=congrArg mnEs (List.take_append_drop (i+1) ks)
 rw[app,mnEs_take h]at e
 rw[←e,List.length_append,List.length_append]
 omega
end Go.Plain
namespace Go.Proofs.YtdeejbnhlbddgaaGreatDoor
open Go.Eng Go.Plain
set_option autoImplicit false
set_option maxRecDepth 100000
variable {nat:∀ [Deep],Nats}
set_option maxHeartbeats 8000000 in
theorem mentions6_then (U:Usual nat):∀(e:Tr),okE e→(mnE e).length≤4294967296→∀(η:HN) (ze:List AV) (Q:AV→HN→Prop),rdE tt η e ze→(∀y η',RowA η.nx η' y (strc (mnE e))→ExtB η.nx η η'→Q y η')→∃v' η',CallN Tryz.prog nat 103 [.agg ze] η v' η'∧Q v' η':=by
 refine Tr.ind fun op nm N a ks ih=>?_
 intro ok hbig η ze Q re k
 unfold okE at ok
 obtain⟨ha,hkl,hks⟩:=ok
 have hks:=(okEs_iff _).1 hks
 unfold rdE at re
 obtain⟨y,rfl,-,ls,ry,rks⟩:=re
 have hll:=(rdEs_len rks).1
 have l4:=fun η' e w=>row_len (η':=η') ry hll (by omega) e w
 refine call_of (PT:=pl103) Tryz.func103 rfl (U 103 (by decide)) ok103 rfl ?_
 obtain⟨η1,h1⟩:∃η1,η1=η.new (.live false [.str op.1 op.2,.str nm.1 nm.2,.int .i64 N,.int .i64 a,y]):=⟨_,rfl⟩
 have E:ExtB η.nx η η1:=by rw[h1];exact extN (.refl _ _)
 have c1:η1.f η.nx=.live false [.str op.1 op.2,.str nm.1 nm.2,.int .i64 N,.int .i64 a,y]:=by rw[h1];exact if_pos rfl
 have n1:η1.nx=η.nx+1:=by rw[h1];rfl
 have e1:strEq op.1 op.2 3 7496054=decide (op=sVar):=strEq_S op sVar
 have e2:strEq op.1 op.2 4 1852139639=decide (op=sWhen):=strEq_S op sWhen
 have e3:strEq op.1 op.2 5 435527247213=decide (op=sMerge):=strEq_S op sMerge
 have e4:strEq op.1 op.2 3 6648432=decide (op=sPre):=strEq_S op sPre
 have e5:strEq op.1 op.2 3 7955046=decide (op=sFby):=strEq_S op sFby
 rw[mnE_is]at hbig k
 rw[List.length_append]at hbig
 obtain⟨K,hK⟩:∃K:FN→HN→Prop,∀φ ζ,K φ ζ↔∃x,φ 1=.ptr η.nx 0∧φ 3=x∧RowA η1.nx ζ x (strc (namM op nm))∧ExtB η1.nx η1 ζ:=⟨_,fun _ _=>Iff.rfl⟩
 refine wp_cut (M:=K) 3 _ _ _ ?_ ?_
 rotate_left
 ·simp -implicitDefEqProofs(disch:=omega)only[go_sem,sV]
  rw[←h1]
  obtain⟨η2,e9,ra9,n9,k9⟩:=rowA_app (w:=16) (lo:=η1.nx) (η:=η1.new (.live false [.str nm.1 nm.2])) (x:=.nilslice) (l:=[]) (v:=.str nm.1 nm.2) (zb:=η1.nx) (c:=.kn 1) (.inl ⟨rfl,rfl⟩) (if_pos rfl) (Nat.lt_succ_self _) (by decide) (Nat.le_succ _)
  have n9':η2.nx=η1.nx+2:=n9
  have E9:ExtB η1.nx η1 η2:=⟨by omega,fun c hc=>(k9 c (Nat.lt_succ_of_lt hc) (fun h=>h)).trans (if_neg (by omega))⟩
  have nam:op=sVar∨op=sWhen∨op=sMerge→namM op nm=[nm]:=fun g=>if_pos g
  have ra9:RowA η1.nx η2 (.slice (η1.nx+1) 0 1 (.un 1)) (strc [nm]):=ra9
  by_cases q1:op=sVar
  ·rw[nam (.inl q1)]at hK
   rw[decide_eq_true q1]at e1
   simp -implicitDefEqProofs(disch:=omega)only[go_sem,c1,e1,e9]
   exact(hK _ _).2 ⟨_,rfl,rfl,ra9,E9⟩
  rw[decide_eq_false q1]at e1
  by_cases q2:op=sWhen
  ·rw[nam (.inr (.inl q2))]at hK
   rw[decide_eq_true q2]at e2
   simp -implicitDefEqProofs(disch:=omega)only[go_sem,c1,e1,e2,e9]
   exact(hK _ _).2 ⟨_,rfl,rfl,ra9,E9⟩
  rw[decide_eq_false q2]at e2
  by_cases q3:op=sMerge
  ·rw[nam (.inr (.inr q3))]at hK
   rw[decide_eq_true q3]at e3
   simp -implicitDefEqProofs(disch:=omega)only[go_sem,c1,e1,e2,e3,e9]
   exact(hK _ _).2 ⟨_,rfl,rfl,ra9,E9⟩
  rw[decide_eq_false q3]at e3
  have other:namM op nm=[]:=if_neg (by rintro(g|g|g)<;>contradiction)
  rw[other]at hK
  simp -implicitDefEqProofs(disch:=omega)only[go_sem,c1,e1,e2,e3]
  exact(hK _ _).2 ⟨_,rfl,rfl,.inl ⟨rfl,rfl⟩,.refl _ _⟩
 ·intro φ ζ hk
  obtain⟨x,p1,p3,rx,Ez⟩:=(hK _ _).1 hk
  clear hk hK h1 e1 e2 e3
  have nz:=Ez.1
  have cz:=(Ez.2 _ (by omega:η.nx<η1.nx)).trans c1
  simp -implicitDefEqProofs(disch:=omega)only[tailC_s,tailC_z]
  by_cases q4:op=sPre
  ·rw[decide_eq_true q4]at e4
   have en:namM op nm=[]:=if_neg (by rw[q4];decide)
   have ek:kidsM op ks=[]:=if_pos q4
   rw[en,ek,show mnEs []=[] by unfold mnEs;rfl]at k
   simp -implicitDefEqProofs(disch:=omega)only[go_sem,p1,p3,cz,e4]
   exact k _ _ (.inl ⟨rfl,rfl⟩) (extT E Ez)
  rw[decide_eq_false q4]at e4
  have eKS:kidsM op ks=if op=sFby then ks.take 1 else ks:=if_neg q4
  generalize hKS:kidsM op ks=KS at *
  have hKl:KS.length≤ks.length:=by rw[eKS];split;exact List.length_take_le' .. ;exact Nat.le_refl _
  have hKi:∀i (h:i<KS.length),KS[i]=ks[i]'(by omega):=fun i h=>by
   by_cases g:op=sFby
   ·simp only[eKS,if_pos g,List.getElem_take]
   ·simp only[eKS,if_neg g]
  simp -implicitDefEqProofs(disch:=omega)only[go_sem,p1,p3,cz,e4]
  obtain⟨I,hI⟩:∃I:Nat→FN→HN→Prop,∀m φ ζ',I m φ ζ'↔∃(i:Nat) (x':AV),m=ks.length-i∧i≤KS.length∧(φ 1=.ptr η.nx 0∧φ 3=x'∧φ 4=.int .i64 i)∧RowA η1.nx ζ' x' (strc (namM op nm++mnEs (KS.take i)))∧ExtB η1.nx η1 ζ':=⟨_,fun _ _ _=>Iff.rfl⟩
  refine wpN_loop I ks.length ((hI _ _ _).2 ⟨0,x,rfl,Nat.zero_le _,⟨by exact p1,by exact p3,rfl⟩,by rw[List.take_zero,show mnEs []=[] by unfold mnEs;rfl,List.append_nil];exact rx,Ez⟩) ?_
  clear p1 p3 rx Ez nz cz
  intro m φ ζ hi
  obtain⟨i,x,hm,hi,⟨p1,p3,p4⟩,rx,Ez⟩:=(hI _ _ _).1 hi
  have nz:=Ez.1
  have cz:=(Ez.2 _ (by omega:η.nx<η1.nx)).trans c1
  by_cases hlt:i<KS.length
  ·have hlt':i<ks.length:=by omega
   obtain⟨hi',ri⟩:=rdEs_at rks i hlt'
   obtain⟨b,off,cap,ro,row,rfl,hbv,hbn,hlen2,hrow⟩:=ry.at hi'
   have hbz:ζ.f b=_:=(Ez.2 b (by omega)).trans (E.2 b hbn |>.trans hbv)
   have rz:=rdE_b ri (extT E Ez)
   have mle:=mnEs_le hlt
   have mtk:=mnEs_take hlt
   have hKk:=hKi i hlt
   obtain⟨f1,f2,f3,f4,f5,ef⟩:=rdE_cells ri
   rw[ef]at hrow rz
   have okk:=hks _ (List.getElem_mem hlt')
   have ih:=ih _ (List.getElem_mem hlt') okk
   rw[←hKk]at ih rz
   by_cases q5:op=sFby
   ·rw[decide_eq_true q5]at e5
    rw[if_pos q5]at eKS
    have i0:i=0:=by rw[eKS,List.length_take]at hlt;omega
    have di:decide (i=1)=false:=decide_eq_false (by omega)
    simp -implicitDefEqProofs(disch:=omega)only[go_sem,p1,p3,p4,cz,l4,e5,di,hbz,hrow]
    refine thenN_call (ih (by omega) ζ _ _ rz fun y5 ζ5 r5 E5=>?_)
    have n5:=E5.1
    have E15:=extT Ez E5
    obtain⟨x6,ζ6,e6,r6,n6,k6⟩:=rowA_apps (w:=16) (rx.keep (η':=ζ5) n5 fun c _ h2 _=>E5.2 c h2) r5 (by rw[strc_len,strc_len,List.length_append];omega) (by omega)
    have xal:∀c,blkIs x c→η1.nx≤c:=fun c hc=>(rx.blk hc).1
    rw[show strc (namM op nm++mnEs (List.take i KS))++strc (mnE KS[i])=strc (namM op nm++mnEs (List.take (i+1) KS)) by rw[mtk,←List.append_assoc];exact List.map_append.symm]at r6
    simp -implicitDefEqProofs(disch:=omega)only[go_sem,p1,p3,p4,e6]
    exact⟨ks.length-(i+1),by omega,(hI _ _ _).2 ⟨i+1,_,rfl,hlt,⟨by exact p1,rfl,rfl⟩,r6,⟨by omega,fun c hc=>(k6 c (by omega) (fun g=>by have:=xal c g;omega)).trans (E15.2 c hc)⟩⟩⟩
   ·rw[decide_eq_false q5]at e5
    simp -implicitDefEqProofs(disch:=omega)only[go_sem,p1,p3,p4,cz,l4,e5,hbz,hrow]
    refine thenN_call (ih (by omega) ζ _ _ rz fun y5 ζ5 r5 E5=>?_)
    have n5:=E5.1
    have E15:=extT Ez E5
    obtain⟨x6,ζ6,e6,r6,n6,k6⟩:=rowA_apps (w:=16) (rx.keep (η':=ζ5) n5 fun c _ h2 _=>E5.2 c h2) r5 (by rw[strc_len,strc_len,List.length_append];omega) (by omega)
    have xal:∀c,blkIs x c→η1.nx≤c:=fun c hc=>(rx.blk hc).1
    rw[show strc (namM op nm++mnEs (List.take i KS))++strc (mnE KS[i])=strc (namM op nm++mnEs (List.take (i+1) KS)) by rw[mtk,←List.append_assoc];exact List.map_append.symm]at r6
    simp -implicitDefEqProofs(disch:=omega)only[go_sem,p1,p3,p4,e6]
    exact⟨ks.length-(i+1),by omega,(hI _ _ _).2 ⟨i+1,_,rfl,hlt,⟨by exact p1,rfl,rfl⟩,r6,⟨by omega,fun c hc=>(k6 c (by omega) (fun g=>by have:=xal c g;omega)).trans (E15.2 c hc)⟩⟩⟩
  ·have eik:KS.take i=KS:=List.take_of_length_le (by omega)
   rw[eik]at rx
   by_cases hl2:i<ks.length
   ·have q5:op=sFby:=by
     by_cases g:op=sFby
     ·exact g
     ·rw[if_neg g]at eKS;rw[eKS]at hlt;omega
    rw[decide_eq_true q5]at e5
    rw[if_pos q5]at eKS
    have i1:i=1:=by
     have:KS.length=min 1 ks.length:=by rw[eKS,List.length_take]
     omega
    have di:decide (i=1)=true:=decide_eq_true i1
    simp -implicitDefEqProofs(disch:=omega)only[go_sem,p1,p3,p4,cz,l4,e5,di]
    exact k _ _ (rx.down6 (by omega)) (extT E Ez)
   ·simp -implicitDefEqProofs(disch:=omega)only[go_sem,p1,p3,p4,cz,l4]
    exact k _ _ (rx.down6 (by omega)) (extT E Ez)
end Go.Proofs.YtdeejbnhlbddgaaGreatDoor
namespace Go.Proofs.YtdeejbnhlbddgaaGreatDoor
open Go.Eng Go.Plain
set_option autoImplicit false
set_option maxRecDepth 100000
variable {nat:∀ [Deep],Nats}
theorem eqOfX_then (U:Usual nat) {η:HN} {n:Nd} {z:List AV} (r:rdN tt η n z) (ok:okN n) (s:S) {Q:AV→HN→Prop} (hq:(n.eqs.any fun q=>decide (q.nm=s))=true) (k:∀η' nm ze a,rdE tt η' (eqE n s) ze→ExtB η.nx η η'→Q (.tup [.agg ([sV nm]++ze++[.int .i64 a]),.bool true]) η'):∃v' η',CallN Tryz.prog nat 75 [.agg z,.str s.1 s.2] η v' η'∧Q v' η':=by
 obtain⟨y1,y2,y3,y4,rfl,-,-,-,-,qs,r4,r5⟩:=r
 have hl:=ok.2.2.2.2.1
 have lq:=(rdQs_len r5).1
 refine call_of (PT:=pl75) Tryz.func75 rfl (U 75 (by decide)) ok75 rfl ?_
 have hsn:sV n.nm=.str n.nm.1 n.nm.2:=rfl
 have ln:=fun η' e w=>row_len (η':=η') r4 lq (by omega) e w
 have E:ExtB η.nx η ((η.new (.live false [.str n.nm.1 n.nm.2,y1,y2,y3,y4,.int .i64 n.a])).new (.live false [.str 0 0,.str 0 0,.str 0 0,.int .i64 0,.int .i64 0,.nilslice,.int .i64 0])):=extN (extN (.refl _ _))
 have c0:((η.new (.live false [.str n.nm.1 n.nm.2,y1,y2,y3,y4,.int .i64 n.a])).new (.live false [.str 0 0,.str 0 0,.str 0 0,.int .i64 0,.int .i64 0,.nilslice,.int .i64 0])).f η.nx=.live false [.str n.nm.1 n.nm.2,y1,y2,y3,y4,.int .i64 n.a]:=(if_neg (by show¬η.nx=η.nx+1;omega)).trans (if_pos rfl)
 have c1:((η.new (.live false [.str n.nm.1 n.nm.2,y1,y2,y3,y4,.int .i64 n.a])).new (.live false [.str 0 0,.str 0 0,.str 0 0,.int .i64 0,.int .i64 0,.nilslice,.int .i64 0])).f (η.nx+1)=.live false [.str 0 0,.str 0 0,.str 0 0,.int .i64 0,.int .i64 0,.nilslice,.int .i64 0]:=if_pos rfl
 simp -implicitDefEqProofs(disch:=omega)only[go_sem,hsn]
 generalize (η.new (.live false [.str n.nm.1 n.nm.2,y1,y2,y3,y4,.int .i64 n.a])).new (.live false [.str 0 0,.str 0 0,.str 0 0,.int .i64 0,.int .i64 0,.nilslice,.int .i64 0])=η1 at *
 have eE:∀q,n.eqs.find? (fun q=>decide (q.nm=s))=some q→eqE n s=q.e:=fun q h=>by unfold eqE;rw[h]
 obtain⟨q0,hq0⟩:∃q,n.eqs.find? (fun q=>decide (q.nm=s))=some q:=by
  obtain⟨q,h1,h2⟩:=List.any_eq_true.1 hq
  exact Option.isSome_iff_exists.1 (List.find?_isSome.2 ⟨q,h1,h2⟩)
 generalize hp:(fun q:Eqn=>decide (q.nm=s))=p at *
 generalize n.eqs=V at *
 obtain⟨I,hI⟩:∃I:Nat→FN→HN→Prop,∀m φ ζ,I m φ ζ↔∃i,m=V.length-i∧i≤V.length∧(φ 1=.str s.1 s.2∧φ 2=.ptr η.nx 0∧φ 4=.ptr (η.nx+1) 0∧φ 6=.int .i64 i)∧ζ=η1∧(V.drop i).find? p=V.find? p:=⟨_,fun _ _ _=>Iff.rfl⟩
 refine wpN_loop I V.length ((hI _ _ _).2 ⟨0,rfl,Nat.zero_le _,⟨rfl,rfl,rfl,rfl⟩,rfl,rfl⟩) ?_
 intro m φ ζ hi
 obtain⟨i,hm,hi,⟨p1,p2,p4,p6⟩,rfl,ed⟩:=(hI _ _ _).1 hi
 by_cases hlt:i<V.length
 ·obtain⟨hi',ri⟩:=rdQs_at r5 i hlt
  obtain⟨b,off,cap,ro,row,rfl,hbv,hbn,hlen,hrow⟩:=r4.at hi'
  have hbz:ζ.f b=_:=(E.2 _ hbn).trans hbv
  have hn1:=E.1
  rw[List.drop_eq_getElem_cons hlt]at ed
  generalize V[i]=w at *
  obtain⟨ze,eze,re⟩:=ri
  obtain⟨f1,f2,f3,f4,f5,rfl⟩:=rdE_cells re
  rw[eze]at hrow
  have hrow:(row.drop (off+i*7)).take 7=[.str w.nm.1 w.nm.2,.str f1.1 f1.2,.str f2.1 f2.2,.int .i64 f3,.int .i64 f4,f5,.int .i64 w.a]:=hrow
  have g0:row.getD (off+i*7) und=.str w.nm.1 w.nm.2:=(cell_0 hrow (by decide)).trans rfl
  have es:=strEq_S w.nm s
  have ep:p w=decide (w.nm=s):=by rw[←hp]
  by_cases e:w.nm=s
  ·rw[decide_eq_true e]at es ep
   rw[List.find?_cons_of_pos ep]at ed
   have ee:=eE w ed.symm
   simp -implicitDefEqProofs(disch:=omega)only[go_sem,p1,p2,p4,p6,c0,c1,ln,hbz,g0,es,hrow,repL_s,repL_z,setsL_c]
   refine k _ w.nm [.str f1.1 f1.2,.str f2.1 f2.2,.int .i64 f3,.int .i64 f4,f5] w.a ?_ (extP E (by omega))
   rw[ee]
   have re1:=rdE_keep (keep_b E) E.1 (fun _ h=>h) _ _ re
   refine rdE_keep (η:=η) (fun c hc hn=>?_) ?_ (fun _ h=>h) _ _ re
   ·exact(if_neg (by omega)).trans (E.2 c hn)
   ·exact hn1
  ·rw[decide_eq_false e]at es ep
   rw[List.find?_cons_of_neg (by rw[ep];decide)]at ed
   simp -implicitDefEqProofs(disch:=omega)only[go_sem,p1,p2,p4,p6,c0,c1,ln,hbz,g0,es]
   exact⟨V.length-(i+1),by omega,(hI _ _ _).2 ⟨i+1,rfl,hlt,⟨by exact p1,by exact p2,by exact p4,rfl⟩,rfl,ed⟩⟩
 ·obtain rfl:i=V.length:=by omega
  rw[List.drop_length,hq0]at ed
  cases ed
theorem eqE6_ok {n:Nd} (ok:okN n) (s:S):okE (eqE n s):=by
 unfold eqE
 split
 ·rename_i q h
  exact(ok.2.2.2.2.2 q (List.mem_of_find?_eq_some h)).2
 ·exact ok_E0
set_option maxHeartbeats 8000000 in
theorem leans6_calm (U:Usual nat) {η:HN} {n:Nd} {z:List AV} (r:rdN tt η n z) (ok:okN n) (s:S) {k0:Nat} (hu:upL n k0 s []=some (clkOf n s)) (hq:(n.eqs.any fun q=>decide (q.nm=s))=true) (hck:clkOf n s=[]) (hm:(mnE (eqE n s)).length≤1000) (hl:leansR n s=[]) {Q:AV→HN→Prop} (k:∀η',ExtB η.nx η η'→Q .nilslice η'):∃v' η',CallN Tryz.prog nat 82 [.agg z,.str s.1 s.2] η v' η'∧Q v' η':=by
 have r':=r
 obtain⟨y1,y2,y3,y4,rfl,-,r1,-⟩:=r'
 have hno:∀x∈ownN n,(mnE (eqE n s)).contains x=false:=fun x hx=>by
  unfold leansR at hl
  have:=List.filter_eq_nil_iff.1 hl x hx
  rw[hck,List.map_nil,List.append_nil]at this
  simpa using this
 refine call_of (PT:=pl82) Tryz.func82 rfl (U 82 (by decide)) ok82 rfl ?_
 obtain⟨η1,h1⟩:∃η1,η1=η.new (.live false [sV n.nm,y1,y2,y3,y4,.int .i64 n.a]):=⟨_,rfl⟩
 have E:ExtB η.nx η η1:=by rw[h1];exact extN (.refl _ _)
 have c1:η1.f η.nx=.live false [sV n.nm,y1,y2,y3,y4,.int .i64 n.a]:=by rw[h1];exact if_pos rfl
 have n1:η1.nx=η.nx+1:=by rw[h1];rfl
 simp -implicitDefEqProofs(disch:=omega)only[go_sem]
 rw[←h1]
 clear h1
 refine thenN_call (eqOfX_then U (rdN_ext r E) ok s hq fun η2 nm ze a re E2=>?_)
 have n2:=E2.1
 obtain⟨f1,f2,f3,f4,f5,rfl⟩:=rdE_cells re
 have c2:=(E2.2 _ (by omega:η.nx<η1.nx)).trans c1
 obtain⟨η3,h3⟩:∃η3,η3=η2.new (.live false [.str nm.1 nm.2,.str f1.1 f1.2,.str f2.1 f2.2,.int .i64 f3,.int .i64 f4,f5,.int .i64 a]):=⟨_,rfl⟩
 have E3:ExtB η2.nx η2 η3:=by rw[h3];exact extN (.refl _ _)
 have c3:η3.f η2.nx=.live false [.str nm.1 nm.2,.str f1.1 f1.2,.str f2.1 f2.2,.int .i64 f3,.int .i64 f4,f5,.int .i64 a]:=by rw[h3];exact if_pos rfl
 have n3:η3.nx=η2.nx+1:=by rw[h3];rfl
 simp -implicitDefEqProofs(disch:=omega)only[go_sem,sV,List.cons_append,List.nil_append,repL_s,repL_z,setsL_c,←h3,c3]
 clear h3
 have re3:=rdE_keep (keep_b E3) E3.1 (fun _ h=>h) _ _ re
 refine thenN_call (mentions6_then U _ (eqE6_ok ok s) (by omega) η3 _ _ re3 fun y4 η4 r4 E4=>?_)
 have n4:=E4.1
 have E14:=extT (extT E2 E3) E4
 have c4:=(E14.2 _ (by omega:η.nx<η1.nx)).trans c1
 have hsn:sV n.nm=.str n.nm.1 n.nm.2:=rfl
 rw[hsn]at c4 c1 r
 simp -implicitDefEqProofs(disch:=omega)only[go_sem,c4]
 refine thenN_call (clockOf_then U (rdN_ext r (extT E E14)) ok s hu (by rw[hck];exact Nat.zero_le _) fun y5 η5 k5 E5=>?_)
 rw[hck]at k5
 have n5:=E5.1
 have lc:=fun η' e w=>ckB_len (η':=η') k5 (Nat.zero_le _) e w
 have E15:=extT E14 E5
 have c5:=(E15.2 _ (by omega:η.nx<η1.nx)).trans c1
 have r5:RowA η3.nx η5 y4 (strc (mnE (eqE n s))):=r4.keep n5 fun c _ h2 _=>E5.2 c h2
 simp -implicitDefEqProofs(disch:=omega)only[go_sem]
 refine wpN_loop (fun m φ ζ=>m=0∧(φ 2=.ptr η.nx 0∧φ 7=y4∧φ 8=y5∧φ 9=.int .i64 0)∧ζ=η5) 0 ⟨rfl,⟨rfl,rfl,rfl,rfl⟩,rfl⟩ ?_
 rintro m φ ζ ⟨rfl,⟨p2,p7,p8,p9⟩,rfl⟩
 simp -implicitDefEqProofs(disch:=omega)only[go_sem,p2,p7,p8,p9,lc,List.length_nil,c5]
 refine thenN_call (vars6_then U (rdN_ext r (extT E E15)) ok fun x ζv ox Ev=>?_)
 have nv:=Ev.1
 have ox':OwnA 5 ζ.nx ζv x ((allOf n).map Vr.cells).length ((allOf n).map Vr.cells).flatten:=by rw[vrs_len];exact ox
 have rx:=own_rdR ox' (fun l hl=>by obtain⟨v,_,rfl⟩:=List.mem_map.1 hl;rfl)
 obtain⟨hal,hok⟩:=all_len ok
 have lx:=fun η' e w=>row_len (η':=η') rx (vrs_len _) (by omega) e w
 have hil:=ok.2.1.1
 have l1:=fun η' e w=>row_len (η':=η') r1 (n:=n.ins.length) (vrs_len _) (by omega) e w
 have cv:=(Ev.2 _ (by omega:η.nx<ζ.nx)).trans c5
 have rv:RowA η3.nx ζv y4 (strc (mnE (eqE n s))):=r5.keep nv fun c _ h2 _=>Ev.2 c h2
 have hge:∀i,n.ins.length≤i→∀(h:i<(allOf n).length),(allOf n)[i].nm∈ownN n:=fun i h1 h2=>by
  unfold allOf at h2 ⊢
  rw[List.getElem_append_right h1]
  exact List.mem_map.2 ⟨_,List.getElem_mem _,rfl⟩
 have hile:n.ins.length≤(allOf n).length:=by unfold allOf;rw[List.length_append];omega
 simp -implicitDefEqProofs(disch:=omega)only[go_sem,p2,p7,cv,l1]
 generalize allOf n=V at *
 obtain⟨I,hI⟩:∃I:Nat→FN→HN→Prop,∀m φ ζ',I m φ ζ'↔∃i,m=V.length-i∧n.ins.length≤i∧i≤V.length∧(φ 7=y4∧φ 10=.nilslice∧φ 11=x∧φ 12=.int .i64 i)∧ζ'=ζv:=⟨_,fun _ _ _=>Iff.rfl⟩
 refine wpN_loop I (V.length-n.ins.length) ((hI _ _ _).2 ⟨n.ins.length,rfl,Nat.le_refl _,hile,⟨by exact p7,rfl,rfl,rfl⟩,rfl⟩) ?_
 clear p2 p7 p8 p9
 intro m φ ζ9 hi
 obtain⟨i,hm',hi1,hi2,⟨p7,p10,p11,p12⟩,rfl⟩:=(hI _ _ _).1 hi
 by_cases hlt:i<V.length
 ·obtain⟨bx,offx,capx,rox,rowx,rfl,hbx,hbxn,hcell⟩:=vrs_row rx (by omega)
  obtain⟨ck1,ck2⟩:=hcell i hlt
  have gk0:rowx.getD (offx+i*5) und=.str V[i].nm.1 V[i].nm.2:=(cell_0 ck2 (by decide)).trans rfl
  have hno2:=hno _ (hge i hi1 hlt)
  generalize V[i].nm=w at *
  simp -implicitDefEqProofs(disch:=omega)only[go_sem,p7,p10,p11,p12,lx,hbx,gk0]
  refine thenN_call (has6_then U rv (by omega) w ?_)
  rw[hno2]
  simp -implicitDefEqProofs(disch:=omega)only[go_sem,p7,p10,p11,p12]
  exact⟨V.length-(i+1),by omega,(hI _ _ _).2 ⟨i+1,rfl,by omega,hlt,⟨by exact p7,by exact p10,by exact p11,rfl⟩,rfl⟩⟩
 ·simp -implicitDefEqProofs(disch:=omega)only[go_sem,p7,p10,p11,p12,lx]
  exact k _ (extT (extT E E15) Ev)
end Go.Proofs.YtdeejbnhlbddgaaGreatDoor
