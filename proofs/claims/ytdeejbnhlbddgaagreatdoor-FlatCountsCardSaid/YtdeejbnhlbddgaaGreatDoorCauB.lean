/- What is proved: the document's check of causes finds none where no name leans on any. a text without a fault is read. what counts the calls in an expression does. how many equations a program has, the program's own count. Conditions: as each theorem says. -/
import Derived.Test.YtdeejbnhlbddgaaGreatDoorCauA
import Derived.Test.YtdeejbnhlbddgaaGreatDoorLate
import Derived.Test.YtdeejbnhlbddgaaGreatDoorRefE
import Derived.Test.YtdeejbnhlbddgaaGreatDoorPlainR
import Derived.Test.YtdeejbnhlbddgaaGreatDoorNameB
import Derived.Test.YtdeejbnhlbddgaaGreatDoorNameA
set_option linter.unusedVariables false
set_option linter.unusedSimpArgs false
set_option linter.unusedSectionVars false
namespace Go.Proofs.YtdeejbnhlbddgaaGreatDoor
open Go.Eng Go.Plain
set_option autoImplicit false
set_option maxRecDepth 100000
variable {nat:∀ [Deep],Nats}
attribute [-go_sem] Go.Eng.wp_block in
set_option maxHeartbeats 16000000 in
theorem causes6_calm (U:Usual nat) {l:List Nd} {ls:List (List AV)} {η:HN} {v:AV} (ok:okL l) (hup:∀n∈l,∀s,upL n ((allOf n).length+1) s []=some (clkOf n s)) (calm:∀n∈l,∀q∈n.eqs,clkOf n q.nm=[]∧leansR n q.nm=[]∧(mnE (eqE n q.nm)).length≤1000) (rv:RdR 6 η v ls) (rl:rdNs tt η l ls) {Q:AV→HN→Prop}
  (k:∀η',ExtB η.nx η η'→Q (.agg [.int .i64 0,.int .i64 0]) η'):∃v' η',CallN Tryz.prog nat 42 [v] η v' η'∧Q v' η':=by
 obtain⟨hl,okn⟩:=ok
 obtain⟨lsl,ls6⟩:=rdNs_len rl
 refine call_of (PT:=pl42) Tryz.func42 rfl (U 42 (by decide)) ok42 rfl ?_
 have ln:=fun η' e w=>row_len (η':=η') rv lsl (by omega) e w
 have E0:ExtB η.nx η ((η.new (.live false [.int .i64 0,.int .i64 0])).new (.live false [.int .i64 0,.int .i64 0])):=extN (extN (.refl _ _))
 have c0:((η.new (.live false [.int .i64 0,.int .i64 0])).new (.live false [.int .i64 0,.int .i64 0])).f η.nx=.live false [.int .i64 0,.int .i64 0]:=(if_neg (by show¬η.nx=η.nx+1;omega)).trans (if_pos rfl)
 have c1:((η.new (.live false [.int .i64 0,.int .i64 0])).new (.live false [.int .i64 0,.int .i64 0])).f (η.nx+1)=.live false [.int .i64 0,.int .i64 0]:=if_pos rfl
 have n0:((η.new (.live false [.int .i64 0,.int .i64 0])).new (.live false [.int .i64 0,.int .i64 0])).nx=η.nx+2:=rfl
 simp -implicitDefEqProofs(disch:=omega)only[go_sem]
 generalize (η.new (.live false [.int .i64 0,.int .i64 0])).new (.live false [.int .i64 0,.int .i64 0])=ηs at *
 obtain⟨I,hI⟩:∃I:Nat→FN→HN→Prop,∀m φ ζ,I m φ ζ↔∃i,m=l.length-i∧i≤l.length∧(φ 0=v∧φ 2=.ptr η.nx 0∧φ 3=.ptr (η.nx+1) 0∧φ 4=.int .i64 i)∧ExtB ηs.nx ηs ζ:=⟨_,fun _ _ _=>Iff.rfl⟩
 refine wpN_loop I l.length ((hI _ _ _).2 ⟨0,rfl,Nat.zero_le _,⟨rfl,rfl,rfl,rfl⟩,.refl _ _⟩) ?_
 intro m φ ζ hi
 obtain⟨i,hm,hi,⟨p0,p2,p3,p4⟩,X⟩:=(hI _ _ _).1 hi
 have nX:=X.1
 have xz:ExtB η.nx η ζ:=extT E0 X
 have cz0:=(X.2 _ (by omega:η.nx<ηs.nx)).trans c0
 have cz1:=(X.2 _ (by omega:η.nx+1<ηs.nx)).trans c1
 by_cases hlt:i<l.length
 ·obtain⟨hi',ri⟩:=rdNs_at rl i hlt
  obtain⟨b',off,cap,ro,row,rfl,hbv,hbn,hlen,hrow⟩:=rv.at hi'
  have hbz:ζ.f b'=_:=(xz.2 b' hbn).trans hbv
  have okd:=okn _ (List.getElem_mem hlt)
  have upd:=hup _ (List.getElem_mem hlt)
  have cld:=calm _ (List.getElem_mem hlt)
  generalize l[i]=d at *
  generalize ls[i]=zd at *
  have ri':=ri
  obtain⟨y1,y2,y3,y4,rfl,-,r1,r2,r3,qs,r4,r5⟩:=ri'
  have hsn:sV d.nm=.str d.nm.1 d.nm.2:=rfl
  rw[hsn]at ri hrow
  have lq:=(rdQs_len r5).1
  have hEl:=okd.2.2.2.2.1
  have l4:=fun η' e w=>row_len (η':=η') r4 lq (by have:=okd.2.2.2.2.1;omega) e w
  obtain⟨ζ1,e1⟩:∃ζ1,ζ1=ζ.new (.live false [.str d.nm.1 d.nm.2,y1,y2,y3,y4,.int .i64 d.a]):=⟨_,rfl⟩
  have X1:ExtB ζ.nx ζ ζ1:=by rw[e1];exact extN (.refl _ _)
  have cn:ζ1.f ζ.nx=.live false [.str d.nm.1 d.nm.2,y1,y2,y3,y4,.int .i64 d.a]:=by rw[e1];exact if_pos rfl
  have n1:ζ1.nx=ζ.nx+1:=by rw[e1];rfl
  have x1:=extT xz X1
  simp -implicitDefEqProofs(disch:=omega)only[tailC_s,go_sem,Go.Eng.wp_block,p0,p2,p3,p4,ln,hbz,hrow,repL_s,repL_z,setsL_c]
  rw[←e1]
  clear e1
  generalize hEQ:d.eqs=EQ at *
  obtain⟨J,hJ⟩:∃J:Nat→FN→HN→Prop,∀m' φ ζ6,J m' φ ζ6↔∃k6,m'=EQ.length-k6∧k6≤EQ.length∧(φ 0=.slice b' off ls.length cap∧φ 2=.ptr η.nx 0∧φ 3=.ptr (η.nx+1) 0∧φ 4=.int .i64 i∧φ 5=.ptr ζ.nx 0∧φ 6=.int .i64 k6)∧ExtB ζ1.nx ζ1 ζ6:=⟨_,fun _ _ _=>Iff.rfl⟩
  refine wpN_loop J EQ.length ((hJ _ _ _).2 ⟨0,rfl,Nat.zero_le _,⟨by exact p0,by exact p2,by exact p3,by exact p4,rfl,rfl⟩,.refl _ _⟩) ?_
  clear p0 p2 p3 p4
  intro m' φ ζ6 hj6
  obtain⟨k6,hm6,hk6,⟨p0,p2,p3,p4,p5,p6⟩,X6⟩:=(hJ _ _ _).1 hj6
  have n6:=X6.1
  have cn6:=(X6.2 _ (by omega:ζ.nx<ζ1.nx)).trans cn
  have x6:=extT x1 X6
  by_cases hkt:k6<EQ.length
  ·obtain⟨bq,offq,capq,roq,rowq,rfl,hbq,hbqn,hcell⟩:=eqs_row r4 r5 (by omega)
   obtain⟨f1,f2,f3,f4,f5,cq1,cq2,req⟩:=hcell k6 hkt
   obtain⟨cl1,cl2,cl3⟩:=cld _ (List.getElem_mem hkt)
   have hany:(EQ.any fun q=>decide (q.nm=EQ[k6].nm))=true:=List.any_eq_true.2 ⟨_,List.getElem_mem hkt,decide_eq_true rfl⟩
   have bq6:ζ6.f bq=_:=(x6.2 _ hbqn).trans hbq
   have g0:rowq.getD (offq+k6*7) und=.str EQ[k6].nm.1 EQ[k6].nm.2:=(cell_0 cq2 (by decide)).trans rfl
   generalize EQ[k6]=q at *
   simp -implicitDefEqProofs(disch:=omega)only[go_sem,Go.Eng.wp_block,p0,p2,p3,p4,p5,p6,cn6,l4,bq6,g0]
   refine dE_call (leans6_calm U (rdN_ext ri x6) okd q.nm (upd q.nm) (by rw[hEQ];exact hany) cl1 cl3 cl2 fun ζ7 E7=>?_)
   have n7:=E7.1
   have cn7:=(E7.2 _ (by omega:ζ.nx<ζ6.nx)).trans cn6
   have bq7:=(E7.2 _ (by omega:bq<ζ6.nx)).trans bq6
   simp -implicitDefEqProofs(disch:=omega)only[go_sem,Go.Eng.wp_block,p0,p2,p3,p4,p5,p6,cn6,l4,bq6,g0,cn7,bq7]
   refine wpN_loop (fun m φ ζ'=>m=0∧(φ 0=.slice b' off ls.length cap∧φ 2=.ptr η.nx 0∧φ 3=.ptr (η.nx+1) 0∧φ 4=.int .i64 i∧φ 5=.ptr ζ.nx 0∧φ 6=.int .i64 k6∧φ 7=.nilslice∧φ 8=.int .i64 0)∧ζ'=ζ7) 0 ⟨rfl,⟨by exact p0,by exact p2,by exact p3,by exact p4,by exact p5,by exact p6,rfl,rfl⟩,rfl⟩ ?_
   clear p0 p2 p3 p4 p5 p6
   rintro m9 φ ζ9 ⟨rfl,⟨p0,p2,p3,p4,p5,p6,p7,p8⟩,rfl⟩
   simp -implicitDefEqProofs(disch:=omega)only[go_sem,Go.Eng.wp_block,p0,p2,p3,p4,p5,p6,p7,p8,l4,g0,cn7,bq7]
   refine thenN_call (has6_then U (m:=[]) (lo:=0) (.inl ⟨rfl,rfl⟩) (Nat.zero_le _) q.nm ?_)
   rw[List.contains_nil]
   simp -implicitDefEqProofs(disch:=omega)only[go_sem,Go.Eng.wp_block,p0,p2,p3,p4,p5,p6,p7,p8]
   exact⟨EQ.length-(k6+1),by omega,(hJ _ _ _).2 ⟨k6+1,rfl,hkt,⟨by exact p0,by exact p2,by exact p3,by exact p4,by exact p5,rfl⟩,extT X6 E7⟩⟩
  ·obtain rfl:k6=EQ.length:=by omega
   simp -implicitDefEqProofs(disch:=omega)only[go_sem,Go.Eng.wp_block,p0,p2,p3,p4,p5,p6,cn6,l4]
   exact⟨l.length-(i+1),by omega,(hI _ _ _).2 ⟨i+1,rfl,hlt,⟨by exact p0,by exact p2,by exact p3,rfl⟩,extT X (extT X1 X6)⟩⟩
 ·obtain rfl:i=l.length:=by omega
  simp -implicitDefEqProofs(disch:=omega)only[go_sem,Go.Eng.wp_block,p0,p2,p3,p4,ln,cz0,cz1,repL_s,repL_z,setsL_c]
  exact k _ (extP xz (by omega))
end Go.Proofs.YtdeejbnhlbddgaaGreatDoor
namespace Go.Plain
open Go.Eng
set_option autoImplicit false
structure CalmN (l:List Nd):Prop where
 ok:okL l
 made:∀n∈l,Made n
 names:(namesR l).1=0
 types:(typesR l).1=0
 clocks:(clocksR l).1=0
 inits:(initsR l).1=0
 calm:∀n∈l,∀q∈n.eqs,clkOf n q.nm=[]∧leansR n q.nm=[]∧(mnE (eqE n q.nm)).length≤1000
theorem fc_calm {T:By} {t n:Nat} (h:fcChk t n (parseF T)=true):CalmN (parseF T).1∧(parseF T).2.1=0∧(parseF T).2.2=0∧countF (parseF T).1=cntG t n∧cntOk [] (parseF T).1=true:=by
 have okl:=parse_ok T
 have md:=parse_made T
 unfold fcChk at h
 generalize parseF T=r at *
 simp only[Bool.and_eq_true]at h
 obtain⟨⟨⟨⟨⟨⟨⟨⟨h1,h2⟩,h3⟩,h4⟩,h5⟩,h6⟩,h7⟩,h8⟩,h9⟩:=h
 refine⟨⟨okl,md,Nat.eq_of_beq_eq_true h3,Nat.eq_of_beq_eq_true h4,Nat.eq_of_beq_eq_true h5,Nat.eq_of_beq_eq_true h6,fun n hn q hq=>?_⟩,Nat.eq_of_beq_eq_true h1,Nat.eq_of_beq_eq_true h2,Nat.eq_of_beq_eq_true h9,h8⟩
 have:=List.all_eq_true.1 (List.all_eq_true.1 h7 n hn) q hq
 simp only[Bool.and_eq_true]at this
 obtain⟨⟨a,b⟩,c⟩:=this
 exact⟨List.isEmpty_iff.1 b,List.isEmpty_iff.1 a,Nat.le_of_ble_eq_true c⟩
end Go.Plain
namespace Go.Proofs.YtdeejbnhlbddgaaGreatDoor
open Go.Eng Go.Plain
set_option autoImplicit false
set_option maxRecDepth 100000
variable {nat:∀ [Deep],Nats}
set_option maxHeartbeats 4000000 in
theorem tree6_calm (U:Usual nat) {l:List Nd} {ls:List (List AV)} {η:HN} {v:AV} (C:CalmN l) (sl:SlV v) (r1:RdR 6 η v ls) (r2:rdNs tt η l ls) {Q:AV→HN→Prop} (k:∀η',ExtB η.nx η η'→Q (.agg [.int .i64 0,.int .i64 0]) η'):∃v' η',CallN Tryz.prog nat 21 [v] η v' η'∧Q v' η':=by
 obtain⟨okl,md,hN0,hT0,hC0,hI0,calm⟩:=C
 refine call_of (PT:=pl21) Tryz.func21 rfl (U 21 (by decide)) ok21 rfl ?_
 have E1:ExtB η.nx η (η.new (.live false [.int .i64 0,.int .i64 0])):=extN (.refl _ _)
 have c1:(η.new (.live false [.int .i64 0,.int .i64 0])).f η.nx=.live false [.int .i64 0,.int .i64 0]:=if_pos rfl
 have n1:(η.new (.live false [.int .i64 0,.int .i64 0])).nx=η.nx+1:=rfl
 simp -implicitDefEqProofs(disch:=omega)only[go_sem]
 generalize η.new (.live false [.int .i64 0,.int .i64 0])=η1 at *
 refine thenN_call (names6All_then U okl sl (r1.ext (base:=0) E1) (rdNs_keep (keep_b E1) E1.1 (fun _ h=>h) r2) fun η2 E2=>?_)
 rw[hN0]
 have n2:=E2.1
 have d2:=(E2.2 _ (by omega:η.nx<η1.nx)).trans c1
 have E12:=extT E1 E2
 generalize (namesR l).2=na at *
 have c3:(η2.new (.live false [.int .i64 0,.int .i64 na])).f η2.nx=.live false [.int .i64 0,.int .i64 na]:=if_pos rfl
 have E3:ExtB η.nx η (η2.new (.live false [.int .i64 0,.int .i64 na])):=extN E12
 have n3:(η2.new (.live false [.int .i64 0,.int .i64 na])).nx=η2.nx+1:=rfl
 have d3:(η2.new (.live false [.int .i64 0,.int .i64 na])).f η.nx=.live false [.int .i64 0,.int .i64 0]:=(if_neg (by omega)).trans d2
 simp -implicitDefEqProofs(disch:=omega)only[go_sem,repL_s,repL_z,setsL_c]
 generalize η2.new (.live false [.int .i64 0,.int .i64 na])=η3 at *
 try simp -implicitDefEqProofs(disch:=omega)only[go_sem,c3]
 refine thenN_call (types6_then U okl md (names_known hN0) (r1.ext (base:=0) E3) (rdNs_keep (keep_b E3) E3.1 (fun _ h=>h) r2) fun η4 E4=>?_)
 rw[hT0]
 have n4:=E4.1
 have c4:=(E4.2 _ (by omega:η2.nx<η3.nx)).trans c3
 have d4:=(E4.2 _ (by omega:η.nx<η3.nx)).trans d3
 have E34:=extT E3 E4
 generalize (typesR l).2=ta at *
 have c5:(η4.put η2.nx (.live false [.int .i64 0,.int .i64 ta])).f η2.nx=.live false [.int .i64 0,.int .i64 ta]:=if_pos rfl
 have d5:(η4.put η2.nx (.live false [.int .i64 0,.int .i64 ta])).f η.nx=.live false [.int .i64 0,.int .i64 0]:=(if_neg (by omega)).trans d4
 have E5:ExtB η.nx η (η4.put η2.nx (.live false [.int .i64 0,.int .i64 ta])):=extP E34 (by omega)
 have n5:(η4.put η2.nx (.live false [.int .i64 0,.int .i64 ta])).nx=η4.nx:=rfl
 simp -implicitDefEqProofs(disch:=omega)only[go_sem,c4,repL_s,repL_z,setsL_c]
 generalize η4.put η2.nx (.live false [.int .i64 0,.int .i64 ta])=η5 at *
 try simp -implicitDefEqProofs(disch:=omega)only[go_sem,c5]
 refine thenN_call (clocks6_then U okl md (names_up hN0 md) (r1.ext (base:=0) E5) (rdNs_keep (keep_b E5) E5.1 (fun _ h=>h) r2) fun η6 E6=>?_)
 rw[hC0]
 have n6:=E6.1
 have c6:=(E6.2 _ (by omega:η2.nx<η5.nx)).trans c5
 have d6:=(E6.2 _ (by omega:η.nx<η5.nx)).trans d5
 have E56:=extT E5 E6
 generalize (clocksR l).2=ca at *
 have c7:(η6.put η2.nx (.live false [.int .i64 0,.int .i64 ca])).f η2.nx=.live false [.int .i64 0,.int .i64 ca]:=if_pos rfl
 have d7:(η6.put η2.nx (.live false [.int .i64 0,.int .i64 ca])).f η.nx=.live false [.int .i64 0,.int .i64 0]:=(if_neg (by omega)).trans d6
 have E7:ExtB η.nx η (η6.put η2.nx (.live false [.int .i64 0,.int .i64 ca])):=extP E56 (by omega)
 have n7:(η6.put η2.nx (.live false [.int .i64 0,.int .i64 ca])).nx=η6.nx:=rfl
 simp -implicitDefEqProofs(disch:=omega)only[go_sem,c6,repL_s,repL_z,setsL_c]
 generalize η6.put η2.nx (.live false [.int .i64 0,.int .i64 ca])=η7 at *
 try simp -implicitDefEqProofs(disch:=omega)only[go_sem,c7]
 refine thenN_call (initsAll6_then U okl (r1.ext (base:=0) E7) (rdNs_keep (keep_b E7) E7.1 (fun _ h=>h) r2) fun η8 E8=>?_)
 rw[hI0]
 have n8:=E8.1
 have c8:=(E8.2 _ (by omega:η2.nx<η7.nx)).trans c7
 have d8:=(E8.2 _ (by omega:η.nx<η7.nx)).trans d7
 have E78:=extT E7 E8
 generalize (initsR l).2=ia at *
 have c9:(η8.put η2.nx (.live false [.int .i64 0,.int .i64 ia])).f η2.nx=.live false [.int .i64 0,.int .i64 ia]:=if_pos rfl
 have d9:(η8.put η2.nx (.live false [.int .i64 0,.int .i64 ia])).f η.nx=.live false [.int .i64 0,.int .i64 0]:=(if_neg (by omega)).trans d8
 have E9:ExtB η.nx η (η8.put η2.nx (.live false [.int .i64 0,.int .i64 ia])):=extP E78 (by omega)
 have n9:(η8.put η2.nx (.live false [.int .i64 0,.int .i64 ia])).nx=η8.nx:=rfl
 simp -implicitDefEqProofs(disch:=omega)only[go_sem,c8,repL_s,repL_z,setsL_c]
 generalize η8.put η2.nx (.live false [.int .i64 0,.int .i64 ia])=η9 at *
 try simp -implicitDefEqProofs(disch:=omega)only[go_sem,c9]
 refine thenN_call (causes6_calm U okl (names_up hN0 md) calm (r1.ext (base:=0) E9) (rdNs_keep (keep_b E9) E9.1 (fun _ h=>h) r2) fun η10 E10=>?_)
 have n10:=E10.1
 have c10:=(E10.2 _ (by omega:η2.nx<η9.nx)).trans c9
 have d10:=(E10.2 _ (by omega:η.nx<η9.nx)).trans d9
 have E910:=extT E9 E10
 simp -implicitDefEqProofs(disch:=omega)only[go_sem,c10,d10,repL_s,repL_z,setsL_c]
 exact k _ (extP (extP E910 (by omega)) (by omega))
set_option maxHeartbeats 4000000 in
theorem check6_calm (U:Usual nat) {η:HN} {T:By} (hT:T.length≤9223372036854775807) (C:CalmN (parseF T).1) (he:(parseF T).2.1=0) (ha:(parseF T).2.2=0) {Q:AV→HN→Prop}
  (k:∀v ls η',RdR 6 η' v ls→rdNs tt η' (parseF T).1 ls→ExtB η.nx η η'→Q (.tup [v,.agg [.int .i64 0,.int .i64 0]]) η'):∃v η',CallN Tryz.prog nat 10 [.str T.length (codesL T)] η v η'∧Q v η':=by
 refine call_of (PT:=pl10) Tryz.func10 rfl (U 10 (by decide)) ok10 rfl ?_
 have E1:ExtB η.nx η (η.new (.live false [.int .i64 0,.int .i64 0])):=extN (.refl _ _)
 have c1:(η.new (.live false [.int .i64 0,.int .i64 0])).f η.nx=.live false [.int .i64 0,.int .i64 0]:=if_pos rfl
 have n1:(η.new (.live false [.int .i64 0,.int .i64 0])).nx=η.nx+1:=rfl
 simp -implicitDefEqProofs(disch:=omega)only[go_sem]
 generalize η.new (.live false [.int .i64 0,.int .i64 0])=η1 at *
 refine thenN_call (parse_of U (cut_spec U) hT fun v η2 tr E2=>?_)
 obtain⟨ls,r1,r2⟩:=tree_rd tr
 have sl:=tree_sl tr
 obtain⟨iF,ls0,q1,q2,-⟩:=tr
 rw[he,ha]
 have n2:=E2.1
 have d2:=(E2.2 _ (by omega:η.nx<η1.nx)).trans c1
 have E12:=extT E1 E2
 have e3:ExtB η2.nx η2 (η2.new (.live false [.int .i64 0,.int .i64 0])):=extN (.refl _ _)
 have c3:(η2.new (.live false [.int .i64 0,.int .i64 0])).f η2.nx=.live false [.int .i64 0,.int .i64 0]:=if_pos rfl
 have n3:(η2.new (.live false [.int .i64 0,.int .i64 0])).nx=η2.nx+1:=rfl
 have d3:=(e3.2 _ (by omega:η.nx<η2.nx)).trans d2
 simp -implicitDefEqProofs(disch:=omega)only[go_sem,repL_s,repL_z,setsL_c,c3]
 generalize η2.new (.live false [.int .i64 0,.int .i64 0])=η3 at *
 have r1':=r1.ext (base:=0) e3
 have r2':=rdNs_keep (keep_b e3) e3.1 (fun _ h=>h) r2
 refine thenN_call (tree6_calm U C sl r1' r2' fun η4 E4=>?_)
 have n4:=E4.1
 have c4:=(E4.2 _ (by omega:η2.nx<η3.nx)).trans c3
 have d4:=(E4.2 _ (by omega:η.nx<η3.nx)).trans d3
 have E34:=extT e3 E4
 simp -implicitDefEqProofs(disch:=omega)only[go_sem,c4,d4,repL_s,repL_z,setsL_c]
 have hnx:((η4.put η2.nx (.live false [.int .i64 0,.int .i64 0])).put η.nx (.live false [.int .i64 0,.int .i64 0])).nx=η4.nx:=rfl
 have kp:∀c,c<η2.nx→c≠η.nx→((η4.put η2.nx (.live false [.int .i64 0,.int .i64 0])).put η.nx (.live false [.int .i64 0,.int .i64 0])).f c=η2.f c:=fun c h1 h2=>(if_neg h2).trans ((if_neg (by omega)).trans (E34.2 c h1))
 have KF:KeepF (rng η1.nx η2.nx) η2 ((η4.put η2.nx (.live false [.int .i64 0,.int .i64 0])).put η.nx (.live false [.int .i64 0,.int .i64 0])):=fun c hc hn=>kp c hn (by have:=hc.1;omega)
 refine k v ls0 _ (q1.keep iF KF ?_) (rdNs_keep KF ?_ (fun _ _=>trivial) q2) ⟨?_,fun c hc=>(kp c (by omega) (by omega)).trans (E12.2 c hc)⟩
 ·rw[hnx];omega
 ·rw[hnx];omega
 ·rw[hnx];omega
end Go.Proofs.YtdeejbnhlbddgaaGreatDoor
namespace Go.Plain
open Go.Eng
set_option autoImplicit false
theorem ixN_ixL (s:S):∀(l:List Nd) (i:Nat),ixN s l i=ixL (fun n:Nd=>decide (n.nm=s)) l i
 | [],_=>rfl
 |n::l,i=>by
  unfold ixN ixL
  by_cases h:n.nm=s
  ·rw[if_pos h,if_pos (decide_eq_true h)]
  ·rw[if_neg h,if_neg (by rw[decide_eq_false h];decide)]
   exact ixN_ixL s l (i+1)
theorem extX_B5 {η0 η η':HN} {cb:Nat} (x:ExtB η0.nx η0 η) (hc:η0.nx≤cb) (y:ExtX cb η η'):ExtB η0.nx η0 η':=⟨Nat.le_trans x.1 y.1,fun b hb=>(y.2 b (Nat.lt_of_lt_of_le hb x.1) (by omega)).trans (x.2 b hb)⟩
theorem extB_X5 {η η':HN} (cb:Nat) (x:ExtB η.nx η η'):ExtX cb η η':=⟨x.1,fun b hb _=>x.2 b hb⟩
def ints (k:List Nat):List AV:=k.map (AV.int .i64)
theorem ints_len (k:List Nat):(ints k).length=k.length:=List.length_map ..
theorem ints_get {k:List Nat} {i:Nat} (h:i<k.length):(ints k).getD i und=.int .i64 (k.getD i 0):=by
 unfold ints
 rw[List.getD_eq_getElem?_getD,List.getElem?_map,List.getD_eq_getElem?_getD,List.getElem?_eq_getElem h];rfl
theorem ints_set {k:List Nat} {i x:Nat}:(ints k).set i (.int .i64 x)=ints (k.set i x):=by
 unfold ints
 rw[List.map_set]
mutual
theorem callE_len (h:List Nd):∀(e:Tr) (k:List Nat),(callE h e k).length=k.length
 |.mk op nm _ _ ks,k=>by
  unfold callE
  rw[callEs_len h ks]
  split
  ·split
   ·rw[List.length_set]
   ·rfl
  ·rfl
theorem callEs_len (h:List Nd):∀(es:List Tr) (k:List Nat),(callEs h es k).length=k.length
 | [],k=>by unfold callEs;rfl
 |e::es,k=>by
  unfold callEs
  rw[callEs_len h es,callE_len h e]
end
theorem callEs_drop {h:List Nd} {ks:List Tr} {i:Nat} {k:List Nat} (hi:i<ks.length):callEs h (ks.drop i) k=callEs h (ks.drop (i+1)) (callE h ks[i] k):=by
 rw[List.drop_eq_getElem_cons hi]
 conv=>lhs;unfold callEs
end Go.Plain
namespace Go.Proofs.YtdeejbnhlbddgaaGreatDoor
open Go.Eng Go.Plain
set_option autoImplicit false
set_option maxRecDepth 100000
variable {nat:∀ [Deep],Nats}
set_option maxHeartbeats 8000000 in
theorem calls_then (U:Usual nat) {h:List Nd} {hs:List (List AV)} {η0:HN} {v:AV} (hn:h.length≤64) (rv:RdR 6 η0 v hs) (rl:rdNs tt η0 h hs) {kb:Nat} {cp:Cp} (hkb:η0.nx≤kb):∀(e:Tr),okE e→∀(η:HN) (ze:List AV) (k:List Nat) (Q:AV→HN→Prop),ExtB η0.nx η0 η→kb<η.nx→η.f kb=.live false (ints k)→k.length=h.length→rdE tt η0 e ze →
  (∀η',ExtX kb η η'→η'.f kb=.live false (ints (callE h e k))→Q (.tup []) η')→∃v' η',CallN Tryz.prog nat 22 [.agg ze,v,.slice kb 0 h.length cp] η v' η'∧Q v' η':=by
 refine Tr.ind fun op nm N a ks ih=>?_
 intro ok η ze kk Q x0 hkn hkf hkl re k
 unfold okE at ok
 obtain⟨ha,hks0,hks⟩:=ok
 have hks:=(okEs_iff _).1 hks
 unfold rdE at re
 obtain⟨y,rfl,-,ls,ry,rks⟩:=re
 have hll:=(rdEs_len rks).1
 have l4:=fun η' e w=>row_len (η':=η') ry hll (by omega) e w
 refine call_of (PT:=pl22) Tryz.func22 rfl (U 22 (by decide)) ok22 rfl ?_
 obtain⟨η1,h1⟩:∃η1,η1=η.new (.live false [.str op.1 op.2,.str nm.1 nm.2,.int .i64 N,.int .i64 a,y]):=⟨_,rfl⟩
 have E:ExtB η.nx η η1:=by rw[h1];exact extN (.refl _ _)
 have c1:η1.f η.nx=.live false [.str op.1 op.2,.str nm.1 nm.2,.int .i64 N,.int .i64 a,y]:=by rw[h1];exact if_pos rfl
 have n1:η1.nx=η.nx+1:=by rw[h1];rfl
 have x1:=extT x0 E
 have e6:strEq op.1 op.2 4 1819042147=decide (op=sCall):=strEq_S op sCall
 have hk1:=(E.2 _ hkn).trans hkf
 obtain⟨k2,hk2⟩:∃k2,k2=(if op=sCall then(match ixN nm h 0 with|some i=>kk.set i ((kk.getD i 0+1)%18446744073709551616)|none=>kk) else kk):=⟨_,rfl⟩
 have eK:callE h (.mk op nm N a ks) kk=callEs h ks k2:=by
  rw[hk2]
  conv=>lhs;unfold callE
  rfl
 rw[eK]at k
 have k2l:k2.length=kk.length:=by
  rw[hk2]
  split
  ·split
   ·rw[List.length_set]
   ·rfl
  ·rfl
 obtain⟨K,hK⟩:∃K:FN→HN→Prop,∀φ ζ,K φ ζ↔(φ 1=v∧φ 2=.slice kb 0 h.length cp∧φ 3=.ptr η.nx 0)∧ExtX kb η1 ζ∧ζ.f kb=.live false (ints k2):=⟨_,fun _ _=>Iff.rfl⟩
 refine wp_cut (M:=K) 2 _ _ _ ?_ ?_
 rotate_left
 ·simp -implicitDefEqProofs(disch:=omega)only[go_sem,sV]
  rw[←h1]
  by_cases q6:op=sCall
  ·rw[decide_eq_true q6]at e6
   rw[if_pos q6,ixN_ixL]at hk2
   simp -implicitDefEqProofs(disch:=omega)only[go_sem,c1,e6]
   refine thenN_call (node_then U hn (rv.ext (base:=0) x1) (rdNs_keep (keep_b x1) x1.1 (fun _ h=>h) rl) nm fun η2 E2=>?_)
   have n2:=E2.1
   have X2:ExtX kb η1 η2:=extB_X5 kb E2
   have hk2':=(E2.2 _ (by omega)).trans hk1
   cases ei:ixL (fun n:Nd=>decide (n.nm=nm)) h 0 with
   |none =>
    rw[ei]at hk2
    have hk2:k2=kk:=hk2
    have ee:encO none=18446744073709551615:=rfl
    have lt_m1:ltN .i64 18446744073709551615 0=true:=rfl
    simp -implicitDefEqProofs(disch:=omega)only[go_sem,ee,lt_m1]
    rw[hk2]at hK
    exact(hK _ _).2 ⟨⟨rfl,rfl,rfl⟩,X2,hk2'⟩
   |some j =>
    rw[ei]at hk2
    have hk2:k2=kk.set j ((kk.getD j 0+1)%18446744073709551616):=hk2
    obtain⟨_,hj,_⟩:=ixL_lt ei
    have hj:j<kk.length:=by omega
    have ee:encO (some j)=j:=rfl
    have gi:=ints_get hj
    have il:=ints_len kk
    simp -implicitDefEqProofs(disch:=omega)only[go_sem,ee,hk2',gi,il]
    rw[ints_set,←hk2]
    exact(hK _ _).2 ⟨⟨rfl,rfl,rfl⟩,⟨X2.1,fun c h1 h2=>(if_neg h2).trans (X2.2 c h1 h2)⟩,if_pos rfl⟩
  ·rw[decide_eq_false q6]at e6
   rw[if_neg q6]at hk2
   simp -implicitDefEqProofs(disch:=omega)only[go_sem,c1,e6]
   rw[hk2]at hK
   exact(hK _ _).2 ⟨⟨rfl,rfl,rfl⟩,.refl _ _,hk1⟩
 ·intro φ ζ hk
  obtain⟨⟨p1,p2,p3⟩,Xz,hkz⟩:=(hK _ _).1 hk
  clear hk hK e6 hk2 hkf hk1
  have nz:=Xz.1
  have cz:=(Xz.2 _ (by omega:η.nx<η1.nx) (by omega)).trans c1
  have xz:=extX_B5 x1 hkb Xz
  simp -implicitDefEqProofs(disch:=omega)only[tailC_s,tailC_z]
  simp -implicitDefEqProofs(disch:=omega)only[go_sem,p1,p2,p3,cz,l4]
  obtain⟨I,hI⟩:∃I:Nat→FN→HN→Prop,∀m φ ζ',I m φ ζ'↔∃(i:Nat) (k':List Nat),m=ks.length-i∧i≤ks.length∧(φ 1=v∧φ 2=.slice kb 0 h.length cp∧φ 25=y∧φ 26=.int .i64 ks.length∧φ 27=.int .i64 i)∧ExtX kb η1 ζ'∧ζ'.f kb=.live false (ints k')∧k'.length=h.length∧callEs h (ks.drop i) k'=callEs h ks k2:=⟨_,fun _ _ _=>Iff.rfl⟩
  refine wpN_loop I ks.length ((hI _ _ _).2 ⟨0,k2,rfl,Nat.zero_le _,⟨by exact p1,by exact p2,rfl,rfl,rfl⟩,Xz,hkz,k2l.trans hkl,rfl⟩) ?_
  clear p1 p2 p3 Xz hkz nz cz xz
  intro m φ ζ hi
  obtain⟨i,k',hm,hi,⟨p1,p2,p25,p26,p27⟩,Xz,hkz,hkl',ek⟩:=(hI _ _ _).1 hi
  have nz:=Xz.1
  have xz:=extX_B5 x1 hkb Xz
  by_cases hlt:i<ks.length
  ·obtain⟨hi',ri⟩:=rdEs_at rks i hlt
   obtain⟨b,off,cap,ro,row,rfl,hbv,hbn,hlen2,hrow⟩:=ry.at hi'
   have hbz:ζ.f b=_:=(xz.2 b hbn).trans hbv
   obtain⟨f1,f2,f3,f4,f5,ef⟩:=rdE_cells ri
   rw[ef]at hrow ri
   rw[callEs_drop hlt]at ek
   simp -implicitDefEqProofs(disch:=omega)only[go_sem,p1,p2,p25,p26,p27,hbz,hrow,repL_s,repL_z,setsL_c]
   have En:=extN (y:=.live false [.str f1.1 f1.2,.str f2.1 f2.2,.int .i64 f3,.int .i64 f4,f5]) (.refl ζ.nx ζ)
   refine thenN_call (ih _ (List.getElem_mem hlt) (hks _ (List.getElem_mem hlt)) _ _ k' _ (extT xz En) (by show kb<ζ.nx+1;omega) ((En.2 _ (by omega)).trans hkz) hkl' ri fun η3 x3 h3=>?_)
   have n3:ζ.nx+1≤η3.nx:=x3.1
   simp -implicitDefEqProofs(disch:=omega)only[go_sem,p1,p2,p25,p26,p27]
   exact⟨ks.length-(i+1),by omega,(hI _ _ _).2 ⟨i+1,_,rfl,hlt,⟨by exact p1,by exact p2,by exact p25,by exact p26,rfl⟩,⟨by omega,fun c h1 h2=>(x3.2 c (by show c<ζ.nx+1;omega) h2).trans ((En.2 c (by omega)).trans (Xz.2 c h1 h2))⟩,h3,(callE_len h _ _).trans hkl',ek⟩⟩
  ·obtain rfl:i=ks.length:=by omega
   rw[List.drop_length]at ek
   have ek:k'=callEs h ks k2:=by rw[←ek];unfold callEs;rfl
   rw[←ek]at k
   simp -implicitDefEqProofs(disch:=omega)only[go_sem,p1,p2,p25,p26,p27]
   exact k _ ⟨by omega,fun c h1 h2=>(Xz.2 c (by omega) h2).trans (E.2 c h1)⟩ hkz
end Go.Proofs.YtdeejbnhlbddgaaGreatDoor
namespace Go.Plain
open Go.Eng
set_option autoImplicit false
theorem rdR_first6 {s:Nat} {η:HN} {b off len m:Nat} {cap:Cp} {ls:List (List AV)} (h:RdR s η (.slice b off len cap) ls) (hm:m≤ls.length):RdR s η (.slice b off m cap) (ls.take m):=by
 have fl:∀(ls:List (List AV)) (m:Nat),(∀l∈ls,l.length=s)→m≤ls.length→ls.flatten.take (m*s)=(ls.take m).flatten:=by
  intro ls
  induction ls with
  |nil=>intro m _ _;simp
  |cons l ls ih =>
   intro m hl hm
   cases m with
   |zero=>simp
   |succ m =>
    have e:=hl l List.mem_cons_self
    rw[List.take_succ_cons,List.flatten_cons,List.flatten_cons,List.take_append,List.take_of_length_le (by rw[e,Nat.succ_mul];omega),←ih m (fun x hx=>hl x (List.mem_cons_of_mem _ hx)) (by simpa using hm),e]
    congr 2
    rw[Nat.succ_mul];omega
 rcases h with ⟨rfl,_⟩|⟨b',off',cap',ro,row,e,h2,h3,h4,h5,h6⟩
 ·have:m=0:=by simpa using hm
  subst this
  exact .inl ⟨by simp,.inr ⟨_,_,_,rfl⟩⟩
 ·cases e
  have e1:(ls.take m).length=m:=by rw[List.length_take];omega
  have e2:m*s≤ls.length*s:=Nat.mul_le_mul_right _ hm
  refine .inr ⟨b,off,cap,ro,row,by rw[e1],h2,h3,by rw[e1];omega,fun l hl=>h5 l (List.mem_of_mem_take hl),?_⟩
  rw[e1,←fl ls m h5 hm,←h6,List.take_take,Nat.min_eq_left e2]
theorem callQ_drop {h:List Nd} {l:List Eqn} {i:Nat} {k:List Nat} (hi:i<l.length):callQ h (l.drop i) k=callQ h (l.drop (i+1)) (callE h l[i].e k):=by
 rw[List.drop_eq_getElem_cons hi];rfl
theorem sumM_drop {k es:List Nat} {i a:Nat} (hi:i<k.length) (hj:i<es.length):sumM (k.drop i) (es.drop i) a=sumM (k.drop (i+1)) (es.drop (i+1)) (min (a+min (k.getD i 0) 1001*es.getD i 0) 1001):=by
 rw[List.drop_eq_getElem_cons hi,List.drop_eq_getElem_cons hj]
 simp only[List.getD_eq_getElem?_getD,List.getElem?_eq_getElem hi,List.getElem?_eq_getElem hj]
 rfl
theorem sumM_le:∀(k es:List Nat) (a:Nat),a≤1001→sumM k es a≤1001
 | [],_,_,h=>h
 |_::_,[],_,h=>h
 |p::k,e::es,a,_=>sumM_le k es _ (Nat.min_le_right _ _)
theorem eachL_app (h l:List Nd) (es:List Nat):∀(m:List Nd),eachL h (l++m) es=eachL (h++l) m (eachL h l es):=by
 induction l generalizing h es with
 |nil=>intro m;rw[List.nil_append,List.append_nil];rfl
 |cons n l ih =>
  intro m
  show eachL (h++[n]) (l++m) (es++[eachN h es n])=_
  rw[ih,List.append_assoc];rfl
theorem eachL_len:∀(l h:List Nd) (es:List Nat),(eachL h l es).length=es.length+l.length
 | [],_,_=>rfl
 |n::l,h,es=>by
  show(eachL (h++[n]) l (es++[eachN h es n])).length=_
  rw[eachL_len,List.length_append,List.length_cons]
  simp only[List.length_cons,List.length_nil];omega
theorem eachL_step {l:List Nd} {i:Nat} (hi:i<l.length):eachL [] (l.take (i+1)) []=eachL [] (l.take i) []++[eachN (l.take i) (eachL [] (l.take i) []) l[i]]:=by
 rw[List.take_succ_eq_append_getElem hi,eachL_app,List.nil_append];rfl
theorem eachL_le:∀(l h:List Nd) (es:List Nat),(∀x∈es,x≤1001)→∀x∈eachL h l es,x≤1001
 | [],_,_,g=>g
 |n::l,h,es,g=>eachL_le l (h++[n]) (es++[eachN h es n]) fun x hx=>(List.mem_append.1 hx).elim (g x) fun hx=>by
  rw[List.mem_singleton.1 hx]
  exact sumM_le _ _ _ (Nat.min_le_right _ _)
theorem cntOk_at:∀(l h:List Nd),cntOk h l=true→∀i (hi:i<l.length),∀x∈callQ (h++l.take i) l[i].eqs (List.replicate (h++l.take i).length 0),x≤1000000
 |n::l,h,g,0,_=>by
  unfold cntOk at g
  obtain⟨g1,g2⟩:=Bool.and_eq_true_iff.1 g
  rw[List.take_zero,List.append_nil]
  exact fun x hx=>Nat.le_of_ble_eq_true (List.all_eq_true.1 g1 x hx)
 |n::l,h,g,i+1,hi=>by
  unfold cntOk at g
  obtain⟨g1,g2⟩:=Bool.and_eq_true_iff.1 g
  have:=cntOk_at l (h++[n]) g2 i (by simpa using hi)
  rw[List.append_assoc]at this
  exact this
end Go.Plain
namespace Go.Proofs.YtdeejbnhlbddgaaGreatDoor
open Go.Eng Go.Plain
set_option autoImplicit false
set_option maxRecDepth 100000
variable {nat:∀ [Deep],Nats}
attribute [-go_sem] Go.Eng.wp_block in
set_option maxHeartbeats 16000000 in
theorem count_then (U:Usual nat) {l:List Nd} {ls:List (List AV)} {η:HN} {v:AV} (ok:okL l) (hc:cntOk [] l=true) (rv:RdR 6 η v ls) (rl:rdNs tt η l ls) {Q:AV→HN→Prop}
  (k:∀η',ExtB η.nx η η'→Q (.int .i64 (countF l)) η'):∃v' η',CallN Tryz.prog nat 11 [v] η v' η'∧Q v' η':=by
 obtain⟨hl,okn⟩:=ok
 obtain⟨lsl,ls6⟩:=rdNs_len rl
 refine call_of (PT:=pl11) Tryz.func11 rfl (U 11 (by decide)) ok11 rfl ?_
 have ln:=fun η' e w=>row_len (η':=η') rv lsl (by omega) e w
 by_cases h0:l.length=0
 ·have ec:countF l=0:=if_pos h0
  rw[ec]at k
  simp -implicitDefEqProofs(disch:=omega)only[go_sem,Go.Eng.wp_block,ln,h0]
  exact k _ (.refl _ _)
 have ec:countF l=(eachL [] l []).getD (l.length-1) 0:=if_neg h0
 rw[ec]at k
 have ez:∀n:Nat,List.replicate n (AV.int .i64 0)=ints (List.replicate n 0):=fun n=>by unfold ints;rw[List.map_replicate]
 have eset:∀(E:List Nat) (i x a:Nat) (r:List Nat),E.length=i→(ints (E++a::r)).set i (.int .i64 x)=ints (E++x::r):=fun E i x a r h=>by
  rw[ints_set,←h,List.set_append_right _ _ (Nat.le_refl _),Nat.sub_self];rfl
 simp -implicitDefEqProofs(disch:=omega)only[go_sem,Go.Eng.wp_block,ln]
 rw[if_pos ⟨by decide,by omega⟩]
 obtain⟨η1,h1⟩:∃η1,η1=η.new (.live false (List.replicate l.length (.int .i64 0))):=⟨_,rfl⟩
 have E1:ExtB η.nx η η1:=by rw[h1];exact extN (.refl _ _)
 have n1:η1.nx=η.nx+1:=by rw[h1];rfl
 have c1:η1.f η.nx=.live false (ints (eachL [] (l.take 0) []++List.replicate (l.length-0) 0)):=by rw[h1];exact(if_pos rfl).trans (by rw[ez];rfl)
 simp -implicitDefEqProofs(disch:=omega)only[go_sem,Go.Eng.wp_block,ln,←h1]
 clear h1
 obtain⟨I,hI⟩:∃I:Nat→FN→HN→Prop,∀m φ ζ,I m φ ζ↔∃i,m=l.length-i∧i≤l.length∧(φ 0=v∧φ 3=.slice η.nx 0 l.length (.kn l.length)∧φ 17=v∧φ 18=.int .i64 l.length∧φ 19=.int .i64 i)∧ExtX η.nx η1 ζ∧ζ.f η.nx=.live false (ints (eachL [] (l.take i) []++List.replicate (l.length-i) 0)):=⟨_,fun _ _ _=>Iff.rfl⟩
 refine wpN_loop I l.length ((hI _ _ _).2 ⟨0,rfl,Nat.zero_le _,⟨rfl,rfl,rfl,rfl,rfl⟩,.refl _ _,c1⟩) ?_
 clear c1
 intro m φ ζ hi
 obtain⟨i,hm,hi,⟨p0,p3,p17,p18,p19⟩,Xz,hz⟩:=(hI _ _ _).1 hi
 have nz:=Xz.1
 have Ez:ExtB η.nx η ζ:=⟨by omega,fun c hc=>(Xz.2 c (by omega) (by omega)).trans (E1.2 c hc)⟩
 have hEl:(eachL [] (l.take i) []).length=i:=by rw[eachL_len,List.length_take];simp only[List.length_nil];omega
 by_cases hlt:i<l.length
 ·obtain⟨hi',ri⟩:=rdNs_at rl i hlt
  obtain⟨b',off,cap,ro,row,rfl,hbv,hbn,hlen,hrow⟩:=rv.at hi'
  have hbz:ζ.f b'=_:=(Ez.2 b' hbn).trans hbv
  have okd:=okn _ (List.getElem_mem hlt)
  have hcs:=cntOk_at l [] hc i hlt
  rw[List.nil_append]at hcs
  have hst:=eachL_step hlt
  have rvi:=rdR_first6 (m:=i) rv (by omega)
  have rli:=rdNs_take i rl
  have hti:(l.take i).length=i:=by rw[List.length_take];omega
  rw[hti]at hcs
  generalize l[i]=d at *
  generalize ls[i]=zd at *
  have ri':=ri
  obtain⟨y1,y2,y3,y4,rfl,-,-,-,-,qs,r4,r5⟩:=ri'
  have hsn:sV d.nm=.str d.nm.1 d.nm.2:=rfl
  rw[hsn]at ri hrow
  have lq:=(rdQs_len r5).1
  have hEq:=okd.2.2.2.2.1
  have hEo:=okd.2.2.2.2.2
  have l4:=fun η' e w=>row_len (η':=η') r4 lq (by omega) e w
  have hE1:=eachL_le (l.take i) [] [] fun _ h=>by cases h
  generalize hh:l.take i=h at *
  generalize hEE:eachL [] h []=EE at *
  simp -implicitDefEqProofs(disch:=omega)only[go_sem,Go.Eng.wp_block,p0,p3,p17,p18,p19,hbz,hrow,repL_s,repL_z,setsL_c]
  rw[if_pos ⟨by decide,by omega⟩]
  obtain⟨ζ2,h2⟩:∃ζ2,ζ2=(ζ.new (.live false [.str d.nm.1 d.nm.2,y1,y2,y3,y4,.int .i64 d.a])).new (.live false (List.replicate i (.int .i64 0))):=⟨_,rfl⟩
  have E2:ExtB ζ.nx ζ ζ2:=by rw[h2];exact extN (extN (.refl _ _))
  have n2:ζ2.nx=ζ.nx+2:=by rw[h2];rfl
  have d5:ζ2.f ζ.nx=.live false [.str d.nm.1 d.nm.2,y1,y2,y3,y4,.int .i64 d.a]:=by rw[h2];exact(if_neg (by show¬ζ.nx=ζ.nx+1;omega)).trans (if_pos rfl)
  have dk:ζ2.f (ζ.nx+1)=.live false (ints (List.replicate i 0)):=by rw[h2];exact(if_pos rfl).trans (by rw[ez])
  simp -implicitDefEqProofs(disch:=omega)only[go_sem,Go.Eng.wp_block,l4]
  rw[←h2]
  clear h2
  generalize hEQ:d.eqs=EQ at *
  have sl:∀(η':HN) (e w:Nat),slN (.slice e 6 w) (.slice b' off ls.length cap) none (some (.int .i64 i)) none η'=.ok (.slice b' off i cap) η':=fun η' e w=>by
   have hnn:nneg .i64 i=true:=by simp -implicitDefEqProofs(disch:=omega)only[go_sem]
   cases cap with
   |kn c=>rw[slN_kn,slHN_h,hnn,if_pos rfl,if_pos (by omega)]
   |un es=>rw[slN_un,slHN_h,hnn,if_pos rfl,if_pos (by omega)]
  obtain⟨J,hJ⟩:∃J:Nat→FN→HN→Prop,∀m φ ζ',J m φ ζ'↔∃(j:Nat) (k':List Nat),m=EQ.length-j∧j≤EQ.length∧(φ 0=.slice b' off ls.length cap∧φ 3=.slice η.nx 0 l.length (.kn l.length)∧φ 4=.int .i64 i∧φ 5=.ptr ζ.nx 0∧φ 6=.slice (ζ.nx+1) 0 i (.kn i)∧φ 17=.slice b' off ls.length cap∧φ 18=.int .i64 l.length∧φ 19=.int .i64 i∧φ 27=y4∧φ 28=.int .i64 EQ.length∧φ 29=.int .i64 j)∧ExtX (ζ.nx+1) ζ2 ζ'∧ζ'.f (ζ.nx+1)=.live false (ints k')∧k'.length=i∧callQ h (EQ.drop j) k'=callQ h EQ (List.replicate i 0):=⟨_,fun _ _ _=>Iff.rfl⟩
  refine wpN_loop J EQ.length ((hJ _ _ _).2 ⟨0,_,rfl,Nat.zero_le _,⟨by exact p0,by exact p3,rfl,rfl,rfl,by exact p17,by exact p18,by exact p19,rfl,rfl,rfl⟩,.refl _ _,dk,List.length_replicate ..,rfl⟩) ?_
  clear p0 p3 p17 p18 p19 dk
  intro m φ ζ3 hj
  obtain⟨j,k',hm',hj,⟨p0,p3,p4,p5,p6,p17,p18,p19,p27,p28,p29⟩,X3,h3,hk',eq⟩:=(hJ _ _ _).1 hj
  have n3:=X3.1
  have E3:ExtB η.nx η ζ3:=⟨by omega,fun c hc=>(X3.2 c (by omega) (by omega)).trans ((E2.2 c (by omega)).trans (Ez.2 c hc))⟩
  have d53:=(X3.2 _ (by omega:ζ.nx<ζ2.nx) (by omega)).trans d5
  by_cases hjt:j<EQ.length
  ·obtain⟨hj',rj⟩:=rdQs_at r5 j hjt
   obtain⟨b,off2,cap2,ro2,row2,rfl,hbv2,hbn2,hlen2,hrow2⟩:=r4.at hj'
   have hbz2:ζ3.f b=_:=(E3.2 b hbn2).trans hbv2
   have okq:=(hEo _ (List.getElem_mem hjt)).2
   rw[callQ_drop hjt]at eq
   generalize EQ[j]=q at *
   obtain⟨ze,eze,re⟩:=rj
   obtain⟨g1,g2,g3,g4,g5,rfl⟩:=rdE_cells re
   rw[eze]at hrow2
   have hrow2:(row2.drop (off2+j*7)).take 7=[.str q.nm.1 q.nm.2,.str g1.1 g1.2,.str g2.1 g2.2,.int .i64 g3,.int .i64 g4,g5,.int .i64 q.a]:=hrow2
   have E4:ExtB ζ3.nx ζ3 (ζ3.new (.live false [.str q.nm.1 q.nm.2,.str g1.1 g1.2,.str g2.1 g2.2,.int .i64 g3,.int .i64 g4,g5,.int .i64 q.a])):=extN (.refl _ _)
   have c4:(ζ3.new (.live false [.str q.nm.1 q.nm.2,.str g1.1 g1.2,.str g2.1 g2.2,.int .i64 g3,.int .i64 g4,g5,.int .i64 q.a])).f ζ3.nx=.live false [.str q.nm.1 q.nm.2,.str g1.1 g1.2,.str g2.1 g2.2,.int .i64 g3,.int .i64 g4,g5,.int .i64 q.a]:=if_pos rfl
   have n4:(ζ3.new (.live false [.str q.nm.1 q.nm.2,.str g1.1 g1.2,.str g2.1 g2.2,.int .i64 g3,.int .i64 g4,g5,.int .i64 q.a])).nx=ζ3.nx+1:=rfl
   simp -implicitDefEqProofs(disch:=omega)only[go_sem,Go.Eng.wp_block,p0,p3,p4,p5,p6,p17,p18,p19,p27,p28,p29,hbz2,hrow2,repL_s,repL_z,setsL_c]
   generalize ζ3.new (.live false [.str q.nm.1 q.nm.2,.str g1.1 g1.2,.str g2.1 g2.2,.int .i64 g3,.int .i64 g4,g5,.int .i64 q.a])=ζ4 at *
   simp -implicitDefEqProofs(disch:=omega)only[go_sem,Go.Eng.wp_block,p0,p3,p4,p5,p6,p17,p18,p19,p27,p28,p29,c4,sl]
   have ct:=calls_then U (h:=h) (hs:=ls.take i) (η0:=η) (v:=.slice b' off i cap) (kb:=ζ.nx+1) (cp:=.kn i) (by omega) rvi rli (by omega) q.e okq ζ4 [.str g1.1 g1.2,.str g2.1 g2.2,.int .i64 g3,.int .i64 g4,g5] k'
   rw[hti]at ct
   refine dE_call (ct _ (extT E3 E4) (by omega) ((E4.2 _ (by omega)).trans h3) hk' re fun ζ5 X5 h5=>?_)
   have n5:=X5.1
   have c5:=(X5.2 _ (by omega:ζ3.nx<ζ4.nx) (by omega)).trans c4
   simp -implicitDefEqProofs(disch:=omega)only[go_sem,Go.Eng.wp_block,p0,p3,p4,p5,p6,p17,p18,p19,p27,p28,p29,c4,c5,sl]
   exact⟨EQ.length-(j+1),by omega,(hJ _ _ _).2 ⟨j+1,_,rfl,hjt,⟨by exact p0,by exact p3,by exact p4,by exact p5,by exact p6,by exact p17,by exact p18,by exact p19,by exact p27,by exact p28,rfl⟩,⟨by omega,fun c g1 g2=>(X5.2 c (by omega) g2).trans ((E4.2 c (by omega)).trans (X3.2 c g1 g2))⟩,h5,(callE_len h _ _).trans hk',eq⟩⟩
  ·obtain rfl:j=EQ.length:=by omega
   rw[List.drop_length]at eq
   have eq:k'=callQ h EQ (List.replicate i 0):=eq
   rw[←eq]at hcs
   have hz3:ζ3.f η.nx=.live false (ints (EE++List.replicate (l.length-i) 0)):=(X3.2 _ (by omega) (by omega)).trans ((E2.2 _ (by omega)).trans hz)
   obtain⟨q,hq⟩:∃q,l.length-i=q+1:=⟨l.length-i-1,by omega⟩
   rw[hq,List.replicate_succ]at hz3
   have hlz:∀a:Nat,(ints (EE++a::List.replicate q 0)).length=l.length:=fun a=>by rw[ints_len,List.length_append,List.length_cons,List.length_replicate];omega
   have lk:(ints k').length=i:=(ints_len _).trans hk'
   have mn:∀x:Nat,x<9223372036854775808→minN' (.int .i64 x) (.int .i64 1001)=some (.int .i64 (min x 1001)):=fun x hx=>by
    show some (AV.int .i64 (if ltN .i64 1001 x then 1001 else x))=_
    rw[ltN_i64 (by omega) hx]
    by_cases h1:1001<x
    ·rw[decide_eq_true h1,Nat.min_eq_right (by omega)];rfl
    ·rw[decide_eq_false h1,Nat.min_eq_left (by omega)];rfl
   have mq:=mn EQ.length (by omega)
   have es1:=eset EE i (min EQ.length 1001) 0 (List.replicate q 0) hEl
   have lz0:=hlz 0
   simp -implicitDefEqProofs(disch:=omega)only[go_sem,Go.Eng.wp_block,p0,p3,p4,p5,p6,p17,p18,p19,p27,p28,p29,d53,l4,mq,hz3,lz0,es1]
   have een:eachN h EE d=sumM k' EE (min EQ.length 1001):=by unfold eachN;rw[hEQ,hti,←eq]
   have h3k:∀ζ':HN,(∀c,c≠η.nx→ζ'.f c=ζ3.f c)→ζ'.f (ζ.nx+1)=.live false (ints k'):=fun ζ' g=>(g _ (by omega)).trans h3
   obtain⟨J2,hJ2⟩:∃J:Nat→FN→HN→Prop,∀m φ ζ',J m φ ζ'↔∃(p:Nat) (a:Nat),m=i-p∧p≤i∧(φ 0=.slice b' off ls.length cap∧φ 3=.slice η.nx 0 l.length (.kn l.length)∧φ 4=.int .i64 i∧φ 17=.slice b' off ls.length cap∧φ 18=.int .i64 l.length∧φ 19=.int .i64 i∧φ 48=.slice (ζ.nx+1) 0 i (.kn i)∧φ 49=.int .i64 i∧φ 50=.int .i64 p)∧ζ'.nx=ζ3.nx∧(∀c,c≠η.nx→ζ'.f c=ζ3.f c)∧ζ'.f η.nx=.live false (ints (EE++a::List.replicate q 0))∧a≤1001∧sumM (k'.drop p) (EE.drop p) a=eachN h EE d:=⟨_,fun _ _ _=>Iff.rfl⟩
   refine wpN_loop J2 i ((hJ2 _ _ _).2 ⟨0,min EQ.length 1001,rfl,Nat.zero_le _,⟨by exact p0,by exact p3,by exact p4,by exact p17,by exact p18,by exact p19,rfl,rfl,rfl⟩,rfl,fun c hc'=>if_neg hc',if_pos rfl,Nat.min_le_right _ _,een.symm⟩) ?_
   clear p0 p3 p4 p5 p6 p17 p18 p19 p27 p28 p29
   intro m φ ζ6 hj2
   obtain⟨p,a,hm2,hp,⟨p0,p3,p4,p17,p18,p19,p48,p49,p50⟩,nn,kk6,hz6,ha,es6⟩:=(hJ2 _ _ _).1 hj2
   have hk6:=h3k ζ6 kk6
   by_cases hpt:p<i
   ·have hpk:p<k'.length:=by omega
    have hpe:p<EE.length:=by omega
    have gk:=ints_get hpk
    have kb1:k'.getD p 0≤1000000:=by
     rw[List.getD_eq_getElem?_getD,List.getElem?_eq_getElem hpk]
     exact hcs _ (List.getElem_mem hpk)
    have eb1:EE.getD p 0≤1001:=by
     rw[List.getD_eq_getElem?_getD,List.getElem?_eq_getElem hpe]
     exact hE1 _ (List.getElem_mem hpe)
    have gi:(ints (EE++a::List.replicate q 0)).getD i und=.int .i64 a:=by
     rw[ints_get (by rw[List.length_append,List.length_cons];omega),List.getD_eq_getElem?_getD,List.getElem?_append_right (by omega),hEl,Nat.sub_self];rfl
    have gp:(ints (EE++a::List.replicate q 0)).getD p und=.int .i64 (EE.getD p 0):=by
     rw[ints_get (by rw[List.length_append,List.length_cons];omega),List.getD_eq_getElem?_getD,List.getElem?_append_left hpe,←List.getD_eq_getElem?_getD]
    rw[sumM_drop hpk hpe]at es6
    generalize k'.getD p 0=kp at *
    generalize EE.getD p 0=ep at *
    have m1:=mn kp (by omega)
    have hpr:min kp 1001*ep≤1001*1001:=Nat.mul_le_mul (Nat.min_le_right _ _) eb1
    have m2:=mn (a+min kp 1001*ep) (by omega)
    have es2:=eset EE i (min (a+min kp 1001*ep) 1001) a (List.replicate q 0) hEl
    have lza:=hlz a
    simp -implicitDefEqProofs(disch:=omega)only[go_sem,Go.Eng.wp_block,p0,p3,p4,p17,p18,p19,p48,p49,p50,hk6,lk,gk,hz6,lza,gi,gp,m1,m2,es2]
    exact⟨i-(p+1),by omega,(hJ2 _ _ _).2 ⟨p+1,_,rfl,hpt,⟨by exact p0,by exact p3,by exact p4,by exact p17,by exact p18,by exact p19,by exact p48,by exact p49,rfl⟩,nn,fun c hc'=>(if_neg hc').trans (kk6 c hc'),if_pos rfl,Nat.min_le_right _ _,es6⟩⟩
   ·obtain rfl:p=i:=by omega
    rw[List.drop_of_length_le (by omega)]at es6
    have es6:a=eachN h EE d:=by rw[←es6];unfold sumM;rfl
    simp -implicitDefEqProofs(disch:=omega)only[go_sem,Go.Eng.wp_block,p0,p3,p4,p17,p18,p19,p48,p49,p50]
    refine⟨l.length-(p+1),by omega,(hI _ _ _).2 ⟨p+1,rfl,hlt,⟨by exact p0,by exact p3,by exact p17,by exact p18,rfl⟩,⟨by omega,fun c g1 g2=>(kk6 c g2).trans ((X3.2 c (by omega) (by omega)).trans ((E2.2 c (by omega)).trans (Xz.2 c g1 g2)))⟩,?_⟩⟩
    rw[hst,←es6,List.append_assoc,show l.length-(p+1)=q by omega]
    exact hz6
 ·obtain rfl:i=l.length:=by omega
  rw[Nat.sub_self,List.take_length,List.replicate_zero,List.append_nil]at hz
  rw[List.take_length]at hEl
  have gl:=ints_get (k:=eachL [] l []) (i:=l.length-1) (by omega)
  have ll:=(ints_len (eachL [] l [])).trans hEl
  simp -implicitDefEqProofs(disch:=omega)only[go_sem,Go.Eng.wp_block,p0,p3,p17,p18,p19,ln,hz,gl,ll]
  exact k _ Ez
end Go.Proofs.YtdeejbnhlbddgaaGreatDoor
