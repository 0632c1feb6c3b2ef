/- What is proved: what the document's check of clocks does, and its clock of an expression, asked from outside. what reads a text up to a chapter does. Conditions: as each theorem says. -/
import Derived.Test.YtdeejbnhlbddgaaGreatDoorRefD
import Derived.Test.YtdeejbnhlbddgaaGreatDoorTwo
set_option linter.unusedVariables false
set_option linter.unusedSimpArgs false
set_option linter.unusedSectionVars false
namespace Go.Plain
open Go.Eng
set_option autoImplicit false
theorem clkQs_drop {n:Nd} {qs:List Eqn} {k:Nat} {b:Bd} (hk:k<qs.length):clkQs n (qs.drop k) b=clkQs n (qs.drop (k+1)) (failIf (missR (clkE n qs[k].e b).1 (clkOf n qs[k].nm)) 10 qs[k].a (clkE n qs[k].e b).2):=by
 rw[List.drop_eq_getElem_cons hk];rfl
theorem clkNs_drop {ns:List Nd} {k:Nat} {b:Bd} (hk:k<ns.length):clkNs (ns.drop k) b=clkNs (ns.drop (k+1)) (clkQs ns[k] ns[k].eqs b):=by
 rw[List.drop_eq_getElem_cons hk];rfl
end Go.Plain
namespace Go.Proofs.YtdeejbnhlbddgaaGreatDoor
open Go.Eng Go.Plain
set_option autoImplicit false
set_option maxRecDepth 100000
variable {nat:∀ [Deep],Nats}
attribute [-go_sem] Go.Eng.wp_block in
set_option maxHeartbeats 16000000 in
theorem clocks6_then (U:Usual nat) {l:List Nd} {ls:List (List AV)} {η:HN} {v:AV} (ok:okL l) (hmd:∀n∈l,Made n) (hup:∀n∈l,∀s,upL n ((allOf n).length+1) s []=some (clkOf n s)) (rv:RdR 6 η v ls) (rl:rdNs tt η l ls) {Q:AV→HN→Prop}
  (k:∀η',ExtB η.nx η η'→Q (.agg [.int .i64 (clocksR l).1,.int .i64 (clocksR l).2]) η'):∃v' η',CallN Tryz.prog nat 40 [v] η v' η'∧Q v' η':=by
 obtain⟨hl,okn⟩:=ok
 obtain⟨lsl,ls6⟩:=rdNs_len rl
 refine call_of (PT:=pl40) Tryz.func40 rfl (U 40 (by decide)) ok40 rfl ?_
 have ln:=fun η' e w=>row_len (η':=η') rv lsl (by omega) e w
 have E0:ExtB η.nx η ((η.new (.live false [.int .i64 0,.int .i64 0])).new (.live false [.int .i64 0,.int .i64 0])):=extN (extN (.refl _ _))
 have c0:((η.new (.live false [.int .i64 0,.int .i64 0])).new (.live false [.int .i64 0,.int .i64 0])).f η.nx=.live false [.int .i64 0,.int .i64 0]:=(if_neg (by show¬η.nx=η.nx+1;omega)).trans (if_pos rfl)
 have c1:BdAt ((η.new (.live false [.int .i64 0,.int .i64 0])).new (.live false [.int .i64 0,.int .i64 0])) (η.nx+1) (0,0):=if_pos rfl
 have n0:((η.new (.live false [.int .i64 0,.int .i64 0])).new (.live false [.int .i64 0,.int .i64 0])).nx=η.nx+2:=rfl
 simp -implicitDefEqProofs(disch:=omega)only[go_sem]
 generalize (η.new (.live false [.int .i64 0,.int .i64 0])).new (.live false [.int .i64 0,.int .i64 0])=ηs at *
 obtain⟨cb,hcb⟩:∃cb,cb=η.nx+1:=⟨_,rfl⟩
 rw[←hcb]at c1 ⊢
 obtain⟨I,hI⟩:∃I:Nat→FN→HN→Prop,∀m φ ζ,I m φ ζ↔∃i b,m=l.length-i∧i≤l.length∧(φ 0=v∧φ 2=.ptr η.nx 0∧φ 3=.ptr cb 0∧φ 4=.int .i64 i)∧ExtX cb ηs ζ∧BdAt ζ cb b∧b.1≤100∧clkNs (l.drop i) b=clocksR l:=⟨_,fun _ _ _=>Iff.rfl⟩
 refine wpN_loop I l.length ((hI _ _ _).2 ⟨0,(0,0),rfl,Nat.zero_le _,⟨rfl,rfl,rfl,rfl⟩,.refl _ _,c1,Nat.zero_le _,rfl⟩) ?_
 clear c1
 intro m φ ζ hi
 obtain⟨i,b,hm,hi,⟨p0,p2,p3,p4⟩,X,hbd,hb1,en⟩:=(hI _ _ _).1 hi
 have nX:=X.1
 have xz:ExtB η.nx η ζ:=extX_B E0 (by omega) X
 by_cases hlt:i<l.length
 ·obtain⟨hi',ri⟩:=rdNs_at rl i hlt
  obtain⟨b',off,cap,ro,row,rfl,hbv,hbn,hlen,hrow⟩:=rv.at hi'
  have hbz:ζ.f b'=_:=(xz.2 b' hbn).trans hbv
  have okd:=okn _ (List.getElem_mem hlt)
  have mdd:=hmd _ (List.getElem_mem hlt)
  have upd:=hup _ (List.getElem_mem hlt)
  rw[clkNs_drop hlt]at en
  generalize hd:l[i]=d at *
  generalize hz:ls[i]=zd at *
  have ri':=ri
  obtain⟨y1,y2,y3,y4,rfl,-,r1,r2,r3,qs,r4,r5⟩:=ri'
  have hsn:sV d.nm=.str d.nm.1 d.nm.2:=rfl
  rw[hsn]at ri hrow
  have lq:=(rdQs_len r5).1
  have l4:=fun η' e w=>row_len (η':=η') r4 lq (by have:=okd.2.2.2.2.1;omega) e w
  obtain⟨ζ1,e1⟩:∃ζ1,ζ1=ζ.new (.live false [.str d.nm.1 d.nm.2,y1,y2,y3,y4,.int .i64 d.a]):=⟨_,rfl⟩
  have X1:ExtX cb ηs ζ1:=by rw[e1];exact X.new
  have cn:ζ1.f ζ.nx=.live false [.str d.nm.1 d.nm.2,y1,y2,y3,y4,.int .i64 d.a]:=by rw[e1];exact if_pos rfl
  have n1:ζ1.nx=ζ.nx+1:=by rw[e1];rfl
  have hbd1:BdAt ζ1 cb b:=by rw[e1];exact(if_neg (by omega)).trans hbd
  have x1:ExtB η.nx η ζ1:=extX_B E0 (by omega) X1
  simp -implicitDefEqProofs(disch:=omega)only[tailC_s,go_sem,Go.Eng.wp_block,p0,p2,p3,p4,ln,hbz,hrow,repL_s,repL_z,setsL_c]
  rw[←e1]
  clear e1
  have hwc:∀w:Vr,w.cells=[.str w.nm.1 w.nm.2,.int .i64 w.kd,.str w.on.1 w.on.2,.bool w.nt,.int .i64 w.a]:=fun _=>rfl
  have hEl:=okd.2.2.2.2.1
  have hEo:=okd.2.2.2.2.2
  have hEm:=mdd.eqs
  generalize hEQ:d.eqs=EQ at *
  obtain⟨J6,hJ6⟩:∃J:Nat→FN→HN→Prop,∀m φ ζ6,J m φ ζ6↔∃k6 b6,m=EQ.length-k6∧k6≤EQ.length∧(φ 0=.slice b' off ls.length cap∧φ 2=.ptr η.nx 0∧φ 3=.ptr cb 0∧φ 4=.int .i64 i∧φ 5=.ptr ζ.nx 0∧φ 6=.int .i64 k6)∧ExtX cb ζ1 ζ6∧BdAt ζ6 cb b6∧b6.1≤100∧clkQs d (EQ.drop k6) b6=clkQs d EQ b:=⟨_,fun _ _ _=>Iff.rfl⟩
  refine wpN_loop J6 EQ.length ((hJ6 _ _ _).2 ⟨0,b,rfl,Nat.zero_le _,⟨by exact p0,by exact p2,by exact p3,by exact p4,rfl,rfl⟩,.refl _ _,hbd1,hb1,rfl⟩) ?_
  clear p0 p2 p3 p4
  intro m φ ζ6 hj6
  obtain⟨k6,b6,hm6,hk6,⟨p0,p2,p3,p4,p5,p6⟩,X6,hbd6,hb6,eq6⟩:=(hJ6 _ _ _).1 hj6
  have n6:=X6.1
  have cn6:=(X6.2 _ (by omega) (by omega)).trans cn
  have x6:ExtB η.nx η ζ6:=extX_B E0 (by omega) (X1.trans X6)
  by_cases hkt:k6<EQ.length
  ·obtain⟨bq,offq,capq,roq,rowq,ey,hbq,hbqn,hcell⟩:=eqs_row r4 r5 (by omega)
   obtain⟨f1,f2,f3,f4,f5,cq1,cq2,req⟩:=hcell k6 hkt
   have okq:=hEo _ (List.getElem_mem hkt)
   have mdq:=hEm _ (List.getElem_mem hkt)
   rw[clkQs_drop hkt]at eq6
   subst ey
   have bq6:ζ6.f bq=_:=(x6.2 _ hbqn).trans hbq
   generalize hq:EQ[k6]=q at *
   have gqe:=eq_take cq2
   have gq0:rowq.getD (offq+k6*7) und=.str q.nm.1 q.nm.2:=(cell_0 cq2 (by decide)).trans rfl
   simp -implicitDefEqProofs(disch:=omega)only[go_sem,Go.Eng.wp_block,p0,p2,p3,p4,p5,p6,cn6,l4,bq6,cq2,gq0,gqe]
   refine dE_call (clock6_then U ri okd upd (by omega) q.e okq.2 mdq ζ6 _ b6 _ x6 (by omega) hbd6 hb6 req fun y7 ζ7 X7 ck7 hbd7=>?_)
   have hle:=clkE_le (n:=d) q.e b6 hb6
   have hsm:=clkE_small (clk_len okd) q.e b6
   have hsm:(clkE d q.e b6).1.1.length≤1073741825:=hsm
   have n7:=X7.1
   have cn7:=(X7.2 _ (by omega) (by omega)).trans cn6
   have bq7:=(X7.2 _ (by have:=x6.1;omega) (by have:=E0.1;omega)).trans bq6
   have XC:=X6.trans X7
   have x7:ExtB η.nx η ζ7:=extX_B E0 (by omega) (X1.trans XC)
   have emr:missR (clkE d q.e b6).1 (clkOf d q.nm)=(!(clkE d q.e b6).1.2&&!decide ((clkE d q.e b6).1.1=clkOf d q.nm)):=rfl
   rw[emr]at eq6
   generalize (clkE d q.e b6).1.2=any at *
   generalize (clkE d q.e b6).1.1=ck at *
   generalize (clkE d q.e b6).2=b7 at *
   have gq6:rowq.getD (offq+k6*7+6) und=.int .i64 q.a:=(cell_at cq2 6 (by decide)).trans rfl
   have oqa:=okq.1
   have ul:=clk_len okd q.nm
   cases any with
   |true =>
    simp -implicitDefEqProofs(disch:=omega)only[go_sem,Go.Eng.wp_block,p0,p2,p3,p4,p5,p6,cn6,l4,bq6,cq2,gq0,gqe,cn7,bq7,Bool.not_true]
    exact⟨EQ.length-(k6+1),by omega,(hJ6 _ _ _).2 ⟨k6+1,_,rfl,hkt,⟨by exact p0,by exact p2,by exact p3,by exact p4,by exact p5,rfl⟩,XC,hbd7,hle,eq6⟩⟩
   |false =>
    simp -implicitDefEqProofs(disch:=omega)only[go_sem,Go.Eng.wp_block,p0,p2,p3,p4,p5,p6,cn6,l4,bq6,cq2,gq0,gqe,cn7,bq7,Bool.not_false]
    refine dE_call (clockOf_then U (rdN_ext ri x7) okd q.nm (upd q.nm) ul fun y8 ζ8 ck8 E8=>?_)
    have n8:=E8.1
    have cn8:=(E8.2 _ (by omega)).trans cn7
    have bq8:=(E8.2 _ (by have:=x7.1;omega)).trans bq7
    have hbd8:BdAt ζ8 cb b7:=(E8.2 _ (by omega)).trans hbd7
    have X8:=XC.of E8
    simp -implicitDefEqProofs(disch:=omega)only[go_sem,Go.Eng.wp_block,p0,p2,p3,p4,p5,p6,cn6,l4,bq6,cq2,gq0,gqe,cn7,bq7,cn8,bq8]
    refine dE_call (same6_then U (ck7.ext E8) ck8 (by omega) (by omega) ?_)
    cases hd:decide (ck=clkOf d q.nm) with
    |true =>
     rw[hd]at eq6
     simp -implicitDefEqProofs(disch:=omega)only[go_sem,Go.Eng.wp_block,p0,p2,p3,p4,p5,p6,cn6,l4,bq6,cq2,gq0,gqe,cn7,bq7,cn8,bq8,Bool.not_true]
     exact⟨EQ.length-(k6+1),by omega,(hJ6 _ _ _).2 ⟨k6+1,_,rfl,hkt,⟨by exact p0,by exact p2,by exact p3,by exact p4,by exact p5,rfl⟩,X8,hbd8,hle,eq6⟩⟩
    |false =>
     rw[hd]at eq6
     simp -implicitDefEqProofs(disch:=omega)only[go_sem,Go.Eng.wp_block,p0,p2,p3,p4,p5,p6,cn6,l4,bq6,cq2,gq0,gqe,gq6,cn7,bq7,cn8,bq8,Bool.not_false]
     refine thenN_call (fail6_then U hbd8 (by omega) fun ζ9 g1 g2 g3=>?_)
     simp -implicitDefEqProofs(disch:=omega)only[go_sem,Go.Eng.wp_block,p0,p2,p3,p4,p5,p6]
     exact⟨EQ.length-(k6+1),by omega,(hJ6 _ _ _).2 ⟨k6+1,_,rfl,hkt,⟨by exact p0,by exact p2,by exact p3,by exact p4,by exact p5,rfl⟩,⟨by have:=X8.1;omega,fun c h1 h2=>(g3 c h2).trans (X8.2 c h1 h2)⟩,g2,fail_le (by decide) hle,eq6⟩⟩
  ·obtain rfl:k6=EQ.length:=by omega
   rw[List.drop_length]at eq6
   have eq6:b6=clkQs d EQ b:=eq6
   rw[←eq6]at en
   simp -implicitDefEqProofs(disch:=omega)only[go_sem,Go.Eng.wp_block,p0,p2,p3,p4,p5,p6,cn6,l4]
   exact⟨l.length-(i+1),by omega,(hI _ _ _).2 ⟨i+1,_,rfl,hlt,⟨by exact p0,by exact p2,by exact p3,rfl⟩,X1.trans X6,hbd6,hb6,en⟩⟩
 ·obtain rfl:i=l.length:=by omega
  rw[List.drop_length]at en
  have en:b=clocksR l:=en
  have hbd':ζ.f cb=.live false [.int .i64 b.1,.int .i64 b.2]:=hbd
  have d0:=(X.2 _ (by omega) (by omega)).trans c0
  rw[←en]at k
  simp -implicitDefEqProofs(disch:=omega)only[go_sem,Go.Eng.wp_block,p0,p2,p3,p4,ln,hbd',d0]
  exact k _ (extP xz (by omega))
end Go.Proofs.YtdeejbnhlbddgaaGreatDoor
namespace Go.Plain
open Go.Eng
set_option autoImplicit false
theorem names_known {l:List Nd} (h:(namesR l).1=0):∀n∈l,∀q∈n.eqs,knownE l n q.e:=by
 intro n hn q hq
 obtain⟨i,hi,rfl⟩:=List.getElem_of_mem hn
 have:=((namesR_0 h hi).eqs q hq).1
 have h2:=known_pre (r:=l.drop i) q.e this
 rw[List.take_append_drop]at h2
 exact h2
theorem names_up {l:List Nd} (h:(namesR l).1=0) (hm:∀n∈l,Made n):∀n∈l,∀s,upL n ((allOf n).length+1) s []=some (clkOf n s):=by
 intro n hn s
 obtain⟨m1,m2,-,-⟩:=hm n hn
 obtain⟨i,hi,rfl⟩:=List.getElem_of_mem hn
 exact up_clk (namesR_0 h hi).vars (fun v hv=>(List.mem_append.1 hv).elim (fun g=>(m1 v g).1) (fun g=>(m2 v g).1)) s
end Go.Plain
namespace Go.Proofs.YtdeejbnhlbddgaaGreatDoor
open Go.Eng Go.Plain
set_option autoImplicit false
set_option maxRecDepth 100000
variable {nat:∀ [Deep],Nats}
structure Upto7 (l:List Nd):Prop where
 ok:okL l
 made:∀n∈l,Made n
 names:(namesR l).1=0
 types:(typesR l).1=0
end Go.Proofs.YtdeejbnhlbddgaaGreatDoor
