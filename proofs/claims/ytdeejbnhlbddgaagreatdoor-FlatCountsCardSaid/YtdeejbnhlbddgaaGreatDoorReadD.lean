/- What is proved: what the reader of a node does. what the document's reader does. Conditions: as each theorem says. -/
import Derived.Test.YtdeejbnhlbddgaaGreatDoorReadB
import Derived.Test.YtdeejbnhlbddgaaGreatDoorReadC
set_option linter.unusedVariables false
set_option linter.unusedSimpArgs false
set_option linter.unusedSectionVars false
namespace Go.Proofs.YtdeejbnhlbddgaaGreatDoor
open Go.Eng Go.Plain
set_option autoImplicit false
set_option maxRecDepth 100000
variable {nat:∀ [Deep],Nats} {L:List Wd}
def VS (F:Nat→Prop) (η:HN) (v:AV) (l:List Vr):Prop:=InF F v∧RdR 5 η v (l.map Vr.cells)
theorem VS.keep {F G:Nat→Prop} {η η':HN} {v:AV} {l:List Vr} (h:VS F η v l) (hk:∀b,F b→b<η.nx→η'.f b=η.f b) (hn:η.nx≤η'.nx) (hG:∀b,F b→G b):VS G η' v l:=⟨fun b hb=>hG b (h.1 b hb),h.2.keep h.1 hk hn⟩
theorem VS.of {η:HN} {v:AV} {l:List Vr} {lo:Nat} (o:OwnA 5 lo η v l.length (l.map Vr.cells).flatten):VS (fun b=>lo≤b∧b<η.nx) η v l :=
 ⟨fun b hb=>own_at o hb,own_rdR (by rw[List.length_map];exact o) (vr_rows l)⟩
theorem VS.nil {F:Nat→Prop} {η:HN}:VS F η .nilslice []:=⟨fun _ h=>h.elim,.inl ⟨rfl,.inl rfl⟩⟩
theorem _root_.Go.Plain.PA.names0 {η:HN} {pb:Nat} {y:AV} {d n:Nat} {p:PS} (h:PA η pb y L d p) (hn:n<18446744073709551616):PA (η.put pb (.live false [y,.int .i64 p.k,.int .i64 p.e,.int .i64 p.b,.int .i64 d,.int .i64 p.parts,.int .i64 n])) pb y L d { p with names:=n } :=
 h.put (p':={ p with names:=n }) (ExtX.refl pb η).put (if_pos rfl) h.k h.e h.b h.q hn
theorem _root_.Go.Plain.PA.parts0 {η:HN} {pb:Nat} {y:AV} {d n:Nat} {p:PS} (h:PA η pb y L d p) (hn:n<18446744073709551616):PA (η.put pb (.live false [y,.int .i64 p.k,.int .i64 p.e,.int .i64 p.b,.int .i64 d,.int .i64 n,.int .i64 p.names])) pb y L d { p with parts:=n } :=
 h.put (p':={ p with parts:=n }) (ExtX.refl pb η).put (if_pos rfl) h.k h.e h.b hn h.n
theorem own_cells {s lo n:Nat} {η:HN} {x:AV} {l:List AV} (o:OwnA s lo η x n l):cellsV x=some [x]:=by
 obtain⟨_,⟨rfl,_⟩|⟨c,_,_,⟨rfl,_⟩|⟨rfl,_⟩⟩⟩:=o<;>rfl
def NodeSpec (nat:∀ [Deep],Nats) (L:List Wd):Prop :=
 ∀(η:HN) (pb:Nat) (y:AV) (p:PS) (Q:AV→HN→Prop),PA η pb y L 0 p→(∀z η',rdN (rng η.nx η'.nx) η' (nodeF L p).1 z→PA η' pb y L 0 (nodeF L p).2→ExtX pb η η'→Q (.agg z) η')→∃v η',CallN Tryz.prog nat 37 [.ptr pb 0] η v η'∧Q v η'
set_option maxHeartbeats 16000000 in
theorem node_spec (U:Usual nat):NodeSpec nat L:=by
 intro η pb y p Q h k
 refine call_of (PT:=pl37) Tryz.func37 rfl (U 37 (by decide)) ok37 rfl ?_
 have hn:=h.hn
 have hg:=h.g.2.1
 have yl:∀b,blkIs y b→b<η.nx:=fun b hb=>Nat.lt_of_not_le fun g=>h.fresh g hb
 have hc:∀q:PS,(wd L q).cells=[.int .i64 (wd L q).k,.str (wd L q).t.1 (wd L q).t.2,.int .i64 (wd L q).n,.int .i64 (wd L q).a]:=fun _=>rfl
 obtain⟨M,hM⟩:∃M:FN→HN→Prop,∀φ ζ,M φ ζ↔∃c3 y1 y2 y3,(φ 0=.ptr pb 0∧φ 2=.ptr η.nx 0∧φ 3=.ptr c3 0)∧(η.nx<c3∧c3<ζ.nx)∧PA ζ pb y L 0 (varsF L (headF L p).2).2∧ζ.f η.nx=.live false [.str 0 0,.nilslice,.nilslice,.nilslice,.nilslice,.int .i64 0] ∧
   ζ.f c3=.live false [.str (headF L p).1.1.1 (headF L p).1.1.2,y1,y2,y3,.nilslice,.int .i64 (wd L p).a]∧VS (fun b=>c3<b∧b<ζ.nx) ζ y1 (headF L p).1.2.1∧VS (fun b=>c3<b∧b<ζ.nx) ζ y2 (headF L p).1.2.2∧VS (fun b=>c3<b∧b<ζ.nx) ζ y3 (varsF L (headF L p).2).1∧ExtX pb η ζ:=⟨_,fun _ _=>Iff.rfl⟩
 refine wp_cut (M:=M) 14 _ _ _ ?_ ?_
 ·intro φ ζ hm
  obtain⟨c3,y1,y2,y3,⟨p0,p2,p3⟩,⟨g1,g2⟩,hq,cq,dq,V1,V2,V3,Xq⟩:=(hM _ _).1 hm
  clear hm hM
  have cy:¬blkIs y η.nx:=h.fresh (Nat.le_refl _)
  have hqn:=hq.hn
  have eN:nodeF L p=(⟨(headF L p).1.1,(headF L p).1.2.1,(headF L p).1.2.2,(varsF L (headF L p).2).1,(eqsL L L.length [] (wantP L sLet (varsF L (headF L p).2).2)).1,(wd L p).a⟩,takeP L sSemi (wantP L sTel (eqsL L L.length [] (wantP L sLet (varsF L (headF L p).2).2)).2)):=rfl
  rw[eN]at k
  clear eN
  generalize varsF L (headF L p).2=v at *
  generalize (headF L p).1=hd at *
  generalize wd L p=w0 at *
  simp -implicitDefEqProofs(disch:=omega)only[tailC_s,tailC_z]
  obtain⟨M2,hM2⟩:∃M2:FN→HN→Prop,∀φ ζ,M2 φ ζ↔∃l ls x q lo,(φ 0=.ptr pb 0∧φ 2=.ptr η.nx 0∧φ 3=.ptr c3 0)∧(c3<lo∧lo≤ζ.nx)∧PA ζ pb y L 0 q∧ζ.f η.nx=.live false [.str 0 0,.nilslice,.nilslice,.nilslice,.nilslice,.int .i64 0] ∧
    ζ.f c3=.live false [.str hd.1.1 hd.1.2,y1,y2,y3,x,.int .i64 w0.a]∧VS (fun b=>c3<b∧b<lo) ζ y1 hd.2.1∧VS (fun b=>c3<b∧b<lo) ζ y2 hd.2.2∧VS (fun b=>c3<b∧b<lo) ζ y3 v.1 ∧
    OwnA 7 lo ζ x ls.length ls.flatten∧rdQs (fun b=>lo≤b∧b<ζ.nx∧¬blkIs x b) ζ l ls∧ExtX pb η ζ∧eqsL L L.length [] (wantP L sLet v.2)=(l,q):=⟨_,fun _ _=>Iff.rfl⟩
  refine wp_cut (M:=M2) 2 _ _ _ ?_ ?_
  ·intro φ ζ hm
   clear dq hq cq V1 V2 V3 Xq hqn g2 p0 p2 p3
   obtain⟨l,ls,x,q,lo,⟨p0,p2,p3⟩,⟨g2,g3⟩,hq,cq,dq,V1,V2,V3,oq,rq,Xq,eq⟩:=(hM2 _ _).1 hm
   rw[eq]at k
   dsimp only at k
   have hqn:=hq.hn
   simp -implicitDefEqProofs(disch:=omega)only[tailC_s,tailC_z,go_sem,p0]
   refine thenN_call (want_then U hq sTel fun η4 h4 x4=>?_)
   have n4:=x4.1
   simp -implicitDefEqProofs(disch:=omega)only[go_sem,p0]
   refine thenN_call (take_then U h4 sSemi fun η5 h5 x5=>?_)
   have n5:=x5.1
   have x45:=x4.trans x5
   have c5:η5.f η.nx=_:=(x45.2 _ (by omega) (by omega)).trans cq
   have d5:η5.f c3=_:=(x45.2 _ (by omega) (by omega)).trans dq
   have X5:=Xq.trans x45
   have o5:=own_keep oq (fun b hb hc=>x45.2 b hc (by omega)) (by omega)
   have r5:=rdQs_keep (G:=fun b=>lo≤b∧b<η5.nx) (fun b g hb=>x45.2 b hb (by have:=g.1;omega)) x45.1 (fun b g=>⟨g.1,by have:=g.2.1;omega⟩) rq
   have A1:=V1.keep (G:=fun b=>c3<b∧b<lo) (fun b g hb=>x45.2 b hb (by have:=g.1;omega)) (by omega) (fun b g=>g)
   have A2:=V2.keep (G:=fun b=>c3<b∧b<lo) (fun b g hb=>x45.2 b hb (by have:=g.1;omega)) (by omega) (fun b g=>g)
   have A3:=V3.keep (G:=fun b=>c3<b∧b<lo) (fun b g hb=>x45.2 b hb (by have:=g.1;omega)) (by omega) (fun b g=>g)
   simp -implicitDefEqProofs(disch:=omega)only[go_sem,p0,p2,p3,c5,d5]
   have N:rdN (rng η.nx η5.nx) (η5.put η.nx (.live false [.str hd.1.1 hd.1.2,y1,y2,y3,x,.int .i64 w0.a])) ⟨hd.1,hd.2.1,hd.2.2,v.1,l,w0.a⟩ [.str hd.1.1 hd.1.2,y1,y2,y3,x,.int .i64 w0.a]:=by
    have kp:∀b,c3<b→(η5.put η.nx (.live false [.str hd.1.1 hd.1.2,y1,y2,y3,x,.int .i64 w0.a])).f b=η5.f b:=fun b g=>if_neg (by omega)
    have B1:=A1.keep (η':=η5.put η.nx (.live false [.str hd.1.1 hd.1.2,y1,y2,y3,x,.int .i64 w0.a])) (G:=rng η.nx η5.nx) (fun b g _=>kp b g.1) (Nat.le_refl _) (fun b g=>⟨by have:=g.1;omega,by have:=g.2;omega⟩)
    have B2:=A2.keep (η':=η5.put η.nx (.live false [.str hd.1.1 hd.1.2,y1,y2,y3,x,.int .i64 w0.a])) (G:=rng η.nx η5.nx) (fun b g _=>kp b g.1) (Nat.le_refl _) (fun b g=>⟨by have:=g.1;omega,by have:=g.2;omega⟩)
    have B3:=A3.keep (η':=η5.put η.nx (.live false [.str hd.1.1 hd.1.2,y1,y2,y3,x,.int .i64 w0.a])) (G:=rng η.nx η5.nx) (fun b g _=>kp b g.1) (Nat.le_refl _) (fun b g=>⟨by have:=g.1;omega,by have:=g.2;omega⟩)
    have o6:=own_keep (η':=η5.put η.nx (.live false [.str hd.1.1 hd.1.2,y1,y2,y3,x,.int .i64 w0.a])) o5 (fun b hb hc=>kp b (by omega)) (Nat.le_refl _)
    have r6:=rdQs_keep (η':=η5.put η.nx (.live false [.str hd.1.1 hd.1.2,y1,y2,y3,x,.int .i64 w0.a])) (G:=rng η.nx η5.nx) (fun b g hb=>kp b (by have:=g.1;omega)) (Nat.le_refl _) (fun b g=>⟨by have:=g.1;omega,g.2⟩) r5
    exact⟨y1,y2,y3,x,rfl,⟨B1.1,B2.1,B3.1,fun b hb=>⟨by have:=(own_at o5 hb).1;omega,(own_at o5 hb).2⟩⟩,B1.2,B2.2,B3.2,ls,own_rdR o6 (rdQs_len r6).2,r6⟩
   exact k _ _ N (h5.putc (by omega) cy) (X5.putN (Nat.le_refl _))
  simp -implicitDefEqProofs(disch:=omega)only[go_sem,p0]
  refine thenN_call (want_then U hq sLet fun η4 h4 x4=>?_)
  have n4:=x4.1
  have c4:η4.f η.nx=_:=(x4.2 _ (by omega) (by omega)).trans cq
  have d4:η4.f c3=_:=(x4.2 _ (by omega) (by omega)).trans dq
  have X4:=Xq.trans x4
  have g4:c3<η4.nx:=by omega
  have A1:=V1.keep (G:=fun b=>c3<b∧b<η4.nx) (fun b g hb=>x4.2 b hb (by have:=g.1;omega)) (by omega) (fun b g=>⟨g.1,by have:=g.2;omega⟩)
  have A2:=V2.keep (G:=fun b=>c3<b∧b<η4.nx) (fun b g hb=>x4.2 b hb (by have:=g.1;omega)) (by omega) (fun b g=>⟨g.1,by have:=g.2;omega⟩)
  have A3:=V3.keep (G:=fun b=>c3<b∧b<η4.nx) (fun b g hb=>x4.2 b hb (by have:=g.1;omega)) (by omega) (fun b g=>⟨g.1,by have:=g.2;omega⟩)
  simp -implicitDefEqProofs(disch:=omega)only[go_sem,p0]
  obtain⟨I,hI⟩:∃I:Nat→FN→HN→Prop,∀m φ ζ,I m φ ζ↔∃l ls x q,(φ 0=.ptr pb 0∧φ 2=.ptr η.nx 0∧φ 3=.ptr c3 0)∧η4.nx≤ζ.nx∧PA ζ pb y L 0 q∧ζ.f η.nx=.live false [.str 0 0,.nilslice,.nilslice,.nilslice,.nilslice,.int .i64 0] ∧
    ζ.f c3=.live false [.str hd.1.1 hd.1.2,y1,y2,y3,x,.int .i64 w0.a]∧(∀b,c3<b→b<η4.nx→ζ.f b=η4.f b) ∧
    OwnA 7 η4.nx ζ x ls.length ls.flatten∧rdQs (fun b=>η4.nx≤b∧b<ζ.nx∧¬blkIs x b) ζ l ls∧ExtX pb η ζ∧eqsL L m l q=eqsL L L.length [] (wantP L sLet v.2)∧(q.e=0→L.length≤q.k+m)∧ls.length+m≤L.length:=⟨_,fun _ _ _=>Iff.rfl⟩
  refine wpN_loop I L.length ((hI _ _ _).2 ⟨[],[],.nilslice,_,⟨p0,p2,p3⟩,Nat.le_refl _,h4,c4,d4,fun _ _ _=>rfl,.nil,rfl,X4,rfl,fun _=>Nat.le_add_left _ _,by simp⟩) ?_
  intro m φ ζ hi
  clear dq hq cq V1 V2 V3 Xq hqn g2 p0 p2 p3
  obtain⟨l,ls,x,q,⟨p0,p2,p3⟩,g2,hq,cq,dq,kq,oq,rq,Xq,wq,fq,bq⟩:=(hI _ _ _).1 hi
  clear hi
  have hqb:=hq.hb
  have hqn:=hq.hn
  have hq7:=hq.e
  have hqk:=hq.k
  have hk5:=(hq.g.2.2.2 _ (wd_mem hqk)).1
  have V:∀ζ':HN,(∀b,c3<b→b<η4.nx→ζ'.f b=η4.f b)→η4.nx≤ζ'.nx→VS (fun b=>c3<b∧b<η4.nx) ζ' y1 hd.2.1∧VS (fun b=>c3<b∧b<η4.nx) ζ' y2 hd.2.2∧VS (fun b=>c3<b∧b<η4.nx) ζ' y3 v.1:=fun ζ' k' n' =>
   ⟨A1.keep (fun b g hb=>k' b g.1 hb) n' (fun b g=>g),A2.keep (fun b g hb=>k' b g.1 hb) n' (fun b g=>g),A3.keep (fun b g hb=>k' b g.1 hb) n' (fun b g=>g)⟩
  by_cases zz:q.e=0∧(wd L q).k=1
  ·obtain⟨z0,z1⟩:=zz
   obtain _|m:=m
   ·have:=fq z0;omega
   have w1:eqsL L m (l++[(eqF L q).1]) (eqF L q).2=eqsL L L.length [] (wantP L sLet v.2):=by
    rw[←wq]
    conv=>rhs;unfold eqsL
    rw[if_pos ⟨z0,z1⟩]
   have fq':(eqF L q).2.e=0→L.length≤(eqF L q).2.k+m:=fun e'=>by
    have:=eqF_k e'
    have:=fq z0
    omega
   rw[z0]at hqb
   simp -implicitDefEqProofs(disch:=omega)only[go_sem,p0,hqb]
   refine thenN_call (w_then U hq fun η5 x5=>?_)
   have n5:=x5.1
   have h5:=hq.extB x5
   rw[hc,z1]
   simp -implicitDefEqProofs(disch:=omega)only[go_sem,p0]
   refine thenN_call (w_then U h5 fun η6 x6=>?_)
   have n6:=x6.1
   have h6:=h5.extB x6
   rw[hc]
   simp -implicitDefEqProofs(disch:=omega)only[go_sem,p0]
   obtain⟨η7,e7,h7,c7,n7,X7,B7⟩:=cell_new (w:=.live false [.str 0 0,.str 0 0,.str 0 0,.int .i64 0,.int .i64 0,.nilslice,.int .i64 (wd L q).a]) h6
   rw[←e7]
   refine thenN_call (name_then U h7 fun η8 h8 x8=>?_)
   have n8:=x8.1
   have c8:η8.f η6.nx=_:=(x8.2 _ (by omega) (by omega)).trans c7
   have e9:(eqF L q)=(⟨(nameP L q).1,(exprF L (lvl L 30) { wantP L sEq (nameP L q).2 with parts:=0 }).1,(wd L q).a⟩,wantP L sSemi (exprF L (lvl L 30) { wantP L sEq (nameP L q).2 with parts:=0 }).2):=rfl
   rw[e9]at w1 fq'
   clear e9
   dsimp only at w1 fq'
   generalize hs:nameP L q=s at *
   simp -implicitDefEqProofs(disch:=omega)only[go_sem,p0,c8,sV]
   have h9:=h8.putc (c:=η6.nx) (z:=.live false [.str s.1.1 s.1.2,.str 0 0,.str 0 0,.int .i64 0,.int .i64 0,.nilslice,.int .i64 (wd L q).a]) (by omega) (fun g=>by have:=yl _ g;have:=Xq.1;omega)
   have X9:ExtX pb ζ (η8.put η6.nx (.live false [.str s.1.1 s.1.2,.str 0 0,.str 0 0,.int .i64 0,.int .i64 0,.nilslice,.int .i64 (wd L q).a])):=((((((ExtX.refl pb ζ).of x5).of x6).trans X7).trans x8)).putN (by omega)
   have c9:(η8.put η6.nx (.live false [.str s.1.1 s.1.2,.str 0 0,.str 0 0,.int .i64 0,.int .i64 0,.nilslice,.int .i64 (wd L q).a])).f η6.nx=.live false [.str s.1.1 s.1.2,.str 0 0,.str 0 0,.int .i64 0,.int .i64 0,.nilslice,.int .i64 (wd L q).a]:=if_pos rfl
   have n9:(η8.put η6.nx (.live false [.str s.1.1 s.1.2,.str 0 0,.str 0 0,.int .i64 0,.int .i64 0,.nilslice,.int .i64 (wd L q).a])).nx=η8.nx:=rfl
   generalize η8.put η6.nx (.live false [.str s.1.1 s.1.2,.str 0 0,.str 0 0,.int .i64 0,.int .i64 0,.nilslice,.int .i64 (wd L q).a])=η9 at *
   refine thenN_call (want_then U h9 sEq fun η10 h10 x10=>?_)
   have n10:=x10.1
   have c10:η10.f η6.nx=_:=(x10.2 _ (by omega) (by omega)).trans c9
   have b10:=h10.hb
   have m10:=h10.hn
   simp -implicitDefEqProofs(disch:=omega)only[go_sem,p0,b10]
   have h11:=h10.parts0 (n:=0) (by omega)
   have c11:(η10.put pb (.live false [y,.int .i64 (wantP L sEq s.2).k,.int .i64 (wantP L sEq s.2).e,.int .i64 (wantP L sEq s.2).b,.int .i64 0,.int .i64 0,.int .i64 (wantP L sEq s.2).names])).f η6.nx=_:=(if_neg (by omega)).trans c10
   have X11:ExtX pb ζ (η10.put pb (.live false [y,.int .i64 (wantP L sEq s.2).k,.int .i64 (wantP L sEq s.2).e,.int .i64 (wantP L sEq s.2).b,.int .i64 0,.int .i64 0,.int .i64 (wantP L sEq s.2).names])):=(X9.trans x10).put
   have n11:(η10.put pb (.live false [y,.int .i64 (wantP L sEq s.2).k,.int .i64 (wantP L sEq s.2).e,.int .i64 (wantP L sEq s.2).b,.int .i64 0,.int .i64 0,.int .i64 (wantP L sEq s.2).names])).nx=η10.nx:=rfl
   generalize η10.put pb (.live false [y,.int .i64 (wantP L sEq s.2).k,.int .i64 (wantP L sEq s.2).e,.int .i64 (wantP L sEq s.2).b,.int .i64 0,.int .i64 0,.int .i64 (wantP L sEq s.2).names])=η11 at *
   refine thenN_call (top_spec U η11 pb y _ _ h11 fun z12 η12 r12 h12 x12=>?_)
   have n12:=x12.1
   have c12:η12.f η6.nx=_:=(x12.2 _ (by omega) (by omega)).trans c11
   have l12:=rdE_len r12
   obtain⟨a1,a2,a3,a4,a5,rfl⟩:=rdE_cells r12
   generalize exprF L (lvl L 30) { wantP L sEq s.2 with parts:=0 }=ex at *
   simp -implicitDefEqProofs(disch:=omega)only[go_sem,p0,c12,setsL_c]
   have h13:=h12.putc (c:=η6.nx) (z:=.live false [.str s.1.1 s.1.2,.str a1.1 a1.2,.str a2.1 a2.2,.int .i64 a3,.int .i64 a4,a5,.int .i64 (wd L q).a]) (by omega) (fun g=>by have:=yl _ g;have:=Xq.1;omega)
   have X13:ExtX pb ζ (η12.put η6.nx (.live false [.str s.1.1 s.1.2,.str a1.1 a1.2,.str a2.1 a2.2,.int .i64 a3,.int .i64 a4,a5,.int .i64 (wd L q).a])):=(X11.trans x12).putN (by omega)
   have c13:(η12.put η6.nx (.live false [.str s.1.1 s.1.2,.str a1.1 a1.2,.str a2.1 a2.2,.int .i64 a3,.int .i64 a4,a5,.int .i64 (wd L q).a])).f η6.nx=.live false [.str s.1.1 s.1.2,.str a1.1 a1.2,.str a2.1 a2.2,.int .i64 a3,.int .i64 a4,a5,.int .i64 (wd L q).a]:=if_pos rfl
   have n13:(η12.put η6.nx (.live false [.str s.1.1 s.1.2,.str a1.1 a1.2,.str a2.1 a2.2,.int .i64 a3,.int .i64 a4,a5,.int .i64 (wd L q).a])).nx=η12.nx:=rfl
   have r13:rdE (rng η11.nx η12.nx) (η12.put η6.nx (.live false [.str s.1.1 s.1.2,.str a1.1 a1.2,.str a2.1 a2.2,.int .i64 a3,.int .i64 a4,a5,.int .i64 (wd L q).a])) ex.1 _:=rdE_put r12 (fun g=>by have:=g.1;omega)
   generalize η12.put η6.nx (.live false [.str s.1.1 s.1.2,.str a1.1 a1.2,.str a2.1 a2.2,.int .i64 a3,.int .i64 a4,a5,.int .i64 (wd L q).a])=η13 at *
   refine thenN_call (want_then U h13 sSemi fun η14 h14 x14=>?_)
   have n14:=x14.1
   have c14:η14.f η6.nx=_:=(x14.2 _ (by omega) (by omega)).trans c13
   have X14:=X13.trans x14
   have r14:=rdE_x r13 x14 (fun g=>by have:=g.1;omega)
   have d14:η14.f c3=_:=(X14.2 _ (by omega) (by omega)).trans dq
   have o14:=own_keep oq (fun b hb hc=>X14.2 b hc (by omega)) X14.1
   have s14:=rdQs_keep (G:=fun b=>η4.nx≤b∧b<ζ.nx∧¬blkIs x b) (fun b g hb=>X14.2 b hb (by have:=g.1;omega)) X14.1 (fun b g=>g) rq
   have hx14:∀b,blkIs x b→b<ζ.nx:=fun b hb=>(own_at oq hb).2
   have k14:∀b,c3<b→b<η4.nx→η14.f b=η4.f b:=fun b g g'=>(X14.2 b (by omega) (by omega)).trans (kq b g g')
   simp -implicitDefEqProofs(disch:=omega)only[go_sem,p0,p2,p3,c14,d14,repL_s,repL_z,setsL_c]
   have o15:OwnA 7 η4.nx (η14.new (.live false [.str s.1.1 s.1.2,.str a1.1 a1.2,.str a2.1 a2.2,.int .i64 a3,.int .i64 a4,a5,.int .i64 (wd L q).a])) x ls.length ls.flatten:=own_keep o14 (fun b _ hc=>if_neg (by omega)) (Nat.le_succ _)
   refine thenN_sep (by decide) o15 (RdA.lits (s:=7) (n:=1) rfl) (by decide) (by have:=h.g.2.1;omega) (by show η4.nx≤η14.nx+1;have:=X14.1;omega) fun η16 o16 n16 k16=>?_
   have n16:η16.nx=η14.nx+1+1:=n16
   have k16:∀b,b<η14.nx→¬blkIs x b→η16.f b=η14.f b:=fun b hb hc=>(k16 b (by show b<η14.nx+1;omega) hc).trans (if_neg (by omega))
   have xlo:∀b,blkIs x b→η4.nx≤b:=fun b g=>(own_at oq g).1
   have c16:η16.f η.nx=_:=(k16 _ (by have:=X14.1;omega) (fun g=>by have:=xlo _ g;omega)).trans ((X14.2 _ (by omega) (by omega)).trans cq)
   have d16:η16.f c3=_:=(k16 _ (by have:=X14.1;omega) (fun g=>by have:=xlo _ g;omega)).trans d14
   have X16:ExtX pb η η16:=⟨by have:=Xq.1;have:=X14.1;omega,fun b hb hc=>(k16 b (by have:=Xq.1;have:=X14.1;omega) (fun g=>by have:=xlo _ g;omega)).trans ((Xq.trans X14).2 b hb hc)⟩
   have h16:PA η16 pb y L 0 (wantP L sSemi ex.2):=⟨(k16 pb h14.hn (fun g=>by have:=xlo _ g;omega)).trans h14.hb,by have:=h14.hn;omega,RdR.keep (F:=fun b=>b<η.nx) h14.hy yl (fun b hb hc=>k16 b hc (fun g=>by have:=xlo _ g;omega)) (by omega),h14.hp,h14.g,h14.k,h14.e,h14.b,h14.q,h14.n⟩
   have t16:rdQs (fun b=>η4.nx≤b∧b<η16.nx∧b≠η14.nx+1) η16 (l++[⟨s.1,ex.1,(wd L q).a⟩]) (ls++[[.str s.1.1 s.1.2,.str a1.1 a1.2,.str a2.1 a2.2,.int .i64 a3,.int .i64 a4,a5,.int .i64 (wd L q).a]]):=by
    refine rdQs_app (e:=⟨s.1,ex.1,(wd L q).a⟩) ⟨[.str a1.1 a1.2,.str a2.1 a2.2,.int .i64 a3,.int .i64 a4,a5],rfl,?_⟩ (rdQs_keep (fun b g hb=>k16 b hb g.2.2) (by omega) (fun b g=>⟨g.1,by have:=g.2.1;have:=X14.1;omega,by have:=g.2.1;have:=X14.1;omega⟩) s14)
    exact rdE_keep (fun b g hb=>k16 b hb (fun g'=>by have:=hx14 b g';have:=g.1;have:=X11.1;omega)) (by omega) (fun b g=>⟨by have:=g.1;have:=X11.1;omega,by have:=g.2;omega,by have:=g.2;omega⟩) _ _ r14
   simp -implicitDefEqProofs(disch:=omega)only[go_sem,p0,p2,p3,d16]
   refine⟨m,Nat.lt_succ_self _,(hI _ _ _).2 ⟨l++[⟨s.1,ex.1,(wd L q).a⟩],ls++[[.str s.1.1 s.1.2,.str a1.1 a1.2,.str a2.1 a2.2,.int .i64 a3,.int .i64 a4,a5,.int .i64 (wd L q).a]],.slice (η14.nx+1) 0 (ls.length+1) (.un 7),_,⟨?_,?_,?_⟩,?_,h16.putc (by omega) (fun g=>by have:=yl _ g;omega),?_,?_,?_,?_,?_,X16.putN (by omega),w1,fq',?_⟩⟩
   ·exact p0
   ·exact p2
   ·exact p3
   ·show η4.nx≤η16.nx;have:=X14.1;omega
   ·exact(if_neg (by omega)).trans c16
   ·exact if_pos rfl
   ·exact fun b g g'=>(if_neg (by omega)).trans ((k16 b (by have:=X14.1;omega) (fun g''=>by have:=xlo _ g'';omega)).trans (k14 b g g'))
   ·rw[flatten_snoc,List.length_append]
    exact own_keep o16 (fun b hb _=>if_neg (by omega)) (Nat.le_refl _)
   ·exact rdQs_keep (η:=η16) (η':=η16.put c3 (.live false [.str hd.1.1 hd.1.2,y1,y2,y3,.slice (η14.nx+1) 0 (ls.length+1) (.un 7),.int .i64 w0.a])) (fun b g hb=>if_neg (by have:=g.1;omega)) (Nat.le_refl _) (fun b g=>⟨g.1,g.2.1,fun g'=>g.2.2 (by have:η14.nx+1=b:=g';omega)⟩) t16
   ·rw[List.length_append];simp only[List.length_cons,List.length_nil];omega
  ·have wst:=eqsL_stop (l:=l) zz m
   rw[wst]at wq
   by_cases z0:q.e=0
   ·have z1:(wd L q).k≠1:=fun g=>zz ⟨z0,g⟩
    rw[z0]at hqb
    simp -implicitDefEqProofs(disch:=omega)only[go_sem,p0,hqb]
    refine thenN_call (w_then U hq fun η5 x5=>?_)
    have n5:=x5.1
    rw[hc]
    simp -implicitDefEqProofs(disch:=omega)only[go_sem,p0]
    obtain⟨B1,B2,B3⟩:=V η5 (fun b g g'=>(x5.2 b (by omega)).trans (kq b g g')) (by omega)
    refine(hM2 _ _).2 ⟨l,ls,x,q,η4.nx,⟨p0,p2,p3⟩,⟨by omega,by omega⟩,hq.extB x5,(x5.2 _ (by omega)).trans cq,(x5.2 _ (by omega)).trans dq,B1,B2,B3,own_keep oq (fun b _ hb=>x5.2 b hb) n5,rdQs_keep (fun b g hb=>x5.2 b hb) n5 (fun b g=>⟨g.1,by have:=g.2.1;omega,g.2.2⟩) rq,Xq.of x5,wq.symm⟩
   ·simp -implicitDefEqProofs(disch:=omega)only[go_sem,p0,hqb]
    obtain⟨B1,B2,B3⟩:=V ζ kq g2
    refine(hM2 _ _).2 ⟨l,ls,x,q,η4.nx,⟨p0,p2,p3⟩,⟨by omega,g2⟩,hq,cq,dq,B1,B2,B3,oq,rq,Xq,wq.symm⟩
 simp -implicitDefEqProofs(disch:=omega)only[go_sem]
 obtain⟨η0,e0,h0,c0,n0,X0,B0⟩:=cell_new (w:=.live false [.str 0 0,.nilslice,.nilslice,.nilslice,.nilslice,.int .i64 0]) h
 rw[←e0]
 refine thenN_call (w_then U h0 fun η1 x1=>?_)
 have n1:=x1.1
 have h1:=h0.extB x1
 have c1:η1.f η.nx=_:=(x1.2 η.nx (by omega)).trans c0
 rw[hc]
 have b1:=h1.hb
 simp -implicitDefEqProofs(disch:=omega)only[go_sem,b1]
 have h2:=(h1.new (z:=.live false [.str 0 0,.nilslice,.nilslice,.nilslice,.nilslice,.int .i64 (wd L p).a])).names0 (n:=0) (by omega)
 obtain⟨η2,e2⟩:∃η2,η2=(η1.new (.live false [.str 0 0,.nilslice,.nilslice,.nilslice,.nilslice,.int .i64 (wd L p).a])).put pb (.live false [y,.int .i64 p.k,.int .i64 p.e,.int .i64 p.b,.int .i64 0,.int .i64 p.parts,.int .i64 0]):=⟨_,rfl⟩
 have d2:η2.f η1.nx=.live false [.str 0 0,.nilslice,.nilslice,.nilslice,.nilslice,.int .i64 (wd L p).a]:=by rw[e2];simp -implicitDefEqProofs(disch:=omega)only[go_sem]
 have c2:η2.f η.nx=.live false [.str 0 0,.nilslice,.nilslice,.nilslice,.nilslice,.int .i64 0]:=by rw[e2];exact((if_neg (by omega)).trans (if_neg (by omega))).trans c1
 have n2:η2.nx=η1.nx+1:=by rw[e2];rfl
 have X2:ExtX pb η η2:=by rw[e2];exact(X0.of x1).new.put
 rw[←e2]at h2 ⊢
 clear e2 e0
 refine thenN_call (want_then U h2 sNode fun η3 h3 x3=>?_)
 have n3:=x3.1
 simp -implicitDefEqProofs(disch:=omega)only[go_sem]
 refine thenN_call (name_then U h3 fun η4 h4 x4=>?_)
 have n4:=x4.1
 have x34:=x3.trans x4
 have c4:η4.f η.nx=_:=(x34.2 _ (by omega) (by omega)).trans c2
 have d4:η4.f η1.nx=_:=(x34.2 _ (by omega) (by omega)).trans d2
 have X4:=X2.trans x34
 generalize hs:nameP L (wantP L sNode { p with names:=0 })=s at *
 simp -implicitDefEqProofs(disch:=omega)only[go_sem,d4,sV]
 have h5:=h4.putc (c:=η1.nx) (z:=.live false [.str s.1.1 s.1.2,.nilslice,.nilslice,.nilslice,.nilslice,.int .i64 (wd L p).a]) (by omega) (fun g=>by have:=yl _ g;omega)
 have X5:ExtX pb η (η4.put η1.nx (.live false [.str s.1.1 s.1.2,.nilslice,.nilslice,.nilslice,.nilslice,.int .i64 (wd L p).a])):=X4.putN (by omega)
 have c5:(η4.put η1.nx (.live false [.str s.1.1 s.1.2,.nilslice,.nilslice,.nilslice,.nilslice,.int .i64 (wd L p).a])).f η.nx=_:=(if_neg (by omega)).trans c4
 have d5:(η4.put η1.nx (.live false [.str s.1.1 s.1.2,.nilslice,.nilslice,.nilslice,.nilslice,.int .i64 (wd L p).a])).f η1.nx=.live false [.str s.1.1 s.1.2,.nilslice,.nilslice,.nilslice,.nilslice,.int .i64 (wd L p).a]:=if_pos rfl
 have n5:(η4.put η1.nx (.live false [.str s.1.1 s.1.2,.nilslice,.nilslice,.nilslice,.nilslice,.int .i64 (wd L p).a])).nx=η4.nx:=rfl
 generalize η4.put η1.nx (.live false [.str s.1.1 s.1.2,.nilslice,.nilslice,.nilslice,.nilslice,.int .i64 (wd L p).a])=η5 at *
 refine thenN_call (want_then U h5 sLp fun η6 h6 x6=>?_)
 have n6:=x6.1
 simp -implicitDefEqProofs(disch:=omega)only[go_sem]
 refine thenN_call (decls_spec U η6 pb y _ _ h6 fun v7 η7 o7 h7 x7=>?_)
 have n7:=x7.1
 have x67:=x6.trans x7
 have c7:η7.f η.nx=_:=(x67.2 _ (by omega) (by omega)).trans c5
 have d7:η7.f η1.nx=_:=(x67.2 _ (by omega) (by omega)).trans d5
 have X7:=X5.trans x67
 generalize hi:declsF L (wantP L sLp s.2)=i at *
 have V7:=VS.of o7
 have cv7:cellsV v7=some [v7]:=own_cells o7
 simp -implicitDefEqProofs(disch:=omega)only[go_sem,d7,cv7]
 have h8:=h7.putc (c:=η1.nx) (z:=.live false [.str s.1.1 s.1.2,v7,.nilslice,.nilslice,.nilslice,.int .i64 (wd L p).a]) (by omega) (fun g=>by have:=yl _ g;omega)
 have X8:ExtX pb η (η7.put η1.nx (.live false [.str s.1.1 s.1.2,v7,.nilslice,.nilslice,.nilslice,.int .i64 (wd L p).a])):=X7.putN (by omega)
 have c8:(η7.put η1.nx (.live false [.str s.1.1 s.1.2,v7,.nilslice,.nilslice,.nilslice,.int .i64 (wd L p).a])).f η.nx=_:=(if_neg (by omega)).trans c7
 have d8:(η7.put η1.nx (.live false [.str s.1.1 s.1.2,v7,.nilslice,.nilslice,.nilslice,.int .i64 (wd L p).a])).f η1.nx=.live false [.str s.1.1 s.1.2,v7,.nilslice,.nilslice,.nilslice,.int .i64 (wd L p).a]:=if_pos rfl
 have n8:(η7.put η1.nx (.live false [.str s.1.1 s.1.2,v7,.nilslice,.nilslice,.nilslice,.int .i64 (wd L p).a])).nx=η7.nx:=rfl
 have V8:=V7.keep (η':=η7.put η1.nx (.live false [.str s.1.1 s.1.2,v7,.nilslice,.nilslice,.nilslice,.int .i64 (wd L p).a])) (fun b g _=>if_neg (by have:=g.1;omega)) (Nat.le_refl _) (fun b g=>g)
 generalize η7.put η1.nx (.live false [.str s.1.1 s.1.2,v7,.nilslice,.nilslice,.nilslice,.int .i64 (wd L p).a])=η8 at *
 refine thenN_call (want_then U h8 sRp fun η9 h9 x9=>?_)
 have n9:=x9.1
 simp -implicitDefEqProofs(disch:=omega)only[go_sem]
 refine thenN_call (want_then U h9 sReturns fun η10 h10 x10=>?_)
 have n10:=x10.1
 simp -implicitDefEqProofs(disch:=omega)only[go_sem]
 refine thenN_call (want_then U h10 sLp fun η11 h11 x11=>?_)
 have n11:=x11.1
 simp -implicitDefEqProofs(disch:=omega)only[go_sem]
 refine thenN_call (decls_spec U η11 pb y _ _ h11 fun v12 η12 o12 h12 x12=>?_)
 have n12:=x12.1
 have x912:=((x9.trans x10).trans x11).trans x12
 have c12:η12.f η.nx=_:=(x912.2 _ (by omega) (by omega)).trans c8
 have d12:η12.f η1.nx=_:=(x912.2 _ (by omega) (by omega)).trans d8
 have X12:=X8.trans x912
 have V12:=V8.keep (G:=fun b=>η6.nx≤b∧b<η7.nx) (fun b g hb=>x912.2 b hb (by have:=g.1;omega)) (by omega) (fun b g=>g)
 have W12:=VS.of o12
 have cv12:cellsV v12=some [v12]:=own_cells o12
 generalize ho:declsF L (wantP L sLp (wantP L sReturns (wantP L sRp i.2)))=o at *
 simp -implicitDefEqProofs(disch:=omega)only[go_sem,d12,cv12]
 have h13:=h12.putc (c:=η1.nx) (z:=.live false [.str s.1.1 s.1.2,v7,v12,.nilslice,.nilslice,.int .i64 (wd L p).a]) (by omega) (fun g=>by have:=yl _ g;omega)
 have X13:ExtX pb η (η12.put η1.nx (.live false [.str s.1.1 s.1.2,v7,v12,.nilslice,.nilslice,.int .i64 (wd L p).a])):=X12.putN (by omega)
 have c13:(η12.put η1.nx (.live false [.str s.1.1 s.1.2,v7,v12,.nilslice,.nilslice,.int .i64 (wd L p).a])).f η.nx=_:=(if_neg (by omega)).trans c12
 have d13:(η12.put η1.nx (.live false [.str s.1.1 s.1.2,v7,v12,.nilslice,.nilslice,.int .i64 (wd L p).a])).f η1.nx=.live false [.str s.1.1 s.1.2,v7,v12,.nilslice,.nilslice,.int .i64 (wd L p).a]:=if_pos rfl
 have n13:(η12.put η1.nx (.live false [.str s.1.1 s.1.2,v7,v12,.nilslice,.nilslice,.int .i64 (wd L p).a])).nx=η12.nx:=rfl
 have V13:=V12.keep (η':=η12.put η1.nx (.live false [.str s.1.1 s.1.2,v7,v12,.nilslice,.nilslice,.int .i64 (wd L p).a])) (fun b g _=>if_neg (by have:=g.1;omega)) (Nat.le_refl _) (fun b g=>g)
 have W13:=W12.keep (η':=η12.put η1.nx (.live false [.str s.1.1 s.1.2,v7,v12,.nilslice,.nilslice,.int .i64 (wd L p).a])) (fun b g _=>if_neg (by have:=g.1;omega)) (Nat.le_refl _) (fun b g=>g)
 generalize η12.put η1.nx (.live false [.str s.1.1 s.1.2,v7,v12,.nilslice,.nilslice,.int .i64 (wd L p).a])=η13 at *
 refine thenN_call (want_then U h13 sRp fun η14 h14 x14=>?_)
 have n14:=x14.1
 simp -implicitDefEqProofs(disch:=omega)only[go_sem]
 refine thenN_call (want_then U h14 sSemi fun η15 h15 x15=>?_)
 have n15:=x15.1
 have hH:headF L p=((s.1,i.1,o.1),wantP L sSemi (wantP L sRp o.2)):=by
  unfold headF
  dsimp only
  rw[hs,hi,ho]
 rw[←show(headF L p).2=wantP L sSemi (wantP L sRp o.2) from by rw[hH]]at h15
 simp -implicitDefEqProofs(disch:=omega)only[go_sem]
 refine thenN_call (take_then U h15 sVar fun η16 h16 x16=>?_)
 have n16:=x16.1
 have x146:=(x14.trans x15).trans x16
 have c16:η16.f η.nx=_:=(x146.2 _ (by omega) (by omega)).trans c13
 have d16:η16.f η1.nx=_:=(x146.2 _ (by omega) (by omega)).trans d13
 have X16:=X13.trans x146
 have V16:=V13.keep (G:=fun b=>η6.nx≤b∧b<η7.nx) (fun b g hb=>x146.2 b hb (by have:=g.1;omega)) (by omega) (fun b g=>g)
 have W16:=W13.keep (G:=fun b=>η11.nx≤b∧b<η12.nx) (fun b g hb=>x146.2 b hb (by have:=g.1;omega)) (by omega) (fun b g=>g)
 unfold takeP at h16
 cases e16:isP L sVar (headF L p).2 with
 |false =>
  rw[e16,if_neg (by decide)]at h16
  have eV:varsF L (headF L p).2=([],(headF L p).2):=if_neg (by rw[e16];decide)
  simp -implicitDefEqProofs(disch:=omega)only[go_sem]
  refine(hM _ _).2 ⟨η1.nx,v7,v12,.nilslice,⟨?_,?_,?_⟩,⟨?_,?_⟩,?_,?_,?_,?_,?_,?_,?_⟩
  ·rfl
  ·rfl
  ·rfl
  ·omega
  ·omega
  ·rw[eV];dsimp only;exact h16
  ·exact c16
  ·rw[hH];dsimp only;exact d16
  ·rw[hH];dsimp only;exact V16.keep (fun _ _ _=>rfl) (Nat.le_refl _) (fun b g=>⟨by have:=g.1;omega,by have:=g.2;omega⟩)
  ·rw[hH];dsimp only;exact W16.keep (fun _ _ _=>rfl) (Nat.le_refl _) (fun b g=>⟨by have:=g.1;omega,by have:=g.2;omega⟩)
  ·rw[eV];dsimp only;exact .nil
  ·exact X16
 |true =>
  rw[e16,if_pos rfl]at h16
  have eV:varsF L (headF L p).2=((localsF L (adv (headF L p).2)).1,wantP L sSemi (localsF L (adv (headF L p).2)).2):=if_pos e16
  simp -implicitDefEqProofs(disch:=omega)only[go_sem]
  refine thenN_call (locals_spec U η16 pb y _ _ h16 fun v17 η17 o17 h17 x17=>?_)
  have n17:=x17.1
  have c17:η17.f η.nx=_:=(x17.2 _ (by omega) (by omega)).trans c16
  have d17:η17.f η1.nx=_:=(x17.2 _ (by omega) (by omega)).trans d16
  have X17:=X16.trans x17
  have V17:=V16.keep (G:=fun b=>η6.nx≤b∧b<η7.nx) (fun b g hb=>x17.2 b hb (by have:=g.1;omega)) (by omega) (fun b g=>g)
  have W17:=W16.keep (G:=fun b=>η11.nx≤b∧b<η12.nx) (fun b g hb=>x17.2 b hb (by have:=g.1;omega)) (by omega) (fun b g=>g)
  have Y17:=VS.of o17
  have cv17:cellsV v17=some [v17]:=own_cells o17
  simp -implicitDefEqProofs(disch:=omega)only[go_sem,d17,cv17]
  have h18:=h17.putc (c:=η1.nx) (z:=.live false [.str s.1.1 s.1.2,v7,v12,v17,.nilslice,.int .i64 (wd L p).a]) (by omega) (fun g=>by have:=yl _ g;omega)
  have X18:ExtX pb η (η17.put η1.nx (.live false [.str s.1.1 s.1.2,v7,v12,v17,.nilslice,.int .i64 (wd L p).a])):=X17.putN (by omega)
  have c18:(η17.put η1.nx (.live false [.str s.1.1 s.1.2,v7,v12,v17,.nilslice,.int .i64 (wd L p).a])).f η.nx=_:=(if_neg (by omega)).trans c17
  have d18:(η17.put η1.nx (.live false [.str s.1.1 s.1.2,v7,v12,v17,.nilslice,.int .i64 (wd L p).a])).f η1.nx=.live false [.str s.1.1 s.1.2,v7,v12,v17,.nilslice,.int .i64 (wd L p).a]:=if_pos rfl
  have n18:(η17.put η1.nx (.live false [.str s.1.1 s.1.2,v7,v12,v17,.nilslice,.int .i64 (wd L p).a])).nx=η17.nx:=rfl
  have V18:=V17.keep (η':=η17.put η1.nx (.live false [.str s.1.1 s.1.2,v7,v12,v17,.nilslice,.int .i64 (wd L p).a])) (fun b g _=>if_neg (by have:=g.1;omega)) (Nat.le_refl _) (fun b g=>g)
  have W18:=W17.keep (η':=η17.put η1.nx (.live false [.str s.1.1 s.1.2,v7,v12,v17,.nilslice,.int .i64 (wd L p).a])) (fun b g _=>if_neg (by have:=g.1;omega)) (Nat.le_refl _) (fun b g=>g)
  have Y18:=Y17.keep (η':=η17.put η1.nx (.live false [.str s.1.1 s.1.2,v7,v12,v17,.nilslice,.int .i64 (wd L p).a])) (fun b g _=>if_neg (by have:=g.1;omega)) (Nat.le_refl _) (fun b g=>g)
  generalize η17.put η1.nx (.live false [.str s.1.1 s.1.2,v7,v12,v17,.nilslice,.int .i64 (wd L p).a])=η18 at *
  refine thenN_call (want_then U h18 sSemi fun η19 h19 x19=>?_)
  have n19:=x19.1
  simp -implicitDefEqProofs(disch:=omega)only[go_sem]
  refine(hM _ _).2 ⟨η1.nx,v7,v12,v17,⟨rfl,rfl,rfl⟩,⟨by omega,by omega⟩,by rw[eV];dsimp only;exact h19,(x19.2 _ (by omega) (by omega)).trans c18,by rw[hH];dsimp only;exact(x19.2 _ (by omega) (by omega)).trans d18,?_,?_,?_,X18.trans x19⟩
  ·rw[hH];dsimp only;exact V18.keep (fun b g hb=>x19.2 b hb (by have:=g.1;omega)) (by omega) (fun b g=>⟨by have:=g.1;omega,by have:=g.2;omega⟩)
  ·rw[hH];dsimp only;exact W18.keep (fun b g hb=>x19.2 b hb (by have:=g.1;omega)) (by omega) (fun b g=>⟨by have:=g.1;omega,by have:=g.2;omega⟩)
  ·rw[eV];dsimp only;exact Y18.keep (fun b g hb=>x19.2 b hb (by have:=g.1;omega)) (by omega) (fun b g=>⟨by have:=g.1;omega,by have:=g.2;omega⟩)
end Go.Proofs.YtdeejbnhlbddgaaGreatDoor
namespace Go.Proofs.YtdeejbnhlbddgaaGreatDoor
open Go.Eng Go.Plain
set_option autoImplicit false
set_option maxRecDepth 100000
variable {nat:∀ [Deep],Nats}
def SlV (v:AV):Prop:=v=.nilslice∨(∃b,v=.slice b 0 0 (.kn 0))∨∃b n,v=.slice b 0 n (.un 6)
theorem own_sl {lo n:Nat} {η:HN} {x:AV} {l:List AV} (o:OwnA 6 lo η x n l):SlV x:=by
 obtain⟨_,⟨h,_⟩|⟨b,_,_,⟨h,_⟩|⟨h,_⟩⟩⟩:=o
 ·exact .inl h
 ·exact .inr (.inl ⟨b,h⟩)
 ·exact .inr (.inr ⟨b,n,h⟩)
def TreeRd (F:Nat→Prop) (η:HN) (v:AV) (l:List Nd):Prop:=InF F v∧∃ls,RdR 6 η v ls∧rdNs F η l ls∧SlV v
def CutSpec (nat:∀ [Deep],Nats):Prop:=∀(η:HN) (T:By) (Q:AV→HN→Prop),T.length≤9223372036854775807 →
 (∀v η',RdR 4 η' v ((cutF T).1.map Wd.cells)→(∀b,blkIs v b→η.nx≤b∧b<η'.nx)→ExtB η.nx η η'→Q (.tup [v,.agg [.int .i64 (cutF T).2.1,.int .i64 (cutF T).2.2]]) η')→∃v η',CallN Tryz.prog nat 34 [.str T.length (codesL T)] η v η'∧Q v η'
theorem nodesL_stop {L:List Wd} {l:List Nd} {p:PS} (h:¬(p.e=0∧(l.length=0∨(wd L p).k≠0))):∀n,nodesL L n l p=(l,p)
 |0=>rfl
 |n+1=>by
  unfold nodesL
  rw[if_neg h]
theorem cut_err {T:By}:(cutF T).2.1≤7:=by
 have:∀(f a:Nat) (r:By) (l:List Wd),(cutR f a r l).2.1≤7:=fun f=>by
  induction f with
  |zero=>intro a r l;exact Nat.zero_le _
  |succ f ih =>
   intro a r l
   cases r with
   |nil=>exact Nat.zero_le _
   |cons c r =>
    unfold cutR
    split
    ·exact ih _ _ _
    split
    ·exact ih _ _ _
    split
    ·exact Nat.le_refl _
    ·exact ih _ _ _
 unfold cutF
 split
 ·exact(by decide:(2:Nat)≤7)
 ·exact this _ _ _ _
set_option maxHeartbeats 16000000 in
theorem parse_of (U:Usual nat) (CS:CutSpec nat) {η:HN} {T:By} {Q:AV→HN→Prop} (hT:T.length≤9223372036854775807)
  (k:∀v η',TreeRd (rng η.nx η'.nx) η' v (parseF T).1→ExtB η.nx η η'→Q (.tup [v,.agg [.int .i64 (parseF T).2.1,.int .i64 (parseF T).2.2]]) η'):∃v η',CallN Tryz.prog nat 20 [.str T.length (codesL T)] η v η'∧Q v η':=by
 refine call_of (PT:=pl20) Tryz.func20 rfl (U 20 (by decide)) ok20 rfl ?_
 obtain⟨M,hM⟩:∃M:FN→HN→Prop,∀φ ζ,M φ ζ↔∃pb y l x q,(φ 3=.ptr η.nx 0∧φ 6=.ptr pb 0∧φ 7=x)∧η.nx<pb∧PA ζ pb y (cutF T).1 0 q∧ζ.f η.nx=.live false [.int .i64 0,.int .i64 0]∧TreeRd (fun b=>η.nx<b∧b<ζ.nx) ζ x l∧ExtB η.nx η ζ ∧
   (cutF T).2.1=0∧nodesL (cutF T).1 34 [] ⟨0,0,0,0,0⟩=(l,q):=⟨_,fun _ _=>Iff.rfl⟩
 refine wp_cut (M:=M) 6 _ _ _ ?_ ?_
 ·intro φ ζ hm
  obtain⟨pb,y,l,x,q,⟨p3,p6,p7⟩,g1,hq,cq,tq,Eq,z,eq⟩:=(hM _ _).1 hm
  have hqb:=hq.hb
  have hq7:=hq.e
  have hqn:=hq.hn
  have hqB:=hq.b
  have eP:parseF T=(if q.e=0 then(l,0,0) else([],q.e,q.b)):=by
   have e1:parseF T=treeF (cutF T).1:=if_pos z
   rw[e1]
   unfold treeF
   rw[eq]
  rw[eP]at k
  by_cases z0:q.e=0
  ·rw[if_pos z0]at k
   rw[z0]at hqb
   simp -implicitDefEqProofs(disch:=omega)only[tailC_s,tailC_z,go_sem,p3,p6,p7,hqb,cq]
   obtain⟨t1,ls,t2,t3,t4⟩:=tq
   have kp:∀b,(η.nx<b∧b<ζ.nx)→b<ζ.nx→(ζ.put η.nx (.live false [.int .i64 0,.int .i64 0])).f b=ζ.f b:=fun b g _=>if_neg (by omega)
   exact k _ _ ⟨fun b g=>⟨Nat.le_of_lt (t1 b g).1,(t1 b g).2⟩,ls,t2.keep t1 kp (Nat.le_refl _),rdNs_keep kp (Nat.le_refl _) (fun b g=>⟨Nat.le_of_lt g.1,g.2⟩) t3,t4⟩ (Eq.trans (.put (Nat.le_refl _)))
  ·rw[if_neg z0]at k
   simp -implicitDefEqProofs(disch:=omega)only[tailC_s,tailC_z,go_sem,p3,p6,p7,hqb,cq]
   exact k _ _ ⟨fun b g=>g.elim,[],.inl ⟨rfl,.inl rfl⟩,rfl,.inl rfl⟩ (Eq.trans (.put (Nat.le_refl _)))
 simp -implicitDefEqProofs(disch:=omega)only[go_sem]
 have E0:ExtB η.nx η (η.new (.live false [.int .i64 0,.int .i64 0])):=.new (Nat.le_refl _)
 have c0:(η.new (.live false [.int .i64 0,.int .i64 0])).f η.nx=.live false [.int .i64 0,.int .i64 0]:=if_pos rfl
 have n0:(η.new (.live false [.int .i64 0,.int .i64 0])).nx=η.nx+1:=rfl
 generalize η.new (.live false [.int .i64 0,.int .i64 0])=η0 at *
 refine thenN_call (CS η0 T _ hT fun y η1 hy fy x1=>?_)
 have n1:=x1.1
 have he7:=cut_err (T:=T)
 have c1:η1.f η.nx=_:=(x1.2 _ (by omega)).trans c0
 have E1:ExtB η.nx η η1:=E0.trans (x1.mono E0.1)
 by_cases z:(cutF T).2.1=0
 ·have gd:=cutF_good z
  have eP:parseF T=treeF (cutF T).1:=if_pos z
  rw[eP]at k
  rw[z]
  generalize (cutF T).1=L at *
  clear eP
  have hg:=gd.2.1
  have hy0:cellsV y=some [y]:=by
   rcases hy with ⟨_,rfl|⟨b,o,c,rfl⟩⟩|⟨b,o,c,ro,row,rfl,_⟩<;>rfl
  simp -implicitDefEqProofs(disch:=omega)only[go_sem,hy0]
  obtain⟨η2,e2⟩:∃η2,η2=(η1.new (.live false [.int .i64 0,.int .i64 (cutF T).2.2])).new (.live false [y,.int .i64 0,.int .i64 0,.int .i64 0,.int .i64 0,.int .i64 0,.int .i64 0]):=⟨_,rfl⟩
  rw[←e2]
  have x2:ExtB η1.nx η1 η2:=by rw[e2];exact extN (extN (.refl _ _))
  have n2:η2.nx=η1.nx+2:=by rw[e2];rfl
  have h2:PA η2 (η1.nx+1) y L 0 ⟨0,0,0,0,0⟩:=by
   refine⟨by rw[e2];exact if_pos rfl,by omega,RdR.ext (base:=0) hy x2,fun g=>by have:=(fy _ g).2;omega,gd,gd.1,by decide,Nat.zero_le _,by decide,by decide⟩
  have c2:η2.f η.nx=_:=(x2.2 _ (by omega)).trans c1
  have E2:ExtB η.nx η η2:=E1.trans (x2.mono E1.1)
  clear e2
  generalize hpb:η1.nx+1=pb at *
  have yl:∀b,blkIs y b→b<pb:=fun b g=>by have:=(fy b g).2;omega
  obtain⟨I,hI⟩:∃I:Nat→FN→HN→Prop,∀m φ ζ,I m φ ζ↔∃l ls x q,(φ 3=.ptr η.nx 0∧φ 6=.ptr pb 0∧φ 7=x)∧η2.nx≤ζ.nx∧PA ζ pb y L 0 q∧ζ.f η.nx=.live false [.int .i64 0,.int .i64 0]∧ExtX pb η2 ζ ∧
    OwnA 6 η2.nx ζ x ls.length ls.flatten∧rdNs (fun b=>η2.nx≤b∧b<ζ.nx∧¬blkIs x b) ζ l ls∧nodesL L m l q=nodesL L 34 [] ⟨0,0,0,0,0⟩∧ls.length=l.length∧l.length+m=34∧l.length≤32:=⟨_,fun _ _ _=>Iff.rfl⟩
  refine wpN_loop I 34 ((hI _ _ _).2 ⟨[],[],.nilslice,_,⟨rfl,rfl,rfl⟩,Nat.le_refl _,h2,c2,.refl _ _,.nil,rfl,rfl,rfl,rfl,by decide⟩) ?_
  intro m φ ζ hi
  obtain⟨l,ls,x,q,⟨p3,p6,p7⟩,g2,hq,cq,Xq,oq,rq,wq,ll,lm,l32⟩:=(hI _ _ _).1 hi
  clear hi
  have hqb:=hq.hb
  have hqn:=hq.hn
  have hq7:=hq.e
  have hqk:=hq.k
  have hk5:=(hq.g.2.2.2 _ (wd_mem hqk)).1
  have hlen:∀e w η',lenN (.slice e 6 w) x η'=.ok (.int .i64 l.length) η':=fun e w η'=>by rw[←ll];exact own_len oq (by omega)
  have hc:(wd L q).cells=[.int .i64 (wd L q).k,.str (wd L q).t.1 (wd L q).t.2,.int .i64 (wd L q).n,.int .i64 (wd L q).a]:=rfl
  have fin:∀ζ':HN,ExtX pb ζ ζ'→∀q':PS,PA ζ' pb y L 0 q'→nodesL L 34 [] ⟨0,0,0,0,0⟩=(l,q')→∀φ':FN,φ' 3=.ptr η.nx 0→φ' 6=.ptr pb 0→φ' 7=x→M φ' ζ':=by
   intro ζ' X' q' h' e' φ' r3 r6 r7
   have n':=X'.1
   have o':=own_keep oq (fun b hb hc=>X'.2 b hc (by omega)) n'
   have kp:∀b,(η2.nx≤b∧b<ζ.nx∧¬blkIs x b)→b<ζ.nx→ζ'.f b=ζ.f b:=fun b g hb=>X'.2 b hb (by have:=g.1;omega)
   have XX:=Xq.trans X'
   refine(hM _ _).2 ⟨pb,y,l,x,q',⟨r3,r6,r7⟩,by omega,h',(X'.2 _ (by omega) (by omega)).trans cq,?_,?_,z,e'⟩
   ·have r':=rdNs_keep kp n' (fun b g=>(⟨by have:=g.1;omega,by have:=g.2.1;omega⟩:η.nx<b∧b<ζ'.nx)) rq
    exact⟨fun b g=>⟨by have:=(own_at oq g).1;omega,by have:=(own_at oq g).2;omega⟩,ls,own_rdR o' (rdNs_len r').2,r',own_sl o'⟩
   ·exact E2.trans ⟨XX.1,fun b hb=>XX.2 b (by omega) (by omega)⟩
  by_cases z0:q.e=0
  ·rw[z0]at hqb
   by_cases zl:l.length=0
   ·have cnd:q.e=0∧(l.length=0∨(wd L q).k≠0):=⟨z0,.inl zl⟩
    have z32:l.length≠32:=by omega
    rw[zl]at hlen
    simp -implicitDefEqProofs(disch:=omega)only[go_sem,p3,p6,p7,hqb,hlen]
    rw[←zl]at hlen
    obtain _|m:=m
    ·omega
    have w1:nodesL L (m+1) l q=nodesL L m (l++[(nodeF L q).1]) (nodeF L q).2:=by
     conv=>lhs;unfold nodesL
     rw[if_pos cnd,if_neg z32]
    refine thenN_call (node_spec U ζ pb y q _ hq fun z5 η5 r5 h5 x5=>?_)
    have n5:=x5.1
    have n4:=(ExtX.refl pb ζ).1
    have X5:=(ExtX.refl pb ζ).trans x5
    have l5:=rdN_len r5
    have o5:=own_keep oq (fun b hb hc=>X5.2 b hc (by omega)) X5.1
    have s5:=rdNs_keep (G:=fun b=>η2.nx≤b∧b<ζ.nx∧¬blkIs x b) (fun b g hb=>X5.2 b hb (by have:=g.1;omega)) X5.1 (fun b g=>g) rq
    have hx5:∀b,blkIs x b→b<ζ.nx:=fun b g=>(own_at oq g).2
    have xlo:∀b,blkIs x b→η2.nx≤b:=fun b g=>(own_at oq g).1
    have c5:η5.f η.nx=_:=(X5.2 _ (by omega) (by omega)).trans cq
    obtain⟨y1,y2,y3,y4,hz,_⟩:=id r5
    generalize nodeF L q=nd at *
    subst hz
    simp -implicitDefEqProofs(disch:=omega)only[go_sem,p3,p6,p7,repL_s,repL_z,setsL_c,sV]
    have o6:OwnA 6 η2.nx ((η5.new (.live false [.str nd.1.nm.1 nd.1.nm.2,y1,y2,y3,y4,.int .i64 nd.1.a])).new (.live false [.str nd.1.nm.1 nd.1.nm.2,y1,y2,y3,y4,.int .i64 nd.1.a])) x ls.length ls.flatten:=own_keep o5 (fun b _ hc=>by simp -implicitDefEqProofs(disch:=omega)only[go_sem]) (by show η5.nx≤η5.nx+1+1;omega)
    refine thenN_sep (by decide) o6 (RdA.lits (s:=6) (n:=1) rfl) (by decide) (by omega) (by show η2.nx≤η5.nx+1+1;omega) fun η7 o7 n7 k7=>?_
    have n7:η7.nx=η5.nx+1+1+1:=n7
    have k7:∀b,b<η5.nx→¬blkIs x b→η7.f b=η5.f b:=fun b hb hc=>(k7 b (by show b<η5.nx+1+1;omega) hc).trans (by simp -implicitDefEqProofs(disch:=omega)only[go_sem])
    have h7:PA η7 pb y L 0 nd.2:=⟨(k7 pb h5.hn (fun g=>by have:=xlo _ g;omega)).trans h5.hb,by have:=h5.hn;omega,RdR.keep (F:=fun b=>b<pb) h5.hy yl (fun b hb hc=>k7 b hc (fun g=>by have:=xlo _ g;omega)) (by omega),h5.hp,h5.g,h5.k,h5.e,h5.b,h5.q,h5.n⟩
    have t7:rdNs (fun b=>η2.nx≤b∧b<η7.nx∧b≠η5.nx+1+1) η7 (l++[nd.1]) (ls++[[sV nd.1.nm,y1,y2,y3,y4,.int .i64 nd.1.a]]):=by
     refine rdNs_app ?_ (rdNs_keep (fun b g hb=>k7 b hb g.2.2) (by omega) (fun b g=>⟨g.1,by have:=g.2.1;omega,by have:=g.2.1;omega⟩) s5)
     exact rdN_keep (fun b g hb=>k7 b hb (fun g'=>by have:=hx5 b g';have:=g.1;omega)) (by omega) (fun b g=>⟨by have:=g.1;omega,by have:=g.2;omega,by have:=g.2;omega⟩) r5
    simp -implicitDefEqProofs(disch:=omega)only[go_sem,p3,p6,p7]
    refine⟨m,Nat.lt_succ_self _,(hI _ _ _).2 ⟨l++[nd.1],ls++[[sV nd.1.nm,y1,y2,y3,y4,.int .i64 nd.1.a]],.slice (η5.nx+1+1) 0 (ls.length+1) (.un 6),nd.2,⟨p3,p6,rfl⟩,?_,h7,?_,?_,?_,?_,?_,?_,?_,?_⟩⟩
    ·omega
    ·exact(k7 _ (by omega) (fun g=>by have:=xlo _ g;omega)).trans c5
    ·exact⟨by have:=Xq.1;omega,fun b hb hc=>(k7 b (by omega) (fun g=>by have:=xlo _ g;omega)).trans ((Xq.trans X5).2 b hb hc)⟩
    ·rw[flatten_snoc,List.length_append];exact o7
    ·exact rdNs_keep (fun _ _ _=>rfl) (Nat.le_refl _) (fun b g=>⟨g.1,g.2.1,fun g'=>g.2.2 (by have:η5.nx+1+1=b:=g';omega)⟩) t7
    ·rw[←wq,w1]
    ·rw[List.length_append,List.length_append,ll];rfl
    ·rw[List.length_append];simp only[List.length_cons,List.length_nil];omega
    ·rw[List.length_append];simp only[List.length_cons,List.length_nil];omega
   ·simp -implicitDefEqProofs(disch:=omega)only[go_sem,p3,p6,p7,hqb,hlen]
    refine thenN_call (w_then U hq fun η3 x3=>?_)
    have h3:=hq.extB x3
    have X3:=(ExtX.refl pb ζ).of x3
    rw[hc]
    by_cases zk:(wd L q).k=0
    ·rw[nodesL_stop (fun g=>g.2.elim (fun g=>zl g) (fun g=>g zk))]at wq
     rw[zk]
     simp -implicitDefEqProofs(disch:=omega)only[go_sem,p3,p6,p7]
     exact fin η3 X3 q h3 wq.symm _ p3 p6 p7
    have cnd:q.e=0∧(l.length=0∨(wd L q).k≠0):=⟨z0,.inr zk⟩
    by_cases z32:l.length=32
    ·have w1:nodesL L m l q=(l,failP L 2 q):=by
      obtain _|m:=m
      ·omega
      unfold nodesL
      rw[if_pos cnd,if_pos z32]
     simp -implicitDefEqProofs(disch:=omega)only[go_sem,p3,p6,p7,hlen]
     refine thenN_call (fail_then U h3 (er:=2) (by omega) fun η4 h4 x4=>?_)
     simp -implicitDefEqProofs(disch:=omega)only[go_sem]
     exact fin η4 (X3.trans x4) _ h4 (wq.symm.trans w1) _ p3 p6 p7
    ·obtain _|m:=m
     ·omega
     have w1:nodesL L (m+1) l q=nodesL L m (l++[(nodeF L q).1]) (nodeF L q).2:=by
      conv=>lhs;unfold nodesL
      rw[if_pos cnd,if_neg z32]
     simp -implicitDefEqProofs(disch:=omega)only[go_sem,p3,p6,p7,hlen]
     refine thenN_call (node_spec U η3 pb y q _ h3 fun z5 η5 r5 h5 x5=>?_)
     have n5:=x5.1
     have n4:=X3.1
     have X5:=X3.trans x5
     have l5:=rdN_len r5
     have o5:=own_keep oq (fun b hb hc=>X5.2 b hc (by omega)) X5.1
     have s5:=rdNs_keep (G:=fun b=>η2.nx≤b∧b<ζ.nx∧¬blkIs x b) (fun b g hb=>X5.2 b hb (by have:=g.1;omega)) X5.1 (fun b g=>g) rq
     have hx5:∀b,blkIs x b→b<ζ.nx:=fun b g=>(own_at oq g).2
     have xlo:∀b,blkIs x b→η2.nx≤b:=fun b g=>(own_at oq g).1
     have c5:η5.f η.nx=_:=(X5.2 _ (by omega) (by omega)).trans cq
     obtain⟨y1,y2,y3,y4,hz,_⟩:=id r5
     generalize nodeF L q=nd at *
     subst hz
     simp -implicitDefEqProofs(disch:=omega)only[go_sem,p3,p6,p7,repL_s,repL_z,setsL_c,sV]
     have o6:OwnA 6 η2.nx ((η5.new (.live false [.str nd.1.nm.1 nd.1.nm.2,y1,y2,y3,y4,.int .i64 nd.1.a])).new (.live false [.str nd.1.nm.1 nd.1.nm.2,y1,y2,y3,y4,.int .i64 nd.1.a])) x ls.length ls.flatten:=own_keep o5 (fun b _ hc=>by simp -implicitDefEqProofs(disch:=omega)only[go_sem]) (by show η5.nx≤η5.nx+1+1;omega)
     refine thenN_sep (by decide) o6 (RdA.lits (s:=6) (n:=1) rfl) (by decide) (by omega) (by show η2.nx≤η5.nx+1+1;omega) fun η7 o7 n7 k7=>?_
     have n7:η7.nx=η5.nx+1+1+1:=n7
     have k7:∀b,b<η5.nx→¬blkIs x b→η7.f b=η5.f b:=fun b hb hc=>(k7 b (by show b<η5.nx+1+1;omega) hc).trans (by simp -implicitDefEqProofs(disch:=omega)only[go_sem])
     have h7:PA η7 pb y L 0 nd.2:=⟨(k7 pb h5.hn (fun g=>by have:=xlo _ g;omega)).trans h5.hb,by have:=h5.hn;omega,RdR.keep (F:=fun b=>b<pb) h5.hy yl (fun b hb hc=>k7 b hc (fun g=>by have:=xlo _ g;omega)) (by omega),h5.hp,h5.g,h5.k,h5.e,h5.b,h5.q,h5.n⟩
     have t7:rdNs (fun b=>η2.nx≤b∧b<η7.nx∧b≠η5.nx+1+1) η7 (l++[nd.1]) (ls++[[sV nd.1.nm,y1,y2,y3,y4,.int .i64 nd.1.a]]):=by
      refine rdNs_app ?_ (rdNs_keep (fun b g hb=>k7 b hb g.2.2) (by omega) (fun b g=>⟨g.1,by have:=g.2.1;omega,by have:=g.2.1;omega⟩) s5)
      exact rdN_keep (fun b g hb=>k7 b hb (fun g'=>by have:=hx5 b g';have:=g.1;omega)) (by omega) (fun b g=>⟨by have:=g.1;omega,by have:=g.2;omega,by have:=g.2;omega⟩) r5
     simp -implicitDefEqProofs(disch:=omega)only[go_sem,p3,p6,p7]
     refine⟨m,Nat.lt_succ_self _,(hI _ _ _).2 ⟨l++[nd.1],ls++[[sV nd.1.nm,y1,y2,y3,y4,.int .i64 nd.1.a]],.slice (η5.nx+1+1) 0 (ls.length+1) (.un 6),nd.2,⟨p3,p6,rfl⟩,?_,h7,?_,?_,?_,?_,?_,?_,?_,?_⟩⟩
     ·omega
     ·exact(k7 _ (by omega) (fun g=>by have:=xlo _ g;omega)).trans c5
     ·exact⟨by have:=Xq.1;omega,fun b hb hc=>(k7 b (by omega) (fun g=>by have:=xlo _ g;omega)).trans ((Xq.trans X5).2 b hb hc)⟩
     ·rw[flatten_snoc,List.length_append];exact o7
     ·exact rdNs_keep (fun _ _ _=>rfl) (Nat.le_refl _) (fun b g=>⟨g.1,g.2.1,fun g'=>g.2.2 (by have:η5.nx+1+1=b:=g';omega)⟩) t7
     ·rw[←wq,w1]
     ·rw[List.length_append,List.length_append,ll];rfl
     ·rw[List.length_append];simp only[List.length_cons,List.length_nil];omega
     ·rw[List.length_append];simp only[List.length_cons,List.length_nil];omega
  ·rw[nodesL_stop (fun g=>z0 g.1)]at wq
   simp -implicitDefEqProofs(disch:=omega)only[go_sem,p3,p6,p7,hqb]
   exact fin ζ (.refl _ _) q hq wq.symm _ p3 p6 p7
 ·have eP:parseF T=([],(cutF T).2):=if_neg z
  rw[eP]at k
  simp -implicitDefEqProofs(disch:=omega)only[go_sem,c1]
  refine k _ _ ⟨fun b g=>g.elim,[],.inl ⟨rfl,.inl rfl⟩,rfl,.inl rfl⟩ ?_
  exact extP (extN E1)
end Go.Proofs.YtdeejbnhlbddgaaGreatDoor
