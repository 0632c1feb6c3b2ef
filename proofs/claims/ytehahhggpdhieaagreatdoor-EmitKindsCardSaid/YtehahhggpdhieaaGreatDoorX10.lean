/- Lemmas of the walk of EmitKinds are proved. Conditions: none. -/
import Derived.Test.YtehahhggpdhieaaGreatDoorX9
namespace Go.Proofs.YtehahhggpdhieaaGreatDoor
set_option maxRecDepth 100000
set_option maxHeartbeats 32000000
set_option linter.all false
section
section
variable {L:List Wd}{d:Nat}{G:Option dn}
def ahI(FL:nU G)(D:tw L G d)(E:np 134 L d (dU L G))(I:np 205 L d (qX L G)):np 204 L d (oB L G):=by
 intro U pb y p Q h k;refine c0 Tryz.func204 ?_;have hn:=h.I;have t:(wd L p).cells=[II (wd L p).k,.s (wd L p).t.1 (wd L p).t.2,II (wd L p).n,II (wd L p).a]:=rfl;let⟨M,hM⟩:=jH λg j=>g 0=.p pb 0/\g 2=.p U.h 0/\(∃K,U.h<K/\K<j.h/\g 3=.p K 0/\j.f K=LL (wd L p).cells)/\PA j pb y L d (lB L p)/\
   j.f U.h=LL [.s 0 0,.s 0 0,II 0,II 0,.e]/\ax pb U j/\oB L G p=ii L G (wd L p) (lB L p)
 refine iB (M:=M) 4 _ _ _ ?_ ?_
 .intro g j hm;let⟨u,p2,⟨K,g1,g2,p3,dq⟩,P,cq,Xq,eq⟩:=(hM _ _).1 hm;rw[eq] at k;rw[t] at dq;have kq:(lB L p).k=p.k:=ahG;have wq:wd L (lB L p)=wd L p:=by unfold wd;rw[kq]
  generalize k4:lB L p=q at*;have j3:=P.I;have a7:=P.D;have k2:=P.g.2.1;have g9:=P.k;have cy:¬ar y U.h:=h.fresh (ak _);simp(disch:=omega)only[lT,lU];let⟨M2,g5⟩:=jH λg j=>g 0=.p pb 0/\g 2=.p U.h 0/\g 3=.p K 0/\K<j.h/\j.f K=LL [II (wd L p).k,.s (wd L p).t.1 (wd L p).t.2,II (wd L p).n,II (wd L p).a]/\PA j pb y L d q/\
    j.f U.h=LL [.s 0 0,.s 0 0,II 0,II 0,.e]/\ax pb U j/\ii L G (wd L p) q=pU L G (wd L p).a q
  refine iB (M:=M2) 1 _ _ _ ?_ ?_
  .intro g j hm;clear cq dq Xq P j3 a7 g2 u p2 p3;let⟨u,p2,p3,g2,dq,P,cq,Xq,eR⟩:=(g5 _ _).1 hm;rw[eR] at k;simp(disch:=omega)only[lT,lU];let⟨M3,g6⟩:=jH λg j=>∃a9 lo x l W C,g 0=.p pb 0/\g 2=.p U.h 0/\g 12=.p a9 0/\(U.h<a9/\a9<lo/\lo<=j.h)/\PA j pb y L d C/\j.f U.h=LL [.s 0 0,.s 0 0,II 0,II 0,.e]/\
     j.f a9=LL [.s 4 1819042147,.s (aG L q).1.1 (aG L q).1.2,II 0,II (wd L p).a,x]/\aH 5 lo j x W.length W.flatten/\cw (λb=>lo<=b/\b<j.h/\¬ar x b) j l W/\ax pb U j/\
     pU L G (wd L p).a q=(.mk bK (aG L q).1 0 (wd L p).a l,aV L gW C)
   refine iB (M:=M3) 5 _ _ _ ?_ ?_
   .intro g j hm;let⟨a9,lo,x,l,W,C,u,p2,a8,⟨g1,g2,g3⟩,P,cq,dq,oq,rq,Xq,eV⟩:=(g6 _ _).1 hm;rw[eV] at k;refine S1 u ?_;refine al (nQ P gW λs h4 r=>?_);have n4:=r.1;have c4:s.f U.h=_:=(r.2 _ Y Y).t cq;have d4:s.f a9=_:=(r.2 _ Y Y).t dq;have o4:=dK oq (λb hb t=>r.2 b t Y) n4;have r4:=Bg (G:=λb=>lo<=b/\b<j.h/\¬ar x b) (λb q t=>r.2 b t (om q.1)) n4 (λ_ h=>h) rq;refine S4 p2 a8 c4 d4 ?_;have T:bn (λb=>lo<=b/\b<s.h) s (.mk bK (aG L q).1 0 (wd L p).a l) _:=Xf o4 r4 (λb q=>⟨q.1,om q.2.1⟩) (λb h1 h2=>⟨h1,h2⟩);exact k _ _ (pe (mT T (λq=>om q.1)) (λb q=>⟨om q.1,q.2⟩)) (h4.dh Y cy) ((Xq.M r).be (ak _))
   refine S1 u ?_;refine al (vn P λs h4 r=>?_);have n4:=r.1;refine S1 u ?_;refine al (mD h4 iV λn h5 x5=>?_);have n5:=x5.1;have X5:=r.M x5;have c5:n.f U.h=_:=(X5.2 _ Y Y).t cq;have d5:n.f K=_:=(X5.2 _ Y Y).t dq;unfold fJ at h5;cases e5:aN L iV (aG L q).2 with
   |false=>
    rw[e5,ac (by decide)] at h5;have eV:pU L G (wd L p).a q=(.mk bR (aG L q).1 0 (wd L p).a [],(aG L q).2):=ac (by rw[e5];decide);rw[eV] at k;simp(disch:=omega)only[go_sem,p2,p3,c5,d5,sV];exact k _ _ (DN (c:=bR)) (h5.dh Y cy) ((Xq.M X5).be (ak _))
   |true=>
   rw[e5,ae rfl] at h5;have eV:pU L G (wd L p).a q=yq L G (wd L p).a (aG L q).1 (bm (aG L q).2):=ae e5;simp(disch:=omega)only[go_sem,u,p3,d5,sV];let⟨i,e6,h6,c6,n6,X6,B6⟩:=jR (w:=LL [.s 4 1819042147,.s (aG L q).1.1 (aG L q).1.2,II 0,II (wd L p).a,.e]) h5;rw[<-e6];refine al (mD h6 gW λB h7 x7=>?_);have n7:=x7.1;have c7:B.f U.h=_:=(x7.2 _ Y Y).t ((B6.2 _ Y).t c5);have d7:B.f n.h=_:=(x7.2 _ Y Y).t c6;have X7:=((Xq.M X5).M X6).M x7;unfold fJ at h7;cases e7:aN L gW (bm (aG L q).2) with
   |true=>
    rw[e7,ae rfl] at h7;have e3:pU L G (wd L p).a q=(.mk bK (aG L q).1 0 (wd L p).a [],bm (bm (aG L q).2)):=eV.t (ae e7);rw[e3] at k;refine S3 p2 c7 d7 ?_;exact k _ _ (DN (c:=bK)) (h7.dh Y cy) (X7.be (ak _))
   |false=>
   rw[e7,ac (by decide)] at h7;have e3:pU L G (wd L p).a q=(.mk bK (aG L q).1 0 (wd L p).a (jC L G L.length [] (bm (aG L q).2)).1,aV L gW (jC L G L.length [] (bm (aG L q).2)).2):=eV.t (ac (by rw[e7];decide));refine S0 ?_;let⟨J,hJ⟩:=inv λm g j=>∃x l W C,(g 0=.p pb 0/\g 2=.p U.h 0/\g 12=.p n.h 0)/\i.h<=j.h/\PA j pb y L d C/\j.f U.h=LL [.s 0 0,.s 0 0,II 0,II 0,.e]/\
     j.f n.h=LL [.s 4 1819042147,.s (aG L q).1.1 (aG L q).1.2,II 0,II (wd L p).a,x]/\aH 5 i.h j x W.length W.flatten/\cw (λb=>i.h<=b/\b<j.h/\¬ar x b) j l W/\ax pb U j/\
     jC L G m l C=jC L G L.length [] (bm (aG L q).2)/\(C.e=0->L.length<=C.k+m)/\W.length+m<=L.length
   refine aT J L.length ((hJ _ _ _).2 ⟨.e,[],[],_,⟨u,p2,rfl⟩,n7,h7,c7,d7,.nil,by unfold cw;rfl,X7,rfl,λ_=>tr _ _,by simp⟩) ?_;intro m g j g;let⟨x,l,W,C,⟨u,p2,a8⟩,g3,P,cq,dq,oq,rq,Xq,wq,fq,bq⟩:=(hJ _ _ _).1 g;have a7:=P.D;have g9:=P.k;by_cases z0:C.e=0
   .obtain _|m:=m
    .have:=fq z0;omega
    have w1:jC L G (m+1) l C=if aN L pR (dU L G C).2 then jC L G m (l++[(dU L G C).1]) (bm (dU L G C).2) else(l++[(dU L G C).1],(dU L G C).2):=ae z0
    rw[z0] at a7;refine S2 u a7 ?_;refine al (E j pb y _ _ P λg c r8 F v=>?_);have n8:=v.1;have g:=fN r8;have c8:c.f U.h=_:=(v.2 _ Y Y).t cq;have d8:c.f n.h=_:=(v.2 _ Y Y).t dq;have o8:=dK oq (λb hb t=>v.2 b t Y) n8;have s8:=Bg (G:=λb=>i.h<=b/\b<j.h/\¬ar x b) (λb q t=>v.2 b t (om q.1)) n8 (λ_ h=>h) rq;have j4:∀b,ar x b->b<j.h:=λb hb=>(cz oq hb).2;obtain⟨a1,a2,a3,a4,a5,rfl⟩:=cJ r8;refine S2 a8 d8 ?_;have o9:aH 5 i.h ((c.X (LL [a1,a2,a3,a4,a5])).X (LL [a1,a2,a3,a4,a5])) x W.length W.flatten:=dK o8 (λb _ t=>by simp(disch:=omega)only[go_sem]) (by show c.h<=c.h+1+1;omega);refine tm dc o9 (cD.lits (s:=5) (n:=1) rfl) dc Y (by show i.h<=c.h+1+1;omega) λo o9 n9 k9=>?_;have n9:o.h=c.h+1+1+1:=n9;have k9:∀b,b<c.h->¬ar x b->o.f b=c.f b:=λb hb t=>(k9 b (by show b<c.h+1+1;omega) t).t (by simp(disch:=omega)only[go_sem]);have c9:o.f U.h=_:=(k9 _ Y (λg=>om (cz oq g))).t c8;have d9:o.f n.h=_:=(k9 _ Y (λg=>om (cz oq g))).t d8;have x:ax pb U o:=⟨om Xq.1,λb hb t=>(k9 b (om Xq.1) (λg=>om (cz oq g))).t ((Xq.M v).2 b hb t)⟩;have h9:PA o pb y L d (dU L G C).2:=by
     have yl:∀b,ar y b->b<U.h:=λb hb=>vQ λg=>h.fresh g hb;exact⟨(k9 pb F.I (λg=>om (cz oq g))).t F.D,om F.I,aK.aR (F:=λb=>b<U.h) F.hy yl (λb hb t=>k9 b t (λg=>om (cz oq g))) Y,F.hp,F.g,F.k,F.e,F.b,F.q,F.n⟩
    have r9:cw (λb=>i.h<=b/\b<o.h/\b≠c.h+1+1) o (l++[(dU L G C).1]) (W++[[.s a1.1 a1.2,.s a2.1 a2.2,II a3,II a4,a5]]):=by
     refine zi (Bg (λb q t=>k9 b t q.2.2) Y (λb q=>⟨q.1,om q.2.1,om q.2.1⟩) s8) ?_;exact gq (λb q t=>k9 b t (λg=>by have:=j4 b g;have:=q.1;omega)) Y (λb q=>⟨om q.1,om q.2,om q.2⟩) _ _ r8
    refine S3 u a8 d9 ?_;have b6:PA (o.put n.h (LL [.s 4 1819042147,.s (aG L q).1.1 (aG L q).1.2,II 0,II (wd L p).a,.a (c.h+1+1) 0 (W.length+1) (.B 5)])) pb y L d (dU L G C).2:=h9.dh Y (h.fresh Y);refine al (mD b6 pR λa a6 V=>?_);have e9:o.h<=a.h:=V.1;have b7:ax pb U a:=(x.be Y).M V;have b8:a.f U.h=LL [.s 0 0,.s 0 0,II 0,II 0,.e]:=(V.2 _ (by show U.h<o.h;omega) Y).t ((ac Y).t c9);have b9:a.f n.h=LL [.s 4 1819042147,.s (aG L q).1.1 (aG L q).1.2,II 0,II (wd L p).a,.a (c.h+1+1) 0 (W.length+1) (.B 5)]:=(V.2 _ (by show n.h<o.h;omega) Y).t (ae rfl);have i0:aH 5 i.h a (.a (c.h+1+1) 0 (W.length+1) (.B 5)) (W++[[.s a1.1 a1.2,.s a2.1 a2.2,II a3,II a4,a5]]).length (W++[[.s a1.1 a1.2,.s a2.1 a2.2,II a3,II a4,a5]]).flatten:=by
     rw[oW,ay];exact dK o9 (λb hb t=>(V.2 b t Y).t (ac Y)) e9
    have b0:cw (λb=>i.h<=b/\b<a.h/\¬ar (.a (c.h+1+1) 0 (W.length+1) (.B 5)) b) a (l++[(dU L G C).1]) (W++[[.s a1.1 a1.2,.s a2.1 a2.2,II a3,II a4,a5]]):=
     Bg (U:=o) (U':=a) (λb q t=>(V.2 b t (om q.1)).t (ac (om q.1))) e9 (λb q=>⟨q.1,om q.2.1,λg=>q.2.2 (by have:c.h+1+1=b:=g;omega)⟩) r9
    unfold fJ at a6;cases e1:aN L pR (dU L G C).2 with
    |true=>
     rw[e1,ae rfl] at a6 w1;refine S0 ?_;refine⟨m,bJ _,(hJ _ _ _).2 ⟨_,_,_,_,⟨u,p2,a8⟩,Y,a6,b8,b9,i0,b0,b7,by rw[<-wq,w1],λg=>?_,by rw[ay];simp only[bt,hN];omega⟩⟩;have l:gh C (dU L G C).2:=wy FL C;have x:=l g
     have:=fq z0
     show L.length<=(dU L G C).2.k+1+m;omega
    |false=>
     rw[e1,ac (by decide)] at a6 w1;refine S0 ?_;exact(g6 _ _).2 ⟨_,_,_,_,_,_,u,p2,a8,⟨Y,Y,Y⟩,a6,b8,b9,i0,b0,b7,by rw[e3,<-wq,w1]⟩
   .refine S2 u a7 ?_;rw[aaZ z0] at wq;exact(g6 _ _).2 ⟨_,_,_,_,_,_,u,p2,a8,⟨Y,Y,g3⟩,P,cq,dq,oq,rq,Xq,by rw[e3,<-wq]⟩
  by_cases e0:q.e=0
  .have g:=a7;rw[e0] at g;by_cases k3:(wd L p).k=3
   .have eR:ii L G (wd L p) q=(.mk fm (0,0) (wd L p).n (wd L p).a [],bm q):=ae ⟨e0,k3⟩;rw[eR] at k;rw[k3] at dq;refine S6 u p2 p3 g dq cq ?_;have A:PA (j.put pb (LL [y,II (q.k+1),II 0,q.b,d,q.p,q.x])) pb y L d (bm q):=
     P.put (a:=bm q) (ax.refl pb j).put (by rw[<-e0];exact ae rfl) (Ae h.g g9 (by rw[wq];omega)) P.e P.b P.q P.n
    exact k _ _ (DN (c:=fm) (b:=(0,0))) (A.dh Y cy) (Xq.put.be (ak _))
   refine S4 u p3 g dq ?_;refine al (mD P uq λs h4 r=>?_);have n4:=r.1;have c4:s.f U.h=_:=(r.2 _ Y Y).t cq;have d4:s.f K=_:=(r.2 _ Y Y).t dq;have X4:=Xq.M r;unfold fJ at h4;cases e4:aN L uq q with
   |true=>
    rw[e4,ae rfl] at h4;have eR:ii L G (wd L p) q=(.mk cX (0,0) 1 (wd L p).a [],bm q):=by unfold ii;rw[ac (λz=>k3 z.2),ae e4]
    rw[eR] at k;refine S4 p2 p3 c4 d4 ?_;exact k _ _ (DN (c:=cX) (b:=(0,0))) (h4.dh Y cy) (X4.be (ak _))
   |false=>
   rw[e4,ac (by decide)] at h4;refine S1 u ?_;refine al (mD h4 uk λn h5 x5=>?_);have n5:=x5.1;have c5:n.f U.h=_:=(x5.2 _ Y Y).t c4;have d5:n.f K=_:=(x5.2 _ Y Y).t d4;have X5:=X4.M x5;unfold fJ at h5;cases e5:aN L uk q with
   |true=>
    rw[e5,ae rfl] at h5;have eR:ii L G (wd L p) q=(.mk cX (0,0) 0 (wd L p).a [],bm q):=by unfold ii;rw[ac (λz=>k3 z.2),ac (by rw[e4];decide),ae e5]
    rw[eR] at k;refine S4 p2 p3 c5 d5 ?_;exact k _ _ (DN (c:=cX) (b:=(0,0))) (h5.dh Y cy) (X5.be (ak _))
   |false=>
   rw[e5,ac (by decide)] at h5;refine S1 u ?_;refine al (mD h5 jK λi h6 x6=>?_);have n6:=x6.1;have c6:i.f U.h=_:=(x6.2 _ Y Y).t c5;have d6:i.f K=_:=(x6.2 _ Y Y).t d5;have X6:=X5.M x6;unfold fJ at h6;cases e6:aN L jK q with
   |true=>
    rw[e6,ae rfl] at h6;have eR:ii L G (wd L p) q=C0 L G (wd L p).a (bm q):=by unfold ii;rw[ac (λz=>k3 z.2),ac (by rw[e4];decide),ac (by rw[e5];decide),ae e6]
    rw[eR] at k;refine S1 u ?_;refine al (E i pb y _ _ h6 λj B r7 h7 x7=>?_);have n7:=x7.1;have g:=fN r7;have c7:B.f U.h=_:=(x7.2 _ Y Y).t c6;have d7:B.f K=_:=(x7.2 _ Y Y).t d6;refine S2 u g ?_;let⟨c,g,F,f8,n8,l,m⟩:=jR (w:=LL j) h7;rw[<-g];refine al (nQ F MH λo h9 x9=>?_);have n9:=x9.1;refine S1 u ?_;refine al (E o pb y _ _ h9 λC a0 g7 b6 g=>?_);have j7:=g.1;have j:=fN g7;have Xa:=(l.M x9).M g;have l:a0.f U.h=_:=(Xa.2 _ Y Y).t c7;have m:a0.f K=_:=(Xa.2 _ Y Y).t d7;have g4:a0.f B.h=_:=((x9.M g).2 _ Y Y).t f8;have W:=nI r7 Xa (λq=>om q.1);refine S2 u j ?_;let⟨a,e1,a6,x,e9,b7,g⟩:=jR (w:=LL C) b6;rw[<-e1];refine al (nQ a6 MG λj C g=>?_);have k5:=g.1;refine S1 u ?_;refine al (E j pb y _ _ C λj f g8 j2 j=>?_);have C:=j.1;have j6:=fN g8;have Xb:=(b7.M g).M j;have i6:f.f U.h=_:=(Xb.2 _ Y Y).t l;have i7:f.f K=_:=(Xb.2 _ Y Y).t m;have j0:f.f B.h=_:=(Xb.2 _ Y Y).t g4;have j1:f.f a0.h=_:=((g.M j).2 _ Y Y).t x;have j9:=nI W Xb (λq=>om q.1);have k0:=nI g7 Xb (λq=>om q.1);obtain⟨a1,a2,a3,a4,a5,rfl⟩:=cJ r7;obtain⟨b1,b2,b3,b4,b5,rfl⟩:=cJ g7;obtain⟨g,g,g,g,g,rfl⟩:=cJ g8;refine S7 p2 p3 i6 i7 j0 j1 j6 ?_;refine k _ _ (ahN (s:=jK) (r:=(0,0)) (c:=U.h) (pb:=pb) j9 k0 g8 (λb q=>⟨⟨om q.1,by have:=q.2;show b<f.h+1+1;omega⟩,om q.1,om q.1⟩) (λb q=>⟨⟨om q.1,by have:=q.2;show b<f.h+1+1;omega⟩,om q.1,om q.1⟩) (λb q=>⟨⟨om q.1,by have:=q.2;show b<f.h+1+1;omega⟩,om q.1,om q.1⟩)
     (λb q1 q2 q3=>by simp(disch:=omega)only[go_sem]) (by show f.h<=f.h+1+1;omega) (by simp(disch:=omega)only[go_sem]) (by show f.h+1<f.h+1+1;omega) ⟨Y,by show f.h+1<f.h+1+1;omega⟩) ?_ ?_
    .exact j2.X.X.dh Y cy
    .exact((((X6.M x7).M Xa).M Xb).X.X).be (ak _)
   |false=>
   rw[e6,ac (by decide)] at h6;refine S1 u ?_;refine al (mD h6 bD λB h7 x7=>?_);have n7:=x7.1;have c7:B.f U.h=_:=(x7.2 _ Y Y).t c6;have d7:B.f K=_:=(x7.2 _ Y Y).t d6;have X7:=X6.M x7;unfold fJ at h7;cases e7:aN L bD q with
   |true=>
    rw[e7,ae rfl] at h7;have eR:ii L G (wd L p) q=Dh L G (wd L p).a (bm q):=by unfold ii;rw[ac (λz=>k3 z.2),ac (by rw[e4];decide),ac (by rw[e5];decide),ac (by rw[e6];decide),ae e7]
    rw[eR] at k;refine S1 u ?_;refine al (vn h7 λc F v=>?_);have n8:=v.1;refine S1 u ?_;refine al (I c pb y _ _ F λl o r9 h9 x9=>?_);have n9:=x9.1;have f:=fN r9;refine S2 u f ?_;let⟨a0,g,b6,g4,j7,f,j⟩:=jR (w:=LL l) h9;rw[<-g];refine al (I a0 pb y _ _ b6 λg a b0 a6 V=>?_);have e9:=V.1;have Xa:=f.M V;have Xb:=(v.M x9).M Xa;have b8:a.f U.h=_:=(Xb.2 _ Y Y).t c7;have b9:a.f K=_:=(Xb.2 _ Y Y).t d7;have i9:a.f o.h=_:=(V.2 _ Y Y).t g4;have j5:=fN b0;have j8:=nI r9 Xa (λq=>om q.1);obtain⟨a1,a2,a3,a4,a5,rfl⟩:=cJ r9;obtain⟨b1,b2,b3,b4,b5,rfl⟩:=cJ b0;simp(disch:=omega)only[go_sem,p2,p3,b8,b9,i9,j5,fp,ft,bF,sV];refine k _ _ (wY (q:=bD) (c:=U.h) (pb:=pb) j8 b0 (λb q=>⟨⟨om q.1,by have:=q.2;show b<a.h+1+1;omega⟩,om q.1,om q.1⟩) (λb q=>⟨⟨om q.1,by have:=q.2;show b<a.h+1+1;omega⟩,om q.1,om q.1⟩)
     (λb q1 q2 q3=>by simp(disch:=omega)only[go_sem]) (by show a.h<=a.h+1+1;omega) (by simp(disch:=omega)only[go_sem]) (by show a.h+1<a.h+1+1;omega) ⟨Y,by show a.h+1<a.h+1+1;omega⟩) ?_ ?_
    .exact a6.X.X.dh Y cy
    .exact((X7.M Xb).X.X).be (ak _)
   |false=>
   rw[e7,ac (by decide)] at h7;have eR:ii L G (wd L p) q=pU L G (wd L p).a q:=by unfold ii;rw[ac (λz=>k3 z.2),ac (by rw[e4];decide),ac (by rw[e5];decide),ac (by rw[e6];decide),ac (by rw[e7];decide)]
   refine S0 ?_;exact(g5 _ _).2 ⟨u,p2,p3,Y,d7,h7,c7,X7,eR⟩
  .have eR:ii L G (wd L p) q=pU L G (wd L p).a q:=by unfold ii;rw[ac (λz=>e0 z.1),ac (by rw[Gs e0];decide),ac (by rw[Gs e0];decide),ac (by rw[Gs e0];decide),ac (by rw[Gs e0];decide)]
   refine S2 u a7 ?_;exact(g5 _ _).2 ⟨u,p2,p3,g2,dq,P,cq,Xq,eR⟩
 .refine S0 ?_;let⟨_,e0,f,c0,_,j,a⟩:=jR (w:=LL [.s 0 0,.s 0 0,II 0,II 0,.e]) h;rw[<-e0];refine al (lf f λw a=>?_);have g:=a.1;have h1:=f.fS a;have m:w.f U.h=_:=(a.2 U.h Y).t c0;rw[t];refine S0 ?_;let⟨_,f,h2,o,_,l,g⟩:=jR (w:=LL [II (wd L p).k,.s (wd L p).t.1 (wd L p).t.2,II (wd L p).n,II (wd L p).a]) h1;rw[<-f];refine al (mD h2 iV λg0 h3 f=>?_);have u:=f.1;have K:g0.f U.h=_:=(f.2 _ Y Y).t ((g.2 _ Y).t m);have d3:g0.f w.h=_:=(f.2 _ Y Y).t o;have X3:ax pb U g0:=((j.of a).M l).M f;unfold fJ at h3;cases e:aN L iV p with
  |true=>
   rw[e,ae rfl] at h3;have eF:oB L G p=((dU L G (bm p)).1,aV L gW (dU L G (bm p)).2):=ae e;rw[eF] at k;refine S0 ?_;refine al (E g0 pb y _ _ h3 λg s r4 h4 r=>?_);have n4:=r.1;have a:=fN r4;have c4:s.f U.h=_:=(r.2 _ Y Y).t K;refine S1 a ?_;let⟨n,e5,h5,c5,n5,X5,f⟩:=jR (w:=LL g) h4;rw[<-e5];refine al (nQ h5 gW λi h6 x6=>?_);have n6:=x6.1;have c6:i.f U.h=_:=(x6.2 _ Y Y).t ((f.2 _ Y).t c4);have d6:i.f s.h=_:=(x6.2 _ Y Y).t c5;refine S3 c6 d6 a ?_;exact k _ _ (pe (mT (nI r4 (X5.M x6) (λq=>om q.1)) (λq=>om q.1)) (λb q=>⟨om q.1,by have:=q.2;show b<i.h;omega⟩)) (h6.dh Y (h.fresh (ak _))) ((((X3.M r).M X5).M x6).be (ak _))
  |false=>
   rw[e,ac (by decide)] at h3;have eF:oB L G p=ii L G (wd L p) (lB L p):=ac (by rw[e];decide);by_cases k1:(wd L p).k=1
   .have eQ:lB L p=bf L p:=ae (.inl k1);rw[k1] at d3;refine S1 d3 ?_;refine al (oA h3 λs h4 r=>?_);have n4:=r.1;refine S0 ?_;exact(hM _ _).2 ⟨rfl,rfl,⟨w.h,Y,Y,rfl,by rw[t,k1];exact(r.2 _ Y Y).t d3⟩,by rw[eQ];exact h4,(r.2 _ Y Y).t K,X3.M r,eF⟩
   by_cases k3:(wd L p).k=3
   .have eQ:lB L p=bf L p:=ae (.inr (.inl k3));rw[k3] at d3;refine S1 d3 ?_;refine al (oA h3 λs h4 r=>?_);have n4:=r.1;refine S0 ?_;exact(hM _ _).2 ⟨rfl,rfl,⟨w.h,Y,Y,rfl,by rw[t,k3];exact(r.2 _ Y Y).t d3⟩,by rw[eQ];exact h4,(r.2 _ Y Y).t K,X3.M r,eF⟩
   refine S1 d3 ?_;refine al (lO h3 uq λs r=>?_);have n4:=r.1;have h4:=h3.fS r;have c4:s.f U.h=_:=(r.2 _ Y).t K;have d4:s.f w.h=_:=(r.2 _ Y).t d3;have X4:=X3.of r;cases e4:aN L uq p with
   |true=>
    have eQ:lB L p=bf L p:=ae (.inr (.inr (.inl e4)));refine S0 ?_;refine al (oA h4 λc F v=>?_);have n8:=v.1;refine S0 ?_;exact(hM _ _).2 ⟨rfl,rfl,⟨w.h,Y,Y,rfl,by rw[t];exact(v.2 _ Y Y).t d4⟩,by rw[eQ];exact F,(v.2 _ Y Y).t c4,X4.M v,eF⟩
   |false=>
   refine S0 ?_;refine al (lO h4 uk λn x5=>?_);have n5:=x5.1;have h5:=h4.fS x5;have c5:n.f U.h=_:=(x5.2 _ Y).t c4;have d5:n.f w.h=_:=(x5.2 _ Y).t d4;have X5:=X4.of x5;cases e5:aN L uk p with
   |true=>
    have eQ:lB L p=bf L p:=ae (.inr (.inr (.inr (.inl e5))));refine S0 ?_;refine al (oA h5 λc F v=>?_);have n8:=v.1;refine S0 ?_;exact(hM _ _).2 ⟨rfl,rfl,⟨w.h,Y,Y,rfl,by rw[t];exact(v.2 _ Y Y).t d5⟩,by rw[eQ];exact F,(v.2 _ Y Y).t c5,X5.M v,eF⟩
   |false=>
   refine S0 ?_;refine al (lO h5 jK λi x6=>?_);have n6:=x6.1;have h6:=h5.fS x6;have c6:i.f U.h=_:=(x6.2 _ Y).t c5;have d6:i.f w.h=_:=(x6.2 _ Y).t d5;have X6:=X5.of x6;cases e6:aN L jK p with
   |true=>
    have eQ:lB L p=bf L p:=ae (.inr (.inr (.inr (.inr (.inl e6)))));refine S0 ?_;refine al (oA h6 λc F v=>?_);have n8:=v.1;refine S0 ?_;exact(hM _ _).2 ⟨rfl,rfl,⟨w.h,Y,Y,rfl,by rw[t];exact(v.2 _ Y Y).t d6⟩,by rw[eQ];exact F,(v.2 _ Y Y).t c6,X6.M v,eF⟩
   |false=>
   refine S0 ?_;refine al (lO h6 bD λB x7=>?_);have n7:=x7.1;have h7:=h6.fS x7;have c7:B.f U.h=_:=(x7.2 _ Y).t c6;have d7:B.f w.h=_:=(x7.2 _ Y).t d6;have X7:=X6.of x7;cases e7:aN L bD p with
   |true=>
    have eQ:lB L p=bf L p:=ae (.inr (.inr (.inr (.inr (.inr (e7))))));refine S0 ?_;refine al (oA h7 λc F v=>?_);have n8:=v.1;refine S0 ?_;exact(hM _ _).2 ⟨rfl,rfl,⟨w.h,Y,Y,rfl,by rw[t];exact(v.2 _ Y Y).t d7⟩,by rw[eQ];exact F,(v.2 _ Y Y).t c7,X7.M v,eF⟩
   |false=>
   refine S0 ?_;have eQ:lB L p=p:=ac (by rw[e4,e5,e6,e7];simp[k1,k3]);exact(hM _ _).2 ⟨rfl,rfl,⟨w.h,Y,Y,rfl,by rw[t];exact d7⟩,by rw[eQ];exact h7,c7,X7,eF⟩
end
end
section
section
variable {L:List Wd}{d:Nat}{G:Option dn}
def aih(FL:nU G)(W:rL L d 1 (bP L G 4)):rL L d 0 (bP L G 5):=by
 intro f pb y p Q h k;refine c0 Tryz.func170 ?_;have n:=h.I;refine S0 ?_;obtain⟨g,n,u,c0,z,I,X0⟩:∃g,g=((((((f.X (LL [.s 0 0,.s 0 0,II 0,II 0,.e])).X (LL [.s 2 29295,.s 3 7499640])).X (LL [.s 3 6581857])).X (LL [.s 1 61,.s 2 15932,.s 1 60,.s 2 15676,.s 1 62,.s 2 15678])).X (LL [.s 1 43,.s 1 45])).X (LL [.s 1 42,.s 1 47,.s 3 6582125])).X (LL [.a (f.h+1) 0 2 (.k 2),.a (f.h+1+1) 0 1 (.k 1),.a (f.h+1+1+1) 0 6 (.k 6),.a (f.h+1+1+1+1) 0 2 (.k 2),.a (f.h+1+1+1+1+1) 0 3 (.k 3)])/\PA g pb y L d p/\g.f f.h=LL [.s 0 0,.s 0 0,II 0,II 0,.e]/\g.f (f.h+1)=LL ([gV,gX].map sV)/\g.h=f.h+7/\ax pb f g:=
  ⟨_,rfl,h.X.X.X.X.X.X.X,by simp(disch:=omega)only[go_sem],by simp(disch:=omega)only[go_sem];rfl,rfl,((((((ax.refl pb f).X.X).X).X).X).X).X⟩
 rw[<-n];refine al (W g pb y p _ u λz1 j r1 u x1=>?_);have n:=fN r1;have I:=x1.1;have c1:=(x1.2 f.h Y Y).t c0;have o1:=(x1.2 (f.h+1) Y Y).t z;refine S1 n ?_;let⟨a0,n,h2,c2,z,X2,B2⟩:=jR (w:=LL z1) u;rw[<-n];let⟨I,hI⟩:=inv λm n u=>∃a z q,(n 0=.p pb 0/\n 1=II 0/\n 4=.p f.h 0/\n 5=.a (f.h+1) 0 2 (.k 2)/\n 6=.p j.h 0)/\PA u pb y L d q/\
   u.f f.h=LL [.s 0 0,.s 0 0,II 0,II 0,.e]/\u.f j.h=LL z/\u.f (f.h+1)=LL ([gV,gX].map sV)/\bn (λb=>g.h<=b/\b<u.h/\b≠j.h) u a z/\a0.h<=u.h/\ax pb f u/\
   fO L (bP L G 4) [gV,gX] false m a q=bP L G 5 p/\(q.e=0->L.length<=q.k+m)
 refine aT I L.length ((hI _ _ _).2 ⟨_,z1,_,⟨rfl,rfl,rfl,rfl,rfl⟩,h2,(B2.2 _ Y).t c1,c2,(B2.2 _ Y).t o1,gq (λb _ I=>B2.2 b I) B2.1 (λb q=>⟨q.1,om q.2,om q.2⟩) _ _ r1,ak _,(X0.M x1).M X2,rfl,λ_=>tr _ _⟩) ?_;intro m n u I;let⟨a,_,q,⟨z,p1,p4,p5,p6⟩,hq,cq,dq,oq,rq,nq,Xq,wq,fq⟩:=(hI _ _ _).1 I;refine S1 z ?_;refine al (lf hq λI x3=>?_);have I:(wd L q).cells=[II (wd L q).k,.s (wd L q).t.1 (wd L q).t.2,II (wd L q).n,II (wd L q).a]:=rfl;rw[I];refine S0 ?_;let⟨J,hJ⟩:=inv λm n r=>∃i,m=2-i/\i<=2/\(n 0=.p pb 0/\n 1=II 0/\n 4=.p f.h 0/\n 5=.a (f.h+1) 0 2 (.k 2)/\n 6=.p j.h 0)/\
   n 7=II (wd L q).a/\n 8=.s (my L [gV,gX] q i).1 (my L [gV,gX] q i).2/\n 9=II i/\ai u.h u r
 refine aT J 2 ((hJ _ _ _).2 ⟨0,rfl,aJ _,⟨z,p1,p4,p5,p6⟩,rfl,rfl,rfl,x3⟩) ?_;intro n a1 r u;let⟨i,_,n,⟨B,s1,s4,C,s6⟩,s7,s,s9,t⟩:=(hJ _ _ _).1 u;have w:=hq.fS t;have n:=t.1;have oj:r.f (f.h+1)=_:=(t.2 _ Y).t oq;by_cases x:i<2
 .have gi:=xj [gV,gX] i x;have n:([gV,gX].map sV).length=2:=rfl;refine S5 B C s9 oj gi ?_;refine al (lO w ([gV,gX].getD i (0,0)) λn x4=>?_);have a2:n.f (f.h+1)=_:=(x4.2 _ Y).t oj;have o:=DA (L:=L) (p:=q) (a:=[gV,gX]) x;cases e:aN L ([gV,gX].getD i (0,0)) q with
  |true=>
   rw[e,ae rfl] at o;refine S4 C s9 a2 gi ?_;exact⟨2-(i+1),Y,(hJ _ _ _).2 ⟨i+1,rfl,Y,⟨B,s1,s4,C,s6⟩,s7,by rw[o];rfl,rfl,t.M (x4.mono t.1)⟩⟩
  |false=>
   rw[e,ac (by decide)] at o;refine S1 s9 ?_;exact⟨2-(i+1),Y,(hJ _ _ _).2 ⟨i+1,rfl,Y,⟨B,s1,s4,C,s6⟩,s7,by rw[o];exact s,rfl,t.M (x4.mono t.1)⟩⟩
 obtain rfl:i=2:=Y;have o:my L [gV,gX] q 2=(kf L [gV,gX] q).getD (0,0):=Dz;rw[o] at s;have cj:r.f f.h=_:=(t.2 _ Y).t cq;have dj:r.f j.h=_:=(t.2 _ Y).t dq;have rj:=rp rq t;have lq:=fN rq;cases e:kf L [gV,gX] q with
 |none=>
  rw[e] at s;have s:a1 8=.s 0 0:=s;have v:aI 0 0 0 0=true:=rfl;simp(disch:=omega)only[go_sem,s4,C,s6,s,s9,v,cj,dj,lq];have D:fO L (bP L G 4) [gV,gX] false m a q=(a,q):=by
   cases m with
   |zero=>rfl
   |succ m=>unfold fO;rw[e]
  rw[D] at wq;rw[<-wq] at k;exact k _ _ (pe (mT rj (λq=>om q.1)) (λb q=>⟨om q.1,by have:=q.2.1;show b<r.h;omega⟩)) (w.dh Y (h.fresh (ak _))) ((Xq.of t).be (ak _))
 |some l=>
  rw[e] at s;have s:a1 8=.s l.1 l.2:=s;let⟨i,ei⟩:=A7 e;have v:aI l.1 l.2 0 0=false:=by
   revert l;simp only[bY,kN,lY]
   rintro l - - - i -
   rcases i with rfl|rfl<;>rfl
  let⟨he,i,_⟩:=qo ei;have x:=hq.k;obtain _|m:=m
  .have:=fq he;omega
  refine S5 B C s s9 v ?_;refine al (oA w λi i k=>?_);refine S2 B s ?_;refine al (wu l i λi o n=>?_);refine S2 B s1 ?_;refine al (W i pb y _ _ o λi c r8 h8 i=>?_);have o:=k.1;have o:=n.1;have o:=i.1;have X8:=(k.M n).M i;have c8:c.f f.h=_:=(X8.2 _ Y Y).t cj;have d8:c.f j.h=_:=(X8.2 _ Y Y).t dj;have o8:c.f (f.h+1)=_:=(X8.2 _ Y Y).t oj;have v8:=nI rj X8 (λq=>om q.1);have f:=fN r8;obtain⟨f1,f2,f3,f4,f5,rfl⟩:=cJ rq;obtain⟨F,K,P,V,g5,rfl⟩:=cJ r8;refine S5 s1 s6 s7 s d8 ?_;have T:bn (λb=>g.h<=b/\b<c.h+1+1/\b≠j.h) (((c.X (LL [F,K,P,V,g5])).X (LL [f1,f2,f3,f4,f5,F,K,P,V,g5])).put j.h (LL [l,.s 0 0,II 0,II (wd L q).a,.a (c.h+1) 0 2 (.k 2)]))
    (.mk l (0,0) 0 (wd L q).a [a,(bP L G 4 (cZ L l q)).1]) [l,.s 0 0,II 0,II (wd L q).a,.a (c.h+1) 0 2 (.k 2)]:=
   wY (o:=(0,0)) (c:=j.h) (pb:=pb) v8 r8 (λb q=>⟨⟨q.1,om q.2.1,q.2.2⟩,om q.1,q.2.2⟩) (λb q=>⟨⟨om q.1,om q.2,om q.1⟩,om q.1,om q.1⟩)
    (λb b q2 b=>by simp(disch:=omega)only[go_sem]) (by show c.h<=c.h+1+1;omega) (by simp(disch:=omega)only[go_sem]) (by show c.h+1<c.h+1+1;omega) ⟨Y,Y,Y⟩
  have b:=(h8.X (z:=LL [F,K,P,V,g5])).X (z:=LL [f1,f2,f3,f4,f5,F,K,P,V,g5]);have b:=b.dh (c:=j.h) (z:=LL [l,.s 0 0,II 0,II (wd L q).a,.a (c.h+1) 0 2 (.k 2)]) Y (λg=>h.fresh (c:=j.h) Y g);have f:=((((Xq.of t).M X8).X (y:=LL [F,K,P,V,g5])).X (y:=LL [f1,f2,f3,f4,f5,F,K,P,V,g5])).be (c:=j.h) (y:=LL [l,.s 0 0,II 0,II (wd L q).a,.a (c.h+1) 0 2 (.k 2)]) Y;have D:fO L (bP L G 4) [gV,gX] false m (.mk l (0,0) 0 (wd L q).a [a,(bP L G 4 (cZ L l q)).1]) (bP L G 4 (cZ L l q)).2=bP L G 5 p:=by
   rw[<-wq]
   conv=>rhs;unfold fO
   rw[e];rfl
  refine⟨m,bJ _,(hI _ _ _).2 ⟨_,_,_,⟨B,s1,s4,C,s6⟩,b,?_,ae rfl,?_,T,?_,f,D,λa=>?_⟩⟩
  .simp(disch:=omega)only[go_sem,c8]
  .simp(disch:=omega)only[go_sem,o8]
  .show a0.h<=c.h+1+1;omega
  .have b:gh (cZ L l q) (bP L G 4 (cZ L l q)).2:=wZ FL _ _;have c:=b a;have a:=CG ei c.1
   have:=fq he
   omega
end
section
variable {L:List Wd}{d:Nat}{G:Option dn}
def aii(FL:nU G)(W:rL L d 2 (bP L G 3)):rL L d 1 (bP L G 4):=by
 intro f pb y p Q h k;refine c0 Tryz.func170 ?_;have n:=h.I;refine S0 ?_;obtain⟨g,n,u,c0,z,I,X0⟩:∃g,g=((((((f.X (LL [.s 0 0,.s 0 0,II 0,II 0,.e])).X (LL [.s 2 29295,.s 3 7499640])).X (LL [.s 3 6581857])).X (LL [.s 1 61,.s 2 15932,.s 1 60,.s 2 15676,.s 1 62,.s 2 15678])).X (LL [.s 1 43,.s 1 45])).X (LL [.s 1 42,.s 1 47,.s 3 6582125])).X (LL [.a (f.h+1) 0 2 (.k 2),.a (f.h+1+1) 0 1 (.k 1),.a (f.h+1+1+1) 0 6 (.k 6),.a (f.h+1+1+1+1) 0 2 (.k 2),.a (f.h+1+1+1+1+1) 0 3 (.k 3)])/\PA g pb y L d p/\g.f f.h=LL [.s 0 0,.s 0 0,II 0,II 0,.e]/\g.f (f.h+1+1)=LL ([gS].map sV)/\g.h=f.h+7/\ax pb f g:=
  ⟨_,rfl,h.X.X.X.X.X.X.X,by simp(disch:=omega)only[go_sem],by simp(disch:=omega)only[go_sem];rfl,rfl,((((((ax.refl pb f).X.X).X).X).X).X).X⟩
 rw[<-n];refine al (W g pb y p _ u λz1 j r1 u x1=>?_);have n:=fN r1;have I:=x1.1;have c1:=(x1.2 f.h Y Y).t c0;have o1:=(x1.2 (f.h+1+1) Y Y).t z;refine S1 n ?_;let⟨a0,n,h2,c2,z,X2,B2⟩:=jR (w:=LL z1) u;rw[<-n];let⟨I,hI⟩:=inv λm n u=>∃a z q,(n 0=.p pb 0/\n 1=II 1/\n 4=.p f.h 0/\n 5=.a (f.h+1+1) 0 1 (.k 1)/\n 6=.p j.h 0)/\PA u pb y L d q/\
   u.f f.h=LL [.s 0 0,.s 0 0,II 0,II 0,.e]/\u.f j.h=LL z/\u.f (f.h+1+1)=LL ([gS].map sV)/\bn (λb=>g.h<=b/\b<u.h/\b≠j.h) u a z/\a0.h<=u.h/\ax pb f u/\
   fO L (bP L G 3) [gS] false m a q=bP L G 4 p/\(q.e=0->L.length<=q.k+m)
 refine aT I L.length ((hI _ _ _).2 ⟨_,z1,_,⟨rfl,rfl,rfl,rfl,rfl⟩,h2,(B2.2 _ Y).t c1,c2,(B2.2 _ Y).t o1,gq (λb _ I=>B2.2 b I) B2.1 (λb q=>⟨q.1,om q.2,om q.2⟩) _ _ r1,ak _,(X0.M x1).M X2,rfl,λ_=>tr _ _⟩) ?_;intro m n u I;let⟨a,_,q,⟨z,p1,p4,p5,p6⟩,hq,cq,dq,oq,rq,nq,Xq,wq,fq⟩:=(hI _ _ _).1 I;refine S1 z ?_;refine al (lf hq λI x3=>?_);have I:(wd L q).cells=[II (wd L q).k,.s (wd L q).t.1 (wd L q).t.2,II (wd L q).n,II (wd L q).a]:=rfl;rw[I];refine S0 ?_;let⟨J,hJ⟩:=inv λm n r=>∃i,m=1-i/\i<=1/\(n 0=.p pb 0/\n 1=II 1/\n 4=.p f.h 0/\n 5=.a (f.h+1+1) 0 1 (.k 1)/\n 6=.p j.h 0)/\
   n 7=II (wd L q).a/\n 8=.s (my L [gS] q i).1 (my L [gS] q i).2/\n 9=II i/\ai u.h u r
 refine aT J 1 ((hJ _ _ _).2 ⟨0,rfl,aJ _,⟨z,p1,p4,p5,p6⟩,rfl,rfl,rfl,x3⟩) ?_;intro n a1 r u;let⟨i,_,n,⟨B,s1,s4,C,s6⟩,s7,s,s9,t⟩:=(hJ _ _ _).1 u;have w:=hq.fS t;have n:=t.1;have oj:r.f (f.h+1+1)=_:=(t.2 _ Y).t oq;by_cases x:i<1
 .have gi:=xj [gS] i x;have n:([gS].map sV).length=1:=rfl;refine S5 B C s9 oj gi ?_;refine al (lO w ([gS].getD i (0,0)) λn x4=>?_);have a2:n.f (f.h+1+1)=_:=(x4.2 _ Y).t oj;have o:=DA (L:=L) (p:=q) (a:=[gS]) x;cases e:aN L ([gS].getD i (0,0)) q with
  |true=>
   rw[e,ae rfl] at o;refine S4 C s9 a2 gi ?_;exact⟨1-(i+1),Y,(hJ _ _ _).2 ⟨i+1,rfl,Y,⟨B,s1,s4,C,s6⟩,s7,by rw[o];rfl,rfl,t.M (x4.mono t.1)⟩⟩
  |false=>
   rw[e,ac (by decide)] at o;refine S1 s9 ?_;exact⟨1-(i+1),Y,(hJ _ _ _).2 ⟨i+1,rfl,Y,⟨B,s1,s4,C,s6⟩,s7,by rw[o];exact s,rfl,t.M (x4.mono t.1)⟩⟩
 obtain rfl:i=1:=Y;have o:my L [gS] q 1=(kf L [gS] q).getD (0,0):=Dz;rw[o] at s;have cj:r.f f.h=_:=(t.2 _ Y).t cq;have dj:r.f j.h=_:=(t.2 _ Y).t dq;have rj:=rp rq t;have lq:=fN rq;cases e:kf L [gS] q with
 |none=>
  rw[e] at s;have s:a1 8=.s 0 0:=s;have v:aI 0 0 0 0=true:=rfl;simp(disch:=omega)only[go_sem,s4,C,s6,s,s9,v,cj,dj,lq];have D:fO L (bP L G 3) [gS] false m a q=(a,q):=by
   cases m with
   |zero=>rfl
   |succ m=>unfold fO;rw[e]
  rw[D] at wq;rw[<-wq] at k;exact k _ _ (pe (mT rj (λq=>om q.1)) (λb q=>⟨om q.1,by have:=q.2.1;show b<r.h;omega⟩)) (w.dh Y (h.fresh (ak _))) ((Xq.of t).be (ak _))
 |some l=>
  rw[e] at s;have s:a1 8=.s l.1 l.2:=s;let⟨i,ei⟩:=A7 e;have v:aI l.1 l.2 0 0=false:=by
   revert l;simp only[bY,kN,lY]
   rintro l - - - ho -
   obtain rfl:=ho<;>rfl
  let⟨he,i,_⟩:=qo ei;have x:=hq.k;obtain _|m:=m
  .have:=fq he;omega
  refine S5 B C s s9 v ?_;refine al (oA w λi i k=>?_);refine S2 B s ?_;refine al (wu l i λi o n=>?_);refine S2 B s1 ?_;refine al (W i pb y _ _ o λi c r8 h8 i=>?_);have o:=k.1;have o:=n.1;have o:=i.1;have X8:=(k.M n).M i;have c8:c.f f.h=_:=(X8.2 _ Y Y).t cj;have d8:c.f j.h=_:=(X8.2 _ Y Y).t dj;have o8:c.f (f.h+1+1)=_:=(X8.2 _ Y Y).t oj;have v8:=nI rj X8 (λq=>om q.1);have f:=fN r8;obtain⟨f1,f2,f3,f4,f5,rfl⟩:=cJ rq;obtain⟨F,K,P,V,g5,rfl⟩:=cJ r8;refine S5 s1 s6 s7 s d8 ?_;have T:bn (λb=>g.h<=b/\b<c.h+1+1/\b≠j.h) (((c.X (LL [F,K,P,V,g5])).X (LL [f1,f2,f3,f4,f5,F,K,P,V,g5])).put j.h (LL [l,.s 0 0,II 0,II (wd L q).a,.a (c.h+1) 0 2 (.k 2)]))
    (.mk l (0,0) 0 (wd L q).a [a,(bP L G 3 (cZ L l q)).1]) [l,.s 0 0,II 0,II (wd L q).a,.a (c.h+1) 0 2 (.k 2)]:=
   wY (o:=(0,0)) (c:=j.h) (pb:=pb) v8 r8 (λb q=>⟨⟨q.1,om q.2.1,q.2.2⟩,om q.1,q.2.2⟩) (λb q=>⟨⟨om q.1,om q.2,om q.1⟩,om q.1,om q.1⟩)
    (λb b q2 b=>by simp(disch:=omega)only[go_sem]) (by show c.h<=c.h+1+1;omega) (by simp(disch:=omega)only[go_sem]) (by show c.h+1<c.h+1+1;omega) ⟨Y,Y,Y⟩
  have b:=(h8.X (z:=LL [F,K,P,V,g5])).X (z:=LL [f1,f2,f3,f4,f5,F,K,P,V,g5]);have b:=b.dh (c:=j.h) (z:=LL [l,.s 0 0,II 0,II (wd L q).a,.a (c.h+1) 0 2 (.k 2)]) Y (λg=>h.fresh (c:=j.h) Y g);have f:=((((Xq.of t).M X8).X (y:=LL [F,K,P,V,g5])).X (y:=LL [f1,f2,f3,f4,f5,F,K,P,V,g5])).be (c:=j.h) (y:=LL [l,.s 0 0,II 0,II (wd L q).a,.a (c.h+1) 0 2 (.k 2)]) Y;have D:fO L (bP L G 3) [gS] false m (.mk l (0,0) 0 (wd L q).a [a,(bP L G 3 (cZ L l q)).1]) (bP L G 3 (cZ L l q)).2=bP L G 4 p:=by
   rw[<-wq]
   conv=>rhs;unfold fO
   rw[e];rfl
  refine⟨m,bJ _,(hI _ _ _).2 ⟨_,_,_,⟨B,s1,s4,C,s6⟩,b,?_,ae rfl,?_,T,?_,f,D,λa=>?_⟩⟩
  .simp(disch:=omega)only[go_sem,c8]
  .simp(disch:=omega)only[go_sem,o8]
  .show a0.h<=c.h+1+1;omega
  .have b:gh (cZ L l q) (bP L G 3 (cZ L l q)).2:=wZ FL _ _;have c:=b a;have a:=CG ei c.1
   have:=fq he
   omega
end
end
section
section
variable {L:List Wd}{d:Nat}{G:Option dn}
def aij(W:rL L d 3 (bP L G 2)):rL L d 2 (bP L G 3):=by
 intro g pb y p Q h k;refine c0 Tryz.func170 ?_;have n:=h.I;refine S0 ?_;obtain⟨f,n,t,c0,z,I,X0⟩:∃f,f=((((((g.X (LL [.s 0 0,.s 0 0,II 0,II 0,.e])).X (LL [.s 2 29295,.s 3 7499640])).X (LL [.s 3 6581857])).X (LL [.s 1 61,.s 2 15932,.s 1 60,.s 2 15676,.s 1 62,.s 2 15678])).X (LL [.s 1 43,.s 1 45])).X (LL [.s 1 42,.s 1 47,.s 3 6582125])).X (LL [.a (g.h+1) 0 2 (.k 2),.a (g.h+1+1) 0 1 (.k 1),.a (g.h+1+1+1) 0 6 (.k 6),.a (g.h+1+1+1+1) 0 2 (.k 2),.a (g.h+1+1+1+1+1) 0 3 (.k 3)])/\PA f pb y L d p/\f.f g.h=LL [.s 0 0,.s 0 0,II 0,II 0,.e]/\f.f (g.h+1+1+1)=LL ([dY,il,ik,gU,ij,gT].map sV)/\f.h=g.h+7/\ax pb g f:=
  ⟨_,rfl,h.X.X.X.X.X.X.X,by simp(disch:=omega)only[go_sem],by simp(disch:=omega)only[go_sem];rfl,rfl,((((((ax.refl pb g).X.X).X).X).X).X).X⟩
 rw[<-n];refine al (W f pb y p _ t λz1 j r1 t x1=>?_);have n:=fN r1;have I:=x1.1;have c1:=(x1.2 g.h Y Y).t c0;have o1:=(x1.2 (g.h+1+1+1) Y Y).t z;refine S1 n ?_;let⟨a2,n,h2,c2,z,X2,B2⟩:=jR (w:=LL z1) t;rw[<-n];let⟨I,hI⟩:=inv λm n t=>∃a z q,(n 0=.p pb 0/\n 1=II 2/\n 4=.p g.h 0/\n 5=.a (g.h+1+1+1) 0 6 (.k 6)/\n 6=.p j.h 0)/\PA t pb y L d q/\
   t.f g.h=LL [.s 0 0,.s 0 0,II 0,II 0,.e]/\t.f j.h=LL z/\t.f (g.h+1+1+1)=LL ([dY,il,ik,gU,ij,gT].map sV)/\bn (λb=>f.h<=b/\b<t.h/\b≠j.h) t a z/\a2.h<=t.h/\ax pb g t/\
   fO L (bP L G 2) [dY,il,ik,gU,ij,gT] true m a q=bP L G 3 p/\(q.e=0->L.length<=q.k+m)
 refine aT I L.length ((hI _ _ _).2 ⟨_,z1,_,⟨rfl,rfl,rfl,rfl,rfl⟩,h2,(B2.2 _ Y).t c1,c2,(B2.2 _ Y).t o1,gq (λb _ I=>B2.2 b I) B2.1 (λb q=>⟨q.1,om q.2,om q.2⟩) _ _ r1,ak _,(X0.M x1).M X2,rfl,λ_=>tr _ _⟩) ?_;intro m n t I;let⟨a,_,q,⟨z,p1,p4,p5,p6⟩,hq,cq,dq,oq,rq,nq,Xq,wq,fq⟩:=(hI _ _ _).1 I;refine S1 z ?_;refine al (lf hq λI x3=>?_);have I:(wd L q).cells=[II (wd L q).k,.s (wd L q).t.1 (wd L q).t.2,II (wd L q).n,II (wd L q).a]:=rfl;rw[I];refine S0 ?_;let⟨J,hJ⟩:=inv λm n B=>∃i,m=6-i/\i<=6/\(n 0=.p pb 0/\n 1=II 2/\n 4=.p g.h 0/\n 5=.a (g.h+1+1+1) 0 6 (.k 6)/\n 6=.p j.h 0)/\
   n 7=II (wd L q).a/\n 8=.s (my L [dY,il,ik,gU,ij,gT] q i).1 (my L [dY,il,ik,gU,ij,gT] q i).2/\n 9=II i/\ai t.h t B
 refine aT J 6 ((hJ _ _ _).2 ⟨0,rfl,aJ _,⟨z,p1,p4,p5,p6⟩,rfl,rfl,rfl,x3⟩) ?_;intro g a0 B n;let⟨i,_,g,⟨V,s1,s4,s5,s6⟩,s7,r,s9,s⟩:=(hJ _ _ _).1 n;have v:=hq.fS s;have g:=s.1;have g:=(s.2 _ Y).t oq;by_cases w:i<6
 .have gi:=xj [dY,il,ik,gU,ij,gT] i w;have n:([dY,il,ik,gU,ij,gT].map sV).length=6:=rfl;refine S5 V s5 s9 g gi ?_;refine al (lO v ([dY,il,ik,gU,ij,gT].getD i (0,0)) λn x4=>?_);have a1:=(x4.2 _ Y).t g;have o:=DA (L:=L) (p:=q) (a:=[dY,il,ik,gU,ij,gT]) w;cases e:aN L ([dY,il,ik,gU,ij,gT].getD i (0,0)) q with
  |true=>
   rw[e,ae rfl] at o;refine S4 s5 s9 a1 gi ?_;exact⟨6-(i+1),Y,(hJ _ _ _).2 ⟨i+1,rfl,Y,⟨V,s1,s4,s5,s6⟩,s7,by rw[o];rfl,rfl,s.M (x4.mono s.1)⟩⟩
  |false=>
   rw[e,ac (by decide)] at o;refine S1 s9 ?_;exact⟨6-(i+1),Y,(hJ _ _ _).2 ⟨i+1,rfl,Y,⟨V,s1,s4,s5,s6⟩,s7,by rw[o];exact r,rfl,s.M (x4.mono s.1)⟩⟩
 obtain rfl:i=6:=Y;have o:my L [dY,il,ik,gU,ij,gT] q 6=(kf L [dY,il,ik,gU,ij,gT] q).getD (0,0):=Dz;rw[o] at r;have cj:=(s.2 _ Y).t cq;have dj:=(s.2 _ Y).t dq;have rj:=rp rq s;have lq:=fN rq;cases e:kf L [dY,il,ik,gU,ij,gT] q with
 |none=>
  rw[e] at r;have r:a0 8=.s 0 0:=r;have u:aI 0 0 0 0=true:=rfl;simp(disch:=omega)only[go_sem,s4,s5,s6,r,s9,u,cj,dj,lq];have x:fO L (bP L G 2) [dY,il,ik,gU,ij,gT] true m a q=(a,q):=by
   cases m with
   |zero=>rfl
   |succ m=>unfold fO;rw[e]
  rw[x] at wq;rw[<-wq] at k;exact k _ _ (pe (mT rj (λq=>om q.1)) (λb q=>⟨om q.1,by have:=q.2.1;show b<B.h;omega⟩)) (v.dh Y (h.fresh (ak _))) ((Xq.of s).be (ak _))
 |some l=>
  rw[e] at r;have r:a0 8=.s l.1 l.2:=r;let⟨g,ei⟩:=A7 e;have u:aI l.1 l.2 0 0=false:=by
   revert l;simp only[bY,kN,lY]
   rintro l - - - g -
   rcases g with rfl|rfl|rfl|rfl|rfl|rfl<;>rfl
  let⟨he,g,_⟩:=qo ei;have w:=hq.k;obtain _|m:=m
  .have:=fq he;omega
  refine S5 V s5 r s9 u ?_;refine al (oA v λg g i=>?_);refine S2 V r ?_;refine al (wu l g λg o n=>?_);refine S2 V s1 ?_;refine al (W g pb y _ _ o λg c r8 h8 g=>?_);have o:=i.1;have o:=n.1;have o:=g.1;have X8:=(i.M n).M g;have c8:=(X8.2 _ Y Y).t cj;have d8:=(X8.2 _ Y Y).t dj;have v8:=nI rj X8 (λq=>om q.1);have g:=fN r8;obtain⟨f1,f2,f3,f4,f5,rfl⟩:=cJ rq;obtain⟨C,D,F,K,P,rfl⟩:=cJ r8;refine S7 s1 s4 s6 s7 r c8 d8 ?_;have T:bn (λb=>f.h<=b/\b<c.h+1+1/\b≠j.h) (((c.X (LL [C,D,F,K,P])).X (LL [f1,f2,f3,f4,f5,C,D,F,K,P])).put j.h (LL [l,.s 0 0,II 0,II (wd L q).a,.a (c.h+1) 0 2 (.k 2)]))
    (.mk l (0,0) 0 (wd L q).a [a,(bP L G 2 (cZ L l q)).1]) [l,.s 0 0,II 0,II (wd L q).a,.a (c.h+1) 0 2 (.k 2)]:=
   wY (o:=(0,0)) (c:=j.h) (pb:=pb) v8 r8 (λb q=>⟨⟨q.1,om q.2.1,q.2.2⟩,om q.1,q.2.2⟩) (λb q=>⟨⟨om q.1,om q.2,om q.1⟩,om q.1,om q.1⟩)
    (λb f q2 f=>by simp(disch:=omega)only[go_sem]) (by show c.h<=c.h+1+1;omega) (by simp(disch:=omega)only[go_sem]) (by show c.h+1<c.h+1+1;omega) ⟨Y,Y,Y⟩
  have f:=(h8.X (z:=LL [C,D,F,K,P])).X (z:=LL [f1,f2,f3,f4,f5,C,D,F,K,P]);have f:=f.dh (c:=j.h) (z:=LL [l,.s 0 0,II 0,II (wd L q).a,.a (c.h+1) 0 2 (.k 2)]) Y (λg=>h.fresh (c:=j.h) Y g);have g:=((((Xq.of s).M X8).X (y:=LL [C,D,F,K,P])).X (y:=LL [f1,f2,f3,f4,f5,C,D,F,K,P])).be (c:=j.h) (y:=LL [l,.s 0 0,II 0,II (wd L q).a,.a (c.h+1) 0 2 (.k 2)]) Y;have x:fO L (bP L G 2) [dY,il,ik,gU,ij,gT] true (m+1) a q=(.mk l (0,0) 0 (wd L q).a [a,(bP L G 2 (cZ L l q)).1],(bP L G 2 (cZ L l q)).2):=by
   conv=>lhs;unfold fO
   rw[e];rfl
  rw[x] at wq;rw[<-wq] at k;exact k _ _ (pe (mT T (λq=>om q.1)) (λb q=>⟨om q.1,by have:=q.2.1;show b<c.h+1+1;omega⟩)) (f.dh Y (h.fresh (ak _))) (g.be (ak _))
end
section
variable {L:List Wd}{d:Nat}{G:Option dn}
def aik(FL:nU G)(W:rL L d 4 (bP L G 1)):rL L d 3 (bP L G 2):=by
 intro f pb y p Q h k;refine c0 Tryz.func170 ?_;have n:=h.I;refine S0 ?_;obtain⟨g,n,u,c0,z,I,X0⟩:∃g,g=((((((f.X (LL [.s 0 0,.s 0 0,II 0,II 0,.e])).X (LL [.s 2 29295,.s 3 7499640])).X (LL [.s 3 6581857])).X (LL [.s 1 61,.s 2 15932,.s 1 60,.s 2 15676,.s 1 62,.s 2 15678])).X (LL [.s 1 43,.s 1 45])).X (LL [.s 1 42,.s 1 47,.s 3 6582125])).X (LL [.a (f.h+1) 0 2 (.k 2),.a (f.h+1+1) 0 1 (.k 1),.a (f.h+1+1+1) 0 6 (.k 6),.a (f.h+1+1+1+1) 0 2 (.k 2),.a (f.h+1+1+1+1+1) 0 3 (.k 3)])/\PA g pb y L d p/\g.f f.h=LL [.s 0 0,.s 0 0,II 0,II 0,.e]/\g.f (f.h+1+1+1+1)=LL ([im,gd].map sV)/\g.h=f.h+7/\ax pb f g:=
  ⟨_,rfl,h.X.X.X.X.X.X.X,by simp(disch:=omega)only[go_sem],by simp(disch:=omega)only[go_sem];rfl,rfl,((((((ax.refl pb f).X.X).X).X).X).X).X⟩
 rw[<-n];refine al (W g pb y p _ u λz1 j r1 u x1=>?_);have n:=fN r1;have I:=x1.1;have c1:=(x1.2 f.h Y Y).t c0;have o1:=(x1.2 (f.h+1+1+1+1) Y Y).t z;refine S1 n ?_;let⟨a0,n,h2,c2,z,X2,B2⟩:=jR (w:=LL z1) u;rw[<-n];let⟨I,hI⟩:=inv λm n u=>∃a z q,(n 0=.p pb 0/\n 1=II 3/\n 4=.p f.h 0/\n 5=.a (f.h+1+1+1+1) 0 2 (.k 2)/\n 6=.p j.h 0)/\PA u pb y L d q/\
   u.f f.h=LL [.s 0 0,.s 0 0,II 0,II 0,.e]/\u.f j.h=LL z/\u.f (f.h+1+1+1+1)=LL ([im,gd].map sV)/\bn (λb=>g.h<=b/\b<u.h/\b≠j.h) u a z/\a0.h<=u.h/\ax pb f u/\
   fO L (bP L G 1) [im,gd] false m a q=bP L G 2 p/\(q.e=0->L.length<=q.k+m)
 refine aT I L.length ((hI _ _ _).2 ⟨_,z1,_,⟨rfl,rfl,rfl,rfl,rfl⟩,h2,(B2.2 _ Y).t c1,c2,(B2.2 _ Y).t o1,gq (λb _ I=>B2.2 b I) B2.1 (λb q=>⟨q.1,om q.2,om q.2⟩) _ _ r1,ak _,(X0.M x1).M X2,rfl,λ_=>tr _ _⟩) ?_;intro m n u I;let⟨a,_,q,⟨z,p1,p4,p5,p6⟩,hq,cq,dq,oq,rq,nq,Xq,wq,fq⟩:=(hI _ _ _).1 I;refine S1 z ?_;refine al (lf hq λI x3=>?_);have I:(wd L q).cells=[II (wd L q).k,.s (wd L q).t.1 (wd L q).t.2,II (wd L q).n,II (wd L q).a]:=rfl;rw[I];refine S0 ?_;let⟨J,hJ⟩:=inv λm n r=>∃i,m=2-i/\i<=2/\(n 0=.p pb 0/\n 1=II 3/\n 4=.p f.h 0/\n 5=.a (f.h+1+1+1+1) 0 2 (.k 2)/\n 6=.p j.h 0)/\
   n 7=II (wd L q).a/\n 8=.s (my L [im,gd] q i).1 (my L [im,gd] q i).2/\n 9=II i/\ai u.h u r
 refine aT J 2 ((hJ _ _ _).2 ⟨0,rfl,aJ _,⟨z,p1,p4,p5,p6⟩,rfl,rfl,rfl,x3⟩) ?_;intro n a1 r u;let⟨i,_,n,⟨B,s1,s4,C,s6⟩,s7,s,s9,t⟩:=(hJ _ _ _).1 u;have w:=hq.fS t;have n:=t.1;have oj:r.f (f.h+1+1+1+1)=_:=(t.2 _ Y).t oq;by_cases x:i<2
 .have gi:=xj [im,gd] i x;have n:([im,gd].map sV).length=2:=rfl;refine S5 B C s9 oj gi ?_;refine al (lO w ([im,gd].getD i (0,0)) λn x4=>?_);have a2:n.f (f.h+1+1+1+1)=_:=(x4.2 _ Y).t oj;have o:=DA (L:=L) (p:=q) (a:=[im,gd]) x;cases e:aN L ([im,gd].getD i (0,0)) q with
  |true=>
   rw[e,ae rfl] at o;refine S4 C s9 a2 gi ?_;exact⟨2-(i+1),Y,(hJ _ _ _).2 ⟨i+1,rfl,Y,⟨B,s1,s4,C,s6⟩,s7,by rw[o];rfl,rfl,t.M (x4.mono t.1)⟩⟩
  |false=>
   rw[e,ac (by decide)] at o;refine S1 s9 ?_;exact⟨2-(i+1),Y,(hJ _ _ _).2 ⟨i+1,rfl,Y,⟨B,s1,s4,C,s6⟩,s7,by rw[o];exact s,rfl,t.M (x4.mono t.1)⟩⟩
 obtain rfl:i=2:=Y;have o:my L [im,gd] q 2=(kf L [im,gd] q).getD (0,0):=Dz;rw[o] at s;have cj:r.f f.h=_:=(t.2 _ Y).t cq;have dj:r.f j.h=_:=(t.2 _ Y).t dq;have rj:=rp rq t;have lq:=fN rq;cases e:kf L [im,gd] q with
 |none=>
  rw[e] at s;have s:a1 8=.s 0 0:=s;have v:aI 0 0 0 0=true:=rfl;simp(disch:=omega)only[go_sem,s4,C,s6,s,s9,v,cj,dj,lq];have D:fO L (bP L G 1) [im,gd] false m a q=(a,q):=by
   cases m with
   |zero=>rfl
   |succ m=>unfold fO;rw[e]
  rw[D] at wq;rw[<-wq] at k;exact k _ _ (pe (mT rj (λq=>om q.1)) (λb q=>⟨om q.1,by have:=q.2.1;show b<r.h;omega⟩)) (w.dh Y (h.fresh (ak _))) ((Xq.of t).be (ak _))
 |some l=>
  rw[e] at s;have s:a1 8=.s l.1 l.2:=s;let⟨i,ei⟩:=A7 e;have v:aI l.1 l.2 0 0=false:=by
   revert l;simp only[bY,kN,lY]
   rintro l - - - i -
   rcases i with rfl|rfl<;>rfl
  let⟨he,i,_⟩:=qo ei;have x:=hq.k;obtain _|m:=m
  .have:=fq he;omega
  refine S5 B C s s9 v ?_;refine al (oA w λi i k=>?_);refine S2 B s ?_;refine al (wu l i λi o n=>?_);refine S2 B s1 ?_;refine al (W i pb y _ _ o λi c r8 h8 i=>?_);have o:=k.1;have o:=n.1;have o:=i.1;have X8:=(k.M n).M i;have c8:c.f f.h=_:=(X8.2 _ Y Y).t cj;have d8:c.f j.h=_:=(X8.2 _ Y Y).t dj;have o8:c.f (f.h+1+1+1+1)=_:=(X8.2 _ Y Y).t oj;have v8:=nI rj X8 (λq=>om q.1);have f:=fN r8;obtain⟨f1,f2,f3,f4,f5,rfl⟩:=cJ rq;obtain⟨F,K,P,V,g5,rfl⟩:=cJ r8;refine S5 s1 s6 s7 s d8 ?_;have T:bn (λb=>g.h<=b/\b<c.h+1+1/\b≠j.h) (((c.X (LL [F,K,P,V,g5])).X (LL [f1,f2,f3,f4,f5,F,K,P,V,g5])).put j.h (LL [l,.s 0 0,II 0,II (wd L q).a,.a (c.h+1) 0 2 (.k 2)]))
    (.mk l (0,0) 0 (wd L q).a [a,(bP L G 1 (cZ L l q)).1]) [l,.s 0 0,II 0,II (wd L q).a,.a (c.h+1) 0 2 (.k 2)]:=
   wY (o:=(0,0)) (c:=j.h) (pb:=pb) v8 r8 (λb q=>⟨⟨q.1,om q.2.1,q.2.2⟩,om q.1,q.2.2⟩) (λb q=>⟨⟨om q.1,om q.2,om q.1⟩,om q.1,om q.1⟩)
    (λb b q2 b=>by simp(disch:=omega)only[go_sem]) (by show c.h<=c.h+1+1;omega) (by simp(disch:=omega)only[go_sem]) (by show c.h+1<c.h+1+1;omega) ⟨Y,Y,Y⟩
  have b:=(h8.X (z:=LL [F,K,P,V,g5])).X (z:=LL [f1,f2,f3,f4,f5,F,K,P,V,g5]);have b:=b.dh (c:=j.h) (z:=LL [l,.s 0 0,II 0,II (wd L q).a,.a (c.h+1) 0 2 (.k 2)]) Y (λg=>h.fresh (c:=j.h) Y g);have f:=((((Xq.of t).M X8).X (y:=LL [F,K,P,V,g5])).X (y:=LL [f1,f2,f3,f4,f5,F,K,P,V,g5])).be (c:=j.h) (y:=LL [l,.s 0 0,II 0,II (wd L q).a,.a (c.h+1) 0 2 (.k 2)]) Y;have D:fO L (bP L G 1) [im,gd] false m (.mk l (0,0) 0 (wd L q).a [a,(bP L G 1 (cZ L l q)).1]) (bP L G 1 (cZ L l q)).2=bP L G 2 p:=by
   rw[<-wq]
   conv=>rhs;unfold fO
   rw[e];rfl
  refine⟨m,bJ _,(hI _ _ _).2 ⟨_,_,_,⟨B,s1,s4,C,s6⟩,b,?_,ae rfl,?_,T,?_,f,D,λa=>?_⟩⟩
  .simp(disch:=omega)only[go_sem,c8]
  .simp(disch:=omega)only[go_sem,o8]
  .show a0.h<=c.h+1+1;omega
  .have b:gh (cZ L l q) (bP L G 1 (cZ L l q)).2:=wZ FL _ _;have c:=b a;have a:=CG ei c.1
   have:=fq he
   omega
end
end
end Go.Proofs.YtehahhggpdhieaaGreatDoor
