/- Lemmas of the walk of EmitKinds are proved. Conditions: none. -/
import Derived.Test.YtehahhggpdhieaaGreatDoorX11
namespace Go.Proofs.YtehahhggpdhieaaGreatDoor
set_option maxRecDepth 100000
set_option maxHeartbeats 32000000
set_option linter.all false
section
variable {x y:AV}{d e:HN}{h s:Nat}
section
variable {L:List Wd}
def VS(F:Nat->Prop)(a:HN)(v:AV)(l:List Vr):Prop:=sA F v/\aK 5 a v (l.map Vr.cells)
def VS.aR{F G:Nat->Prop}{U:HN}{v:AV}{l:List Vr}(h:VS F U v l)(d:∀b,F b->b<U.h->e.f b=U.f b)(f:U.h<=e.h)(a:∀b,F b->G b):VS G e v l:=⟨λb c=>a b (h.1 b c),h.2.aR h.1 d f⟩
def VS.of{U:HN}{v:AV}{l:List Vr}(o:aH 5 h U v l.length (l.map Vr.cells).flatten):VS (λb=>h<=b/\b<U.h) U v l:=
 ⟨λb a=>cz o a,oz (by rw[aC];exact o) (Ee l)⟩
def VS.nil{F:Nat->Prop}{U:HN}:VS F U .e []:=⟨λ_ h=>h.elim,.inl ⟨rfl,.inl rfl⟩⟩
def PA.afZ{a:Nat}{b n:Nat}{p:PS}(h:PA d a y L b p)(c:n<18446744073709551616):PA (d.put a (LL [y,p.k,p.e,p.b,b,p.p,n])) a y L b {p with x:=n}:=
 h.put (a:={p with x:=n}) (ax.refl a d).put (ae rfl) h.k h.e h.b h.q c
def PA.ahp{a:Nat}{b n:Nat}{p:PS}(h:PA d a y L b p)(c:n<18446744073709551616):PA (d.put a (LL [y,p.k,p.e,p.b,b,n,p.x])) a y L b {p with p:=n}:=
 h.put (a:={p with p:=n}) (ax.refl a d).put (ae rfl) h.k h.e h.b c h.n
def A9{n:Nat}{l:List AV}(o:aH s h d x n l):dZ x=some [x]:=by
 obtain⟨_,⟨rfl,_⟩|⟨c,_,_,⟨rfl,_⟩|⟨rfl,_⟩⟩⟩:=o<;>rfl
def aan(L:List Wd):Prop:=
 ∀(c:HN) (b:Nat) (y:AV) (p:PS) (Q:AV->HN->Prop),PA c b y L 0 p->(∀z a,dL (kJ c.h a.h) a (jg L p).1 z->PA a b y L 0 (jg L p).2->ax b c a->Q (.g z) a)->∃v a,aq Tryz.prog 92 [.p b 0] c v a/\Q v a
def Ut:aan L:=by
 intro r D y p Q h k;refine c0 Tryz.func92 ?_;have hn:=h.I;have hg:=h.g.2.1;have yl:∀b,ar y b->b<r.h:=λb e=>vQ λg=>h.fresh g e;have hc:∀q:PS,(wd L q).cells=[II (wd L q).k,.s (wd L q).t.1 (wd L q).t.2,II (wd L q).n,II (wd L q).a]:=λ_=>rfl;let⟨M,hM⟩:=jH λa9 u=>∃z y1 y2 y3,(a9 0=.p D 0/\a9 2=.p r.h 0/\a9 3=.p z 0)/\(r.h<z/\z<u.h)/\PA u D y L 0 (jj L (dJ L p).2).2/\u.f r.h=LL [.s 0 0,.e,.e,.e,.e,II 0]/\
   u.f z=LL [.s (dJ L p).1.1.1 (dJ L p).1.1.2,y1,y2,y3,.e,II (wd L p).a]/\VS (λb=>z<b/\b<u.h) u y1 (dJ L p).1.2.1/\VS (λb=>z<b/\b<u.h) u y2 (dJ L p).1.2.2/\VS (λb=>z<b/\b<u.h) u y3 (jj L (dJ L p).2).1/\ax D r u
 refine iB (M:=M) 14 _ _ _ ?_ ?_
 .intro a9 u I;let⟨z,y1,y2,y3,⟨p0,p2,p3⟩,⟨g1,g2⟩,hq,cq,dq,V1,V2,V3,Xq⟩:=(hM _ _).1 I;clear I hM;have cy:¬ar y r.h:=h.fresh (ak _);have c6:=hq.I;have eN:jg L p=(⟨(dJ L p).1.1,(dJ L p).1.2.1,(dJ L p).1.2.2,(jj L (dJ L p).2).1,(iG L L.length [] (aV L pr (jj L (dJ L p).2).2)).1,(wd L p).a⟩,fJ L iW (aV L D0 (iG L L.length [] (aV L pr (jj L (dJ L p).2).2)).2)):=rfl;rw[eN] at k;clear eN;generalize jj L (dJ L p).2=v at*;generalize (dJ L p).1=hd at*;generalize wd L p=w0 at*;simp(disch:=omega)only[lT,lU];let⟨M2,g6⟩:=jH λa9 u=>∃l ls x q lo,(a9 0=.p D 0/\a9 2=.p r.h 0/\a9 3=.p z 0)/\(z<lo/\lo<=u.h)/\PA u D y L 0 q/\u.f r.h=LL [.s 0 0,.e,.e,.e,.e,II 0]/\
    u.f z=LL [hd.1,y1,y2,y3,x,w0.a]/\VS (λb=>z<b/\b<lo) u y1 hd.2.1/\VS (λb=>z<b/\b<lo) u y2 hd.2.2/\VS (λb=>z<b/\b<lo) u y3 v.1/\
    aH 7 lo u x ls.length ls.flatten/\mU (λb=>lo<=b/\b<u.h/\¬ar x b) u l ls/\ax D r u/\iG L L.length [] (aV L pr v.2)=(l,q)
  refine iB (M:=M2) 2 _ _ _ ?_ ?_
  .intro a9 u I;clear dq hq cq V1 V2 V3 Xq c6 g2 p0 p2 p3;let⟨l,ls,x,q,lo,⟨p0,p2,p3⟩,⟨g2,g3⟩,hq,cq,dq,V1,V2,V3,oq,rq,Xq,eq⟩:=(g6 _ _).1 I;rw[eq] at k;dsimp only at k;have c6:=hq.I;simp(disch:=omega)only[lT,lU,go_sem,p0];refine al (nQ hq D0 λc h4 x4=>?_);have n4:=x4.1;refine S1 p0 ?_;refine al (mD h4 iW λw h5 x5=>?_);have n5:=x5.1;have I:=x4.M x5;have c5:w.f r.h=_:=(I.2 _ Y Y).t cq;have d5:w.f z=_:=(I.2 _ Y Y).t dq;have X5:=Xq.M I;have o5:=dK oq (λb e hc=>I.2 b hc Y) Y;have r5:=pp (G:=λb=>lo<=b/\b<w.h) (λb g e=>I.2 b e (om g.1)) I.1 (λb g=>⟨g.1,om g.2.1⟩) rq;have A1:=V1.aR (G:=λb=>z<b/\b<lo) (λb g e=>I.2 b e (om g.1)) Y (λb g=>g);have A2:=V2.aR (G:=λb=>z<b/\b<lo) (λb g e=>I.2 b e (om g.1)) Y (λb g=>g);have A3:=V3.aR (G:=λb=>z<b/\b<lo) (λb g e=>I.2 b e (om g.1)) Y (λb g=>g);refine S4 p2 p3 c5 d5 ?_;have l4:dL (kJ r.h w.h) (w.put r.h (LL [hd.1,y1,y2,y3,x,w0.a])) ⟨hd.1,hd.2.1,hd.2.2,v.1,l,w0.a⟩ [hd.1,y1,y2,y3,x,w0.a]:=by
    have I:∀b,z<b->(w.put r.h (LL [hd.1,y1,y2,y3,x,w0.a])).f b=w.f b:=λb g=>ac Y;have B1:=A1.aR (e:=w.put r.h (LL [hd.1,y1,y2,y3,x,w0.a])) (G:=kJ r.h w.h) (λb g _=>I b g.1) (ak _) (λb g=>⟨om g.1,om g.2⟩);have B2:=A2.aR (e:=w.put r.h (LL [hd.1,y1,y2,y3,x,w0.a])) (G:=kJ r.h w.h) (λb g _=>I b g.1) (ak _) (λb g=>⟨om g.1,om g.2⟩);have B3:=A3.aR (e:=w.put r.h (LL [hd.1,y1,y2,y3,x,w0.a])) (G:=kJ r.h w.h) (λb g _=>I b g.1) (ak _) (λb g=>⟨om g.1,om g.2⟩);have o6:=dK (U':=w.put r.h (LL [hd.1,y1,y2,y3,x,w0.a])) o5 (λb e hc=>I b Y) (ak _);have r6:=pp (e:=w.put r.h (LL [hd.1,y1,y2,y3,x,w0.a])) (G:=kJ r.h w.h) (λb g e=>I b (om g.1)) (ak _) (λb g=>⟨om g.1,g.2⟩) r5;exact⟨y1,y2,y3,x,rfl,⟨B1.1,B2.1,B3.1,λb e=>⟨om ((cz o5 e).1),(cz o5 e).2⟩⟩,B1.2,B2.2,B3.2,ls,oz o6 (lS r6).2,r6⟩
   exact k _ _ l4 (h5.dh Y cy) (X5.be (ak _))
  refine S1 p0 ?_;refine al (nQ hq pr λc h4 x4=>?_);have n4:=x4.1;have c4:c.f r.h=_:=(x4.2 _ Y Y).t cq;have d4:c.f z=_:=(x4.2 _ Y Y).t dq;have X4:=Xq.M x4;have k:z<c.h:=Y;have A1:=V1.aR (G:=λb=>z<b/\b<c.h) (λb g e=>x4.2 b e (om g.1)) Y (λb g=>⟨g.1,om g.2⟩);have A2:=V2.aR (G:=λb=>z<b/\b<c.h) (λb g e=>x4.2 b e (om g.1)) Y (λb g=>⟨g.1,om g.2⟩);have A3:=V3.aR (G:=λb=>z<b/\b<c.h) (λb g e=>x4.2 b e (om g.1)) Y (λb g=>⟨g.1,om g.2⟩);refine S0 ?_;let⟨I,hI⟩:=inv λm a9 u=>∃l ls x q,(a9 0=.p D 0/\a9 2=.p r.h 0/\a9 3=.p z 0)/\c.h<=u.h/\PA u D y L 0 q/\u.f r.h=LL [.s 0 0,.e,.e,.e,.e,II 0]/\
    u.f z=LL [hd.1,y1,y2,y3,x,w0.a]/\(∀b,z<b->b<c.h->u.f b=c.f b)/\
    aH 7 c.h u x ls.length ls.flatten/\mU (λb=>c.h<=b/\b<u.h/\¬ar x b) u l ls/\ax D r u/\iG L m l q=iG L L.length [] (aV L pr v.2)/\(q.e=0->L.length<=q.k+m)/\ls.length+m<=L.length
  refine aT I L.length ((hI _ _ _).2 ⟨[],[],.e,_,⟨p0,p2,p3⟩,ak _,h4,c4,d4,λ_ _ _=>rfl,.nil,rfl,X4,rfl,λ_=>tr _ _,by simp⟩) ?_;intro m a9 u hi;clear dq hq cq V1 V2 V3 Xq c6 g2 p0 p2 p3;let⟨l,ls,x,q,⟨p0,p2,p3⟩,g2,hq,cq,dq,kq,oq,rq,Xq,wq,fq,k⟩:=(hI _ _ _).1 hi;clear hi;have b5:=hq.D;have c6:=hq.I;have k:=hq.k;have V:∀k:HN,(∀b,z<b->b<c.h->k.f b=c.f b)->c.h<=k.h->VS (λb=>z<b/\b<c.h) k y1 hd.2.1/\VS (λb=>z<b/\b<c.h) k y2 hd.2.2/\VS (λb=>z<b/\b<c.h) k y3 v.1:=λk k I=>
   ⟨A1.aR (λb g e=>k b g.1 e) I (λb g=>g),A2.aR (λb g e=>k b g.1 e) I (λb g=>g),A3.aR (λb g e=>k b g.1 e) I (λb g=>g)⟩
  by_cases zz:q.e=0/\(wd L q).k=1
  .let⟨z0,z1⟩:=zz;obtain _|m:=m
   .have:=fq z0;omega
   have w1:iG L m (l++[(mi L q).1]) (mi L q).2=iG L L.length [] (aV L pr v.2):=by
    rw[<-wq]
    conv=>rhs;unfold iG
    rw[ae ⟨z0,z1⟩]
   have e6:(mi L q).2.e=0->L.length<=(mi L q).2.k+m:=λk=>by
    have:=adh k
    have:=fq z0
    omega
   rw[z0] at b5;refine S2 p0 b5 ?_;refine al (lf hq λw x5=>?_);have n5:=x5.1;have h5:=hq.fS x5;rw[hc,z1];refine S1 p0 ?_;refine al (lf h5 λn x6=>?_);have n6:=x6.1;have h6:=h5.fS x6;rw[hc];refine S1 p0 ?_;let⟨P,k,h7,c7,n7,X7,I⟩:=jR (w:=LL [.s 0 0,.s 0 0,.s 0 0,II 0,II 0,.e,II (wd L q).a]) h6;rw[<-k];refine al (vn h7 λa8 h8 x8=>?_);have n8:=x8.1;have c8:a8.f n.h=_:=(x8.2 _ Y Y).t c7;have k:(mi L q)=(⟨(aG L q).1,(dU L (pN L 30) {aV L dY (aG L q).2 with p:=0}).1,(wd L q).a⟩,aV L iW (dU L (pN L 30) {aV L dY (aG L q).2 with p:=0}).2):=rfl;rw[k] at w1 e6;clear k;dsimp only at w1 e6;generalize hs:aG L q=s at*;simp(disch:=omega)only[go_sem,p0,c8,sV];have h9:=h8.dh (c:=n.h) (z:=LL [s.1,.s 0 0,.s 0 0,II 0,II 0,.e,II (wd L q).a]) Y (λg=>by have:=yl _ g;have:=Xq.1;omega);have X9:ax D u (a8.put n.h (LL [s.1,.s 0 0,.s 0 0,II 0,II 0,.e,II (wd L q).a])):=((((((ax.refl D u).of x5).of x6).M X7).M x8)).be Y;have c9:(a8.put n.h (LL [s.1,.s 0 0,.s 0 0,II 0,II 0,.e,II (wd L q).a])).f n.h=LL [s.1,.s 0 0,.s 0 0,II 0,II 0,.e,II (wd L q).a]:=ae rfl;have n9:(a8.put n.h (LL [s.1,.s 0 0,.s 0 0,II 0,II 0,.e,II (wd L q).a])).h=a8.h:=rfl;generalize a8.put n.h (LL [.s s.1.1 s.1.2,.s 0 0,.s 0 0,II 0,II 0,.e,II (wd L q).a])=l3 at*;refine al (nQ h9 dY λW b4 b0=>?_);have k2:=b0.1;have I:W.f n.h=_:=(b0.2 _ Y Y).t c9;have k:=b4.D;have l5:=b4.I;refine S2 p0 k ?_;have e8:=b4.ahp (n:=0) Y;have j5:(W.put D (LL [y,II (aV L dY s.2).k,II (aV L dY s.2).e,II (aV L dY s.2).b,II 0,II 0,II (aV L dY s.2).x])).f n.h=_:=(ac Y).t I;have e1:ax D u (W.put D (LL [y,II (aV L dY s.2).k,II (aV L dY s.2).e,II (aV L dY s.2).b,II 0,II 0,II (aV L dY s.2).x])):=(X9.M b0).put;have k3:(W.put D (LL [y,II (aV L dY s.2).k,II (aV L dY s.2).e,II (aV L dY s.2).b,II 0,II 0,II (aV L dY s.2).x])).h=W.h:=rfl;generalize W.put D (LL [y,II (aV L dY s.2).k,II (aV L dY s.2).e,II (aV L dY s.2).b,II 0,II 0,II (aV L dY s.2).x])=a0 at*;refine al (ajm a0 D y _ _ e8 λk d g8 g0 b2=>?_);have k4:=b2.1;have e4:d.f n.h=_:=(b2.2 _ Y Y).t j5;have k:=fN g8;obtain⟨a1,a2,a3,a4,a5,rfl⟩:=cJ g8;generalize dU L (pN L 30) {aV L dY s.2 with p:=0}=ex at*;refine S2 p0 e4 ?_;have g5:=g0.dh (c:=n.h) (z:=LL [s.1,a1,a2,a3,a4,a5,II (wd L q).a]) Y (λg=>by have:=yl _ g;have:=Xq.1;omega);have e3:ax D u (d.put n.h (LL [s.1,a1,a2,a3,a4,a5,II (wd L q).a])):=(e1.M b2).be Y;have e5:(d.put n.h (LL [s.1,a1,a2,a3,a4,a5,II (wd L q).a])).f n.h=LL [s.1,a1,a2,a3,a4,a5,II (wd L q).a]:=ae rfl;have k5:(d.put n.h (LL [s.1,a1,a2,a3,a4,a5,II (wd L q).a])).h=d.h:=rfl;have k9:bn (kJ a0.h d.h) (d.put n.h (LL [s.1,a1,a2,a3,a4,a5,II (wd L q).a])) ex.1 _:=mT g8 (λg=>om g.1);generalize d.put n.h (LL [.s s.1.1 s.1.2,.s a1.1 a1.2,.s a2.1 a2.2,II a3,II a4,a5,II (wd L q).a])=i4 at*;refine al (nQ g5 iW λt F a7=>?_);have k6:=a7.1;have I:t.f n.h=_:=(a7.2 _ Y Y).t e5;have k:=e3.M a7;have l0:=nI k9 a7 (λg=>om g.1);have i2:t.f z=_:=(k.2 _ Y Y).t dq;have k7:=dK oq (λb e hc=>k.2 b hc Y) k.1;have l1:=pp (G:=λb=>c.h<=b/\b<u.h/\¬ar x b) (λb g e=>k.2 b e (om g.1)) k.1 (λb g=>g) rq;have i3:∀b,ar x b->b<u.h:=λb e=>(cz oq e).2;have k1:∀b,z<b->b<c.h->t.f b=c.f b:=λb g g'=>(k.2 b Y Y).t (kq b g g');refine S3 p3 I i2 ?_;have I:aH 7 c.h (t.X (LL [s.1,a1,a2,a3,a4,a5,II (wd L q).a])) x ls.length ls.flatten:=dK k7 (λb _ hc=>ac Y) (iC _);refine tm dc I (cD.lits (s:=7) (n:=1) rfl) dc (om h.g.2.1) (by show c.h<=t.h+1;have:=k.1;omega) λj k8 g7 I=>?_;have g7:j.h=t.h+1+1:=g7;have I:∀b,b<t.h->¬ar x b->j.f b=t.f b:=λb e hc=>(I b (by show b<t.h+1;omega) hc).t (ac Y);have b3:∀b,ar x b->c.h<=b:=λb g=>(cz oq g).1;have b7:j.f r.h=_:=(I _ (om k.1) (λg=>om (b3 _ g))).t ((k.2 _ Y Y).t cq);have b8:j.f z=_:=(I _ (om k.1) (λg=>om (b3 _ g))).t i2;have b6:ax D r j:=⟨by have:=Xq.1;have:=k.1;omega,λb e hc=>(I b (by have:=Xq.1;have:=k.1;omega) (λg=>om (b3 _ g))).t ((Xq.M k).2 b e hc)⟩;have a6:PA j D y L 0 (aV L iW ex.2):=⟨(I D F.I (λg=>om (b3 _ g))).t F.D,om F.I,aK.aR (F:=λb=>b<r.h) F.hy yl (λb e hc=>I b hc (λg=>om (b3 _ g))) Y,F.hp,F.g,F.k,F.e,F.b,F.q,F.n⟩;have l2:mU (λb=>c.h<=b/\b<j.h/\b≠t.h+1) j (l++[⟨s.1,ex.1,(wd L q).a⟩]) (ls++[[.s s.1.1 s.1.2,.s a1.1 a1.2,.s a2.1 a2.2,II a3,II a4,a5,II (wd L q).a]]):=by
    refine DP (e:=⟨s.1,ex.1,(wd L q).a⟩) ⟨[a1,a2,a3,a4,a5],rfl,?_⟩ (pp (λb g e=>I b e g.2.2) Y (λb g=>⟨g.1,by have:=g.2.1;have:=k.1;omega,by have:=g.2.1;have:=k.1;omega⟩) l1);exact gq (λb g e=>I b e (λg'=>by have:=i3 b g';have:=g.1;have:=e1.1;omega)) Y (λb g=>⟨by have:=g.1;have:=e1.1;omega,om g.2,om g.2⟩) _ _ l0
   refine S2 p3 b8 ?_;refine⟨m,bJ _,(hI _ _ _).2 ⟨l++[⟨s.1,ex.1,(wd L q).a⟩],ls++[[.s s.1.1 s.1.2,.s a1.1 a1.2,.s a2.1 a2.2,II a3,II a4,a5,II (wd L q).a]],.a (t.h+1) 0 (ls.length+1) (.B 7),_,⟨?_,?_,?_⟩,?_,a6.dh Y (λg=>om (yl _ g)),?_,?_,?_,?_,?_,b6.be Y,w1,e6,?_⟩⟩
   .exact p0
   .exact p2
   .exact p3
   .show c.h<=j.h;have:=k.1;omega
   .exact(ac Y).t b7
   .exact ae rfl
   .exact λb g g'=>(ac Y).t ((I b (om k.1) (λk=>om (b3 _ k))).t (k1 b g g'))
   .rw[oW,ay];exact dK k8 (λb e _=>ac Y) (ak _)
   .exact pp (U:=j) (e:=j.put z (LL [hd.1,y1,y2,y3,.a (t.h+1) 0 (ls.length+1) (.B 7),w0.a])) (λb g e=>ac (om g.1)) (ak _) (λb g=>⟨g.1,g.2.1,λg'=>g.2.2 (by have:t.h+1=b:=g';omega)⟩) l2
   .rw[ay];simp only[bt,hN];omega
  .have k:=adq (l:=l) zz m;rw[k] at wq;by_cases z0:q.e=0
   .have z1:(wd L q).k≠1:=λg=>zz ⟨z0,g⟩;rw[z0] at b5;refine S2 p0 b5 ?_;refine al (lf hq λw x5=>?_);have n5:=x5.1;rw[hc];refine S0 ?_;let⟨B1,B2,B3⟩:=V w (λb g g'=>(x5.2 b Y).t (kq b g g')) Y;refine(g6 _ _).2 ⟨l,ls,x,q,c.h,⟨p0,p2,p3⟩,⟨Y,Y⟩,hq.fS x5,(x5.2 _ Y).t cq,(x5.2 _ Y).t dq,B1,B2,B3,dK oq (λb _ e=>x5.2 b e) n5,pp (λb g e=>x5.2 b e) n5 (λb g=>⟨g.1,om g.2.1,g.2.2⟩) rq,Xq.of x5,wq.s⟩
   .refine S2 p0 b5 ?_;let⟨B1,B2,B3⟩:=V u kq g2;refine(g6 _ _).2 ⟨l,ls,x,q,c.h,⟨p0,p2,p3⟩,⟨Y,g2⟩,hq,cq,dq,B1,B2,B3,oq,rq,Xq,wq.s⟩
 refine S0 ?_;let⟨_,m,k,c0,_,u,l⟩:=jR (w:=LL [.s 0 0,.e,.e,.e,.e,II 0]) h;rw[<-m];refine al (lf k λa l=>?_);have h:=l.1;have h:=k.fS l;have z:a.f r.h=_:=(l.2 r.h Y).t c0;rw[hc];have k:=h.D;refine S1 k ?_;have q:=(h.X (z:=LL [.s 0 0,.e,.e,.e,.e,II (wd L p).a])).afZ (n:=0) Y;obtain⟨h,k⟩:∃h,h=(a.X (LL [.s 0 0,.e,.e,.e,.e,II (wd L p).a])).put D (LL [y,p.k,p.e,p.b,II 0,p.p,II 0]):=⟨_,rfl⟩;have V:h.f a.h=LL [.s 0 0,.e,.e,.e,.e,II (wd L p).a]:=by rw[k];simp(disch:=omega)only[go_sem]
 have I:h.f r.h=LL [.s 0 0,.e,.e,.e,.e,II 0]:=by rw[k];exact((ac Y).t (ac Y)).t z
 have z:h.h=a.h+1:=by rw[k];rfl
 have z:ax D r h:=by rw[k];exact(u.of l).X.put
 rw[<-k] at q|-;clear k m;refine al (nQ q uo λh h k=>?_);have l:=k.1;refine S0 ?_;refine al (vn h λc h4 x4=>?_);have n4:=x4.1;have h:=k.M x4;have c4:c.f r.h=_:=(h.2 _ Y Y).t I;have d4:c.f a.h=_:=(h.2 _ Y Y).t V;have X4:=z.M h;generalize hs:aG L (aV L uo {p with x:=0})=s at*;simp(disch:=omega)only[go_sem,d4,sV];have h5:=h4.dh (c:=a.h) (z:=LL [s.1,.e,.e,.e,.e,II (wd L p).a]) Y (λg=>om (yl _ g));have X5:ax D r (c.put a.h (LL [s.1,.e,.e,.e,.e,II (wd L p).a])):=X4.be Y;have c5:(c.put a.h (LL [s.1,.e,.e,.e,.e,II (wd L p).a])).f r.h=_:=(ac Y).t c4;have d5:(c.put a.h (LL [s.1,.e,.e,.e,.e,II (wd L p).a])).f a.h=LL [s.1,.e,.e,.e,.e,II (wd L p).a]:=ae rfl;have n5:(c.put a.h (LL [s.1,.e,.e,.e,.e,II (wd L p).a])).h=c.h:=rfl;generalize c.put a.h (LL [.s s.1.1 s.1.2,.e,.e,.e,.e,II (wd L p).a])=w at*;refine al (nQ h5 iV λn h6 x6=>?_);have n6:=x6.1;refine S0 ?_;refine al (QU n D y _ _ h6 λC P o7 h7 h=>?_);have n7:=h.1;have c:=x6.M h;have c7:P.f r.h=_:=(c.2 _ Y Y).t c5;have d7:P.f a.h=_:=(c.2 _ Y Y).t d5;have X7:=X5.M c;generalize hi:kU L (aV L iV s.2)=i at*;have h:=VS.of o7;have c:dZ C=some [C]:=A9 o7;refine S2 d7 c ?_;have h8:=h7.dh (c:=a.h) (z:=LL [s.1,C,.e,.e,.e,II (wd L p).a]) Y (λg=>om (yl _ g));have X8:ax D r (P.put a.h (LL [s.1,C,.e,.e,.e,II (wd L p).a])):=X7.be Y;have c8:(P.put a.h (LL [s.1,C,.e,.e,.e,II (wd L p).a])).f r.h=_:=(ac Y).t c7;have d8:(P.put a.h (LL [s.1,C,.e,.e,.e,II (wd L p).a])).f a.h=LL [s.1,C,.e,.e,.e,II (wd L p).a]:=ae rfl;have n8:(P.put a.h (LL [s.1,C,.e,.e,.e,II (wd L p).a])).h=P.h:=rfl;have V8:=h.aR (e:=P.put a.h (LL [s.1,C,.e,.e,.e,II (wd L p).a])) (λb g _=>ac (om g.1)) (ak _) (λb g=>g);generalize P.put a.h (LL [.s s.1.1 s.1.2,C,.e,.e,.e,II (wd L p).a])=a8 at*;refine al (nQ h8 gW λl3 h9 l=>?_);have n9:=l.1;refine S0 ?_;refine al (nQ h9 tc λW b4 b0=>?_);have k2:=b0.1;refine S0 ?_;refine al (nQ b4 iV λa0 e8 k=>?_);have k3:=k.1;refine S0 ?_;refine al (QU a0 D y _ _ e8 λf d h g0 b2=>?_);have k4:=b2.1;have c:=((l.M b0).M k).M b2;have e4:d.f r.h=_:=(c.2 _ Y Y).t c8;have j7:d.f a.h=_:=(c.2 _ Y Y).t d8;have j2:=X8.M c;have i5:=V8.aR (G:=λb=>n.h<=b/\b<P.h) (λb g e=>c.2 b e (om g.1)) Y (λb g=>g);have i9:=VS.of h;have i1:dZ f=some [f]:=A9 h;generalize ho:kU L (aV L iV (aV L tc (aV L gW i.2)))=o at*;refine S2 j7 i1 ?_;have g5:=g0.dh (c:=a.h) (z:=LL [s.1,C,f,.e,.e,II (wd L p).a]) Y (λg=>om (yl _ g));have e3:ax D r (d.put a.h (LL [s.1,C,f,.e,.e,II (wd L p).a])):=j2.be Y;have e5:(d.put a.h (LL [s.1,C,f,.e,.e,II (wd L p).a])).f r.h=_:=(ac Y).t e4;have j8:(d.put a.h (LL [s.1,C,f,.e,.e,II (wd L p).a])).f a.h=LL [s.1,C,f,.e,.e,II (wd L p).a]:=ae rfl;have k5:(d.put a.h (LL [s.1,C,f,.e,.e,II (wd L p).a])).h=d.h:=rfl;have i6:=i5.aR (e:=d.put a.h (LL [s.1,C,f,.e,.e,II (wd L p).a])) (λb g _=>ac (om g.1)) (ak _) (λb g=>g);have j0:=i9.aR (e:=d.put a.h (LL [s.1,C,f,.e,.e,II (wd L p).a])) (λb g _=>ac (om g.1)) (ak _) (λb g=>g);generalize d.put a.h (LL [.s s.1.1 s.1.2,C,f,.e,.e,II (wd L p).a])=i4 at*;refine al (nQ g5 gW λt F a7=>?_);have k6:=a7.1;refine S0 ?_;refine al (nQ F iW λc c h=>?_);have k:=h.1;have hH:dJ L p=((s.1,i.1,o.1),aV L iW (aV L gW o.2)):=by
  unfold dJ;dsimp only;rw[hs,hi,ho]
 rw[<-show(dJ L p).2=aV L iW (aV L gW o.2) from by rw[hH]] at c;refine S0 ?_;refine al (mD c bR λj a6 i=>?_);have g7:=i.1;have c:=(a7.M h).M i;have b7:j.f r.h=_:=(c.2 _ Y Y).t e5;have b8:j.f a.h=_:=(c.2 _ Y Y).t j8;have b6:=e3.M c;have g9:=i6.aR (G:=λb=>n.h<=b/\b<P.h) (λb g e=>c.2 b e (om g.1)) Y (λb g=>g);have i0:=j0.aR (G:=λb=>a0.h<=b/\b<d.h) (λb g e=>c.2 b e (om g.1)) Y (λb g=>g);unfold fJ at a6;cases b9:aN L bR (dJ L p).2 with
 |false=>
  rw[b9,ac (by decide)] at a6;have eV:jj L (dJ L p).2=([],(dJ L p).2):=ac (by rw[b9];decide);refine S0 ?_;refine(hM _ _).2 ⟨a.h,C,f,.e,⟨?_,?_,?_⟩,⟨?_,?_⟩,?_,?_,?_,?_,?_,?_,?_⟩
  .rfl
  .rfl
  .rfl
  .omega
  .omega
  .rw[eV];dsimp only;exact a6
  .exact b7
  .rw[hH];dsimp only;exact b8
  .rw[hH];dsimp only;exact g9.aR (λ_ _ _=>rfl) (ak _) (λb g=>⟨om g.1,om g.2⟩)
  .rw[hH];dsimp only;exact i0.aR (λ_ _ _=>rfl) (ak _) (λb g=>⟨om g.1,om g.2⟩)
  .rw[eV];dsimp only;exact .nil
  .exact b6
 |true=>
  rw[b9,ae rfl] at a6;have eV:jj L (dJ L p).2=((sO L (bm (dJ L p).2)).1,aV L iW (sO L (bm (dJ L p).2)).2):=ae b9;refine S0 ?_;refine al (afE j D y _ _ a6 λK B h o c=>?_);have i:=c.1;have l:B.f r.h=_:=(c.2 _ Y Y).t b7;have m:B.f a.h=_:=(c.2 _ Y Y).t b8;have k:=b6.M c;have i:=g9.aR (G:=λb=>n.h<=b/\b<P.h) (λb g e=>c.2 b e (om g.1)) Y (λb g=>g);have j:=i0.aR (G:=λb=>a0.h<=b/\b<d.h) (λb g e=>c.2 b e (om g.1)) Y (λb g=>g);have d:=VS.of h;have c:dZ K=some [K]:=A9 h;refine S2 m c ?_;have k0:=o.dh (c:=a.h) (z:=LL [s.1,C,f,K,.e,II (wd L p).a]) Y (λg=>om (yl _ g));have j3:ax D r (B.put a.h (LL [s.1,C,f,K,.e,II (wd L p).a])):=k.be Y;have j6:(B.put a.h (LL [s.1,C,f,K,.e,II (wd L p).a])).f r.h=_:=(ac Y).t l;have j9:(B.put a.h (LL [s.1,C,f,K,.e,II (wd L p).a])).f a.h=LL [s.1,C,f,K,.e,II (wd L p).a]:=ae rfl;have c:(B.put a.h (LL [s.1,C,f,K,.e,II (wd L p).a])).h=B.h:=rfl;have i7:=i.aR (e:=B.put a.h (LL [s.1,C,f,K,.e,II (wd L p).a])) (λb g _=>ac (om g.1)) (ak _) (λb g=>g);have j1:=j.aR (e:=B.put a.h (LL [s.1,C,f,K,.e,II (wd L p).a])) (λb g _=>ac (om g.1)) (ak _) (λb g=>g);have j4:=d.aR (e:=B.put a.h (LL [s.1,C,f,K,.e,II (wd L p).a])) (λb g _=>ac (om g.1)) (ak _) (λb g=>g);generalize B.put a.h (LL [.s s.1.1 s.1.2,C,f,K,.e,II (wd L p).a])=c at*;refine al (nQ k0 iW λc d c=>?_);have h:=c.1;refine S0 ?_;refine(hM _ _).2 ⟨a.h,C,f,K,⟨rfl,rfl,rfl⟩,⟨Y,Y⟩,by rw[eV];dsimp only;exact d,(c.2 _ Y Y).t j6,by rw[hH];dsimp only;exact(c.2 _ Y Y).t j9,?_,?_,?_,j3.M c⟩
  .rw[hH];dsimp only;exact i7.aR (λb g e=>c.2 b e (om g.1)) Y (λb g=>⟨om g.1,om g.2⟩)
  .rw[hH];dsimp only;exact j1.aR (λb g e=>c.2 b e (om g.1)) Y (λb g=>⟨om g.1,om g.2⟩)
  .rw[eV];dsimp only;exact j4.aR (λb g e=>c.2 b e (om g.1)) Y (λb g=>⟨om g.1,om g.2⟩)
end
end
section
variable {x:AV}{g:AV->HN->Prop}{d:HN}{l:L Nd}{h:Nat}
def Ce(v:AV):Prop:=v=.e\/(∃b,v=.a b 0 0 (.k 0))\/∃b n,v=.a b 0 n (.B 6)
def ag5{n:Nat}{l:L AV}(o:aH 6 h d x n l):Ce x:=by
 obtain⟨_,⟨a,_⟩|⟨b,_,_,⟨a,_⟩|⟨a,_⟩⟩⟩:=o
 .exact .inl a
 .exact .inr (.inl ⟨b,a⟩)
 .exact .inr (.inr ⟨b,n,a⟩)
def EQ(F:Nat->Prop)(b:HN)(v:AV)(l:L Nd):Prop:=sA F v/\∃a,aK 6 b v a/\fZ F b l a/\Ce v
def OG:Prop:=∀(c:HN) (T:By) (Q:AV->HN->Prop),N T<=9223372036854775807->
 (∀v a,aK 4 a v ((ix T).1.map Wd.cells)->(∀b,ar v b->c.h<=b/\b<a.h)->ai c.h c a->Q (.t [v,.g [II (ix T).2.1,II (ix T).2.2]]) a)->∃v a,aq Tryz.prog 89 [.s (N T) (aY T)] c v a/\Q v a
def UC{a:L Wd}{p:PS}(h:¬(p.e=0/\(N l=0\/(wd a p).k≠0))):∀n,fV a n l p=(l,p)
 |0=>rfl
 |n+1=>by
  unfold fV;rw[ac h]
def ahb(CS:OG){T:By}(hT:N T<=9223372036854775807)
  (k:∀v t,EQ (kJ d.h t.h) t v (ch T).1->ai d.h d t->g (.t [v,.g [II (ch T).2.1,II (ch T).2.2]]) t):∃v t,aq Tryz.prog 52 [.s (N T) (aY T)] d v t/\g v t:=by
 refine cf Wm Tryz.func52 ?_;let⟨M,hM⟩:=jH λw i=>∃s y l x q,(w 3=.p d.h 0/\w 6=.p s 0/\w 7=x)/\d.h<s/\PA i s y (ix T).1 0 q/\i.f d.h=LL [II 0,II 0]/\EQ (λb=>d.h<b/\b<i.h) i x l/\ai d.h d i/\
   (ix T).2.1=0/\fV (ix T).1 34 [] ⟨0,0,0,0,0⟩=(l,q)
 refine iB (M:=M) 6 _ _ _ ?_ ?_
 .intro w i c;let⟨s,y,l,x,q,⟨p3,P,U⟩,_,hq,cq,v,Eq,z,eq⟩:=(hM _ _).1 c;have H:=hq.D;have eP:ch T=(if q.e=0 then(l,0,0) else([],q.e,q.b)):=by
   have c:ch T=tn (ix T).1:=ae z;rw[c];unfold tn;rw[eq]
  rw[eP] at k;by_cases z0:q.e=0
  .rw[ae z0] at k;rw[z0] at H;simp(disch:=omega)only[lT,lU,go_sem,p3,P,U,H,cq];let⟨c,F,t2,t3,t4⟩:=v;have kp:∀b,(d.h<b/\b<i.h)->b<i.h->(i.put d.h (LL [II 0,II 0])).f b=i.f b:=λb a _=>ac Y;exact k _ _ ⟨λb a=>⟨zU (c b a).1,(c b a).2⟩,F,t2.aR c kp (ak _),iJ kp (ak _) (λb a=>⟨zU a.1,a.2⟩) t3,t4⟩ (Eq.M (.put (ak _)))
  .rw[ac z0] at k;simp(disch:=omega)only[lT,lU,go_sem,p3,P,H,cq];exact k _ _ ⟨λb a=>a.elim,[],.inl ⟨R,.inl R⟩,R,.inl R⟩ (Eq.M (.put (ak _)))
 refine S0 ?_;have E0:ai d.h d (d.X (LL [II 0,II 0])):=.X (ak _);have c0:(d.X (LL [II 0,II 0])).f d.h=LL [II 0,II 0]:=ae R;have c:(d.X (LL [II 0,II 0])).h=d.h+1:=R;generalize d.X (LL [II 0,II 0])=o at*;refine al (CS o T _ hT λy e hy fy c=>?_);have o:=c.1;have c1:e.f d.h=_:=(c.2 _ Y).t c0;have E1:ai d.h d e:=E0.M (c.mono E0.1);by_cases z:(ix T).2.1=0
 .have gd:=Jz z;have eP:ch T=tn (ix T).1:=ae z;rw[eP] at k;rw[z];generalize (ix T).1=j at*;clear eP;have I:dZ y=some [y]:=by
   rcases hy with⟨_,rfl|⟨b,o,c,rfl⟩⟩|⟨b,o,c,c,row,rfl,_⟩<;>rfl
  refine S1 I ?_;obtain⟨h,c⟩:∃h,h=(e.X (LL [II 0,II (ix T).2.2])).X (LL [y,II 0,II 0,II 0,II 0,II 0,II 0]):=⟨_,R⟩;rw[<-c];have o:ai e.h e h:=by rw[c];exact ap (ap (.refl _ _))
  have v:h.h=e.h+2:=by rw[c];rfl
  have h2:PA h (e.h+1) y j 0 ⟨0,0,0,0,0⟩:=by
   refine⟨by rw[c];exact ae R,Y,aK.ext (f:=0) hy o,λa=>om ((fy _ a).2),gd,gd.1,by decide,aJ _,by decide,by decide⟩
  have c2:h.f d.h=_:=(o.2 _ Y).t c1;have E2:ai d.h d h:=E1.M (o.mono E1.1);clear c;generalize c:e.h+1=s at*;have yl:∀b,ar y b->b<s:=λb a=>by have:=(fy b a).2;omega
  let⟨I,hI⟩:=inv λm w i=>∃l F x q,(w 3=.p d.h 0/\w 6=.p s 0/\w 7=x)/\h.h<=i.h/\PA i s y j 0 q/\i.f d.h=LL [II 0,II 0]/\ax s h i/\
    aH 6 h.h i x (N F) F.flatten/\fZ (λb=>h.h<=b/\b<i.h/\¬ar x b) i l F/\fV j m l q=fV j 34 [] ⟨0,0,0,0,0⟩/\N F=N l/\N l+m=34/\N l<=32
  refine aT I 34 ((hI _ _ _).2 ⟨[],[],.e,_,dy,ak _,h2,c2,.refl _ _,.nil,R,R,R,R,by decide⟩) ?_;intro m w i c;let⟨l,F,x,q,⟨p3,P,U⟩,_,hq,cq,Xq,V,rq,wq,ll,_,e⟩:=(hI _ _ _).1 c;clear c;have H:=hq.D;have c:=hq.k;have C:∀e w t,eF (.a e 6 w) x t=.ok (II (N l)) t:=λe w t=>by rw[<-ll];exact ze V Y
  have B:(wd j q).cells=[II (wd j q).k,.s (wd j q).t.1 (wd j q).t.2,II (wd j q).n,II (wd j q).a]:=R;have a1:∀c:HN,ax s i c->∀t:PS,PA c s y j 0 t->fV j 34 [] ⟨0,0,0,0,0⟩=(l,t)->∀e:FN,e 3=.p d.h 0->e 6=.p s 0->e 7=x->M e c:=by
   intro c o t h' I e r3 r6 r7;have v:=o.1;have w:=dK V (λb n B=>o.2 b B Y) v;have kp:∀b,(h.h<=b/\b<i.h/\¬ar x b)->b<i.h->c.f b=i.f b:=λb a n=>o.2 b n (om a.1);have e:=Xq.M o;refine(hM _ _).2 ⟨s,y,l,x,t,⟨r3,r6,r7⟩,Y,h',(o.2 _ Y Y).t cq,?_,?_,z,I⟩
   .have o:=iJ kp v (λb a=>(⟨om a.1,om a.2.1⟩:d.h<b/\b<c.h)) rq;exact⟨λb a=>⟨om ((cz V a).1),om ((cz V a).2)⟩,F,oz w (pm o).2,o,ag5 w⟩
   .exact E2.M ⟨e.1,λb n=>e.2 b Y Y⟩
  by_cases z0:q.e=0
  .rw[z0] at H;by_cases zl:N l=0
   .have W:q.e=0/\(N l=0\/(wd j q).k≠0):=⟨z0,.inl zl⟩;have a0:N l≠32:=Y;rw[zl] at C;refine S4 P U H C ?_;rw[<-zl] at C;obtain _|m:=m
    .omega
    have w1:fV j (m+1) l q=fV j m (l++[(jg j q).1]) (jg j q).2:=by
     conv=>lhs;unfold fV
     rw[ae W,ac a0]
    refine al (Ut i s y q _ hq λz5 f r5 r x5=>?_);have n5:=x5.1;have O:=(ax.refl s i).M x5;have l5:=Hj r5;have o5:=dK V (λb n B=>O.2 b B Y) O.1;have s5:=iJ (G:=λb=>h.h<=b/\b<i.h/\¬ar x b) (λb a n=>O.2 b n (om a.1)) O.1 (λb a=>a) rq;have a2:∀b,ar x b->b<i.h:=λb a=>(cz V a).2;have D:∀b,ar x b->h.h<=b:=λb a=>(cz V a).1;have c5:f.f d.h=_:=(O.2 _ Y Y).t cq;let⟨Z,y2,y3,y4,hz,_⟩:=id r5;generalize jg j q=p at*;subst hz;simp(disch:=omega)only[go_sem,U,fp,ft,bF,sV];have o6:aH 6 h.h ((f.X (LL [p.1.n,Z,y2,y3,y4,p.1.a])).X (LL [p.1.n,Z,y2,y3,y4,p.1.a])) x (N F) F.flatten:=dK o5 (λb _ B=>by simp(disch:=omega)only[go_sem]) (by show f.h<=f.h+1+1;omega);refine tm dc o6 (cD.lits (s:=6) (n:=1) R) dc Y (by show h.h<=f.h+1+1;omega) λu o7 n7 K=>?_;have n7:u.h=f.h+1+1+1:=n7;have K:∀b,b<f.h->¬ar x b->u.f b=f.f b:=λb n B=>(K b (by show b<f.h+1+1;omega) B).t (by simp(disch:=omega)only[go_sem]);have h7:PA u s y j 0 p.2:=⟨(K s r.I (λa=>om (D _ a))).t r.D,om r.I,aK.aR (F:=λb=>b<s) r.hy yl (λb n B=>K b B (λa=>om (D _ a))) Y,r.hp,r.g,r.k,r.e,r.b,r.q,r.n⟩;have t7:fZ (λb=>h.h<=b/\b<u.h/\b≠f.h+1+1) u (l++[p.1]) (F++[[sV p.1.n,Z,y2,y3,y4,II p.1.a]]):=by
     refine Hk ?_ (iJ (λb a n=>K b n a.2.2) Y (λb a=>⟨a.1,om a.2.1,om a.2.1⟩) s5);exact se (λb a n=>K b n (λg'=>by have:=a2 b g';have:=a.1;omega)) Y (λb a=>⟨om a.1,om a.2,om a.2⟩) r5
    refine S0 ?_;refine⟨m,bJ _,(hI _ _ _).2 ⟨l++[p.1],F++[[sV p.1.n,Z,y2,y3,y4,II p.1.a]],.a (f.h+1+1) 0 (N F+1) (.B 6),p.2,⟨p3,P,R⟩,?_,h7,?_,?_,?_,?_,?_,?_,?_,?_⟩⟩
    .omega
    .exact(K _ Y (λa=>om (D _ a))).t c5
    .exact⟨om Xq.1,λb n B=>(K b Y (λa=>om (D _ a))).t ((Xq.M O).2 b n B)⟩
    .rw[oW,ay];exact o7
    .exact iJ (λ_ _ _=>R) (ak _) (λb a=>⟨a.1,a.2.1,λg'=>a.2.2 (by have:f.h+1+1=b:=g';omega)⟩) t7
    .rw[<-wq,w1]
    .rw[ay,ay,ll];rfl
    .rw[ay];simp only[bt,hN];omega
    .rw[ay];simp only[bt,hN];omega
   .refine S4 P U H C ?_;refine al (lf hq λa3 c=>?_);have h3:=hq.fS c;have X3:=(ax.refl s i).of c;rw[B];by_cases c:(wd j q).k=0
    .rw[UC (λa=>a.2.elim (λa=>zl a) (λa=>a c))] at wq;rw[c];refine S0 ?_;exact a1 a3 X3 q h3 wq.s _ p3 P U
    have W:q.e=0/\(N l=0\/(wd j q).k≠0):=⟨z0,.inr c⟩;by_cases a0:N l=32
    .have w1:fV j m l q=(l,iQ j 2 q):=by
      obtain _|m:=m
      .omega
      unfold fV;rw[ae W,ae a0]
     refine S3 P U C ?_;refine al (yD h3 (b:=2) Y λc e o=>?_);refine S0 ?_;exact a1 c (X3.M o) _ e (wq.s.t w1) _ p3 P U
    .obtain _|m:=m
     .omega
     have w1:fV j (m+1) l q=fV j m (l++[(jg j q).1]) (jg j q).2:=by
      conv=>lhs;unfold fV
      rw[ae W,ac a0]
     refine S3 P U C ?_;refine al (Ut a3 s y q _ h3 λz5 f r5 r x5=>?_);have n5:=x5.1;have c:=X3.1;have O:=X3.M x5;have l5:=Hj r5;have o5:=dK V (λb n B=>O.2 b B Y) O.1;have s5:=iJ (G:=λb=>h.h<=b/\b<i.h/\¬ar x b) (λb a n=>O.2 b n (om a.1)) O.1 (λb a=>a) rq;have a2:∀b,ar x b->b<i.h:=λb a=>(cz V a).2;have D:∀b,ar x b->h.h<=b:=λb a=>(cz V a).1;have c5:f.f d.h=_:=(O.2 _ Y Y).t cq;let⟨Z,y2,y3,y4,hz,_⟩:=id r5;generalize jg j q=p at*;subst hz;simp(disch:=omega)only[go_sem,U,fp,ft,bF,sV];have o6:aH 6 h.h ((f.X (LL [p.1.n,Z,y2,y3,y4,p.1.a])).X (LL [p.1.n,Z,y2,y3,y4,p.1.a])) x (N F) F.flatten:=dK o5 (λb _ B=>by simp(disch:=omega)only[go_sem]) (by show f.h<=f.h+1+1;omega);refine tm dc o6 (cD.lits (s:=6) (n:=1) R) dc Y (by show h.h<=f.h+1+1;omega) λu o7 n7 K=>?_;have n7:u.h=f.h+1+1+1:=n7;have K:∀b,b<f.h->¬ar x b->u.f b=f.f b:=λb n B=>(K b (by show b<f.h+1+1;omega) B).t (by simp(disch:=omega)only[go_sem]);have h7:PA u s y j 0 p.2:=⟨(K s r.I (λa=>om (D _ a))).t r.D,om r.I,aK.aR (F:=λb=>b<s) r.hy yl (λb n B=>K b B (λa=>om (D _ a))) Y,r.hp,r.g,r.k,r.e,r.b,r.q,r.n⟩;have t7:fZ (λb=>h.h<=b/\b<u.h/\b≠f.h+1+1) u (l++[p.1]) (F++[[sV p.1.n,Z,y2,y3,y4,II p.1.a]]):=by
      refine Hk ?_ (iJ (λb a n=>K b n a.2.2) Y (λb a=>⟨a.1,om a.2.1,om a.2.1⟩) s5);exact se (λb a n=>K b n (λg'=>by have:=a2 b g';have:=a.1;omega)) Y (λb a=>⟨om a.1,om a.2,om a.2⟩) r5
     refine S0 ?_;refine⟨m,bJ _,(hI _ _ _).2 ⟨l++[p.1],F++[[sV p.1.n,Z,y2,y3,y4,II p.1.a]],.a (f.h+1+1) 0 (N F+1) (.B 6),p.2,⟨p3,P,R⟩,?_,h7,?_,?_,?_,?_,?_,?_,?_,?_⟩⟩
     .omega
     .exact(K _ Y (λa=>om (D _ a))).t c5
     .exact⟨om Xq.1,λb n B=>(K b Y (λa=>om (D _ a))).t ((Xq.M O).2 b n B)⟩
     .rw[oW,ay];exact o7
     .exact iJ (λ_ _ _=>R) (ak _) (λb a=>⟨a.1,a.2.1,λg'=>a.2.2 (by have:f.h+1+1=b:=g';omega)⟩) t7
     .rw[<-wq,w1]
     .rw[ay,ay,ll];rfl
     .rw[ay];simp only[bt,hN];omega
     .rw[ay];simp only[bt,hN];omega
  .rw[UC (λa=>z0 a.1)] at wq;refine S2 P H ?_;exact a1 i (.refl _ _) q hq wq.s _ p3 P U
 .have eP:ch T=([],(ix T).2):=ac z;rw[eP] at k;refine S1 c1 ?_;refine k _ _ ⟨λb a=>a.elim,[],.inl ⟨R,.inl R⟩,R,.inl R⟩ ?_;exact cO (ap E1)
end
section
variable {a:Nat}{w:Option dn}
section
mutual
def bO:Tr->Prop
 |.mk _ _ _ a b=>a<=16384/\b.length<=1073741824/\jI b
def jI:List Tr->Prop
 |[]=>True
 |k::a=>bO k/\jI a
end
def A4(v:Vr):Prop:=v.a<=16384/\v.z<=2
def vq(l:List Vr):Prop:=l.length<=1073741824/\∀v∈l,A4 v
def zb(q:aX):Prop:=q.a<=16384/\bO q.e
def eG(n:Nd):Prop:=n.a<=16384/\vq n.ins/\vq n.o/\vq n.ao/\n.r.length<=1073741824/\∀q∈n.r,zb q
def ow(l:List Nd):Prop:=l.length<=64/\∀n∈l,eG n
def mw:∀a:List Tr,jI a↔∀k∈a,bO k
 |[]=>⟨J,λ_=>by unfold jI;trivial⟩
 |k::a=>by
  unfold jI;rw[mw a];grind
def UM{a:List Tr}{e:Tr}(h:jI a)(g:bO e):jI (a++[e]):=(mw _).2 λk hk=>by
 rcases bA.1 hk with hk|hk
 .exact(mw _).1 h k hk
 grind
def A1{c b:S}{n:Nat}(h:a<=16384):bO (.mk c b n a []):=by unfold bO jI;grind
def UL{c b:S}{n:Nat}{x:Tr}(h:a<=16384)(d:bO x):bO (.mk c b n a [x]):=by unfold bO jI jI;grind
def Dv{c b:S}{n:Nat}{x y:Tr}(h:a<=16384)(d:bO x)(d:bO y):bO (.mk c b n a [x,y]):=by unfold bO jI jI jI;grind
def agu{c b:S}{n:Nat}{x y z:Tr}(h:a<=16384)(d:bO x)(d:bO y)(d:bO z):bO (.mk c b n a [x,y,z]):=by unfold bO jI jI jI jI;grind
variable {L:List Wd}{p:PS}
def uz(g:Good L)(p:PS):(wd L p).a<=16384:=by
 unfold wd;rw[cA];by_cases h:p.k<L.length
 .rw[bM h];exact(g.2.2.2 _ J).2.2
 grind
def qM(a:PS->Tr×PS):Prop:=∀p,bO (a p).1
def sx(G:Option dn):Prop:=match G with|none=>True|some F=>qM F.a/\qM F.f/\qM F.B/\qM F.p
def GX:bO E0:=A1 Y
def CU{f:dn->Tr×PS}(h:∀F,w=some F->bO (f F).1):bO (gm L w p f).1:=by
 unfold gm qn;split
 .grind
 .exact GX
def yB(g:sx w):qM (dU L w):=λp=>CU λF e=>by subst e;exact g.1 p
def Sl(g:sx w):qM (qX L w):=λp=>CU λF e=>by subst e;exact g.2.2.2 p
def Py{w:Option dn}(g:sx w):∀(n:Nat) (l:List Tr) (p:PS),jI l->jI (jC L w n l p).1/\(jC L w n l p).1.length<=l.length+n
 |0,l,p,h=>⟨h,ak _⟩
 |n+1,l,p,h=>by
  unfold jC;split
  .split
   .obtain A:=Py g n (l++[(dU L w p).1]) (bm (dU L w p).2) (UM h (yB g p));grind
   .exact⟨UM h (yB g p),J⟩
  grind
def aif(c:Good L){b:Wd}(a:b.a<=16384)(g:sx w):bO (ii L w b p).1:=by
 unfold ii;split
 .exact A1 a
 split
 .exact A1 a
 split
 .exact A1 a
 split
 .exact agu a (yB g _) (yB g _) (yB g _)
 split
 .exact Dv a (Sl g _) (Sl g _)
 .unfold pU;dsimp only;split
  .unfold yq;split
   .exact A1 a
   .let⟨d,e⟩:=Py (L:=L) g L.length [] (bm (aG L p).2) (by unfold jI;trivial);unfold bO;refine⟨a,?_,d⟩
    have:=c.2.1
    grind
  .exact A1 a
def WN(a:Good L)(g:sx w):qM (oB L w):=λp=>by
 unfold oB;split
 .exact yB g _
 .exact aif a (uz a p) g
def Y1(a:Good L)(g:sx w):qM (pA L w):=λp=>by
 have h:∀b,bO (nP L w b p).1:=λb=>by
  unfold nP;split
  .exact CU λF e=>by subst e;exact UL (uz a p) (g.2.2.1 _)
  .exact GX
 unfold pA;split
 .grind
 split
 .grind
 split
 .grind
 .exact WN a g p
def Zq(b:Good L):∀(n:Nat) (a:Tr) (p:PS),bO a->bO (mZ L n a p).1
 |0,_,_,h=>h
 |n+1,a,p,h=>by
  unfold mZ;split
  .exact Zq b n _ _ (UL (uz b p) h)
  .exact h
def Zl(a:Good L)(g:sx w):qM (lW L w):=λp=>Zq a _ _ _ (Y1 a g p)
def RK(a:Good L)(g:sx w):qM (pK L w):=λp=>by
 unfold pK;dsimp only;split
 .exact CU λF e=>by subst e;exact Dv (uz a _) (Zl a g p) (g.2.1 _)
 .exact Zl a g p
def XQ(c:Good L){f:PS->Tr×PS}{e:List S}{b:Bool}(d:qM f):∀(n:Nat) (a:Tr) (p:PS),bO a->bO (fO L f e b n a p).1
 |0,_,_,h=>h
 |n+1,a,p,h=>by
  unfold fO;split
  .exact h
  .split
   .exact Dv (uz c p) h (d _)
   .exact XQ c d n _ _ (Dv (uz c p) h (d _))
def Hv(a:Good L){w:Option dn}(g:sx w):∀n:Nat,qM (bP L w n)
 |0=>λp=>RK a g p
 |n+1=>λp=>XQ a (Hv a g n) _ _ _ (Hv a g n p)
def aa3(a:Good L)(g:sx w):qM (qP L w):=λp=>by
 unfold qP;dsimp only;split
 .exact CU λF e=>by subst e;exact Dv (uz a _) (Hv a g 5 p) (g.1 _)
 .exact Hv a g 5 p
def Dg(a:Good L):∀m:Nat,sx (pN L m)
 |0=>trivial
 |m+1=>⟨aa3 a (Dg a m),RK a (Dg a m),Y1 a (Dg a m),WN a (Dg a m)⟩
def kA(n:Nat)(l:List Vr):Prop:=l.length<=n/\∀v∈l,A4 v
def kA.app{n m:Nat}{l k:List Vr}(h:kA n l)(g:kA m k):kA (n+m) (l++k):=
 ⟨by rw[ay];exact Nat.add_le_add h.1 g.1,λv a=>(bA.1 a).elim (h.2 v) (g.2 v)⟩
def kA.mono{n m:Nat}{l:List Vr}(h:kA n l)(e:n<=m):kA m l:=⟨bC h.1 e,h.2⟩
def kA.map{n:Nat}{l:List Vr}(h:kA n l)(f:Vr->Vr)(a:∀v,A4 v->A4 (f v)):kA n (l.map f):=
 ⟨by rw[aC];exact h.1,λv b=>by obtain⟨u,hu,rfl⟩:=cN.1 b;exact a u (h.2 u hu)⟩
def kA.nil{n:Nat}:kA n []:=⟨aJ _,λ_ h=>by cases h⟩
def QM(b:Good L):∀(n m:Nat) (l:List Vr) (p:PS),kA m l->kA (m+n) (iz L n l p).1.1
 |0,m,l,p,h=>h
 |n+1,m,l,p,h=>by
  have a:kA (m+1) (l++[⟨(aG L p).1,0,(0,0),false,(wd L p).a⟩]):=h.app ⟨ak 1,λv c=>by rw[dM.1 c];exact⟨uz b p,aJ _⟩⟩;unfold iz;split
  .split
   .exact kA.nil
   .split
    .exact(QM b n (m+1) _ _ a).mono Y
    .exact a.mono Y
  .exact h.mono Y
def JF(a:Good L)(p:PS):kA L.length (cH L p).1:=by
 unfold cH;dsimp only;split
 .refine kA.map ((QM a L.length 0 [] p .nil).mono Y) _ λv a=>⟨a.1,?_⟩;grind
 .exact .nil
def QT(a:Good L):∀(n m:Nat) (l:List Vr) (p:PS),kA m l->kA (m+n*L.length) (mg L n l p).1
 |0,m,l,p,h=>by rw[lq];exact h
 |n+1,m,l,p,h=>by
  unfold mg;split
  .exact(QT a n (m+L.length) _ _ (h.app (JF a _))).mono J
  .exact h.mono Y
def Yo(g:Good L):L.length+L.length*L.length<=1073741824:=by
 have h:L.length<=16385:=by have:=g.2.1;omega
 have:L.length*L.length<=16385*16385:=Nat.mul_le_mul h h
 omega
def QQ(a:Good L)(p:PS):vq (kU L p).1:=by
 unfold kU;split
 .exact⟨aJ _,λ_ h=>by cases h⟩
 .have:=QT a L.length L.length (cH L p).1 (cH L p).2 (JF a p)
  exact⟨bC this.1 (Yo a),this.2⟩
def ab6{n:Nat}{d:List Vr×PS}(h:kA n d.1):kA n (is L d).1:=by
 unfold is;split
 .exact h.map _ λv a=>a
 .exact h
def Ty(b:Good L):∀(n m:Nat) (l:List Vr) (p:PS),kA m l->kA (m+n*L.length) (nE L n l p).1
 |0,m,l,p,h=>by rw[lq];exact h
 |n+1,m,l,p,h=>by
  unfold nE;dsimp only;have a:=h.app (ab6 (L:=L) (JF b p));split
  .split
   .exact(Ty b n (m+L.length) _ _ a).mono J
   .exact a.mono J
  .exact h.mono Y
def afC(a:Good L)(p:PS):vq (sO L p).1:=by
 unfold sO;split
 .exact⟨aJ _,λ_ h=>by cases h⟩
 .have:=Ty a L.length 0 [] p .nil
  exact⟨bC this.1 (om (Yo a)),this.2⟩
def adi(a:Good L)(p:PS):zb (mi L p).1:=⟨uz a p,yB (Dg a 30) _⟩
def JS(b:Good L):∀(n:Nat) (l:List aX) (p:PS),(∀q∈l,zb q)->(∀q∈(iG L n l p).1,zb q)/\(iG L n l p).1.length<=l.length+n
 |0,l,p,h=>⟨h,ak _⟩
 |n+1,l,p,h=>by
  unfold iG;split
  .obtain A:=JS b n (l++[(mi L p).1]) (mi L p).2 λq a=>(bA.1 a).elim (h q) λa=>by rw[dM.1 a];exact adi b p
   grind
  grind
def ajK(a:Good L)(q:PS):vq (jj L q).1:=by
 unfold jj;split
 .exact afC a _
 .exact⟨aJ _,λ_ h=>by cases h⟩
def ado(a:Good L)(q:PS):(iG L L.length [] q).1.length<=1073741824/\∀x∈(iG L L.length [] q).1,zb x:=by
 obtain A:=JS a L.length [] q J
 have:=a.2.1
 grind
def aem(a:Good L)(p:PS):vq (dJ L p).1.2.1:=QQ a (aV L iV (aG L (aV L uo {p with x:=0})).2)
def aep(a:Good L)(p:PS):vq (dJ L p).1.2.2:=QQ a (aV L iV (aV L tc (aV L gW (kU L (aV L iV (aG L (aV L uo {p with x:=0})).2)).2)))
def GN(p:PS):(jg L p).1=⟨(dJ L p).1.1,(dJ L p).1.2.1,(dJ L p).1.2.2,(jj L (dJ L p).2).1,(iG L L.length [] (aV L pr (jj L (dJ L p).2).2)).1,(wd L p).a⟩:=rfl
def agq(a:Good L)(p:PS):eG (jg L p).1:=by
 have b:=aem a p;have c:=aep a p;have d:=ajK a (dJ L p).2;have e:=ado a (aV L pr (jj L (dJ L p).2).2);have f:=uz a p;rw[GN];generalize (dJ L p).1=a at*;generalize (iG L L.length [] (aV L pr (jj L (dJ L p).2).2)).1=es at*;generalize (jj L (dJ L p).2).1=a at*;exact⟨f,b,c,d,e⟩
def UB(b:Good L):∀(n:Nat) (l:List Nd) (p:PS),(∀d∈l,eG d)->(∀d∈(fV L n l p).1,eG d)/\(fV L n l p).1.length<=l.length+n
 |0,l,p,h=>⟨h,ak _⟩
 |n+1,l,p,h=>by
  unfold fV;split
  .split
   .grind
   .obtain A:=UB b n (l++[(jg L p).1]) (jg L p).2 λq a=>(bA.1 a).elim (h q) λa=>by rw[dM.1 a];exact agq b p
    grind
  grind
def Vk(t:By):ow (ch t).1:=by
 unfold ch;split
 .rename_i h;have a:=Jz h;unfold tn;dsimp only;let⟨b,c⟩:=UB a 34 [] ⟨0,0,0,0,0⟩ J;split
  .exact⟨bC c dp,b⟩
  .exact⟨aJ _,λ_ h=>by cases h⟩
 .exact⟨aJ _,λ_ h=>by cases h⟩
end
variable {x y:AV}{e:HN}{f s:Nat}
section
mutual
def Tr.E{P:Tr->Prop}(h:∀c b n a ks,(∀k∈ks,P k)->P (.mk c b n a ks)):∀e,P e
 |.mk c b n a ks=>h c b n a ks (Tr.M h ks)
def Tr.M{P:Tr->Prop}(h:∀c b n a ks,(∀k∈ks,P k)->P (.mk c b n a ks)):∀(ks:L Tr),∀k∈ks,P k
 |[],k,hk=>by cases hk
 |a::r,k,hk=>by
  rcases bY.1 hk with e|hk
  .rw[e];exact Tr.E h a
  .exact Tr.M h r k hk
end
abbrev tt:Nat->Prop:=λ_=>True
def pf{F:Nat->Prop}{e:HN}:∀{ks:L Tr} {a:L (L AV)},cw F e ks a->∀i (h:i<N ks),∃b:i<N a,bn F e ks[i] a[i]
 |k::ks,_,h,0,c=>by
  unfold cw at h;obtain⟨l,r,rfl,a,b⟩:=h;exact⟨jm _,a⟩
 |k::ks,_,h,i+1,c=>by
  unfold cw at h;obtain⟨l,r,rfl,a,b⟩:=h;let⟨q,r⟩:=pf b i (by simpa using c);exact⟨oL q,r⟩
def sh{F:Nat->Prop}{f:HN}:∀{ks:L aX} {a:L (L AV)},mU F f ks a->∀i (h:i<N ks),∃b:i<N a,uf F f ks[i] a[i]
 |k::ks,_,⟨l,r,e,a,b⟩,0,c=>by subst e;exact⟨jm _,a⟩
 |k::ks,_,⟨l,r,e,a,b⟩,i+1,c=>by
  subst e;let⟨q,r⟩:=sh b i (by simpa using c);exact⟨oL q,r⟩
def ph{F:Nat->Prop}{f:HN}:∀{ks:L Nd} {a:L (L AV)},fZ F f ks a->∀i (h:i<N ks),∃b:i<N a,dL F f ks[i] a[i]
 |k::ks,_,⟨l,r,e,a,b⟩,0,c=>by subst e;exact⟨jm _,a⟩
 |k::ks,_,⟨l,r,e,a,b⟩,i+1,c=>by
  subst e;let⟨q,r⟩:=ph b i (by simpa using c);exact⟨oL q,r⟩
def iS{a:HN}{F:Nat->Prop}(x:ai a.h a e):uG F a e:=λb _ c=>x.2 b c
section
variable {P:Program}{C:Spec}{all:L Oper}{K:FN->HN->Prop}{nx0:Nat}{ks:L DK}{r:L Oper}{j:Nat}{d:Option Nat}{O:FN}{Us:L HN}{rs:L kw}
def CE{w n m:Nat}{c:HN}{l k:L AV}(t:0<s)(u:aH s f c x n l)(v:cD s c y m k)(p:0<m)(g:(n+m)*w<=140737488355328)(i:f<=c.h)
  (h:∀a,aH s f a (.a c.h 0 (n+m) (.B s)) (n+m) (l++k)->a.h=c.h+1->(∀b,b<c.h->¬ar x b->a.f b=c.f b)->dX P C all K nx0 ks r (j+1) (be d (.a c.h 0 (n+m) (.B s)) O) a (a::Us) rs):dE P C all K nx0 ks r j d O c Us rs (gj s w x y c):=by
 let⟨a,e,o,q,b⟩:=oS (w:=w) t u v p g i;rw[e];exact h a o q b
end
def aa7:∀(e:Tr),bO e->∀(U:HN) (z:L AV) (Q:AV->HN->Prop),bn tt U e z->(∀m U',bn (kJ U.h U'.h) U' e m->ai U.h U U'->Q (.g m) U')->∃v U',aq Tryz.prog 28 [z] U v U'/\Q v U':=by
 refine Tr.E λop nm n a ks ih=>?_;intro m U z Q r k;unfold bO at m;let⟨_,v,g⟩:=m;have g:=(mw _).1 g;unfold bn at r;obtain⟨y,rfl,-,m,ry,a1⟩:=r;have m:=(kI a1).1;refine cf V8 Tryz.func28 ?_;simp(disch:=omega)only[go_sem,sV];let⟨I,hI⟩:=inv λm O f=>∃i x o,m=N ks-i/\i<=N ks/\(O 1=.p U.h 0/\O 2=.p (U.h+1) 0/\O 3=.p (U.h+1+1) 0/\O 4=II i)/\
   (f.f U.h=LL [op,nm,n,a,y]/\f.f (U.h+1)=LL [.s 0 0,.s 0 0,II 0,II 0,.e]/\f.f (U.h+1+1)=LL [op,nm,n,a,x])/\
   aH 5 (U.h+3) f x (N o) o.flatten/\cw (λb=>U.h+3<=b/\b<f.h/\¬ar x b) f (ks.take i) o/\ai U.h U f/\U.h+3<=f.h
 refine aT I (N ks) ((hI _ _ _).2 ⟨0,.e,[],R,aJ _,dy,⟨by simp(disch:=omega)only[go_sem],by simp(disch:=omega)only[go_sem],by simp(disch:=omega)only[go_sem]⟩,.nil,by rw[gO];unfold cw;rfl,cO (ap (ap (ap (.refl _ _)))) Y,by show U.h+3<=U.h+1+1+1;omega⟩) ?_;intro m O f m;let⟨i,x,o,_,m,⟨p1,p2,p3,p4⟩,⟨c0,c1,V⟩,ox,rx,Ex,v⟩:=(hI _ _ _).1 m;have ln:=λe=>(ry.ext (f:=0) Ex).len (a:=e) (f:=72) (e:=f) Y;have m:N (ks.take i)=i:=by rw[dW];omega
 have e:N o=i:=by rw[(kI rx).1,m]
 by_cases t:i<N ks
 .let⟨a3,ri⟩:=pf a1 i t;obtain⟨b,off,cap,e,row,rfl,hb,a2,e,a0⟩:=ry.at a3;have e:f.f b=_:=(Ex.2 b a2).t hb;refine S7 p1 p3 p4 c0 V e a0 ?_;refine bL (ih _ (aU t) (g _ (aU t)) _ _ _ (gq (U:=U) (e:=f.at_ (f.h+12)) (iS ⟨by show U.h<=f.h+12;omega,Ex.2⟩) (by show U.h<=f.h+12;omega) (λ_ h=>h) _ _ ri) λe l r8 e=>?_);have g:f.h+12<=l.h:=e.1;have k8:∀b,b<f.h+12->l.f b=f.f b:=e.2;have d2:l.f (U.h+1+1)=_:=(k8 _ Y).t V;obtain⟨u,w,B,D,F,rfl⟩:=cJ r8;refine S0 ?_;have kH:∀c,c≠f.h+8->(((l.at_ (f.h+8)).X (LL [u,w,B,D,F])).at_ l.h).f c=l.f c:=λc s=>ac s;have wH:(((l.at_ (f.h+8)).X (LL [u,w,B,D,F])).at_ l.h).f (f.h+8)=LL [u,w,B,D,F]:=ae R;have e:(((l.at_ (f.h+8)).X (LL [u,w,B,D,F])).at_ l.h).h=l.h:=R;generalize ((l.at_ (f.h+8)).X (LL [u,w,B,D,F])).at_ l.h=p at*;have e:aH 5 (U.h+3) p x (N o) o.flatten:=dK ox (λc _ s=>(kH c Y).t (k8 c Y)) Y;have g:cD 5 p (.a (f.h+8) 0 1 (.k 1)) 1 [u,w,B,D,F]:=.inr ⟨f.h+8,0,_,false,_,R,wH,Y,ak _,R,R⟩;have v:∀c,ar x c->U.h+3<=c/\c<f.h:=λc s=>cz ox s;refine CE dc e g dc Y Y λe o9 g y=>?_;have m:∀c,c<f.h->¬ar x c->e.f c=f.f c:=λc s g=>(y c Y g).t ((kH c Y).t (k8 c Y));have z:e.f U.h=_:=(m _ Y (λg=>om (v _ g))).t c0;have I:e.f (U.h+1)=_:=(m _ Y (λg=>om (v _ g))).t c1;have e2:e.f (U.h+1+1)=_:=(m _ Y (λg=>om (v _ g))).t V;refine S5 p3 p4 d2 e2 V ?_;refine⟨λh=>absurd h dc,N ks-(i+1),Y,(hI _ _ _).2 ⟨i+1,.a p.h 0 (N o+1) (.B 5),o++[[.s u.1 u.2,.s w.1 w.2,II B,II D,F]],R,t,⟨dx p1,dx p2,dx p3,R⟩,⟨(ac Y).t z,(ac Y).t I,ae R⟩,?_,?_,?_,?_⟩⟩
  .have h:=dK (U':=e.put (U.h+1+1) (LL [op,nm,n,a,.a p.h 0 (N o+1) (.B 5)])) o9 (λc s _=>ac Y) (ak _);rw[ay,oW];exact h
  .rw[dt t];refine zi (Bg (F:=λb=>U.h+3<=b/\b<f.h/\¬ar x b) (U:=f) (λc q s=>(ac (om q.1)).t (m c s q.2.2)) (by show f.h<=e.h;omega) (λc q=>⟨q.1,by show c<e.h;have:=q.2.1;omega,λg=>by have g:p.h=c:=g;have:=q.2.1;omega⟩) rx) ?_;exact gq (U:=l) (λc q s=>(ac (by have:=q.1;have W:f.h+12<=c:=q.1;omega)).t ((y c Y (λg=>by have:=v _ g;have W:f.h+12<=c:=q.1;omega)).t (kH c (by have W:f.h+12<=c:=q.1;omega)))) (by show l.h<=e.h;omega)
    (λc q=>⟨by have W:f.h+12<=c:=q.1;omega,by show c<e.h;have:=q.2;omega,λg=>by have g:p.h=c:=g;have:=q.2;omega⟩) _ _ r8
  .exact⟨by show U.h<=e.h;omega,λc s=>(ac Y).t ((m c Y (λg=>om (v _ g))).t (Ex.2 c s))⟩
  .show U.h+3<=e.h;omega
 .obtain rfl:i=N ks:=Y;refine S8 p1 p2 p3 p4 c0 c1 V ln ?_;rw[hU] at rx;have T:bn (λb=>U.h+3<=b/\b<f.h) f (.mk op nm n a ks) _:=Xf ox rx (λb q=>⟨q.1,q.2.1⟩) (λb W a=>⟨W,a⟩);exact k _ _ (pe (mT T (λq=>om q.1)) (λb q=>⟨om q.1,q.2⟩)) (cO Ex Y)
end
end
end Go.Proofs.YtehahhggpdhieaaGreatDoor
