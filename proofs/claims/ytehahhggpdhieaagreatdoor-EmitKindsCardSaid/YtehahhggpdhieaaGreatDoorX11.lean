/- Lemmas of the walk of EmitKinds are proved. Conditions: none. -/
import Derived.Test.YtehahhggpdhieaaGreatDoorX10
namespace Go.Proofs.YtehahhggpdhieaaGreatDoor
set_option maxRecDepth 100000
set_option maxHeartbeats 32000000
set_option linter.all false
section
section
variable {L:List Wd}{d:Nat}{G:Option dn}
def ail(FL:nU G)(W:rL L d 5 (bP L G 0)):rL L d 4 (bP L G 1):=by
 intro f pb y p Q h k;refine c0 Tryz.func170 ?_;have n:=h.I;refine S0 ?_;obtain⟨g,n,u,c0,z,I,X0⟩:∃g,g=((((((f.X (LL [.s 0 0,.s 0 0,II 0,II 0,.e])).X (LL [.s 2 29295,.s 3 7499640])).X (LL [.s 3 6581857])).X (LL [.s 1 61,.s 2 15932,.s 1 60,.s 2 15676,.s 1 62,.s 2 15678])).X (LL [.s 1 43,.s 1 45])).X (LL [.s 1 42,.s 1 47,.s 3 6582125])).X (LL [.a (f.h+1) 0 2 (.k 2),.a (f.h+1+1) 0 1 (.k 1),.a (f.h+1+1+1) 0 6 (.k 6),.a (f.h+1+1+1+1) 0 2 (.k 2),.a (f.h+1+1+1+1+1) 0 3 (.k 3)])/\PA g pb y L d p/\g.f f.h=LL [.s 0 0,.s 0 0,II 0,II 0,.e]/\g.f (f.h+1+1+1+1+1)=LL ([gL,gK,gA].map sV)/\g.h=f.h+7/\ax pb f g:=
  ⟨_,rfl,h.X.X.X.X.X.X.X,by simp(disch:=omega)only[go_sem],by simp(disch:=omega)only[go_sem];rfl,rfl,((((((ax.refl pb f).X.X).X).X).X).X).X⟩
 rw[<-n];refine al (W g pb y p _ u λz1 j r1 u x1=>?_);have n:=fN r1;have I:=x1.1;have c1:=(x1.2 f.h Y Y).t c0;have o1:=(x1.2 (f.h+1+1+1+1+1) Y Y).t z;refine S1 n ?_;let⟨a0,n,h2,c2,z,X2,B2⟩:=jR (w:=LL z1) u;rw[<-n];let⟨I,hI⟩:=inv λm n u=>∃a z q,(n 0=.p pb 0/\n 1=II 4/\n 4=.p f.h 0/\n 5=.a (f.h+1+1+1+1+1) 0 3 (.k 3)/\n 6=.p j.h 0)/\PA u pb y L d q/\
   u.f f.h=LL [.s 0 0,.s 0 0,II 0,II 0,.e]/\u.f j.h=LL z/\u.f (f.h+1+1+1+1+1)=LL ([gL,gK,gA].map sV)/\bn (λb=>g.h<=b/\b<u.h/\b≠j.h) u a z/\a0.h<=u.h/\ax pb f u/\
   fO L (bP L G 0) [gL,gK,gA] false m a q=bP L G 1 p/\(q.e=0->L.length<=q.k+m)
 refine aT I L.length ((hI _ _ _).2 ⟨_,z1,_,⟨rfl,rfl,rfl,rfl,rfl⟩,h2,(B2.2 _ Y).t c1,c2,(B2.2 _ Y).t o1,gq (λb _ I=>B2.2 b I) B2.1 (λb q=>⟨q.1,om q.2,om q.2⟩) _ _ r1,ak _,(X0.M x1).M X2,rfl,λ_=>tr _ _⟩) ?_;intro m n u I;let⟨a,_,q,⟨z,p1,p4,p5,p6⟩,hq,cq,dq,oq,rq,nq,Xq,wq,fq⟩:=(hI _ _ _).1 I;refine S1 z ?_;refine al (lf hq λI x3=>?_);have I:(wd L q).cells=[II (wd L q).k,.s (wd L q).t.1 (wd L q).t.2,II (wd L q).n,II (wd L q).a]:=rfl;rw[I];refine S0 ?_;let⟨J,hJ⟩:=inv λm n r=>∃i,m=3-i/\i<=3/\(n 0=.p pb 0/\n 1=II 4/\n 4=.p f.h 0/\n 5=.a (f.h+1+1+1+1+1) 0 3 (.k 3)/\n 6=.p j.h 0)/\
   n 7=II (wd L q).a/\n 8=.s (my L [gL,gK,gA] q i).1 (my L [gL,gK,gA] q i).2/\n 9=II i/\ai u.h u r
 refine aT J 3 ((hJ _ _ _).2 ⟨0,rfl,aJ _,⟨z,p1,p4,p5,p6⟩,rfl,rfl,rfl,x3⟩) ?_;intro n a1 r u;let⟨i,_,n,⟨B,s1,s4,C,s6⟩,s7,s,s9,t⟩:=(hJ _ _ _).1 u;have w:=hq.fS t;have n:=t.1;have oj:r.f (f.h+1+1+1+1+1)=_:=(t.2 _ Y).t oq;by_cases x:i<3
 .have gi:=xj [gL,gK,gA] i x;have n:([gL,gK,gA].map sV).length=3:=rfl;refine S5 B C s9 oj gi ?_;refine al (lO w ([gL,gK,gA].getD i (0,0)) λn x4=>?_);have a2:n.f (f.h+1+1+1+1+1)=_:=(x4.2 _ Y).t oj;have o:=DA (L:=L) (p:=q) (a:=[gL,gK,gA]) x;cases e:aN L ([gL,gK,gA].getD i (0,0)) q with
  |true=>
   rw[e,ae rfl] at o;refine S4 C s9 a2 gi ?_;exact⟨3-(i+1),Y,(hJ _ _ _).2 ⟨i+1,rfl,Y,⟨B,s1,s4,C,s6⟩,s7,by rw[o];rfl,rfl,t.M (x4.mono t.1)⟩⟩
  |false=>
   rw[e,ac (by decide)] at o;refine S1 s9 ?_;exact⟨3-(i+1),Y,(hJ _ _ _).2 ⟨i+1,rfl,Y,⟨B,s1,s4,C,s6⟩,s7,by rw[o];exact s,rfl,t.M (x4.mono t.1)⟩⟩
 obtain rfl:i=3:=Y;have o:my L [gL,gK,gA] q 3=(kf L [gL,gK,gA] q).getD (0,0):=Dz;rw[o] at s;have cj:r.f f.h=_:=(t.2 _ Y).t cq;have dj:r.f j.h=_:=(t.2 _ Y).t dq;have rj:=rp rq t;have lq:=fN rq;cases e:kf L [gL,gK,gA] q with
 |none=>
  rw[e] at s;have s:a1 8=.s 0 0:=s;have v:aI 0 0 0 0=true:=rfl;simp(disch:=omega)only[go_sem,s4,C,s6,s,s9,v,cj,dj,lq];have D:fO L (bP L G 0) [gL,gK,gA] false m a q=(a,q):=by
   cases m with
   |zero=>rfl
   |succ m=>unfold fO;rw[e]
  rw[D] at wq;rw[<-wq] at k;exact k _ _ (pe (mT rj (λq=>om q.1)) (λb q=>⟨om q.1,by have:=q.2.1;show b<r.h;omega⟩)) (w.dh Y (h.fresh (ak _))) ((Xq.of t).be (ak _))
 |some l=>
  rw[e] at s;have s:a1 8=.s l.1 l.2:=s;let⟨i,ei⟩:=A7 e;have v:aI l.1 l.2 0 0=false:=by
   revert l;simp only[bY,kN,lY]
   rintro l - - - i -
   rcases i with rfl|rfl|rfl<;>rfl
  let⟨he,i,_⟩:=qo ei;have x:=hq.k;obtain _|m:=m
  .have:=fq he;omega
  refine S5 B C s s9 v ?_;refine al (oA w λi i k=>?_);refine S2 B s ?_;refine al (wu l i λi o n=>?_);refine S2 B s1 ?_;refine al (W i pb y _ _ o λi c r8 h8 i=>?_);have o:=k.1;have o:=n.1;have o:=i.1;have X8:=(k.M n).M i;have c8:c.f f.h=_:=(X8.2 _ Y Y).t cj;have d8:c.f j.h=_:=(X8.2 _ Y Y).t dj;have o8:c.f (f.h+1+1+1+1+1)=_:=(X8.2 _ Y Y).t oj;have v8:=nI rj X8 (λq=>om q.1);have f:=fN r8;obtain⟨f1,f2,f3,f4,f5,rfl⟩:=cJ rq;obtain⟨F,K,P,V,g5,rfl⟩:=cJ r8;refine S5 s1 s6 s7 s d8 ?_;have T:bn (λb=>g.h<=b/\b<c.h+1+1/\b≠j.h) (((c.X (LL [F,K,P,V,g5])).X (LL [f1,f2,f3,f4,f5,F,K,P,V,g5])).put j.h (LL [l,.s 0 0,II 0,II (wd L q).a,.a (c.h+1) 0 2 (.k 2)]))
    (.mk l (0,0) 0 (wd L q).a [a,(bP L G 0 (cZ L l q)).1]) [l,.s 0 0,II 0,II (wd L q).a,.a (c.h+1) 0 2 (.k 2)]:=
   wY (o:=(0,0)) (c:=j.h) (pb:=pb) v8 r8 (λb q=>⟨⟨q.1,om q.2.1,q.2.2⟩,om q.1,q.2.2⟩) (λb q=>⟨⟨om q.1,om q.2,om q.1⟩,om q.1,om q.1⟩)
    (λb b q2 b=>by simp(disch:=omega)only[go_sem]) (by show c.h<=c.h+1+1;omega) (by simp(disch:=omega)only[go_sem]) (by show c.h+1<c.h+1+1;omega) ⟨Y,Y,Y⟩
  have b:=(h8.X (z:=LL [F,K,P,V,g5])).X (z:=LL [f1,f2,f3,f4,f5,F,K,P,V,g5]);have b:=b.dh (c:=j.h) (z:=LL [l,.s 0 0,II 0,II (wd L q).a,.a (c.h+1) 0 2 (.k 2)]) Y (λg=>h.fresh (c:=j.h) Y g);have f:=((((Xq.of t).M X8).X (y:=LL [F,K,P,V,g5])).X (y:=LL [f1,f2,f3,f4,f5,F,K,P,V,g5])).be (c:=j.h) (y:=LL [l,.s 0 0,II 0,II (wd L q).a,.a (c.h+1) 0 2 (.k 2)]) Y;have D:fO L (bP L G 0) [gL,gK,gA] false m (.mk l (0,0) 0 (wd L q).a [a,(bP L G 0 (cZ L l q)).1]) (bP L G 0 (cZ L l q)).2=bP L G 1 p:=by
   rw[<-wq]
   conv=>rhs;unfold fO
   rw[e];rfl
  refine⟨m,bJ _,(hI _ _ _).2 ⟨_,_,_,⟨B,s1,s4,C,s6⟩,b,?_,ae rfl,?_,T,?_,f,D,λa=>?_⟩⟩
  .simp(disch:=omega)only[go_sem,c8]
  .simp(disch:=omega)only[go_sem,o8]
  .show a0.h<=c.h+1+1;omega
  .have b:gh (cZ L l q) (bP L G 0 (cZ L l q)).2:=wZ FL _ _;have c:=b a;have a:=CG ei c.1
   have:=fq he
   omega
end
section
variable {L:List Wd}{d:Nat}{G:Option dn}
def aim(W:np 183 L d (pK L G)):rL L d 5 (bP L G 0):=by
 intro i f y p Q h k;refine c0 Tryz.func170 ?_;have a:=h.I;refine S0 ?_;let⟨a,b,c,c0,_,e,g⟩:=jR (w:=LL [.s 0 0,.s 0 0,II 0,II 0,.e]) h;rw[<-b];refine al (W a f y p _ c λa a a f c=>?_);have g:=fN a;have b:=(c.2 i.h Y Y).t c0;refine S2 g b ?_;exact k _ _ (pe (mT a (λq=>om q.1)) (λb q=>⟨om q.1,q.2⟩)) (f.dh Y (h.fresh (ak _))) ((e.M c).be (ak _))
def TH:∀m:Nat,m<=30->tw L (pN L m) (30-m)
 |0,_=>rfl
 |m+1,a=>by
  have D:=TH m Y;have a:=AT (L:=L) m;have P:=ahI a D (Rx D) (aeC D);have V:=ajF D P;have B:=adI D (ajR D V);have A:=aa5 D (aih a (aii a (aij (aik a (ail a (aim B))))));have e:30-m=30-(m+1)+1:=Y;rw[e] at A B V P;exact⟨Y,A,B,V,P⟩
def ajm:np 134 L 0 (dU L (pN L 30)):=Rx (TH 30 (ak _))
end
end
section
variable {x:AV}{e:HN}{b h s:Nat}
section
variable {L:List Wd}{d:Nat}
def IU(f:FuncId)(L:List Wd)(d:Nat)(e:PS->List Vr×PS):Prop:=
 ∀(c:HN) (b:Nat) (y:AV) (p:PS) (Q:AV->HN->Prop),PA c b y L d p->(∀v a,aH 5 c.h a v (e p).1.length ((e p).1.map Vr.cells).flatten->PA a b y L d (e p).2->ax b c a->Q v a)->∃v a,aq Tryz.prog f [.p b 0] c v a/\Q v a
def ze{n a w:Nat}{f:HN}{l:List AV}(o:aH s h f x n l)(b:n<=9223372036854775807):eF (.a a s w) x e=.ok (II n) e:=by
 obtain⟨_,⟨rfl,rfl⟩|⟨c,_,_,⟨rfl,rfl,_⟩|⟨rfl,_⟩⟩⟩:=o
 .rfl
 .rw[ov,nD,ae (by decide)]
 .rw[ov,nD,ae b]
def Vg{n:Nat}{a:HN}{l:List AV}(o:aH s h a x n l)(b:0<n):∃b,x=.a b 0 n (.B s)/\h<=b/\b<a.h/\a.f b=LL l:=by
 obtain⟨_,⟨_,b⟩|⟨c,e,f,⟨_,b,_⟩|⟨b,g⟩⟩⟩:=o
 .omega
 .omega
 .exact⟨c,b,e,f,g⟩
def L2{n:Nat}{c:HN}{l a:List AV}(o:aH s h c (.a b 0 n (.B s)) n l)(e:0<n)(e:a.length=n*s):aH s h (c.put b (LL a)) (.a b 0 n (.B s)) n a:=by
 have a:=cz o (b:=b) rfl;exact⟨e,.inr ⟨b,a.1,a.2,.inr ⟨rfl,ae rfl⟩⟩⟩
def JH:IU 153 L d (cH L):=by
 intro s f y p Q h k;refine c0 Tryz.func153 ?_;have c:=h.I;have yl:∀b,ar y b->b<s.h:=λb z=>vQ λg=>h.fresh g z;let⟨M,hM⟩:=jH λu n=>∃l x q,u 0=.p f 0/\u 3=x/\PA n f y L d q/\aH 5 s.h n x l.length (l.map Vr.cells).flatten/\ax f s n/\iz L L.length [] p=((l,true),q)/\l.length<=L.length;refine iB (M:=M) 3 _ _ _ ?_ ?_
 .intro u n e;let⟨l,x,q,j,V,D,B,t,eq,bq⟩:=(hM _ _).1 e;have a1:=D.g.2.1;have C:cH L p=(l.map λv=>{v with z:=if aN L cX (aV L uj q) then 1 else 2},if aN L cX (aV L uj q) then bm (aV L uj q) else aV L fm (aV L uj q)):=by
   unfold cH;rw[eq];rfl
  obtain⟨a,I⟩:∃a:FN->HN->Prop,∀u n,a u n↔∃K q2,(u 0=.p f 0/\u 3=x/\u 5=II K)/\cH L p=(l.map λv=>{v with z:=K},q2)/\PA n f y L d q2/\ax f s n/\aH 5 s.h n x l.length (l.map Vr.cells).flatten:=⟨_,λ_ _=>gZ⟩;refine iB (M:=a) 4 _ _ _ ?_ ?_
  .clear D B t j V C hM eq;intro u n c;let⟨K,q2,⟨j,V,r⟩,C,D,t,B⟩:=(I _ _).1 c;have k:∀v o,aH 5 s.h o v l.length ((l.map λv=>{v with z:=K}).map Vr.cells).flatten->PA o f y L d q2->ax f s o->Q v o:=λv o a b c=>k v o (by rw[C,aC];exact a) (by rw[C];exact b) c;simp(disch:=omega)only[go_sem,r];obtain⟨J,F⟩:∃J:Nat->FN->HN->Prop,∀m u n,J m u n↔∃i,m=l.length-i/\i<=l.length/\(u 0=.p f 0/\u 3=x/\u 5=II K/\u 6=II i)/\PA n f y L d q2/\ax f s n/\
      aH 5 s.h n x l.length (((l.take i).map λv=>{v with z:=K}).map Vr.cells++(l.drop i).map Vr.cells).flatten:=⟨_,λ_ _ _=>gZ⟩
   refine aT J l.length ((F _ _ _).2 ⟨0,rfl,aJ _,⟨j,V,r,rfl⟩,D,t,B⟩) ?_;intro m u n r;let⟨i,e,hi,⟨s0,s3,s5,s6⟩,c,Xj,a⟩:=(F _ _ _).1 r;have lj:=λe w o=>ze (a:=e) (w:=w) (e:=o) a Y;by_cases o:i<l.length
   · obtain⟨b,rfl,e,e,W⟩:=Vg a Y;have P:(l.drop i).map Vr.cells=(l[i]).cells::(l.drop (i+1)).map Vr.cells:=by rw[eJ o];rfl
     have w:∀r∈((l.take i).map λv=>{v with z:=K}).map Vr.cells,r.length=5:=Ee _;have e:(((l.take i).map λv=>{v with z:=K}).map Vr.cells).length=i:=by simp;omega
     have r:=MN _ ((l.drop (i+1)).map Vr.cells) (l[i]).cells 1 (II K) w (by show 1<5;omega);rw[e,<-P] at r;have e:((((l.take i).map λv=>{v with z:=K}).map Vr.cells++(l.drop i).map Vr.cells).flatten).length=l.length*5:=a.1;simp(disch:=omega)only[go_sem,s3,s5,s6,lj,W,e,r];have w:((l.take i).map λv=>{v with z:=K}).map Vr.cells++(l[i]).cells.set 1 (II K)::(l.drop (i+1)).map Vr.cells=((l.take (i+1)).map λv=>{v with z:=K}).map Vr.cells++(l.drop (i+1)).map Vr.cells:=by
      rw[dt o,cM,cM,dC];rfl
     rw[w];have o:((((l.take (i+1)).map λv=>{v with z:=K}).map Vr.cells++(l.drop (i+1)).map Vr.cells).flatten).length=l.length*5:=by rw[<-w,<-r,jk,e]
     exact⟨l.length-(i+1),Y,(F _ _ _).2 ⟨i+1,rfl,Y,⟨s0,s3,s5,rfl⟩,c.dh Y (λg=>om (yl _ g)),Xj.be Y,L2 a Y o⟩⟩
   · obtain rfl:i=l.length:=Y;simp(disch:=omega)only[go_sem,s3,s6,lj];rw[hU,fQ,oI,eB] at a;exact k _ _ a c Xj
  simp(disch:=omega)only[go_sem,j];refine al (nQ D uj λo K w=>?_);have n4:=w.1;have a:=dK B (λb z c=>w.2 b c Y) n4;simp(disch:=omega)only[go_sem,j];refine al (lO K cX λa0 r=>?_);have n5:=r.1;have o5:=dK a (λb z c=>r.2 b c) n5;cases F:aN L cX (aV L uj q) with
  |true=>
   rw[F] at C;simp(disch:=omega)only[go_sem,j];refine al (mD (K.fS r) cX λa e v=>?_);unfold fJ at e;rw[F,ae rfl] at e;rw[F];simp(disch:=omega)only[go_sem];exact(I _ _).2 ⟨1,_,⟨dx j,dx V,rfl⟩,C,e,((t.M w).of r).M v,dK o5 (λb z c=>v.2 b c Y) v.1⟩
  |false=>
   rw[F] at C;simp(disch:=omega)only[go_sem,j];refine al (mD (K.fS r) cX λa e v=>?_);have n6:=v.1;unfold fJ at e;rw[F,ac (by decide)] at e;rw[F];simp(disch:=omega)only[go_sem,j];refine al (nQ e fm λi i P=>?_);simp(disch:=omega)only[go_sem];exact(I _ _).2 ⟨2,_,⟨dx j,dx V,rfl⟩,C,i,(((t.M w).of r).M v).M P,dK (dK o5 (λb z c=>v.2 b c Y) n6) (λb z c=>P.2 b c Y) P.1⟩
 simp(disch:=omega)only[go_sem];let⟨I,hI⟩:=inv λm u n=>∃l x q,(u 0=.p f 0/\u 3=x)/\PA n f y L d q/\aH 5 s.h n x l.length (l.map Vr.cells).flatten/\ax f s n/\iz L m l q=iz L L.length [] p/\(q.e=0->L.length<=q.k+m)/\l.length+m<=L.length;refine aT I L.length ((hI _ _ _).2 ⟨[],.e,p,⟨rfl,rfl⟩,h,.nil,.refl _ _,rfl,λ_=>tr _ _,by simp⟩) ?_;intro m u n hi;let⟨l,x,q,⟨j,V⟩,D,B,t,wq,fq,bq⟩:=(hI _ _ _).1 hi;have P:=D.D;have h:=D.I;have r:=D.k;have a1:=D.g.2.1;by_cases z0:q.e=0
 .obtain _|m:=m
  .have:=fq z0;omega
  rw[z0] at P;simp(disch:=omega)only[go_sem,j,P];refine al (lf D λr x3=>?_);have u:=x3.1;have h3:=D.fS x3;have W:r.f f=_:=(x3.2 _ h).t P;have c:(wd L q).cells=[II (wd L q).k,.s (wd L q).t.1 (wd L q).t.2,II (wd L q).n,II (wd L q).a]:=rfl;rw[c];by_cases h:(wd L q).k=1/\q.x=64
  .have I:iz L (m+1) l q=(([],false),iQ L 2 q):=by
     unfold iz;rw[ae z0,ae h]
   rw[h.1];rw[h.2] at W;simp(disch:=omega)only[go_sem,j,W];refine al (yD h3 (b:=2) Y λo K w=>?_);simp(disch:=omega)only[go_sem];have C:cH L p=([],iQ L 2 q):=by
     unfold cH;rw[<-wq,I];rfl
   rw[C] at k;exact k _ _ .nil K ((t.of x3).M w)
  have I:iz L (m+1) l q=(if aN L pR (aG L q).2 then iz L m (l++[(⟨(aG L q).1,0,(0,0),false,(wd L q).a⟩:Vr)]) (bm {(aG L q).2 with x:=(q.x+1)%18446744073709551616})
    else((l++[(⟨(aG L q).1,0,(0,0),false,(wd L q).a⟩:Vr)],true),{(aG L q).2 with x:=(q.x+1)%18446744073709551616})):=by
   conv=>lhs;unfold iz
   rw[ae z0,ac h]
  by_cases k:(wd L q).k=1
  .have r:q.x≠64:=λg=>h ⟨k,g⟩;rw[k];simp(disch:=omega)only[go_sem,j,W];refine al (lf h3 λo w=>?_);have n4:=w.1;have K:=h3.fS w;rw[c];simp(disch:=omega)only[go_sem,j];let⟨a0,F,h5,c5,n5,X5,B5⟩:=jR (w:=LL [.s 0 0,II 0,.s 0 0,false,II (wd L q).a]) K;rw[<-F];refine al (vn h5 λa e v=>?_);have n6:=v.1;have c6:a.f o.h=_:=(v.2 _ Y Y).t c5;have b6:=e.D;have g6:=e.I;rw[TW] at b6;have k:ax f n a:=((((ax.refl f n).of x3).of w).M X5).M v;simp(disch:=omega)only[go_sem,j,V,c6,b6,sV,fp,ft,bF];generalize W:(q.x+1)%18446744073709551616=u at*;have r:u<18446744073709551616:=by rw[<-W];exact BZ _ Y
   have i:PA (((a.put o.h (LL [.s (aG L q).1.1 (aG L q).1.2,II 0,.s 0 0,false,II (wd L q).a])).put f (LL [y,II (aG L q).2.k,II (aG L q).2.e,II (aG L q).2.b,d,II (aG L q).2.p,u])).X (LL [.s (aG L q).1.1 (aG L q).1.2,II 0,.s 0 0,false,II (wd L q).a])) f y L d {(aG L q).2 with x:=u}:=
     ((e.dh (c:=o.h) Y (λg=>by have:=yl _ g;have:=t.1;omega)).put (a:={(aG L q).2 with x:=u}) (ax.refl f _).put (ae rfl) e.k e.e e.b e.q r).X
   have o7:aH 5 s.h (((a.put o.h (LL [.s (aG L q).1.1 (aG L q).1.2,II 0,.s 0 0,false,II (wd L q).a])).put f (LL [y,II (aG L q).2.k,II (aG L q).2.e,II (aG L q).2.b,d,II (aG L q).2.p,u])).X (LL [.s (aG L q).1.1 (aG L q).1.2,II 0,.s 0 0,false,II (wd L q).a])) x l.length (l.map Vr.cells).flatten:=
     dK B (λb z c=>(by simp(disch:=omega)only[go_sem];exact k.2 b c Y)) (by show n.h<=a.h+1;have:=k.1;omega)
   refine tm dc o7 (cD.lits (s:=5) (n:=1) rfl) dc Y (by show s.h<=a.h+1;have:=k.1;have:=t.1;omega) λh o8 n8 k8=>?_;have n8:h.h=a.h+1+1:=n8;have h8:PA h f y L d {(aG L q).2 with x:=u}:=
     ⟨(k8 f i.I (λg=>om (cz B g))).t i.D,Y,aK.aR (F:=λb=>b<s.h) i.hy yl (λb z c=>k8 b c (λg=>om (cz B g))) (by rw[n8];show a.h+1<=_;omega),i.hp,i.g,i.k,i.e,i.b,i.q,i.n⟩
   have X8:ax f s h:=⟨by have:=t.1;have:=k.1;omega,λb z c=>(k8 b (by show b<a.h+1;have:=t.1;have:=k.1;omega) (λg=>om (cz B g))).t (by have:=t.1;have:=k.1;simp(disch:=omega)only[go_sem];exact(t.M k).2 b z c)⟩;have o8:aH 5 s.h h (.a (a.h+1) 0 (l.length+1) (.B 5)) (l++[(⟨(aG L q).1,0,(0,0),false,(wd L q).a⟩:Vr)]).length ((l++[(⟨(aG L q).1,0,(0,0),false,(wd L q).a⟩:Vr)]).map Vr.cells).flatten:=by
     rw[cM,iL,oI,oW,ay];exact o8
   simp(disch:=omega)only[go_sem,j];refine al (mD h8 pR λa2 C x9=>?_);have n9:=x9.1;have o9:=dK o8 (λb z c=>x9.2 b c Y) n9;have X9:=X8.M x9;unfold fJ at C;have e8:aN L pR {(aG L q).2 with x:=u}=aN L pR (aG L q).2:=rfl;rw[e8] at C|-;cases e9:aN L pR (aG L q).2 with
   |true=>
     rw[e9,ae rfl] at C I;simp(disch:=omega)only[go_sem];refine⟨m,bJ _,(hI _ _ _).2 ⟨_,_,_,⟨j,rfl⟩,C,o9,X9,by rw[<-wq,I],λe'=>?_,by rw[ay];simp only[bt,hN];omega⟩⟩;have w2:=LB (L:=L) (p:=q) e'
     have:=fq z0
     show L.length<=(aG L q).2.k+1+m;omega
   |false=>
     rw[e9,ac (by decide)] at C I;simp(disch:=omega)only[go_sem];exact(hM _ _).2 ⟨_,_,_,j,rfl,C,o9,X9,by rw[<-wq,I],by rw[ay];simp only[bt,hN];omega⟩
  .simp(disch:=omega)only[go_sem,j];refine al (lf h3 λo w=>?_);have n4:=w.1;have K:=h3.fS w;rw[c];simp(disch:=omega)only[go_sem,j];let⟨a0,F,h5,c5,n5,X5,B5⟩:=jR (w:=LL [.s 0 0,II 0,.s 0 0,false,II (wd L q).a]) K;rw[<-F];refine al (vn h5 λa e v=>?_);have n6:=v.1;have c6:a.f o.h=_:=(v.2 _ Y Y).t c5;have b6:=e.D;have g6:=e.I;rw[TW] at b6;have k:ax f n a:=((((ax.refl f n).of x3).of w).M X5).M v;simp(disch:=omega)only[go_sem,j,V,c6,b6,sV,fp,ft,bF];generalize W:(q.x+1)%18446744073709551616=u at*;have r:u<18446744073709551616:=by rw[<-W];exact BZ _ Y
   have i:PA (((a.put o.h (LL [.s (aG L q).1.1 (aG L q).1.2,II 0,.s 0 0,false,II (wd L q).a])).put f (LL [y,II (aG L q).2.k,II (aG L q).2.e,II (aG L q).2.b,d,II (aG L q).2.p,u])).X (LL [.s (aG L q).1.1 (aG L q).1.2,II 0,.s 0 0,false,II (wd L q).a])) f y L d {(aG L q).2 with x:=u}:=
     ((e.dh (c:=o.h) Y (λg=>by have:=yl _ g;have:=t.1;omega)).put (a:={(aG L q).2 with x:=u}) (ax.refl f _).put (ae rfl) e.k e.e e.b e.q r).X
   have o7:aH 5 s.h (((a.put o.h (LL [.s (aG L q).1.1 (aG L q).1.2,II 0,.s 0 0,false,II (wd L q).a])).put f (LL [y,II (aG L q).2.k,II (aG L q).2.e,II (aG L q).2.b,d,II (aG L q).2.p,u])).X (LL [.s (aG L q).1.1 (aG L q).1.2,II 0,.s 0 0,false,II (wd L q).a])) x l.length (l.map Vr.cells).flatten:=
     dK B (λb z c=>(by simp(disch:=omega)only[go_sem];exact k.2 b c Y)) (by show n.h<=a.h+1;have:=k.1;omega)
   refine tm dc o7 (cD.lits (s:=5) (n:=1) rfl) dc Y (by show s.h<=a.h+1;have:=k.1;have:=t.1;omega) λh o8 n8 k8=>?_;have n8:h.h=a.h+1+1:=n8;have h8:PA h f y L d {(aG L q).2 with x:=u}:=
     ⟨(k8 f i.I (λg=>om (cz B g))).t i.D,Y,aK.aR (F:=λb=>b<s.h) i.hy yl (λb z c=>k8 b c (λg=>om (cz B g))) (by rw[n8];show a.h+1<=_;omega),i.hp,i.g,i.k,i.e,i.b,i.q,i.n⟩
   have X8:ax f s h:=⟨by have:=t.1;have:=k.1;omega,λb z c=>(k8 b (by show b<a.h+1;have:=t.1;have:=k.1;omega) (λg=>om (cz B g))).t (by have:=t.1;have:=k.1;simp(disch:=omega)only[go_sem];exact(t.M k).2 b z c)⟩;have o8:aH 5 s.h h (.a (a.h+1) 0 (l.length+1) (.B 5)) (l++[(⟨(aG L q).1,0,(0,0),false,(wd L q).a⟩:Vr)]).length ((l++[(⟨(aG L q).1,0,(0,0),false,(wd L q).a⟩:Vr)]).map Vr.cells).flatten:=by
     rw[cM,iL,oI,oW,ay];exact o8
   simp(disch:=omega)only[go_sem,j];refine al (mD h8 pR λa2 C x9=>?_);have n9:=x9.1;have o9:=dK o8 (λb z c=>x9.2 b c Y) n9;have X9:=X8.M x9;unfold fJ at C;have e8:aN L pR {(aG L q).2 with x:=u}=aN L pR (aG L q).2:=rfl;rw[e8] at C|-;cases e9:aN L pR (aG L q).2 with
   |true=>
     rw[e9,ae rfl] at C I;simp(disch:=omega)only[go_sem];refine⟨m,bJ _,(hI _ _ _).2 ⟨_,_,_,⟨j,rfl⟩,C,o9,X9,by rw[<-wq,I],λe'=>?_,by rw[ay];simp only[bt,hN];omega⟩⟩;have w2:=LB (L:=L) (p:=q) e'
     have:=fq z0
     show L.length<=(aG L q).2.k+1+m;omega
   |false=>
     rw[e9,ac (by decide)] at C I;simp(disch:=omega)only[go_sem];exact(hM _ _).2 ⟨_,_,_,j,rfl,C,o9,X9,by rw[<-wq,I],by rw[ay];simp only[bt,hN];omega⟩
 .simp(disch:=omega)only[go_sem,j,P];rw[acI z0] at wq;exact(hM _ _).2 ⟨l,x,q,j,V,D,B,t,wq.s,Y⟩
end
variable {y:AV}{f:Nat}
section
variable {L:List Wd}{d:Nat}
def L3{g:HN}{c:Nat}{p:PS}(h:PA g c y L d p)(a:ai f g e)(i:c<f)(j:∀b,ar y b->b<f):PA e c y L d p:=
 ⟨(a.2 c i).t h.D,by have:=h.I;have:=a.1;omega,aK.aR (F:=λb=>b<f) h.hy j (λb i _=>a.2 b i) a.1,h.hp,h.g,h.k,h.e,h.b,h.q,h.n⟩
def FU{c a:HN}{i:Nat}(x:ax i c e)(g:ai f e a)(h:c.h<=f):ax i c a:=⟨bC x.1 g.1,λb a j=>(g.2 b Y).t (x.2 b a j)⟩
def QL:∀(n:Nat) (l:List Vr) (p:PS),(iz L n l p).1.1.length<=l.length+n
 |0,l,p=>ak _
 |n+1,l,p=>by
  unfold iz;split
  .split
   .exact aJ _
   .split
    .refine bC (QL n _ _) ?_;rw[ay];simp only[bt,hN];omega
    .show(l++[_]).length<=_
     rw[ay];simp only[bt,hN];omega
  .exact du _ _
def FB(p:PS):(cH L p).1.length<=L.length:=by
 have h:=QL (L:=L) L.length [] p;unfold cH;dsimp only;split
 .rw[aC];simpa using h
 .exact aJ _
def QU:IU 131 L d (kU L):=by
 intro f a y p Q h k;refine c0 Tryz.func131 ?_;have V:=h.I;have g:=h.g.2.1;have yl:∀b,ar y b->b<f.h:=λb s=>vQ λg=>h.fresh g s;refine S0 ?_;refine al (lO h gW λw i=>?_);have C:=h.fS i;have W:=i.1;cases x:aN L gW p with
 |true=>
  have o:kU L p=([],p):=ae x;rw[o] at k;refine S0 ?_;exact k _ _ .nil C ((ax.refl a f).of i)
 |false=>
 have o:kU L p=mg L L.length (cH L p).1 (cH L p).2:=ac (by rw[x];decide);rw[o] at k;refine S0 ?_;refine al (JH w a y p _ C λw g o2 o C=>?_);refine S0 ?_;let⟨I,r⟩:=inv λm h g=>∃l x q,(h 0=.p a 0/\h 3=x)/\PA g a y L d q/\aH 5 f.h g x l.length (l.map Vr.cells).flatten/\ax a f g/\
   mg L m l q=mg L L.length (cH L p).1 (cH L p).2/\(q.e=0->L.length<=q.k+m)/\l.length+m*16385<=L.length*16385+16385
 refine aT I L.length ((r _ _ _).2 ⟨_,w,_,⟨rfl,rfl⟩,o,o2.mono W,((ax.refl a f).of i).M C,rfl,λ_=>tr _ _,om (FB (L:=L) p)⟩) ?_;intro m h g f;let⟨l,x,q,⟨u,P⟩,F,g,n,v,B,h⟩:=(r _ _ _).1 f;refine S1 u ?_;refine al (mD F iW λz e j=>?_);have f:=j.1;have K:=dK g (λb s t=>j.2 b t Y) f;unfold fJ at e;cases c:aN L iW q with
 |true=>
  rw[c,ae rfl] at e;have D:=(qo c).1;have f:=F.k;obtain _|m:=m
  .have:=B D;omega
  have o:mg L m (l++(cH L (bm q)).1) (cH L (bm q)).2=mg L L.length (cH L p).1 (cH L p).2:=by
   rw[<-v]
   conv=>rhs;unfold mg
   rw[c];rfl
  refine S2 u P ?_;refine al (JH z a y _ _ e λa a h g a=>?_);have f:=a.1;have i:=dK K (λb s t=>a.2 b t Y) f;have b:=FB (L:=L) (bm q);refine S0 ?_;refine tj dc i h.rd Y (om n.1) λb b h b=>?_;have f:=(n.M j).M a;refine S0 ?_;refine⟨m,bJ _,(r _ _ _).2 ⟨_,_,_,⟨u,rfl⟩,L3 g b V yl,by rw[ay,cM,nh];exact h,FU f b (ak _),o,λa=>?_,by rw[ay];omega⟩⟩;have b:=JE (L:=L) (bm q) a;have a:q.k+1<=_:=b.2
  have:=B D
  omega
 |false=>
  rw[c,ac (by decide)] at e;rw[acO c] at v;rw[<-v] at k;refine S1 P ?_;exact k _ _ K e (n.M j)
end
end
section
section
variable {L:List Wd}{d:Nat}
def ab5(q:List Vr×PS):(is L q).1.length=q.1.length:=by
 unfold is;split
 .exact aC _
 .rfl
def ab7(l:List Vr)(f:Vr->Vr)(i:Nat)(h:i<l.length):((l.take i).map f).map Vr.cells++(f l[i]).cells::(l.drop (i+1)).map Vr.cells=((l.take (i+1)).map f).map Vr.cells++(l.drop (i+1)).map Vr.cells:=by
 rw[dt h,cM,cM,dC];rfl
def afE:IU 133 L d (sO L):=by
 intro F o y p Q h k;refine cf VG Tryz.func133 ?_;have hn:=h.I;have hg:=h.g.2.1;have yl:∀b,ar y b->b<F.h:=λb P=>vQ λg=>h.fresh g P;refine S0 ?_;refine al (lO h iW λa8 x1=>?_);have h1:=h.fS x1;cases e1:aN L iW p with
 |true=>
  have I:sO L p=([],p):=ae e1;rw[I] at k;refine S0 ?_;exact k _ _ .nil h1 ((ax.refl o F).of x1)
 |false=>
 have I:sO L p=nE L L.length [] p:=ac (by rw[e1];decide);rw[I] at k;refine S0 ?_;let⟨I,hI⟩:=inv λm r a0=>∃l x q,(r 0=.p o 0/\r 3=x)/\PA a0 o y L d q/\aH 5 F.h a0 x l.length (l.map Vr.cells).flatten/\ax o F a0/\
   nE L m l q=nE L L.length [] p/\(q.e=0->L.length<=q.k+m)/\l.length+m*16385<=L.length*16385
 refine aT I L.length ((hI _ _ _).2 ⟨[],.e,_,⟨rfl,rfl⟩,h1,.nil,(ax.refl o F).of x1,rfl,λ_=>tr _ _,by simp⟩) ?_;intro m r a0 h;let⟨l,x,q,⟨V,p3⟩,hq,oq,K,wq,fq,p⟩:=(hI _ _ _).1 h;have a2:=hq.D;have h:=hq.I;have h:=hq.k;by_cases z0:q.e=0
 .obtain _|m:=m
  .have:=fq z0;omega
  have B:nE L (m+1) l q=if aN L iW (is L (cH L q)).2=true/\(wd L (bm (is L (cH L q)).2)).k=1 then nE L m (l++(is L (cH L q)).1) (bm (is L (cH L q)).2) else(l++(is L (cH L q)).1,(is L (cH L q)).2):=by
   conv=>lhs;unfold nE
   rw[ae z0]
  rw[z0] at a2;have dl:(is L (cH L q)).1.length<=L.length:=by rw[ab5];exact FB q
  refine S2 V a2 ?_;refine al (JH a0 o y _ _ hq λv2 h o2 h p=>?_);have I:=p.1;have q2:=dK oq (λb P s=>p.2 b s Y) I;refine S1 V ?_;refine al (mD h bB λh e h=>?_);have I:=h.1;have q3:=dK q2 (λb P s=>h.2 b s Y) I;have o3:=dK o2 (λb P s=>h.2 b s Y) I;have X3:=(K.M p).M h;unfold fJ at e;cases w:aN L bB (cH L q).2 with
  |false=>
   rw[w,ac (by decide)] at e;have eC:is L (cH L q)=cH L q:=ac (by rw[w];decide);rw[eC] at B dl;have fD:(cH L q).2.e=0->q.k<=(cH L q).2.k:=λe'=>(JE (L:=L) q e').2;generalize cH L q=D at*;refine S1 p3 ?_;refine tj dc q3 o3.rd Y (by have:=K.1;have:=X3.1;omega) λx6 a4 o6 e6=>?_;have X6:=FU X3 e6 (ak _);have h6:=L3 e e6 hn yl;have o6:aH 5 F.h a4 x6 (l++D.1).length ((l++D.1).map Vr.cells).flatten:=by rw[ay,cM,nh];exact o6
   have b6:=h6.D;refine S1 V ?_;refine bL (lO h6 iW λu W=>?_);have n7:=W.1;have n:=h6.fS W;have o7:=dK o6 (λb P s=>W.2 b s) n7;have X7:=X6.of W;have b7:=n.D;cases e7:aN L iW D.2 with
   |false=>
    rw[ac (λg=>by rw[e7] at g;cases g.1)] at B;rw[<-wq,B] at k;refine S0 ?_;exact k _ _ o7 n X7
   |true=>
    have t:=K8 n e7;have a3:L[D.2.k+1]=wd L (bm D.2):=ND (p:=bm D.2) t;let⟨b,off,cap,ro,row,C,r2,r3,r4,r5⟩:=aK.at n.hy (i:=D.2.k+1) (by simpa using t);rw[aC] at C;rw[kM,a3] at r5;have s:(wd L (bm D.2)).cells=[II (wd L (bm D.2)).k,.s (wd L (bm D.2)).t.1 (wd L (bm D.2)).t.2,II (wd L (bm D.2)).n,II (wd L (bm D.2)).a]:=rfl;rw[s] at r5;have r7:row[off+(D.2.k+1)*4]?=some (II (wd L (bm D.2)).k):=by
     have:=dv (λl=>l[0]?) r5
     simpa [qG,mG] using this
    have r8:off+(D.2.k+1)*4<row.length:=Y;have r9:row.getD (off+(D.2.k+1)*4) bp=II (wd L (bm D.2)).k:=by
     rw[cA,r7];rfl
    rw[C] at b6 b7;by_cases k1:(wd L (bm D.2)).k=1
    .rw[ae ⟨e7,k1⟩] at B;rw[k1] at r9;refine S4 V b7 r2 r9 ?_;have A:PA (u.put o (LL [y,II (D.2.k+1),D.2.e,D.2.b,d,D.2.p,D.2.x])) o y L d (bm D.2):=
      n.put (a:=bm D.2) (ax.refl o u).put (ae rfl) t n.e n.b n.q n.n
     rw[C] at A;have a5:aH 5 F.h (u.put o (LL [y,II (D.2.k+1),D.2.e,D.2.b,d,D.2.p,D.2.x])) x6 (l++D.1).length ((l++D.1).map Vr.cells).flatten:=dK o7 (λb P _=>ac Y) (ak _);rw[C] at a5;refine⟨m,bJ _,(hI _ _ _).2 ⟨_,_,_,⟨V,rfl⟩,by rw[C];exact A,a5,X7.put,by rw[<-wq,B],λe'=>?_,by rw[ay];omega⟩⟩;have w2:D.2.e=0:=e';have w3:=fD w2
     have:=fq z0
     show L.length<=D.2.k+1+m;omega
    .rw[ac (λg=>k1 g.2)] at B;rw[<-wq,B] at k;refine S4 V b7 r2 r9 ?_;exact k _ _ o7 n X7
  |true=>
   rw[w,ae rfl] at e;have eC:is L (cH L q)=((cH L q).1.map λv=>{v with p:=(aG L (fJ L fB (bm (cH L q).2))).1,t:=aN L fB (bm (cH L q).2)},(aG L (fJ L fB (bm (cH L q).2))).2):=ae w;refine S1 V ?_;refine al (mD e fB λe e h=>?_);have p:=h.1;refine S1 V ?_;refine al (vn e λe h5 p=>?_);have e:=p.1;have e:=h.M p;have q5:=dK q3 (λb P s=>e.2 b s Y) e.1;have o5:=dK o3 (λb P s=>e.2 b s Y) e.1;have X5:=X3.M e;have fD:(is L (cH L q)).2.e=0->q.k<=(is L (cH L q)).2.k:=λe'=>((JE (L:=L) q).M ab4 e').2;have e:=FB (L:=L) q;generalize aG L (fJ L fB (bm (cH L q).2))=f at*;generalize aN L fB (bm (cH L q).2)=z at*;generalize is L (cH L q)=D at*;generalize cH L q=a at*;simp(disch:=omega)only[go_sem,sV];obtain⟨J,I⟩:∃J:Nat->FN->HN->Prop,∀m r j,J m r j↔∃i,m=a.1.length-i/\i<=a.1.length/\(r 0=.p o 0/\r 3=x/\r 4=v2/\r 5=.l z/\r 6=.s f.1.1 f.1.2/\r 7=II i)/\PA j o y L d f.2/\ax o F j/\a0.h<=j.h/\
     aH 5 F.h j x l.length (l.map Vr.cells).flatten/\aH 5 a0.h j v2 a.1.length (((a.1.take i).map λv=>{v with p:=f.1,t:=z}).map Vr.cells++(a.1.drop i).map Vr.cells).flatten:=⟨_,λ_ _ _=>gZ⟩
   refine aT J a.1.length ((I _ _ _).2 ⟨0,rfl,aJ _,⟨V,p3,rfl,rfl,rfl,rfl⟩,h5,X5,Y,q5,o5⟩) ?_;intro e e j h;let⟨i,_,e,⟨s0,s3,s4,s5,s6,s7⟩,a7,Xj,nj,qj,oj⟩:=(I _ _ _).1 h;have lj:=λe w h=>ze (a:=e) (w:=w) (e:=h) oj Y;by_cases p:i<a.1.length
   .let⟨b,hv,_,e,b3⟩:=Vg oj Y;rw[hv] at s4 lj;have w:(a.1.drop i).map Vr.cells=(a.1[i]).cells::(a.1.drop (i+1)).map Vr.cells:=by rw[eJ p];rfl
    have h:∀r∈((a.1.take i).map λv=>{v with p:=f.1,t:=z}).map Vr.cells,r.length=5:=Ee _;have e:(((a.1.take i).map λv=>{v with p:=f.1,t:=z}).map Vr.cells).length=i:=by simp;omega
    have q:=MN _ ((a.1.drop (i+1)).map Vr.cells) (a.1[i]).cells 2 (.s f.1.1 f.1.2) h (by show 2<5;omega);have r:=MN _ ((a.1.drop (i+1)).map Vr.cells) ((a.1[i]).cells.set 2 (.s f.1.1 f.1.2)) 3 (.l z) h (by show 3<5;omega);rw[e,<-w] at q;rw[e] at r;have e:((((a.1.take i).map λv=>{v with p:=f.1,t:=z}).map Vr.cells++(a.1.drop i).map Vr.cells).flatten).length=a.1.length*5:=oj.1;have a1:((((a.1.take i).map λv=>{v with p:=f.1,t:=z}).map Vr.cells++(a.1[i]).cells.set 2 (.s f.1.1 f.1.2)::(a.1.drop (i+1)).map Vr.cells).flatten).length=a.1.length*5:=by rw[<-q,jk,e]
    simp(disch:=omega)only[go_sem,s4,s5,s6,s7,lj,b3,e,q,a1,r];have e1:=ab7 a.1 (λv=>{v with p:=f.1,t:=z}) i p;have e:((a.1[i]).cells.set 2 (.s f.1.1 f.1.2)).set 3 (.l z)=(({a.1[i] with p:=f.1,t:=z}:Vr)).cells:=rfl;rw[e,e1];have e2:((((a.1.take (i+1)).map λv=>{v with p:=f.1,t:=z}).map Vr.cells++(a.1.drop (i+1)).map Vr.cells).flatten).length=a.1.length*5:=by rw[<-e1,<-e,<-r,jk,a1]
    refine⟨a.1.length-(i+1),Y,(I _ _ _).2 ⟨i+1,rfl,Y,⟨s0,s3,by rw[hv];exact s4,s5,s6,rfl⟩,(a7.dh (om K.1) (λg=>by have:=yl _ g;have:=K.1;omega)).dh (om K.1) (λg=>by have:=yl _ g;have:=K.1;omega),(Xj.be (om K.1)).be (om K.1),nj,?_,?_⟩⟩
    .have hx:∀e,ar x e->e<a0.h:=λe g=>(cz oq g).2;obtain⟨q0,g|⟨c,g1,g2,g3⟩⟩:=qj
     .exact⟨q0,.inl g⟩
     .refine⟨q0,.inr ⟨c,g1,g2,?_⟩⟩;have a6:c≠b:=by
       have:ar x c:=by rcases g3 with⟨rfl,_⟩|⟨rfl,_⟩<;>rfl
       have:=hx c this
       omega
      have e:((j.put b (LL ((((a.1.take i).map λv=>{v with p:=f.1,t:=z}).map Vr.cells++(a.1[i]).cells.set 2 (.s f.1.1 f.1.2)::(a.1.drop (i+1)).map Vr.cells).flatten))).put b (LL ((((a.1.take (i+1)).map λv=>{v with p:=f.1,t:=z}).map Vr.cells++(a.1.drop (i+1)).map Vr.cells).flatten))).f c=j.f c:=(ac a6).t (ac a6);rw[e];exact g3
    .rw[hv] at oj|-;exact L2 (L2 oj Y a1) Y e2
   .obtain rfl:i=a.1.length:=Y;rw[hU,fQ,oI,eB] at oj;have c:aH 5 a0.h j v2 D.1.length (D.1.map Vr.cells).flatten:=by rw[eC];rw[aC];exact oj
    have a:PA j o y L d D.2:=by rw[eC];exact a7
    refine S4 s3 s4 s7 lj ?_;refine tj dc qj c.rd Y (by have:=K.1;have:=Xj.1;omega) λx6 a4 o6 e6=>?_;have X6:=FU Xj e6 (ak _);have h6:=L3 a e6 hn yl;have o6:aH 5 F.h a4 x6 (l++D.1).length ((l++D.1).map Vr.cells).flatten:=by rw[ay,cM,nh];exact o6
    have b6:=h6.D;refine S1 s0 ?_;refine bL (lO h6 iW λu W=>?_);have n7:=W.1;have n:=h6.fS W;have o7:=dK o6 (λb P s=>W.2 b s) n7;have X7:=X6.of W;have b7:=n.D;cases e7:aN L iW D.2 with
    |false=>
     rw[ac (λg=>by rw[e7] at g;cases g.1)] at B;rw[<-wq,B] at k;refine S0 ?_;exact k _ _ o7 n X7
    |true=>
     have t:=K8 n e7;have a3:L[D.2.k+1]=wd L (bm D.2):=ND (p:=bm D.2) t;let⟨b,off,cap,ro,row,C,r2,r3,r4,r5⟩:=aK.at n.hy (i:=D.2.k+1) (by simpa using t);rw[aC] at C;rw[kM,a3] at r5;have s:(wd L (bm D.2)).cells=[II (wd L (bm D.2)).k,.s (wd L (bm D.2)).t.1 (wd L (bm D.2)).t.2,II (wd L (bm D.2)).n,II (wd L (bm D.2)).a]:=rfl;rw[s] at r5;have r7:row[off+(D.2.k+1)*4]?=some (II (wd L (bm D.2)).k):=by
      have:=dv (λl=>l[0]?) r5
      simpa [qG,mG] using this
     have r8:off+(D.2.k+1)*4<row.length:=Y;have r9:row.getD (off+(D.2.k+1)*4) bp=II (wd L (bm D.2)).k:=by
      rw[cA,r7];rfl
     rw[C] at b6 b7;by_cases k1:(wd L (bm D.2)).k=1
     .rw[ae ⟨e7,k1⟩] at B;rw[k1] at r9;refine S4 s0 b7 r2 r9 ?_;have A:PA (u.put o (LL [y,II (D.2.k+1),D.2.e,D.2.b,d,D.2.p,D.2.x])) o y L d (bm D.2):=
       n.put (a:=bm D.2) (ax.refl o u).put (ae rfl) t n.e n.b n.q n.n
      rw[C] at A;have a5:aH 5 F.h (u.put o (LL [y,II (D.2.k+1),D.2.e,D.2.b,d,D.2.p,D.2.x])) x6 (l++D.1).length ((l++D.1).map Vr.cells).flatten:=dK o7 (λb P _=>ac Y) (ak _);rw[C] at a5;refine⟨m,bJ _,(hI _ _ _).2 ⟨_,_,_,⟨s0,rfl⟩,by rw[C];exact A,a5,X7.put,by rw[<-wq,B],λe'=>?_,by rw[ay];omega⟩⟩;have w2:D.2.e=0:=e';have w3:=fD w2
      have:=fq z0
      show L.length<=D.2.k+1+m;omega
     .rw[ac (λg=>k1 g.2)] at B;rw[<-wq,B] at k;refine S4 s0 b7 r2 r9 ?_;exact k _ _ o7 n X7
 .refine S3 V p3 a2 ?_;rw[afD z0] at wq;rw[<-wq] at k;exact k _ _ oq hq K
end
end
end Go.Proofs.YtehahhggpdhieaaGreatDoor
