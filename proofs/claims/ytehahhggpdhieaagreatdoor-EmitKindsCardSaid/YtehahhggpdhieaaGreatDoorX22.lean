/- Lemmas of the walk of EmitKinds are proved. Conditions: none. -/
import Derived.KernelRfl
import Derived.Test.YtehahhggpdhieaaGreatDoorX21
namespace Go.Proofs.YtehahhggpdhieaaGreatDoor
set_option maxRecDepth 100000
set_option maxHeartbeats 32000000
set_option linter.all false
section
open Tryz
variable {g:AV->HN->Prop}{d:HN}{m:L (L AV)}{l:L Nd}{k:Nat}{n:Nd}
def abZ{a:L aX}{b:Bd}(c:k<N a):qS n (a.drop k) b=qS n (a.drop (k+1)) (dI (ke (iF n a[k].e b).1 (aF n a[k].n)) 10 a[k].a (iF n a[k].e b).2):=by
 rw[eJ c];rfl
def abX{a:L Nd}{b:Bd}(c:k<N a):uS (a.drop k) b=uS (a.drop (k+1)) (qS a[k] a[k].r b):=by
 rw[eJ c];rfl
attribute [-go_sem] wp_block in
def ab8{v:AV}(ok:ow l)(e0:∀n∈l,Made n)(e2:∀n∈l,∀s,jW n (N (am n)+1) s []=some (aF n s))(rv:aK 6 d v m)(rl:fZ tt d l m)
  (k:∀c,ai d.h d c->g (.g [II (lL l).1,II (lL l).2]) c):∃n c,aq Tryz.prog 36 [v] d n c/\g n c:=by
 let⟨n,e5⟩:=ok;let⟨n,s⟩:=pm rl;refine cf Wf func36 ?_;have ln:=λc e w=>bI (e:=c) rv n Y e w;have E0:ai d.h d ((d.X (LL [II 0,II 0])).X (LL [II 0,II 0])):=ap (ap (.refl _ _));have c0:((d.X (LL [II 0,II 0])).X (LL [II 0,II 0])).f d.h=LL [II 0,II 0]:=(ac (by show¬d.h=d.h+1;omega)).t (ae R);have c1:cG ((d.X (LL [II 0,II 0])).X (LL [II 0,II 0])) (d.h+1) (0,0):=ae R;have n:((d.X (LL [II 0,II 0])).X (LL [II 0,II 0])).h=d.h+2:=R;refine S0 ?_;generalize (d.X (LL [II 0,II 0])).X (LL [II 0,II 0])=b1 at*;obtain⟨z,n⟩:∃z,z=d.h+1:=⟨_,R⟩;rw[<-n] at c1|-;let⟨I,hI⟩:=inv λa4 u D=>∃i b,a4=N l-i/\i<=N l/\(u 0=v/\u 2=.p d.h 0/\u 3=.p z 0/\u 4=II i)/\ax z b1 D/\cG D z b/\b.1<=100/\uS (l.drop i) b=lL l;refine aT I (N l) ((hI _ _ _).2 ⟨0,(0,0),R,aJ _,dy,.refl _ _,c1,aJ _,R⟩) ?_;clear c1;intro a4 u D n;let⟨i,b,s,n,⟨F,W,C,H⟩,X,a8,c4,en⟩:=(hI _ _ _).1 n;have n:=X.1;have xz:ai d.h d D:=jF E0 Y X;by_cases x:i<N l
 .let⟨c9,ri⟩:=ph rl i x;obtain⟨b',off,cap,n,row,rfl,c7,c5,n,U⟩:=rv.at c9;have c8:D.f b'=_:=(xz.2 b' c5).t c7;have p:=e5 _ (aU x);have e3:=e0 _ (aU x);have mE:=e2 _ (aU x);rw[abX x] at en;generalize hd:l[i]=f at*;generalize n:m[i]=s at*;have e8:=ri;obtain⟨y1,y2,y3,y4,rfl,-,n,n,n,n,r4,r5⟩:=e8;have n:sV f.n=.s f.n.1 f.n.2:=R;rw[n] at ri U;have n:=(lS r5).1;have l4:=λc e w=>bI (e:=c) r4 n (om p.2.2.2.2.1) e w;obtain⟨r,c⟩:∃r,r=D.X (LL [f.n,y1,y2,y3,y4,f.a]):=⟨_,R⟩;have X1:ax z b1 r:=by rw[c];exact X.X
  have cn:r.f D.h=LL [f.n,y1,y2,y3,y4,f.a]:=by rw[c];exact ae R
  have e:r.h=D.h+1:=by rw[c];rfl
  have a9:cG r z b:=by rw[c];exact(ac Y).t a8
  simp(disch:=omega)only[go_sem,wp_block,F,H,ln,c8,U,bF];rw[<-c];clear c;have c:=p.2.2.2.2.1;have c3:=p.2.2.2.2.2;have c2:=e3.r;generalize c:f.r=y at*;obtain⟨c,B⟩:∃J:Nat->FN->HN->Prop,∀a4 u t,J a4 u t↔∃h j,a4=N y-h/\h<=N y/\(u 0=.a b' off (N m) cap/\u 2=.p d.h 0/\u 3=.p z 0/\u 4=II i/\u 5=.p D.h 0/\u 6=II h)/\ax z r t/\cG t z j/\j.1<=100/\qS f (y.drop h) j=qS f y b:=⟨_,λ_ _ _=>gZ⟩;refine aT c (N y) ((B _ _ _).2 ⟨0,b,R,aJ _,⟨dx F,dx W,dx C,dx H,R,R⟩,.refl _ _,a9,c4,R⟩) ?_;clear F W C H;intro a4 u t c;let⟨h,j,_,e,⟨F,W,C,H,p5,p6⟩,X6,K,a2,a⟩:=(B _ _ _).1 c;have c:=X6.1;have a0:=(X6.2 _ Y Y).t cn;have x6:ai d.h d t:=jF E0 Y (X1.M X6);by_cases o:h<N y
  .let⟨bq,V,_,_,Z,ey,c6,b0,c⟩:=At r4 r5 Y;let⟨_,f2,f3,f4,f5,e,a1,e7⟩:=c h o;have e6:=c3 _ (aU o);have e4:=c2 _ (aU o);rw[abZ o] at a;subst ey;have a5:t.f bq=_:=(x6.2 _ b0).t c6;generalize c:y[h]=q at*;have c:=JQ a1;have b8:Z.getD (V+h*7) bp=.s q.n.1 q.n.2:=(pH a1 dc).t R;simp(disch:=omega)only[go_sem,wp_block,C,p5,p6,a0,l4,a5,c];refine bL (ab1 ri p mE Y q.e e6.2 e4 t _ j _ x6 Y K a2 e7 λc n e b4 O=>?_);have a3:=Qi (n:=f) q.e j a2;have c:=Qj (Ao p) q.e j;have c:N (iF f q.e j).1.1<=1073741825:=c;have c:=e.1;have a7:=(e.2 _ Y Y).t a0;have a6:=(e.2 _ (om x6.1) (om E0.1)).t a5;have XC:=X6.M e;have x7:ai d.h d n:=jF E0 Y (X1.M XC);have c:ke (iF f q.e j).1 (aF f q.n)=(!(iF f q.e j).1.2 && !de ((iF f q.e j).1.1=aF f q.n)):=R;rw[c] at a;generalize (iF f q.e j).1.2=b2 at*;generalize (iF f q.e j).1.1=ck at*;generalize (iF f q.e j).2=b7 at*;have b9:Z.getD (V+h*7+6) bp=II q.a:=(ql a1 6 dc).t R;have ul:=Ao p q.n;cases b2 with
   |true=>
    refine S1 p6 ?_;exact⟨N y-(h+1),Y,(B _ _ _).2 ⟨h+1,_,R,o,⟨dx F,dx W,dx C,dx H,dx p5,R⟩,XC,O,a3,a⟩⟩
   |false=>
    refine S5 p5 p6 b8 a7 a6 ?_;refine bL (CB (ic ri x7) p q.n (mE q.n) ul λc n e c=>?_);have b5:=(c.2 _ Y).t a7;have b3:=(c.2 _ (om x7.1)).t a6;have P:cG n z b7:=(c.2 _ Y).t O;have X8:=XC.of c;refine S0 ?_;refine bL (D1 (b4.ext c) e Y Y ?_);cases hd:de (ck=aF f q.n) with
    |true=>
     rw[hd] at a;refine S1 p6 ?_;exact⟨N y-(h+1),Y,(B _ _ _).2 ⟨h+1,_,R,o,⟨dx F,dx W,dx C,dx H,dx p5,R⟩,X8,P,a3,a⟩⟩
    |false=>
     rw[hd] at a;refine S6 C p5 p6 b9 b5 b3 ?_;refine al (jS P Y λc c n p=>?_);refine S1 p6 ?_;exact⟨N y-(h+1),Y,(B _ _ _).2 ⟨h+1,_,R,o,⟨dx F,dx W,dx C,dx H,dx p5,R⟩,⟨om X8.1,λc o e=>(p c e).t (X8.2 c o e)⟩,n,sK dc a3,a⟩⟩
  .obtain rfl:h=N y:=Y;rw[fQ] at a;have a:j=qS f y b:=a;rw[<-a] at en;refine S5 H p5 p6 a0 l4 ?_;exact⟨N l-(i+1),Y,(hI _ _ _).2 ⟨i+1,_,R,x,⟨dx F,dx W,dx C,R⟩,X1.M X6,K,a2,en⟩⟩
 .obtain rfl:i=N l:=Y;rw[fQ] at en;have en:b=lL l:=en;have a:D.f z=LL [b.1,b.2]:=a8;have b:=(X.2 _ Y Y).t c0;rw[<-en] at k;refine S7 F W C H ln a b ?_;exact k _ (cO xz Y)
section
variable {L:List Wd}{k q n a v:Nat}{s t:S}{G:Option dn}
section
variable {p p':PS}{e:Tr}
end
end
variable {a:Nat}
noncomputable def JB(a:Nat)(r:By)(l:L Wd):L Wd×Nat×Nat:=gQ (N r) a r l
def JA{b:Nat}{c:UInt8}{r:By}{l:L Wd}(d:xq c=true)(d:a+1=b):JB a (c::r) l=JB b r l:=by
 subst d;unfold JB;show gQ (N r+1) a (c::r) l=_
 conv=>lhs;unfold gQ
 grind
section
variable {L:List Wd}{k q n a v:Nat}{s t:S}{G:Option dn}
end
section
section
variable {a b n:Nat}
end
section
variable {L:List Wd}{a b:Nat}
end
end
attribute [local irreducible] dQ
@[go_sem] def anJ{n v:Nat}:zD n (some v) d=.ok (.s n v) d:=(rfl)
def af2(h:(nF l).1=0):∀n∈l,∀q∈n.r,dF l n q.e:=by
 intro n b q c;obtain⟨i,a,rfl⟩:=gB b
 have:=((GI h a).r q c).1
 have a:=SS (r:=l.drop i) q.e this;rw[mH] at a;exact a
def T9(h:(nF l).1=0)(b:∀n∈l,Made n):∀n∈l,∀s,jW n (N (am n)+1) s []=some (aF n s):=by
 intro n a s;obtain⟨c,d,-,-⟩:=b n a;obtain⟨i,b,rfl⟩:=gB a;exact Nz (GI h b).vars (λv a=>(bA.1 a).elim (λg=>(c v g).1) (λg=>(d v g).1)) s
variable {x:AV}{t:HN}{h i:Nat}
def ci(m:L S):L AV:=m.map λs=>.s s.1 s.2
def fI(m:L S):N (ci m)=N m:=aC ..
def xi{m:L S}(h:i<N m):(ci m).getD i bp=.s m[i].1 m[i].2:=by
 unfold ci;rw[cA,pF,bM h];rfl
def xh(m:L S)(s:S):ci m++[.s s.1 s.2]=ci (m++[s]):=by unfold ci;rw[cM];rfl
def ael{m:L S}{s:S}(h:i<N m):(m.drop i).contains s=(de (m[i]=s)||(m.drop (i+1)).contains s):=by
 rw[eJ h,Ik];congr 1;by_cases g:m[i]=s
 .rw[aB g,g];simp
 .rw[aA g];exact aah.2 λe=>g e.s
def wD{m:L S}(r:ce h d x (ci m))(a:N m<=1099511627776)(s:S)(k:g (.l (m.contains s)) d):∃b a,aq Tryz.prog 72 [x,s] d b a/\g b a:=by
 refine c0 func72 ?_;have t:=λa e w=>bI (e:=a) r.rd (n:=N m) (by rw[aC];exact fI m) Y e w;refine S0 ?_;let⟨I,l⟩:=inv λj a b=>∃i,j=N m-i/\i<=N m/\(a 0=x/\a 1=.s s.1 s.2/\a 5=II i)/\b=d/\(m.drop i).contains s=m.contains s;refine aT I (N m) ((l _ _ _).2 ⟨0,R,aJ _,dy,R,R⟩) ?_;intro j a b b;obtain⟨i,a,b,⟨f,j,n⟩,rfl,a⟩:=(l _ _ _).1 b;by_cases c:i<N m
 .obtain⟨b,b,b,rfl,-,q⟩:=r.resolve_left (λb=>by have:=dv List.length b.2;rw[fI] at this;have:N m=0:=this;omega);have o:=fI m;have p:=xi c;rw[ael c] at a;generalize m[i]=w at*;have b:=bz w s;by_cases e:w=s
  .rw[aB e] at b a;have a:true=m.contains s:=a;rw[<-a] at k;refine S7 f j n q o p b ?_;exact k
  .rw[aA e] at b a;refine S7 f j n q o p b ?_;exact⟨N m-(i+1),Y,(l _ _ _).2 ⟨i+1,R,c,⟨dx f,dx j,R⟩,R,a⟩⟩
 .obtain rfl:i=N m:=Y;rw[fQ] at a;have a:false=m.contains s:=a;rw[<-a] at k;refine S3 f n t ?_;exact k
def KW{q:Prop}(e:q:=by refine S1 c1 ?_;exact k _ _ E):q:=e
def Lm{m:L S}(q:N m<=1099511627776)(r:ce h t x (ci m)):∀(e:Tr),bO e->∀(d:HN) (g:L AV) (Q:AV->HN->Prop),ai t.h t d->bn tt t e g->(∀b f,ai d.h d f->Q (.l b) f)->∃a f,aq Tryz.prog 100 [g,x] d a f/\Q a f:=by
 refine Tr.E λc o p a l B=>?_;intro i d g Q x0 j k;unfold bO at i;let⟨_,_,g⟩:=i;have g:=(mw _).1 g;unfold bn at j;obtain⟨y,rfl,-,i,z,n⟩:=j;have i:=(kI n).1;have v:=λf e w=>bI (e:=f) z i Y e w;refine c0 func100 ?_;obtain⟨e,f⟩:∃e,e=d.X (LL [c,o,p,a,y]):=⟨_,R⟩;have E:ai d.h d e:=by rw[f];exact ap (.refl _ _)
 have c1:e.f d.h=LL [c,o,p,a,y]:=by rw[f];exact ae R
 have i:e.h=d.h+1:=by rw[f];rfl
 have s:=aM x0 E;simp(disch:=omega)only[go_sem,sV];rw[<-f];clear f;cases aI c.1 c.2 3 7496054 with
 |true=>
  refine S1 c1 ?_;refine al (wD (r.aR s.1 λb _ e _=>s.2 b e) q o ?_);simp(disch:=omega)only[go_sem];exact k _ _ E
 |false=>
 refine S1 c1 ?_;cases aI c.1 c.2 3 6648432 with
 |true=>exact KW
 |false=>
 refine S1 c1 ?_;cases aI c.1 c.2 2 15917 with
 |true=>exact KW
 |false=>
 refine S1 c1 ?_;cases aI c.1 c.2 3 7955046 with
 |true=>exact KW
 |false=>
 refine S1 c1 ?_;cases aI c.1 c.2 5 435527247213 with
 |true=>exact KW
 |false=>
 refine S1 c1 ?_;cases aI c.1 c.2 4 1819042147 with
 |true=>exact KW
 |false=>
 refine S1 c1 ?_;cases aI c.1 c.2 3 7630441 with
 |true=>exact KW
 |false=>
 refine S1 c1 ?_;cases aI c.1 c.2 4 1819242338 with
 |true=>exact KW
 |false=>
 refine S1 c1 ?_;let⟨I,q⟩:=inv λj f e=>∃i,j=N l-i/\i<=N l/\(f 1=x/\f 2=.p d.h 0/\f 5=II i)/\ai d.h d e/\d.h<e.h/\e.f d.h=LL [c,o,p,a,y];refine aT I (N l) ((q _ _ _).2 ⟨0,R,aJ _,dy,E,Y,c1⟩) ?_;clear c1 E s;intro j f e a;let⟨i,c,a,⟨d,f,p⟩,E,y,c1⟩:=(q _ _ _).1 a;have w:=aM x0 E;by_cases a:i<N l
 .let⟨o,s⟩:=pf n i a;obtain⟨u,off,cap,c,row,rfl,n,j,c,c⟩:=z.at o;have o:e.f u=_:=(w.2 u j).t n;let⟨_,f2,f3,f4,f5,j⟩:=cJ s;rw[j] at c s;refine S7 d f p c1 v o c ?_;refine al (B _ (aU a) (g _ (aU a)) e _ _ w s λb c c=>?_);have e:=c.1;cases b<;>simp(disch:=omega)only[go_sem,d,f,p]
  .exact⟨N l-(i+1),Y,(q _ _ _).2 ⟨i+1,R,a,⟨dx d,dx f,R⟩,aM E c,Y,(c.2 _ y).t c1⟩⟩
  .exact k _ _ (aM E c)
 .obtain rfl:i=N l:=Y;refine S5 d f p c1 v ?_;exact k _ _ E
variable {z:L AV}
attribute [-go_sem] wp_block in
def afb(r:dL tt d n z)(ok:eG n)(k:∀y M o,ce d.h o y (ci M)->N M<=4294967296->ai d.h d o->g y o):∃y o,aq Tryz.prog 70 [z] d y o/\g y o:=by
 refine c0 func70 ?_;have I:=r;obtain⟨y1,y2,y3,y4,rfl,-,-,-,-,y,r4,r5⟩:=I;have I:sV n.n=.s n.n.1 n.n.2:=R;rw[I] at r;have b8:=ok.2.2.2.2.1;have a7:=ok.2.2.2.2.2;have lq:=(lS r5).1;have l4:=λo e w=>bI (e:=o) r4 lq Y e w;obtain⟨f,y⟩:∃f,f=n.r:=⟨_,R⟩;rw[<-y] at b8 a7 lq l4 r5;obtain⟨NQ,a8⟩:∃NQ,NQ=f.map aX.n:=⟨_,R⟩;have y:N NQ=N f:=by rw[a8,aC]
 obtain⟨y,h1⟩:∃y,y=d.X (LL [n.n,y1,y2,y3,y4,n.a]):=⟨_,R⟩;have E1:ai d.h d y:=by rw[h1];exact ap (.refl _ _)
 have v:y.f d.h=LL [n.n,y1,y2,y3,y4,n.a]:=by rw[h1];exact ae R
 have n1:y.h=d.h+1:=by rw[h1];rfl
 simp(disch:=omega)only[go_sem,wp_block,I];rw[<-h1];clear h1;let⟨I,hI⟩:=inv λj p F=>∃i x M,j=N f+1-i/\i<=N f+1/\(p 1=.p d.h 0/\p 3=x/\p 4=II i)/\ce (d.h+1) F x (ci M)/\xU NQ M/\ai d.h d F/\d.h<F.h/\F.f d.h=LL [n.n,y1,y2,y3,y4,n.a];refine aT I (N f+1) ((hI _ _ _).2 ⟨0,.e,[],R,aJ _,dy,.inl dy,⟨Iw,λ_ h=>by cases h⟩,E1,Y,v⟩) ?_;clear E1 v;intro j p F y;let⟨i,x,M,_,y,⟨D,u,P⟩,W,I,E,nz,v⟩:=(hI _ _ _).1 y;have y:=I.len;by_cases y:i<=N f
 .simp(disch:=omega)only[go_sem,wp_block,D,P,v,l4];let⟨J,O⟩:=inv λj p F=>∃q x M',j=N f-q/\q<=N f/\(p 1=.p d.h 0/\p 3=x/\p 4=II i/\p 5=II q)/\ce (d.h+1) F x (ci M')/\xU NQ M'/\ai d.h d F/\d.h<F.h/\F.f d.h=LL [n.n,y1,y2,y3,y4,n.a];refine aT J (N f) ((O _ _ _).2 ⟨0,x,M,R,aJ _,⟨dx D,dx u,dx P,R⟩,W,I,E,nz,v⟩) ?_;clear D u P W E nz v;intro j p F H;let⟨q,x,M',H,hq,⟨D,u,P,p5⟩,W,K,E,nz,v⟩:=(O _ _ _).1 H;have y:=K.len;by_cases m:q<N f
  .obtain⟨bq,b1,y,y,b3,rfl,a9,a0,t⟩:=At r4 r5 Y;let⟨_,f2,f3,f4,f5,_,y,c7⟩:=t q m;have c5:=a7 _ (aU m);have a3:F.f bq=_:=(E.2 _ a0).t a9;have b7:=JQ y;have a6:b3.getD (b1+q*7) bp=.s f[q].n.1 f[q].n.2:=(pH y dc).t R;have c3:f[q].n∈NQ:=by rw[a8];exact cN.2 ⟨_,aU m,R⟩
   generalize f[q]=w at*;simp(disch:=omega)only[go_sem,wp_block,D,u,p5,v,l4,a3,a6];refine al (wD W Y w.n ?_);cases hh:M'.contains w.n with
   |true=>
    refine S1 p5 ?_;exact⟨N f-(q+1),Y,(O _ _ _).2 ⟨q+1,x,M',R,m,⟨dx D,dx u,dx P,R⟩,W,K,E,nz,v⟩⟩
   |false=>
    refine S6 D u p5 v a3 b7 ?_;refine al (Lm Y W w.e c5.2 F _ _ (.refl _ _) (gq (iS E) E.1 (λ_ h=>h) _ _ c7) λbl l y=>?_);have I:=y.1;have EE:=aM E y;have c2:=(y.2 _ nz).t v;have b5:=(EE.2 _ a0).t a9;have a1:=W.aR (e:=l) I λb _ U _=>y.2 b U;cases bl with
    |false=>
     refine S1 p5 ?_;exact⟨N f-(q+1),Y,(O _ _ _).2 ⟨q+1,x,M',R,m,⟨dx D,dx u,dx P,R⟩,a1,K,EE,Y,c2⟩⟩
    |true=>
     let⟨Z,e9,B,n9,k9⟩:=si (w:=16) (d:=l.X (LL [w.n])) (v:=.s w.n.1 w.n.2) (i:=l.h) (c:=.k 1) (a1.aR (e:=l.X (LL [w.n])) (iC _) λc _ U _=>ac Y) (ae R) (bJ _) (by rw[fI];omega) (by show d.h+1<=l.h+1;omega);rw[xh] at B;rw[fI] at e9 B;have c4:Z.h=l.h+2:=n9;have a2:∀c,ar x c->d.h+1<=c:=λc hc=>(a1.bT hc).1;have y:∀c,c<d.h+1->Z.f c=l.f c:=λc h1=>(k9 c (by show c<l.h+1;omega) (λb6=>om (a2 c b6))).t (ac Y);refine S6 D u p5 c2 b5 a6 ?_;rw[e9];refine S1 p5 ?_;exact⟨N f-(q+1),Y,(O _ _ _).2 ⟨q+1,_,M'++[w.n],R,m,⟨dx D,R,dx P,R⟩,B,K.app c3 hh,⟨Y,λc hc=>(y c Y).t (EE.2 c hc)⟩,Y,(y _ Y).t c2⟩⟩
  .obtain rfl:q=N f:=Y;refine S5 D P p5 v l4 ?_;exact⟨N f+1-(i+1),Y,(hI _ _ _).2 ⟨i+1,x,M',R,Y,⟨dx D,dx u,R⟩,W,K,E,nz,v⟩⟩
 .obtain rfl:i=N f+1:=Y;have f:=ic r E;refine S4 D P v l4 ?_;refine al (Ic f ok λxv C i Ev=>?_);have nv:=Ev.1;have EV:=aM E Ev;have f:aH 5 F.h C xv (N ((am n).map Vr.cells)) ((am n).map Vr.cells).flatten:=by rw[jy];exact i
  have rx:=oz f (λl hl=>by obtain⟨v,_,rfl⟩:=cN.1 hl;rfl);let⟨_,f⟩:=Cm ok;have lx:=λo e w=>bI (e:=o) rx (jy _) Y e w;have c6:=W.aR (e:=C) nv λb _ U _=>Ev.2 b U;simp(disch:=omega)only[go_sem,wp_block];generalize am n=V at*;let⟨J,O⟩:=inv λj p a=>∃q x6 L6,j=N V-q/\q<=N V/\(p 3=x/\p 6=x6/\p 7=xv/\p 8=II q)/\ce C.h a x6 (ci L6)/\N L6<=q/\ai C.h C a;refine aT J (N V) ((O _ _ _).2 ⟨0,.e,[],R,aJ _,⟨dx u,R,R,R⟩,.inl dy,ak _,.refl _ _⟩) ?_;clear D u P;intro j p a H;let⟨q,x6,L6,H,hq,⟨u,p6,p7,p8⟩,r6,e,E'⟩:=(O _ _ _).1 H;have n':=E'.1;by_cases m:q<N V
  .obtain⟨bx,b2,e,e,b4,rfl,b9,b0,t⟩:=pV rx Y;have a4:a.f bx=_:=(E'.2 _ b0).t b9;let⟨_,e⟩:=t q m;have a5:b4.getD (b2+q*5) bp=.s V[q].n.1 V[q].n.2:=(pH e dc).t R;generalize V[q].n=s at*;have e:=c6.aR (e:=a) n' λb _ U _=>E'.2 b U;simp(disch:=omega)only[go_sem,wp_block,u,p7,p8,lx,a4,a5];refine al (wD e Y s ?_);cases M.contains s with
   |false=>
    refine S1 p8 ?_;exact⟨N V-(q+1),Y,(O _ _ _).2 ⟨q+1,x6,L6,R,m,⟨dx u,dx p6,dx p7,R⟩,r6,Y,E'⟩⟩
   |true=>
    let⟨Z,e9,B,n9,k9⟩:=si (w:=16) (d:=a.X (LL [s])) (v:=.s s.1 s.2) (i:=a.h) (c:=.k 1) (r6.aR (e:=a.X (LL [s])) (iC _) λc _ U _=>ac Y) (ae R) (bJ _) (by rw[fI];omega) (by show C.h<=a.h+1;omega);rw[xh] at B;rw[fI] at e9 B;have c4:Z.h=a.h+2:=n9;have a2:∀c,ar x6 c->C.h<=c:=λc hc=>(r6.bT hc).1;refine S5 p6 p7 p8 a4 a5 ?_;rw[e9];refine S1 p8 ?_;exact⟨N V-(q+1),Y,(O _ _ _).2 ⟨q+1,_,L6++[s],R,m,⟨dx u,R,dx p7,R⟩,B,by rw[ay];show N L6+1<=q+1;omega,⟨Y,λc hc=>(k9 c (by show c<a.h+1;omega) (λb6=>om (a2 c b6))).t ((ac Y).t (E'.2 c hc))⟩⟩⟩
  .obtain rfl:q=N V:=Y;refine S4 p6 p7 p8 lx ?_;have a:=aM EV E';refine k _ L6 _ ?_ Y a;rcases r6 with h|⟨b,h1,U,h3,h4,h5⟩
   .exact .inl h
   .exact .inr ⟨b,om EV.1,U,h3,h4,h5⟩
end
section
open Tryz
variable {n:Nd}
def ue{n:Nd}:∀(k:Nat) (l:L S),zd n k l=zc (aE n) (fA n) k l
 |0,_=>rfl
 |k+1,l=>by
  unfold zd zc
  have:ug n l=DR (fA n) l:=R
  rw[this];split
  .rename_i e;try rw[e]
   exact ue k _
  grind
def MA{n:Nd}{s:S}:∀(k:Nat) (a b:L S),DX n s k a b=uh (fA n) s k a b
 |0,_,_=>rfl
 |k+1,a,b=>by
  unfold DX uh;split
  .grind
  .rename_i e;try rw[e]
   try dsimp only
   rw[MA k,MA k]
def GA(x:S):∀y∈fA n x,y∈aE n:=by
 unfold fA;grind
def Ln(x:S):N (fA n x)<=N (aE n):=by
 unfold fA;grind
def Ku(n:Nd):Nat:=N (aE n)*(N (aE n)+1)+N (aE n)+1
def Mz(n:Nd)(s:S):Option Bool:=DX n s (Ku n) [] (fA n s)
def Ht{s:S}:∃b,Mz n s=some b/\(b=true↔jO (fA n) s s):=by
 have a:N ((aE n).filter λx=>!([]:L S).contains x)<=N (aE n):=J;have c:=Ln (n:=n) s;have c:N ((aE n).filter λx=>!([]:L S).contains x)*(N (aE n)+1)<=N (aE n)*(N (aE n)+1):=tu _ a;let⟨b,e⟩:=Mx (s:=s) (Ln (n:=n)) (GA (n:=n)) (Ku n) [] (fA n s) (GA s) (by unfold Ku;omega);refine⟨b,(MA _ _ _).t e,?_⟩;cases b with
 |true=>exact⟨λ_=>My _ _ _ (λw a=>.one a) e,J⟩
 |false=>exact⟨J,λh=>absurd h (Mw _ _ _ (λw a=>.inr a) (λx a=>by cases a) kN e)⟩
def Al(n:Nd):L aX->Option Nat
 |[]=>none
 |q::r=>if Mz n q.n=some true then some q.a else Al n r
def Cv:L Nd->Option Nat
 |[]=>none
 |n::r=>match Al n n.r with|some a=>some a|none=>Cv r
def Fl{n:Nd}:∀{l:L aX},Al n l=none↔∀q∈l,Mz n q.n≠some true
 |[]=>⟨J,λ_=>R⟩
 |q::r=>by
  unfold Al;split
  .grind
  .rename_i h;rw[Fl];grind
def Jj:∀{l:L Nd},Cv l=none↔∀n∈l,Al n n.r=none
 |[]=>⟨J,λ_=>R⟩
 |n::r=>by
  unfold Cv;split
  .grind
  .rename_i h;rw[Jj];grind
def KX:∀{l a:L Vr},kB a l->(a.map Vr.n).Nodup->((a++l).map Vr.n).Nodup
 |[],a,_,h=>J
 |v::r,a,⟨b,c⟩,h=>by
  have:((a++[v]).map Vr.n).Nodup:=by
   rw[cM,rF];refine⟨h,J,λa a b b=>?_⟩;obtain A:=cN.1 a;rw[dM.1 b];exact J
  have:=KX c this
  grind
def ag4{h:L Nd}(g:EL h n):(aE n).Nodup:=by
 have:=KX g.vars J
 rw[dH] at this;unfold am at this;rw[cM] at this;exact(rF.1 this).2.1
def Ue{h:L Nd}{n:Nd}:∀(l a:L aX) (b:Bd),(sR h n a l b).1=0->∀q∈l,¬∃v∈n.ins,v.n=q.n
 |[],_,b,c=>J
 |q::r,a,b,c=>by
  have b:=Ue r _ _ c;let⟨d,a⟩:=GL _ _ (Do r _ _ c).1;let⟨a,c⟩:=tP dc d;intro x hx;rcases bY.1 hx with rfl|hx
  .rintro⟨v,c,e⟩
   have:(n.ins.any λv=>decide (v.n=x.n))=true:=BM.2 ⟨v,c,aB e⟩
   rw[this] at a;simp at a
  .exact b x hx
def Um{n:Nd}:∀(l:L Vr) (b:Bd),(ud n l b).1=0->∀v∈l,∃q∈n.r,q.n=v.n
 |[],b,_=>J
 |v::r,b,a=>by
  have b:=Um r _ a;have b:=(tP dc (Dt r _ a)).1;grind
def agb{h:L Nd}{b:Bd}(c:(Dq h n b).1=0):(∀q∈n.r,q.n∈aE n)/\∀s∈aE n,∃q∈n.r,q.n=s:=by
 have d:=Um _ _ c;have a:=Dt _ _ c;have c:=Ue _ _ _ a;have c:=(Do _ _ _ a).2;refine⟨λq a=>?_,λs f=>?_⟩
 .have:=(c q a).2
  unfold aO at this;let⟨v,a⟩:=xK.1 this;have e:v.n=q.n:=by have:=uB a;exact eL this
  have m:=pY a;unfold am at m;rcases bA.1 m with m|m
  .grind
  .exact cN.2 ⟨v,m,e⟩
 .obtain⟨v,a,rfl⟩:=cN.1 f;exact d v a
def Ds:∀(l h:L Nd) (b:Bd),(wQ h l b).1=0->∀n∈l,(aE n).Nodup/\(∀q∈n.r,q.n∈aE n)/\∀s∈aE n,∃q∈n.r,q.n=s
 |[],h,b,a=>J
 |n::r,h,b,a=>by
  have c:=Ds r _ _ a;have b:=(GM r _ _ a).1;intro x hx;rcases bY.1 hx with rfl|hx
  .exact⟨ag4 (Uj b).2,agb b⟩
  .exact c x hx
def agU(h:(aE n).Nodup/\(∀q∈n.r,q.n∈aE n)/\∀s∈aE n,∃q∈n.r,q.n=s):(∃o,gR n=some o)↔Al n n.r=none:=by
 let⟨d,a,f⟩:=h;rw[Fl];constructor
 .rintro⟨o,e⟩ q j g
  let⟨b,a,c⟩:=Ht (n:=n) (s:=q.n);rw[g] at a;have b:=c.1 (jX a).s;have e:=(ue _ _).s.t e;let⟨c,o2,k,l⟩:=wU _ _ e (λi a=>(by cases a)) J J
  have:q.n∈o:=Cl k l Y _ J
  exact agP c this b
 .intro g;let⟨o,e⟩:=LY (names:=aE n) (lean:=fA n) d (λx=>GA x) (λs a b=>by
   obtain⟨q,j,rfl⟩:=f s a;obtain A:=Ht (n:=n) (s:=q.n);grind) (N (aE n)) [] dp J J
  exact⟨o,(ue _ _).t e⟩
def DC{o:L S}(e:gR n=some o):uI (fA n) o/\N o=N (aE n):=by
 have e:=(ue _ _).s.t e;obtain A:=wU _ _ e (λi a=>(by cases a)) J J;grind
variable {x:AV}{g:AV->HN->Prop}{d:HN}{z:L AV}{h:Nat}
def DD(a:eG n):N (aE n)<=4294967296:=by
 have b:=a.2.2.1.1;have b:=a.2.2.2.1.1;unfold aE;rw[aC,ay];omega
attribute [-go_sem] wp_block in
def Vd(r:dL tt d n z)(Z:eG n)(k:∀y a,ce d.h a y (ci (aE n))->ai d.h d a->g y a):∃j a,aq Tryz.prog 146 [z] d j a/\g j a:=by
 have e:=DD Z;obtain⟨y1,K,O,y4,rfl,-,j,r2,r3,-⟩:=r;let⟨_,_,y,H,_,j⟩:=Z;refine c0 func146 ?_;have j:sV n.n=.s n.n.1 n.n.2:=R;have q2:=r2.cells;have q3:=r3.cells;simp(disch:=omega)only[go_sem,j,q2,q3,fp,ft,bF];have E:ai d.h d ((d.X (LL [n.n,y1,K,O,y4,n.a])).X (LL [K,O])):=ap (ap (.refl _ _));have j:mW [n.o,n.ao]<=4294967296:=by
  have p:=y.1;have U:=H.1;unfold mW;simp only[ir,Iq,ay,hN];omega
 refine al (Qz (b:=d.h+1) (c:=[K,O]) (h:=[n.o,n.ao]) ⟨r2.ext (f:=0) E,r3.ext (f:=0) E,trivial⟩ (ae R) (bJ _) j (gf R) λxv f I j=>?_);have y:[n.o,n.ao].flatten=n.o++n.ao:=by simp
 rw[y] at I;have P:=aM E j;have j:aE n=(n.o++n.ao).map Vr.n:=R;rw[j] at k e;rw[aC] at e;generalize n.o++n.ao=V at*;have j:=λa e w=>bI (e:=a) I (jy _) Y e w;simp(disch:=omega)only[go_sem,wp_block,j];let⟨J,C⟩:=inv λj a c=>∃q x,j=N V-q/\q<=N V/\(a 3=x/\a 11=xv/\a 12=II (N V)/\a 13=II q)/\ce f.h c x (ci ((V.take q).map Vr.n))/\ai f.h f c;refine aT J (N V) ((C _ _ _).2 ⟨0,.e,R,aJ _,dy,.inl dy,.refl _ _⟩) ?_;intro j a c a;let⟨q,x,a,e,⟨p3,s,m,o⟩,v,t⟩:=(C _ _ _).1 a;have a:=t.1;have W:N ((V.take q).map Vr.n)=q:=by rw[aC,dW];omega
 by_cases l:q<N V
 .obtain⟨b,off,cap,a,row,rfl,F,D,a,i⟩:=zG I l;have B:c.f b=_:=(t.2 _ D).t F;have et:(V.take (q+1)).map Vr.n=(V.take q).map Vr.n++[V[q].n]:=by rw[dt l,cM];rfl
  generalize V[q]=w at*;have a:w.cells=[.s w.n.1 w.n.2,II w.z,.s w.p.1 w.p.2,.l w.t,II w.a]:=R;rw[a] at i;obtain⟨a,u⟩:∃a,a=c.X (LL [w.n,w.z,w.p,w.t,w.a]):=⟨_,R⟩;have j:ai c.h c a:=by rw[u];exact ap (.refl _ _)
  have F:a.h=c.h+1:=by rw[u];rfl
  simp(disch:=omega)only[go_sem,wp_block,p3,s,m,o,B,i,fp,ft,bF];rw[<-u];have y:=v.aR (e:=a) j.1 λc _ p _=>j.2 c p;let⟨B,i,e,H,D⟩:=si (w:=16) (d:=a.X (LL [w.n])) (v:=.s w.n.1 w.n.2) (i:=a.h) (c:=.k 1) (y.aR (e:=a.X (LL [w.n])) (iC _) λc _ p _=>ac Y) (ae R) (bJ _) (by rw[fI,W];omega) (by show f.h<=a.h+1;omega);rw[xh,<-et] at e;rw[fI,W] at i e;have w:B.h=a.h+2:=H;have w:∀c,ar x c->f.h<=c:=λc f=>(v.bT f).1;rw[F] at i;rw[i];refine S1 o ?_;exact⟨N V-(q+1),Y,(C _ _ _).2 ⟨q+1,_,R,l,⟨R,dx s,dx m,R⟩,e,⟨Y,λc f=>(D c (by show c<a.h+1;omega) (λa=>om (w c a))).t ((ac Y).t ((j.2 c Y).t (t.2 c f)))⟩⟩⟩
 .obtain rfl:q=N V:=Y;rw[hU] at v;refine S3 p3 m o ?_;refine k _ _ ?_ (aM P t);rcases v with h|⟨b,u,p,U,h4,h5⟩
  .exact .inl h
  .exact .inr ⟨b,om P.1,p,U,h4,h5⟩
def D5(m:L S):N ((ci m).map λv=>[v])=N m:=by rw[aC,fI]
def MZ:fU .i64 18446744073709551615 0=true:=R
def aez{m:L S}(r:ce h d x (ci m))(a:N m<=4294967296)(s:S)(k:g (II (gE (dD (λy=>decide (y=s)) m 0))) d):∃b a,aq Tryz.prog 178 [x,s] d b a/\g b a:=by
 refine c0 func178 ?_;have b:=λa e w=>bI (e:=a) r.rd (D5 m) Y e w;refine S1 b ?_;let⟨I,l⟩:=inv λj a b=>∃i,j=N m-i/\i<=N m/\(a 0=x/\a 1=.s s.1 s.2/\a 7=II (N m)/\a 8=II i)/\b=d/\dD (λy=>decide (y=s)) (m.drop i) i=dD (λy=>decide (y=s)) m 0;refine aT I (N m) ((l _ _ _).2 ⟨0,R,aJ _,dy,R,R⟩) ?_;intro j a b b;obtain⟨i,a,b,⟨n,o,f,p⟩,rfl,a⟩:=(l _ _ _).1 b;by_cases c:i<N m
 .obtain⟨b,b,b,rfl,-,u⟩:=r.resolve_left (λj=>by have:=dv List.length j.2;rw[fI] at this;have:N m=0:=this;omega);have q:=fI m;have t:=xi c;rw[yM c] at a;generalize m[i]=w at*;have b:=bz s w;by_cases e:w=s
  .rw[aB e.s] at b;rw[aB e,ae R] at a;rw[<-a] at k;refine S8 n o f p u q t b ?_;exact k
  .rw[aA λj=>e j.s] at b;rw[aA e,ac (by decide)] at a;refine S8 n o f p u q t b ?_;exact⟨N m-(i+1),Y,(l _ _ _).2 ⟨i+1,R,c,⟨dx n,dx o,dx f,R⟩,R,a⟩⟩
 .obtain rfl:i=N m:=Y;rw[fQ] at a;rw[<-a] at k;refine S2 f p ?_;exact k
def any_eq(m:L S)(s:S):(m.any λy=>decide (y=s))=m.contains s:=by
 induction m with
 |nil=>rfl
 |cons a m b=>
  rw[vL,Ik,b];congr 1;by_cases g:a=s
  .rw[aB g,g];simp
  .rw[aA g];exact(aah.2 λe=>g e.s).s
def aet{m:L S}(r:ce h d x (ci m))(c:N m<=4294967296)(s:S)(k:g (.l (m.contains s)) d):∃b a,aq Tryz.prog 163 [x,s] d b a/\g b a:=by
 refine c0 func163 ?_;refine S0 ?_;refine al (aez r c s ?_);have a:=AM (λy=>decide (y=s)) m 0;rw[any_eq] at a;cases e:dD (λy=>decide (y=s)) m 0 with
 |none=>
  rw[e] at a;have a:false=m.contains s:=a;rw[<-a] at k;have b:gE none=18446744073709551615:=R;simp(disch:=omega)only[go_sem,b,MZ];exact k
 |some j=>
  rw[e] at a;have a:true=m.contains s:=a;rw[<-a] at k;let⟨_,a,_⟩:=pL e;have b:gE (some j)=j:=R;refine S1 b ?_;exact k
variable {y:AV}{e:HN}{b i j s:Nat}
def oP(d:Nat)(c:HN)(y:AV)(m:L S):Prop:=(y=.e/\m=[])\/∃b a,d<=b/\b<c.h/\y=.a b 0 (N m) (.B 1)/\c.f b=LL (ci m++a)
def ce.t{f:Nat}{m:L S}(h:ce f d y (ci m)):oP f d y m:=by
 rcases h with⟨c,e⟩|⟨b,c,e,g,a,i⟩
 .refine .inl ⟨c,?_⟩;cases m with
  |nil=>rfl
  |cons a m=>cases e
 .exact .inr ⟨b,[],c,e,by rw[g,fI],by rw[eB];exact i⟩
def oP.aR{c:Nat}{U:HN}{m:L S}(h:oP c U y m)(a:U.h<=e.h)(j:∀b,c<=b->b<U.h->∀a,U.f b=LL (ci m++a)->e.f b=U.f b):oP c e y m:=by
 rcases h with h|⟨b,a,d,g,i,f⟩
 .exact .inl h
 .exact .inr ⟨b,a,d,Y,i,(j b d g a f).t f⟩
def oP.mono{c a:Nat}{U:HN}{m:L S}(h:oP c U y m)(b:a<=c):oP a U y m:=h.imp id λ⟨b,row,d,a⟩=>⟨b,row,Y,a⟩
def ai5{m:L S}{a:L AV}(h:i<N m):(ci m++a).getD i bp=.s m[i].1 m[i].2:=by
 rw[cA,tp (by rw[fI];exact h),<-cA,xi h]
def oP.rd{e:Nat}{U:HN}{m:L S}(h:oP e U y m):aK 1 U y ((ci m).map λv=>[v]):=by
 have c:∀l:L AV,(l.map λv=>[v]).flatten=l:=λl=>by
  induction l with
  |nil=>rfl
  |cons a l b=>show a::(l.map λv=>[v]).flatten=a::l;rw[b]
 rcases h with⟨rfl,rfl⟩|⟨b,row,a,a,rfl,d⟩
 .exact .inl ⟨R,.inl R⟩
 .refine .inr ⟨b,0,.B 1,_,_,?_,d,a,?_,λl a=>?_,?_⟩
  .rw[aC,fI]
  .rw[aC,ay];omega
  .obtain⟨v,_,rfl⟩:=cN.1 a;rfl
  .rw[c,aC,ng,zW,Et];rfl
@[go_sem] def akh{n:Nat}{a l:L AV}:Am s b j n a (LL l) d=if j+n*s<=N l then .ok bp (d.put b (LL (dz l j a))) else .no:=(rfl)
def aiC{a:L AV}{v:AV}(h:i<N a):(a.set i v).take (i+1)=a.take i++[v]:=by
 rw[dt (by rw[jk];exact h),Oa,Iz (ak _)]
def set_drop{a:L AV}{j:Nat}{v:AV}(h:i<j):(a.set i v).drop j=a.drop j:=by
 rw[NY h]
def Yj:∀(a b:L AV) (i:Nat),(dz b i a).take i=b.take i
 |[],_,_=>rfl
 |a::r,b,i=>by
  have:=dv (List.take i) (Yj r (b.set i a) (i+1))
  rw[vP,vP,xH (iC i),Iz (ak i)] at this;exact this
def aiG{a b:L AV}(h:i<=N a):(dz a i b).take i=a.take i:=Yj _ _ _
def IN(c:HN)(m:L S)(p:S->Bool)(f:FuncId)(a:L AV):Prop:=
 ∀s∈m,∀(Q:AV->HN->Prop),Q (.l (p s)) c->∃v b,aq Tryz.prog f (.s s.1 s.2::a) c v b/\Q v b
def Nf{m:L S}(r:oP h d x m)(a:N m<=4294967296){p:S->Bool}{f:FuncId}{c:L AV}(v:IN d m p f c)(k:g (II (gE (dD p m 0))) d):∃b a,aq Tryz.prog 108 [x,.func f [] c] d b a/\g b a:=by
 refine c0 func108 ?_;have b:=λa e w=>bI (e:=a) r.rd (D5 m) Y e w;refine S1 b ?_;let⟨I,l⟩:=inv λj a b=>∃i,j=N m-i/\i<=N m/\(a 0=x/\a 1=.func f [] c/\a 7=II (N m)/\a 8=II i)/\b=d/\dD p (m.drop i) i=dD p m 0;refine aT I (N m) ((l _ _ _).2 ⟨0,R,aJ _,dy,R,R⟩) ?_;intro j a b a;obtain⟨i,b,a,⟨q,s,n,o⟩,rfl,j⟩:=(l _ _ _).1 a;by_cases a:i<N m
 .obtain⟨b,row,b,b,rfl,u⟩:=r.resolve_left (λb=>by rw[b.2] at a;exact absurd a (nR _));have b:N (ci m++row)=N m+N row:=by rw[ay,fI]
  have t:=ai5 (a:=row) a;have b:=aU a;rw[yM a] at j;generalize m[i]=w at*;refine S6 q s n o u t ?_;refine al (v w b _ ?_);cases e:p w with
  |true=>
   rw[e,ae R] at j;rw[<-j] at k;refine S0 ?_;exact k
  |false=>
   rw[e,ac (by decide)] at j;refine S1 o ?_;exact⟨N m-(i+1),Y,(l _ _ _).2 ⟨i+1,R,a,⟨dx q,dx s,dx n,R⟩,R,j⟩⟩
 .obtain rfl:i=N m:=Y;rw[fQ] at j;rw[<-j] at k;refine S2 n o ?_;exact k
def aeU{p:S->Bool}{m:L S}(h:dD p m 0=none):m.filter (λy=>!p y)=m:=by
 have:=AM p m 0
 rw[h] at this;refine List.filter_eq_self.2 λa b=>?_
 have:m.any p=false:=this.s
 rw[NU] at this
 have:=this a b
 cases e:p a with
 |true=>exact absurd e this
 |false=>rfl
def Sw{p:S->Bool}:∀{m:L S} {i j:Nat},dD p m i=some j->(m.take (j-i)).filter (λy=>!p y)=m.take (j-i)/\∃h:j-i<N m,p m[j-i]=true
 |[],_,_,h=>by cases h
 |a::r,i,j,h=>by
  unfold dD at h;by_cases g:p a=true
  .rw[ae g] at h;cases h;rw[rH];exact⟨R,jm _,g⟩
  .rw[ac g] at h;have a:=(pL h).1;let⟨a,b,c⟩:=Sw h;have e:j-i=(j-(i+1))+1:=Y;rw[e,rG,Ip (by simpa using g),a];refine⟨R,by simpa using b,?_⟩;simp only[BQ];exact c
def acP{m:L S}(r:ce h d x (ci m))(e:N m<=4294967296){p:S->Bool}{f:FuncId}{l:L AV}(U:∀n:HN,n.h=d.h->(∀c,¬ar x c->n.f c=d.f c)->IN n m p f l)
  (k:∀y a,oP h a y (m.filter λy=>!p y)->a.h=d.h->(∀c,¬ar x c->a.f c=d.f c)->g y a):∃b a,aq Tryz.prog 167 [x,.func f [] l] d b a/\g b a:=by
 refine c0 func167 ?_;refine S0 ?_;refine al (Nf r.t e (U d R λ_ _=>R) ?_);cases e:dD p m 0 with
 |none=>
  have a:gE none=18446744073709551615:=R;refine S1 a ?_;refine k _ _ ?_ rfl λ_ _=>R;rw[aeU e];exact r.t
 |some j=>
  have a:gE (some j)=j:=R;let⟨o,t,u⟩:=Sw e;rw[uC] at o t;obtain⟨b,W,i,rfl,i,w⟩:=r.resolve_left (λi=>by have:=dv List.length i.2;rw[fI] at this;have:N m=0:=this;omega);have i:=aA Y;rw[fI] at*;refine S2 a i ?_;let⟨I,z⟩:=inv λc s n=>∃i q a,c=N m-i/\q<i/\i<=N m/\(s 0=.a b 0 (N m) (.B 1)/\s 1=.func f [] l/\s 5=II q/\s 6=II i)/\n.h=d.h/\(∀c,c≠b->n.f c=d.f c)/\n.f b=LL a/\N a=N m/\a.take q=ci ((m.take i).filter λy=>!p y)/\a.drop i=(ci m).drop i/\N ((m.take i).filter λy=>!p y)=q;have v:(m.take (j+1)).filter (λy=>!p y)=m.take j:=by
   rw[dt t,BO,o,Io (by simpa using u),N2,eB]
  refine aT I (N m-(j+1)) ((z _ _ _).2 ⟨j+1,j,ci m,R,bJ _,t,dy,R,λ_ _=>R,w,fI m,?_,R,?_⟩) ?_
  .rw[v];unfold ci;rw[List.map_take]
  .rw[v,dW];omega
  intro c s n s;let⟨i,q,a,_,_,j,⟨u,O,P,H⟩,F,D,v,I,C,o,B⟩:=(z _ _ _).1 s;by_cases j:i<N m
  .have V:a.getD i bp=.s m[i].1 m[i].2:=by
    have:(a.drop i).getD 0 bp=((ci m).drop i).getD 0 bp:=by rw[o]
    rw[cA,cA,mG,mG,nk,<-cA,<-cA,xi j] at this;exact this
   have K:=aU j;have t:a.drop (i+1)=(ci m).drop (i+1):=by rw[<-oH,o,oH]
   have s:(m.take (i+1)).filter (λy=>!p y)=(m.take i).filter (λy=>!p y)++[m[i]].filter (λy=>!p y):=by rw[dt j,BO]
   generalize m[i]=w at*;refine S5 u O H v V ?_;refine al (U n F (λc o=>D c λe=>o (by rw[e];rfl)) w K _ ?_);cases y:p w with
   |true=>
    rw[Io (by simpa using y),N2,eB] at s;refine S1 H ?_;exact⟨N m-(i+1),Y,(z _ _ _).2 ⟨i+1,q,a,R,Y,j,⟨dx u,dx O,dx P,R⟩,F,D,v,I,by rw[s];exact C,t,by rw[s];exact B⟩⟩
   |false=>
    rw[Ip (by simpa using y),N2] at s;refine S5 u P H v I ?_;refine⟨N m-(i+1),Y,(z _ _ _).2 ⟨i+1,q+1,a.set q (.s w.1 w.2),R,Y,j,⟨dx u,dx O,R,R⟩,F,λc o=>(ac o).t (D c o),ae R,by rw[jk];exact I,?_,?_,?_⟩⟩
    .rw[s,aiC (by omega),C,xh]
    .rw[set_drop (by omega)];exact t
    .rw[s,ay,B];rfl
  .obtain rfl:i=N m:=Y;rw[hU] at C B;refine S4 u P H v ?_;generalize List.replicate (N m-q) (AV.s 0 0)=new;refine k _ _ (.inr ⟨b,(dz a q new).drop q,W,by show b<n.h;omega,by rw[B],?_⟩) F λc o=>(ac λe=>o (by rw[e];rfl)).t (D c λe=>o (by rw[e];rfl));have b:=mH q (dz a q new);rw[aiG (by omega),C] at b;rw[b];exact ae R
end
section
variable {y:AV}{g:AV->HN->Prop}{d:HN}{m:L (L AV)}{b:Nat}
def aam(s c:Nat)(d:HN)(y:AV)(a:L (L AV)):Prop:=(a=[]/\(y=.e\/∃b,c<=b/\y=.a b 0 0 (.k 0)))\/∃b,c<=b/\b<d.h/\y=.a b 0 (N a) (.B s)/\d.f b=LL a.flatten/\a≠[]
@[go_sem] def Rz:vd Tryz.prog 81 true=true:=by kernel_rfl
@[go_sem] def Ry{o n:Nat}{c:Cp}:oU Tryz.prog 81 (.a b o n c) .e=some false:=by kernel_rfl
def adw(c:aK 5 d y m)(a:∀l∈m,N l=5)(a:N m<=1073741824)(k:∀b a,aam 5 d.h a b m->ai d.h d a->g b a):∃b a,aq Tryz.prog 93 [y] d b a/\g b a:=by
 refine c0 Tryz.func93 ?_;have E:ai d.h d (d.X (LL [])):=ap (.refl _ _);have f:aH 5 d.h (d.X (LL [])) (.a d.h 0 0 (.k 0)) 0 []:=⟨R,.inr ⟨d.h,ak _,bJ _,.inl ⟨R,R,_,ae R⟩⟩⟩;rcases c with⟨rfl,rfl|⟨b,off,cap,rfl⟩⟩|ry'
 .refine S0 ?_;exact k _ _ (.inl ⟨R,.inl R⟩) (.refl _ _)
 .simp(disch:=omega)only[go_sem,Rz,Ry];have c:gj 5 72 (.a d.h 0 0 (.k 0)) (.a b off 0 cap) (d.X (LL []))=.ok (.a d.h 0 0 (.k 0)) (d.X (LL [])):=by rw[oR];rfl
  rw[c];refine S0 ?_;exact k _ _ (.inl ⟨R,.inr ⟨_,ak _,R⟩⟩) E
 .have e:aK 5 d y m:=.inr ry';obtain⟨b,off,cap,a,row,rfl,-⟩:=ry';simp(disch:=omega)only[go_sem,Rz,Ry];by_cases a:m=[]
  .subst a;have c:gj 5 72 (.a d.h 0 0 (.k 0)) (.a b off (N ([]:L (L AV))) cap) (d.X (LL []))=.ok (.a d.h 0 0 (.k 0)) (d.X (LL [])):=by rw[oR];rfl
   rw[c];refine S0 ?_;exact k _ _ (.inl ⟨R,.inr ⟨_,ak _,R⟩⟩) E
  .have b:=zm (e.ext (f:=0) E);refine tj dc f b Y (by show d.h<=d.h+1;omega) λc c o2 c=>?_;refine S0 ?_;rw[gg,dH] at o2;refine k _ _ ?_ (E.M c);obtain⟨_,⟨_,q2⟩|⟨e,b,q2,⟨_,c,_⟩|⟨c,f⟩⟩⟩:=o2
   .exact absurd (ff q2) a
   .exact absurd (ff c) a
   .exact .inr ⟨e,b,q2,c,f,a⟩
def QB:∀(e:Tr),bO e->∀(d:HN) (z:L AV) (Q:AV->HN->Prop),bn tt d e z->(∀z' g,bn (λc=>d.h<=c) g e z'->ai d.h d g->Q (.g z') g)->∃p g,aq Tryz.prog 54 [z] d p g/\Q p g:=by
 refine Tr.E λop nm n a u ih=>?_;intro p d z Q r k;unfold bO at p;let⟨_,w,F⟩:=p;have F:=(mw _).1 F;unfold bn at r;obtain⟨y,rfl,-,H,ry,a0⟩:=r;let⟨s,V⟩:=kI a0;refine cf Wn Tryz.func54 ?_;obtain⟨p,r⟩:∃p,p=(d.X (LL [op,nm,n,a,y])).X (LL [.s 0 0,.s 0 0,II 0,II 0,.e]):=⟨_,R⟩;have z:ai d.h d p:=by rw[r];exact ap (ap (.refl _ _))
 have w:p.h=d.h+2:=by rw[r];rfl
 have c0:p.f d.h=LL [op,nm,n,a,y]:=by rw[r];exact(ac (by show¬d.h=d.h+1;omega)).t (ae R)
 have y:p.f (d.h+1)=LL [.s 0 0,.s 0 0,II 0,II 0,.e]:=by rw[r];exact ae R
 simp(disch:=omega)only[go_sem,sV];rw[<-r];clear r;refine al (adw (ry.ext (f:=0) z) V Y λD r o2 w=>?_);have n2:=w.1;have d0:=(w.2 _ (by omega:d.h<p.h)).t c0;have d1:=(w.2 _ (by omega:d.h+1<p.h)).t y;obtain⟨f,I⟩:∃f,f=r.put d.h (LL [op,nm,n,a,D]):=⟨_,R⟩;have p:f.h=r.h:=by rw[I];rfl
 have f0:f.f d.h=LL [op,nm,n,a,D]:=by rw[I];exact ae R
 have f1:f.f (d.h+1)=LL [.s 0 0,.s 0 0,II 0,II 0,.e]:=by rw[I];exact(ac Y).t d1
 have C:∀c,c≠d.h->f.f c=r.f c:=λc j=>by rw[I];exact ac j
 have E3:ai d.h d f:=⟨Y,λc j=>(C c Y).t ((aM z w).2 c j)⟩;have ln:∀(g:HN) (e w:Nat),eF (.a e 5 w) D g=.ok (II (N u)) g:=by
  intro g e w;rcases o2 with⟨rfl,rfl|⟨b,-,rfl⟩⟩|⟨b,-,-,rfl,-⟩
  .have:N u=0:=s.s
   rw[this];rfl
  .have:N u=0:=s.s
   rw[this];rfl
  .rw[ov,nD,ae (by omega),s]
 have cy:dZ D=some [D]:=by
  rcases o2 with⟨_,rfl|⟨b,-,rfl⟩⟩|⟨b,-,-,rfl,-⟩<;>rfl
 refine S2 d0 cy ?_;rw[<-I];refine S1 ln ?_;let⟨I,hI⟩:=inv λm a1 q=>∃(i:Nat) (o:L (L AV)),m=N u-i/\i<=N u/\(a1 1=.p d.h 0/\a1 2=.p (d.h+1) 0/\a1 10=II (N u)/\a1 11=II i)/\q.f d.h=f.f d.h/\q.f (d.h+1)=f.f (d.h+1)/\ai d.h d q/\f.h<=q.h/\N o=N u/\(∀l∈o,N l=5)/\(∀b,D=.a b 0 (N H) (.B 5)->H≠[]->q.f b=LL o.flatten)/\cw (λc=>f.h<=c) q (u.take i) (o.take i)/\o.drop i=H.drop i;refine aT I (N u) ((hI _ _ _).2 ⟨0,H,R,aJ _,dy,R,R,E3,ak _,s,V,?_,by rw[gO,gO];unfold cw;rfl,R⟩) ?_
 .intro b hb a4;rcases o2 with⟨e,_⟩|⟨b',g1,g2,g3,g4,_⟩
  .exact absurd e a4
  .rw[hb] at g3;cases g3;exact(C _ Y).t g4
 intro m a1 q g;let⟨i,o,_,g,⟨p1,p2,K,O⟩,Uu,b1,Ez,m,hL,v,hb,rz,hd⟩:=(hI _ _ _).1 g;rw[f0] at Uu;by_cases x:i<N u
 .let⟨a3,ri⟩:=pf a0 i x;obtain⟨b,g1,g2,rfl,g4,g5⟩:=o2.resolve_left (λg=>by have:=dv List.length g.1;have:N H=0:=this;omega);have m:=hb b R g5;have B:i<N o:=Y;have p:o[i]=H[i]:=by
   have:=dv (λl=>l[0]?) hd
   simpa [mG,bM B,bM a3] using this
  have r:=jZ o v;have g:=oV o i v B;rw[p] at g;let⟨_,_,_,_,_,p⟩:=cJ ri;rw[p] at g ri;have p:i*5+5<=N o.flatten:=by rw[r];omega
  refine S7 p1 K O Uu m g s ?_;refine bL (ih _ (aU x) (F _ (aU x)) q _ _ (rp ri Ez) λz' t r4 P=>?_);have n4:=P.1;have g:b<q.h:=Y;have b4:=(P.2 _ (by omega:d.h<q.h)).t Uu;have a2:=(P.2 _ g).t m;obtain⟨W,Z,C,k4,k5,rfl⟩:=cJ r4;have g:=MP (s:=5) (r:=[W,Z,C,k4,k5]) R o i v B;refine S6 O Uu b4 a2 s g ?_;have g:b≠d.h:=Y;refine⟨N u-(i+1),Y,(hI _ _ _).2 ⟨i+1,o.set i [W,Z,C,k4,k5],R,x,⟨dx p1,dx p2,dx K,R⟩,?_,?_,?_,?_,by rw[jk];exact hL,?_,?_,?_,?_⟩⟩
  .rw[f0];exact(ac (Ne.symm g)).t b4
  .exact(ac Y).t ((P.2 _ Y).t b1)
  .exact cO (aM Ez P) Y
  .show f.h<=t.h;omega
  .intro l g;rcases ZY g with h|h
   .exact v l h
   .rw[h];rfl
  .intro b' e _;cases e;exact ae R
  .rw[dt x,dt (by rw[jk];exact B),Oa,Iz (ak _)];have e:∀c,c≠b->c<t.h->(t.put b (LL (o.set i [W,Z,C,k4,k5]).flatten)).f c=t.f c:=λc j _=>ac j;refine zi (sa (U:=q) (e:=t.put b (LL (o.set i [W,Z,C,k4,k5]).flatten)) (F:=λc=>f.h<=c) (λc j hn=>(e c (by have j:f.h<=c:=j;omega) Y).t (P.2 c hn)) n4 (λ_ h=>h) _ _ rz) ?_;exact gq (U:=t) (e:=t.put b (LL (o.set i [W,Z,C,k4,k5]).flatten)) (F:=λc=>q.h<=c) (λc j hn=>e c (by have j:q.h<=c:=j;omega) hn) (ak _) (λc j=>by have j:=j;show f.h<=c;omega) _ _ r4
  .rw[NY (bJ _)]
   have:=dv (List.drop 1) hd
   rw[oH,oH] at this;exact this
 .obtain rfl:i=N u:=Y;refine S7 p1 p2 K O Uu b1 f1 ?_;rw[iM (ak _),iM (by omega)] at rz;refine k _ _ ?_ (cO Ez Y);have e:=sa (U:=q) (e:=q.put (d.h+1) (LL [op,nm,n,a,D])) (F:=λc=>f.h<=c) (λc j hn=>ac (by have j:f.h<=c:=j;omega)) (ak _) (λc j=>by have j:=j;show d.h<=c;omega) _ _ rz;unfold bn;refine⟨D,R,?_,o,?_,e⟩
  .intro c j;rcases o2 with⟨_,rfl|⟨b,g1,rfl⟩⟩|⟨b,g1,_,rfl,_⟩
   .exact j.elim
   .have j:b=c:=j;show d.h<=c;omega
   .have j:b=c:=j;show d.h<=c;omega
  .rcases o2 with⟨h0,h⟩|⟨b,g1,g2,rfl,g4,g5⟩
   .have:o=[]:=ff (by rw[hL,<-s,h0];rfl)
    rw[this];rcases h with rfl|⟨b,_,rfl⟩
    .exact .inl ⟨R,.inl R⟩
    .exact .inl ⟨R,.inr ⟨_,_,_,R⟩⟩
   .rw[show N H=N o by omega];refine aK.bT o (f:=false) ?_ (by show b<q.h;omega) v;exact(ac Y).t (hb b R g5)
end
end Go.Proofs.YtehahhggpdhieaaGreatDoor
