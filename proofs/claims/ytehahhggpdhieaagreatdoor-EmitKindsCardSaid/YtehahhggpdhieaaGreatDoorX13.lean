/- Lemmas of the walk of EmitKinds are proved. Conditions: none. -/
import Derived.Test.YtehahhggpdhieaaGreatDoorX12
namespace Go.Proofs.YtehahhggpdhieaaGreatDoor
set_option maxRecDepth 100000
set_option maxHeartbeats 32000000
set_option linter.all false
section
open Tryz
variable {y:AV}{g:AV->HN->Prop}{d:HN}{i k:Nat}
def zG{l:L Vr}(h:aK 5 d y (l.map Vr.cells)){i:Nat}(o:i<N l):
  ∃b a e f c,y=.a b a (N l) e/\d.f b=.E f c/\b<d.h/\a+i*5+5<=N c/\(c.drop (a+i*5)).take 5=l[i].cells:=by
 let⟨b,a,e,f,c,g,j,k,m,n⟩:=h.at (i:=i) (by simpa using o);rw[aC] at g;exact⟨b,a,e,f,c,g,j,k,m,by rw[n,kM]⟩
def qD{b:Type}{l:L b}{n:Nat}{a:L b}(h:(l.drop n).take k=a)(c:i<k)(b:i<N a):l[n+i]?=some a[i]:=by
 have:((l.drop n).take k)[i]?=a[i]?:=by rw[h]
 rw[qG,ae c,mG,bM b] at this;exact this
def I8{l:L Vr}(F:vq l)(C:aK 5 d y (l.map Vr.cells))(k:∀x h,aH 5 d.h h x (N l) (l.map Vr.cells).flatten->ai d.h d h->g x h):
  ∃v h,aq Tryz.prog 27 [y] d v h/\g v h:=by
 have h:=F.1;refine cf V6 func27 ?_;refine S0 ?_;let⟨I,p⟩:=inv λm h a=>∃i x,m=N l-i/\i<=N l/\(h 0=y/\h 2=.e/\h 3=x/\h 4=II i)/\aH 5 d.h a x i ((l.take i).map Vr.cells).flatten/\ai d.h d a;refine aT I (N l) ((p _ _ _).2 ⟨0,.e,R,aJ _,dy,.nil,.refl _ _⟩) ?_;intro m h a h;let⟨i,x,m,h,⟨r,H,B,s⟩,o,Ex⟩:=(p _ _ _).1 h;have z:=λe=>(C.ext (f:=0) Ex).len (a:=e) (f:=56) (e:=a) (by rw[aC];omega);rw[aC] at z;have h:=Ex.1;by_cases j:i<N l
 .obtain⟨b,off,cap,h,row,rfl,D,q,h,f⟩:=zG C j;have h:=(Ex.2 b q).t D;obtain⟨v,u⟩:∃v,v=l[i]:=⟨_,R⟩;rw[<-u] at f;have b:row[off+i*5]?=some (.s v.n.1 v.n.2):=qD (i:=0) f dc (gf R);have m:row[off+i*5+1]?=some (II v.z):=qD (i:=1) f dc (gf R);have q:row[off+i*5+2]?=some (.s v.p.1 v.p.2):=qD (i:=2) f dc (gf R);have C:row[off+i*5+3]?=some (.l v.t):=qD (i:=3) f dc (gf R);have D:row[off+i*5+4]?=some (II v.a):=qD (i:=4) f dc (gf R);simp(disch:=omega)only[go_sem,r,B,s,h,b,m,q,C,D,fp,ft,bF];have w:∀c,c≠a.h+27->(((a.at_ (a.h+27)).X (LL [v.n,v.z,v.p,v.t,v.a])).at_ (a.h+30)).f c=a.f c:=λc n=>ac n;have K:(((a.at_ (a.h+27)).X (LL [v.n,v.z,v.p,v.t,v.a])).at_ (a.h+30)).f (a.h+27)=LL [v.n,v.z,v.p,v.t,v.a]:=ae R;have b:(((a.at_ (a.h+27)).X (LL [v.n,v.z,v.p,v.t,v.a])).at_ (a.h+30)).h=a.h+30:=R;generalize ((a.at_ (a.h+27)).X (LL [v.n,v.z,v.p,v.t,v.a])).at_ (a.h+30)=t at*;have b:=dK o (λc _ n=>w c Y) Y;have h:cD 5 t (.a (a.h+27) 0 1 (.k 1)) 1 v.cells:=.inr ⟨a.h+27,0,_,false,_,R,K,Y,ak _,R,R⟩;have f:∀c,ar x c->d.h<=c/\c<a.h:=λc n=>cz o n;refine CE dc b h dc Y Y λa b a a=>?_;refine S1 s ?_;refine⟨N l-(i+1),Y,(p _ _ _).2 ⟨i+1,_,R,j,⟨dx r,dx H,R,R⟩,?_,⟨Y,λc n=>(a c Y (λa=>om (f _ a))).t ((w c Y).t (Ex.2 c n))⟩⟩⟩;have e:((l.take (i+1)).map Vr.cells).flatten=((l.take i).map Vr.cells).flatten++v.cells:=by
   rw[dt j,cM,iL,oI,oW,u]
  rw[e];exact b
 .obtain rfl:i=N l:=Y;rw[hU] at o;refine S4 r B s z ?_;exact k _ _ o Ex
variable {e:HN}{m:L (L AV)}{l:L Nd}{s:Nat}
def ajc{b:Type}{l:L b}{n m:Nat}{a:L b}(h:(l.drop n).take k=a)(b:i+m<=k):(l.drop (n+i)).take m=(a.drop i).take m:=by
 rw[<-h,Im,oH,vP,xH (by omega)]
def bI{v:AV}(r:aK s d v m){n:Nat}(b:N m=n)(h:n<=9223372036854775807)(a w:Nat):eF (.a a s w) v e=.ok (II n) e:=by
 subst b;exact r.len (e:=e) h
def LS{l:L Vr}(r:aK 5 d y (l.map Vr.cells))(x:ai d.h d e):aK 5 e y (l.map Vr.cells):=r.ext (f:=0) x
def aa8(ok:ow l){v:AV}(rv:aK 6 d v m)(rl:fZ tt d l m)
  (k:∀x U' z,aH 6 d.h U' x (N z) z.flatten->fZ tt U' l z->ai d.h d U'->g x U'):∃I U',aq Tryz.prog 10 [v] d I U'/\g I U':=by
 let⟨I,c2⟩:=ok;have b7:=(pm rl).1;refine cf Vz func10 ?_;refine S0 ?_;let⟨I,hI⟩:=inv λa7 a0 r=>∃i x z,a7=N l-i/\i<=N l/\(a0 0=v/\a0 3=x/\a0 4=II i)/\aH 6 d.h r x (N z) z.flatten/\fZ (λb=>d.h<=b/\b<r.h/\¬ar x b) r (l.take i) z/\ai d.h d r;refine aT I (N l) ((hI _ _ _).2 ⟨0,.e,[],R,aJ _,dy,.nil,R,.refl _ _⟩) ?_;intro a7 a0 r I;let⟨i,x,z,hm,I,⟨p0,p3,p4⟩,ox,rx,Ex⟩:=(hI _ _ _).1 I;have I:=Ex.1;have ln:=λe w=>bI (e:=r) rv b7 Y e w;have tl:N (l.take i)=i:=by rw[dW];omega
 have I:N z=i:=by rw[(pm rx).1,tl]
 by_cases a3:i<N l
 .let⟨H,ri⟩:=ph rl i a3;obtain⟨b,off,cap,I,row,rfl,hb,b0,I,D⟩:=rv.at H;have H:=c2 _ (aU a3);obtain⟨s,hd⟩:∃s,s=l[i]:=⟨_,R⟩;rw[<-hd] at ri H;let⟨_,I,b8,b9,c3,c1⟩:=H;obtain⟨y1,y2,y3,y4,H,-,r1,r2,r3,qs,r4,r5⟩:=ri;rw[H] at D;have H:r.f b=_:=(Ex.2 b b0).t hb;have g0:row[off+i*6]?=some (.s s.n.1 s.n.2):=qD (i:=0) D dc (gf R);have g1:row[off+i*6+1]?=some y1:=qD (i:=1) D dc (gf R);have g2:row[off+i*6+2]?=some y2:=qD (i:=2) D dc (gf R);have g3:row[off+i*6+3]?=some y3:=qD (i:=3) D dc (gf R);have g4:row[off+i*6+4]?=some y4:=qD (i:=4) D dc (gf R);have g5:row[off+i*6+5]?=some (II s.a):=qD (i:=5) D dc (gf R);have gy:∀j y,row[off+i*6+j]?=some y->row.getD (off+i*6+j) bp=y:=λj y e=>by rw[cA,e];rfl
  refine S5 p0 p4 H g0 g1 ?_;have D:ai d.h d (r.at_ (r.h+31)):=⟨by show d.h<=r.h+31;omega,Ex.2⟩;refine bL (I8 I (LS r1 D) λx1 K o1 D=>?_);have I:r.h+31<=K.h:=D.1;have I:∀c,c<r.h+31->K.f c=r.f c:=D.2;have b1:K.f b=_:=(I _ Y).t H;have D:ai d.h d K:=⟨Y,λc f=>(I c Y).t (Ex.2 c f)⟩;refine S4 p0 p4 b1 g2 ?_;refine bL (I8 b8 (LS r2 D) λx2 O o2 E2=>?_);have D:K.h<=O.h:=E2.1;have k2:∀c,c<r.h+31->O.f c=r.f c:=λc f=>(E2.2 c Y).t (I c f);have I:O.f b=_:=(k2 _ Y).t H;have D:ai d.h d O:=⟨Y,λc f=>(k2 c Y).t (Ex.2 c f)⟩;refine S4 p0 p4 I g3 ?_;refine bL (I8 b9 (LS r3 D) λx3 o o3 E3=>?_);have D:O.h<=o.h:=E3.1;have k3:∀c,c<r.h+31->o.f c=r.f c:=λc f=>(E3.2 c Y).t (k2 c f);have D:o.f b=_:=(k3 _ Y).t H;simp(disch:=omega)only[go_sem,p0,p4,H,b1,I,D,g0,g2,g3,g5,A9 o1,A9 o2,A9 o3];have D:r.h+31<=o.h:=Y;have lq:=(lS r5).1;let⟨J,hJ⟩:=inv λa7 a0 a=>∃j y B,a7=N s.r-j/\j<=N s.r/\(a0 0=.a b off (N m) cap/\a0 3=x/\a0 4=II i/\a0 5=.p (r.h+29) 0/\a0 6=II j)/\a.f (r.h+29)=LL [s.n,x1,x2,x3,y,s.a]/\
    aH 7 o.h a y (N B) B.flatten/\mU (λc=>o.h<=c/\c<a.h/\¬ar y c) a (s.r.take j) B/\(∀c,c<o.h->c≠r.h+29->a.f c=o.f c)/\o.h<=a.h
  refine aT J (N s.r) ((hJ _ _ _).2 ⟨0,.e,[],R,aJ _,⟨dx p0,dx p3,dx p4,R,R⟩,ae R,.nil,R,λc C u=>(ac u).t (ac u),ak _⟩) ?_;intro D D a D;let⟨j,y,B,_,D,⟨s0,s3,s4,s5,s6⟩,cj,oj,rj,kj,I⟩:=(hJ _ _ _).1 D;have kz:∀c,c<r.h+31->c≠r.h+29->a.f c=r.f c:=λc C u=>(kj c Y u).t (k3 c C);have bj:a.f b=_:=(kz _ Y Y).t H;have lj:=λe w=>bI (e:=a) r4 lq Y e w;have w:N (s.r.take j)=j:=by rw[dW];omega
  have e:N B=j:=by rw[(lS rj).1,w]
  have e:=gy 4 _ g4;by_cases a2:j<N s.r
  .let⟨b5,e⟩:=sh r5 j a2;have a6:=c1 _ (aU a2);obtain⟨q,hq⟩:∃q,q=s.r[j]:=⟨_,R⟩;rw[<-hq] at e a6;let⟨w,a8,re⟩:=e;have e:=fN re;obtain⟨b4,Uu,e,e,V,rfl,a9,a5,e,F⟩:=r4.at b5;rw[a8] at F;obtain⟨f1,f2,f3,f4,f5,rfl⟩:=cJ re;have a1:a.f b4=_:=((kz _ Y Y).t (Ex.2 b4 a5)).t a9;have w0:V[Uu+j*7]?=some (.s q.n.1 q.n.2):=qD (i:=0) F dc (gf R);have w6:V[Uu+j*7+6]?=some (II q.a):=qD (i:=6) F dc (gf R);have e:(V.drop (Uu+j*7+1)).take 5=[.s f1.1 f1.2,.s f2.1 f2.2,II f3,II f4,f5]:=ajc F dc;simp(disch:=omega)only[go_sem,s0,s4,s5,s6,cj,bj,g4,lj,a1,w0,e];have e:ai d.h d (a.at_ (a.h+35)):=⟨by show d.h<=a.h+35;omega,λc f=>(kz c Y Y).t (Ex.2 c f)⟩;refine bL (aa7 q.e a6.2 _ _ _ (gq (iS e) e.1 (λ_ h=>h) _ _ re) λe p r6 e=>?_);have w:a.h+35<=p.h:=e.1;have k6:∀c,c<a.h+35->p.f c=a.f c:=e.2;have b6:p.f b=_:=(k6 _ Y).t bj;have a4:p.f b4=_:=(k6 _ Y).t a1;have c6:p.f (r.h+29)=_:=(k6 _ Y).t cj;obtain⟨C,u,h3,h4,h5,rfl⟩:=cJ r6;refine S7 s0 s4 s6 g4 w6 b6 a4 ?_;have kH:∀c,c≠a.h+31->(((p.at_ (a.h+31)).X (LL [q.n,C,u,h3,h4,h5,q.a])).at_ p.h).f c=p.f c:=λc f=>ac f;have wH:(((p.at_ (a.h+31)).X (LL [q.n,C,u,h3,h4,h5,q.a])).at_ p.h).f (a.h+31)=(LL [q.n,C,u,h3,h4,h5,q.a]):=ae R;have e:(((p.at_ (a.h+31)).X (LL [q.n,C,u,h3,h4,h5,q.a])).at_ p.h).h=p.h:=R;generalize ((p.at_ (a.h+31)).X (LL [q.n,C,u,h3,h4,h5,q.a])).at_ p.h=P at*;have e:aH 7 o.h P y (N B) B.flatten:=dK oj (λc _ f=>(kH c Y).t (k6 c Y)) Y;have w:cD 7 P (.a (a.h+31) 0 1 (.k 1)) 1 [q.n,C,u,h3,h4,h5,q.a]:=.inr ⟨a.h+31,0,_,false,_,R,wH,Y,ak _,R,R⟩;have Z:∀c,ar y c->o.h<=c/\c<a.h:=λc f=>cz oj f;refine CE dc e w dc Y Y λn o9 n9 W=>?_;have e:∀c,c<a.h->¬ar y c->n.f c=a.f c:=λc f hx=>(W c Y hx).t ((kH c Y).t (k6 c Y));have w:n.f (r.h+29)=_:=(e _ Y (λt=>om (Z _ t))).t cj;have D:n.f b=_:=(e _ Y (λt=>om (Z _ t))).t bj;have F:n.f b4=_:=(e _ Y (λt=>om (Z _ t))).t a1;simp(disch:=omega)only[go_sem,s5,s6,cj,bj,g4,a1,w0,w6,b6,a4,c6,w,D,F];refine⟨λh=>absurd h dc,N s.r-(j+1),Y,(hJ _ _ _).2 ⟨j+1,.a P.h 0 (N B+1) (.B 7),B++[[.s q.n.1 q.n.2,.s C.1 C.2,.s u.1 u.2,II h3,II h4,h5,II q.a]],R,a2,⟨dx s0,dx s3,dx s4,dx s5,R⟩,ae R,?_,?_,?_,?_⟩⟩
   .have h:=dK (U':=(n.put (r.h+29) (LL [s.n,x1,x2,x3,.a P.h 0 (N B+1) (.B 7),s.a]))) o9 (λc f _=>ac Y) (ak _);rw[ay,oW];exact h
   .rw[dt a2,<-hq];refine DP ⟨[C,u,h3,h4,h5],R,?_⟩ (pp (F:=λc=>o.h<=c/\c<a.h/\¬ar y c) (U:=a) (λc q f=>(ac (om q.1)).t (e c f q.2.2)) (by show a.h<=n.h;omega) (λc q=>⟨q.1,by show c<n.h;have:=q.2.1;omega,λt=>by have t:P.h=c:=t;have:=q.2.1;omega⟩) rj);exact gq (U:=p) (λc q f=>(ac (by have C:a.h+35<=c:=q.1;omega)).t ((W c Y (λt=>by have:=Z _ t;have C:a.h+35<=c:=q.1;omega)).t (kH c (by have C:a.h+35<=c:=q.1;omega)))) (by show p.h<=n.h;omega)
     (λc q=>⟨by have C:a.h+35<=c:=q.1;omega,by show c<n.h;have:=q.2;omega,λt=>by have t:P.h=c:=t;have:=q.2;omega⟩) _ _ r6
   .exact λc C u=>(ac u).t ((e c Y (λt=>om (Z _ t))).t (kj c C u))
   .show o.h<=n.h;omega
  .obtain rfl:j=N s.r:=Y;rw[hU] at rj;simp(disch:=omega)only[go_sem,s0,s3,s4,s5,s6,cj,bj,g4,lj,fp,ft,bF];have e:aH 6 d.h (a.X (LL [s.n,x1,x2,x3,y,s.a])) x (N z) z.flatten:=dK ox (λc C u=>(ac Y).t (kz c Y Y)) (by show r.h<=a.h+1;omega);have Z:∀c,ar x c->d.h<=c/\c<r.h:=λc f=>cz ox f;refine tm dc e (cD.lits (s:=6) (n:=1) R) dc Y (by show d.h<=a.h+1;omega) λn o9 n9 W=>?_;have n9:n.h=a.h+1+1:=n9;have W:∀c,c<a.h->¬ar x c->n.f c=a.f c:=λc f hx=>(W c (by show c<a.h+1;omega) hx).t (ac Y);refine S1 s4 ?_;have e:∀c,r.h+31<=c->c<o.h->n.f c=o.f c:=λc C u=>(W c Y (λt=>om (Z _ t))).t (kj c u Y);have h:aH 5 (r.h+31) n x1 (N s.ins) (s.ins.map Vr.cells).flatten:=dK o1 (λc C u=>(e c C Y).t ((E3.2 c Y).t (E2.2 c u))) Y;have j:aH 5 K.h n x2 (N s.o) (s.o.map Vr.cells).flatten:=dK o2 (λc C u=>(e c Y Y).t (E3.2 c u)) Y;have p:aH 5 O.h n x3 (N s.ao) (s.ao.map Vr.cells).flatten:=dK o3 (λc C u=>e c Y u) Y;have w:aH 7 o.h n y (N B) B.flatten:=dK oj (λc C u=>W c u (λt=>om (Z _ t))) Y;refine⟨N l-(i+1),Y,(hI _ _ _).2 ⟨i+1,_,z++[[.s s.n.1 s.n.2,x1,x2,x3,y,II s.a]],R,a3,⟨dx s0,R,R⟩,?_,?_,?_⟩⟩
   .rw[ay,oW];exact o9
   .rw[dt a3,<-hd];refine Hk ?_ (iJ (F:=λb=>d.h<=b/\b<r.h/\¬ar x b) (U:=r) (λc q f=>(W c Y q.2.2).t (kz c Y (om q.2.1))) Y (λc q=>⟨q.1,om q.2.1,λt=>by have t:a.h+1=c:=t;have:=q.2.1;omega⟩) rx);have s:=VS.of h;have V2:=VS.of j;have h:=VS.of p;have b:∀e c,r.h+31<=e->e<=c->c<a.h->d.h<=c/\c<n.h/\¬ar (.a (a.h+1) 0 (N z+1) (.B 6)) c:=λe c C u h3=>⟨Y,Y,λt=>by have t:a.h+1=c:=t;omega⟩;exact⟨x1,x2,x3,y,R,⟨λc f=>b _ c (ak _) (cz o1 f).1 (om ((cz o1 f).2)),λc f=>b _ c Y (cz o2 f).1 (om ((cz o2 f).2)),λc f=>b _ c Y (cz o3 f).1 (om ((cz o3 f).2)),λc f=>b _ c Y (cz oj f).1 (cz oj f).2⟩,s.2,V2.2,h.2,B,oz w (lS rj).2,pp (F:=λc=>o.h<=c/\c<a.h/\¬ar y c) (U:=a) (λc q f=>W c f (λt=>by have:=Z _ t;have:=q.1;omega)) Y (λc q=>b _ c Y q.1 q.2.1) rj⟩
   .exact⟨Y,λc f=>(W c Y (λt=>om (Z _ t))).t ((kz c Y Y).t (Ex.2 c f))⟩
 .obtain rfl:i=N l:=Y;rw[hU] at rx;refine S4 p0 p3 p4 ln ?_;exact k _ _ _ ox (iJ (λ_ _ _=>R) (ak _) (λ_ _=>trivial) rx) Ex
def iP(h:L Nd)(s:S)(m:Nat):Bool:=match h.find? (λn=>decide (n.n=s)) with
 |some d=>decide (N d.o=1/\N d.ins=m)
 |none=>false
def adB(h:L Nd)(P:S->Bool)(a b:S)(m:Nat):Bool:=if a=bR\/a=bB\/a=bD then P b else if a=bK then iP h b m else true
mutual
def ady(h:L Nd)(P:S->Bool):Tr->Option Nat
 |.mk op c _ a b=>if adB h P op c (N b) then Ri h P b else some a
def Ri(h:L Nd)(P:S->Bool):L Tr->Option Nat
 |[]=>none
 |k::b=>match ady h P k with|some a=>some a|none=>Ri h P b
end
def yE(b:Nat)(o:Option Nat):Nat×Nat:=match o with|some a=>(b,a)|none=>(0,0)
def dD{a:Type}(p:a->Bool):L a->Nat->Option Nat
 |[],_=>none
 |a::r,i=>if p a then some i else dD p r (i+1)
def gE(o:Option Nat):Nat:=match o with|some a=>a|none=>18446744073709551615
def pL{a:Type}{p:a->Bool}:∀{l:L a} {i j:Nat},dD p l i=some j->i<=j/\j<i+N l/\∃h:j-i<N l,p l[j-i]=true
 |[],_,_,h=>by cases h
 |a::r,i,j,h=>by
  unfold dD at h;by_cases g:p a=true
  .rw[ae g] at h;cases h;refine⟨ak _,by simp,?_⟩;simp only[rH];exact⟨by simp,g⟩
  .rw[ac g] at h;let⟨_,_,_,a⟩:=pL h;refine⟨Y,by simp only[bt];omega,by simp only[bt];omega,?_⟩;have e:j-i=(j-(i+1))+1:=Y;simp only[e,BQ];exact a
def wG{a:Type}(p:a->Bool):∀(l:L a) (i:Nat),(match dD p l i with|some j=>l[j-i]?|none=>none)=l.find? p
 |[],_=>rfl
 |a::r,i=>by
  unfold dD;by_cases g:p a=true
  .rw[ae g,En g];simp
  .rw[ac g,zO (by simpa using g),<-wG p r (i+1)];cases h:dD p r (i+1) with
   |none=>rfl
   |some j=>
    have:=(pL h).1
    show(a::r)[j-i]?=r[j-(i+1)]?
    rw[show j-i=(j-(i+1))+1 by omega];rfl
def AM{a:Type}(p:a->Bool):∀(l:L a) (i:Nat),(dD p l i).isSome=l.any p
 |[],_=>rfl
 |a::r,i=>by
  unfold dD;rw[vL];by_cases g:p a=true
  .rw[ae g,g];rfl
  .rw[ac g,AM p r (i+1),NO.2 g,Em]
def yM{a:Type}{p:a->Bool}{l:L a}(h:i<N l):dD p (l.drop i) i=if p l[i] then some i else dD p (l.drop (i+1)) (i+1):=by
 rw[eJ h];rfl
def Cf(e:HN){a:Type}(l:L a)(d:L (L AV))(p:a->Bool)(f:FuncId)(b:L AV):Prop:=
 ∀c,ai e.h e c->∀i (h:i<N l) (a:i<N d) (Q:AV->HN->Prop),(∀a,ai c.h c a->Q (.l (p l[i])) a)->∃v a,aq Tryz.prog f (.g d[i]::b) c v a/\Q v a
def aeW{a:Type}{l:L a}{v:AV}(D:N m=N l)(t:N l<=4294967296)(y:aK 6 d v m){p:a->Bool}{f:FuncId}{c:L AV}
  (C:Cf d l m p f c) (k:∀a,ai d.h d a->g (II (gE (dD p l 0))) a):∃t a,aq Tryz.prog 143 [v,.func f [] c] d t a/\g t a:=by
 refine c0 func143 ?_;have t:=λa e w=>bI (e:=a) y D Y e w;refine S1 t ?_;let⟨I,n⟩:=inv λt a s=>∃i,t=N l-i/\i<=N l/\(a 0=v/\a 1=.func f [] c/\a 7=II (N l)/\a 8=II i)/\dD p (l.drop i) i=dD p l 0/\ai d.h d s;refine aT I (N l) ((n _ _ _).2 ⟨0,R,aJ _,dy,R,.refl _ _⟩) ?_;intro t a s a;let⟨i,t,a,⟨u,x,q,r⟩,ex,Ex⟩:=(n _ _ _).1 a;by_cases h:i<N l
 .obtain⟨b,off,cap,a,row,rfl,B,o,a,j⟩:=y.at (i:=i) Y;have a:=(Ex.2 b o).t B;refine S6 u x q r a j ?_;refine al (C s Ex i h Y _ λa z=>?_);rw[yM h] at ex;cases e:p l[i] with
  |true=>
   rw[e,ae R] at ex;rw[<-ex] at k;refine S0 ?_;exact k _ (aM Ex z)
  |false=>
   rw[e,ac (by decide)] at ex;refine S1 r ?_;exact⟨N l-(i+1),Y,(n _ _ _).2 ⟨i+1,R,h,⟨dx u,dx x,dx q,R⟩,ex,aM Ex z⟩⟩
 .obtain rfl:i=N l:=Y;rw[fQ] at ex;rw[<-ex] at k;refine S2 q r ?_;exact k _ Ex
end
section
open Tryz renaming prog->tz
open Tryz
variable {x y:AV}{g:AV->HN->Prop}{d:HN}{b f i:Nat}
def xM(d:Nat)(e:HN)(x:AV)(n c:Nat)(l:L AV):Prop:=(x=.e/\n=0/\c=0/\l=[])\/
 ∃b a,d<=b/\b<e.h/\x=.a b 0 c (.B 5)/\e.f b=LL (l++a)/\N l=c*5/\N a=(n-c)*5/\c<=n
def xM.app{n c m:Nat}{l k:L AV}(h:xM f d x n c l)(r:cD 5 d y m k)(v:c+m<=n)(a:n<=68719476736):
  ∃o a,gj 5 56 x y d=.ok o a/\xM f a o n (c+m) (l++k)/\ai f d a:=by
 have e:m=0->k=[]->lI 5 56 x 0 [] d=.ok x d:=λ_ _=>by
  rcases h with⟨rfl,_⟩|⟨b,rest,_,_,rfl,_,_,_,_⟩
  .rfl
  .show(if(c+0)*56<=140737488355328 then _ else _)=_
   rw[ae (by omega)];rfl
 rcases r with⟨rfl,rfl,rfl|⟨a,off,cap,rfl⟩⟩|⟨a,off,cap,a,row,rfl,p,_,q,a,s⟩
 .exact⟨x,d,e R R,by rw[eB];exact h,.refl _ _⟩
 .refine⟨x,d,?_,by rw[eB];exact h,.refl _ _⟩;rw[oR,ae R];exact e R R
 .by_cases i:m=0
  .subst i;obtain rfl:k=[]:=ff Y;refine⟨x,d,?_,by rw[eB];exact h,.refl _ _⟩;rw[oR,ae R];exact e R R
  .rcases h with⟨rfl,rfl,rfl,_⟩|⟨b,rest,j,g,rfl,t,u,a,a⟩
   .omega
   .have e:rest=rest.take (m*5)++rest.drop (m*5):=(mH _ _).s;have a:dz (l++rest) (0+c*5) k=l++(k++rest.drop (m*5)):=by
     have:=Bo (r:=k) l rest 0
     rw[u,nk] at this;rw[gg,this]
     conv=>lhs;rw[e]
     rw[D2 _ _ _ (by rw[dW];omega)]
    refine⟨.a b 0 (c+m) (.B 5),d.put b (LL (l++(k++rest.drop (m*5)))),?_,.inr ⟨b,rest.drop (m*5),j,g,R,?_,?_,?_,v⟩,.put j⟩
    .rw[oR,ac i,p,ui,ae q,s]
     show(if(c+m)*56<=140737488355328 then(if m=0 then _ else we b 0 c 5 m k (d.f b) d) else _)=_
     rw[ae (by omega),ac i,t]
     show(if 0+c*5+m*5<=N (l++rest) then _ else _)=_
     rw[ae (by rw[ay];omega),a]
    .show(if b=b then _ else _)=_
     rw[ae R,dC]
    .rw[ay];omega
    .rw[qH];omega
def acE{C:Spec}{n c m:Nat}{l k:L AV}{e:Option Nat}{i:FN}{g:FN->HN->Prop}(h:xM f d x n c l)(r:cD 5 d y m k)(o:c+m<=n)(p:n<=68719476736)
  (q:∀b a,xM f a b n (c+m) (l++k)->ai f d a->g (be e b i) a):mY C (gj 5 56 x y d) d e g i:=by
 let⟨b,a,e,g,j⟩:=h.app r o p;rw[e];exact q b a g j
def aeh{n:Nat}(a:n<=68719476736)(k:∀x a,xM d.h a x n 0 []->ai d.h d a->g x a):∃v a,aq tz 145 [.e,n] d v a/\g v a:=by
 refine c0 func145 ?_;by_cases b:n=0
 .subst b;refine S0 ?_;exact k _ _ (.inl dy) (.refl _ _)
 .have f:∀(a:HN) (e w:Nat),yt (.a e 5 w) .e a=.ok (II 0) a:=λ_ _ _=>R;have j:∀(a:HN) (e w:Nat),eF (.a e 5 w) .e a=.ok (II 0) a:=λ_ _ _=>R;have l:∀(a:HN) (e w:Nat),mV (.a e 5 w) .e none (some (II 0)) none a=.ok .e a:=λ_ _ _=>R;have i:18446744073709551616%18446744073709551616=0:=R;have c:∀(e:Nat) (a:HN),cr tz e=some (.g [.s 0 0,II 0,.s 0 0,false,II 0])->yc tz (.a e 5 56) (.i .i64) .e (II n) a=.ok (.a a.h 0 n (.B 5)) (a.X (LL (jU n [.s 0 0,II 0,.s 0 0,false,II 0]))):=λe a h=>by
   show(if 5*56=0 then aZ.no else(match cr tz e with|some z=>mm (II n) λn=>if n*56<=140737488355328 then lI 5 56 .e n (jU n (jc z)) a else .no|none=>.no))=_
   rw[ac (by decide),h];dsimp only;rw[aex,ae (by unfold cT;exact gP.2 (show Nat.succ n<=9223372036854775808 by omega)),ae (by omega)]
   show(if n=0 then aZ.ok .e a else if n*56<=140737488355328 then aZ.ok (.a a.h 0 n (.B 5)) (a.X (LL (jU n [.s 0 0,II 0,.s 0 0,false,II 0]))) else aZ.no)=_
   rw[ac b,ae (by omega)]
  have a:(n+18446744073709551616)%18446744073709551616=n:=Y;simp -implicitDefEqProofs (disch:=first|omega|simp only[go_sem]) only[go_sem,f,j,l,i,a,c];refine k _ _ (.inr ⟨d.h,jU n [.s 0 0,II 0,.s 0 0,false,II 0],ak _,bJ _,R,ae R,R,?_,aJ _⟩) (.X (ak _))
  show(List.replicate n _).flatten.length=_
  rw[jZ (s:=5) _ (λx a=>by rw[(List.mem_replicate.1 a).2];rfl),rD,uC]
def Aa(a:HN):L AV->L (L Vr)->Prop
 |[],[]=>True
 |y::c,l::b=>aK 5 a y (l.map Vr.cells)/\Aa a c b
 |_,_=>False
def Aa.at{U:HN}:∀{b:L AV} {a:L (L Vr)},Aa U b a->N b=N a/\∀i (h:i<N b) (c:i<N a),aK 5 U b[i] ((a[i]).map Vr.cells)
 |[],[],_=>⟨R,λi h=>by cases h⟩
 |y::b,l::a,h=>by
  let⟨e,q⟩:=Aa.at h.2;refine⟨dv Nat.succ e,λi a b=>?_⟩;cases i with
  |zero=>exact h.1
  |succ i=>exact q i (by simpa using a) (by simpa using b)
 |[],_::_,h=>h.elim
 |_::_,[],h=>h.elim
def mW(a:L (L Vr)):Nat:=N a.flatten
def Yz{a:L (L Vr)}(h:i<N a):mW (a.take (i+1))=mW (a.take i)+N a[i]:=by
 unfold mW;rw[dt h,nh,ay];simp
def Nn:∀(a:L (L Vr)) (i:Nat),mW (a.take i)<=mW a:=λa i=>by
 conv=>rhs;rw[<-mH i a]
 unfold mW;rw[nh,ay];omega
def Jw{a:L AV}{l:L (L Vr)}{o:Cp}(I:Aa d a l)(V:d.f b=LL a)(F:b<d.h)(e:mW l<=4294967296)(e:N a<=16)
  (k:∀x e,aK 5 e x (l.flatten.map Vr.cells)->(∀c,ar x c->d.h<=c)->ai d.h d e->g x e):∃v e,aq tz 103 [.a b 0 (N a) o] d v e/\g v e:=by
 let⟨P,u⟩:=I.at;refine c0 func103 ?_;refine S0 ?_;let⟨I,D⟩:=inv λm n t=>∃i,m=N a-i/\i<=N a/\(n 0=.a b 0 (N a) o/\n 9=.a b 0 (N a) o/\n 10=II (N a)/\n 11=II i/\n 3=II (mW (l.take i)))/\t=d;refine aT I (N a) ((D _ _ _).2 ⟨0,R,aJ _,dy,R⟩) ?_;intro m n t w;obtain⟨i,e,w,⟨W,Z,p,y,H⟩,rfl⟩:=(D _ _ _).1 w;have e:=Nn l i;by_cases j:i<N a
 .have f:i<N l:=Y;have r:=u i j f;have K:=Yz f;have O:=Nn l (i+1);have v:=λe w=>bI (e:=t) r (n:=N l[i]) (by rw[aC]) Y e w;have z:a.getD i bp=a[i]:=by rw[cA,bM j];rfl
  refine S7 Z p y H V z v ?_;exact⟨N a-(i+1),Y,(D _ _ _).2 ⟨i+1,R,j,⟨dx W,dx Z,dx p,R,by rw[K];rfl⟩,R⟩⟩
 .obtain rfl:i=N a:=Y;rw[P,hU] at H;refine S3 p y H ?_;refine al (aeh Y λy e w v=>?_);refine S1 W ?_;let⟨J,p⟩:=inv λm n e=>∃i x,m=N a-i/\i<=N a/\(n 6=x/\n 25=.a b 0 (N a) o/\n 26=II (N a)/\n 27=II i)/\xM t.h e x (mW l) (mW (l.take i)) ((l.take i).flatten.map Vr.cells).flatten/\ai t.h t e;refine aT J (N a) ((p _ _ _).2 ⟨0,y,R,aJ _,dy,w,v⟩) ?_;intro m m e m;let⟨i,x,_,_,⟨s6,e,q,s⟩,B,Ex⟩:=(p _ _ _).1 m;have n:=(Ex.2 b F).t V;by_cases j:i<N a
  .have f:i<N l:=Y;have r:=(u i j f).ext (f:=0) Ex;have K:=Yz f;have O:=Nn l (i+1);have z:a.getD i bp=a[i]:=by rw[cA,bM j];rfl
   have m:=r.vG;rw[aC] at m;refine S6 s6 e q s n z ?_;refine acE B m Y Y λr m n m=>?_;refine S1 s ?_;refine⟨N a-(i+1),Y,(p _ _ _).2 ⟨i+1,r,R,j,⟨R,dx e,dx q,R⟩,?_,Ex.M m⟩⟩;rw[K,dt f,nh,cM,nh];rw[show[l[i]].flatten=l[i] by simp];exact n
  .obtain rfl:i=N a:=Y;refine S3 s6 q s ?_;rw[P,hU] at B;rcases B with⟨rfl,C,_,_⟩|⟨c,rest,C,h2,rfl,U,e,e,_⟩
   .refine k _ _ ?_ (λ_ h=>h.elim) Ex;exact .inl ⟨by rw[Od];exact ff C,.inl R⟩
   .obtain rfl:rest=[]:=ff Y;rw[eB] at U;refine k _ _ ?_ (λe h=>(show c=e from h)▸C) Ex
    have:=aK.bT (s:=5) (c:=.B 5) _ U h2 (Ee _)
    rw[aC] at this;exact this
def Qz{c:L AV}{h:L (L Vr)}{f:Cp}(l:Aa d c h)(i:d.f b=LL c)(e:b<d.h)(j:mW h<=4294967296)(m:N c<=16)
  (k:∀x a,aK 5 a x (h.flatten.map Vr.cells)->ai d.h d a->g x a):∃v a,aq tz 103 [.a b 0 (N c) f] d v a/\g v a:=by
 exact Jw l i e j m λx a r _ e=>k x a r e
variable {e:HN}{m:L (L AV)}{z:L AV}{l:L Nd}{n:Nd}
def aeX{a:Type}{l:L a}{v:AV}(D:N m=N l)(t:N l<=4294967296)(y:aK 5 d v m){p:a->Bool}{f:FuncId}{c:L AV}
  (C:Cf d l m p f c) (k:∀a,ai d.h d a->g (II (gE (dD p l 0))) a):∃t a,aq tz 160 [v,.func f [] c] d t a/\g t a:=by
 refine c0 func160 ?_;have t:=λa e w=>bI (e:=a) y D Y e w;refine S1 t ?_;let⟨I,n⟩:=inv λt a s=>∃i,t=N l-i/\i<=N l/\(a 0=v/\a 1=.func f [] c/\a 7=II (N l)/\a 8=II i)/\dD p (l.drop i) i=dD p l 0/\ai d.h d s;refine aT I (N l) ((n _ _ _).2 ⟨0,R,aJ _,dy,R,.refl _ _⟩) ?_;intro t a s a;let⟨i,t,a,⟨u,x,q,r⟩,ex,Ex⟩:=(n _ _ _).1 a;by_cases h:i<N l
 .obtain⟨b,off,cap,a,row,rfl,B,o,a,j⟩:=y.at (i:=i) Y;have a:=(Ex.2 b o).t B;refine S6 u x q r a j ?_;refine al (C s Ex i h Y _ λa z=>?_);rw[yM h] at ex;cases e:p l[i] with
  |true=>
   rw[e,ae R] at ex;rw[<-ex] at k;refine S0 ?_;exact k _ (aM Ex z)
  |false=>
   rw[e,ac (by decide)] at ex;refine S1 r ?_;exact⟨N l-(i+1),Y,(n _ _ _).2 ⟨i+1,R,h,⟨dx u,dx x,dx q,R⟩,ex,aM Ex z⟩⟩
 .obtain rfl:i=N l:=Y;rw[fQ] at ex;rw[<-ex] at k;refine S2 q r ?_;exact k _ Ex
def af8{c:Nat}{s:S}(r:dL tt d n z)(b:d.f c=LL [s])(a:c<d.h)(k:∀a,ai d.h d a->g (.l (de (n.n=s))) a):∃v a,aq tz 144 [z,.p c 0] d v a/\g v a:=by
 obtain⟨a,a,a,a,rfl,_⟩:=r;refine c0 func144 ?_;have e:=bz n.n s;simp(disch:=omega)only[go_sem,sV,b,e];exact k _ (ap (.refl _ _))
def ic(r:dL tt d n z)(x:ai d.h d e):dL tt e n z:=se (iS x) x.1 (λ_ h=>h) r
def LP{v:AV}(a:N l<=64)(e:aK 6 d v m)(b:fZ tt d l m)(s:S)
  (k:∀a,ai d.h d a->g (II (gE (dD (λn:Nd=>decide (n.n=s)) l 0))) a):∃c a,aq tz 98 [v,s] d c a/\g c a:=by
 refine c0 func98 ?_;have a:=(pm b).1;have E:ai d.h d (d.X (LL [s])):=ap (.refl _ _);refine S0 ?_;refine al (aeW (l:=l) (m:=m) (p:=λn:Nd=>decide (n.n=s)) a Y (e.ext (f:=0) E) ?_ λa e=>?_)
 .intro a a i h c g k;let⟨_,c⟩:=ph b i h;exact af8 (ic c (aM E a)) ((a.2 _ (bJ _)).t (ae R)) (cW (bJ _) a.1) k
 .refine S0 ?_;exact k _ (aM E e)
abbrev aS:=S×Bool
def cU(s:aS):L AV:=[s.1,s.2]
def am(n:Nd):L Vr:=n.ins++(n.o++n.ao)
def aO(n:Nd)(s:S):Option Vr:=(am n).find? λv=>decide (v.n=s)
def fW(n:Nd):Nat->S->L aS
 |0,_=>[]
 |k+1,s=>match aO n s with
  |some v=>if v.p=(0,0) then[] else(v.p,v.t)::fW n k v.p
  |none=>[]
def aF(n:Nd)(s:S):L aS:=(fW n (N n.ao) s).reverse
abbrev Ck:=L aS×Bool
def cg(k:Ck)(c:L aS):Bool:=k.2||de (k.1=c)
def kE(a:L Ck):Ck×Bool:=match a.find? (λk=>!k.2) with
 |none=>(([],true),true)
 |some k=>((k.1,false),!a.any λb=>!cg b k.1)
def cB(c:L aS)(s:S)(b:Bool):L aS:=c++[(s,b)]
def AB(c:L aS):L Ck->Bool
 |[k]=>cg k c
 |_=>false
def yG(c d:L aS):L Ck->Bool
 |[k,l]=>cg k c&&cg l d
 |_=>false
def df(n:Nd)(b a:S)(d:Nat)(c:L Ck):Ck×Bool:=
 if b=fm\/b=cX then(([],true),true)
 else if b=bR then((aF n a,false),true)
 else if b=bB then((cB (aF n a) a (de (d=0)),false),AB (aF n a) c)
 else if b=bD then((aF n a,false),yG (cB (aF n a) a false) (cB (aF n a) a true) c)
 else kE c
mutual
def fC(n:Nd):Tr->Sum Nat Ck
 |.mk op d b a c=>match fF n c with
  |.inl p=>.inl p
  |.inr c=>if(df n op d b c).2 then .inr (df n op d b c).1 else .inl a
def fF(n:Nd):L Tr->Sum Nat (L Ck)
 |[]=>.inr []
 |k::r=>match fC n k with
  |.inl p=>.inl p
  |.inr c=>match fF n r with
   |.inl p=>.inl p
   |.inr a=>.inr (c::a)
end
def uX(n:Nd):L aX->Option Nat
 |[]=>none
 |q::r=>match fC n q.e with
  |.inl p=>some p
  |.inr c=>if cg c (aF n q.n) then uX n r else some q.a
def Aq:L Nd->Option Nat
 |[]=>none
 |n::r=>match uX n n.r with|some a=>some a|none=>Aq r
def adN{v:Vr}{c:Nat}{s:S}(f:d.f c=LL [s])(a:c<d.h)(k:∀a,ai d.h d a->g (.l (de (v.n=s))) a):∃b a,aq tz 161 [v.cells,.p c 0] d b a/\g b a:=by
 refine c0 func161 ?_;have e:=bz v.n s;have a:v.cells=[.s v.n.1 v.n.2,II v.z,.s v.p.1 v.p.2,.l v.t,II v.a]:=R;rw[a];refine S2 f e ?_;exact k _ (ap (.refl _ _))
def acL(r:dL tt d n z)(o:eG n)(k:∀x a,aK 5 a x ((am n).map Vr.cells)->ai d.h d a->g x a):∃b a,aq tz 159 [z] d b a/\g b a:=by
 obtain⟨f,h,i,s,rfl,-,j,l,m,-⟩:=r;let⟨_,b,c,e,_,a⟩:=o;refine c0 func159 ?_;have p:=j.cells;have q2:=l.cells;have q:=m.cells;have a:sV n.n=.s n.n.1 n.n.2:=R;simp(disch:=omega)only[go_sem,a,p,q2,q,fp,ft,bF];have E:ai d.h d ((d.X (LL [n.n,f,h,i,s,n.a])).X (LL [f,h,i])):=ap (ap (.refl _ _));have a:mW [n.ins,n.o,n.ao]<=4294967296:=by
  have p:=b.1;have b:=c.1;have b:=e.1;unfold mW;simp only[ir,Iq,ay,hN];omega
 refine al (Qz (b:=d.h+1) (c:=[f,h,i]) (h:=[n.ins,n.o,n.ao]) ⟨j.ext (f:=0) E,l.ext (f:=0) E,m.ext (f:=0) E,trivial⟩ (ae R) (bJ _) a (gf R) λx a a b=>?_);have c:[n.ins,n.o,n.ao].flatten=am n:=by simp[am]
 rw[c] at a;refine S0 ?_;exact k _ _ a (aM E b)
def dm:Vr:=⟨(0,0),0,(0,0),false,0⟩
def Cm(d:eG n):N (am n)<=4294967296/\∀v∈am n,A4 v:=by
 let⟨_,a,b,c,_,e⟩:=d;refine⟨?_,λv hv=>?_⟩
 .have e:=a.1;have e:=b.1;have e:=c.1;unfold am;rw[ay,ay];omega
 .rcases bA.1 hv with hv|hv
  .exact a.2 v hv
  .rcases bA.1 hv with hv|hv
   .exact b.2 v hv
   .exact c.2 v hv
def Km(r:dL tt d n z)(H:eG n)(s:S)(k:∀a,ai d.h d a->g (.t [.g ((aO n s).getD dm).cells,.l (aO n s).isSome]) a):∃x a,aq tz 137 [z,s] d x a/\g x a:=by
 let⟨u,a⟩:=Cm H;have a:=Hj r;refine c0 func137 ?_;have P:=r;obtain⟨i,l,m,o,rfl,-⟩:=P;have E:ai d.h d (((d.X (LL [sV n.n,i,l,m,o,n.a])).X (LL [s])).X (LL [.s 0 0,II 0,.s 0 0,false,II 0])):=ap (ap (ap (.refl _ _)));have K:(((d.X (LL [sV n.n,i,l,m,o,n.a])).X (LL [s])).X (LL [.s 0 0,II 0,.s 0 0,false,II 0])).f (d.h+1)=LL [s]:=(ac (by show¬d.h+1=d.h+1+1;omega)).t (ae R);have O:(((d.X (LL [sV n.n,i,l,m,o,n.a])).X (LL [s])).X (LL [.s 0 0,II 0,.s 0 0,false,II 0])).f (d.h+1+1)=LL [.s 0 0,II 0,.s 0 0,false,II 0]:=ae R;have a:(((d.X (LL [sV n.n,i,l,m,o,n.a])).X (LL [s])).X (LL [.s 0 0,II 0,.s 0 0,false,II 0])).h=d.h+3:=R;refine S0 ?_;generalize ((d.X (LL [sV n.n,i,l,m,o,n.a])).X (LL [s])).X (LL [.s 0 0,II 0,.s 0 0,.l false,II 0])=a at*;refine al (acL (ic r E) H λx l I a=>?_);refine S0 ?_;have i:=a.1;have i:l.f (d.h+1)=_:=(a.2 _ Y).t K;refine al (aeX (l:=am n) (p:=λv=>decide (v.n=s)) (by rw[aC]) u I ?_ λp q=>?_)
 .intro l l j m m m m;rw[kM];exact adN ((l.2 _ Y).t i) (om l.1) m
 have h:p.f (d.h+1+1)=_:=(q.2 _ Y).t ((a.2 _ Y).t O);have c:=wG (λv:Vr=>decide (v.n=s)) (am n) 0;have F:=aM (aM E a) q;cases e:dD (λv:Vr=>decide (v.n=s)) (am n) 0 with
 |none=>
  rw[e] at c;have c:none=aO n s:=c;rw[<-c] at k;have t:gE none=18446744073709551615:=R;have yT:fU .i64 18446744073709551615 0=true:=R;simp(disch:=omega)only[go_sem,t,yT,h];exact k _ (cO F Y)
 |some j=>
  let⟨_,D,_⟩:=pL e;have D:j<N (am n):=Y;rw[e] at c;have c:(am n)[j-0]?=aO n s:=c;rw[uC,bM D] at c;rw[<-c] at k;obtain⟨b,off,cap,a,row,rfl,B,y,a,f⟩:=zG I D;have C:p.f b=_:=(q.2 b y).t B;have t:gE (some j)=j:=R;generalize (am n)[j]=w at*;have a:w.cells=[.s w.n.1 w.n.2,II w.z,.s w.p.1 w.p.2,.l w.t,II w.a]:=R;rw[a] at f;refine S4 t h C f ?_;exact k _ (cO F Y)
end
section
open Tryz
variable {y:AV}{g:AV->HN->Prop}{d e:HN}{z:L AV}{c:L aS}{b h i k:Nat}{n:Nd}
def qB(c:L aS):∀l∈c.map cU,N l=2:=λl a=>by
 obtain⟨s,_,rfl⟩:=cN.1 a
 rfl
def dS(a:HN)(y:AV)(c:L aS):Prop:=(y=.e/\c=[])\/∃b,b<a.h/\y=.a b 0 (N c) (.B 2)/\a.f b=LL (c.map cU).flatten
def dS.ext{U:HN}(h:dS U y c)(x:ai U.h U e):dS e y c:=by
 rcases h with h|⟨b,a,d,f⟩
 .exact .inl h
 .exact .inr ⟨b,cW a x.1,d,(x.2 b a).t f⟩
def dS.rd{U:HN}(h:dS U y c):aK 2 U y (c.map cU):=by
 rcases h with⟨rfl,rfl⟩|⟨b,a,rfl,b⟩
 .exact .inl ⟨R,.inl R⟩
 .have:=aK.bT (s:=2) (c:=.B 2) _ b a (qB c)
  rw[aC] at this;exact this
def dS.cells{U:HN}(h:dS U y c):dZ y=some [y]:=h.rd.cells
def iX(c:L aS)(i:Nat):L aS:=(List.range (N c)).map λk=>if k<i\/N c-1-k<i then c.getD (N c-1-k) ((0,0),false) else c.getD k ((0,0),false)
def rA(c:L aS)(i:Nat):N (iX c i)=N c:=by simp[iX]
def BD(h:k<N (iX c i)):(iX c i)[k]=if k<i\/N c-1-k<i then c.getD (N c-1-k) ((0,0),false) else c.getD k ((0,0),false):=by simp[iX]
def ajs(c:L aS):iX c 0=c:=by
 refine NZ (rA c 0) λk a b=>?_;rw[BD a,ac (by omega),cA,bM b];rfl
def ajt(h:N c<=2*i+1):iX c i=c.reverse:=by
 refine NZ (by rw[rA,Ep]) λk a b=>?_;rw[rA] at a;rw[BD (by rw[rA];exact a),List.getElem_reverse];by_cases g:k<i\/N c-1-k<i
 .rw[ae g,cA,bM (by omega)];rfl
 .rw[ac g,cA,bM a]
  have:N c-1-k=k:=Y
  simp only[this];rfl
def aju{j:Nat}(a:i+j+1=N c)(h:i<j)(b:i<N (iX c i))(d:j<N (iX c i)):((iX c i).set i (iX c i)[j]).set j (iX c i)[i]=iX c (i+1):=by
 have a:=BD b;have b:=BD d;rw[ac (by omega)] at a b;generalize (iX c i)[i]=x at a|-;generalize (iX c i)[j]=y at b|-;subst a b;refine NZ (by simp only[jk,rA]) λk a a=>?_;have b:k<N c:=by rw[rA] at a;exact a
 rw[BD a,List.getElem_set,List.getElem_set];by_cases a:j=k
 .subst a;rw[ae R,ae (by omega),show N c-1-j=i by omega]
 .rw[ac a];by_cases a:i=k
  .subst a;rw[ae R,ae (by omega),show N c-1-i=j by omega]
  .rw[ac a,BD (by rw[rA];exact b)];by_cases g:k<i\/N c-1-k<i
   .rw[ae g,ae (by omega)]
   .rw[ac g,ac (by omega)]
def reverse_nil(k:g (.t []) d):∃b a,aq Tryz.prog 138 [.e] d b a/\g b a:=by
 refine cf Mb func138 ?_;have a:fU .i64 0 18446744073709551615=false:=R;refine S0 ?_;refine TE 1 ?_;refine S1 a ?_;exact k
def aig(h:d.f b=LL (c.map cU).flatten)(a:b<d.h)(a:N c<=1073741824)(a:0<N c)
  (k:∀e,e.h=d.h->e.f b=LL (c.reverse.map cU).flatten->(∀a,a≠b->e.f a=d.f a)->g (.t []) e):∃f e,aq Tryz.prog 138 [.a b 0 (N c) (.B 2)] d f e/\g f e:=by
 refine cf Mb func138 ?_;refine S0 ?_;let⟨I,l⟩:=inv λm f e=>∃i j,m=N c-i/\i+j+1=N c/\(f 0=.a b 0 (N c) (.B 2)/\f 2=II i/\f 3=II j)/\e.f b=LL ((iX c i).map cU).flatten/\e.h=d.h/\(∀a,a≠b->e.f a=d.f a);refine aT I (N c) ((l _ _ _).2 ⟨0,N c-1,R,Y,dy,by rw[ajs];exact h,R,λ_ _=>R⟩) ?_;intro m f e e;let⟨i,j,f,h,⟨t,u,v⟩,n,r,q⟩:=(l _ _ _).1 e;by_cases m:i<j
 .have e:i<N ((iX c i).map cU):=by rw[aC,rA];omega
  have f:j<N ((iX c i).map cU):=by rw[aC,rA];omega
  have o:=oV (s:=2) _ i (qB (iX c i)) e;have p:=oV (s:=2) _ j (qB (iX c i)) f;rw[kM] at o p;have e:i<N (iX c i):=by rw[rA];omega
  have f:j<N (iX c i):=by rw[rA];omega
  have s:=aju h m e f;have w:N ((iX c i).map cU).flatten=N c*2:=by rw[jZ _ (qB _),aC,rA]
  have m:∀(T:L aS) (k:Nat) (x:aS),k<N T->dz (T.map cU).flatten (k*2) (cU x)=((T.set k x).map cU).flatten:=λT k x h=>by
   rw[MP (s:=2) (r:=cU x) R (T.map cU) k (qB T) (by rw[aC];exact h),Iu]
  have x:=m (iX c i) i (iX c i)[j] e;have h:=m ((iX c i).set i (iX c i)[j]) j (iX c i)[i] (by rw[jk];exact f);rw[s] at h;have e:N (((iX c i).set i (iX c i)[j]).map cU).flatten=N c*2:=by rw[jZ _ (qB _),aC,jk,rA]
  have f:∀s,N (cU s)=2:=λ_=>R;simp(disch:=omega)only[go_sem,t,u,v,n,o,p,w,e,x,h,f];exact⟨N c-(i+1),Y,(l _ _ _).2 ⟨i+1,j-1,R,Y,⟨dx t,R,R⟩,ae R,r,λa e=>(ac e).t ((ac e).t (q a e))⟩⟩
 .have e:=ajt (c:=c) (i:=i) Y;rw[e] at n;refine S2 u v ?_;exact k _ r n q
def ag0(o:aH 2 h d y (N c) (c.map cU).flatten)(hz:y=.e\/c≠[]):dS d y c:=by
 obtain⟨_,⟨e,q2⟩|⟨b,e,q2,⟨_,a,_⟩|⟨a,f⟩⟩⟩:=o
 .exact .inl ⟨e,ff q2⟩
 .rcases hz with rfl|hz
  .exact .inl ⟨R,ff a⟩
  .exact absurd (ff a) hz
 .exact .inr ⟨b,q2,a,f⟩
def UJ(n:Nd):∀(k:Nat) (s:S),N (fW n k s)<=k
 |0,_=>ak _
 |k+1,s=>by
  unfold fW;split
  .split
   .exact aJ _
   .exact IE (UJ n k _)
  .exact aJ _
def Ao(a:eG n)(s:S):N (aF n s)<=1073741824:=by
 unfold aF;rw[Ep]
 have:=UJ n (N n.ao) s
 have:=a.2.2.2.1.1
 omega
def Du(r:dL tt d n z)(Z:eG n)(s:S)(k:∀y f,dS f y (aF n s)->ai d.h d f->g y f):∃a f,aq Tryz.prog 96 [z,s] d a f/\g a f:=by
 have e:=r;obtain⟨a,b,c,h,rfl,-,-,-,j,-⟩:=e;have e:N n.ao<=1073741824:=Z.2.2.2.1.1;have i:=λf e w=>bI (e:=f) j (n:=N n.ao) (by rw[aC]) Y e w;refine c0 func96 ?_;have E:ai d.h d (d.X (LL [sV n.n,a,b,c,h,n.a])):=ap (.refl _ _);have c0:(d.X (LL [sV n.n,a,b,c,h,n.a])).f d.h=LL [sV n.n,a,b,c,h,n.a]:=ae R;have e:(d.X (LL [sV n.n,a,b,c,h,n.a])).h=d.h+1:=R;refine S1 i ?_;generalize d.X (LL [sV n.n,a,b,c,h,II n.a])=o at*;let⟨I,V⟩:=inv λm a b=>∃i x j t,m=N n.ao-i/\i<=N n.ao/\(a 1=.s t.1 t.2/\a 2=.p d.h 0/\a 5=x/\a 10=II (N n.ao)/\a 11=II i)/\aH 2 o.h b x (N j) (j.map cU).flatten/\(x=.e\/j≠[])/\ai o.h o b/\j++fW n (N n.ao-i) t=fW n (N n.ao) s/\N j<=i;refine aT I (N n.ao) ((V _ _ _).2 ⟨0,.e,[],s,R,aJ _,dy,.nil,.inl R,.refl _ _,R,ak _⟩) ?_;intro m a b a;let⟨i,x,j,t,_,a,⟨p1,p2,y,p,u⟩,O,I,B,e,c⟩:=(V _ _ _).1 a;have nz:=B.1;have W:b.f d.h=_:=(B.2 _ Y).t c0;have P:∀l,aH 2 o.h l x (N j) (j.map cU).flatten->ai o.h o l->j=fW n (N n.ao) s->∃v f,aq Tryz.prog 138 [x] l v f/\dS f x (aF n s)/\ai d.h d f:=by
  intro l c a K;have D:=aM E a;have a:=ag0 c I;rcases a with⟨rfl,rfl⟩|⟨b,m,rfl,H⟩
  .let⟨v,f,q,C⟩:=reverse_nil (d:=l) (g:=λ_ f=>f=l) R;subst C;exact⟨v,_,q,.inl ⟨R,by unfold aF;rw[<-K];rfl⟩,D⟩
  .by_cases a:N j=0
   .obtain rfl:j=[]:=ff a;rcases I with h|h
    .cases h
    .exact absurd R h
   .have a:o.h<=b:=(cz c (b:=b) R).1;let⟨v,f,q,C,U,h4⟩:=aig (d:=l) (g:=λ_ f=>f.h=l.h/\f.f b=LL (j.reverse.map cU).flatten/\(∀a,a≠b->f.f a=l.f a)) H m Y Y (λf a h F=>⟨a,h,F⟩);refine⟨v,f,q,.inr ⟨b,Y,?_,?_⟩,⟨om D.1,λc m=>(h4 c Y).t (D.2 c m)⟩⟩
    .unfold aF;rw[<-K,Ep]
    .unfold aF;rw[<-K];exact U
 have stop:∀l,aH 2 o.h l x (N j) (j.map cU).flatten->ai o.h o l->j=fW n (N n.ao) s->∃v f,aq Tryz.prog 138 [x] l v f/\g x f:=λl a h F=>by
  let⟨v,f,q,C,U⟩:=P l a h F;exact⟨v,f,q,k _ _ C U⟩
 by_cases U:i<N n.ao
 .obtain⟨q,a⟩:∃q,N n.ao-i=q+1:=⟨N n.ao-i-1,Y⟩;rw[a] at e;refine S5 p1 p2 p u W ?_;refine al (Km (ic r (aM E B)) Z t λa h=>?_);have b:=h.1;have b:fW n (q+1) t=match aO n t with|some v=>if v.p=(0,0) then[] else(v.p,v.t)::fW n q v.p|none=>[]:=R
  rw[b] at e;have b:∀w:Vr,w.cells=[.s w.n.1 w.n.2,II w.z,.s w.p.1 w.p.2,.l w.t,II w.a]:=λ_=>R;rw[b];generalize l:(aO n t).getD dm=w;have v:ai a.h a (a.X (LL [w.n,w.z,w.p,w.t,w.a])):=ap (.refl _ _);have P:(a.X (LL [w.n,w.z,w.p,w.t,w.a])).f a.h=LL [w.n,w.z,w.p,w.t,w.a]:=ae R;have b:(a.X (LL [w.n,w.z,w.p,w.t,w.a])).h=a.h+1:=R;refine S0 ?_;generalize a.X (LL [.s w.n.1 w.n.2,II w.z,.s w.p.1 w.p.2,.l w.t,II w.a])=f at*;have b:=aM h v;have W:=O.ext b;have v:ai o.h o f:=B.M (b.mono nz);have F:aI w.p.1 w.p.2 0 0=de (w.p=(0,0)):=bz w.p (0,0);cases H:aO n t with
  |none=>
   rw[H] at e;have e:j++[]=fW n (N n.ao) s:=e;rw[eB] at e;have K:(none:Option Vr).isSome=false:=R;refine S2 y K ?_;let⟨D,h,t,C⟩:=stop _ W v e;refine al ⟨D,h,t,?_⟩;refine S1 y ?_;exact C
  |some b=>
   rw[H] at e l;have l:b=w:=l;subst l;have K:(some b).isSome=true:=R;by_cases l:b.p=(0,0)
   .have e:j++(if b.p=(0,0) then[] else(b.p,b.t)::fW n q b.p)=fW n (N n.ao) s:=e;rw[ae l,eB] at e;rw[aB l] at F;refine S4 y P K F ?_;let⟨D,h,t,C⟩:=stop _ W v e;refine al ⟨D,h,t,?_⟩;refine S1 y ?_;exact C
   .have e:j++(if b.p=(0,0) then[] else(b.p,b.t)::fW n q b.p)=fW n (N n.ao) s:=e;rw[ac l] at e;rw[aA l] at F;refine S4 y P K F ?_;have l:aH 2 o.h (f.X (LL [b.p,b.t])) x (N j) (j.map cU).flatten:=dK W (λc _ m=>ac Y) (iC _);refine tm dc l (cD.lits (s:=2) (n:=1) R) dc Y (by show o.h<=f.h+1;have:=v.1;omega) λl H F w=>?_;have F:l.h=f.h+1+1:=F;have F:∀c,ar x c->o.h<=c:=λc m=>(cz O m).1;have w:∀c,c<f.h->¬ar x c->l.f c=f.f c:=λc m I=>(w c (by show c<f.h+1;omega) I).t (ac Y);have f:l.f a.h=_:=(w _ Y (λa=>om ((cz O a).2))).t P;refine S2 u f ?_;refine⟨N n.ao-(i+1),Y,(V _ _ _).2 ⟨i+1,_,j++[(b.p,b.t)],b.p,R,U,⟨R,dx p2,R,dx p,R⟩,?_,.inr dp,⟨om v.1,λc m=>(w c (om v.1) (λa=>om (F _ a))).t (v.2 c m)⟩,?_,by rw[ay];simp only[bt,hN];omega⟩⟩
    .rw[ay,cM,iL,oI,oW];exact H
    .rw[show N n.ao-(i+1)=q by omega,dC];exact e
 .have:N n.ao-i=0:=Y
  rw[this] at e;have e:j++[]=fW n (N n.ao) s:=e;rw[eB] at e;refine S3 y p u ?_;let⟨D,h,t,C⟩:=stop _ O B e;refine al ⟨D,h,t,?_⟩;refine S1 y ?_;exact C
end
end Go.Proofs.YtehahhggpdhieaaGreatDoor
