/- Lemmas of the walk of EmitKinds are proved. Conditions: none. -/
import Derived.Test.YtehahhggpdhieaaGreatDoorX26
namespace Go.Proofs.YtehahhggpdhieaaGreatDoor
set_option maxRecDepth 100000
set_option maxHeartbeats 32000000
set_option linter.all false
section
open Tryz
variable {p:ES}{d:HN}{u v:L Nat}{c:L aS}{f h i q:Nat}{o:Nat->Nat}
def Nh(a:S->Nat)(b:L aS):∀(l:L aS) (d:ES),bG a (l++b) d=((bG a l d).1++(bG a b (bG a l d).2).1,(bG a b (bG a l d).2).2)
 |[],d=>by rw[dH,xf];rfl
 |c::l,d=>by
  rw[fc,zB a c (l++b),zB a c l];cases c.2 with
  |true=>rw[ae R,ae R,Nh a b l];rfl
  |false=>rw[ac (by decide),ac (by decide),Nh a b l];rfl
def Ni(b:S->Nat):∀(l:L aS) (a:ES),N a.an<=N (bG b l a).2.an
 |[],a=>by rw[xf];exact ak _
 |c::l,a=>by
  rw[zB];split
  .exact bC (vg _ _) (Ni b l (fx 1 a).2)
  .exact Ni b l a
def CP(e:Nat)(l:L (Nat×Option Nat)):N (eQ e l)=bU l:=by
 rw[<-Ge e l (N l) (ak _)];exact Gf _ _ _
def Pu{F:cK}{o2:Nat->Nat}{H:S->Option Nat}{n:ES}{a:HN}(M:ba f q F o2 u v H n a)(T:bh d o a o2){m:AV}{l:L Nat}(B:aH 1 h a m i (l.map iv))(U:∀c,ar m c->o2 c=13)(p:m=.e\/0<i)(t:d.h<=h)(t:h<=a.h)(t:f<=h)(t:i<=900000000000)(res:Nat):
  ∃e t,gj 1 8 m (.a a.h 0 1 (.k 1)) (a.X (LL [II res]))=.ok (.a (a.h+1) 0 (i+1) (.B 1)) e/\ba f q F t u v H n e/\bh d o e t/\aH 1 h e (.a (a.h+1) 0 (i+1) (.B 1)) (i+1) ((l++[res]).map iv)/\t (a.h+1)=13/\
   (∀c,c<a.h->¬ar m c->e.f c=a.f c)/\e.h=a.h+2/\∀c,c<a.h->t c=o2 c:=by
 have E:ai a.h a (a.X (LL [res])):=ap (.refl _ _);have C:∀c,ar m c->h<=c/\c<a.h:=λc j=>cz B j;let⟨e,I,z,n,t⟩:=oS (s:=1) (w:=8) (m:=1) (k:=[iv res]) dc (B.ext E) (y:=.a a.h 0 1 (.k 1)) (sX (ae R) (bJ _) R) dc Y (by show h<=a.h+1;omega);have n:e.h=a.h+1+1:=n;have s:∀c,c<a.h->¬ar m c->e.f c=a.f c:=λc y D=>(t c (by show c<a.h+1;omega) D).t (E.2 c y);have w:∀c,c<a.h->e.f c=a.f c\/eM (a.f c):=λc j=>by
  by_cases k:ar m c
  .obtain⟨O,⟨rfl,-⟩|⟨b,_,_,⟨rfl,m,_⟩|⟨rfl,P⟩⟩⟩:=B
   .exact k.elim
   .rcases p with g|g
    .cases g
    .omega
   .have k:b=c:=k;subst k;rw[P];have b:0<i:=by
     rcases p with g|g
     .cases g
     .exact g
    right;cases l with
    |nil=>simp at O;omega
    |cons x r=>exact(nZ.lA (qp x (r.map iv)) (by intro K;cases K))
  .exact .inl (s c j k)
 have b:∀c,c<a.h->(if c=a.h+1 then 13 else o2 c)=o2 c:=λc j=>ac Y;refine⟨e,λc=>if c=a.h+1 then 13 else o2 c,I,M.fv Y (λc y D=>s c y λk=>om (U c k)) w b (λc j=>?_),T.fv Y (λc j=>s c (om T.h) λk=>om (C c k)) (λc j=>b c (om T.h)),?_,ae R,s,Y,b⟩
 .by_cases e:c=a.h+1
  .exact⟨Y,Y⟩
  .have j:(if c=a.h+1 then 13 else o2 c)≠0:=j;rw[ac e] at j
   have:=M.vp c j
   exact⟨this.1,Y⟩
 .rw[yU];exact z
def Sa{b6:cK}{a:S->Option Nat}(h:ba f q b6 o u v a p d){cy:AV}(e3:dS d cy c)(l:N c<=100000){c5:FuncId}{a9:L AV}{i:aQ}(sm:qe (nB (sg a) c i p))
  (hf:∀(y:cK) (V:Nat->Nat) (x:ES) (l:HN) (I:AV->HN->Prop),ba f q y V u v a x l->bh d o l V->N x.j<=800000000000->(∀v2 o2 t,ba f q v2 o2 u v a {x with j:=x.j++[i]} t->bh l V t o2->fh y v2->(∀b,b<l.h->V b=11->t.f b=l.f b)->I (.t []) t)->∃x r,aq Tryz.prog c5 a9 l x r/\I x r) {g:AV->HN->Prop}
  (k:∀x l r,ba f q x l u v a (nB (sg a) c i p) r->bh d o r l->fh b6 x->(∀b,b<d.h->o b=11->r.f b=d.f b)->g (.t []) r):∃x r,aq Tryz.prog 117 [.p q 0,cy,.func c5 [] a9] d x r/\g x r:=by
 have z:∀(r:HN) (e w:Nat),eF (.a e 2 w) cy r=.ok (.i .i64 (N c)) r:=λr e w=>by
  rcases e3 with⟨rfl,rfl⟩|⟨kb,_,rfl,_⟩
  .rfl
  .rw[ov,nD,ae (by omega)]
 refine cf VD func117 ?_;refine S1 z ?_;have l:=h.base;obtain⟨C,hL⟩:∃C:Nat->L (Nat×Option Nat),∀i,C i=(bG (sg a) (c.take i) p).1:=⟨_,λ_=>R⟩;obtain⟨O,a0⟩:∃O:Nat->L Nat,∀i,O i=(bG (sg a) (c.take i) p).2.an:=⟨_,λ_=>R⟩;have c6:∀i,(bG (sg a) (c.take i) p).2={p with an:=O i}:=λi=>by rw[a0];exact Bu _ _ _
 have x:=sm;obtain⟨z,-,-,l,-,-,-⟩:=x;have z:N (bG (sg a) c p).2.an<=800000000000:=z;have l:N ((bG (sg a) c p).2.j++(eQ (N (bG (sg a) c p).2.j+bU (bG (sg a) c p).1+1) (bG (sg a) c p).1++[i]))<=800000000000:=l;rw[Bu] at l;rw[ay,ay,CP] at l;have l:N p.j+(bU (bG (sg a) c p).1+1)<=800000000000:=l;have b8:∀i,bU (C i)<=bU (bG (sg a) c p).1/\N (O i)<=N (bG (sg a) c p).2.an:=λi=>by
  have e:=Nh (sg a) (c.drop i) (c.take i) p;rw[mH] at e;rw[e,hL,a0,KM];exact⟨Y,Ni _ _ _⟩
 let⟨I,hI⟩:=inv λm a2 U=>∃(j:Nat) (y:cK) (V:Nat->Nat) (P:AV),m=N c-j/\j<=N c/\(a2 0=.p q 0/\a2 2=.func c5 [] a9/\a2 6=P/\a2 12=cy/\a2 13=.i .i64 (N c)/\a2 14=.i .i64 j)/\ba f q y V u v a ⟨O j,p.y,p.s,p.j++eQ 0 (C j),p.l,p.late,p.f⟩ U/\bh d o U V/\fh b6 y/\
  aH 1 d.h U P j ((kX (N p.j) (C j)).map iv)/\(∀c,ar P c->V c=13)/\(P=.e\/0<j)/\(∀b,b<d.h->o b=11->U.f b=d.f b)
 have l:C 0=[]:=by rw[hL,gO,xf]
 have S0:O 0=p.an:=by rw[a0,gO,xf]
 refine aT I (N c) ((hI _ _ _).2 ⟨0,b6,o,.e,R,aJ _,dy,by rw[l,S0];show ba f q b6 o u v a ⟨p.an,p.y,p.s,p.j++[],p.l,p.late,p.f⟩ d;rw[eB];exact h,.refl,.refl b6,by rw[l];exact aH.nil,λ_ F=>F.elim,.inl R,λ_ _ _=>R⟩) ?_;intro m a2 U l;let⟨j,y,V,P,_,x,⟨p0,p2,p6,b2,a4,a5⟩,M1,T1,V1,ox,xo,c4,C1⟩:=(hI _ _ _).1 l;have l:=T1.h;by_cases a1:j<N c
 .have g1:=T1.yu e3;obtain⟨kb,l,rfl,b7⟩:=g1.resolve_left (λF=>by rw[F.2] at a1;exact absurd a1 (nR _));have c2:∀l∈c.map cU,N l=2:=λl hl=>by obtain⟨x,_,rfl⟩:=cN.1 hl;rfl
  have x:=jZ (s:=2) (c.map cU) c2;have l:=oV (s:=2) (c.map cU) j c2 (by rw[aC];exact a1);rw[aC] at x;have l:((c.map cU).flatten.drop (j*2)).take 2=[.s c[j].1.1 c[j].1.2,.l c[j].2]:=by rw[l,kM];rfl
  have s:U.f q=.E false [.s y.n.1 y.n.2,y.d,y.w,y.b,y.e,.i .i64 y.a,y.y 0,y.y 1,y.y 2,y.y 3,y.y 4,y.y 5,.map y.m,.map y.c,y.y 6,y.y 7,y.y 8]:=by
   let⟨_,_,x,_⟩:=M1.W;exact x.D
  have x:=M1.base;obtain⟨W,x⟩:∃W,W=U.X (.E false [.s c[j].1.1 c[j].1.2,.l c[j].2]):=⟨_,R⟩;have EW:ai U.h U W:=by rw[x];exact ap (.refl _ _)
  have w0:W.f U.h=.E false [.s c[j].1.1 c[j].1.2,.l c[j].2]:=by rw[x];exact ae R
  have z:W.h=U.h+1:=by rw[x];rfl
  have MW:=M1.X EW;have I:=λz=>(MW.mM.look c[j].1 false z);refine S7 p0 b2 a4 a5 b7 l s ?_;simp(disch:=omega)only[<-x];simp(disch:=omega)only[go_sem,I,wO,w0];have eT:=Ng (sg a) c[j] (c.take j) p;rw[<-dt a1,c6 j,zB,xf] at eT;cases a6:c[j].2 with
  |true=>
    rw[a6,ae R] at eT;have L1:C (j+1)=C j++[(sg a c[j].1,some (N (O j)))]:=by rw[hL,eT,<-hL]
    have S1:O (j+1)=O j++[1]:=by rw[a0,eT];rfl
    have D:=b8 (j+1);rw[L1,S1,KM,ay] at D;have D:bU (C j)+2<=bU (bG (sg a) c p).1/\N (O j)+1<=N (bG (sg a) c p).2.an:=D;simp(disch:=omega)only[go_sem,p0];refine al (UE MW ⟨by dsimp only;omega,by dsimp only;rw[ay,CP];omega⟩ λv2 o2 t M2 T2 V2 C2=>?_);have M2:ba f q v2 o2 u v a ⟨O j++[1],p.y,p.s,(p.j++eQ 0 (C j))++[⟨6,N (O j),sg a c[j].1,0⟩],p.l,p.late,p.f⟩ t:=M2;have l:(nG (sg a c[j].1) ⟨O j,p.y,p.s,p.j++eQ 0 (C j),p.l,p.late,p.f⟩).1=N (O j):=R;rw[l];refine S2 p0 p6 ?_;refine al (CI (M2.X (ap (.refl _ _))) (uv _ _) (gf R) (n:=N p.j+bU (C j)+1) (by rw[ay,ay,CP];rfl) Y (e:=p.j++eQ 0 (C j++[(sg a c[j].1,some (N (O j)))])) (by rw[R0,dC,dC];rfl) λy4 o4 K M4 a8 a7=>?_);have Z:bh W V K o4:=T2.M ((bh.ext (ap (.refl _ _))).M a8);have C4:∀b,b<W.h->V b=11->K.f b=W.f b:=λb s n=>(a7 b (BY (cW s T2.h)) ((T2.C b s).t n)).t ((ac (om T2.h)).t (C2 b s n));have VV:=V1.M (V2.M (fh.put v2 5 y4));have n4:=Z.h;have H:∀c,ar P c->c<U.h:=λc B=>(cz ox B).2;have b0:aH 1 d.h K P j ((kX (N p.j) (C j)).map iv):=kG ox (λc B=>(Z.same c (om (H c B)) (.inr (by rw[xo c B];decide))).t (EW.2 c (H c B))) Y;have a3:∀c,ar P c->o4 c=13:=λc B=>(Z.C c (om (H c B))).t (xo c B);obtain⟨e2,o5,e5,M5,T5,b1,b5,K5,-,-⟩:=Pu M4 (T1.M ((bh.ext EW).M Z)) b0 a3 c4 (ak _) Y Y Y (N p.j+bU (C j)+1);simp(disch:=omega)only[go_sem,fp,ft,bF];rw[e5];simp(disch:=omega)only[go_sem,a5];refine⟨N c-(j+1),Y,(hI _ _ _).2 ⟨j+1,_,o5,_,R,a1,⟨dx p0,dx p2,R,dx b2,dx a4,R⟩,by rw[S1,L1];exact M5,T5,VV,by rw[L1,He];exact b1,λc B=>by have B:K.h+1=c:=B;rw[<-B];exact b5,.inr (jm _),λb s n=>(K5 b Y λF=>by have h1:=a3 b F;rw[Z.C b (by omega),T1.C b s,n] at h1;cases h1).t ((C4 b Y ((T1.C b s).t n)).t ((EW.2 b Y).t (C1 b s n)))⟩⟩
  |false=>
    rw[a6,ac (by decide),xf] at eT;have L1:C (j+1)=C j++[(sg a c[j].1,none)]:=by rw[hL,eT,<-hL]
    have S1:O (j+1)=O j:=by rw[a0,eT]
    have D:=b8 (j+1);rw[L1,S1,KM] at D;have D:bU (C j)+1<=bU (bG (sg a) c p).1/\N (O j)<=N (bG (sg a) c p).2.an:=D;refine S2 p0 p6 ?_;refine al (CI (MW.X (ap (.refl _ _))) (uv _ _) (gf R) (n:=N p.j+bU (C j)) (by rw[ay,CP]) Y (e:=p.j++eQ 0 (C j++[(sg a c[j].1,none)])) (by rw[R0,dC];rfl) λy4 o4 K M4 a8 a7=>?_);have Z:bh W V K o4:=(bh.ext (ap (.refl _ _))).M a8;have C4:∀b,b<W.h->V b=11->K.f b=W.f b:=λb s n=>(a7 b (BY s) n).t (ac Y);have VV:=V1.M (fh.put y 5 y4);have n4:=Z.h;have H:∀c,ar P c->c<U.h:=λc B=>(cz ox B).2;have b0:aH 1 d.h K P j ((kX (N p.j) (C j)).map iv):=kG ox (λc B=>(Z.same c (om (H c B)) (.inr (by rw[xo c B];decide))).t (EW.2 c (H c B))) Y;have a3:∀c,ar P c->o4 c=13:=λc B=>(Z.C c (om (H c B))).t (xo c B);obtain⟨e2,o5,e5,M5,T5,b1,b5,K5,-,-⟩:=Pu M4 (T1.M ((bh.ext EW).M Z)) b0 a3 c4 (ak _) Y Y Y (N p.j+bU (C j));simp(disch:=omega)only[go_sem,fp,ft,bF];rw[e5];simp(disch:=omega)only[go_sem,a5];refine⟨N c-(j+1),Y,(hI _ _ _).2 ⟨j+1,_,o5,_,R,a1,⟨dx p0,dx p2,R,dx b2,dx a4,R⟩,by rw[S1,L1];exact M5,T5,VV,by rw[L1,He];exact b1,λc B=>by have B:K.h+1=c:=B;rw[<-B];exact b5,.inr (jm _),λb s n=>(K5 b Y λF=>by have h1:=a3 b F;rw[Z.C b (by omega),T1.C b s,n] at h1;cases h1).t ((C4 b Y ((T1.C b s).t n)).t ((EW.2 b Y).t (C1 b s n)))⟩⟩
 .obtain rfl:j=N c:=Y;have LL:C (N c)=(bG (sg a) c p).1:=by rw[hL,iM (ak _)]
  have j:O (N c)=(bG (sg a) c p).2.an:=by rw[a0,iM (ak _)]
  rw[LL,j] at M1;rw[LL] at ox;refine S3 p2 a4 a5 ?_;have j:bU (C (N c))=bU (bG (sg a) c p).1:=by rw[LL]
  have j:N (bG (sg a) c p).1=N c:=Yp _ _ _;have j:nB (sg a) c i p=⟨(bG (sg a) c p).2.an,p.y,p.s,p.j++(eQ (N p.j+bU (bG (sg a) c p).1+1) (bG (sg a) c p).1++[i]),p.l,p.late,p.f⟩:=by
   unfold nB eE;rw[Bu];rfl
  rw[j] at k;refine al (hf y V _ U _ M1 T1 (by dsimp only;rw[ay,CP];omega) λv2 o2 t M2 T2 V2 C2=>?_);generalize (bG (sg a) c p).1=Lf at*;generalize (bG (sg a) c p).2.an=Sf at*;have j:=T2.h;have H:∀b,ar P b->b<U.h:=λb s=>(cz ox s).2;have c1:aH 1 d.h t P (N c) ((kX (N p.j) Lf).map iv):=kG ox (λb s=>T2.same b (H b s) (.inr (by rw[xo b s];decide))) j;have e1:∀b,ar P b->o2 b=13:=λb s=>(T2.C b (H b s)).t (xo b s);have ln:∀(r:HN) (e w:Nat),eF (.a e 1 w) P r=.ok (.i .i64 (N c)) r:=by
   intro r e w;obtain⟨h0,⟨rfl,e0⟩|⟨b,_,_,⟨rfl,e0,_⟩|⟨rfl,_⟩⟩⟩:=c1
   .rw[e0];rfl
   .rw[e0];rfl
   .rw[ov,nD,ae (by omega)]
  obtain⟨e,he⟩:∃e,e=N p.j+bU Lf+1:=⟨_,R⟩;rw[<-he] at k;have M2:ba f q v2 o2 u v a ⟨Sf,p.y,p.s,p.j++(jd e 0 Lf++[i]),p.l,p.late,p.f⟩ t:=by
   rw[Kv,<-dC];exact M2
  refine S2 p6 ln ?_;let⟨J,hJ⟩:=inv λm a2 j=>∃F,m=N c-F/\F<=N c/\(a2 0=.p q 0/\a2 40=P/\a2 41=.i .i64 (N c)/\a2 42=.i .i64 F)/\ba f q v2 o2 u v a ⟨Sf,p.y,p.s,p.j++(jd e F Lf++[i]),p.l,p.late,p.f⟩ j/\bh t o2 j o2/\(∀b,b<t.h->o2 b=11->j.f b=t.f b);refine aT J (N c) ((hJ _ _ _).2 ⟨0,R,aJ _,⟨dx p0,R,R,R⟩,M2,.refl,λ_ _ _=>R⟩) ?_;intro l l j j;let⟨F,_,l,⟨r0,c3,b3,b4⟩,M3,T3,C3⟩:=(hJ _ _ _).1 j;by_cases c8:F<N c
  .obtain⟨sb,rfl,c9,b9⟩:∃sb,P=.a sb 0 (N c) (.B 1)/\t.f sb=.E false ((kX (N p.j) Lf).map iv)/\sb<t.h:=by
    obtain⟨h0,⟨e',e0⟩|⟨b,_,c7,⟨e',e0,_⟩|⟨e',s⟩⟩⟩:=c1
    .omega
    .omega
    .exact⟨b,e',s,c7⟩
   have r:=(T3.same sb b9 (.inr (by rw[e1 sb R];decide))).t c9;let⟨w,t,l,m⟩:=Kw e Lf F (N p.j) Y;have j:((kX (N p.j) Lf).map iv)[F]?=some (.i .i64 (N p.j+w)):=by
    rw[pF,bM (by rw[DI];omega),l];rfl
   have l:N ((kX (N p.j) Lf).map iv)=N c:=by rw[aC,DI];omega
   have l:=Gf e Lf F;refine S6 r0 c3 b3 b4 r j ?_;refine al (Sb M3 p.j (jd e F Lf++[i]) R (i:=w) R (by rw[ay];omega) (n:=e) (by rw[ay,l,he];rfl) Y (y:=p.j++(jd e (F+1) Lf++[i])) ?_ λK M4 Z C4=>?_)
   .rw[Is t,aac _ _ t,m]
   .refine S1 b4 ?_;exact⟨N c-(F+1),Y,(hJ _ _ _).2 ⟨F+1,R,c8,⟨dx r0,dx c3,dx b3,R⟩,M4,T3.M Z,λb s n=>(C4 b (cW s T3.h) n).t (C3 b s n)⟩⟩
  .obtain rfl:F=N c:=Y;refine S2 b3 b4 ?_;rw[Ge e Lf (N c) (by omega)] at M3;exact k _ _ _ M3 (T1.M (T2.M T3)) (V1.M V2) λb s n=>(C3 b Y ((T2.C b Y).t ((T1.C b s).t n))).t ((C2 b Y ((T1.C b s).t n)).t (C1 b s n))
variable {s:Nat}
def ah4{i:cK}{l:S->Option Nat}(h:ba f q i o u v l p d)(w:N p.j<=800000000000){c e m:Nat}{r:L AV}(n:d.f c=LL [.p q 0])(t:d.f e=LL (II m::II s::r)){g:AV->HN->Prop}
  (k:∀y b a,ba f q (i.put 5 y) b u v l {p with j:=p.j++[⟨3,m,s,0⟩]} a->bh d o a b->(∀b,b<d.h->o b=11->a.f b=d.f b)->g (.t []) a):∃j a,aq Tryz.prog 118 [.p c 0,.p e 0] d j a/\g j a:=by
 let⟨_,_,co,_,_,_,a⟩:=p;dsimp only at w;refine c0 func118 ?_;have a:(II m::II s::r:L AV)[0]?=some (II m):=R;have c:(II m::II s::r:L AV)[1]?=some (II s):=R;refine S4 n t a c ?_;refine al (CI (h.X (ap (.refl _ _))) (uv _ _) (gf R) R Y R λa a a a e c=>?_);refine S0 ?_;exact k _ _ _ a ((bh.ext (ap (.refl _ _))).M e) λb e a=>(c b (BY e) a).t (ac Y)
def ah5{j:cK}{n:S->Option Nat}(h:ba f q j o u v n p d)(x:N p.j<=800000000000){c e i m:Nat}{a:AV}(r:d.f c=LL [.p q 0])(t:d.f e=LL [m,a])(w:d.f i=LL [s]){g:AV->HN->Prop}
  (k:∀y b a,ba f q (j.put 5 y) b u v n {p with j:=p.j++[⟨3,m,s,0⟩]} a->bh d o a b->(∀b,b<d.h->o b=11->a.f b=d.f b)->g (.t []) a):∃l a,aq Tryz.prog 119 [.p c 0,.p e 0,.p i 0] d l a/\g l a:=by
 let⟨_,_,co,_,_,_,a⟩:=p;dsimp only at x;refine c0 func119 ?_;refine S3 r t w ?_;refine al (CI (h.X (ap (.refl _ _))) (uv _ _) (gf R) R Y R λa a a a e c=>?_);refine S0 ?_;exact k _ _ _ a ((bh.ext (ap (.refl _ _))).M e) λb e a=>(c b (BY e) a).t (ac Y)
end
section
variable {d:HN}{u v:L Nat}{f h i q:Nat}{o:Nat->Nat}
def Lk(n:Nd)(b:S->Nat)(f i:Nat)(k:L (Nat×Nat×Tm))(a:ES)(h:N a.late<=i):cF n b f i k a=(k,a):=by
 cases f with
 |zero=>unfold cF;rfl
 |succ f=>
  unfold cF;rw[rC h]
def Ll(n:Nd)(b:S->Nat)(f i:Nat)(k:L (Nat×Nat×Tm))(a:ES)(h:i<N a.late):cF n b (f+1) i k a=cF n b f (i+1) (k++[(a.late[i].1,(bu n b a.late[i].2.2 a).1,a.late[i].2.2)]) (bu n b a.late[i].2.2 a).2:=by
 conv=>lhs;unfold cF
 rw[bM h]
def Lj(n:Nd)(b:S->Nat):∀(f i:Nat) (k:L (Nat×Nat×Tm)) (a:ES),iOG a (cF n b f i k a).2
 |0,_,_,a=>by unfold cF;exact .refl _
 |f+1,i,k,a=>by
  by_cases h:i<N a.late
  .rw[Ll _ _ _ _ _ _ h];exact(vt n b _ a).M (Lj n b f _ _ _)
  .rw[Lk _ _ _ _ _ _ (by omega)];exact .refl _
def KD(b:S->Nat):∀(c:L aS) (a:ES),iOG a (bG b c a).2
 |[],a=>by rw[xf];exact .refl _
 |x::c,a=>by
  rw[zB];split
  .exact(AH 1 a).M (KD b c _)
  .exact KD b c a
def R4(b:S->Nat)(c:L aS)(i:aQ)(a:ES):iOG a (nB b c i a):=(KD b c a).M (AG _ _)
def Gv(b:S->Nat):∀(l:L (Nat×Nat×Tm)) (a:ES),iOG a (eD b l a)
 |[],a=>by unfold eD;exact .refl _
 |x::l,a=>by unfold eD;exact(R4 b _ _ a).M (Gv b l _)
def F6(b:S->Nat)(y:Nat):∀(l:L (Nat×L aS)) (a:ES),iOG a (js b y l a)
 |[],a=>by unfold js;exact .refl _
 |x::l,a=>by unfold js;exact(R4 b _ _ a).M (F6 b y l _)
def aei(b:S->Nat)(c:L aS)(i:aQ)(a:ES):(nB b c i a).f=a.f:=by
 unfold nB;rw[Bu];rfl
def SJ(b:S->Nat):∀(l:L (Nat×Nat×Tm)) (a:ES),(eD b l a).f=a.f
 |[],a=>by unfold eD;rfl
 |x::l,a=>by unfold eD;rw[SJ b l,aei]
def jA.at{o:Nat->Nat}{U:HN}:∀{l:L (Nat×Nat×Tm)} {a:L (L AV)},jA o U l a->∀(i:Nat) (h:i<N l),∃(b:i<N a) (z:L AV),a[i]=iv l[i].1::iv l[i].2.1::z/\mJ o U l[i].2.2 z
 |_::_,_,⟨z,r,a,c,d⟩,0,_=>by subst a;exact⟨jm _,z,R,c⟩
 |_::_,_,⟨z,r,a,c,d⟩,i+1,f=>by
  subst a;let⟨b,a,e,t⟩:=jA.at d i (by simpa using f);exact⟨oL b,a,e,t⟩
def jA.len{o:Nat->Nat}{U:HN}:∀{l:L (Nat×Nat×Tm)} {a:L (L AV)},jA o U l a->N a=N l/\∀x∈a,N x=10
 |[],_,h=>by cases h;exact⟨R,λ_ h=>(by cases h)⟩
 |_::_,_,⟨z,r,a,⟨e,b,c,_⟩,d⟩=>by
  subst a;let⟨a,b⟩:=jA.len d;refine⟨by rw[bt,bt,a],λx hx=>?_⟩;rcases bY.1 hx with rfl|hx
  .rw[bt,bt,Xv c]
  .exact b x hx
def kO.at{U:HN}:∀{l:L (Nat×L aS)} {a:L (L AV)},kO U l a->∀(i:Nat) (h:i<N l),∃(b:i<N a) (y:AV),a[i]=[iv l[i].1,y]/\dS U y l[i].2
 |_::_,_,⟨y,r,a,c,d⟩,0,_=>by subst a;exact⟨jm _,y,R,c⟩
 |_::_,_,⟨y,r,a,c,d⟩,i+1,f=>by
  subst a;let⟨b,a,e,t⟩:=kO.at d i (by simpa using f);exact⟨oL b,a,e,t⟩
def kO.len{U:HN}:∀{l:L (Nat×L aS)} {a:L (L AV)},kO U l a->N a=N l/\∀x∈a,N x=2
 |[],_,h=>by cases h;exact⟨R,λ_ h=>(by cases h)⟩
 |_::_,_,⟨y,r,a,b,c⟩=>by
  subst a;let⟨a,b⟩:=kO.len c;refine⟨by rw[bt,bt,a],λx hx=>?_⟩;rcases bY.1 hx with rfl|hx
  .rfl
  .exact b x hx
def aaY{O:cK}{o2:Nat->Nat}{U:S->Option Nat}{x:ES}{a X:HN}(M:ba f q O o2 u v U x a)(T:bh d o a o2){n w:Nat}{m P:AV}{e t:L AV}(r:0<n)(E:ai a.h a X)(hy:cD n X P 1 t)(hr:nZ e)(F:aH n h a m i e)(xo:∀c,ar m c->o2 c=13)(y:m=.e\/0<i)(B:d.h<=h)(B:h<=a.h)(B:f<=h)(Z:(i+1)*w<=140737488355328):
  ∃j B,gj n w m P X=.ok (.a X.h 0 (i+1) (.B n)) j/\ba f q O B u v U x j/\bh d o j B/\aH n h j (.a X.h 0 (i+1) (.B n)) (i+1) (e++t)/\B X.h=13/\
   (∀c,c<a.h->¬ar m c->j.f c=a.f c)/\j.h=X.h+1/\(∀c,c<X.h->B c=o2 c)/\∀c,c<a.h->j.f c=a.f c\/eM (a.f c):=by
 have e:=E.1;have H:∀c,ar m c->h<=c/\c<a.h:=λc k=>cz F k;let⟨j,V,D,n3,e⟩:=oS (w:=w) r (F.ext E) hy dc Z Y;have z:∀c,c<a.h->¬ar m c->j.f c=a.f c:=λc C K=>(e c Y K).t (E.2 c C);have p:∀c,c<a.h->j.f c=a.f c\/eM (a.f c):=λc k=>by
  by_cases l:ar m c
  .obtain⟨I,⟨rfl,-⟩|⟨b,_,_,⟨rfl,a,_⟩|⟨rfl,W⟩⟩⟩:=F
   .exact l.elim
   .rcases y with g|g
    .cases g
    .omega
   .have l:b=c:=l;subst l;rw[W];have s:0<i:=by
     rcases y with g|g
     .cases g
     .exact g
    refine .inr (hr.lA λe=>?_);rw[e] at I
    have:0<i*n:=IC s r
    simp at I;omega
  .exact .inl (z c k l)
 have a:∀c,c<X.h->(if c=X.h then 13 else o2 c)=o2 c:=λc k=>ac Y;refine⟨j,λc=>if c=X.h then 13 else o2 c,V,M.fv Y (λc C K=>z c C λl=>om (xo c l)) p (λc k=>a c Y) (λc k=>?_),T.fv Y (λc k=>z c (om T.h) λl=>om (H c l)) (λc k=>a c (om T.h)),D,ae R,z,n3,a,p⟩;by_cases e:c=X.h
 .exact⟨Y,Y⟩
 .have k:=k;rw[ac e] at k
  have:=M.vp c k
  exact⟨this.1,Y⟩
end
section
variable {y:AV}{g:AV->HN->Prop}{p:ES}{d e:HN}{u v:L Nat}{c:L aS}{b f q:Nat}{o:Nat->Nat}{n:Nd}
def oa(a b:ES):Prop:=∃r,b.late=a.late++r
def oa.refl(a:ES):oa a a:=⟨[],(eB _).s⟩
def oa.of{a b:ES}(h:b.late=a.late):oa a b:=⟨[],by rw[h,eB]⟩
def oa.M{a b c:ES}(h:oa a b)(g:oa b c):oa a c:=by
 let⟨r,h⟩:=h;let⟨d,g⟩:=g;exact⟨r++d,by rw[g,h,dC]⟩
def ahC(n:Nat)(a:ES):oa a (iw n a).2:=by
 unfold iw;split<;>exact .of R
def WI(k n:Nat)(a:ES):oa a (hY k n a).2:=(ahC n a).M (.of R)
def ahE(d:S)(a b:Nat)(c:ES):oa c (pz d a b c).2:=by
 show oa c (if(cI d).2.2 then _ else _:Nat×ES).2;split<;>exact .of R
def ahD(f:S->Nat)(d b:S)(c:L aS)(e:L Nat)(a:ES):oa a (gx f d b c e a).2:=by
 unfold gx;dsimp only;split
 .exact .of R
 split
 .exact .of R
 split
 .exact .refl _
 split
 .exact .of R
 split
 .exact .of R
 split
 .exact .of R
 .exact ahE _ _ _ _
mutual
def L5(n:Nd)(d:S->Nat):∀(t:Tm) (b:ES),oa b (bu n d t b).2
 |.mk op g f a c any e,b=>by
  unfold bu;dsimp only;split
  .exact⟨_,R⟩
  split
  .exact(ahh n d e b).M ⟨_,R⟩
  split
  .exact WI _ _ _
  split
  .exact WI _ _ _
  split
  .exact .refl _
  .exact(Vw n d e b).M (ahD _ _ _ _ _ _)
def ahh(n:Nd)(b:S->Nat):∀(c:L Tm) (a:ES),oa a (lQ n b c a).2
 |[],a=>by unfold lQ;exact .refl _
 |k::_,a=>by unfold lQ;exact L5 n b k a
def Vw(n:Nd)(c:S->Nat):∀(b:L Tm) (a:ES),oa a (cR n c b a).2
 |[],a=>by unfold cR;exact .refl _
 |k::b,a=>by
  unfold cR;exact(L5 n c k a).M (Vw n c b _)
end
def SY(n:Nd)(b:S->Nat):∀(f i:Nat) (k:L (Nat×Nat×Tm)) (a:ES),oa a (cF n b f i k a).2/\∃r,(cF n b f i k a).1=k++r
 |0,_,k,a=>by unfold cF;exact⟨.refl _,[],(eB _).s⟩
 |f+1,i,k,a=>by
  by_cases h:i<N a.late
  .rw[Ll _ _ _ _ _ _ h];let⟨g,r,e⟩:=SY n b f (i+1) (k++[(a.late[i].1,(bu n b a.late[i].2.2 a).1,a.late[i].2.2)]) (bu n b a.late[i].2.2 a).2;exact⟨(L5 n b _ a).M g,_::r,by rw[e,dC];rfl⟩
  .rw[Lk _ _ _ _ _ _ (by omega)];exact⟨.refl _,[],(eB _).s⟩
def SI(b:S->Nat)(x:Nat×Nat×Tm):∀(l:L (Nat×Nat×Tm)) (a:ES),eD b (l++[x]) a=nB b (iu x.2.2) ⟨3,x.1,x.2.1,0⟩ (eD b l a)
 |[],a=>by simp only[dH,eD]
 |y::l,a=>by simp only[fc,eD,SI b x l]
def RN(b:S->Nat)(y:Nat)(x:Nat×L aS):∀(l:L (Nat×L aS)) (a:ES),js b y (l++[x]) a=nB b x.2 ⟨3,x.1,y,0⟩ (js b y l a)
 |[],a=>by simp only[dH,js]
 |z::l,a=>by simp only[fc,js,RN b y x l]
def abQ(g:dS d y c)(x:ai d.h d e):dS e y c:=uQ g (λb a=>.inl (x.2 b a)) x.1
def ba.ai9{g:cK}{i:S->Option Nat}{X:HN}(h:ba f q g o u v i p d)(E:ai d.h d X)(a:d.h<=b)(a:b<X.h):ba f q g (λc=>if c=b then 13 else o c) u v i p X/\bh d o X (λc=>if c=b then 13 else o c):=by
 have a:=h.base;have e:∀c,c<d.h->(if c=b then 13 else o c)=o c:=λc a=>ac Y;refine⟨h.fv E.1 (λc a _=>E.2 c a) (λc a=>.inl (E.2 c a)) e (λc a=>?_),(bh.ext (o:=o) E).fv (ak _) (λ_ _=>R) e⟩;by_cases e:c=b
 .exact⟨Y,Y⟩
 .have a:(if c=b then 13 else o c)≠0:=a;rw[ac e] at a
  have:=h.vp c a
  exact⟨this.1,om E.1⟩
def ba.ahJ{a:cK}{g:S->Option Nat}(h:ba f q a o u v g p d)(j:o b=13)(k:eM (d.f b))(y:BN):ba f q a o u v g p (d.put b y):=
 h.fv (ak _) (λc _ i=>ac λe=>by rw[e,j] at i;omega) (λc _=>by
  by_cases e:c=b
  .rw[e];exact .inr k
  .exact .inl (ac e)) (λ_ _=>R) h.vp
def PT(n:Nd)(t:Tm):Prop:=bO (bw t)/\cC (bw t)/\dF [] n (bw t)
def ah9(n0:eG n){i2:cK}{t:S->Option Nat}{a2:Nat}(h:ba f q i2 o u v t p d)(hn:rK o d i2 n)(l5:∀s,sg t s<p.an.length)(sm:qe (ig n (sg t) a2 p))(I:(cF n (sg t) a2 0 [] p).2.late.length<=a2)(hT:∀x∈(cF n (sg t) a2 0 [] p).2.late,PT n x.2.2)
  (hC:∀x∈(cF n (sg t) a2 0 [] p).1,(iu x.2.2).length<=100000) (hF:∀x∈(cF n (sg t) a2 0 [] p).2.f,x.2.length<=100000)
  (k:∀I W C,ba f q I W u v t (ig n (sg t) a2 p) C->bh d o C W->fh i2 I->g (.t []) C):∃I C,aq Tryz.prog 78 [.p q 0] d I C/\g I C:=by
 refine c0 Tryz.func78 ?_;refine S0 ?_;obtain⟨W,I⟩:∃W,W=d.X (LL [.p q 0]):=⟨_,rfl⟩;have EW:ai d.h d W:=by rw[I];exact ap (.refl _ _)
 have w0:W.f d.h=LL [.p q 0]:=by rw[I];exact ae rfl
 have nW:W.h=d.h+1:=by rw[I];rfl
 rw[<-I];clear I;have I:=h.base;let⟨I,hI⟩:=inv λm a9 a0=>∃(j:Nat) (B:List (Nat×Nat×Tm)) (i:ES) (O:cK) (o1:Nat->Nat) (kv:AV) (ls:List (List AV)),m=a2-j/\j<=a2/\j=B.length/\(a9 1=.p d.h 0/\a9 2=kv/\a9 3=II j)/\cF n (sg t) (a2-j) j B i=cF n (sg t) a2 0 [] p/\ba f q O o1 u v t i a0/\bh d o a0 o1/\fh i2 O/\a0.f d.h=LL [.p q 0]/\o1 d.h=0/\
  aH 10 (d.h+1) a0 kv B.length ls.flatten/\jA o1 a0 B ls/\(∀c,ar kv c->o1 c=13)/\(kv=.e\/0<B.length)/\(∀s,sg t s<i.an.length)/\d.h+1<=a0.h/\j<=i.late.length
 refine aT I a2 ((hI _ _ _).2 ⟨0,[],p,i2,o,.e,[],rfl,aJ _,rfl,⟨rfl,rfl,rfl⟩,rfl,h.X EW,.ext EW,.refl i2,w0,h.free (ak _),aH.nil,rfl,λ_ l=>l.elim,.inl rfl,l5,Y,aJ _⟩) ?_;intro m a9 a0 i7;let⟨j,B,i,O,o1,kv,ls,_,_,l2,⟨p1,p2,p3⟩,hL,M1,T1,V1,f0,c5,b8,rk,ko,l8,e3,_,I⟩:=(hI _ _ _).1 i7;let⟨l6,_,HH,R6,I⟩:=M1.W;have hb:a0.f q=LL [O.n,O.d,O.w,O.b,O.e,O.a,O.y 0,O.y 1,O.y 2,O.y 3,O.y 4,O.y 5,.map O.m,.map O.c,O.y 6,O.y 7,O.y 8]:=HH.D;have j8:qe (cF n (sg t) a2 0 [] p).2:=by
  refine sm.of ?_;unfold ig;dsimp only;split
  .exact Gv _ _ _
  .exact(Gv _ _ _).M ((Gl _ _ _).M (F6 _ _ _ _))
 have gL:=Lj n (sg t) (a2-j) j B i;rw[hL] at gL;have r:=j8.of gL;have m1:∀(C:HN) (e w:Nat),eF (.a e 10 w) (O.y 6) C=.ok (II i.late.length) C:=by
  intro C e w;obtain⟨h0,⟨H,F⟩|⟨b,b1,b2,⟨H,F,_⟩|⟨H,hb⟩⟩⟩:=HH.own 6 dc
  .have F:i.late.length=0:=F;rw[H,F];rfl
  .have F:i.late.length=0:=F;rw[H,F];rfl
  .have H:O.y 6=.a b 0 i.late.length (.B 10):=H
   have:=r.2.2.2.2.2.1
   rw[H,ov,nD,ae (by omega)]
 have I:j<=800000000000:=by have:=r.2.2.2.2.2.1;omega
 have I:=r.2.2.2.2.2.1;by_cases g7:j<i.late.length
 .have r:j<a2:=by have:=gL.la;omega
  let⟨I,z,ez,i0⟩:=R6.at j g7;let⟨_,r⟩:=R6.len;have D:=oV (s:=10) l6 j r I;have i6:=jZ (s:=10) l6 r;obtain⟨yb,ey,g9,c9⟩:∃b,O.y 6=.a b 0 i.late.length (.B 10)/\a0.f b=LL l6.flatten/\b<a0.h:=by
   obtain⟨h0,⟨H,F⟩|⟨b,b1,b2,⟨H,F,_⟩|⟨H,hb⟩⟩⟩:=HH.own 6 dc
   .exact absurd F (by show¬i.late.length=0;omega)
   .exact absurd F (by show¬i.late.length=0;omega)
   .exact⟨b,H,hb,b2⟩
  have i1:=i0;let⟨m3,g6,h9,_,_⟩:=i1;let⟨h1,h2,h3,h4,P,U,g0,b6,j1⟩:=qz h9;subst g0;rw[ez] at D;have D:(l6.flatten.drop (j*10)).take 10=[II i.late[j].1,II i.late[j].2.1,.s h1.1 h1.2,.s h2.1 h2.2,II h3,II h4,.e,P,U,.l i.late[j].2.2.ck.2]:=D;refine S7 p1 p3 f0 hb ey g9 D ?_;obtain⟨V,eV⟩:∃V,V=a0.X (LL [II i.late[j].1,II i.late[j].2.1,h1,h2,h3,h4,.e,P,U,.l i.late[j].2.2.ck.2]):=⟨_,rfl⟩;have EV:ai a0.h a0 V:=by rw[eV];exact ap (.refl _ _)
  have vb:V.f a0.h=LL [II i.late[j].1,II i.late[j].2.1,h1,h2,h3,h4,.e,P,U,.l i.late[j].2.2.ck.2]:=by rw[eV];exact ae rfl
  have nV:V.h=a0.h+1:=by rw[eV];rfl
  rw[<-eV];clear eV;let⟨MV,I⟩:=M1.ai9 EV (b:=a0.h) (ak _) Y;have r:a2-j=(a2-(j+1))+1:=Y;have c3:=hL;rw[r,Ll _ _ _ _ _ _ g7] at c3;have g2:=Lj n (sg t) (a2-(j+1)) (j+1) (B++[(i.late[j].1,(bu n (sg t) i.late[j].2.2 i).1,i.late[j].2.2)]) (bu n (sg t) i.late[j].2.2 i).2;rw[c3] at g2;have gp:=vt n (sg t) i.late[j].2.2 i;have W:PT n i.late[j].2.2:=by
   obtain⟨⟨r,er⟩,-⟩:=SY n (sg t) (a2-j) j B i;rw[hL] at er;exact hT _ (by rw[er];exact oJ _ (aU g7))
  refine al (Vn n0 _ W.1 W.2.1 W.2.2 V O _ i _ _ MV ((hn.step T1 V1).step I (.refl O)) (i0.step I) e3 (j8.of g2) λZ o2 a3 M2 T2 V2=>?_);have n2:=T2.h;obtain⟨res,r⟩:∃res,res=(bu n (sg t) i.late[j].2.2 i).1:=⟨_,rfl⟩;rw[<-r] at c3|-;have c6:=(T2.C _ Y).t (ae rfl);have r:=(T2.same _ Y (.inr (by rw[ae rfl];decide))).t vb;have a7:=I.M T2;have m5:=(a7.C _ Y).t c5;have a8:=(a7.same _ Y (.inl c5)).t f0;refine S2 p2 r ?_;obtain⟨Yy,eY⟩:∃Yy,Yy=a3.put a0.h (LL [II i.late[j].1,res,h1,h2,h3,h4,.e,P,U,.l i.late[j].2.2.ck.2]):=⟨_,rfl⟩;have e4:eM (a3.f a0.h):=by rw[r];exact(qp _ _).lA (by intro h;cases h)
  have MY:ba f q Z o2 u v t (bu n (sg t) i.late[j].2.2 i).2 Yy:=by rw[eY];exact M2.ahJ c6 e4 _
  have kY:∀c,c≠a0.h->Yy.f c=a3.f c:=λc hc=>by rw[eY];exact ac hc
  have nY:Yy.h=a3.h:=by rw[eY];rfl
  have r:∀c,c<a3.h->Yy.f c=a3.f c\/eM (a3.f c):=λc _=>by
   by_cases e:c=a0.h
   .rw[e];exact .inr e4
   .exact .inl (kY c e)
  rw[<-eY];clear eY;have I:∀c,c<a3.h->o2 c<=12->Yy.f c=a3.f c:=λc _ h2=>kY c λe=>by rw[e,c6] at h2;omega
  have TY:=(T1.M a7).fv Y (λc hc=>kY c Y) λ_ _=>rfl;have n7:=(rk.step a7).fv Y I r λ_ _=>rfl;have n9:=(i0.step a7).fv Y I r (λ_ _=>rfl);have r:∀c,ar kv c->c<a0.h:=λc hc=>(cz b8 hc).2;have m9:=kG b8 (λc hc=>(kY c (om (r c hc))).t (a7.same c (r c hc) (.inr (by rw[ko c hc];decide)))) Y;have j3:∀c,ar kv c->o2 c=13:=λc hc=>(a7.C c (r c hc)).t (ko c hc);have j7:nZ ls.flatten:=by
   cases B with
   |nil=>cases rk;exact .inl rfl
   |cons x r=>
    obtain⟨r,r,r,-⟩:=rk;rw[r];exact qp _ _
  let⟨c2,o5,e5,M5,T5,W,j9,K5,n5,r,I⟩:=aaY (n:=10) (w:=144) MY TY dc (ap (y:=LL [II i.late[j].1,res,h1,h2,h3,h4,.e,P,U,.l i.late[j].2.2.ck.2]) (.refl _ _)) (sX (ae rfl) (bJ _) rfl) j7 m9 j3 l8 Y Y Y Y;have l4:(Yy.X (LL [II i.late[j].1,res,h1,h2,h3,h4,.e,P,U,.l i.late[j].2.2.ck.2])).h=Yy.h+1:=rfl;rw[l4] at e5 W j9 n5 r;have k2:gj 10 144 kv (.a a3.h 0 1 (.k 1)) (Yy.X (LL [II i.late[j].1,II res,.s h1.1 h1.2,.s h2.1 h2.2,II h3,II h4,.e,P,U,.l i.late[j].2.2.ck.2]))=.ok (.a (Yy.h+1) 0 (B.length+1) (.B 10)) c2:=by rw[<-nY];exact e5
  rw[k2];refine S1 p3 ?_;have k7:=(K5 _ Y (λl=>om ((cz b8 l).1))).t ((kY _ Y).t a8);have r5:jA o5 c2 (B++[(i.late[j].1,res,i.late[j].2.2)]) (ls++[[II i.late[j].1,II res,.s h1.1 h1.2,.s h2.1 h2.2,II h3,II h4,.e,P,U,.l i.late[j].2.2.ck.2]]):=by
   have KK:∀c,c<Yy.h->o2 c<=12->c2.f c=Yy.f c:=λc hc h2=>K5 c hc λl=>by have:=j3 c l;omega
   exact jA.app (n9.fv Y KK I λc hc=>r c Y) (n7.fv Y KK I λc hc=>r c Y)
  refine⟨a2-(j+1),Y,(hI _ _ _).2 ⟨j+1,B++[(i.late[j].1,res,i.late[j].2.2)],(bu n (sg t) i.late[j].2.2 i).2,Z,o5,.a (Yy.h+1) 0 (B.length+1) (.B 10),ls++[[II i.late[j].1,II res,.s h1.1 h1.2,.s h2.1 h2.2,II h3,II h4,.e,P,U,.l i.late[j].2.2.ck.2]],rfl,Y,by rw[ay,<-l2];rfl,⟨dx p1,rfl,rfl⟩,c3,M5,T5,V1.M V2,k7,(r _ Y).t m5,?_,r5,λc hc=>by have hc:Yy.h+1=c:=hc;rw[<-hc];exact j9,.inr (by rw[ay];exact jm _),λs=>cW (e3 s) gp.V,Y,om gp.la⟩⟩;rw[ay,Gb];exact W
 .refine S6 p1 p2 p3 f0 hb m1 ?_;have c:cF n (sg t) a2 0 [] p=(B,i):=by rw[<-hL,Lk _ _ _ _ _ _ (by omega)]
  have er:ig n (sg t) a2 p=if(eD (sg t) B i).f=[] then eD (sg t) B i else js (sg t) (hY 1 1 (eD (sg t) B i)).1 (hY 1 1 (eD (sg t) B i)).2.f (hY 1 1 (eD (sg t) B i)).2:=by
   unfold ig;rw[c]
  rw[c] at hC hF;rw[er] at sm k;have hC:∀x∈B,(iu x.2.2).length<=100000:=hC;have hF:∀x∈i.f,x.2.length<=100000:=hF;have b9:qe (eD (sg t) B i):=by
   refine sm.of ?_;split
   .exact .refl _
   .exact(Gl _ _ _).M (F6 _ _ _ _)
  let⟨c,e6⟩:=rk.len;have m0:∀(C:HN) (e w:Nat),eF (.a e 10 w) kv C=.ok (II B.length) C:=by
   intro C e w;obtain⟨h0,⟨rfl,F⟩|⟨b,b1,b2,⟨rfl,F,_⟩|⟨rfl,hb⟩⟩⟩:=b8
   .rw[F];rfl
   .rw[F];rfl
   .rw[ov,nD,ae (by omega)]
  refine S1 m0 ?_;let⟨J,hJ⟩:=inv λm a9 b4=>∃(l:Nat) (Z:cK) (o2:Nat->Nat),m=B.length-l/\l<=B.length/\(a9 1=.p d.h 0/\a9 35=kv/\a9 36=II B.length/\a9 37=II l)/\ba f q Z o2 u v t (eD (sg t) (B.take l) i) b4/\bh a0 o1 b4 o2/\fh O Z;refine aT J B.length ((hJ _ _ _).2 ⟨0,O,o1,rfl,aJ _,⟨dx p1,rfl,rfl,rfl⟩,by rw[gO];unfold eD;exact M1,.refl,.refl O⟩) ?_;intro c c a5 g6;let⟨l,Z,o2,j2,hq,⟨r1,h6,c7,c8⟩,M2,T2,V2⟩:=(hJ _ _ _).1 g6;have n2:=T2.h;have a8:=(T2.same _ Y (.inl c5)).t f0;have h5:=(T2.C _ Y).t c5;by_cases a4:l<B.length
  .obtain⟨kb,rfl,l3,j0⟩:∃b,kv=.a b 0 B.length (.B 10)/\a0.f b=LL ls.flatten/\b<a0.h:=by
    obtain⟨h0,⟨H,F⟩|⟨b,b1,b2,⟨H,F,_⟩|⟨H,hb⟩⟩⟩:=b8
    .omega
    .omega
    .exact⟨b,H,hb,b2⟩
   have i9:=(T2.same kb j0 (.inr (by rw[ko kb rfl];decide))).t l3;let⟨g8,z,ez,i0⟩:=rk.at l a4;have D:=oV (s:=10) ls l e6 g8;have i6:=jZ (s:=10) ls e6;have c:=i0.step T2;have i1:=c;let⟨m3,c,h9,_,_⟩:=i1;let⟨h1,h2,h3,h4,P,U,g0,b6,j1⟩:=qz h9;subst g0;rw[ez] at D;have D:(ls.flatten.drop (l*10)).take 10=[II B[l].1,II B[l].2.1,.s h1.1 h1.2,.s h2.1 h2.2,II h3,II h4,.e,P,U,.l B[l].2.2.ck.2]:=D;have k4:B[l].2.2.ck.1=iu B[l].2.2:=by cases B[l].2.2;rfl
   rw[k4] at b6;have g5:=hC _ (aU a4);refine S7 r1 h6 c7 c8 a8 i9 D ?_;obtain⟨V,eV⟩:∃V,V=a5.X (LL [II B[l].1,II B[l].2.1,h1,h2,h3,h4,.e,P,U,.l B[l].2.2.ck.2]):=⟨_,rfl⟩;have EV:ai a5.h a5 V:=by rw[eV];exact ap (.refl _ _)
   have vb:V.f a5.h=LL [II B[l].1,II B[l].2.1,h1,h2,h3,h4,.e,P,U,.l B[l].2.2.ck.2]:=by rw[eV];exact ae rfl
   have nV:V.h=a5.h+1:=by rw[eV];rfl
   rw[<-eV];clear eV;have v0:=(EV.2 _ (by omega:d.h<a5.h)).t a8;have c6:=M2.free (ak _);have eK:=SI (sg t) B[l] (B.take l) i;rw[<-dt a4] at eK;have c1:=b9.of (by
    have e2:∀(a b:List (Nat×Nat×Tm)) (s0:ES),eD (sg t) (a++b) s0=eD (sg t) b (eD (sg t) a s0):=by
     intro a
     induction a with
     |nil=>intro b s0;simp only[dH,eD]
     |cons y a ih=>intro b s0;simp only[fc,eD,ih]
    have:=Gv (sg t) (B.drop (l+1)) (eD (sg t) (B.take (l+1)) i)
    rw[<-e2,mH] at this;exact this)
   rw[eK] at c1;refine al (Sa (M2.X EV) (b6.ext EV) g5 (c5:=118) (a9:=[.p d.h 0,.p a5.h 0]) c1 (λv3 o3 c a1 c M3 T3 g4 c=>ah4 M3 g4 ((T3.same _ Y (.inl h5)).t v0) ((T3.same _ Y (.inl c6)).t vb) λj o4 j M4 T4 C4=>c _ _ _ M4 T4 (.put _ 5 _) C4) λv3 o3 a1 M3 T3 V3 _=>?_);refine S1 c8 ?_;exact⟨B.length-(l+1),Y,(hJ _ _ _).2 ⟨l+1,v3,o3,rfl,a4,⟨dx r1,dx h6,dx c7,rfl⟩,by rw[eK];exact M3,T2.M ((bh.ext EV).M T3),V2.M V3⟩⟩
  .obtain rfl:l=B.length:=Y;rw[iM (ak _)] at M2;have i3:=T1.M T2;have i4:=V1.M V2;have k8:∀x∈(eD (sg t) B i).f,x.2.length<=100000:=by rw[SJ];exact hF
   clear hI hJ i7 g6;generalize c:eD (sg t) B i=K at*;let⟨_,_,HB,_,c⟩:=M2.W;have l0:a5.f q=LL [Z.n,Z.d,Z.w,Z.b,Z.e,Z.a,Z.y 0,Z.y 1,Z.y 2,Z.y 3,Z.y 4,Z.y 5,.map Z.m,.map Z.c,Z.y 6,Z.y 7,Z.y 8]:=HB.D;have l9:∀(C:HN) (e w:Nat),eF (.a e 2 w) (Z.y 7) C=.ok (II K.f.length) C:=by
    intro C e w;obtain⟨h0,⟨H,F⟩|⟨b,b1,b2,⟨H,F,_⟩|⟨H,hb⟩⟩⟩:=HB.own 7 dc
    .have F:K.f.length=0:=F;rw[H,F];rfl
    .have F:K.f.length=0:=F;rw[H,F];rfl
    .have H:Z.y 7=.a b 0 K.f.length (.B 2):=H
     have:=b9.2.2.2.2.2.2
     rw[H,ov,nD,ae (by omega)]
   have j2:=M2.base;refine S6 r1 c7 c8 a8 l0 l9 ?_;by_cases b3:K.f.length=0
   .have c:=ff b3;rw[ae c] at k;have i:=aB b3;refine S1 i ?_;exact k _ _ _ M2 i3 i4
   .have c:K.f≠[]:=λe=>b3 (by rw[e];rfl);rw[ac c] at k sm;have i:=aA b3;refine S3 r1 i a8 ?_;have c:=b9;obtain⟨i,-,i,i,-,-,-⟩:=c;refine al (Jy M2 ⟨Y,Y,Y⟩ (r:=1) (n:=1) λv3 o3 a1 M3 T3 V3=>?_);have c:=T3.h;have k6:=(T3.same _ Y (.inl h5)).t a8;have j4:=(T3.C _ Y).t h5;have k0:=i3.M T3;have k1:=i4.M V3;have g1:(hY 1 1 K).2.f=K.f:=by
     show(iw 1 K).2.f=_
     unfold iw;split<;>rfl
    rw[g1] at k sm;generalize c:(hY 1 1 K).1=y at*;generalize c:(hY 1 1 K).2=s3 at*;obtain⟨X3,b5⟩:∃X3,X3=a1.X (LL [y]):=⟨_,rfl⟩;have e7:ai a1.h a1 X3:=by rw[b5];exact ap (.refl _ _)
    have o9:X3.f a1.h=LL [y]:=by rw[b5];exact ae rfl
    have c:X3.h=a1.h+1:=by rw[b5];rfl
    have i5:=(e7.2 _ (by omega:d.h<a1.h)).t k6;have j5:=M3.free (ak _);have MX:=M3.X e7;let⟨_,c4,e8,c,e9⟩:=MX.W;have l1:X3.f q=LL [v3.n,v3.d,v3.w,v3.b,v3.e,v3.a,v3.y 0,v3.y 1,v3.y 2,v3.y 3,v3.y 4,v3.y 5,.map v3.m,.map v3.c,v3.y 6,v3.y 7,v3.y 8]:=e8.D;have b7:it u v s3 7=K.f.length:=by show s3.f.length=_;rw[g1]
    obtain⟨yb,ey,g9,c9⟩:∃b,v3.y 7=.a b 0 K.f.length (.B 2)/\X3.f b=LL c4.flatten/\b<X3.h:=by
     obtain⟨h0,⟨H,F⟩|⟨b,b1,b2,⟨H,F,_⟩|⟨H,hb⟩⟩⟩:=e8.own 7 dc
     .rw[b7] at F;exact absurd F b3
     .rw[b7] at F;exact absurd F b3
     .rw[b7] at H;exact⟨b,H,hb,b2⟩
    have n6:o3 yb=11:=e8.C 7 dc yb (by rw[ey];rfl);have c:∀(C:HN) (e w:Nat),eF (.a e 2 w) (.a yb 0 K.f.length (.B 2)) C=.ok (II K.f.length) C:=by
     intro C e w
     have:=b9.2.2.2.2.2.2
     rw[ov,nD,ae (by omega)]
    simp(disch:=omega)only[go_sem,r1,bF,<-b5,i5,l1,ey,c];clear b5;rw[g1] at e9;generalize k9:K.f=Fs at*;have c:Fs.length<=800000000000:=by rw[<-k9];exact b9.2.2.2.2.2.2
    let⟨c,e⟩:=e9.len;let⟨c,g3⟩:=inv λm a9 b4=>∃(l:Nat) (i:cK) (o4:Nat->Nat),m=Fs.length-l/\l<=Fs.length/\(a9 1=.p d.h 0/\a9 7=.p a1.h 0/\a9 59=.a yb 0 Fs.length (.B 2)/\a9 60=II Fs.length/\a9 61=II l)/\ba f q i o4 u v t (js (sg t) y (Fs.take l) s3) b4/\bh X3 o3 b4 o4/\fh v3 i/\(∀b,b<X3.h->o3 b=11->b4.f b=X3.f b);refine aT c Fs.length ((g3 _ _ _).2 ⟨0,v3,o3,rfl,aJ _,⟨dx r1,rfl,rfl,rfl,rfl⟩,by rw[gO];unfold js;exact MX,.refl,.refl v3,λ_ _ _=>rfl⟩) ?_;clear j2 hq r1 h6 c7 c8;intro c c a6 c;let⟨l,_,o4,i,hq,⟨r1,r7,j6,h7,h8⟩,M4,T4,V4,C4⟩:=(g3 _ _ _).1 c;have c:=T4.h;have i:=(T4.same _ Y (.inl j4)).t i5;have m6:=(T4.C _ Y).t j4;have m:=(T4.same _ Y (.inl j5)).t o9;have m7:=(T4.C _ Y).t j5;by_cases a4:l<Fs.length
    .have c:=(C4 yb c9 n6).t g9;let⟨g8,j,ez,i0⟩:=e9.at l a4;have D:=oV (s:=2) c4 l e g8;have i6:=jZ (s:=2) c4 e;have n8:=T4.yu i0;rw[ez] at D;have D:(c4.flatten.drop (l*2)).take 2=[II Fs[l].1,j]:=D;have g5:=k8 _ (aU a4);refine S8 r1 r7 j6 h7 h8 i c D ?_;obtain⟨e,c⟩:∃e,e=a6.X (LL [II Fs[l].1,j]):=⟨_,rfl⟩;have b0:ai a6.h a6 e:=by rw[c];exact ap (.refl _ _)
     have o8:e.f a6.h=LL [II Fs[l].1,j]:=by rw[c];exact ae rfl
     have j:e.h=a6.h+1:=by rw[c];rfl
     rw[<-c];clear c;have o0:=(b0.2 _ (by omega:d.h<a6.h)).t i;have o7:=(b0.2 _ (by omega:a1.h<a6.h)).t m;have m8:=M4.free (ak _);have eK:=RN (sg t) y Fs[l] (Fs.take l) s3;rw[<-dt a4] at eK;have c1:=sm.of (by
      have e2:∀(a b:List (Nat×List aS)) (s0:ES),js (sg t) y (a++b) s0=js (sg t) y b (js (sg t) y a s0):=by
       intro a
       induction a with
       |nil=>intro b s0;simp only[dH,js]
       |cons x a ih=>intro b s0;simp only[fc,js,ih]
      have:=F6 (sg t) y (Fs.drop (l+1)) (js (sg t) y (Fs.take (l+1)) s3)
      rw[<-e2,mH] at this;exact this)
     rw[eK] at c1;refine al (Sa (M4.X b0) (abQ n8 b0) g5 (c5:=119) (a9:=[.p d.h 0,.p a6.h 0,.p a1.h 0]) c1 (λe o5 a c2 a M5 T5 g4 j=>ah5 M5 g4 ((T5.same _ Y (.inl m6)).t o0) ((T5.same _ Y (.inl m8)).t o8) ((T5.same _ Y (.inl m7)).t o7) λa a a c i a=>j _ _ _ c i (.put _ 5 _) a) λe o5 c2 M5 T5 c i=>?_);refine S1 h8 ?_;have a:=(bh.ext (o:=o4) b0).M T5;exact⟨Fs.length-(l+1),Y,(g3 _ _ _).2 ⟨l+1,e,o5,rfl,a4,⟨dx r1,dx r7,dx j6,dx h7,rfl⟩,by rw[eK];exact M5,T4.M a,V4.M c,λb hb a=>(i b Y ((T4.C b Y).t a)).t ((b0.2 b Y).t (C4 b hb a))⟩⟩
    .obtain rfl:l=Fs.length:=Y;rw[iM (ak _)] at M4;refine S2 h7 h8 ?_;exact k _ _ _ M4 (k0.M ((bh.ext e7).M T4)) (k1.M V4)
end
section
variable {y:AV}{g:AV->HN->Prop}{p:ES}{d:HN}{m:L (L AV)}{u v:L Nat}{a b f i k q:Nat}{o:Nat->Nat}
def PB{b:Type}{l:L b}{k:b}(e:l[a]?=some k):a<N l:=by
 refine vQ λg=>?_;rw[rC g] at e;cases e
def aeH{l:L aQ}(h:i<N l):((jt l).drop (i*4)).take 4=l[i].cells:=by
 have a:∀x∈l.map aQ.cells,N x=4:=λx b=>by obtain⟨y,_,rfl⟩:=cN.1 b;rfl
 have:=oV (s:=4) (l.map aQ.cells) i a (by rw[aC];exact h)
 rw[kM] at this;exact this
def aeI{l:L aQ}{x:aQ}(h:l[i]?=some x):((jt l).drop (i*4)).take 4=x.cells:=by
 have a:=PB h;rw[aeH a];rw[bM a] at h;rw[jX h]
def aeG{l:L aQ}{p n:Nat}{x:aQ}(h:l[p]?=some x):(jt l).set (p*4+1) (II n)=jt (l.set p ⟨x.o,n,x.b,x.c⟩):=by
 have a:=PB h;rw[Sn l p n a];rw[bM a] at h;rw[jX h]
def oE(k:Nat)(l:L aQ)(i:Nat):L aQ:=(l.take i).map (eA k)++l.drop i
def Yl(k:Nat)(l:L aQ)(i:Nat):N (oE k l i)=N l:=by
 unfold oE;rw[ay,aC,dW,qH];omega
def aiH(k:Nat)(l:L aQ):oE k l 0=l:=by unfold oE;simp
def aiI(k:Nat)(l:L aQ):oE k l (N l)=l.map (eA k):=by unfold oE;simp
def aiJ{l:L aQ}(h:i<N l):(oE k l i)[i]'(by rw[Yl];exact h)=l[i]:=by
 unfold oE;rw[ZU (by rw[aC,dW];omega)];have e:i-N ((l.take i).map (eA k))=0:=by rw[aC,dW];omega
 simp only[e,List.getElem_drop,nk]
def aiK{l:L aQ}(h:i<N l):oE k l (i+1)=(oE k l i).set i (eA k l[i]):=by
 unfold oE;rw[dt h,cM,iL,oI,dC];have e:N ((l.take i).map (eA k))=i:=by rw[aC,dW];omega
 rw[Es _ _ (by omega),e,rH,eJ h,zS]
 rfl
@[go_sem] def Su:vd Tryz.prog 61 true=true:=by kernel_rfl
@[go_sem] def Ss{o n:Nat}{c:Cp}:oU Tryz.prog 61 (.a b o n c) .e=some false:=by kernel_rfl
def aeJ(e:aK 4 d y m)(a:∀l∈m,N l=4)(a:N m<=1000000000000)(k:∀b a,aH 4 d.h a b (N m) m.flatten->ai d.h d a->g b a):∃b a,aq Tryz.prog 120 [y] d b a/\g b a:=by
 refine c0 Tryz.func120 ?_;have E:ai d.h d (d.X (LL [])):=ap (.refl _ _);have c:aH 4 d.h (d.X (LL [])) (.a d.h 0 0 (.k 0)) 0 []:=⟨R,.inr ⟨d.h,ak _,bJ _,.inl ⟨R,R,_,ae R⟩⟩⟩;rcases e with⟨rfl,rfl|⟨b,off,cap,rfl⟩⟩|ry'
 .refine S0 ?_;exact k _ _ aH.nil (.refl _ _)
 .simp(disch:=omega)only[go_sem,Su,Ss];have a:gj 4 32 (.a d.h 0 0 (.k 0)) (.a b off 0 cap) (d.X (LL []))=.ok (.a d.h 0 0 (.k 0)) (d.X (LL [])):=by rw[oR];rfl
  rw[a];refine S0 ?_;exact k _ _ c E
 .have e:aK 4 d y m:=.inr ry';obtain⟨b,off,cap,f,row,rfl,-⟩:=ry';simp(disch:=omega)only[go_sem,Su,Ss];by_cases f:m=[]
  .subst f;have a:gj 4 32 (.a d.h 0 0 (.k 0)) (.a b off (N ([]:L (L AV))) cap) (d.X (LL []))=.ok (.a d.h 0 0 (.k 0)) (d.X (LL [])):=by rw[oR];rfl
   rw[a];refine S0 ?_;exact k _ _ c E
  .have a:=zm (e.ext (f:=0) E);refine tj dc c a Y (by show d.h<=d.h+1;omega) λa a o2 a=>?_;refine S0 ?_;rw[gg,dH] at o2;exact k _ _ o2 (E.M a)
def afA{a:cK}{b4:S->Option Nat}(h:ba f q a o u v b4 p d)(sm:qe p)(hj:∀i∈p.j,i.o=19\/i.o=20->i.a<=900000000000)
  (k:∀y' r,r.f q=LL (a.put 5 y').cells->(∀j,j<5->aH 1 f r (a.y j) (it u v p j) (nK u v p [] [] j))->aK 4 r y' ((p.l++p.j.map (eA (N p.l))).map aQ.cells)->(∀c,c<d.h->(o c=0\/12<o c)->r.f c=d.f c)->d.h<=r.h->g (.t []) r):∃v' r,aq Tryz.prog 79 [.p q 0] d v' r/\g v' r:=by
 let⟨e7,e8,e9,c8,c9,g0,g2⟩:=sm;let⟨l6,l7,H,R6,R7⟩:=h.W;have hb:d.f q=LL [a.n,a.d,a.w,a.b,a.e,a.a,a.y 0,a.y 1,a.y 2,a.y 3,a.y 4,a.y 5,.map a.m,.map a.c,a.y 6,a.y 7,a.y 8]:=H.D;have a2:∀(k:Nat) (n:Nat) (yk:AV),n<=800000000000->(yk=.e/\n=0\/∃b,yk=.a b 0 n (.B 4))->∀(r:HN) (e w:Nat),eF (.a e 4 w) yk r=.ok (II n) r:=by
  intro k n yk hn hy r e w;rcases hy with⟨rfl,rfl⟩|⟨b,rfl⟩
  .rfl
  .rw[ov,nD,ae (by omega)]
 have xd:∀k,k<9->jx k=4->a.y k=.e/\it u v p k=0\/∃b,a.y k=.a b 0 (it u v p k) (.B 4):=λk hk hs=>by
  obtain⟨h0,⟨e,e0⟩|⟨b,b1,b2,⟨e,e0,_⟩|⟨e,hb⟩⟩⟩:=H.own k hk
  .exact .inl ⟨e,e0⟩
  .rcases H.ne k hk with a7|a7
   .exact .inl ⟨a7,e0⟩
   .omega
  .rw[hs] at e;exact .inr ⟨b,e⟩
 have lc:=a2 5 (N p.j) (a.y 5) c8 (xd 5 dc R);have ll:=a2 8 (N p.l) (a.y 8) c9 (xd 8 dc R);refine cf Wx Tryz.func79 ?_;refine S2 hb lc ?_;generalize hL:N p.l=s at*;obtain⟨I,hI⟩:∃I:Nat->FN->HN->Prop,∀m a8 t,I m a8 t↔∃(i:Nat),m=N p.j-i/\i<=N p.j/\(a8 0=.p q 0/\a8 8=a.y 5/\a8 9=II (N p.j)/\a8 10=II i)/\ba f q a o u v b4 {p with j:=oE s p.j i} t/\bh d o t o:=⟨_,λ_ _ _=>gZ⟩;refine aT I (N p.j) ((hI _ _ _).2 ⟨0,R,aJ _,dy,by rw[aiH];exact h,.refl⟩) ?_;intro m a8 t hi;let⟨i,e5,hi,⟨p0,p8,p9,F⟩,M,T⟩:=(hI _ _ _).1 hi;have nT:=T.h;let⟨c5,c6,Z,b5,b6⟩:=M.W;have P:t.f q=LL [a.n,a.d,a.w,a.b,a.e,a.a,a.y 0,a.y 1,a.y 2,a.y 3,a.y 4,a.y 5,.map a.m,.map a.c,a.y 6,a.y 7,a.y 8]:=Z.D;by_cases z:i<N p.j
 .have hx:=hj _ (aU z);have a4:=Yl s p.j i;have O:(oE s p.j i)[i]?=some p.j[i]:=by rw[bM (by rw[a4];exact z),aiJ z]
  have a5:=aiK (k:=s) z;generalize e1:oE s p.j i=C at*;have e4:i<N C:=Y;generalize e6:p.j[i]=x at*;have B:=aeI O;have a0:=aeG (n:=x.a+s) O;have B:((jt C).drop (i*4)).take 4=[II x.o,II x.a,II x.b,II x.c]:=B;obtain⟨V,eV⟩:∃V,V=t.X (LL [x.o,x.a,x.b,x.c]):=⟨_,R⟩;have EV:ai t.h t V:=by rw[eV];exact ap (.refl _ _)
  have vb:V.f t.h=LL [x.o,x.a,x.b,x.c]:=by rw[eV];exact ae R
  have nV:V.h=t.h+1:=by rw[eV];rfl
  have c2:=M.base;have MV:=M.X EV;have b0:V.f q=LL [a.n,a.d,a.w,a.b,a.e,a.a,a.y 0,a.y 1,a.y 2,a.y 3,a.y 4,a.y 5,.map a.m,.map a.c,a.y 6,a.y 7,a.y 8]:=(EV.2 _ Y).t P;let⟨b,e,D,bne,Mn,Tn⟩:=MV.Yi (a:=C.set i (eA s x)) (jk ..) (by show 0<N C;omega);have e:a.y 5=.a b 0 (N C) (.B 4):=e;have D:V.f b=LL (jt C):=D;rw[a4] at e;have b7:b<t.h:=by
   have:=Z.bT (k:=5) dc (c:=b) (by rw[e];rfl)
   exact this.2
  have b9:t.f b=LL (jt C):=(EV.2 b b7).s.t D;have c1:=K0 C;rw[a4] at c1;refine S6 p8 p9 F e b9 B ?_;rw[<-eV];clear eV;have b3:¬(x.o=19\/x.o=20)->ba f q a o u v b4 {p with j:=oE s p.j (i+1)} V:=λa7=>by
   have e2:oE s p.j (i+1)=C:=by
    rw[a5]
    have:eA s x=x:=ac a7
    rw[this];refine N1 λj=>?_;rw[N8];split
    .rename_i ej;rw[<-ej]
     first|exact O.s|(rw[ae (by omega)];exact O.symm)
    .rfl
   rw[e2];exact MV
  have TV:=T.M (bh.ext EV);have g1:(jt C)[i*4+1]?=some (II x.a):=by
   have:=dv (λl=>l[1]?) B
   simp only[qG,mG] at this;simpa using this
  have a1:x.o=19\/x.o=20->ba f q a o u v b4 {p with j:=oE s p.j (i+1)} (V.put b (LL (jt (C.set i ⟨x.o,x.a+s,x.b,x.c⟩))))/\bh V o (V.put b (LL (jt (C.set i ⟨x.o,x.a+s,x.b,x.c⟩)))) o:=λa7=>by
   have e2:eA s x=⟨x.o,x.a+s,x.b,x.c⟩:=ae a7;rw[e2] at a5 Mn Tn;rw[a5];exact⟨Mn,Tn⟩
  by_cases U:x.o=19
  .have K:de (x.o=19)=true:=aB U;have ha:=hx (.inl U);let⟨J1,J2⟩:=a1 (.inl U);simp(disch:=omega)only[go_sem,p0,F,K,b0,e,D,g1,ll,zs,a0];exact⟨N p.j-(i+1),Y,(hI _ _ _).2 ⟨i+1,R,z,⟨dx p0,dx p8,dx p9,R⟩,J1,TV.M J2⟩⟩
  .have K:de (x.o=19)=false:=aA U;by_cases W:x.o=20
   .have a3:de (x.o=20)=true:=aB W;have ha:=hx (.inr W);let⟨J1,J2⟩:=a1 (.inr W);simp(disch:=omega)only[go_sem,p0,F,vb,K,a3,b0,e,D,g1,ll,zs,a0];exact⟨N p.j-(i+1),Y,(hI _ _ _).2 ⟨i+1,R,z,⟨dx p0,dx p8,dx p9,R⟩,J1,TV.M J2⟩⟩
   .have a3:de (x.o=20)=false:=aA W;refine S4 F vb K a3 ?_;exact⟨N p.j-(i+1),Y,(hI _ _ _).2 ⟨i+1,R,z,⟨dx p0,dx p8,dx p9,R⟩,b3 Y,TV⟩⟩
 .obtain rfl:i=N p.j:=Y;rw[aiI] at M Z b5 b6;have c2:=M.base;have c4:∀(l:L aQ),∀x∈l.map aQ.cells,N x=4:=λl x hx=>by obtain⟨y,_,rfl⟩:=cN.1 hx;rfl
  have o8:aH 4 f t (a.y 8) (N (p.l.map aQ.cells)) (p.l.map aQ.cells).flatten:=by rw[aC];exact Z.own 8 dc
  have o5:aH 4 f t (a.y 5) (N ((p.j.map (eA s)).map aQ.cells)) ((p.j.map (eA s)).map aQ.cells).flatten:=by rw[aC];exact Z.own 5 dc
  have r8:=oz o8 (c4 _);have r5:=oz o5 (c4 _);refine S4 p0 p9 F P ?_;refine bL (aeJ r8 (c4 _) (by rw[aC];omega) λy2 g3 o2 E2=>?_);have n2:=E2.1;have a9:=(E2.2 _ (by omega:q<t.h)).t P;have q5:=zm (r5.ext (f:=0) E2);let⟨y3,a6,e3,o3,E3⟩:=EZ (w:=32) dc o2 q5 (by rw[aC,aC,aC];omega) Y;have b8:=(E3.2 _ (by omega:q<t.h)).t a9;have n3:=E3.1;have cy:dZ y3=some [y3]:=by
   obtain⟨_,⟨rfl,-⟩|⟨b,_,_,⟨rfl,-⟩|⟨rfl,-⟩⟩⟩:=o3<;>rfl
  have lE:N (p.l.map aQ.cells)+N ((p.j.map (eA s)).map aQ.cells)=N ((p.l++p.j.map (eA s)).map aQ.cells):=by rw[cM,ay]
  have fE:(p.l.map aQ.cells).flatten++((p.j.map (eA s)).map aQ.cells).flatten=((p.l++p.j.map (eA s)).map aQ.cells).flatten:=by rw[cM,nh]
  rw[lE,fE] at o3;refine S6 p0 P a9 e3 b8 cy ?_;have c7:∀c,ar y3 c->t.h<=c:=λc hc=>(cz o3 hc).1;have r9:aH 4 t.h (a6.put q (LL (a.put 5 y3).cells)) y3 (N ((p.l++p.j.map (eA s)).map aQ.cells)) ((p.l++p.j.map (eA s)).map aQ.cells).flatten:=kG o3 (λc hc=>ac λe=>om (c7 c hc)) (ak _);refine⟨λh=>absurd h dc,?_⟩;refine k y3 _ (ae R) (λj hj=>?_) (oz r9 (c4 _)) (λc hc h0=>?_) (by show d.h<=a6.h;omega)
  .have c3:jx j=1:=by
    match j,hj with
    |0,_|1,_|2,_|3,_|4,_=>rfl
   have oj:=Z.own j Y;rw[c3] at oj;have ec:it u v {p with j:=p.j.map (eA s)} j=it u v p j:=by
    match j,hj with
    |0,_|1,_|2,_|3,_|4,_=>rfl
   have er:nK u v {p with j:=p.j.map (eA s)} c5 c6 j=nK u v p [] [] j:=by
    match j,hj with
    |0,_|1,_|2,_|3,_|4,_=>rfl
   rw[ec,er] at oj;refine kG oj (λc hc=>?_) (by show t.h<=a6.h;omega);have ht:=Z.C j Y c hc;have hl:=(cz oj hc).2;exact(ac λe=>by rw[e,Z.om] at ht;omega).t ((E3.2 c Y).t (E2.2 c hl))
  .refine(ac λe=>?_).t ((E3.2 c Y).t ((E2.2 c Y).t (T.same c hc h0)));rw[e,H.om] at h0;omega
end
end Go.Proofs.YtehahhggpdhieaaGreatDoor
