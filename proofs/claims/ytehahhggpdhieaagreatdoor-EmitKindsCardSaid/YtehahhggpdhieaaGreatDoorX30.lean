/- Lemmas of the walk of EmitKinds are proved. Conditions: none. -/
import Derived.Test.YtehahhggpdhieaaGreatDoorX29
namespace Go.Proofs.YtehahhggpdhieaaGreatDoor
set_option maxRecDepth 100000
set_option maxHeartbeats 32000000
set_option linter.all false
section
open Tryz
variable {g:AV->HN->Prop}{d e t:HN}{z:L AV}{q:Nat}{n:Nd}
def aav(a b:L S):mL (mL (λ_=>false) a) b=λx=>a.contains x||b.contains x:=by
 funext x;unfold mL;rw[Em]
def zj(r:dL tt d n z)(x:ai d.h d e):dL tt e n z:=se (iS x) x.1 (λ_ h=>h) r
def agy{o:Nat}(a5:t.h<=q)(a7:o≠q){P:S->Bool}(X0:ai t.h t d)(r:dL tt t n z)(ok:eG n)(s:S)(a6:q<d.h)(I:o<d.h)(V:d.f o=LL [.map q])(M:fL d q (lD P))
  (k:∀h,ax q d h->fL h q (lD (mL P (A6 n s)))->g (.t []) h):∃e h,aq Tryz.prog 166 [.p o 0,z,s] d e h/\g e h:=by
 have r':=r;obtain⟨m,D,F,H,rfl,-,-,-,r3,-⟩:=r';have e:N n.ao<=1073741824:=ok.2.2.2.1.1;have l3:=λh e w=>bI (e:=h) r3 (n:=N n.ao) (by rw[aC]) Y e w;refine cf VT func166 ?_;have E:ai d.h d (d.X (LL [sV n.n,m,D,F,H,n.a])):=ap (.refl _ _);have c0:(d.X (LL [sV n.n,m,D,F,H,n.a])).f d.h=LL [sV n.n,m,D,F,H,n.a]:=ae R;have e:(d.X (LL [sV n.n,m,D,F,H,n.a])).h=d.h+1:=R;have a0:=(E.2 _ I).t V;have M0:=sB M a6 E;refine S1 l3 ?_;generalize d.X (LL [sV n.n,m,D,F,H,II n.a])=y at*;let⟨I,hI⟩:=inv λm e C=>∃(i:Nat) (b:L aS) (l:S),m=N n.ao-i/\i<=N n.ao/\(e 0=.p o 0/\e 2=.s l.1 l.2/\e 4=.p d.h 0/\e 10=II (N n.ao)/\e 11=II i)/\fL C q (lD (mL P (b.map Prod.fst)))/\ax q y C/\b++fW n (N n.ao-i) l=fW n (N n.ao) s;refine aT I (N n.ao) ((hI _ _ _).2 ⟨0,[],s,R,aJ _,dy,by rw[oI,IW];exact M0,.refl _ _,R⟩) ?_;intro m e C e;let⟨i,b,l,h,e,⟨p0,F,p4,p,u⟩,Mz,B,a⟩:=(hI _ _ _).1 e;have nz:=B.1;have D:C.f d.h=_:=(B.2 _ Y Y).t c0;have fz:C.f o=_:=(B.2 _ Y a7).t a0;have stop:∀e,fL e q (lD (mL P (b.map Prod.fst)))->ax q y e->b=fW n (N n.ao) s->g (.t []) e:=λe h e m=>by
  refine k _ ⟨om e.1,λc h1 U=>(e.2 c Y U).t (E.2 c h1)⟩ ?_;unfold A6;rw[<-m];exact h
 by_cases a4:i<N n.ao
 .obtain⟨x,e⟩:∃x,N n.ao-i=x+1:=⟨N n.ao-i-1,Y⟩;rw[e] at a;refine S5 F p4 p u D ?_;refine al (Km (zj r (jF (aM X0 E) a5 B)) ok l λf x2=>?_);have e:=x2.1;have a8:fW n (x+1) l=match aO n l with|some v=>if v.p=(0,0) then[] else(v.p,v.t)::fW n x v.p|none=>[]:=R
  rw[a8] at a;have e:∀w:Vr,w.cells=[.s w.n.1 w.n.2,II w.z,.s w.p.1 w.p.2,.l w.t,II w.a]:=λ_=>R;rw[e];generalize W:(aO n l).getD dm=w;have e6:ai f.h f (f.X (LL [w.n,w.z,w.p,w.t,w.a])):=ap (.refl _ _);have c6:(f.X (LL [w.n,w.z,w.p,w.t,w.a])).f f.h=LL [w.n,w.z,w.p,w.t,w.a]:=ae R;have e:(f.X (LL [w.n,w.z,w.p,w.t,w.a])).h=f.h+1:=R;refine S0 ?_;generalize f.X (LL [.s w.n.1 w.n.2,II w.z,.s w.p.1 w.p.2,.l w.t,II w.a])=a9 at*;have e:=aM x2 e6;have M3:=sB Mz Y e;have K:ax q y a9:=FU B e nz;have f3:=(e.2 _ (by omega:o<C.h)).t fz;have O:aI w.p.1 w.p.2 0 0=de (w.p=(0,0)):=bz w.p (0,0);cases V:aO n l with
  |none=>
   rw[V] at a;have a:b++[]=fW n (N n.ao) s:=a;rw[eB] at a;have Z:(none:Option Vr).isSome=false:=R;refine S1 Z ?_;exact stop _ M3 K a
  |some j=>
   rw[V] at a W;have W:j=w:=W;subst W;have Z:(some j).isSome=true:=R;by_cases e:j.p=(0,0)
   .have a:b++(if j.p=(0,0) then[] else(j.p,j.t)::fW n x j.p)=fW n (N n.ao) s:=a;rw[ae e,eB] at a;rw[aB e] at O;refine S3 c6 Z O ?_;exact stop _ M3 K a
   .have a:b++(if j.p=(0,0) then[] else(j.p,j.t)::fW n x j.p)=fW n (N n.ao) s:=a;rw[ac e] at a;rw[aA e] at O;let⟨_,f,e⟩:=MM M3 j.p;rw[IX,IV] at e;refine S7 p0 u c6 f3 Z O f ?_;exact⟨N n.ao-(i+1),Y,(hI _ _ _).2 ⟨i+1,b++[(j.p,j.t)],j.p,R,a4,⟨dx p0,R,dx p4,dx p,R⟩,by rw[cM];exact e,⟨K.1,λc h1 U=>(ac U).t (K.2 c h1 U)⟩,by rw[dC,show N n.ao-(i+1)=x by omega];exact a⟩⟩
 .obtain rfl:i=N n.ao:=Y;rw[rH] at a;have a:b++[]=fW n (N n.ao) s:=a;rw[eB] at a;refine S2 p u ?_;exact stop _ Mz B a
def afl{c b:Nat}{P:S->Bool}(f:d.f c=LL [.p b 0])(h:d.f b=LL [.map q])(M:fL d q (lD P))(s:S)(k:g (.l (!P s)) d):∃e a,aq Tryz.prog 168 [s,.p c 0] d e a/\g e a:=by
 refine c0 func168 ?_;have a:=ML M s;refine S3 f h a ?_;exact k
def adf(a:eG n)(s:S):bO (jE n s):=by
 unfold jE;split
 .rename_i q h;exact(a.2.2.2.2.2 q (pY h)).2
 .exact GX
def afn(r:dL tt d n z)(v:eG n)(s:S)(k:∀y f,oP d.h f y (fA n s)->ai d.h d f->g y f):∃y f,aq Tryz.prog 147 [z,s] d y f/\g y f:=by
 have r':=r;obtain⟨p,w,B,C,rfl,-⟩:=r';refine c0 func147 ?_;have E:ai d.h d (d.X (LL [sV n.n,p,w,B,C,n.a])):=ap (.refl _ _);have c0:(d.X (LL [sV n.n,p,w,B,C,n.a])).f d.h=LL [sV n.n,p,w,B,C,n.a]:=ae R;have f:(d.X (LL [sV n.n,p,w,B,C,n.a])).h=d.h+1:=R;refine S0 ?_;generalize d.X (LL [sV n.n,p,w,B,C,II n.a])=o at*;refine al (Vd (zj r E) v λx e H D=>?_);have f:=D.1;have j:=aM E D;have u:=DD v;refine S0 ?_;refine al (aet H u s ?_);unfold fA at k;cases l:(aE n).contains s with
 |false=>
  rw[l] at k;refine S0 ?_;exact k _ _ (.inl ⟨R,ac dc⟩) j
 |true=>
  rw[l] at k;have p:=(D.2 _ (by omega:d.h<o.h)).t c0;obtain⟨b,f⟩:∃b,b=(((e.X (.mp [])).X (LL [.map e.h])).X (LL [.r])).put (e.h+1+1) (LL [.p (e.h+1) 0]):=⟨_,R⟩;have F:ai e.h e b:=by rw[f];exact cO (ap (ap (ap (.refl _ _)))) Y
  have w:b.h=e.h+3:=by rw[f];rfl
  have m3:fL b e.h (lD λ_=>false):=by
   have M:=Yb (d:=e);have M:=sB M (bJ _) (.X (y:=LL [.map e.h]) (ak _));have M:=sB M (by show e.h<e.h+1+1;omega) (.X (y:=LL [.r]) (ak _));rw[f];exact M.eq (ac Y)
  have f3:b.f (e.h+1)=LL [.map e.h]:=by rw[f];exact(ac Y).t ((ac (by show¬e.h+1=e.h+1+1;omega)).t (ae R))
  have g3:b.f (e.h+1+1)=LL [.p (e.h+1) 0]:=by rw[f];exact ae R
  have d3:=(F.2 _ (by omega:d.h<e.h)).t p;refine S1 p ?_;rw[<-f];clear f;have f:=aM j F;refine al (eq_then (zj r f) v s λnm a f f i r4 K=>?_);have f:=K.1;obtain⟨U,V,W,Z,k5,rfl⟩:=cJ r4;obtain⟨f,p⟩:∃f,f=i.X (LL [nm,U,V,W,Z,k5,a]):=⟨_,R⟩;have w:ai i.h i f:=by rw[p];exact ap (.refl _ _)
  have y:f.h=i.h+1:=by rw[p];rfl
  have C:f.f i.h=LL [nm,U,V,W,Z,k5,a]:=by rw[p];exact ae R
  have i:=aM K w;have a:=sB m3 Y i;have y:=(i.2 _ (by omega:e.h+1<b.h)).t f3;have B:=(i.2 _ (by omega:e.h+1+1<b.h)).t g3;have D:=(i.2 _ (by omega:d.h<b.h)).t d3;have P:=λc (h:ar x c)=>(H.bT h);have K:=rp r4 w;simp(disch:=omega)only[go_sem,sV,fc,dH,bF,<-p,B,C];refine al (adK (F:=λc=>b.h<=c) (fb:=e.h+1) (q:=e.h) (by show¬b.h<=e.h;omega) Y (jE n s) (adf v s) _ _ _ _ Y Y y a K λa p C=>?_);have b:=p.1;have w:=(p.2 _ (by omega:e.h+1<f.h) Y).t y;have y:=(p.2 _ (by omega:e.h+1+1<f.h) Y).t B;have B:=(p.2 _ (by omega:d.h<f.h) Y).t D;have b:ai e.h e a:=⟨Y,λc l=>(p.2 c Y Y).t ((i.2 c Y).t (F.2 c l))⟩;refine S2 y B ?_;refine al (agy (o:=e.h+1) (q:=e.h) (t:=e) (ak _) Y b (zj r j) v s Y Y w C λf i O=>?_);have p:=i.1;have f7:=(i.2 _ (by omega:e.h+1<a.h) Y).t w;have g7:=(i.2 _ (by omega:e.h+1+1<a.h) Y).t y;have m:ai e.h e f:=⟨Y,λc l=>(i.2 c Y Y).t (b.2 c l)⟩;have a:ce o.h f x (ci (aE n)):=H.aR m.1 λb _ q _=>m.2 b q;rw[aav] at O;refine S0 ?_;refine al (acP a u (p:=λt=>!((eS (jE n s)).contains t||(A6 n s).contains t)) ?_ λy8 I r8 a k8=>?_)
  .intro a a a t _ b b;have q:∀c,e.h<=c->¬ar x c:=λc l h=>by have:=(P c h).2.1;omega
   exact afl ((a _ (q _ Y)).t g7) ((a _ (q _ Y)).t f7) (O.eq (a _ (q _ (ak _)))) t b
  .refine S0 ?_;refine k _ _ ?_ ?_
   .rw[ae R];refine((by simpa only[Bool.not_not] using r8:oP o.h I y8 _)).mono Y
   .exact⟨Y,λc l=>(k8 c λh=>om ((P c h).1)).t ((m.2 c Y).t (j.2 c l))⟩
variable {x:AV}{h:Nat}
def afw{z:AV}{o:Option AV}:sN false z o=o.getD z:=by cases o<;>rfl
def ce.down{a:Nat}{l:L AV}(c:ce h d x l)(b:a<=h):ce a d x l:=c.imp id λ⟨b,e,a⟩=>⟨b,Y,a⟩
def B8(b:Nat)(a:HN)(d:Nat)(n:Nd):Prop:=∃y c M,b<=d/\d<a.h/\b<=c/\c<a.h/\a.f d=LL [y,.map c]/\ce b a y (ci (aE n))/\fL a c M/\∀s,oP b a ((M s).getD .e) (fA n s)
def B8.ext{d b:Nat}{U a:HN}(h:B8 d U b n)(e:ai U.h U a):B8 d a b n:=by
 let⟨y,m,M,b,c,f,g,i,j,k,l⟩:=h
 have:=e.1
 exact⟨y,m,M,b,Y,f,Y,(e.2 _ c).t i,j.aR e.1 (λb _ c _=>e.2 b c),sB k g e,λs=>(l s).aR e.1 λb _ c _ _=>e.2 b c⟩
def afm{s:S}(h:s∉aE n):fA n s=[]:=by
 unfold fA;rw[ac];intro g;exact h (zM.1 g)
def afH(r:dL tt d n z)(ok:eG n)(k:∀gb b,B8 d.h b gb n->ai d.h d b->g (.p gb 0) b):∃v' b,aq Tryz.prog 104 [z] d v' b/\g v' b:=by
 have r':=r;obtain⟨F,H,I,K,rfl,-⟩:=r';refine cf VA func104 ?_;have E:ai d.h d (d.X (LL [sV n.n,F,H,I,K,n.a])):=ap (.refl _ _);have c0:(d.X (LL [sV n.n,F,H,I,K,n.a])).f d.h=LL [sV n.n,F,H,I,K,n.a]:=ae R;have n0:(d.X (LL [sV n.n,F,H,I,K,n.a])).h=d.h+1:=R;refine S0 ?_;generalize d.X (LL [sV n.n,F,H,I,K,II n.a])=a1 at*;refine al (Vd (zj r E) ok λx a rx F=>?_);have H:=F.1;have Uu:=aM E F;have H:=DD ok;have K:=rx.rd.cells;have H:=(F.2 _ (by omega:d.h<a1.h)).t c0;have F:=λb e w=>bI (e:=b) rx.rd (D5 (aE n)) Y e w;obtain⟨f,b⟩:∃f,f=((a.X (.mp [])).X (LL [x,.map a.h])):=⟨_,R⟩;have V:ai a.h a f:=by rw[b];exact ap (ap (.refl _ _))
 have I:f.h=a.h+2:=by rw[b];rfl
 have I:fL f a.h (λ_=>none):=by
  have M:=fL.X (U:=a);have M:=sB M (bJ _) (.X (y:=LL [x,.map a.h]) (ak _));rw[b];exact M
 have f3:f.f (a.h+1)=LL [x,.map a.h]:=by rw[b];exact ae R
 have d3:=(V.2 _ (by omega:d.h<a.h)).t H;refine S1 K ?_;rw[<-b];clear b;refine S1 F ?_;let⟨J,Z⟩:=inv λj v m=>∃(i:Nat) (M:Nat×Nat->Option AV),j=N (aE n)-i/\i<=N (aE n)/\(v 1=.p d.h 0/\v 3=.p (a.h+1) 0/\v 14=x/\v 15=II (N (aE n))/\v 16=II i)/\fL m a.h M/\(∀s,(s∈(aE n).take i->oP d.h m ((M s).getD .e) (fA n s))/\(s∉(aE n).take i->M s=none))/\ax a.h f m;refine aT J (N (aE n)) ((Z _ _ _).2 ⟨0,_,R,aJ _,dy,I,λs=>⟨λh=>(by rw[gO] at h;cases h),λ_=>R⟩,.refl _ _⟩) ?_;intro j v m b;let⟨i,M,b,j,⟨p1,p3,D,p,q⟩,Mz,B,u⟩:=(Z _ _ _).1 b;have b:=u.1;have cz:m.f d.h=_:=(u.2 _ Y Y).t d3;have P:m.f (a.h+1)=_:=(u.2 _ Y Y).t f3;have rz:ce d.h m x (ci (aE n)):=(rx.down Y).aR Y λb _ hb _=>(u.2 b Y Y).t (V.2 b hb);have Ez:ai d.h d m:=⟨Y,λc j=>(u.2 c Y Y).t ((V.2 c Y).t (Uu.2 c j))⟩;by_cases o:i<N (aE n)
 .obtain⟨b,b,b,rfl,-,hb⟩:=rz.resolve_left (λl=>by have:=dv List.length l.2;rw[fI] at this;have:N (aE n)=0:=this;omega);have gl:=fI (aE n);have gs:=xi o;have et:=dt o;generalize (aE n)[i]=w at*;simp(disch:=omega)only[go_sem,p1,p3,D,p,q,hb,gl,gs,cz,P];refine bL (afn (zj r Ez) ok w λb O r5 t=>?_);have j:=t.1;have j:=sB Mz Y t;let⟨_,F,v⟩:=j.mE w b;have b:=(t.2 _ (by omega:a.h+1<m.h)).t P;refine S5 q F P b gl ?_;obtain⟨b,y,-,-⟩:=j;refine⟨N (aE n)-(i+1),Y,(Z _ _ _).2 ⟨i+1,_,R,o,⟨dx p1,dx p3,dx D,dx p,R⟩,v,λs=>⟨λh=>?_,λh=>?_⟩,⟨by show f.h<=O.h;omega,λc f b=>(ac b).t ((t.2 c Y).t (u.2 c f b))⟩⟩⟩
  .by_cases e:s=w
   .subst e;rw[ae R];exact(r5.mono Y).aR (ak _) λW _ _ a0 l=>ac λe=>by rw[e,y] at l;cases l
   .rw[ac e];have h:s∈(aE n).take i:=by
     rw[et] at h;exact(bA.1 h).elim id λl=>absurd (dM.1 l) e
    refine((B s).1 h).aR (by show m.h<=O.h;omega) λW _ C a0 l=>?_;exact(ac λe=>by rw[<-t.2 W C,e,y] at l;cases l).t (t.2 W C)
  .rw[et] at h;have e:s≠w:=λe=>h (bA.2 (.inr (dM.2 e)));rw[ac e];exact(B s).2 λl=>h (bA.2 (.inl l))
 .obtain rfl:i=N (aE n):=Y;rw[hU] at B;refine S3 p3 p q ?_;refine k _ _ ⟨x,a.h,M,Y,Y,Y,Y,P,rz,Mz,λs=>?_⟩ Ez;by_cases h:s∈aE n
  .exact(B s).1 h
  .rw[(B s).2 h,afm h];exact .inl dy
end
section
open Tryz
variable {x:AV}{g:AV->HN->Prop}{d:HN}{z:L AV}{h:Nat}{n:Nd}
def acR(l:L S)(x:S):(λt=>decide (t=x)||l.contains t)=λt=>(l++[x]).contains t:=by
 have e:=IX (λt=>l.contains t) x;rw[e];funext t;unfold mL;rw[ZI]
def agS{c a:Nat}{P:S->Bool}(e:d.f c=LL [.map a])(M:fL d a (lD P))(s:S)(k:g (.l (!P s)) d):∃b a,aq Tryz.prog 107 [s,.p c 0] d b a/\g b a:=by
 refine c0 func107 ?_;have a:=ML M s;refine S2 e a ?_;exact k
def acl{m:L S}(r:oP h d x m)(i:N m<=4294967296){p:S->Bool}{f:FuncId}{a:L AV}(e:IN d m p f a)(k:g (.l (m.any p)) d):∃c b,aq Tryz.prog 106 [x,.func f [] a] d c b/\g c b:=by
 refine c0 func106 ?_;refine S0 ?_;refine al (Nf r i e ?_);have b:=AM p m 0;cases e:dD p m 0 with
 |none=>
  rw[e] at b;have b:false=m.any p:=b;rw[<-b] at k;have c:gE none=18446744073709551615:=R;simp(disch:=omega)only[go_sem,c,MZ];exact k
 |some j=>
  rw[e] at b;have b:true=m.any p:=b;rw[<-b] at k;let⟨_,b,_⟩:=pL e;have c:gE (some j)=j:=R;refine S1 c ?_;exact k
def agT{f c b i:Nat}{l:L S}(a:d.f f=LL [.map b])(e:d.f c=LL [.p i 0])(G:B8 h d i n)(m:eG n)(M:fL d b (lD λt=>l.contains t))(s:S)(k:g (.l (ug n l s)) d):∃i b,aq Tryz.prog 105 [s,.p f 0,.p c 0] d i b/\g i b:=by
 refine c0 func105 ?_;have c:=ML M s;let⟨x,_,_,_,_,_,_,i,b,f,j⟩:=G;have b:=f.look s false .e;rw[afw] at b;unfold ug at k;cases f:l.contains s with
 |true=>
  rw[f] at c k;refine S2 a c ?_;exact k
 |false=>
  rw[f] at c k;have f:=bC (Ln s) (DD m);refine S5 a e i c b ?_;refine al (acl (j s) f (p:=λx=>!l.contains x) (λt _ b b=>agS a M t b) ?_);refine S0 ?_;exact k
def agV(r:dL tt d n z)(ok:eG n)(k:∀y h,(match gR n with|some o=>ce d.h h y (ci o)|none=>y=.e)->ai d.h d h->g (.t [y,.l (gR n).isSome]) h):∃o h,aq Tryz.prog 75 [z] d o h/\g o h:=by
 have r':=r;obtain⟨m,x,I,V,rfl,-⟩:=r';refine cf Wv func75 ?_;have E:ai d.h d (d.X (LL [sV n.n,m,x,I,V,n.a])):=ap (.refl _ _);have o:(d.X (LL [sV n.n,m,x,I,V,n.a])).h=d.h+1:=R;refine S0 ?_;generalize d.X (LL [sV n.n,m,x,I,V,II n.a])=o at*;refine al (afH (zj r E) ok λP a G m=>?_);have o:=m.1;have V:=aM E m;have m:=DD ok;obtain⟨f,o⟩:∃f,f=(((a.X (LL [.p P 0])).X (.mp [])).X (LL [.c])).put (a.h+1+1) (LL [.map (a.h+1)]):=⟨_,R⟩;have E3:ai a.h a f:=by rw[o];exact cO (ap (ap (ap (.refl _ _)))) Y
 have m:f.h=a.h+3:=by rw[o];rfl
 have m3:fL f (a.h+1) (lD λt=>([]:L S).contains t):=by
  have M:=Yb (d:=a.X (LL [.p P 0]));have M:=sB M (bJ _) (.X (y:=LL [.c]) (ak _));rw[o];exact M.eq (ac (by show¬a.h+1=a.h+1+1;omega))
 have c4:f.f a.h=LL [.p P 0]:=by rw[o];exact(ac Y).t ((ac (by show¬a.h=a.h+1+1;omega)).t ((ac (by show¬a.h=a.h+1;omega)).t (ae R)))
 have c5:f.f (a.h+1+1)=LL [.map (a.h+1)]:=by rw[o];exact ae R
 refine S0 ?_;rw[<-o];clear o;let⟨I,hI⟩:=inv λm x p=>∃(l:L S) (y:AV),m=N (aE n)-N l/\N l<=N (aE n)/\(x 4=.p a.h 0/\x 5=.p (a.h+1+1) 0/\x 6=.func 105 [] [.p (a.h+1+1) 0,.p a.h 0]/\x 7=y)/\ce f.h p y (ci l)/\fL p (a.h+1) (lD λt=>l.contains t)/\ax (a.h+1) f p/\zd n (N (aE n)-N l) l=gR n;refine aT I (N (aE n)) ((hI _ _ _).2 ⟨[],.e,R,aJ _,dy,.inl dy,m3,.refl _ _,R⟩) ?_;clear m3;intro m x p m;let⟨l,y,_,x,⟨U,p5,p6,p7⟩,ry,Z,C,i⟩:=(hI _ _ _).1 m;have m:=C.1;have O:p.f a.h=_:=(C.2 _ Y Y).t c4;have z5:p.f (a.h+1+1)=_:=(C.2 _ Y Y).t c5;have m:ai a.h a p:=⟨Y,λc F=>(C.2 c Y Y).t (E3.2 c F)⟩;have G2:=G.ext m;have EE:=aM V m;have m:=G2;let⟨_,x,M,h1,h2,_,_,D,h6,_,o⟩:=m;have K:=λh e w=>bI (e:=h) ry.rd (D5 l) Y e w;have H:=λh e w=>bI (e:=h) h6.rd (D5 (aE n)) Y e w;by_cases h:N l<N (aE n)
 .obtain⟨q,h⟩:∃q,N (aE n)-N l=q+1:=⟨N (aE n)-N l-1,Y⟩;rw[h] at i;have i:(match(aE n).find? (ug n l) with|some s=>zd n q (l++[s])|none=>none)=gR n:=i;refine S7 U p6 p7 K H O D ?_;refine al (Nf h6.t Y (p:=ug n l) (λt _ h h=>agT z5 O G2 ok Z t h) ?_);have u:=wG (ug n l) (aE n) 0;cases e:dD (ug n l) (aE n) 0 with
  |none=>
   rw[e] at u;have u:none=(aE n).find? (ug n l):=u;rw[<-u] at i;have i:none=gR n:=i;rw[<-i] at k;have ee:gE none=18446744073709551615:=R;simp(disch:=omega)only[go_sem,ee,MZ];exact k _ _ R EE
  |some j=>
   let⟨_,hj,_⟩:=pL e;have hj:j<N (aE n):=Y;rw[e] at u;have u:(aE n)[j-0]?=(aE n).find? (ug n l):=u;rw[uC,bM hj] at u;rw[<-u] at i;have i:zd n q (l++[(aE n)[j]])=gR n:=i;have ee:gE (some j)=j:=R;obtain⟨b,h,h,rfl,-,hb⟩:=h6.resolve_left (λv=>by have:=dv List.length v.2;rw[fI] at this;have:N (aE n)=0:=this;omega);have gl:=fI (aE n);have gs:=xi hj;generalize (aE n)[j]=w at*;let⟨es,eu,W⟩:=MM Z w;rw[acR] at W;obtain⟨h,j,-,-⟩:=Z;have B:∀c h,p.f c=LL h->c≠a.h+1:=λc h v e=>by rw[e,j] at v;cases v
   obtain⟨e,j⟩:∃e,e=p.put (a.h+1) (.mp es):=⟨_,R⟩;rw[<-j] at W eu;have h:e.h=p.h:=by rw[j];rfl
   have h:∀c,c≠a.h+1->e.f c=p.f c:=λc F=>by rw[j];exact ac F
   have m:=(h a.h Y).t O;have a:=(h P (B _ _ D)).t D;have j:=(h b (B _ _ hb)).t hb;simp(disch:=omega)only[go_sem,U,p5,p7,ee,O,z5,D,hb,gl,gs,eu,m,a,j];have b:ce f.h e y (ci l):=ry.aR Y λc _ _ v=>h c (B _ _ v);let⟨j,o,a,m,t⟩:=si (w:=16) (d:=e.X (LL [w])) (v:=.s w.1 w.2) (i:=e.h) (c:=.k 1) (b.aR (e:=e.X (LL [w])) (iC _) λc _ h2 _=>ac Y) (ae R) (bJ _) (by rw[fI];omega) (by show f.h<=e.h+1;omega);rw[xh] at a;rw[fI] at o a;have s:j.h=e.h+2:=m;have m:∀c,ar y c->f.h<=c:=λc F=>(b.bT F).1;have s:N (l++[w])=N l+1:=ay;have b:∀c,c<p.h->c<f.h->j.f c=e.f c:=λc h1 h2=>(t c (by show c<e.h+1;omega) (λv=>om (m c v))).t (ac Y);rw[o];refine S0 ?_;refine⟨N (aE n)-(N l+1),Y,(hI _ _ _).2 ⟨l++[w],_,by rw[s],Y,⟨dx U,dx p5,dx p6,R⟩,a,W.eq (b _ Y Y),⟨Y,λc a e=>(b c Y a).t ((h c e).t (C.2 c a e))⟩,by rw[s,show(aE n).length-(N l+1)=q by omega];exact i⟩⟩
 .have a:N l=N (aE n):=Y;rw[a,rH] at i;have i:some l=gR n:=i;rw[<-i] at k;refine S6 U p7 K H O D ?_;exact k _ _ (ry.down Y) EE
end
end Go.Proofs.YtehahhggpdhieaaGreatDoor
