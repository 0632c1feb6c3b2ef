/- Lemmas of the walk of EmitKinds are proved. Conditions: none. -/
import Derived.Test.YtehahhggpdhieaaGreatDoorX19
namespace Go.Proofs.YtehahhggpdhieaaGreatDoor
set_option maxRecDepth 100000
set_option maxHeartbeats 32000000
set_option linter.all false
section
open Tryz
variable {g:AV->HN->Prop}{d:HN}{m:L (L AV)}{z:L AV}{l:L Nd}{i s:Nat}{n:Nd}
def ql{a l:L AV}{o:Nat}(h:(a.drop o).take s=l)(j:Nat)(b:j<s):a.getD (o+j) bp=l.getD j bp:=by
 rw[<-h,cA,cA,qG,ae b,mG]
def pH{a l:L AV}{o:Nat}(h:(a.drop o).take s=l)(b:0<s):a.getD o bp=l.getD 0 bp:=ql h 0 b
def Pl{a:Type}{p:a->Bool}{l:L a}(h:i<N l):(l.drop i).any p=if p l[i] then true else(l.drop (i+1)).any p:=by
 rw[eJ h,vL];cases p l[i]<;>rfl
def LO{v:AV}(u:aK 6 d v m)(h:fZ tt d l m)(a:N l<=64)(s:S)(k:g (II (gE (dD (λa=>decide (a.n=s)) l 0))) d):∃c b,aq Tryz.prog 53 [v,s] d c b/\g c b:=by
 let⟨c,e⟩:=pm h;refine c0 func53 ?_;have q:=λb e w=>bI (e:=b) u c Y e w;refine S0 ?_;generalize w:(λa:Nd=>decide (a.n=s))=p at*;let⟨I,o⟩:=inv λc b f=>∃i,c=N l-i/\i<=N l/\(b 0=v/\b 1=.s s.1 s.2/\b 5=II i)/\f=d/\dD p (l.drop i) i=dD p l 0;refine aT I (N l) ((o _ _ _).2 ⟨0,R,aJ _,dy,R,R⟩) ?_;intro c b f b;obtain⟨i,c,b,⟨n,r,t⟩,rfl,c⟩:=(o _ _ _).1 b;by_cases f:i<N l
 .let⟨j,x⟩:=ph h i f;obtain⟨b,off,cap,b,row,rfl,h,b,b,b⟩:=u.at j;rw[yM f] at c;generalize l[i]=a at*;obtain⟨j,j,j,j,j,-⟩:=x;rw[j] at b;have u:row.getD (off+i*6) bp=.s a.n.1 a.n.2:=(pH b dc).t R;have j:=bz a.n s;have b:p a=de (a.n=s):=by rw[<-w]
  by_cases e:a.n=s
  .rw[aB e] at j b;rw[b,ae R] at c;rw[<-c] at k;have a:gE (some i)=i:=R;rw[a] at k;refine S7 n r t q h u j ?_;exact k
  .rw[aA e] at j b;rw[b,ac (by decide)] at c;refine S7 n r t q h u j ?_;exact⟨N l-(i+1),Y,(o _ _ _).2 ⟨i+1,R,f,⟨dx n,dx r,R⟩,R,c⟩⟩
 .obtain rfl:i=N l:=Y;rw[fQ] at c;have c:none=dD p l 0:=c;rw[<-c] at k;have a:gE none=18446744073709551615:=R;rw[a] at k;refine S3 n t q ?_;exact k
def aeD(r:dL tt d n z)(W:eG n)(s:S)(k:∀a,ai d.h d a->g (.l (n.ins.any λv=>decide (v.n=s))) a):∃B a,aq Tryz.prog 63 [z,s] d B a/\g B a:=by
 obtain⟨m,o,q,t,rfl,-,P,-⟩:=r;have B:=W.2.1.1;refine c0 func63 ?_;have B:sV n.n=.s n.n.1 n.n.2:=R;have C:=λa e w=>bI (e:=a) P (jy _) Y e w;have E:ai d.h d (d.X (LL [n.n,m,o,q,t,n.a])):=ap (.refl _ _);have c0:(d.X (LL [n.n,m,o,q,t,n.a])).f d.h=LL [n.n,m,o,q,t,n.a]:=ae R;refine S1 B ?_;generalize d.X (LL [.s n.n.1 n.n.2,m,o,q,t,II n.a])=K at*;generalize U:(λv:Vr=>decide (v.n=s))=p at*;generalize n.ins=V at*;let⟨I,u⟩:=inv λm a H=>∃i,m=N V-i/\i<=N V/\(a 1=.s s.1 s.2/\a 2=.p d.h 0/\a 5=II i)/\H=K/\(V.drop i).any p=V.any p;refine aT I (N V) ((u _ _ _).2 ⟨0,R,aJ _,dy,R,R⟩) ?_;intro m a H O;obtain⟨i,a,O,⟨D,l,F⟩,rfl,c⟩:=(u _ _ _).1 O;by_cases f:i<N V
 .obtain⟨b,off,cap,a,row,rfl,y,x,a,j⟩:=zG P f;have h:H.f b=_:=(E.2 _ x).t y;rw[Pl f] at c;generalize V[i]=w at*;have m:row.getD (off+i*5) bp=.s w.n.1 w.n.2:=(pH j dc).t R;have b:=bz w.n s;have a:p w=de (w.n=s):=by rw[<-U]
  by_cases e:w.n=s
  .rw[aB e] at b a;rw[a,ae R] at c;rw[<-c] at k;refine S8 D l F c0 C h m b ?_;exact k _ E
  .rw[aA e] at b a;rw[a,ac (by decide)] at c;refine S8 D l F c0 C h m b ?_;exact⟨N V-(i+1),Y,(u _ _ _).2 ⟨i+1,R,f,⟨dx D,dx l,R⟩,R,c⟩⟩
 .obtain rfl:i=N V:=Y;rw[fQ] at c;have c:false=V.any p:=c;rw[<-c] at k;refine S4 l F c0 C ?_;exact k _ E
def adm(r:dL tt d n z)(ok:eG n)(s:S)(k:∀c D,N D=7->ai d.h d c->g (.t [.g D,.l (n.r.any λq=>decide (q.n=s))]) c):∃D c,aq Tryz.prog 65 [.g z,.s s.1 s.2] d D c/\g D c:=by
 obtain⟨l,m,o,t,rfl,-,-,-,-,D,r4,r5⟩:=r;have D:=ok.2.2.2.2.1;have I:=(lS r5).1;refine c0 func65 ?_;have D:sV n.n=.s n.n.1 n.n.2:=R;have F:=λc e w=>bI (e:=c) r4 I Y e w;have E:ai d.h d ((d.X (.E false [.s n.n.1 n.n.2,l,m,o,t,.i .i64 n.a])).X (.E false [.s 0 0,.s 0 0,.s 0 0,.i .i64 0,.i .i64 0,.e,.i .i64 0])):=ap (ap (.refl _ _));have c0:((d.X (.E false [.s n.n.1 n.n.2,l,m,o,t,.i .i64 n.a])).X (.E false [.s 0 0,.s 0 0,.s 0 0,.i .i64 0,.i .i64 0,.e,.i .i64 0])).f d.h=.E false [.s n.n.1 n.n.2,l,m,o,t,.i .i64 n.a]:=(ac (by show¬d.h=d.h+1;omega)).t (ae R);have W:((d.X (.E false [.s n.n.1 n.n.2,l,m,o,t,.i .i64 n.a])).X (.E false [.s 0 0,.s 0 0,.s 0 0,.i .i64 0,.i .i64 0,.e,.i .i64 0])).f (d.h+1)=.E false [.s 0 0,.s 0 0,.s 0 0,.i .i64 0,.i .i64 0,.e,.i .i64 0]:=ae R;refine S1 D ?_;generalize (d.X (.E false [.s n.n.1 n.n.2,l,m,o,t,.i .i64 n.a])).X (.E false [.s 0 0,.s 0 0,.s 0 0,.i .i64 0,.i .i64 0,.e,.i .i64 0])=U at*;generalize hp:(λq:aX=>decide (q.n=s))=p at*;generalize n.r=V at*;let⟨I,x⟩:=inv λm c P=>∃i,m=N V-i/\i<=N V/\(c 1=.s s.1 s.2/\c 2=.p d.h 0/\c 4=.p (d.h+1) 0/\c 6=.i .i64 i)/\P=U/\(V.drop i).any p=V.any p;refine aT I (N V) ((x _ _ _).2 ⟨0,R,aJ _,dy,R,R⟩) ?_;intro m c P hi;obtain⟨i,c,hi,⟨H,u,K,O⟩,rfl,f⟩:=(x _ _ _).1 hi;by_cases h:i<N V
 .let⟨C,ri⟩:=sh r5 i h;obtain⟨b,off,cap,c,row,rfl,B,y,c,a⟩:=r4.at C;have j:P.f b=_:=(E.2 _ y).t B;rw[Pl h] at f;generalize V[i]=w at*;let⟨b,v,re⟩:=ri;obtain⟨Z,f2,f3,f4,f5,rfl⟩:=cJ re;rw[v] at a;have a:(row.drop (off+i*7)).take 7=[.s w.n.1 w.n.2,.s Z.1 Z.2,.s f2.1 f2.2,.i .i64 f3,.i .i64 f4,f5,.i .i64 w.a]:=a;have l:row.getD (off+i*7) bp=.s w.n.1 w.n.2:=(pH a dc).t R;have c:=bz w.n s;have b:p w=de (w.n=s):=by rw[<-hp]
  by_cases e:w.n=s
  .rw[aB e] at c b;rw[b,ae R] at f;rw[<-f] at k;simp(disch:=omega)only[go_sem,H,u,K,O,c0,W,F,j,l,c,a,bF];exact k _ _ R (cO E Y)
  .rw[aA e] at c b;rw[b,ac (by decide)] at f;refine S8 H u O c0 F j l c ?_;exact⟨N V-(i+1),Y,(x _ _ _).2 ⟨i+1,R,h,⟨dx H,dx u,dx K,R⟩,R,f⟩⟩
 .obtain rfl:i=N V:=Y;rw[fQ] at f;have f:false=V.any p:=f;rw[<-f] at k;refine S6 u K O c0 W F ?_;exact k _ _ R (cO E Y)
variable {e t:HN}{a:Nat}
def sK{e:Nat}{b:Bd}{m:Nat}(c:e<=m)(h:b.1<=m):(kV e a b).1<=m:=by
 unfold kV;split
 .exact c
 .exact h
def tQ{c:Bool}{e:Nat}{b:Bd}{m:Nat}(d:e<=m)(h:b.1<=m):(dI c e a b).1<=m:=by
 unfold dI;split
 .exact sK d h
 .exact h
mutual
def LG{h:L Nd}{n:Nd}:∀(e:Tr) (b:Bd),b.1<=100->(rX h n e b).1<=100
 |.mk op e _ a d,b,c=>by
  unfold rX;exact Uh d _ (tQ dc c)
def Uh{h:L Nd}{n:Nd}:∀(a:L Tr) (b:Bd),b.1<=100->(oZ h n a b).1<=100
 |[],b,a=>by unfold oZ;exact a
 |k::r,b,a=>by
  unfold oZ;exact Uh r _ (LG k _ a)
end
def aga{h:L Nd}{a:L Tr}{b:Bd}(c:i<N a):oZ h n (a.drop i) b=oZ h n (a.drop (i+1)) (rX h n a[i] b):=by
 rw[eJ c]
 conv=>lhs;unfold oZ
def jF{a:Nat}(x:ai t.h t d)(b:t.h<=a)(y:ax a d e):ai t.h t e:=⟨bC x.1 y.1,λb c=>(y.2 b (cW c x.1) Y).t (x.2 b c)⟩
def CL(a:Nat)(x:ai d.h d e):ax a d e:=⟨x.1,λb c _=>x.2 b c⟩
def cG(c:HN)(a:Nat)(b:Bd):Prop:=c.f a=LL [b.1,b.2]
def af1{v:AV}{h:L Nd}(T:uK t v h n z){O:Nat}(hc:t.h<=O):∀(e:Tr),bO e->∀(q:HN) (f:L AV) (b:Bd) (Q:AV->HN->Prop),ai t.h t q->O<q.h->cG q O b->b.1<=100->bn tt t e f->
  (∀B,ax O q B->cG B O (rX h n e b)->Q (.t []) B)->∃v' B,aq Tryz.prog 64 [.p O 0,v,z,f] q v' B/\Q v' B:=by
 refine Tr.E λo k b0 a u ih=>?_;intro ok q f b Q x b3 hb b7 r kk;unfold bO at ok;let⟨_,f,a8⟩:=ok;have a8:=(mw _).1 a8;have f:=r;unfold bn at r;obtain⟨y,rfl,-,f,ry,b5⟩:=r;have c:=(kI b5).1;obtain⟨y1,y2,y3,y4,rfl,-⟩:=T.hz;let⟨lv,rv,rl⟩:=T.hv;let⟨hl,c3⟩:=T.hl;have f:sV n.n=.s n.n.1 n.n.2:=R;have r:rX h n (.mk o k b0 a u) b=oZ h n u (dI (!jT h n o k (N u)) 8 a b):=by
  conv=>lhs;unfold rX
 rw[r] at kk;have l3:=λB e w=>bI (e:=B) ry c Y e w;have e1:aI o.1 o.2 3 7496054=de (o=bR):=bz o bR;have e2:aI o.1 o.2 4 1852139639=de (o=bB):=bz o bB;have e3:aI o.1 o.2 5 435527247213=de (o=bD):=bz o bD;have e4:aI o.1 o.2 4 1819042147=de (o=bK):=bz o bK;refine cf Wp func64 ?_;let⟨K,hK⟩:=jH λs p=>(s 0=.p O 0/\s 1=v/\s 6=.p q.h 0/\s 7=.p (q.h+1) 0/\s 11=II 0)/\ax O q p/\q.h+1<p.h/\p.f q.h=LL [n.n,y1,y2,y3,y4,n.a]/\p.f (q.h+1)=LL [o,k,b0,a,y]/\cG p O (dI (!jT h n o k (N u)) 8 a b);refine iB (M:=K) 3 _ _ _ ?_ ?_
 rotate_left
 .obtain⟨m,h1⟩:∃m,m=(q.X (LL [n.n,y1,y2,y3,y4,n.a])).X (LL [o,k,b0,a,y]):=⟨_,R⟩;have E:ai q.h q m:=by rw[h1];exact ap (ap (.refl _ _))
  have c0:m.f q.h=LL [n.n,y1,y2,y3,y4,n.a]:=by rw[h1];exact(ac (by show¬q.h=q.h+1;omega)).t (ae R)
  have D:m.f (q.h+1)=LL [o,k,b0,a,y]:=by rw[h1];exact ae R
  have c:m.h=q.h+2:=by rw[h1];rfl
  have I:m.f O=_:=(E.2 _ b3).t hb;have X:ax O q m:=CL O E;simp(disch:=omega)only[go_sem,sV];rw[<-h1];clear h1;have x1:ai t.h t m:=x.M (E.mono x.1);have a5:=ic T.hz x1;rw[f] at a5;have a2:∀(f:Bool) (s:FN) (p:HN),jT h n o k (N u)=f->(s 0=.p O 0/\s 1=v/\s 6=.p q.h 0/\s 7=.p (q.h+1) 0/\s 11=II 0)->ai m.h m p->f=true->K s p:=λf s p F hp d hf=>by
   subst hf;rw[F] at hK
   have:=d.1
   exact(hK _ _).2 ⟨hp,X.of d,Y,(d.2 _ Y).t c0,(d.2 _ Y).t D,(d.2 _ Y).t I⟩
  have a0:∀(s:FN) (p C:HN),jT h n o k (N u)=false->(s 0=.p O 0/\s 1=v/\s 6=.p q.h 0/\s 7=.p (q.h+1) 0/\s 11=II 0)->ai m.h m p->C.h=p.h->cG C O (kV 8 a b)->(∀c,c≠O->C.f c=p.f c)->K s C:=λs p C F hp d f U hk=>by
   rw[F] at hK
   have:=d.1
   exact(hK _ _).2 ⟨hp,⟨Y,λc h1 f=>(hk c f).t ((X.of d).2 c h1 f)⟩,Y,(hk _ Y).t ((d.2 _ Y).t c0),(hk _ Y).t ((d.2 _ Y).t D),U⟩
  have V:o=bR\/o=bB\/o=bD->jT h n o k (N u)=(aO n k).isSome:=λg=>ae g;have a9:∀w:Vr,w.cells=[.s w.n.1 w.n.2,II w.z,.s w.p.1 w.p.2,.l w.t,II w.a]:=λ_=>R;by_cases q1:o=bR
  .rw[aB q1] at e1;have F:=V (.inl q1);refine S3 e1 c0 D ?_;refine al (vc a5 T.ok k λp d=>?_);rw[a9];have W:ai m.h m (p.X (LL [.s ((aO n k).getD dm).n.1 ((aO n k).getD dm).n.2,II ((aO n k).getD dm).z,.s ((aO n k).getD dm).p.1 ((aO n k).getD dm).p.2,.l ((aO n k).getD dm).t,II ((aO n k).getD dm).a])):=ap d;have d1:=(W.2 _ Y).t D;have db:=(W.2 _ Y).t I;refine S0 ?_;generalize p.X (LL [.s ((aO n k).getD dm).n.1 ((aO n k).getD dm).n.2,II ((aO n k).getD dm).z,.s ((aO n k).getD dm).p.1 ((aO n k).getD dm).p.2,.l ((aO n k).getD dm).t,II ((aO n k).getD dm).a])=b6 at*;cases hf:(aO n k).isSome with
   |true=>
    rw[hf] at F;refine S0 ?_;exact a2 _ _ _ F dy W R
   |false=>
    rw[hf] at F;refine S1 d1 ?_;refine al (jS db Y λC Z P g3=>?_);refine S0 ?_;exact a0 _ _ _ F dy W Z P g3
  rw[aA q1] at e1;by_cases q2:o=bB
  .rw[aB q2] at e2;have F:=V (.inr (.inl q2));refine S4 e1 e2 c0 D ?_;refine al (vc a5 T.ok k λp d=>?_);rw[a9];have W:ai m.h m (p.X (LL [.s ((aO n k).getD dm).n.1 ((aO n k).getD dm).n.2,II ((aO n k).getD dm).z,.s ((aO n k).getD dm).p.1 ((aO n k).getD dm).p.2,.l ((aO n k).getD dm).t,II ((aO n k).getD dm).a])):=ap d;have d1:=(W.2 _ Y).t D;have db:=(W.2 _ Y).t I;refine S0 ?_;generalize p.X (LL [.s ((aO n k).getD dm).n.1 ((aO n k).getD dm).n.2,II ((aO n k).getD dm).z,.s ((aO n k).getD dm).p.1 ((aO n k).getD dm).p.2,.l ((aO n k).getD dm).t,II ((aO n k).getD dm).a])=b6 at*;cases hf:(aO n k).isSome with
   |true=>
    rw[hf] at F;refine S0 ?_;exact a2 _ _ _ F dy W R
   |false=>
    rw[hf] at F;refine S1 d1 ?_;refine al (jS db Y λC Z P g3=>?_);refine S0 ?_;exact a0 _ _ _ F dy W Z P g3
  rw[aA q2] at e2;by_cases q3:o=bD
  .rw[aB q3] at e3;have F:=V (.inr (.inr q3));refine S5 e1 e2 e3 c0 D ?_;refine al (vc a5 T.ok k λp d=>?_);rw[a9];have W:ai m.h m (p.X (LL [.s ((aO n k).getD dm).n.1 ((aO n k).getD dm).n.2,II ((aO n k).getD dm).z,.s ((aO n k).getD dm).p.1 ((aO n k).getD dm).p.2,.l ((aO n k).getD dm).t,II ((aO n k).getD dm).a])):=ap d;have d1:=(W.2 _ Y).t D;have db:=(W.2 _ Y).t I;refine S0 ?_;generalize p.X (LL [.s ((aO n k).getD dm).n.1 ((aO n k).getD dm).n.2,II ((aO n k).getD dm).z,.s ((aO n k).getD dm).p.1 ((aO n k).getD dm).p.2,.l ((aO n k).getD dm).t,II ((aO n k).getD dm).a])=b6 at*;cases hf:(aO n k).isSome with
   |true=>
    rw[hf] at F;refine S0 ?_;exact a2 _ _ _ F dy W R
   |false=>
    rw[hf] at F;refine S1 d1 ?_;refine al (jS db Y λC Z P g3=>?_);refine S0 ?_;exact a0 _ _ _ F dy W Z P g3
  rw[aA q3] at e3;have l:jT h n o k (N u)=if o=bK then iP h k (N u) else true:=ac (by rintro(g|g|g)<;>contradiction)
  by_cases q4:o=bK
  .rw[ae q4] at l;rw[aB q4] at e4;refine S5 e1 e2 e3 e4 D ?_;have c:=(pm rl).1;refine al (LO (rv.ext (f:=0) x1) (iJ (iS x1) x1.1 (λ_ h=>h) rl) hl k ?_);have fd:=wG (λn:Nd=>decide (n.n=k)) h 0;cases e:dD (λn:Nd=>decide (n.n=k)) h 0 with
   |none=>
    have ec:iP h k (N u)=false:=by
     rw[e] at fd;unfold iP;rw[<-fd]
    rw[ec] at l;have ee:gE none=18446744073709551615:=R;simp(disch:=omega)only[go_sem,D,ee,yT];refine al (jS I Y λC Z P g3=>?_);refine S0 ?_;exact a0 _ _ _ l dy (.refl _ _) Z P g3
   |some j=>
    let⟨_,hj,_⟩:=pL e;have ee:gE (some j)=j:=R;have hj:j<N h:=Y;let⟨c2,rj⟩:=ph rl j hj;obtain⟨bv,off,cap,ro,row,rfl,a7,a6,b4,H⟩:=rv.at c2;obtain⟨d,K⟩:∃d,d=h[j]:=⟨_,R⟩;have c:=c3 _ (aU hj);rw[<-K] at rj c;obtain⟨f,r,V,V,V,-,W,r2,-⟩:=rj;rw[V] at H;have a3:m.f bv=_:=(x1.2 bv a6).t a7;have Z:row.getD (off+j*6+1) bp=f:=(ql H 1 dc).t R;have P:row.getD (off+j*6+2) bp=r:=(ql H 2 dc).t R;have m:=λB e w=>bI (e:=B) W (n:=N d.ins) (by rw[aC]) (om c.2.1.1) e w;have f:=λB e w=>bI (e:=B) r2 (n:=N d.o) (by rw[aC]) (om c.2.2.1.1) e w;have ec:iP h k (N u)=de (N d.o=1/\N d.ins=N u):=by
     rw[e] at fd;have fd:h[j-0]?=h.find? (λn:Nd=>decide (n.n=k)):=fd;unfold iP;rw[<-fd,uC,bM hj,K]
    rw[ec] at l;by_cases c:N d.o=1
    .by_cases e:N d.ins=N u
     .rw[aB ⟨c,e⟩] at l;simp(disch:=omega)only[go_sem,D,ee,a3,Z,P,m,f,l3,c,e];exact a2 _ _ _ l dy (.refl _ _) R
     .rw[aA (λg=>e g.2)] at l;simp(disch:=omega)only[go_sem,D,ee,a3,Z,P,m,f,l3,c,e];refine al (jS I Y λC Z P g3=>?_);refine S0 ?_;exact a0 _ _ _ l dy (.refl _ _) Z P g3
    .rw[aA (λg=>c g.1)] at l;refine S6 D ee a3 P f c ?_;refine al (jS I Y λC Z P g3=>?_);refine S0 ?_;exact a0 _ _ _ l dy (.refl _ _) Z P g3
  .rw[ac q4] at l;rw[aA q4] at e4;refine S4 e1 e2 e3 e4 ?_;exact a2 _ _ _ l dy (.refl _ _) R
 .intro s p hk;let⟨⟨p0,p1,p6,p7,a1⟩,X,nz,c0,D,U⟩:=(hK _ _).1 hk;have b8:(dI (!jT h n o k (N u)) 8 a b).1<=100:=tQ dc b7;generalize dI (!jT h n o k (N u)) 8 a b=b2 at*;clear hk hK;refine S0 ?_;let⟨I,hI⟩:=inv λm s p=>∃i b',m=N u-i/\i<=N u/\(s 0=.p O 0/\s 1=v/\s 6=.p q.h 0/\s 7=.p (q.h+1) 0/\s 11=II i)/\ax O q p/\q.h+1<p.h/\p.f q.h=LL [n.n,y1,y2,y3,y4,n.a]/\p.f (q.h+1)=LL [o,k,b0,a,y]/\cG p O b'/\b'.1<=100/\oZ h n (u.drop i) b'=oZ h n u b2;refine aT I (N u) ((hI _ _ _).2 ⟨0,b2,R,aJ _,⟨dx p0,dx p1,dx p6,dx p7,dx a1⟩,X,nz,c0,D,U,b8,R⟩) ?_;clear p0 p1 p6 p7 a1 X nz c0 D U;intro m s p a;let⟨i,b',b,a,⟨p0,p1,p6,p7,a1⟩,X,nz,c0,D,U,b1,en⟩:=(hI _ _ _).1 a;have xz:=jF x hc X;by_cases a4:i<N u
  .let⟨b9,ri⟩:=pf b5 i a4;obtain⟨bk,off,cap,ro,row,rfl,a7,a6,b4,H⟩:=ry.at b9;have a3:p.f bk=_:=(xz.2 bk a6).t a7;let⟨a,f2,f3,f4,f5,F⟩:=cJ ri;rw[F] at H ri;rw[aga a4] at en;simp(disch:=omega)only[go_sem,p0,p1,p6,p7,a1,c0,D,l3,a3,H];refine bL (ih _ (aU a4) (a8 _ (aU a4)) p _ b' _ xz (cW b3 X.1) U b1 ri λa b a=>?_);have c:=(b.2 _ Y Y).t c0;have d1:=(b.2 _ Y Y).t D;have d:=b.1;refine S1 a1 ?_;exact⟨N u-(i+1),Y,(hI _ _ _).2 ⟨i+1,rX h n u[i] b',R,a4,⟨dx p0,dx p1,dx p6,dx p7,R⟩,X.M b,Y,c,d1,a,LG _ _ b1,en⟩⟩
  .obtain rfl:i=N u:=Y;rw[fQ] at en;have en:b'=oZ h n u b2:=by rw[<-en];unfold oZ;rfl
   rw[<-en] at kk;refine S4 p7 a1 D l3 ?_;exact kk _ X U
end
section
variable {x y:AV}{g:AV->HN->Prop}{d:HN}{m:L (L AV)}{l:L Nd}{b i j k s:Nat}{n:Nd}
def age{v:Vr}{l:L Vr}{j:Nat}{r:Bool×Bd}(a:j<N l):qw v (l.drop j) r=qw v (l.drop (j+1)) (r.1||de (l[j].n=v.p),dI (de (l[j].n=v.n)) 8 v.a r.2):=by
 rw[eJ a];rfl
def agf{l:L Vr}{b:Bd}(a:k<N l):vo (l.take k) (l.drop k) b=vo (l.take (k+1)) (l.drop (k+1)) (dI (!(qw l[k] (l.take k) (de (l[k].p=(0,0)),b)).1) 8 l[k].a (qw l[k] (l.take k) (de (l[k].p=(0,0)),b)).2):=by
 rw[eJ a,dt a];rfl
def af9{h:L Nd}{l:L aX}{b:Bd}(a:k<N l):sR h n (l.take k) (l.drop k) b=sR h n (l.take (k+1)) (l.drop (k+1)) (rX h n l[k].e (dI (!(aO n l[k].n).isSome||n.ins.any (λv=>decide (v.n=l[k].n))||(l.take k).any (λp=>decide (p.n=l[k].n))) 8 l[k].a b)):=by
 rw[eJ a,dt a];rfl
def agd{l:L Vr}{b:Bd}(a:k<N l):ud n (l.drop k) b=ud n (l.drop (k+1)) (dI (!n.r.any λq=>decide (q.n=l[k].n)) 8 l[k].a b):=by
 rw[eJ a];rfl
def agc{b:Bd}(a:i<N l):wQ (l.take i) (l.drop i) b=wQ (l.take (i+1)) (l.drop (i+1)) (Dq (l.take i) l[i] b):=by
 rw[eJ a,dt a];rfl
def Xt{n:Nat}{a:Cp}(h:aK s d (.a b j n a) m)(f:i<=N m):aK s d (.a b j i a) (m.take i):=by
 rcases h with⟨rfl,_⟩|⟨c,c,c,p,row,g,k,l,c,e,o⟩
 .obtain rfl:i=0:=Nat.le_zero.1 f;exact .inl ⟨R,.inr ⟨b,j,a,R⟩⟩
 .cases g;have c:N (m.take i)=i:=by rw[dW];omega
  have g:i*s<=N m*s:=tu _ f;refine .inr ⟨b,j,a,p,row,by rw[c],k,l,by rw[c];omega,λl h=>e l (rE h),?_⟩;have f:=jZ (s:=s) (m.take i) (λl h=>e l (rE h));have e:m.flatten=(m.take i).flatten++(m.drop i).flatten:=by rw[<-nh,mH]
  have:(row.drop j).take (i*s)=((row.drop j).take (N m*s)).take (i*s):=by rw[vP,xH g]
  rw[c,this,o,e];rw[c] at f;rw[<-f,Et];rfl
def R1:fU .i64 18446744073709551615 0=true:=R
def pV{V:L Vr}(k:aK 5 d x (V.map Vr.cells))(h:0<N V):∃b a e f c,x=.a b a (N V) e/\d.f b=.E f c/\b<d.h/\∀j (i:j<N V),a+j*5+5<=N c/\(c.drop (a+j*5)).take 5=[.s V[j].n.1 V[j].n.2,II V[j].z,.s V[j].p.1 V[j].p.2,.l V[j].t,II V[j].a]:=by
 obtain⟨b,a,e,f,c,rfl,g,l,-,-⟩:=zG k h;refine⟨b,a,e,f,c,R,g,l,λj i=>?_⟩;obtain⟨a,a,a,a,a,e,a,-,b,c⟩:=zG k i;cases e;rw[g] at a;cases a;exact⟨b,c⟩
def At{e:L aX}{n:L (L AV)}(r:aK 7 d y n)(s:mU tt d e n)(h:0<N e):∃b a f o c,y=.a b a (N n) f/\d.f b=.E o c/\b<d.h/\∀j (q:j<N e),∃(g i:S) (k l:Nat) (m:AV),a+j*7+7<=N c/\(c.drop (a+j*7)).take 7=[.s e[j].n.1 e[j].n.2,.s g.1 g.2,.s i.1 i.2,II k,II l,m,II e[j].a]/\bn tt d e[j].e [g,i,k,l,m]:=by
 let⟨t,e⟩:=sh s 0 h;obtain⟨b,a,f,o,c,rfl,p,e,-,-⟩:=r.at t;refine⟨b,a,f,o,c,R,p,e,λj q=>?_⟩;let⟨b,c⟩:=sh s j q;obtain⟨a,a,a,a,a,e,a,-,j,f⟩:=r.at b;cases e;rw[p] at a;cases a;let⟨_,a,b⟩:=c;obtain⟨g,i,k,l,m,rfl⟩:=cJ b;rw[a] at f;exact⟨g,i,k,l,m,j,f,b⟩
attribute [-go_sem] wp_block in
def af0{v:AV}(ok:ow l)(sl:Ce v)(rv:aK 6 d v m)(rl:fZ tt d l m)
  (k:∀U,ai d.h d U->g (.g [II (nF l).1,II (nF l).2]) U):∃I U,aq Tryz.prog 34 [v] d I U/\g I U:=by
 let⟨hl,m2⟩:=ok;let⟨I,q1⟩:=pm rl;refine cf Wc Tryz.func34 ?_;have ln:=λU e w=>bI (e:=U) rv I Y e w;have E0:ai d.h d ((d.X (LL [II 0,II 0])).X (LL [II 0,II 0])):=ap (ap (.refl _ _));have c0:((d.X (LL [II 0,II 0])).X (LL [II 0,II 0])).f d.h=LL [II 0,II 0]:=(ac (by show¬d.h=d.h+1;omega)).t (ae R);have n:cG ((d.X (LL [II 0,II 0])).X (LL [II 0,II 0])) (d.h+1) (0,0):=ae R;have I:((d.X (LL [II 0,II 0])).X (LL [II 0,II 0])).h=d.h+2:=R;refine S0 ?_;generalize (d.X (LL [II 0,II 0])).X (LL [II 0,II 0])=m5 at*;obtain⟨y,I⟩:∃y,y=d.h+1:=⟨_,R⟩;rw[<-I] at n|-;let⟨I,hI⟩:=inv λb0 a b2=>∃i b,b0=N l-i/\i<=N l/\(a 0=v/\a 2=.p d.h 0/\a 3=.p y 0/\a 4=II i)/\ax y m5 b2/\cG b2 y b/\b.1<=100/\wQ (l.take i) (l.drop i) b=nF l;refine aT I (N l) ((hI _ _ _).2 ⟨0,(0,0),R,aJ _,dy,.refl _ _,n,aJ _,R⟩) ?_;clear n;intro b0 a b2 n;let⟨i,b,hm,n,⟨B,H,t,C⟩,X,e4,o1,en⟩:=(hI _ _ _).1 n;have n:=X.1;have xz:ai d.h d b2:=jF E0 Y X;by_cases i5:i<N l
 .let⟨k5,ri⟩:=ph rl i i5;obtain⟨b',n,rfl⟩:∃b n,v=.a b 0 n (.B 6):=by
   rcases sl with rfl|⟨b,rfl⟩|h
   .rcases rv with⟨h,_⟩|⟨_,_,_,_,_,h,_⟩
    .subst h;exact absurd k5 (nR _)
    .cases h
   .rcases rv with⟨h,_⟩|⟨_,_,_,_,_,h,h2,n,n,n,n⟩
    .subst h;exact absurd k5 (nR _)
    .injection h with _ _ n _
     omega
   .exact h
  let⟨_,off,cap,_,row,ev,o5,o4,n,g7⟩:=rv.at k5;cases ev;have o6:b2.f b'=_:=(xz.2 b' o4).t o5;have a6:=m2 _ (aU i5);rw[agc i5] at en;have h0:=Mj i rl;generalize hd:l[i]=o at*;generalize n:m[i]=I at*;have p1:=ri;obtain⟨y1,y2,y3,y4,rfl,-,r1,r2,n,qs,r4,r5⟩:=p1;have n:sV o.n=.s o.n.1 o.n.2:=R;rw[n] at ri g7;rw[gg] at g7;have l1:=λU e w=>bI (e:=U) r1 (jy _) (om a6.2.1.1) e w;have l2:=λU e w=>bI (e:=U) r2 (jy _) (om a6.2.2.1.1) e w;have n:=(lS r5).1;have l4:=λU e w=>bI (e:=U) r4 n (om a6.2.2.2.2.1) e w;obtain⟨a8,e1⟩:∃a8,a8=b2.X (LL [o.n,y1,y2,y3,y4,o.a]):=⟨_,R⟩;have X1:ax y m5 a8:=by rw[e1];exact X.X
  have cn:a8.f b2.h=LL [o.n,y1,y2,y3,y4,o.a]:=by rw[e1];exact ae R
  have n:a8.h=b2.h+1:=by rw[e1];rfl
  have g5:cG a8 y b:=by rw[e1];exact(ac Y).t e4
  have x1:ai d.h d a8:=jF E0 Y X1;obtain⟨b1,O⟩:∃b1,b1=dI (((l.take i).any λd'=>decide (d'.n=o.n))||de (N o.o=0)) 8 o.a b:=⟨_,R⟩;have eN:Dq (l.take i) o b=ud o (o.o++o.ao) (sR (l.take i) o [] o.r (vo [] (am o) b1)):=by rw[O];rfl
  have k7:b1.1<=100:=by rw[O];exact tQ dc o1
  let⟨M,hM⟩:=jH λa r=>(a 0=.a b' 0 (N m) (.B 6)/\a 2=.p d.h 0/\a 3=.p y 0/\a 4=II i/\a 5=.p b2.h 0)/\ax y a8 r/\cG r y b1;refine S3 B C ln ?_;rw[wp_block];refine iB (M:=M) 2 _ _ _ ?_ ?_
  rotate_left
  .refine S4 B C o6 g7 ?_;rw[<-e1];clear e1;refine bL (LO (Xt (aK.ext (f:=0) rv x1) Y) (iJ (iS x1) x1.1 (λ_ h=>h) h0) (by rw[dW];omega) o.n ?_);have ea:=AM (λd':Nd=>decide (d'.n=o.n)) (l.take i) 0;have j9:∀a,(a 0=.a b' 0 (N m) (.B 6)/\a 2=.p d.h 0/\a 3=.p y 0/\a 4=II i/\a 5=.p b2.h 0)->b1=b->M a a8:=λa hp e=>(hM _ _).2 ⟨hp,.refl _ _,e▸g5⟩;have c6:∀a r,(a 0=.a b' 0 (N m) (.B 6)/\a 2=.p d.h 0/\a 3=.p y 0/\a 4=II i/\a 5=.p b2.h 0)->r.h=a8.h->cG r y (kV 8 o.a b)->b1=kV 8 o.a b->(∀c,c≠y->r.f c=a8.f c)->M a r:=λa r hp hn e4 e hk=>(hM _ _).2 ⟨hp,⟨Y,λc _ h2=>hk c h2⟩,e▸e4⟩;cases ex:dD (λd':Nd=>decide (d'.n=o.n)) (l.take i) 0 with
   |some j=>
    rw[ex] at ea;have ea:true=(l.take i).any (λd':Nd=>decide (d'.n=o.n)):=ea;rw[<-ea] at O;let⟨_,h,_⟩:=pL ex;rw[dW] at h;have ee:gE (some j)=j:=R;refine S3 t cn ee ?_;refine al (jS g5 Y λr g1 g2 g3=>?_);refine S0 ?_;exact c6 _ _ ⟨dx B,dx H,dx t,dx C,R⟩ g1 g2 O g3
   |none=>
    rw[ex] at ea;have ea:false=(l.take i).any (λd':Nd=>decide (d'.n=o.n)):=ea;rw[<-ea,Em] at O;have ee:gE none=18446744073709551615:=R;by_cases h:N o.o=0
    .rw[aB h] at O;simp(disch:=omega)only[go_sem,t,cn,ee,R1,l2,h];refine al (jS g5 Y λr g1 g2 g3=>?_);refine S0 ?_;exact c6 _ _ ⟨dx B,dx H,dx t,dx C,R⟩ g1 g2 O g3
    .rw[aA h] at O;simp(disch:=omega)only[go_sem,cn,ee,R1,l2,h];exact j9 _ ⟨dx B,dx H,dx t,dx C,R⟩ O
  .intro a r hm;let⟨⟨B,H,t,C,F⟩,I,n⟩:=(hM _ _).1 hm;clear hm hM O;have X3:=X1.M I;have O:ai d.h d r:=jF E0 Y X3;have h:=I.1;have h:=(I.2 _ Y Y).t cn;simp(disch:=omega)only[lT,lU,go_sem,F,h];refine al (Ic (ic ri O) a6 λx a4 ox Ev=>?_);have I:=Ev.1;have i0:=(Ev.2 _ Y).t h;have l7:cG a4 y b1:=(Ev.2 _ Y).t n;have xv:ai d.h d a4:=aM O Ev;have h:aH 5 r.h a4 x (N ((am o).map Vr.cells)) ((am o).map Vr.cells).flatten:=by rw[jy];exact ox
   have rx:=oz h (λl hl=>by obtain⟨v,_,rfl⟩:=cN.1 hl;rfl);let⟨_,h⟩:=Cm a6;have lx:=λU e w=>bI (e:=U) rx (jy _) Y e w;refine S0 ?_;generalize hV:am o=V at*;have j5:∀bx,ar x bx->r.h<=bx:=λbx h=>(cz ox h).1;rw[wp_block];obtain⟨n,i1⟩:∃J:Nat->FN->HN->Prop,∀b0 a h,J b0 a h↔∃k bb,b0=N V-k/\k<=N V/\(a 0=.a b' 0 (N m) (.B 6)/\a 2=.p d.h 0/\a 3=.p y 0/\a 4=II i/\a 5=.p b2.h 0/\a 6=x/\a 7=II k)/\ax y a4 h/\cG h y bb/\bb.1<=100/\vo (V.take k) (V.drop k) bb=vo [] V b1:=⟨_,λ_ _ _=>gZ⟩;refine aT n (N V) ((i1 _ _ _).2 ⟨0,b1,R,aJ _,⟨dx B,dx H,dx t,dx C,dx F,R,R⟩,.refl _ _,l7,k7,R⟩) ?_;clear B H t C F;intro b0 a h n;let⟨W,bb,_,I,⟨B,H,t,C,F,z,p7⟩,X4,g6,k3,ev⟩:=(i1 _ _ _).1 n;have n4:=X4.1;by_cases Z:W<N V
   .let⟨bx,a2,j0,q0,a7,ex,e5,b3,P⟩:=pV rx Y;have m1:=j5 bx (by rw[ex];exact R);have n:h.f bx=_:=(X4.2 _ b3 Y).t e5;rw[ex] at z;let⟨n2,c8⟩:=P W Z;have e0:a7.getD (a2+W*5) bp=.s V[W].n.1 V[W].n.2:=(pH c8 dc).t R;have k0:a7.getD (a2+W*5+2) bp=.s V[W].p.1 V[W].p.2:=(ql c8 2 dc).t R;have g4:a7.getD (a2+W*5+4) bp=II V[W].a:=(ql c8 4 dc).t R;rw[agf Z] at ev;have g8:=lx;rw[ex] at g8;have h:aI V[W].p.1 V[W].p.2 0 0=de (V[W].p=(0,0)):=bz V[W].p (0,0);simp(disch:=omega)only[go_sem,wp_block,z,p7,g8,n,k0,h];generalize h:V[W]=w at*;obtain⟨n,e2⟩:∃J:Nat->FN->HN->Prop,∀b0 a h,J b0 a h↔∃j t8 b4,b0=W-j/\j<=W/\(a 0=.a b' 0 (N m) (.B 6)/\a 2=.p d.h 0/\a 3=.p y 0/\a 4=II i/\a 5=.p b2.h 0/\a 6=.a bx a2 (N V) j0/\a 7=II W/\a 8=.l t8/\a 9=II j)/\ax y a4 h/\cG h y b4/\b4.1<=100/\qw w ((V.take W).drop j) (t8,b4)=qw w (V.take W) (de (w.p=(0,0)),bb):=⟨_,λ_ _ _=>gZ⟩;refine aT n W ((e2 _ _ _).2 ⟨0,_,bb,R,aJ _,⟨dx B,dx H,dx t,dx C,dx F,dx z,dx p7,R,R⟩,X4,g6,k3,R⟩) ?_;clear B H t C F z p7;intro b0 a h n;let⟨j,t8,b4,I,n,⟨B,H,t,C,F,z,p7,p8,p9⟩,X5,c4,e3,ep⟩:=(e2 _ _ _).1 n;have n:=X5.1;have g0:h.f bx=_:=(X5.2 _ b3 Y).t e5;have c2:h.f y=LL [b4.1,b4.2]:=c4;by_cases c3:j<W
    .have h:j<N V:=Y;let⟨m9,j7⟩:=P j h;have b9:a7.getD (a2+j*5) bp=.s V[j].n.1 V[j].n.2:=(pH j7 dc).t R;rw[age (by rw[dW];omega),Eo] at ep;generalize V[j]=u at*;have es:=bz u.n w.n;have l3:=bz u.n w.p;by_cases q:u.n=w.n
     .rw[aB q] at es ep;cases t8 with
      |true=>
       simp(disch:=omega)only[go_sem,wp_block,t,z,p7,p9,g0,e0,g4,b9,es];refine al (jS c2 Y λs g1 g2 g3=>?_);have X6:ax y a4 s:=⟨Y,λc h1 h2=>(g3 c h2).t (X5.2 c h1 h2)⟩;have k8:s.f bx=_:=(X6.2 _ b3 Y).t e5;refine S2 p8 p9 ?_;exact⟨W-(j+1),Y,(e2 _ _ _).2 ⟨j+1,_,_,R,c3,⟨dx B,dx H,dx t,dx C,dx F,dx z,dx p7,R,R⟩,X6,g2,sK dc e3,ep⟩⟩
      |false=>
       simp(disch:=omega)only[go_sem,wp_block,t,z,p7,p9,g0,e0,g4,b9,es];refine al (jS c2 Y λs g1 g2 g3=>?_);have X6:ax y a4 s:=⟨Y,λc h1 h2=>(g3 c h2).t (X5.2 c h1 h2)⟩;have k8:s.f bx=_:=(X6.2 _ b3 Y).t e5;refine S8 z p7 p8 p9 k0 b9 l3 k8 ?_;exact⟨W-(j+1),Y,(e2 _ _ _).2 ⟨j+1,_,_,R,c3,⟨dx B,dx H,dx t,dx C,dx F,dx z,dx p7,R,R⟩,X6,g2,sK dc e3,ep⟩⟩
     .rw[aA q] at es ep;cases t8 with
      |true=>
       simp(disch:=omega)only[go_sem,wp_block,z,p7,p8,p9,g0,e0,b9,es];exact⟨W-(j+1),Y,(e2 _ _ _).2 ⟨j+1,_,_,R,c3,⟨dx B,dx H,dx t,dx C,dx F,dx z,dx p7,R,R⟩,X5,c4,e3,ep⟩⟩
      |false=>
       simp(disch:=omega)only[go_sem,wp_block,z,p7,p8,p9,g0,e0,k0,b9,es,l3];exact⟨W-(j+1),Y,(e2 _ _ _).2 ⟨j+1,_,_,R,c3,⟨dx B,dx H,dx t,dx C,dx F,dx z,dx p7,R,R⟩,X5,c4,e3,ep⟩⟩
    .obtain rfl:j=W:=Y;have h:(V.take j).drop j=[]:=NX (by rw[dW];omega);rw[h] at ep;have ep:(t8,b4)=qw w (V.take j) (de (w.p=(0,0)),bb):=ep;rw[<-ep] at ev;dsimp only at ev;cases t8 with
     |true=>
      refine S3 p7 p8 p9 ?_;exact⟨N V-(j+1),Y,(i1 _ _ _).2 ⟨j+1,b4,R,Z,⟨dx B,dx H,dx t,dx C,dx F,by exact z.t ex.s,R⟩,X5,c4,e3,ev⟩⟩
     |false=>
      refine S7 t z p7 p8 p9 g0 g4 ?_;refine al (jS c2 Y λs g1 g2 g3=>?_);have X6:ax y a4 s:=⟨Y,λc h1 h2=>(g3 c h2).t (X5.2 c h1 h2)⟩;refine S1 p7 ?_;exact⟨N V-(j+1),Y,(i1 _ _ _).2 ⟨j+1,_,R,Z,⟨dx B,dx H,dx t,dx C,dx F,by exact z.t ex.s,R⟩,X6,g2,sK dc e3,ev⟩⟩
   .obtain rfl:W=N V:=Y;rw[fQ] at ev;have ev:bb=vo [] V b1:=by rw[<-ev];cases V.take (N V)<;>rfl
    rw[<-ev] at eN;have n3:=(X4.2 _ Y Y).t i0;simp(disch:=omega)only[go_sem,wp_block,z,p7,lx];have h:=a6.2.2.2.2.1;generalize o0:o.r=EQ at*;obtain⟨h,k1⟩:∃J:Nat->FN->HN->Prop,∀b0 a s,J b0 a s↔∃k6 b6,b0=N EQ-k6/\k6<=N EQ/\(a 0=.a b' 0 (N m) (.B 6)/\a 2=.p d.h 0/\a 3=.p y 0/\a 4=II i/\a 5=.p b2.h 0/\a 6=x/\a 10=II k6)/\ax y a4 s/\cG s y b6/\b6.1<=100/\sR (l.take i) o (EQ.take k6) (EQ.drop k6) b6=sR (l.take i) o [] EQ bb:=⟨_,λ_ _ _=>gZ⟩;refine aT h (N EQ) ((k1 _ _ _).2 ⟨0,bb,R,aJ _,⟨dx B,dx H,dx t,dx C,dx F,dx z,R⟩,X4,g6,k3,R⟩) ?_;clear B H t C F z p7 X4 g6 k3 n4 n3;intro b0 a s h;let⟨k6,b6,_,n,⟨B,H,t,C,F,z,D⟩,X6,j2,l5,b8⟩:=(k1 _ _ _).1 h;have h:=X6.1;have h7:=(X6.2 _ Y Y).t i0;have x6:ai d.h d s:=jF xv Y X6;by_cases Z:k6<N EQ
    .let⟨bq,j6,l0,h,m3,ey,l6,j4,P⟩:=At r4 r5 Y;let⟨f1,f2,f3,f4,f5,h,n8,o9⟩:=P k6 Z;have o8:=a6.2.2.2.2.2 _ (by rw[o0];exact aU Z);rw[af9 Z] at b8;subst ey;have m6:s.f bq=_:=(x6.2 _ j4).t l6;obtain⟨b7,a3⟩:∃b7,b7=dI (!(aO o EQ[k6].n).isSome||o.ins.any (λv=>decide (v.n=EQ[k6].n))||(EQ.take k6).any (λp=>decide (p.n=EQ[k6].n))) 8 EQ[k6].a b6:=⟨_,R⟩;rw[<-a3] at b8;have i9:b7.1<=100:=by rw[a3];exact tQ dc l5
     generalize h:EQ[k6]=q at*;obtain⟨M7,i4⟩:∃M:FN->HN->Prop,∀a K,M a K↔(a 0=.a b' 0 (N m) (.B 6)/\a 2=.p d.h 0/\a 3=.p y 0/\a 4=II i/\a 5=.p b2.h 0/\a 6=x/\a 10=II k6/\a 11=.p s.h 0)/\ax y a4 K/\cG K y b7/\s.h<K.h/\K.f s.h=LL [q.n,f1,f2,f3,f4,f5,q.a]:=⟨_,λ_ _=>gZ⟩;refine S4 F D h7 l4 ?_;rw[wp_block];refine iB (M:=M7) 5 _ _ _ ?_ ?_
     rotate_left
     .obtain⟨K,h⟩:∃K,K=s.X (LL [q.n,f1,f2,f3,f4,f5,q.a]):=⟨_,R⟩;have E7:ai s.h s K:=by rw[h];exact ap (.refl _ _)
      have c7:K.f s.h=LL [q.n,f1,f2,f3,f4,f5,q.a]:=by rw[h];exact ae R
      have n7:K.h=s.h+1:=by rw[h];rfl
      have j8:=(E7.2 _ Y).t h7;refine S5 F D h7 m6 n8 ?_;rw[<-h];clear h;have x7:=aM x6 E7;have h:∀w:Vr,w.cells=[.s w.n.1 w.n.2,II w.z,.s w.p.1 w.p.2,.l w.t,II w.a]:=λ_=>R;refine al (vc (ic ri x7) a6 q.n λm4 E8=>?_);rw[h];generalize n:(aO o q.n).getD dm=h;obtain⟨f,n⟩:∃f,f=m4.X (LL [h.n,h.z,h.p,h.t,h.a]):=⟨_,R⟩;have h:ai K.h K f:=by rw[n];exact ap E8
      have n9:=h.1;have c9:=(h.2 _ Y).t c7;have h8:=(h.2 _ Y).t j8;have x9:=aM x7 h;have m7:f.f bq=_:=(x9.2 _ j4).t l6;have X9:ax y a4 f:=(X6.of E7).of h;have a5:f.f y=LL [b6.1,b6.2]:=(h.2 _ Y).t ((E7.2 _ Y).t j2);simp(disch:=omega)only[go_sem,wp_block,bF];rw[<-n];clear n;obtain⟨h,i2⟩:∃J:Nat->FN->HN->Prop,∀b0 a r,J b0 a r↔∃j e8,b0=k6-j/\j<=k6/\(a 0=.a b' 0 (N m) (.B 6)/\a 2=.p d.h 0/\a 3=.p y 0/\a 4=II i/\a 5=.p b2.h 0/\a 6=x/\a 10=II k6/\a 11=.p s.h 0/\a 13=.l (aO o q.n).isSome/\a 14=.l e8/\a 15=II j)/\r=f/\e8=(EQ.take j).any (λp=>decide (p.n=q.n)):=⟨_,λ_ _ _=>gZ⟩;refine aT h k6 ((i2 _ _ _).2 ⟨0,false,R,aJ _,⟨dx B,dx H,dx t,dx C,dx F,dx z,dx D,R,R,R,R⟩,R,R⟩) ?_;clear B H t C F z D;intro b0 a c5 l9;obtain⟨j,e8,h,l9,⟨B,H,t,C,F,z,D,a1,e6,i6,i7⟩,rfl,ht⟩:=(i2 _ _ _).1 l9;by_cases c3:j<k6
      .obtain⟨h,h,h,h,h,m9,j7,-⟩:=P j Y;have b9:m3.getD (j6+j*7) bp=.s EQ[j].n.1 EQ[j].n.2:=(pH j7 dc).t R;have m0:(EQ.take (j+1)).any (λp=>decide (p.n=q.n))=(e8||de (EQ[j].n=q.n)):=by rw[dt (by omega),List.any_append,ht];simp
       generalize EQ[j]=u at*;have es:=bz u.n q.n;cases e8 with
       |true=>
        simp(disch:=omega)only[go_sem,wp_block,D,i6,i7];exact⟨k6-(j+1),Y,(i2 _ _ _).2 ⟨j+1,true,R,c3,⟨dx B,dx H,dx t,dx C,dx F,dx z,dx D,dx a1,dx e6,R,R⟩,R,m0.s⟩⟩
       |false=>
        simp(disch:=omega)only[go_sem,wp_block,F,D,a1,i6,i7,h8,c9,m7,b9,es];exact⟨k6-(j+1),Y,(i2 _ _ _).2 ⟨j+1,_,R,c3,⟨dx B,dx H,dx t,dx C,dx F,dx z,dx D,dx a1,dx e6,R,R⟩,R,m0.s⟩⟩
      .obtain rfl:j=k6:=Y;rw[<-ht] at a3;have j9:∀a r,(a 0=.a b' 0 (N m) (.B 6)/\a 2=.p d.h 0/\a 3=.p y 0/\a 4=II i/\a 5=.p b2.h 0/\a 6=x/\a 10=II j/\a 11=.p s.h 0)->ai c5.h c5 r->b7=b6->M7 a r:=λa r hp ex e=>by
        have:=ex.1
        exact(i4 _ _).2 ⟨hp,X9.of ex,e▸((ex.2 _ Y).t a5),Y,(ex.2 _ Y).t c9⟩
       have c6:∀a r a0,(a 0=.a b' 0 (N m) (.B 6)/\a 2=.p d.h 0/\a 3=.p y 0/\a 4=II i/\a 5=.p b2.h 0/\a 6=x/\a 10=II j/\a 11=.p s.h 0)->ai c5.h c5 r->a0.h=r.h->cG a0 y (kV 8 q.a b6)->(∀c,c≠y->a0.f c=r.f c)->b7=kV 8 q.a b6->M7 a a0:=λa r a0 hp ex hn e4 hk e=>by
        have:=ex.1
        exact(i4 _ _).2 ⟨hp,⟨om X9.1,λc h1 h2=>(hk c h2).t ((X9.of ex).2 c h1 h2)⟩,e▸e4,Y,(hk _ Y).t ((ex.2 _ Y).t c9)⟩
       cases hf:(aO o q.n).isSome with
       |false=>
        rw[hf] at e6 a3;refine S6 t D a1 e6 i7 c9 ?_;refine al (jS a5 Y λa0 g1 g2 g3=>?_);refine S0 ?_;exact c6 _ _ _ ⟨dx B,dx H,dx t,dx C,dx F,dx z,dx D,dx a1⟩ (.refl _ _) g1 g2 g3 a3
       |true=>
        rw[hf] at e6 a3;refine S7 F D a1 e6 i7 h8 c9 ?_;refine al (aeD (ic ri x9) a6 q.n λa9 Ea=>?_);have ca:=(Ea.2 _ Y).t c9;have j3:a9.f y=LL [b6.1,b6.2]:=(Ea.2 _ Y).t a5;cases l8:o.ins.any (λv=>decide (v.n=q.n)) with
        |true=>
         rw[l8] at a3;refine S3 t a1 ca ?_;refine al (jS j3 Y λa0 g1 g2 g3=>?_);refine S0 ?_;exact c6 _ _ _ ⟨dx B,dx H,dx t,dx C,dx F,dx z,dx D,dx a1⟩ Ea g1 g2 g3 a3
        |false=>
         rw[l8] at a3;cases e8 with
         |true=>
          refine S4 t a1 i6 ca ?_;refine al (jS j3 Y λa0 g1 g2 g3=>?_);refine S0 ?_;exact c6 _ _ _ ⟨dx B,dx H,dx t,dx C,dx F,dx z,dx D,dx a1⟩ Ea g1 g2 g3 a3
         |false=>
          refine S1 i6 ?_;exact j9 _ _ ⟨dx B,dx H,dx t,dx C,dx F,dx z,dx D,dx a1⟩ Ea a3
     .intro a K j;let⟨⟨B,H,t,C,F,z,D,a1⟩,h,e,n7,c7⟩:=(i4 _ _).1 j;clear i4 a3;have j8:=(h.2 _ Y Y).t i0;have x7:ai d.h d K:=jF xv Y h;have T:uK d (.a b' 0 i (.B 6)) (l.take i) o [o.n,y1,y2,y3,.a bq j6 (N qs) l0,o.a]:=⟨⟨_,Xt rv Y,h0⟩,ri,⟨by rw[dW];omega,λo hd=>m2 o (rE hd)⟩,a6⟩;simp(disch:=omega)only[lT,lU,go_sem,B,t,C,F,a1,j8,c7];refine bL (af1 T Y q.e o8.2 K _ b7 _ x7 (om h.1) e i9 o9 λm4 j e=>?_);refine S1 D ?_;exact⟨N EQ-(k6+1),Y,(k1 _ _ _).2 ⟨k6+1,_,R,Z,⟨dx B,dx H,dx t,dx C,dx F,dx z,R⟩,h.M j,e,LG _ _ i9,b8⟩⟩
    .obtain rfl:k6=N EQ:=Y;rw[fQ] at b8;have b8:b6=sR (l.take i) o [] EQ bb:=by rw[<-b8];cases EQ.take (N EQ)<;>rfl
     rw[<-b8] at eN;simp(disch:=omega)only[go_sem,wp_block,F,D,h7,l4,l1];have e:V.drop (N o.ins)=o.o++o.ao:=by rw[<-hV];unfold am;rw[List.drop_left]
     have h:N o.ins<=N V:=by rw[<-hV];unfold am;rw[ay];omega
     obtain⟨j,i3⟩:∃J:Nat->FN->HN->Prop,∀b0 a f,J b0 a f↔∃kx bx,b0=N V-kx/\kx<=N V/\(a 0=.a b' 0 (N m) (.B 6)/\a 2=.p d.h 0/\a 3=.p y 0/\a 4=II i/\a 5=.p b2.h 0/\a 6=x/\a 16=II kx)/\ax y a4 f/\cG f y bx/\bx.1<=100/\ud o (V.drop kx) bx=ud o (o.o++o.ao) b6:=⟨_,λ_ _ _=>gZ⟩;refine aT j (N V-N o.ins) ((i3 _ _ _).2 ⟨N o.ins,b6,R,h,⟨dx B,dx H,dx t,dx C,dx F,dx z,R⟩,X6,j2,l5,by rw[e]⟩) ?_;clear B H t C F z D;intro b0 a f a;let⟨kx,bk,_,e,⟨B,H,t,C,F,z,g9⟩,X9,a5,k4,b5⟩:=(i3 _ _ _).1 a;have n9:=X9.1;have h8:=(X9.2 _ Y Y).t i0;have x9:ai d.h d f:=jF xv Y X9;by_cases Z:kx<N V
     .let⟨bx,a2,j0,q0,a7,ex,e5,b3,P⟩:=pV rx Y;have m1:=j5 bx (by rw[ex];exact R);have k9:f.f bx=_:=(X9.2 _ b3 Y).t e5;rw[ex] at z;have g8:=lx;rw[ex] at g8;let⟨n2,c8⟩:=P kx Z;have e0:a7.getD (a2+kx*5) bp=.s V[kx].n.1 V[kx].n.2:=(pH c8 dc).t R;have g4:a7.getD (a2+kx*5+4) bp=II V[kx].a:=(ql c8 4 dc).t R;rw[agd Z] at b5;generalize V[kx]=w at*;simp(disch:=omega)only[go_sem,wp_block,F,z,g9,g8,k9,e0,h8];have a:ai f.h f (f.at_ (f.h+13)):=⟨by show f.h<=f.h+13;omega,λ_ _=>R⟩;refine bL (adm (ic ri (aM x9 a)) a6 w.n λa9 zq o7 Ea=>?_);have a:f.h+13<=a9.h:=Ea.1;have m8:a9.f bx=_:=(Ea.2 _ (by show bx<f.h+13;omega)).t k9;obtain⟨u0,u1,u2,u3,u4,u5,u6,rfl⟩:∃u0 u1 u2 u3 u4 u5 u6,zq=[u0,u1,u2,u3,u4,u5,u6]:=by
       match zq,o7 with
       |[u0,u1,u2,u3,u4,u5,u6],_=>exact⟨_,_,_,_,_,_,_,R⟩
      have WX:ai f.h f ((((a9.at_ (f.h+(1+1+1+1+1+1+1+1+1+1))).X (LL [.s 0 0,.s 0 0,.s 0 0,II 0,II 0,.e,II 0])).at_ a9.h).put (f.h+(1+1+1+1+1+1+1+1+1+1)) (LL [u0,u1,u2,u3,u4,u5,u6])):=⟨by show f.h<=a9.h;omega,λc a=>(ac Y).t ((ac (by show¬c=f.h+(1+1+1+1+1+1+1+1+1+1);omega)).t (Ea.2 c (by show c<f.h+13;omega)))⟩;cases j1:o.r.any (λq=>decide (q.n=w.n)) with
      |true=>
       refine S1 g9 ?_;rw[j1] at b5;exact⟨N V-(kx+1),Y,(i3 _ _ _).2 ⟨kx+1,bk,R,Z,⟨dx B,dx H,dx t,dx C,dx F,by exact z.t ex.s,R⟩,X9.of WX,(WX.2 _ Y).t a5,k4,b5⟩⟩
      |false=>
       refine S5 t z g9 m8 g4 ?_;rw[j1] at b5;have o3:((((a9.at_ (f.h+(1+1+1+1+1+1+1+1+1+1))).X (LL [.s 0 0,.s 0 0,.s 0 0,II 0,II 0,.e,II 0])).at_ a9.h).put (f.h+(1+1+1+1+1+1+1+1+1+1)) (LL [u0,u1,u2,u3,u4,u5,u6])).f y=LL [bk.1,bk.2]:=(WX.2 _ Y).t a5;generalize (((a9.at_ (f.h+(1+1+1+1+1+1+1+1+1+1))).X (LL [.s 0 0,.s 0 0,.s 0 0,II 0,II 0,.e,II 0])).at_ a9.h).put (f.h+(1+1+1+1+1+1+1+1+1+1)) (LL [u0,u1,u2,u3,u4,u5,u6])=W at*;refine al (jS o3 Y λa0 g1 g2 g3=>?_);have a:=WX.1;refine S1 g9 ?_;exact⟨N V-(kx+1),Y,(i3 _ _ _).2 ⟨kx+1,_,R,Z,⟨dx B,dx H,dx t,dx C,dx F,by exact z.t ex.s,R⟩,⟨Y,λc h1 h2=>(g3 c h2).t ((X9.of WX).2 c h1 h2)⟩,g2,sK dc k4,b5⟩⟩
     .obtain rfl:kx=N V:=Y;rw[fQ] at b5;have b5:bk=ud o (o.o++o.ao) b6:=b5;rw[<-b5] at eN;rw[eN] at en;refine S4 C z g9 lx ?_;exact⟨N l-(i+1),Y,(hI _ _ _).2 ⟨i+1,bk,R,i5,⟨dx B,dx H,dx t,R⟩,((X3.of Ev).M X9),a5,k4,en⟩⟩
 .obtain rfl:i=N l:=Y;rw[fQ] at en;have en:b=nF l:=by rw[<-en];rfl
  rw[<-en] at k;have c:b2.f d.h=_:=(X.2 _ Y Y).t c0;have a:b2.f y=LL [b.1,b.2]:=e4;refine S7 B H t C ln c a ?_;exact k _ (cO xz Y)
end
end Go.Proofs.YtehahhggpdhieaaGreatDoor
