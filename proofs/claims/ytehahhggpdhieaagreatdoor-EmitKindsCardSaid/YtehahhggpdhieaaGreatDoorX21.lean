/- Lemmas of the walk of EmitKinds are proved. Conditions: none. -/
import Derived.Test.YtehahhggpdhieaaGreatDoorX20
namespace Go.Proofs.YtehahhggpdhieaaGreatDoor
set_option maxRecDepth 100000
set_option maxHeartbeats 32000000
set_option linter.all false
section
variable {x:AV}{d t:HN}{z:L AV}{l:L Nd}{h:Nat}
def Ld{l:L Nd}{n:Nd}:∀(a:L Tr) (k:Tr) (b:Bd),fG l n (a++[k]) b=((fG l n a b).1++[(kW l n k (fG l n a b).2).1],(kW l n k (fG l n a b).2).2)
 |[],k,b=>by simp only[fG,dH]
 |a::r,k,b=>by simp only[fG,fc,Ld r]
def Lc{l:L Nd}{n:Nd}:∀(a:L Tr) (b:Bd),N (fG l n a b).1=N a
 |[],b=>by simp only[fG,hN]
 |a::r,b=>by simp only[fG,bt,Lc r]
mutual
def SC{l:L Nd}{n:Nd}:∀(e:Tr) (b:Bd),b.1<=100->(kW l n e b).2.1<=100
 |.mk op nm _ a d,b,c=>by
  unfold kW;exact tQ dc (Gt d _ c)
def Gt{l:L Nd}{n:Nd}:∀(a:L Tr) (b:Bd),b.1<=100->(fG l n a b).2.1<=100
 |[],b,a=>by unfold fG;exact a
 |k::r,b,a=>by
  unfold fG;exact Gt r _ (SC k _ a)
end
def gF(K:L Nat):L AV:=K.map λk=>II k
def G6{K:L Nat}(o:aH 1 h d x (N K) (gF K))(g:0<N K):∃b,h<=b/\b<d.h/\x=.a b 0 (N K) (.B 1)/\d.f b=LL (gF K):=by
 obtain⟨_,⟨_,q⟩|⟨b,a,c,⟨_,q,_⟩|⟨e,f⟩⟩⟩:=o
 .omega
 .omega
 .exact⟨b,a,c,e,f⟩
def SH:∀K:L Nat,(K.map λk=>[AV.i .i64 k]).flatten=gF K
 |[]=>rfl
 |k::K=>by
  show AV.i .i64 k::(K.map λk=>[AV.i .i64 k]).flatten=AV.i .i64 k::gF K;rw[SH K]
def ag3{K:L Nat}(o:aH 1 h d x (N K) (gF K)):aK 1 d x (K.map λk=>[AV.i .i64 k]):=
 oz (m:=K.map λk=>[AV.i .i64 k]) (by rw[SH,aC];exact o) λl a=>by obtain⟨k,_,rfl⟩:=cN.1 a;rfl
def KU{q:Prop}(e:q:=by
 simp(disch:=omega)only[go_sem,p0,p1,p6,p7,p9,c0,c1,hbx,aI,Nat.reduceBEq,pX,pW,fm,cX,fB,ps,eH,im,gd,gL,gK,gA,dY,il,ik,gU,ij,gT,gS,gV,gX,jJ,dk,jK,bB,bD,bR];exact(hM _ _).2 ⟨⟨dx p0,dx p7,R,R⟩,X,nz,c1,hbd⟩):q:=e
def KC{q:Prop}(e:q:=by
 by_cases w:k0=2<;>by_cases w':k0=1<;>first
  |omega
  |simp(disch:=omega)only[go_sem,p0,p1,p6,p7,p9,c0,c1,hbx,aI,Nat.reduceBEq,pX,pW,im,gd,gL,gK,gA,ik,gU,ij,gT,gS,gV,gX,jK,w,w']
   exact(hM _ _).2 ⟨⟨dx p0,dx p7,by first|(show AV.l _=.l (de (k0=2/\k1=2));simp[w])|(show AV.l _=.l (de (k0=1/\k1=1));simp[w,w'])|(show AV.l _=.l (de (k0=1/\k1=k2));simp[w,w']),R⟩,X,nz,c1,hbd⟩):q:=e
def acG(k:Nat):k=1/\de (k=1)=true\/k≠1/\de (k=1)=false:=by by_cases h:k=1<;>simp[h]
def KF{q:Prop}(e:q:=by
 simp(disch:=omega)only[go_sem,p0,p1,p6,p7,p9,c0,c1,hbx,aI,Nat.reduceBEq,pX,pW,bR,bB,bD];refine al (vc rz1 T.ok nm λZ2 ex=>?_);have eu:bQ n nm=((aO n nm).getD dm).z:=R;generalize (aO n nm).getD dm=u at*;rw[hwc];have Ez:ai Z.h Z (Z2.X (LL [u.n,u.z,u.p,u.t,u.a])):=ap ex;have nw:(Z2.X (LL [u.n,u.z,u.p,u.t,u.a])).f Z2.h=LL [u.n,u.z,u.p,u.t,u.a]:=ae R;have d1:=(Ez.2 _ nz).trans c1;have d0:=(Ez.2 _ Y).trans c0;have nE:=Ez.1;have dxq:=Ez.2 _ hb2;rw[hbx] at dxq
 first
 |simp(disch:=omega)only[go_sem,p0,p1,p6,p7,p9,fp,ft,bF,nw,d0,d1,dxq,aI,Nat.reduceBEq,pX,pW,bR,bB,bD]
  exact(hM _ _).2 ⟨⟨dx p0,dx p7,by first|rfl|exact dv (λk=>AV.l (de (k=1))) eu.symm,by first|rfl|exact dv (AV.i .i64) eu.symm⟩,X.of Ez,Y,d1,(Ez.2 _ hcz).trans hbd⟩
 |have wd:=acG u.z
  rcases wd with⟨w,wd⟩|⟨w,wd⟩<;>simp(disch:=omega)only[go_sem,p0,p1,p6,p7,p9,fp,ft,bF,nw,d0,d1,dxq,wd,aI,Nat.reduceBEq,pX,pW,bR,bB,bD]<;>
  exact(hM _ _).2 ⟨⟨dx p0,dx p7,by(show AV.l _=.l (de (bQ n nm=1/\k0=k1));simp[eu,w]),by first|rfl|exact dv (AV.i .i64) eu.symm⟩,X.of Ez,Y,d1,(Ez.2 _ hcz).trans hbd⟩):q:=e
def ae6{v:AV}{n:Nd}(T:uK t v l n z){B:Nat}(hc:t.h<=B):∀(e:Tr),bO e->cC e->dF l n e->∀(f:HN) (ze:L AV) (b:Bd) (Q:AV->HN->Prop),ai t.h t f->B<f.h->cG f B b->b.1<=100->bn tt t e ze->
  (∀s,ax B f s->cG s B (kW l n e b).2->Q (.i .i64 (kW l n e b).1) s)->∃v' s,aq Tryz.prog 66 [.p B 0,v,.g z,.g ze] f v' s/\Q v' s:=by
 refine Tr.E λH nm b1 a q ih=>?_;intro ok a9 a6 f ze b Q x' b7 hb V r kk;unfold bO at ok;unfold cC at a9;unfold dF at a6;let⟨ha,g6,a5⟩:=ok;have a5:=(mw _).1 a5;have e9:=(ux _).1 a9.2;have e8:=(wJ _).1 a6.2;unfold bn at r;obtain⟨y,rfl,-,ls,ry,c4⟩:=r;have I:=(kI c4).1;have T':=T;obtain⟨y1,y2,y3,y4,rfl,-⟩:=T'.hz;let⟨g4,rv,rl⟩:=T.hv;let⟨hl,a1⟩:=T.hl;have b9:sV n.n=.s n.n.1 n.n.2:=R;have r:kW l n (.mk H nm b1 a q) b=((mz l n H nm (fG l n q b).1).2,dI (!(mz l n H nm (fG l n q b).1).1) 9 a (fG l n q b).2):=by
  conv=>lhs;unfold kW
 rw[r] at kk;have l3:=λs e w=>bI (e:=s) ry I Y e w;refine cf Wq Tryz.func66 ?_;let⟨K,hK⟩:=jH λo Z=>∃x,(o 0=.p B 0/\o 1=v/\o 6=.p f.h 0/\o 7=.p (f.h+1) 0/\o 9=x)/\aH 1 (f.h+2) Z x (N (fG l n q b).1) (gF (fG l n q b).1)/\ax B f Z/\f.h+1<Z.h/\Z.f f.h=.E false [.s n.n.1 n.n.2,y1,y2,y3,y4,.i .i64 n.a]/\Z.f (f.h+1)=.E false [.s H.1 H.2,.s nm.1 nm.2,.i .i64 b1,.i .i64 a,y]/\cG Z B (fG l n q b).2;refine iB (M:=K) 3 _ _ _ ?_ ?_
 rotate_left
 .obtain⟨r,F⟩:∃r,r=(f.X (.E false [.s n.n.1 n.n.2,y1,y2,y3,y4,.i .i64 n.a])).X (.E false [.s H.1 H.2,.s nm.1 nm.2,.i .i64 b1,.i .i64 a,y]):=⟨_,R⟩;have E:ai f.h f r:=by rw[F];exact ap (ap (.refl _ _))
  have c0:r.f f.h=.E false [.s n.n.1 n.n.2,y1,y2,y3,y4,.i .i64 n.a]:=by rw[F];exact(ac (by show¬f.h=f.h+1;omega)).t (ae R)
  have c1:r.f (f.h+1)=.E false [.s H.1 H.2,.s nm.1 nm.2,.i .i64 b1,.i .i64 a,y]:=by rw[F];exact ae R
  have I:r.h=f.h+2:=by rw[F];rfl
  have e0:cG r B b:=(E.2 _ b7).t hb;have X:ax B f r:=CL B E;simp(disch:=omega)only[go_sem,sV,b9];rw[<-F];clear F;let⟨I,hI⟩:=inv λm o Z=>∃i x,m=N q-i/\i<=N q/\(o 0=.p B 0/\o 1=v/\o 6=.p f.h 0/\o 7=.p (f.h+1) 0/\o 9=x/\o 10=.i .i64 i)/\aH 1 (f.h+2) Z x i (gF (fG l n (q.take i) b).1)/\ax B f Z/\f.h+1<Z.h/\Z.f f.h=.E false [.s n.n.1 n.n.2,y1,y2,y3,y4,.i .i64 n.a]/\Z.f (f.h+1)=.E false [.s H.1 H.2,.s nm.1 nm.2,.i .i64 b1,.i .i64 a,y]/\cG Z B (fG l n (q.take i) b).2;have k0:fG l n (q.take 0) b=([],b):=by simp only[gO,fG]
  refine aT I (N q) ((hI _ _ _).2 ⟨0,.e,R,aJ _,dy,by rw[k0];exact .nil,X,Y,c0,c1,by rw[k0];exact e0⟩) ?_;clear X c0 c1;intro m o Z hi;let⟨i,xk,hm,hi,⟨p0,p1,p6,p7,p9,a2⟩,ox,X,nz,c0,c1,hbd⟩:=(hI _ _ _).1 hi;have U:=jF x' hc X;by_cases p:i<N q
  .let⟨e5,ri⟩:=pf c4 i p;obtain⟨bk,off,cap,ro,row,rfl,a4,a3,b8,C⟩:=ry.at e5;have O:Z.f bk=_:=(U.2 bk a3).t a4;let⟨_,f2,f3,f4,f5,r⟩:=cJ ri;rw[r] at C ri;simp(disch:=omega)only[go_sem,p0,p1,p6,p7,p9,a2,c0,c1,l3,O,C];have r:ai t.h t (Z.at_ (Z.h+13)):=⟨by show t.h<=Z.h+13;have:=U.1;omega,U.2⟩;refine bL (ih _ (aU p) (a5 _ (aU p)) (e9 _ (aU p)) (e8 _ (aU p)) (Z.at_ (Z.h+13)) _ (fG l n (q.take i) b).2 _ r (by show B<Z.h+13;have:=X.1;omega) hbd (Gt _ _ V) ri λh r b5=>?_);have I:Z.h+13<=h.h:=r.1;have k8:∀c,c<Z.h->c≠B->h.f c=Z.f c:=λc F h2=>r.2 c (by show c<Z.h+13;omega) h2;have r:=X.1;have r:=x'.1;have d0:h.f f.h=_:=(k8 _ Y Y).t c0;have d1:h.f (f.h+1)=_:=(k8 _ Y Y).t c1;have d2:h.f bk=_:=(k8 _ (om U.1) Y).t O;simp(disch:=omega)only[go_sem,p0,p1,p6,p7,p9,a2,d0,d1,d2,C,fp,ft,bF];generalize e7:(kW l n q[i] (fG l n (q.take i) b).2).1=kd at*;have kH:∀c,c≠Z.h+10->(((h.at_ (Z.h+10)).X (.E false [.i .i64 kd])).at_ h.h).f c=h.f c:=λc hc=>ac hc;have wH:(((h.at_ (Z.h+10)).X (.E false [.i .i64 kd])).at_ h.h).f (Z.h+10)=.E false [.i .i64 kd]:=ae R;have r:(((h.at_ (Z.h+10)).X (.E false [.i .i64 kd])).at_ h.h).h=h.h:=R;generalize ((h.at_ (Z.h+10)).X (.E false [.i .i64 kd])).at_ h.h=b0 at*;have h:aH 1 (f.h+2) b0 xk i (gF (fG l n (q.take i) b).1):=dK ox (λc F h2=>(kH c Y).t (k8 c Y Y)) Y;have r:cD 1 b0 (.a (Z.h+10) 0 1 (.k 1)) 1 [.i .i64 kd]:=.inr ⟨Z.h+10,0,_,false,_,R,wH,Y,ak _,R,R⟩;have I:∀c,ar xk c->f.h+2<=c/\c<Z.h:=λc hc=>cz ox hc;refine CE dc h r dc Y Y λr o9 h k9=>?_;have h:∀c,c<Z.h->c≠B->¬ar xk c->r.f c=Z.f c:=λc F h2 h3=>(k9 c Y h3).t ((kH c Y).t (k8 c F h2));have g0:r.f f.h=_:=(h _ Y Y (λg=>om (I _ g))).t c0;have g1:r.f (f.h+1)=_:=(h _ Y Y (λg=>om (I _ g))).t c1;have gb:r.f bk=_:=(h _ (om U.1) Y (λg=>om (I _ g))).t O;simp(disch:=omega)only[go_sem,p0,p1,p6,p7,p9,a2,d0,d1,d2,g0,g1,gb,c0,c1,O,C];refine⟨N q-(i+1),Y,(hI _ _ _).2 ⟨i+1,.a b0.h 0 (i+1) (.B 1),R,p,⟨dx p0,dx p1,dx p6,dx p7,R,R⟩,?_,?_,?_,g0,g1,?_⟩⟩
   .rw[dt p,Ld,e7];unfold gF;rw[cM];exact o9
   .exact⟨Y,λc F h2=>(h c Y h2 (λg=>om (I _ g))).t (X.2 c F h2)⟩
   .omega
   .rw[dt p,Ld];exact(k9 _ Y (λg=>om (I _ g))).t ((kH _ Y).t b5)
  .obtain rfl:i=N q:=Y;rw[hU] at ox hbd;simp(disch:=omega)only[go_sem,p0,p1,p6,p7,p9,a2,c1,l3];exact(hK _ _).2 ⟨xk,⟨dx p0,dx p1,dx p6,dx p7,dx p9⟩,by rw[Lc];exact ox,X,nz,c0,c1,hbd⟩
 .intro o Z hk;let⟨x,⟨p0,p1,p6,p7,p9⟩,ox,X,nz,c0,c1,hbd⟩:=(hK _ _).1 hk;have hb2:(fG l n q b).2.1<=100:=Gt _ _ V;have e3:=Lc (l:=l) (n:=n) q b;generalize (fG l n q b).1=K at*;generalize (fG l n q b).2=b2 at*;clear hk hK;have U:=jF x' hc X;have rz1:=ic T.hz U;rw[b9] at rz1;have hcz:B<Z.h:=cW b7 X.1;have hwc:∀w:Vr,w.cells=[.s w.n.1 w.n.2,.i .i64 w.z,.s w.p.1 w.p.2,.l w.t,.i .i64 w.a]:=λ_=>R;let⟨M,hM⟩:=jH λo Z=>(o 0=.p B 0/\o 7=.p (f.h+1) 0/\o 11=.l (mz l n H nm K).1/\o 12=.i .i64 (mz l n H nm K).2)/\ax B f Z/\f.h+1<Z.h/\Z.f (f.h+1)=.E false [.s H.1 H.2,.s nm.1 nm.2,.i .i64 b1,.i .i64 a,y]/\cG Z B b2;refine iB (M:=M) 2 _ _ _ ?_ ?_
  .intro o Zz hm;let⟨⟨p0,p7,D,a7⟩,X,nz,c1,hbd⟩:=(hM _ _).1 hm;clear hM hm;cases a1:(mz l n H nm K).1 with
   |true=>
    rw[a1] at D kk;simp(disch:=omega)only[go_sem,p0,p7,D,a7,eI];exact kk _ X hbd
   |false=>
    rw[a1] at D kk;simp(disch:=omega)only[go_sem,p0,p7,D,a7,c1,gv];refine al (jS hbd Y λZ2 g1 a b=>?_);simp(disch:=omega)only[go_sem,p0,p7,D,a7];exact kk _ ⟨om X.1,λc F h2=>(b c h2).t (X.2 c F h2)⟩ a
  have ct:=a9.1;rw[<-e3] at ct;rcases ct with rfl|ct
  .have P:iP l nm (N q)=true:=by
    have g:=a6.1;exact g
   unfold iP at P;have fd:=wG (λn:Nd=>decide (n.n=nm)) l 0;simp(disch:=omega)only[go_sem,p0,p1,p6,p7,p9,c0,c1,aI,Nat.reduceBEq,pX,pW,bK];refine al (LO (rv.ext (f:=0) U) (iJ (iS U) U.1 (λ_ h=>h) rl) hl nm ?_);cases e:dD (λn:Nd=>decide (n.n=nm)) l 0 with
   |none=>
    rw[e] at fd;have fd:none=l.find? (λn:Nd=>decide (n.n=nm)):=fd;rw[<-fd] at P;cases P
   |some j=>
    let⟨_,hj,_⟩:=pL e;have ee:gE (some j)=j:=R;have hj:j<N l:=Y;rw[e] at fd;have fd:l[j-0]?=l.find? (λn:Nd=>decide (n.n=nm)):=fd;rw[uC,bM hj] at fd;rw[<-fd] at P;have P:=eL P;let⟨e6,rj⟩:=ph rl j hj;obtain⟨bv,off,cap,ro,row,rfl,a4,a3,b8,C⟩:=rv.at e6;have g5:=a1 _ (aU hj);have b:mz l n bK nm K=Ai l nm K:=R;have a:Ai l nm K=(lN l[j].ins K,rh l[j]):=by unfold Ai;rw[<-fd]
    rw[b,a] at hM;generalize l[j]=d at*;generalize g4[j]=a at*;obtain⟨b,c,h,j,q,-,r1,r,-⟩:=rj;have a:sV d.n=.s d.n.1 d.n.2:=R;rw[q,a] at C;have O:Z.f bv=_:=(U.2 bv a3).t a4;simp(disch:=omega)only[go_sem,p0,p1,p6,p7,p9,c0,c1,ee,O,C,fp,ft,bF];obtain⟨a,F⟩:∃a,a=Z.X (.E false [.s d.n.1 d.n.2,b,c,h,j,.i .i64 d.a]):=⟨_,R⟩;have Ez:ai Z.h Z a:=by rw[F];exact ap (.refl _ _)
    have nw:a.f Z.h=.E false [.s d.n.1 d.n.2,b,c,h,j,.i .i64 d.a]:=by rw[F];exact ae R
    rw[<-F];clear F;have d1:=(Ez.2 _ nz).t c1;have db:cG a B b2:=(Ez.2 _ hcz).t hbd;have nE:=Ez.1;have X2:=X.of Ez;have x1:ai t.h t a:=aM U Ez;have b:=g5.2.1.1;have l1:=λs e w=>bI (e:=s) r1 (jy _) Y e w;have lk:=λs e w=>bI (e:=s) (ag3 ox) (aC ..) Y e w;have b:0<N d.o:=Y;let⟨j,c3,_,_,c6,e2,h,e,c⟩:=pV r b;let⟨e1,b3⟩:=c 0 b;have c9:a.f j=_:=(x1.2 _ e).t h;have c:rh d=d.o[0].z:=by
     unfold rh;rw[cA,bM b];rfl
    rw[c] at hM;have b:N d.ins=N K:=Y;let⟨J,hJ⟩:=inv λm o Zz=>∃i c7,m=N K-i/\i<=N K/\(o 0=.p B 0/\o 7=.p (f.h+1) 0/\o 9=x/\o 11=.l c7/\o 19=.p Z.h 0/\o 20=.i .i64 i)/\Zz=a/\(c7&&lN (d.ins.drop i) (K.drop i))=lN d.ins K;refine aT J (N K) ((hJ _ _ _).2 ⟨0,true,R,aJ _,⟨dx p0,dx p7,dx p9,R,R,R⟩,R,R⟩) ?_;clear p0 p1 p6 p7 p9;intro m o Zz hj;obtain⟨i,c7,hm,hi,⟨p0,p7,p9,D,W,a8⟩,rfl,et⟩:=(hJ _ _ _).1 hj;by_cases p:i<N K
    .obtain⟨bx,a,b4,rfl,hbx⟩:=G6 ox Y;have dxq:Zz.f bx=_:=(Ez.2 _ b4).t hbx;obtain⟨bi,c2,a,a,c5,rfl,e4,b6,a0⟩:=pV r1 Y;let⟨_,a⟩:=a0 i Y;have c8:Zz.f bi=_:=(x1.2 _ b6).t e4;have gk:(gF K).getD i bp=.i .i64 K[i]:=by
      unfold gF;rw[cA,pF,bM p];rfl
     have gl:N (gF K)=N K:=aC ..;have gi:c5.getD (c2+i*5+1) bp=.i .i64 d.ins[i].z:=(ql a 1 dc).t R;have a:lN (d.ins.drop i) (K.drop i)=(de (d.ins[i].z=K[i])&&lN (d.ins.drop (i+1)) (K.drop (i+1))):=by
      rw[eJ (by omega:i<N d.ins),eJ p];rfl
     rw[a,<-Bool.and_assoc] at et;cases c7 with
     |true=>
      simp(disch:=omega)only[go_sem,p0,p7,p9,D,W,a8,nw,dxq,c8,gk,gl,gi,l1,lk];exact⟨N K-(i+1),Y,(hJ _ _ _).2 ⟨i+1,_,R,p,⟨dx p0,dx p7,dx p9,R,dx W,R⟩,R,et⟩⟩
     |false=>
      simp(disch:=omega)only[go_sem,p0,p7,p9,D,W,a8,lk];exact⟨N K-(i+1),Y,(hJ _ _ _).2 ⟨i+1,_,R,p,⟨dx p0,dx p7,dx p9,R,dx W,R⟩,R,et⟩⟩
    .obtain rfl:i=N K:=Y;have et:c7=lN d.ins K:=by
      rw[<-et,fQ];cases d.ins.drop (N K)<;>simp[lN]
     rw[<-et] at hM;subst e2;rw[lq,nk] at e1 b3;have a:c6.getD (c3+1) bp=.i .i64 d.o[0].z:=(ql b3 1 dc).t R;simp(disch:=omega)only[go_sem,p0,p7,p9,D,W,a8,nw,c9,a,lk];exact(hM _ _).2 ⟨⟨dx p0,dx p7,dx D,R⟩,X2,Y,d1,db⟩
  rcases GK ct with⟨hn,g⟩|⟨hn,g⟩|⟨hn,g⟩|⟨hn,g⟩
  .match K,hn with
   |[k0],_=>
   obtain⟨bx,V,hb2,rfl,hbx⟩:=G6 ox (jm _);have hbx:Z.f bx=.E false [.i .i64 k0]:=hbx;simp only[bY,kN,lY] at g;rcases g with rfl|rfl|rfl|rfl
   .exact KU
   .exact KU
   .exact KU
   .exact KF
  .match K,hn with
   |[k0,k1],_=>
   obtain⟨bx,V,hb2,rfl,hbx⟩:=G6 ox (jm _);have hbx:Z.f bx=.E false [.i .i64 k0,.i .i64 k1]:=hbx;simp only[bY,kN,lY] at g;rcases g with rfl|rfl|rfl|rfl|rfl|rfl|rfl|rfl|rfl|rfl|rfl|rfl|rfl|rfl|rfl|rfl|rfl
   .exact KF
   .exact KU
   .exact KU
   .exact KC
   .exact KC
   .exact KC
   .exact KC
   .exact KC
   .exact KU
   .exact KU
   all_goals exact KC
  .match K,hn with
   |[k0,k1,k2],_=>
   obtain⟨bx,V,hb2,rfl,hbx⟩:=G6 ox (jm _);have hbx:Z.f bx=.E false [.i .i64 k0,.i .i64 k1,.i .i64 k2]:=hbx;subst g;exact KC
  .match K,hn with
   |[],_=>
   have hbx:=c0;have hb2:f.h<Z.h:=Y;simp only[bY,kN,lY] at g;rcases g with rfl|rfl|rfl
   .exact KU
   .exact KU
   .exact KF
end
section
variable {g:AV->HN->Prop}{d:HN}{m:L (L AV)}{l:L Nd}{k:Nat}{n:Nd}
def ae1{l:L Vr}{b:Bd}(a:k<N l):qY n (l.drop k) b=qY n (l.drop (k+1)) (dI (!de (l[k].p=(0,0)) && !de (bQ n l[k].p=1)) 9 l[k].a b):=by
 rw[eJ a];rfl
def ae4{a:L aX}{b:Bd}(c:k<N a):pM l n (a.drop k) b=pM l n (a.drop (k+1)) (dI (!de ((kW l n a[k].e b).1=bQ n a[k].n)) 9 a[k].a (kW l n a[k].e b).2):=by
 rw[eJ c];rfl
def JQ{l:L AV}{n:Nat}{a b d e f g c:AV}(h:(l.drop n).take 7=[a,b,d,e,f,g,c]):(l.drop (n+1)).take 5=[b,d,e,f,g]:=by
 have i:(((l.drop n).take 7).drop 1).take 5=[b,d,e,f,g]:=by rw[h];rfl
 rw[Im,vP,oH] at i;exact i
def ae2{a:L Nd}{b:Bd}(c:k<N a):qZ l (a.drop k) b=qZ l (a.drop (k+1)) (pM l a[k] a[k].r (qY a[k] a[k].ao b)):=by
 rw[eJ c];rfl
attribute [-go_sem] wp_block in
def ajC{v:AV}(ok:ow l)(h7:∀n∈l,Made n)(h6:∀n∈l,∀q∈n.r,dF l n q.e)(rv:aK 6 d v m)(rl:fZ tt d l m)
  (k:∀o,ai d.h d o->g (.g [II (lG l).1,II (lG l).2]) o):∃n o,aq Tryz.prog 35 [v] d n o/\g n o:=by
 let⟨hl,e4⟩:=ok;let⟨n,I⟩:=pm rl;refine cf We Tryz.func35 ?_;have ln:=λo e w=>bI (e:=o) rv n Y e w;have E0:ai d.h d ((d.X (LL [II 0,II 0])).X (LL [II 0,II 0])):=ap (ap (.refl _ _));have c0:((d.X (LL [II 0,II 0])).X (LL [II 0,II 0])).f d.h=LL [II 0,II 0]:=(ac (by show¬d.h=d.h+1;omega)).t (ae R);have c1:cG ((d.X (LL [II 0,II 0])).X (LL [II 0,II 0])) (d.h+1) (0,0):=ae R;have n:((d.X (LL [II 0,II 0])).X (LL [II 0,II 0])).h=d.h+2:=R;refine S0 ?_;generalize (d.X (LL [II 0,II 0])).X (LL [II 0,II 0])=e7 at*;obtain⟨x,n⟩:∃x,x=d.h+1:=⟨_,R⟩;rw[<-n] at c1|-;let⟨I,hI⟩:=inv λa5 r a4=>∃i b,a5=N l-i/\i<=N l/\(r 0=v/\r 2=.p d.h 0/\r 3=.p x 0/\r 4=II i)/\ax x e7 a4/\cG a4 x b/\b.1<=100/\qZ l (l.drop i) b=lG l;refine aT I (N l) ((hI _ _ _).2 ⟨0,(0,0),R,aJ _,dy,.refl _ _,c1,aJ _,R⟩) ?_;clear c1;intro a5 r a4 n;let⟨i,b,I,n,⟨D,Z,z,K⟩,X,c6,g6,en⟩:=(hI _ _ _).1 n;have n:=X.1;have xz:ai d.h d a4:=jF E0 Y X;by_cases P:i<N l
 .let⟨h5,ri⟩:=ph rl i P;obtain⟨b',off,cap,n,row,rfl,h0,g8,n,a9⟩:=rv.at h5;have h4:a4.f b'=_:=(xz.2 b' g8).t h0;have t:=e4 _ (aU P);have i0:=h7 _ (aU P);have h8:=h6 _ (aU P);rw[ae2 P] at en;generalize n:l[i]=h at*;generalize n:m[i]=I at*;have i4:=ri;obtain⟨y1,y2,y3,y4,rfl,-,n,n,r3,qs,r4,r5⟩:=i4;have n:sV h.n=.s h.n.1 h.n.2:=R;rw[n] at ri a9;have l3:=λo e w=>bI (e:=o) r3 (jy _) (om t.2.2.2.1.1) e w;have n:=(lS r5).1;have l4:=λo e w=>bI (e:=o) r4 n (om t.2.2.2.2.1) e w;obtain⟨y,n⟩:∃y,y=a4.X (LL [h.n,y1,y2,y3,y4,h.a]):=⟨_,R⟩;have X1:ax x e7 y:=by rw[n];exact X.X
  have cn:y.f a4.h=LL [h.n,y1,y2,y3,y4,h.a]:=by rw[n];exact ae R
  have I:y.h=a4.h+1:=by rw[n];rfl
  have I:cG y x b:=by rw[n];exact(ac Y).t c6
  simp(disch:=omega)only[go_sem,wp_block,D,K,ln,h4,a9,bF];rw[<-n];clear n;have e3:∀w:Vr,w.cells=[.s w.n.1 w.n.2,II w.z,.s w.p.1 w.p.2,.l w.t,II w.a]:=λ_=>R;obtain⟨V,n⟩:∃V,V=h.ao:=⟨_,R⟩;have i7:N V<=1073741824:=by rw[n];exact t.2.2.2.1.1
  have i6:∀v∈V,A4 v:=by rw[n];exact t.2.2.2.1.2
  rw[<-n] at r3 en;have l3:=λo e w=>bI (e:=o) r3 (jy _) Y e w;obtain⟨e,a1⟩:∃J:Nat->FN->HN->Prop,∀a5 r f,J a5 r f↔∃k bb,a5=N V-k/\k<=N V/\(r 0=.a b' off (N m) cap/\r 2=.p d.h 0/\r 3=.p x 0/\r 4=II i/\r 5=.p a4.h 0/\r 6=II k)/\ax x y f/\cG f x bb/\bb.1<=100/\qY h (V.drop k) bb=qY h V b:=⟨_,λ_ _ _=>gZ⟩;refine aT e (N V) ((a1 _ _ _).2 ⟨0,b,R,aJ _,⟨dx D,dx Z,dx z,dx K,R,R⟩,.refl _ _,I,g6,R⟩) ?_;clear D Z z K;intro a5 r f e;let⟨k2,bb,_,n,⟨D,Z,z,K,F,p6⟩,X4,H,a2,O⟩:=(a1 _ _ _).1 e;have n4:=X4.1;have XX:=X1.M X4;have x4:ai d.h d f:=jF E0 Y XX;have a0:=(X4.2 _ Y Y).t cn;by_cases j:k2<N V
  .obtain⟨bx,e,e,e,e,rfl,h3,e0,B⟩:=pV r3 Y;have b9:f.f bx=_:=(x4.2 _ e0).t h3;let⟨e,c3⟩:=B k2 j;rw[ae1 j] at O;generalize V[k2]=w at*;have n:aI w.p.1 w.p.2 0 0=de (w.p=(0,0)):=bz w.p (0,0);have E5:ai f.h f (f.X (LL [w.n,w.z,w.p,w.t,w.a])):=ap (.refl _ _);have c5:(f.X (LL [w.n,w.z,w.p,w.t,w.a])).f f.h=LL [w.n,w.z,w.p,w.t,w.a]:=ae R;have e:(f.X (LL [w.n,w.z,w.p,w.t,w.a])).h=f.h+1:=R;by_cases e:w.p=(0,0)
   .rw[aB e] at n O;simp(disch:=omega)only[go_sem,wp_block,F,p6,a0,l3,b9,c3,bF,c5,n];exact⟨N V-(k2+1),Y,(a1 _ _ _).2 ⟨k2+1,_,R,j,⟨dx D,dx Z,dx z,dx K,dx F,R⟩,X4.of E5,(E5.2 _ Y).t H,a2,O⟩⟩
   .rw[aA e] at n O;have e:=(E5.2 _ Y).t a0;have c8:cG _ x bb:=(E5.2 _ Y).t H;simp(disch:=omega)only[go_sem,wp_block,F,p6,a0,l3,b9,c3,bF,c5,e,n];generalize f.X (LL [.s w.n.1 w.n.2,II w.z,.s w.p.1 w.p.2,.l w.t,II w.a])=e5 at*;refine al (vc (ic ri (aM x4 E5)) t w.p λa e6=>?_);rw[e3];have b4:bQ h w.p=((aO h w.p).getD dm).z:=R;rw[b4] at O;generalize (aO h w.p).getD dm=u at*;have n:ai e5.h e5 (a.X (LL [u.n,u.z,u.p,u.t,u.a])):=ap e6;have o:(a.X (LL [u.n,u.z,u.p,u.t,u.a])).f a.h=LL [u.n,u.z,u.p,u.t,u.a]:=ae R;have w:=(n.2 _ Y).t c5;have e:cG _ x bb:=(n.2 _ Y).t c8;have f:=(X4.of E5).of n;have n:=f.1;by_cases w1:u.z=1
    .rw[aB w1] at O;refine S2 p6 w1 ?_;rw[w1] at f e;exact⟨N V-(k2+1),Y,(a1 _ _ _).2 ⟨k2+1,_,R,j,⟨dx D,dx Z,dx z,dx K,dx F,R⟩,f,e,a2,O⟩⟩
    .rw[aA w1] at O;refine S4 z o w w1 ?_;refine al (jS e Y λi5 g1 g2 g3=>?_);refine S1 p6 ?_;exact⟨N V-(k2+1),Y,(a1 _ _ _).2 ⟨k2+1,_,R,j,⟨dx D,dx Z,dx z,dx K,dx F,R⟩,⟨Y,λc h1 h2=>(g3 c h2).t (f.2 c h1 h2)⟩,g2,sK dc a2,O⟩⟩
  .obtain rfl:k2=N V:=Y;rw[fQ] at O;have O:bb=qY h V b:=O;rw[<-O] at en;simp(disch:=omega)only[go_sem,wp_block,F,p6,a0,l3];have e:=t.2.2.2.2.1;have g5:=t.2.2.2.2.2;have g4:=i0.r;generalize e:h.r=EQ at*;obtain⟨e,a6⟩:∃J:Nat->FN->HN->Prop,∀a5 r a,J a5 r a↔∃C b6,a5=N EQ-C/\C<=N EQ/\(r 0=.a b' off (N m) cap/\r 2=.p d.h 0/\r 3=.p x 0/\r 4=II i/\r 5=.p a4.h 0/\r 10=II C)/\ax x y a/\cG a x b6/\b6.1<=100/\pM l h (EQ.drop C) b6=pM l h EQ bb:=⟨_,λ_ _ _=>gZ⟩;refine aT e (N EQ) ((a6 _ _ _).2 ⟨0,bb,R,aJ _,⟨dx D,dx Z,dx z,dx K,dx F,R⟩,X4,H,a2,R⟩) ?_;clear D Z z K F p6 X4 XX x4 H a2 n4 a0;intro a5 r a e;let⟨C,b6,_,f,⟨D,Z,z,K,F,U⟩,X6,a7,b3,s⟩:=(a6 _ _ _).1 e;have e:=X6.1;have b1:=(X6.2 _ Y Y).t cn;have x6:ai d.h d a:=jF E0 Y (X1.M X6);by_cases j:C<N EQ
   .let⟨bq,a3,c2,e,b0,ey,g9,c9,B⟩:=At r4 r5 Y;let⟨_,f2,f3,f4,f5,e,b2,i3⟩:=B C j;have i2:=g5 _ (aU j);have i1:=g4 _ (aU j);have h9:=h8 _ (aU j);rw[ae4 j] at s;subst ey;have b5:a.f bq=_:=(x6.2 _ c9).t g9;generalize e:EQ[C]=q at*;have g0:=JQ b2;have e:b0.getD (a3+C*7) bp=.s q.n.1 q.n.2:=(pH b2 dc).t R;simp(disch:=omega)only[go_sem,wp_block,F,U,b1,l4,b5,e];have e:ai a.h a (a.at_ (a.h+14)):=⟨by show a.h<=a.h+14;omega,λ_ _=>R⟩;refine bL (vc (ic ri (aM x6 e)) t q.n λp Ea=>?_);rw[e3];have b4:bQ h q.n=((aO h q.n).getD dm).z:=R;rw[b4] at s;generalize (aO h q.n).getD dm=u at*;have e:a.h+14<=p.h:=Ea.1;have WX:ai a.h a ((((p.at_ (a.h+(1+1+1+1+1+1+1+1+1+1+1))).X (LL [.s 0 0,II 0,.s 0 0,false,II 0])).at_ p.h).put (a.h+(1+1+1+1+1+1+1+1+1+1+1)) (LL [u.n,u.z,u.p,u.t,u.a])):=⟨by show a.h<=p.h;omega,λc e=>(ac Y).t ((ac (by show¬c=a.h+(1+1+1+1+1+1+1+1+1+1+1);omega)).t (Ea.2 c (by show c<a.h+14;omega)))⟩;have e:((((p.at_ (a.h+(1+1+1+1+1+1+1+1+1+1+1))).X (LL [.s 0 0,II 0,.s 0 0,false,II 0])).at_ p.h).put (a.h+(1+1+1+1+1+1+1+1+1+1+1)) (LL [u.n,u.z,u.p,u.t,u.a])).h=p.h:=R;have Wu:((((p.at_ (a.h+(1+1+1+1+1+1+1+1+1+1+1))).X (LL [.s 0 0,II 0,.s 0 0,false,II 0])).at_ p.h).put (a.h+(1+1+1+1+1+1+1+1+1+1+1)) (LL [u.n,u.z,u.p,u.t,u.a])).f (a.h+(1+1+1+1+1+1+1+1+1+1+1))=LL [u.n,u.z,u.p,u.t,u.a]:=ae R;have c4:=(WX.2 _ Y).t b1;have b8:=(WX.2 _ (om x6.1)).t b5;have g7:cG _ x b6:=(WX.2 _ Y).t a7;refine S7 D z F U g0 c4 b8 ?_;generalize (((p.at_ (a.h+(1+1+1+1+1+1+1+1+1+1+1))).X (LL [.s 0 0,II 0,.s 0 0,false,II 0])).at_ p.h).put (a.h+(1+1+1+1+1+1+1+1+1+1+1)) (LL [.s u.n.1 u.n.2,II u.z,.s u.p.1 u.p.2,.l u.t,II u.a])=W at*;have e:=X6.of WX;have a:ai d.h d W:=jF E0 Y (X1.M e);have T:uK d (.a b' off (N m) cap) l h [h.n,y1,y2,y3,.a bq a3 (N qs) c2,h.a]:=⟨⟨m,rv,rl⟩,ri,⟨hl,e4⟩,t⟩;refine bL (ae6 T Y q.e i2.2 i1 h9 W _ b6 _ a Y g7 b3 i3 λa a a8=>?_);have e2:=SC (l:=l) (n:=h) q.e b6 b3;have e9:=(a.2 _ Y Y).t c4;have e8:=(a.2 _ (om x6.1) (om E0.1)).t b8;have uc:=(a.2 _ Y Y).t Wu;have XC:=e.M a;generalize (kW l h q.e b6).1=kk at*;generalize (kW l h q.e b6).2=a at*;by_cases w1:kk=u.z
    .rw[aB w1] at s;simp(disch:=omega)only[go_sem,U,Wu,uc,w1];exact⟨N EQ-(C+1),Y,(a6 _ _ _).2 ⟨C+1,_,R,j,⟨dx D,dx Z,dx z,dx K,dx F,R⟩,XC,a8,e2,s⟩⟩
    .rw[aA w1] at s;have a:b0.getD (a3+C*7+6) bp=II q.a:=(ql b2 6 dc).t R;simp(disch:=omega)only[go_sem,z,F,U,e9,e8,Wu,uc,w1,a];refine al (jS a8 Y λi5 g1 g2 g3=>?_);refine S1 U ?_;exact⟨N EQ-(C+1),Y,(a6 _ _ _).2 ⟨C+1,_,R,j,⟨dx D,dx Z,dx z,dx K,dx F,R⟩,⟨om XC.1,λc h1 h2=>(g3 c h2).t (XC.2 c h1 h2)⟩,g2,sK dc e2,s⟩⟩
   .obtain rfl:C=N EQ:=Y;rw[fQ] at s;have s:b6=pM l h EQ bb:=s;rw[<-s] at en;refine S5 K F U b1 l4 ?_;exact⟨N l-(i+1),Y,(hI _ _ _).2 ⟨i+1,_,R,P,⟨dx D,dx Z,dx z,R⟩,X1.M X6,a7,b3,en⟩⟩
 .obtain rfl:i=N l:=Y;rw[fQ] at en;have en:b=lG l:=en;have a:a4.f x=LL [b.1,b.2]:=c6;have b:=(X.2 _ Y Y).t c0;rw[<-en] at k;refine S7 D Z z K ln a b ?_;exact k _ (cO xz Y)
end
section
variable {x y:AV}{d e t:HN}{z:L AV}{c:L aS}{a b h:Nat}{n:Nd}
def GZ{a:Nat}:∀(c:L Ck) (k:Ck) (b:Bd),b.1<=100->(kF a c k b).2.1<=100
 |[],k,b,h=>h
 |q::r,k,b,h=>by
  unfold kF;split
  .exact GZ r k b h
  .split
   .exact GZ r _ b h
   .exact GZ r _ _ (tQ dc h)
def agX{f e:S}{c:Nat}{d:L Ck}{b:Bd}(h:b.1<=100):(pd n f e c a d b).2.1<=100:=by
 unfold pd;split
 .exact h
 split
 .exact h
 split
 .exact tQ dc h
 split
 .exact tQ dc (tQ dc h)
 .exact GZ _ _ _ h
mutual
def Qi{n:Nd}:∀(e:Tr) (b:Bd),b.1<=100->(iF n e b).2.1<=100
 |.mk op e d a c,b,h=>by
  unfold iF;exact agX (Fq c b h)
def Fq{n:Nd}:∀(a:L Tr) (b:Bd),b.1<=100->(eO n a b).2.1<=100
 |[],b,h=>by unfold eO;exact h
 |k::r,b,h=>by
  unfold eO;exact Fq r _ (Qi k b h)
end
def Bp(k:Ck):Prop:=N k.1<=1073741825
def G0{a:Nat}:∀(c:L Ck) (k:Ck) (b:Bd),(∀q∈c,Bp q)->Bp k->Bp (kF a c k b).1
 |[],k,b,_,h=>h
 |q::r,k,b,g,h=>by
  have c:=λx d=>g x (li q d);unfold kF;split
  .exact G0 r k b c h
  .split
   .exact G0 r _ b c (g q (gN ..))
   .exact G0 r _ _ c h
def Js{n:Nd}:∀(a:L Tr) (b:Bd),N (eO n a b).1=N a
 |[],b=>by simp only[eO,hN]
 |a::r,b=>by simp only[eO,bt,Js r]
def Fs{n:Nd}:∀(a:L Tr) (k:Tr) (b:Bd),eO n (a++[k]) b=((eO n a b).1++[(iF n k (eO n a b).2).1],(iF n k (eO n a b).2).2)
 |[],k,b=>by simp only[eO,dH]
 |a::r,k,b=>by simp only[eO,fc,Fs r]
mutual
def Qj{n:Nd}(c:∀s,N (aF n s)<=1073741824):∀(e:Tr) (b:Bd),Bp (iF n e b).1
 |.mk op f d a e,b=>by
  have d:=Jt c e b;have a:∀s q,Bp (aF n s,q):=λs q=>Om (c s);unfold iF pd;split
  .exact aJ _
  split
  .exact a _ _
  split
  .show(cB _ _ _).length<=_
   have:=c f
   unfold cB;rw[ay];show _+1<=_;omega
  split
  .exact a _ _
  .exact G0 _ _ _ d (aJ _)
def Jt{n:Nd}(a:∀s,N (aF n s)<=1073741824):∀(c:L Tr) (b:Bd),∀q∈(eO n c b).1,Bp q
 |[],b=>by unfold eO;exact λq h=>by cases h
 |k::r,b=>by
  unfold eO;intro q hq;rcases bY.1 hq with rfl|hq
  .exact Qj a k b
  .exact Jt a r _ q hq
end
def uR(b:HN):L Ck->L AV->Prop
 |[],a=>a=[]
 |k::c,a=>∃y r,a=y::r/\iZ b y k.1/\uR b c r
def Cy{d:HN}:∀{C:L Ck} {a:L AV},uR d C a->∀i (h:i<N C),∃b:i<N a,iZ d a[i] C[i].1
 |k::f,_,⟨y,r,e,a,b⟩,0,c=>by subst e;exact⟨jm _,a⟩
 |k::f,_,⟨y,r,e,a,b⟩,i+1,c=>by
  subst e;let⟨q,r⟩:=Cy b i (by simpa using c);exact⟨oL q,r⟩
def Jq{d:HN}:∀{C:L Ck} {a:L AV},uR d C a->N a=N C
 |[],a,h=>by
  have h:a=[]:=h;rw[h];rfl
 |k::c,_,⟨y,r,e,b,a⟩=>by
  subst e;exact dv (·+1) (Jq a)
def Qe{d:HN}{k:Ck}{y:AV}(g:iZ d y k.1):∀{C:L Ck} {a:L AV},uR d C a->uR d (C++[k]) (a++[y])
 |[],a,h=>by
  have h:a=[]:=h;subst h;exact⟨y,[],R,g,R⟩
 |_::_,_,⟨l,r,e,a,b⟩=>by
  subst e;exact⟨l,r++[y],R,a,Qe g b⟩
def z6(d a:HN):Prop:=d.h<=a.h/\∀b,b<d.h->∀c:L aS,d.f b=LL (c.map cU).flatten->a.f b=d.f b
def iZ.aR{U:HN}(h:iZ U y c)(k:z6 U e):iZ e y c:=by
 rcases h with h|⟨b,f,a,g,d⟩
 .exact .inl h
 .exact .inr ⟨b,f,cW a k.1,g,(k.2 b a c d).t d⟩
def Cz{d e:HN}(k:z6 d e):∀{C:L Ck} {a:L AV},uR d C a->uR e C a
 |[],_,h=>h
 |_::_,_,⟨l,r,a,b,c⟩=>⟨l,r,a,b.aR k,Cz k c⟩
def HS{l:L AV}(b:∀n v,x≠.s n v):(c.map cU).flatten≠x::l:=by
 cases c with
 |nil=>exact λh=>by cases h
 |cons s c=>
  intro h;have h:AV.s s.1.1 s.1.2::_=x::l:=h;injection h with a _
  exact b _ _ a.s
def ce(c:Nat)(a:HN)(x:AV)(l:L AV):Prop:=(x=.e/\l=[])\/∃b,c<=b/\b<a.h/\x=.a b 0 (N l) (.B 1)/\l≠[]/\a.f b=LL l
def ce.own{l:L AV}(a:ce h d x l):aH 1 h d x (N l) l:=by
 rcases a with⟨rfl,rfl⟩|⟨b,c,e,rfl,f,f⟩
 .exact⟨R,.inl dy⟩
 .exact⟨(zW _).s,.inr ⟨b,c,e,.inr ⟨R,f⟩⟩⟩
def ce.rd{d:Nat}{U:HN}{l:L AV}(h:ce d U x l):aK 1 U x (l.map λv=>[v]):=by
 have c:∀l:L AV,(l.map λv=>[v]).flatten=l:=λl=>by
  induction l with
  |nil=>rfl
  |cons a l b=>show a::(l.map λv=>[v]).flatten=a::l;rw[b]
 rcases h with⟨rfl,rfl⟩|⟨b,a,a,rfl,b,b⟩
 .exact .inl ⟨R,.inl R⟩
 .have:=aK.bT (s:=1) (c:=.B 1) (l.map λv=>[v]) (by rw[c];exact b) a (λl a=>by obtain⟨v,_,rfl⟩:=cN.1 a;rfl)
  rw[aC] at this;exact this
def si{w:Nat}{v:AV}{l:L AV}{i:Nat}{c:Cp}(m:ce h d x l)(s:d.f i=LL [v])(j:i<d.h)(f:(N l+1)*w<=140737488355328)(k:h<=d.h):
  ∃a,gj 1 w x (.a i 0 1 c) d=.ok (.a d.h 0 (N l+1) (.B 1)) a/\ce h a (.a d.h 0 (N l+1) (.B 1)) (l++[v])/\a.h=d.h+1/\∀b,b<d.h->¬ar x b->a.f b=d.f b:=by
 obtain⟨a,e,o,r,p⟩:=oS (s:=1) (w:=w) (f:=h) (m:=1) (k:=[v]) (by decide) m.own (.inr ⟨i,0,_,false,_,R,s,j,ak _,R,R⟩) (by decide) f k;refine⟨a,e,.inr ⟨d.h,k,by omega,by rw[ay];rfl,by simp,?_⟩,r,p⟩;obtain⟨_,⟨q,_⟩|⟨b,a,a,⟨q,g,_⟩|⟨q,n⟩⟩⟩:=o
 .cases q
 .omega
 .cases q;exact n
def ce.aR{a:Nat}{U:HN}{l:L AV}(h:ce a U x l)(b:U.h<=e.h)(j:∀b,a<=b->b<U.h->U.f b=LL l->e.f b=U.f b):ce a e x l:=by
 rcases h with h|⟨b,c,f,g,i,d⟩
 .exact .inl h
 .exact .inr ⟨b,c,Y,g,i,(j b c f d).t d⟩
def ce.bT{d:Nat}{U:HN}{l:L AV}(h:ce d U x l)(a:ar x b):d<=b/\b<U.h/\l≠[]/\U.f b=LL l:=by
 rcases h with⟨rfl,_⟩|⟨c,e,f,rfl,g,i⟩
 .exact a.elim
 .obtain rfl:c=b:=a;exact⟨e,f,g,i⟩
def abO(h:iZ d y c):∀n v,y≠.s n v:=by
 rcases h with⟨rfl,_⟩|⟨b,a,_,rfl,_⟩<;>exact λ_ _ g=>by cases g
def Gu{a:Nat}{b:Bd}(h:cG d a b)(x:ax a d e):z6 d e:=⟨x.1,λc g s f=>x.2 c g (λg=>by
 rw[g,h] at f;injection f with _ c
 exact HS (λ_ _ h=>by cases h) c.s)⟩
def ab1(r0:dL tt t n z)(g8:eG n){k0:Nat}(hu:∀s,jW n k0 s []=some (aF n s)){W:Nat}(hc:t.h<=W):∀(e:Tr),bO e->cC e->∀(j:HN) (ze:L AV) (b:Bd) (Q:AV->HN->Prop),ai t.h t j->W<j.h->cG j W b->b.1<=100->bn tt t e ze->
  (∀y a3,ax W j a3->iZ a3 y (iF n e b).1.1->cG a3 W (iF n e b).2->Q (.t [y,.l (iF n e b).1.2]) a3)->∃v' a3,aq Tryz.prog 67 [.p W 0,z,ze] j v' a3/\Q v' a3:=by
 refine Tr.E λp f b9 a V ih=>?_;intro ok j3 j ze b Q x' i3 hb k6 r kk;unfold bO at ok;unfold cC at j3;let⟨ha,m9,i6⟩:=ok;have i6:=(mw _).1 i6;have m3:=(ux _).1 j3.2;unfold bn at r;obtain⟨y,rfl,-,ls,ry,l5⟩:=r;have I:=(kI l5).1;have K:=r0;obtain⟨y1,y2,y3,y4,rfl,-⟩:=K;have m2:sV n.n=.s n.n.1 n.n.2:=R;have k3:=Ao g8;have r:iF n (.mk p f b9 a V) b=pd n p f b9 a (eO n V b).1 (eO n V b).2:=by
  conv=>lhs;unfold iF
 rw[r] at kk;have l3:=λa3 e w=>bI (e:=a3) ry I Y e w;refine cf Wr Tryz.func67 ?_;let⟨K,hK⟩:=jH λU F=>∃xa xb ya,(U 0=.p W 0/\U 4=.p j.h 0/\U 5=.p (j.h+1) 0/\U 8=xa/\U 9=xb)/\ce (j.h+2) F xa ya/\ce (j.h+2) F xb ((eO n V b).1.map λc=>.l c.2)/\uR F (eO n V b).1 ya/\ax W j F/\j.h+1<F.h/\F.f j.h=LL [n.n,y1,y2,y3,y4,n.a]/\F.f (j.h+1)=LL [p,f,b9,a,y]/\cG F W (eO n V b).2;refine iB (M:=K) 4 _ _ _ ?_ ?_
 rotate_left
 .obtain⟨r,o⟩:∃r,r=(j.X (LL [n.n,y1,y2,y3,y4,n.a])).X (LL [p,f,b9,a,y]):=⟨_,R⟩;have E:ai j.h j r:=by rw[o];exact ap (ap (.refl _ _))
  have c0:r.f j.h=LL [n.n,y1,y2,y3,y4,n.a]:=by rw[o];exact(ac (by show¬j.h=j.h+1;omega)).t (ae R)
  have c1:r.f (j.h+1)=LL [p,f,b9,a,y]:=by rw[o];exact ae R
  have I:r.h=j.h+2:=by rw[o];rfl
  have K:cG r W b:=(E.2 _ i3).t hb;have X:ax W j r:=CL W E;simp(disch:=omega)only[go_sem,sV];rw[<-o];clear o;let⟨I,hI⟩:=inv λm U F=>∃i xa xb ya,m=N V-i/\i<=N V/\(U 0=.p W 0/\U 4=.p j.h 0/\U 5=.p (j.h+1) 0/\U 8=xa/\U 9=xb/\U 10=II i)/\ce (j.h+2) F xa ya/\ce (j.h+2) F xb ((eO n (V.take i) b).1.map λc=>.l c.2)/\uR F (eO n (V.take i) b).1 ya/\ax W j F/\j.h+1<F.h/\F.f j.h=LL [n.n,y1,y2,y3,y4,n.a]/\F.f (j.h+1)=LL [p,f,b9,a,y]/\cG F W (eO n (V.take i) b).2;have k0:eO n (V.take 0) b=([],b):=by simp only[gO,eO]
  refine aT I (N V) ((hI _ _ _).2 ⟨0,.e,.e,[],R,aJ _,dy,.inl dy,by rw[k0];exact .inl dy,by rw[k0];exact R,X,Y,c0,c1,by rw[k0];exact K⟩) ?_;clear X c0 c1;intro m U F hi;let⟨i,xa,xb,ya,hm,hi,⟨p0,p4,B,p8,Z,i9⟩,ra,rb,cy,X,nz,c0,c1,a1⟩:=(hI _ _ _).1 hi;have xz:=jF x' hc X;by_cases D:i<N V
  .let⟨m1,ri⟩:=pf l5 i D;obtain⟨bk,off,cap,r,row,rfl,m0,l9,r,x⟩:=ry.at m1;have r:F.f bk=_:=(xz.2 bk l9).t m0;let⟨f1,f2,f3,f4,f5,y⟩:=cJ ri;rw[y] at x ri;have b7:N (eO n (V.take i) b).1=i:=by rw[Js,dW];omega
   have a8:N ya=i:=(Jq cy).t b7;simp(disch:=omega)only[go_sem,p0,p4,B,i9,c0,c1,l3,r,x];refine bL (ih _ (aU D) (i6 _ (aU D)) (m3 _ (aU D)) F _ (eO n (V.take i) b).2 _ xz (cW i3 X.1) a1 (Fq _ _ k6) ri λy8 H X8 k1 k8=>?_);have n8:F.h<=H.h:=X8.1;have cx:=x'.1;have d0:H.f j.h=_:=(X8.2 _ Y Y).t c0;have d1:H.f (j.h+1)=_:=(X8.2 _ Y Y).t c1;have m5:z6 F H:=⟨n8,λc o s k=>X8.2 c o (λg=>by
    rw[g,a1] at k;injection k with _ h3
    exact HS (λ_ _ h=>by cases h) h3.s)⟩
   have j0:ce (j.h+2) H xa ya:=ra.aR n8 λc o k _=>X8.2 c k Y;have m6:=rb.aR (e:=H) n8 λc o k _=>X8.2 c k Y;have i2:=Cz m5 cy;generalize l0:(iF n V[i] (eO n (V.take i) b).2).1=ck at*;have m4:=k1.cells;let⟨a0,e9,l4,x,r⟩:=si (w:=24) (d:=H.X (LL [y8])) (v:=y8) (i:=H.h) (c:=.k 1) (j0.aR (iC _) λc o k _=>ac Y) (ae R) (bJ _) Y (by show j.h+2<=H.h+1;omega);have i7:∀c,c<H.h->¬ar xa c->a0.f c=H.f c:=λc o k=>(r c (by show c<H.h+1;omega) k).t (ac Y);have r:a0.h=H.h+2:=x;have j4:∀c,ar xa c->j.h+2<=c/\ya≠[]/\H.f c=LL ya:=λc hc=>⟨(j0.bT hc).1,(j0.bT hc).2.2⟩;have l2:z6 H a0:=⟨Y,λc o s k=>i7 c o (λg=>by
    let⟨_,q1,q2⟩:=j4 c g;rw[q2] at k;injection k with _ h3
    obtain⟨u,v,rfl⟩:=zN q1
    have:=Cy i2 0 (by rw[b7,<-a8];exact jm _)
    exact HS (abO this.2) h3.s)⟩
   have j1:=m6.aR (e:=a0) Y λc o k h3=>i7 c k (λg=>by
    let⟨_,q1,q2⟩:=j4 c g;rw[q2] at h3;injection h3 with _ h4
    obtain⟨u,v,rfl⟩:=zN q1;have i5:0<N (eO n (V.take i) b).1:=by rw[b7,<-a8];exact jm _
    have:=Cy i2 0 i5
    cases hC:(eO n (V.take i) b).1 with
    |nil=>rw[hC] at i5;cases i5
    |cons q Q=>
     rw[hC] at h4;injection h4 with h5 _
     have h6:=this.2;rw[List.getElem_cons_zero,h5] at h6;rcases h6 with⟨h6,_⟩|⟨_,_,_,h6,_⟩<;>cases h6)
   have k4:=Qe (k1.aR l2) (Cz l2 i2);let⟨b6,k5,h0,x,r⟩:=si (w:=1) (d:=a0.X (LL [ck.2])) (v:=.l ck.2) (i:=a0.h) (c:=.k 1) (j1.aR (iC _) λc o k _=>ac Y) (ae R) (bJ _) (by rw[aC,b7];omega) (by show j.h+2<=a0.h+1;omega);have e8:∀c,c<a0.h->¬ar xb c->b6.f c=a0.f c:=λc o k=>(r c (by show c<a0.h+1;omega) k).t (ac Y);have r:b6.h=a0.h+2:=x;have j5:∀c,ar xb c->j.h+2<=c/\((eO n (V.take i) b).1.map λc=>AV.l c.2)≠[]/\a0.f c=LL ((eO n (V.take i) b).1.map λc=>AV.l c.2):=λc hc=>⟨(j1.bT hc).1,(j1.bT hc).2.2⟩;have j8:∀(l:L Ck) (x:AV) (v:L AV),(l.map λc=>AV.l c.2)=x::v->∃q,x=.l q:=λl x v h=>by
    cases l with
    |nil=>cases h
    |cons q l=>injection h with o _;exact⟨_,o.s⟩
   have l1:z6 a0 b6:=⟨Y,λc o s k=>e8 c o (λg=>by
    let⟨_,q1,q2⟩:=j5 c g;rw[q2] at k;injection k with _ h3
    let⟨u,v,e⟩:=zN q1;obtain⟨q,rfl⟩:=j8 _ _ _ e;rw[e] at h3;exact HS (λ_ _ h=>by cases h) h3.s)⟩
   have g9:=l4.aR (e:=b6) Y λc o k h3=>e8 c k (λg=>by
    let⟨_,q1,q2⟩:=j5 c g;rw[q2] at h3;injection h3 with _ h4
    let⟨u,v,e⟩:=zN q1;obtain⟨q,rfl⟩:=j8 _ _ _ e;rw[e] at h4
    have:=Cy k4 0 dp
    have h6:=this.2;have h:(ya++[y8])[0]' this.1=.l q:=by
     have:(ya++[y8])[0]?=some (.l q):=by rw[<-h4];rfl
     exact(xB.1 this).2
    rw[h] at h6;rcases h6 with⟨h6,_⟩|⟨_,_,_,h6,_⟩<;>cases h6)
   have l:=Cz l1 k4;have h:∀c,c<j.h+2->b6.f c=H.f c:=λc o=>(e8 c Y (λg=>om ((j5 c g).1))).t (i7 c Y (λg=>om ((j4 c g).1)));rw[a8] at e9 l4 g9;rw[aC,b7] at k5 h0;refine S2 p8 m4 ?_;rw[e9];refine S1 Z ?_;rw[k5];refine S1 i9 ?_;refine⟨N V-(i+1),Y,(hI _ _ _).2 ⟨i+1,_,_,ya++[y8],R,D,⟨dx p0,dx p4,dx B,R,R,R⟩,g9,?_,?_,?_,?_,(h _ Y).t d0,(h _ Y).t d1,?_⟩⟩
   .rw[dt D,Fs,l0,cM];exact h0
   .rw[dt D,Fs,l0];exact l
   .exact⟨Y,λc o k=>(h c Y).t ((X8.2 c Y k).t (X.2 c o k))⟩
   .omega
   .rw[dt D,Fs];exact(h _ Y).t k8
  .obtain rfl:i=N V:=Y;rw[hU] at rb cy a1;refine S4 B i9 c1 l3 ?_;exact(hK _ _).2 ⟨xa,xb,ya,⟨dx p0,dx p4,dx B,dx p8,dx Z⟩,ra,rb,cy,X,nz,c0,c1,a1⟩
 .intro U F hk;let⟨xa,xb,ya,⟨p0,p4,B,p8,Z⟩,ra,rb,cy,X,nz,c0,c1,a1⟩:=(hK _ _).1 hk;have k7:(eO n V b).2.1<=100:=Fq _ _ k6;have b7:=Js (n:=n) V b;have g7:=Jt k3 V b;generalize (eO n V b).1=C at*;generalize (eO n V b).2=b2 at*;clear hk hK;have xz:=jF x' hc X;have rz:=ic r0 xz;rw[m2] at rz;have i4:W<F.h:=cW i3 X.1;have cx:=x'.1;have ua:=hu f;have ul:=k3 f;have c7:p≠bK->lP p=some (N C):=λg=>by rw[b7];exact j3.1.resolve_left g
  have e1:aI p.1 p.2 3 7630441=de (p=fm):=bz p fm;have e2:aI p.1 p.2 4 1819242338=de (p=cX):=bz p cX;have e3:aI p.1 p.2 3 7496054=de (p=bR):=bz p bR;have e4:aI p.1 p.2 4 1852139639=de (p=bB):=bz p bB;have e5:aI p.1 p.2 5 435527247213=de (p=bD):=bz p bD;by_cases q1:p=fm
  .rw[aB q1] at e1;have eo:pd n p f b9 a C b2=(([],true),b2):=by rw[q1];rfl
   rw[eo] at kk;refine S3 B c1 e1 ?_;exact kk _ _ X (.inl dy) a1
  rw[aA q1] at e1;by_cases q2:p=cX
  .rw[aB q2] at e2;have eo:pd n p f b9 a C b2=(([],true),b2):=by rw[q2];rfl
   rw[eo] at kk;refine S4 B c1 e1 e2 ?_;exact kk _ _ X (.inl dy) a1
  rw[aA q2] at e2;by_cases q3:p=bR
  .rw[aB q3] at e3;have eo:pd n p f b9 a C b2=((aF n f,false),b2):=by rw[q3];rfl
   rw[eo] at kk;refine S7 p4 B c0 c1 e1 e2 e3 ?_;refine al (CB rz g8 f ua ul λy2 c5 b4 E2=>?_);refine S0 ?_;exact kk _ _ (X.of E2) b4 ((E2.2 _ i4).t a1)
  rw[aA q3] at e3;by_cases q4:p=bB
  .rw[aB q4] at e4;have hn:N C=1:=by
    have g:=c7 (by rw[q4];decide);rw[q4] at g;exact(jX g).s
   obtain⟨d,rfl⟩:∃d,C=[d]:=by
    match C,hn with
    |[d],_=>exact⟨d,R⟩
   obtain⟨j6,_,rfl,h7,rfl⟩:=cy;have eo:pd n p f b9 a [d] b2=((cB (aF n f) f (de (b9=0)),false),dI (ke d (aF n f)) 10 a b2):=by rw[q4];rfl
   rw[eo] at kk;obtain⟨_,ba,-,g5,rfl,-,e6⟩:∃u:Unit,∃ba,j.h+2<=ba/\ba<F.h/\xa=.a ba 0 1 (.B 1)/\True/\F.f ba=LL [j6]:=by
    rcases ra with⟨_,g⟩|⟨ba,o,k,h3,h4,h5⟩
    .cases g
    .exact⟨(),ba,o,k,h3,trivial,h5⟩
   obtain⟨bb,-,g6,rfl,-,e7⟩:∃bb,j.h+2<=bb/\bb<F.h/\xb=.a bb 0 1 (.B 1)/\True/\F.f bb=LL [d.2]:=by
    rcases rb with⟨_,g⟩|⟨ba,o,k,h3,h4,h5⟩
    .cases g
    .exact⟨ba,o,k,h3,trivial,h5⟩
   have m7:N d.1<=1073741825:=g7 d (gN ..);refine S8 p4 B c0 c1 e1 e2 e3 e4 ?_;refine al (CB rz g8 f ua ul λy2 c5 b4 E2=>?_);have X2:=X.of E2;have n2:=E2.1;have d1:=(E2.2 _ Y).t c1;have da:=(E2.2 _ g5).t e6;have db:=(E2.2 _ g6).t e7;have c8:=h7.ext E2;have a2:cG c5 W b2:=(E2.2 _ i4).t a1;cases hq:d.2 with
   |true=>
    have em:ke d (aF n f)=false:=by unfold ke;rw[hq];rfl
    rw[em] at kk;rw[hq] at db;refine S4 B Z d1 db ?_;refine al (Dy b4 Y λy4 c6 a5 E4=>?_);refine S0 ?_;exact kk _ _ (X2.of E4) a5 ((E4.2 _ Y).t a2)
   |false=>
    have em:ke d (aF n f)=!de (d.1=aF n f):=by unfold ke;rw[hq];rfl
    rw[em] at kk;rw[hq] at db;refine S4 p8 Z da db ?_;refine al (D1 c8 b4 Y Y ?_);cases hd:de (d.1=aF n f) with
    |true=>
     rw[hd] at kk;refine S2 B d1 ?_;refine al (Dy b4 Y λy4 c6 a5 E4=>?_);refine S0 ?_;exact kk _ _ (X2.of E4) a5 ((E4.2 _ Y).t a2)
    |false=>
     rw[hd] at kk;refine S3 p0 B d1 ?_;refine al (jS a2 Y λb g1 l h=>?_);have X3:ax W c5 b:=⟨Y,λc o k=>h c k⟩;have b:=b4.aR (Gu a2 X3);have h:=(X3.2 _ Y Y).t d1;refine S2 B h ?_;refine al (Dy b Y λy4 c6 a5 E4=>?_);refine S0 ?_;exact kk _ _ ((X2.M X3).of E4) a5 ((E4.2 _ Y).t l)
  rw[aA q4] at e4;by_cases q5:p=bD
  .rw[aB q5] at e5;have hn:N C=2:=by
    have g:=c7 (by rw[q5];decide);rw[q5] at g;exact(jX g).s
   obtain⟨d,P,rfl⟩:∃d P,C=[d,P]:=by
    match C,hn with
    |[d,P],_=>exact⟨d,P,R⟩
   obtain⟨j6,_,rfl,h7,m8,_,rfl,l8,rfl⟩:=cy;have eo:pd n p f b9 a [d,P] b2=((aF n f,false),dI (ke P (cB (aF n f) f true)) 10 a (dI (ke d (cB (aF n f) f false)) 10 a b2)):=by rw[q5];rfl
   rw[eo] at kk;obtain⟨ba,l6,g5,rfl,e6⟩:∃ba,j.h+2<=ba/\ba<F.h/\xa=.a ba 0 2 (.B 1)/\F.f ba=LL [j6,m8]:=by
    rcases ra with⟨_,g⟩|⟨ba,o,k,h3,h4,h5⟩
    .cases g
    .exact⟨ba,o,k,h3,h5⟩
   obtain⟨bb,l7,g6,rfl,e7⟩:∃bb,j.h+2<=bb/\bb<F.h/\xb=.a bb 0 2 (.B 1)/\F.f bb=LL [d.2,P.2]:=by
    rcases rb with⟨_,g⟩|⟨ba,o,k,h3,h4,h5⟩
    .cases g
    .exact⟨ba,o,k,h3,h5⟩
   have m7:N d.1<=1073741825:=g7 d dp;have b:N P.1<=1073741825:=g7 P dp;have sk:∀q,N (cB (aF n f) f q)<=1073741825:=λq=>by
    unfold cB;rw[ay];show _+1<=_;omega
   simp(disch:=omega)only[go_sem,p4,B,c0,c1,e1,e2,e3,e4,e5];refine al (CB rz g8 f ua ul λy2 c5 b4 E2=>?_);have X2:=X.of E2;have n2:=E2.1;have d1:=(E2.2 _ Y).t c1;have da:=(E2.2 _ g5).t e6;have db:=(E2.2 _ g6).t e7;have c8:=h7.ext E2;have j9:=l8.ext E2;have a2:cG c5 W b2:=(E2.2 _ i4).t a1;refine S0 ?_;obtain⟨B1,a7⟩:∃B1,B1=dI (ke d (cB (aF n f) f false)) 10 a b2:=⟨_,R⟩;obtain⟨b,b5⟩:∃b,b=dI (ke P (cB (aF n f) f true)) 10 a B1:=⟨_,R⟩;rw[<-a7,<-b5] at kk;have h:B1.1<=100:=by rw[a7];exact tQ dc k7
   let⟨J,hJ⟩:=inv λm U b1=>∃i,m=2-i/\i<=2/\(U 0=.p W 0/\U 5=.p (j.h+1) 0/\U 8=.a ba 0 2 (.B 1)/\U 9=.a bb 0 2 (.B 1)/\U 14=y2/\U 15=II i)/\ax W c5 b1/\cG b1 W (if i=0 then b2 else if i=1 then B1 else b);refine aT J 2 ((hJ _ _ _).2 ⟨0,R,aJ _,⟨dx p0,dx B,dx p8,dx Z,R,R⟩,.refl _ _,a2⟩) ?_;clear p0 p4 B p8 Z;intro m U b1 hj;let⟨i,hm,hi,⟨p0,B,p8,Z,a9,b0⟩,X3,O⟩:=(hJ _ _ _).1 hj;have b:=X3.1;have f1:=(X3.2 _ Y Y).t d1;have fa:=(X3.2 _ Y Y).t da;have fb:=(X3.2 _ Y Y).t db;have kx:=Gu a2 X3;have h9:=b4.aR kx;by_cases i0:i=0
   .subst i0;rw[ae R] at O;cases hq:d.2 with
    |true=>
     have em:ke d (cB (aF n f) f false)=false:=by unfold ke;rw[hq];rfl
     rw[em] at a7;rw[hq] at fb;refine S3 Z b0 fb ?_;exact⟨2-(0+1),Y,(hJ _ _ _).2 ⟨0+1,R,by decide,⟨dx p0,dx B,dx p8,dx Z,dx a9,R⟩,X3,(by rw[ac (by decide),ae R];exact(a7▸O))⟩⟩
    |false=>
     have em:ke d (cB (aF n f) f false)=!de (d.1=cB (aF n f) f false):=by unfold ke;rw[hq];rfl
     rw[em] at a7;rw[hq] at fb;refine S8 B p8 Z a9 b0 f1 fa fb ?_;refine bL (Dy (q:=false) h9 Y λy4 c6 a5 E4=>?_);have g1:=(E4.2 _ Y).t f1;have ga:=(E4.2 _ Y).t fa;have h8:=(c8.aR kx).ext E4;have c9:cG c6 W b2:=(E4.2 _ Y).t O;have X4:=X3.of E4;refine S0 ?_;refine bL (D1 h8 a5 Y (om (sk false)) ?_);cases hd:de (d.1=cB (aF n f) f false) with
     |true=>
      rw[hd] at a7;refine S3 b0 fa ga ?_;exact⟨2-(0+1),Y,(hJ _ _ _).2 ⟨0+1,R,by decide,⟨dx p0,dx B,dx p8,dx Z,dx a9,R⟩,X4,(by rw[ac (by decide),ae R];exact(a7▸c9))⟩⟩
     |false=>
      rw[hd] at a7;refine S5 p0 B fa g1 ga ?_;refine al (jS c9 Y λj7 w1 w2 w3=>?_);refine S1 b0 ?_;exact⟨2-(0+1),Y,(hJ _ _ _).2 ⟨0+1,R,by decide,⟨dx p0,dx B,dx p8,dx Z,dx a9,R⟩,⟨om X4.1,λc o k=>(w3 c k).t (X4.2 c o k)⟩,(by rw[ac (by decide),ae R];exact(a7▸w2))⟩⟩
   by_cases i1:i=1
   .subst i1;rw[ac (by decide),ae R] at O;cases hq:P.2 with
    |true=>
     have em:ke P (cB (aF n f) f true)=false:=by unfold ke;rw[hq];rfl
     rw[em] at b5;rw[hq] at fb;refine S3 Z b0 fb ?_;exact⟨2-(1+1),Y,(hJ _ _ _).2 ⟨1+1,R,by decide,⟨dx p0,dx B,dx p8,dx Z,dx a9,R⟩,X3,(by rw[ac (by decide),ac (by decide)];exact(b5▸O))⟩⟩
    |false=>
     have em:ke P (cB (aF n f) f true)=!de (P.1=cB (aF n f) f true):=by unfold ke;rw[hq];rfl
     rw[em] at b5;rw[hq] at fb;refine S8 B p8 Z a9 b0 f1 fa fb ?_;refine bL (Dy (q:=true) h9 Y λy4 c6 a5 E4=>?_);have g1:=(E4.2 _ Y).t f1;have ga:=(E4.2 _ Y).t fa;have h8:=(j9.aR kx).ext E4;have c9:cG c6 W B1:=(E4.2 _ Y).t O;have X4:=X3.of E4;refine S0 ?_;refine bL (D1 h8 a5 Y (om (sk true)) ?_);cases hd:de (P.1=cB (aF n f) f true) with
     |true=>
      rw[hd] at b5;refine S3 b0 fa ga ?_;exact⟨2-(1+1),Y,(hJ _ _ _).2 ⟨1+1,R,by decide,⟨dx p0,dx B,dx p8,dx Z,dx a9,R⟩,X4,(by rw[ac (by decide),ac (by decide)];exact(b5▸c9))⟩⟩
     |false=>
      rw[hd] at b5;refine S5 p0 B fa g1 ga ?_;refine al (jS c9 Y λj7 w1 w2 w3=>?_);refine S1 b0 ?_;exact⟨2-(1+1),Y,(hJ _ _ _).2 ⟨1+1,R,by decide,⟨dx p0,dx B,dx p8,dx Z,dx a9,R⟩,⟨om X4.1,λc o k=>(w3 c k).t (X4.2 c o k)⟩,(by rw[ac (by decide),ac (by decide)];exact(b5▸w2))⟩⟩
   obtain rfl:i=2:=Y;rw[ac (by decide),ac (by decide)] at O;refine S2 a9 b0 ?_;exact kk _ _ (X2.M X3) h9 O
  rw[aA q5] at e5;have eo:pd n p f b9 a C b2=kF a C ([],true) b2:=by
   unfold pd;rw[ac (by rintro(g|g)<;>contradiction),ac q3,ac q4,ac q5]
  rw[eo] at kk;refine S7 B c1 e1 e2 e3 e4 e5 ?_;have a8:=Jq cy;have la:=λa3 e w=>bI (e:=a3) ra.rd (n:=N C) (by rw[aC];exact a8) Y e w;let⟨J,hJ⟩:=inv λm U b1=>∃i cx a4 b' c4,m=N C-i/\i<=N C/\(U 0=.p W 0/\U 5=.p (j.h+1) 0/\U 8=xa/\U 9=xb/\U 16=c4/\U 17=.l a4/\U 18=II i)/\ax W F b1/\cG b1 W b'/\b'.1<=100/\iZ b1 c4 cx/\N cx<=1073741825/\kF a (C.drop i) (cx,a4) b'=kF a C ([],true) b2;refine aT J (N C) ((hJ _ _ _).2 ⟨0,[],true,b2,.e,R,aJ _,⟨dx p0,dx B,dx p8,dx Z,R,R,R⟩,.refl _ _,a1,k7,.inl dy,aJ _,R⟩) ?_;clear p0 p4 B p8 Z;intro m U b1 hj;let⟨i,a6,a4,b',c4,hm,hi,⟨p0,B,p8,Z,g0,c2,c3⟩,X3,O,b8,b3,g4,eR⟩:=(hJ _ _ _).1 hj;have f1:=(X3.2 _ Y Y).t c1;by_cases D:i<N C
  .obtain⟨ba,l6,g5,rfl,-,e6⟩:=ra.resolve_left (λg=>by rw[g.2] at a8;have:(0:Nat)=N C:=a8;omega);obtain⟨bb,l7,g6,rfl,-,e7⟩:=rb.resolve_left (λg=>by have:=dv List.length g.2;rw[aC] at this;have:N C=0:=this;omega);have fa:=(X3.2 _ Y Y).t e6;have fb:=(X3.2 _ Y Y).t e7;let⟨b,k2⟩:=Cy (Cz (Gu a1 X3) cy) i D;have gy:ya.getD i bp=ya[i]:=by rw[cA,bM b];rfl
   have gb:(C.map λc=>AV.l c.2).getD i bp=.l C[i].2:=by rw[cA,pF,bM D];rfl
   have gl:N (C.map λc=>AV.l c.2)=N C:=aC ..;have j2:=g7 _ (aU D);have j2:C[i].1.length<=1073741825:=j2;have b:kF a (C.drop i) (a6,a4) b'=if C[i].2 then kF a (C.drop (i+1)) (a6,a4) b' else if a4 then kF a (C.drop (i+1)) (C[i].1,false) b' else kF a (C.drop (i+1)) (a6,a4) (dI (!de (a6=C[i].1)) 10 a b'):=by
    rw[eJ D];rfl
   rw[b] at eR;generalize ya[i]=yi at*;generalize C[i]=q at*;cases hq:q.2 with
   |true=>
    rw[hq,ae R] at eR;rw[hq] at gb;refine S7 p8 Z c3 la fb gb gl ?_;exact⟨N C-(i+1),Y,(hJ _ _ _).2 ⟨i+1,a6,a4,b',c4,R,D,⟨dx p0,dx B,dx p8,dx Z,dx g0,dx c2,R⟩,X3,O,b8,b3,g4,eR⟩⟩
   |false=>
    rw[hq,ac to] at eR;rw[hq] at gb;cases a4 with
    |true=>
     rw[ae R] at eR;simp(disch:=omega)only[go_sem,p8,Z,c2,c3,fa,fb,gb,gy,gl,a8];exact⟨N C-(i+1),Y,(hJ _ _ _).2 ⟨i+1,q.1,false,b',yi,R,D,⟨dx p0,dx B,dx p8,dx Z,R,R,R⟩,X3,O,b8,k2,j2,eR⟩⟩
    |false=>
     rw[ac to] at eR;simp(disch:=omega)only[go_sem,p8,Z,g0,c2,c3,fa,fb,gb,gy,gl,a8];refine al (D1 b3 k2 Y Y ?_);cases hd:de (a6=q.1) with
     |true=>
      rw[hd] at eR;refine S1 c3 ?_;exact⟨N C-(i+1),Y,(hJ _ _ _).2 ⟨i+1,a6,false,b',c4,R,D,⟨dx p0,dx B,dx p8,dx Z,dx g0,dx c2,R⟩,X3,O,b8,b3,g4,eR⟩⟩
     |false=>
      rw[hd] at eR;refine S3 p0 B f1 ?_;refine al (jS O Y λj7 w1 w2 w3=>?_);have b:ax W b1 j7:=⟨Y,λc o k=>w3 c k⟩;refine S1 c3 ?_;exact⟨N C-(i+1),Y,(hJ _ _ _).2 ⟨i+1,a6,false,_,c4,R,D,⟨dx p0,dx B,dx p8,dx Z,dx g0,dx c2,R⟩,X3.M b,w2,sK dc b8,b3.aR (Gu O b),g4,eR⟩⟩
  .obtain rfl:i=N C:=Y;rw[fQ] at eR;have eR:((a6,a4),b')=kF a C ([],true) b2:=eR;rw[<-eR] at kk;refine S5 p8 g0 c2 c3 la ?_;exact kk _ _ (X.M X3) b3 O
end
end Go.Proofs.YtehahhggpdhieaaGreatDoor
