/- Lemmas of the walk of EmitKinds are proved. Conditions: none. -/
import Derived.Test.YtehahhggpdhieaaGreatDoorX25
namespace Go.Proofs.YtehahhggpdhieaaGreatDoor
set_option maxRecDepth 100000
set_option maxHeartbeats 32000000
set_option linter.all false
section
open Tryz
variable {g:AV->HN->Prop}{p:ES}{d:HN}{z:L AV}{u v:L Nat}{b f q:Nat}{o:Nat->Nat}{n:Nd}
def ajA{a:Nd}{c:L AV}(l:eG a)(h:d.f b=LL c)(f:b<d.h)(n:dL tt d a c){e:Tr}{i:L AV}(m:bO e)(o:cC e)(j:dF [] a e)(t:bn tt d e i)
  (k:∀c,ai d.h d c->g (II (ae7 (fM [] a e))) c):∃f c,aq Tryz.prog 148 [.a b 0 1 (.k 1),II 0,i] d f c/\g f c:=by
 refine cf VM func148 ?_;have c:=n;obtain⟨p,q,r,s,rfl,-⟩:=c;obtain⟨i,f2,f3,f4,f5,rfl⟩:=cJ t;have c:sV a.n=.s a.n.1 a.n.2:=R;rw[c] at n h;obtain⟨f,c⟩:∃f,f=d.X (LL [i,f2,f3,f4,f5]):=⟨_,R⟩;have u:ai d.h d f:=by rw[c];exact ap (.refl _ _)
 have i:f.h=d.h+1:=by rw[c];rfl
 refine S1 h ?_;rw[<-c];clear c;obtain⟨X,h⟩:∃X,X=(((f.at_ (d.h+1+(1+1+1+1+1+1+1+1))).X (LL [.a b 0 0 (.k 1),a.n,p,q,r,s,a.a,.e])).at_ (d.h+1+(1+1+1+1+1+1+1+1+1+1))):=⟨_,R⟩;have w:∀c,c<f.h->X.f c=f.f c:=λc i=>by rw[h];exact ac (by show¬c=d.h+1+(1+1+1+1+1+1+1+1);omega)
 have f:X.h=d.h+11:=by rw[h];rfl
 have v:X.f (d.h+9)=LL [.a b 0 0 (.k 1),a.n,p,q,r,s,a.a,.e]:=by rw[h];exact ae R
 have f:ai d.h d X:=⟨Y,λc i=>(w c Y).t (u.2 c i)⟩;rw[<-h];clear h;have T:uK d (.a b 0 0 (.k 1)) [] a [a.n,p,q,r,s,a.a]:=⟨⟨[],.inl ⟨R,.inr ⟨_,_,_,R⟩⟩,R⟩,n,⟨aJ _,λa a=>(by cases a)⟩,l⟩;refine al (ajz T (B:=d.h+9) Y e m o j _ _ .e [] _ f ⟨Y,v,.inl dy⟩ (aJ _) t (λq a h m=>?_) (λp j a a j l j=>?_))
 .rw[h] at k;refine S0 ?_;exact k _ (aM f m)
 .rw[a] at k;refine S0 ?_;exact k _ ⟨bC f.1 l,λc i=>(j c (cW i f.1) Y (λa=>a)).t (f.2 c i)⟩
def agt{a:cK}{U:S->Option Nat}(h:ba f q a o u v U p d)(D:eG n)(K:dL tt d n [a.n,a.d,a.w,a.b,a.e,a.a]){t:Tm}(x:mJ o d t z)(j:bO (bw t))(F:cC (bw t))(C:dF [] n (bw t))
  (k:∀b,ai d.h d b->g (II (rf n (bw t))) b):∃c b,aq Tryz.prog 110 [.p q 0,z] d c b/\g c b:=by
 let⟨_,_,b,_,c⟩:=h.W;have c:=h.base;have B:d.f q=LL [a.n,a.d,a.w,a.b,a.e,a.a,a.y 0,a.y 1,a.y 2,a.y 3,a.y 4,a.y 5,.map a.m,.map a.c,a.y 6,a.y 7,a.y 8]:=b.D;obtain⟨I,H,x,-⟩:=x;let⟨m,r,s,w,b,e,c,_,i⟩:=qz x;subst c;refine cf VC func110 ?_;refine S1 B ?_;obtain⟨X,i⟩:∃X,X=(((d.X (LL [m,r,s,w,.e,b,e,t.ck.2])).at_ (d.h+1+(1+1+1+1))).X (LL [a.n,a.d,a.w,a.b,a.e,a.a])).at_ (d.h+1+(1+1+1+1+1+1+1+1+1)):=⟨_,R⟩;obtain⟨Z,l⟩:∃Z,Z=(d.X (LL [m,r,s,w,.e,b,e,t.ck.2])).at_ (d.h+1+(1+1+1+1+1+1+1+1+1)):=⟨_,R⟩;have c:X.h=d.h+10:=by rw[i];rfl
 have y:ai d.h d X:=⟨Y,λc O=>by rw[i];exact(ac (by show¬c=d.h+1+(1+1+1+1);omega)).t (ac Y)⟩;have O:X.f (d.h+1+(1+1+1+1))=LL [a.n,a.d,a.w,a.b,a.e,a.a]:=by rw[i];exact ae R
 have x0:X.f d.h=LL [m,r,s,w,.e,b,e,t.ck.2]:=by rw[i];exact(ac (by show¬d.h=d.h+1+(1+1+1+1);omega)).t (ae R)
 have P:Z.f d.h=LL [m,r,s,w,.e,b,e,t.ck.2]:=by rw[l];exact ae R
 have w:Z.f q=LL [a.n,a.d,a.w,a.b,a.e,a.a,a.y 0,a.y 1,a.y 2,a.y 3,a.y 4,a.y 5,.map a.m,.map a.c,a.y 6,a.y 7,a.y 8]:=by rw[l];exact(ac Y).t B
 rw[<-i,<-l];clear i l;refine bL (ajS t j X I H _ _ (Bi y x) λb e r i=>?_);have b:=i.1;have s:=(i.2 _ (by omega:d.h+1+(1+1+1+1)<X.h)).t O;have l:=(i.2 _ (by omega:d.h<X.h)).t x0;have m:=(i.2 _ (by omega:q<X.h)).t ((y.2 q Y).t B);have b:=aM y i;refine S0 ?_;refine bL (ajA D s Y (se (iS b) b.1 (λ_ h=>h) K) j F C (gq (F:=λc=>X.h<=c/\c<e.h) (λ_ _ _=>R) (ak _) (λ_ _=>trivial) _ _ r) λc c=>?_);have j:=(c.2 _ (by omega:d.h<e.h)).t l;have i:=(c.2 _ (by omega:q<e.h)).t m;refine S6 l m P w j i ?_;exact k _ (aM b c)
variable {c:L aS}{a i:Nat}
structure iOG (a b:ES):Prop where
 V:N a.an<=N b.an
 me:N a.y<=N b.y
 co:N a.s<=N b.s
 cd:N a.j<=N b.j
 lo:N a.l<=N b.l
 la:N a.late<=N b.late
 fi:N a.f<=N b.f
def iOG.refl(a:ES):iOG a a:=⟨ak _,ak _,ak _,ak _,ak _,ak _,ak _⟩
def iOG.M{a b c:ES}(h:iOG a b)(g:iOG b c):iOG a c:=⟨bC h.V g.V,bC h.me g.me,bC h.co g.co,bC h.cd g.cd,bC h.lo g.lo,bC h.la g.la,bC h.fi g.fi⟩
def vg{a:Type}(l:L a)(r:L a):N l<=N (l++r):=by rw[ay];omega
def AH(k:Nat)(a:ES):iOG a (fx k a).2:=⟨vg _ _,ak _,ak _,ak _,ak _,ak _,ak _⟩
def AG(t:It)(a:ES):iOG a (eE t a):=⟨ak _,ak _,ak _,vg _ _,ak _,ak _,ak _⟩
def Gm(k:Nat)(a:ES):iOG a (kD k a).2:=⟨vg _ _,vg _ _,ak _,ak _,vg _ _,ak _,ak _⟩
def KB(a:ES)(x:Nat×Nat×Tm):iOG a {a with late:=a.late++[x]}:=⟨ak _,ak _,ak _,ak _,ak _,vg _ _,ak _⟩
def KI(c:L aS)(a:ES):iOG a (pD c a).2:=(Gm 1 a).M ⟨ak _,ak _,ak _,ak _,ak _,ak _,vg _ _⟩
def AF(k b y n:Nat)(a:ES):iOG a (kS k b y n a).2:=(AH k a).M (AG _ _)
def R8(s:Nat)(a:ES):iOG a (nG s a).2:=(AH 1 a).M (AG _ _)
def aee(n:Nat)(a:ES):iOG a (iw n a).2:=by
 unfold iw;split
 .exact .refl _
 .exact⟨ak _,ak _,vg _ _,ak _,ak _,ak _,ak _⟩
def Gl(k n:Nat)(a:ES):iOG a (hY k n a).2:=((aee n a).M (AH k _)).M (AG _ _)
def aef(c:S)(a b:Nat)(d:ES):iOG d (pz c a b d).2:=by
 have g:iOG d (eE (.o ⟨(cI c).1,(fx (if 13<=(cI c).1 then 1 else 2) d).1,if(cI c).2.1 then b else a,if(cI c).2.1 then a else b⟩) (fx (if 13<=(cI c).1 then 1 else 2) d).2):=(AH _ d).M (AG _ _);show iOG d (if(cI c).2.2 then _ else _:Nat×ES).2;split
 .exact g.M (R8 _ _)
 .exact g
def R5(f:S->Nat)(d b:S)(c:L aS)(e:L Nat)(a:ES):iOG a (gx f d b c e a).2:=by
 unfold gx;dsimp only;split
 .exact R8 _ _
 split
 .exact(AH 2 a).M (AG _ _)
 split
 .exact .refl _
 split
 .exact AF _ _ _ _ _
 split
 .exact AF _ _ _ _ _
 split
 .exact(KI c a).M (AF _ _ _ _ _)
 .exact aef _ _ _ _
mutual
def vt(n:Nd)(d:S->Nat):∀(t:Tm) (b:ES),iOG b (bu n d t b).2
 |.mk op g f a c any e,b=>by
  unfold bu;dsimp only;split
  .exact(Gm _ b).M (KB _ _)
  split
  .exact((ahf n d e b).M ((Gm _ _).M (KB _ _))).M ((KI c _).M (AF _ _ _ _ _))
  split
  .exact Gl _ _ _
  split
  .exact Gl _ _ _
  split
  .exact .refl _
  .exact(Ba n d e b).M (R5 _ _ _ _ _ _)
def ahf(n:Nd)(b:S->Nat):∀(c:L Tm) (a:ES),iOG a (lQ n b c a).2
 |[],a=>by unfold lQ;exact .refl _
 |k::_,a=>by unfold lQ;exact vt n b k a
def Ba(n:Nd)(c:S->Nat):∀(b:L Tm) (a:ES),iOG a (cR n c b a).2
 |[],a=>by unfold cR;exact .refl _
 |k::b,a=>by
  unfold cR;exact(vt n c k a).M (Ba n c b _)
end
def AS{a:Type}(l:L a)(x:a):N l<N (l++[x]):=by rw[ay];exact bJ _
def UF(s:Nat)(a:ES):(nG s a).1<N (nG s a).2.an:=AS _ _
def Fm(k b y n:Nat)(a:ES):(kS k b y n a).1<N (kS k b y n a).2.an:=AS _ _
def QA(k n:Nat)(a:ES):(hY k n a).1<N (hY k n a).2.an:=AS _ _
def ajw(c:S)(a b:Nat)(d:ES):(pz c a b d).1<N (pz c a b d).2.an:=by
 show(if(cI c).2.2 then _ else _:Nat×ES).1<N (if(cI c).2.2 then _ else _:Nat×ES).2.an
 split
 .exact UF _ _
 .exact AS _ _
def aeY(g:S->Nat)(f d:S)(c:L aS)(a:L Nat)(b:ES)(j:0<N b.an)(h:∀x∈a,x<N b.an):(gx g f d c a b).1<N (gx g f d c a b).2.an:=by
 have k:∀i,a.getD i 0<N b.an:=λi=>by
  rw[cA];cases e:a[i]? with
  |none=>exact j
  |some x=>exact h x (qI e)
 unfold gx;dsimp only;split
 .exact UF _ _
 split
 .exact AS _ _
 split
 .exact k 0
 split
 .exact Fm _ _ _ _ _
 split
 .exact Fm _ _ _ _ _
 split
 .exact Fm _ _ _ _ _
 .exact ajw _ _ _ _
mutual
def Vm(n:Nd)(d:S->Nat):∀(t:Tm) (b:ES),(∀s,d s<N b.an)->(bu n d t b).1<N (bu n d t b).2.an
 |.mk op f g a c any e,b,h=>by
  unfold bu;dsimp only;split
  .exact AS _ _
  split
  .exact Fm _ _ _ _ _
  split
  .exact QA _ _ _
  split
  .exact QA _ _ _
  split
  .exact h f
  .exact aeY _ _ _ _ _ _ (Eu (aJ _) (cW (h f) (Ba n d e b).V)) (L6 n d e b h)
def L6(n:Nd)(b:S->Nat):∀(c:L Tm) (a:ES),(∀s,b s<N a.an)->∀x∈(cR n b c a).1,x<N (cR n b c a).2.an
 |[],a,_=>by unfold cR;exact λx hx=>(by cases hx)
 |k::c,a,h=>by
  unfold cR;intro x hx;have g:=vt n b k a;have d:=Ba n b c (bu n b k a).2;rcases bY.1 hx with rfl|hx
  .exact cW (Vm n b k a h) d.V
  .exact L6 n b c _ (λs=>cW (h s) g.V) x hx
end
def qe(a:ES):Prop:=N a.an<=800000000000/\N a.y<=800000000000/\N a.s<=800000000000/\N a.j<=800000000000/\N a.l<=800000000000/\N a.late<=800000000000/\N a.f<=800000000000
def qe.of{a b:ES}(h:qe b)(g:iOG a b):qe a:=by
 let⟨c,d,e,f,i,j,k⟩:=h;exact⟨bC g.V c,bC g.me d,bC g.co e,bC g.cd f,bC g.lo i,bC g.la j,bC g.fi k⟩
def Vp(n:Nd)(a:S->Nat)(k:Tm):∀(b:L Tm) (c:ES),cR n a (b++[k]) c=((cR n a b c).1++[(bu n a k (cR n a b c).2).1],(bu n a k (cR n a b c).2).2)
 |[],c=>by simp only[dH,cR]
 |x::b,c=>by simp only[fc,cR,Vp n a k b]
def Vt(n:Nd)(c:S->Nat):∀(a:L Tm) (b:ES),N (cR n c a b).1=N a
 |[],b=>by unfold cR;rfl
 |x::a,b=>by unfold cR;rw[bt,Vt n c a,bt]
def mJ.mR{op nm:S}{N:Nat}{b:Bool}{ks:L Tm}{f e:AV}(h:mJ o d (.mk op nm N a c b ks) [sV op,sV nm,N,a,.e,f,e,b])(n:i<ks.length):
  ∃(f:Nat) (b:L (L AV)),e=.a f 0 ks.length (.B 8)/\f<d.h/\o f=0/\d.f f=LL b.flatten/\∃e:i<b.length,(b.flatten.drop (i*8)).take 8=b[i]/\b.flatten.length=ks.length*8/\mJ o d ks[i] b[i]:=by
 let⟨_,_,rt,g,l⟩:=h;unfold dO at rt;let⟨_,_,b,m,j,_,_,g,k⟩:=rt;cases j;have j:=pQ g;rcases k with⟨_,rfl,_⟩|⟨f,k,q,r,s,k,t⟩
 .cases n
 let⟨k,m,e,_,_,_,p,_⟩:=DQ g i n;have g:=jZ b j.2.1;rw[j.1] at g;refine⟨f,b,by rw[s,j.1],r,l f Y q,t,e,oV b i j.2.1 e,g,k,m,p,Y,λc b q2=>l c Y Y⟩
def rK(o:Nat->Nat)(a:HN)(v:cK)(n:Nd):Prop:=dL (λc=>o c=0/\c<a.h) a n [v.n,v.d,v.w,v.b,v.e,v.a]
variable {e:HN}
def rK.step{U:HN}{a:Nat->Nat}{v b:cK}(s:bh U o e a)(c:fh v b)(h:rK o U v n):rK a e b n:=by
 obtain⟨a,b,d,f,g,i,-,-⟩:=c;unfold rK at*;rw[a,b,d,f,g,i];exact se (λb q a=>s.same b a (.inl q.1)) s.h (λb q=>⟨(s.C b q.2).t q.1,cW q.2 s.h⟩) h
def rK.tt{v:cK}(h:rK o d v n):dL tt d n [v.n,v.d,v.w,v.b,v.e,v.a]:=se (λ_ _ _=>R) (ak _) (λ_ _=>trivial) h
def ba.free{a:cK}{b:S->Option Nat}(h:ba f q a o u v b p d){c:Nat}(e:d.h<=c):o c=0:=by
 let⟨_,e,H,_⟩:=h.W;by_cases e:o c=0
 .exact e
 .have:=(H.ob c e).2;omega
def sg(a:S->Option Nat)(s:S):Nat:=(a s).getD 0
def wO(a:S->Option Nat)(s:S):sN false (II 0) ((a s).map iv)=II (sg a s):=by
 unfold sg;cases a s<;>rfl
def tE(n:Nd)(b g:Nat)(i j:L Nat)(c:S->Option Nat)(t:Tm):Prop:=∀(f:HN) (v:cK) (o:Nat->Nat) (d:ES) (z:L AV) (Q:AV->HN->Prop),ba b g v o i j c d f->rK o f v n->mJ o f t z->(∀s,sg c s<N d.an)->qe (bu n (sg c) t d).2->
 (∀e h a,ba b g e h i j c (bu n (sg c) t d).2 a->bh f o a h->fh v e->Q (II (bu n (sg c) t d).1) a)->∃e a,aq Tryz.prog 77 [.p g 0,z] f e a/\Q e a
structure aao (n:Nd) (op nm:S) (N a:Nat) (c:List aS) (any:Bool) (ks:List Tm):Prop where
 ok:bO (bw (.mk op nm N a c any ks))
 pC:cC (bw (.mk op nm N a c any ks))
 T:dF [] n (bw (.mk op nm N a c any ks))
 nc:op≠bK
def ahn(I:eG n){P:S->Option Nat}{d j:S}{l:Nat}{p:Bool}{e:L Tm}(H:aao n d j l a c p e)(hk:0<N e)(t:d=eH):tE n f q u v P (.mk d j l a c p e):=by
 intro y a0 o g z Q h hn D m W k;have m:=D;let⟨_,_,rt,_,o⟩:=m;unfold dO at rt;obtain⟨Z,B,m,m,rfl,m,C,K,s⟩:=rt;have m:dZ B=some [B]:=by rcases s with⟨rfl,_⟩|⟨_,_,_,_,rfl,_⟩<;>rfl
 clear s K C;have o:bu n (sg P) (.mk d j l a c p e) g=((kD (rf n (.mk d j l a (cL e))) g).1.2,{(kD (rf n (.mk d j l a (cL e))) g).2 with late:=(kD (rf n (.mk d j l a (cL e))) g).2.late++[((kD (rf n (.mk d j l a (cL e))) g).1.1,(kD (rf n (.mk d j l a (cL e))) g).1.2,e.getD 0 T0)]}):=by
  unfold bu;rw[ae t]
 have m:=W.of (vt n (sg P) (.mk d j l a c p e) g);let⟨_,_,_,_,_,_,s⟩:=id m;rw[o] at k;have m:aI d.1 d.2 3 6648432=true:=by rw[show aI d.1 d.2 3 6648432=de (d=eH) from bz d eH];exact aB t
 refine cf zg func77 ?_;simp(disch:=omega)only[go_sem,sV,m];obtain⟨W,m⟩:∃W,W=y.X (.E false [.s d.1 d.2,.s j.1 j.2,.i .i64 l,.i .i64 a,.e,Z,B,.l p]):=⟨_,R⟩;have o:ai y.h y W:=by rw[m];exact ap (.refl _ _)
 have t:W.f y.h=.E false [.s d.1 d.2,.s j.1 j.2,.i .i64 l,.i .i64 a,.e,Z,B,.l p]:=by rw[m];exact ae R
 have p:W.h=y.h+1:=by rw[m];rfl
 rw[<-m];clear m;have s:=h.free (ak _);have p:=h.X o;have m:=D.step (.ext o);have h:=hn.step (.ext o) (.refl a0);refine al (agt p I h.tt m H.ok H.pC H.T λh h=>?_);refine S0 ?_;have m:=aM o h;refine al (Lx (p.X h) Y λb o i V o V3=>?_);have r:=(bh.ext m).M o;have W3:=(o.same _ (om h.1) (.inl s)).t ((h.2 _ Y).t t);let⟨l6,l7,U,R6,R7⟩:=V.W;have hb:i.f q=.E false [.s b.n.1 b.n.2,b.d,b.w,b.b,b.e,.i .i64 b.a,b.y 0,b.y 1,b.y 2,b.y 3,b.y 4,b.y 5,.map b.m,.map b.c,b.y 6,b.y 7,b.y 8]:=U.D;have t3:=D.step r;obtain⟨h,x,rfl,h,h,F,h,w,h,O⟩:=t3.mR hk;have h:=O;let⟨_,m,z,_,_⟩:=h;let⟨o,p,t,y,h,m,s,_,B⟩:=qz z;rw[s] at w O;have s:x.flatten.take 8=[.s o.1 o.2,.s p.1 p.2,.i .i64 t,.i .i64 y,.e,h,m,.l e[0].ck.2]:=w;simp(disch:=omega)only[go_sem,fp,ft,bF,hb,W3,F,s];obtain⟨X,s⟩:∃X,X=(((i.at_ (i.h+(1+1+1+1+1+1+1+1+1+1+1+1))).X (.E false [.i .i64 (N g.y),.i .i64 (N g.an),.s o.1 o.2,.s p.1 p.2,.i .i64 t,.i .i64 y,.e,h,m,.l e[0].ck.2])).at_ (i.h+(1+1+1+1+1+1+1+1+1+1+1+1+1+1+1+1+1))):=⟨_,R⟩;have w:X.h=i.h+17:=by rw[s];rfl
 have w:ai i.h i X:=⟨Y,λc x=>by rw[s];exact ac (by show¬c=i.h+(1+1+1+1+1+1+1+1+1+1+1+1);omega)⟩;have C:X.f (i.h+(1+1+1+1+1+1+1+1+1+1+1+1))=.E false [.i .i64 (N g.y),.i .i64 (N g.an),.s o.1 o.2,.s p.1 p.2,.i .i64 t,.i .i64 y,.e,h,m,.l e[0].ck.2]:=by rw[s];exact ae R
 rw[<-s];clear s;have i:e.getD 0 T0=e[0]:=by rw[cA,bM hk];rfl
 rw[i] at k;let⟨i,D,B,f4,x,z⟩:=V.app U (k:=6) (s:=10) (w:=144) (n:=N g.late) dc R R (qp (N g.y) _) w (sX C Y R) Y
  (pi':=u) (po':=v) (st':={(kD (rf n (.mk d j l a (cL e))) g).2 with late:=(kD (rf n (.mk d j l a (cL e))) g).2.late++[((kD (rf n (.mk d j l a (cL e))) g).1.1,(kD (rf n (.mk d j l a (cL e))) g).1.2,e[0])]}) (l6':=l6++[[.i .i64 (N g.y),.i .i64 (N g.an),.s o.1 o.2,.s p.1 p.2,.i .i64 t,.i .i64 y,.e,h,m,.l e[0].ck.2]]) (l7':=l7) (nine R R R R R R (Gb _ _) R R) (nine R R R R R R (by show(g.late++[_]).length=_;rw[ay];rfl) R R) R (λ_ _ s=>jA.app (O.step s) (R6.step s)) (λ_ _ s=>R7.step s)
 have g:i.f q=.E false [.s b.n.1 b.n.2,b.d,b.w,b.b,b.e,.i .i64 b.a,b.y 0,b.y 1,b.y 2,b.y 3,b.y 4,b.y 5,.map b.m,.map b.c,b.y 6,b.y 7,b.y 8]:=f4;rw[B];refine S1 g ?_;exact k _ D _ x (r.M z) (V3.M (.put _ 6 _))
end
section
open Tryz
variable {u v:L Nat}{c:L aS}{a f i q:Nat}{n:Nd}
def ad7(l r:L Nat)(h:i<N l):(l++r).getD i 0=l.getD i 0:=by
 rw[cA,cA,tp h]
def ae8{a:L Tm}(h:i<N a):a.getD i T0=a[i]:=by rw[cA,bM h];rfl
def ahc(n:Nd)(c:S->Nat){a:L Tm}(h:0<N a)(b:ES):lQ n c a b=bu n c a[0] b:=by
 cases a with
 |nil=>exact absurd h (nR _)
 |cons k r=>unfold lQ;rfl
def ahk(m:eG n){a0:S->Option Nat}{g nm:S}{V:Nat}{l:Bool}{j:L Tm}(hk:1<N j)(s:g=dk)(ih:tE n f q u v a0 (j[0]'Y)):tE n f q u v a0 (.mk g nm V a c l j):=by
 intro U c2 o st z Q h hn ht D sm k;have B:0<N j:=Y;have m:=ht;let⟨_,_,rt,_,z⟩:=m;unfold dO at rt;obtain⟨cy,ky,m,m,rfl,a8,W,b8,C⟩:=rt;have m:dZ ky=some [ky]:=by rcases C with⟨rfl,_⟩|⟨_,_,_,_,rfl,_⟩<;>rfl
 clear C b8 W;have C:g≠eH:=by rw[s];decide
 obtain⟨p,Z⟩:∃p,p=bu n (sg a0) j[0] st:=⟨_,R⟩;obtain⟨i,d⟩:∃i:ES,i={(kD (mQ p.2 p.1) p.2).2 with late:=p.2.late++[(N p.2.y,N p.2.an,j[1])]}:=⟨_,R⟩;have m:bu n (sg a0) (.mk g nm V a c l j) st=kS (mQ p.2 p.1) (N i.an) (N p.2.an) p.1 (pD c i).2:=by
  conv=>lhs;unfold bu
  rw[ac C,ae s,ahc _ _ B,<-Z,ae8 hk,d];rfl
 rw[m] at k sm;have g2:iOG p.2 i:=by rw[d];exact(Gm _ _).M (KB _ _)
 have W:=KI c i;have z:=sm.of (AF _ _ _ _ _);have m:=z.of W;have P:=m.of g2;have pl:p.1<N p.2.an:=by rw[Z];exact Vm _ _ _ _ D
 let⟨_,_,_,_,_,_,W⟩:=id P;let⟨_,_,_,_,_,_,W⟩:=id m;let⟨m,d2,d3,d4,d5,d6,d7⟩:=id z;have y:aI g.1 g.2 3 6648432=false:=by rw[show aI g.1 g.2 3 6648432=de (g=eH) from bz g eH];exact aA C
 have x:aI g.1 g.2 3 7955046=true:=by rw[show aI g.1 g.2 3 7955046=de (g=dk) from bz g dk];exact aB s
 obtain⟨kb,I,rfl,m,m,b0,m,H,m,tk⟩:=ht.mR B;have m:=tk;let⟨_,s,B,_,_⟩:=m;let⟨C,W,h3,h4,s,z,m,b9,c1⟩:=qz B;rw[m] at H tk;have m:I.flatten.take 8=[.s C.1 C.2,.s W.1 W.2,II h3,II h4,.e,s,z,.l j[0].ck.2]:=H;refine cf zg func77 ?_;simp(disch:=omega)only[go_sem,sV,y,x,b0,m];obtain⟨W,m⟩:∃W,W=U.X (LL [g,nm,V,a,.e,cy,.a kb 0 (N j) (.B 8),l]):=⟨_,R⟩;have s:ai U.h U W:=by rw[m];exact ap (.refl _ _)
 have y:W.f U.h=LL [g,nm,V,a,.e,cy,.a kb 0 (N j) (.B 8),l]:=by rw[m];exact ae R
 have l:W.h=U.h+1:=by rw[m];rfl
 rw[<-m];clear m;have x:=h.free (ak _);refine al (ih W c2 o st _ _ (h.X s) (hn.step (.ext s) (.refl c2)) (tk.step (.ext s)) D (by rw[<-Z];exact P) λh h h m l V1=>?_);rw[<-Z] at m|-;have o:=(bh.ext s).M l;have h:=(l.C _ Y).t x;have s:=(l.same _ Y (.inl x)).t y;have x:=l.h;refine S0 ?_;refine al (C7 m Y pl ?_);refine S0 ?_;refine al (Lx m Y λb l e M3 l V3=>?_);have w:=o.M l;have x3:=(l.same _ Y (.inl h)).t s;have O:=(l.C _ Y).t h;have h:=l.h;let⟨l6,l7,HH,R6,R7⟩:=M3.W;have hb:e.f q=LL [b.n,b.d,b.w,b.b,b.e,b.a,b.y 0,b.y 1,b.y 2,b.y 3,b.y 4,b.y 5,.map b.m,.map b.c,b.y 6,b.y 7,b.y 8]:=HH.D;let⟨_,K,a9,_,_,F,_,r,h,t⟩:=(ht.step w).mR hk;cases a9;have h:=t;let⟨_,l,z,_,_⟩:=h;let⟨o,s,x,y,h,l,m,_,B⟩:=qz z;rw[m] at r t;have m:(K.flatten.drop 8).take 8=[.s o.1 o.2,.s s.1 s.2,II x,II y,.e,h,l,.l j[1].ck.2]:=r;refine S4 hb x3 F m ?_;obtain⟨X,m⟩:∃X,X=(((e.at_ (e.h+(1+1+1+1+1+1+1+1+1+1+1+1))).X (LL [N p.2.y,N p.2.an,o,s,x,y,.e,h,l,.l j[1].ck.2])).at_ (e.h+(1+1+1+1+1+1+1+1+1+1+1+1+1+1+1+1+1))):=⟨_,rfl⟩;have r:X.h=e.h+17:=by rw[m];rfl
 have z:ai e.h e X:=⟨Y,λc r=>by rw[m];exact ac (by show¬c=e.h+(1+1+1+1+1+1+1+1+1+1+1+1);omega)⟩;have C:X.f (e.h+(1+1+1+1+1+1+1+1+1+1+1+1))=LL [N p.2.y,N p.2.an,o,s,x,y,.e,h,l,.l j[1].ck.2]:=by rw[m];exact ae R
 rw[<-m];clear m;let⟨e,_,B,f4,r,m⟩:=M3.app HH (k:=6) (s:=10) (w:=144) (n:=N p.2.late) dc R R (qp (N p.2.y) _) z (sX C Y R) Y
  (pi':=u) (po':=v) (st':=i) (l6':=l6++[[II (N p.2.y),II (N p.2.an),.s o.1 o.2,.s s.1 s.2,II x,II y,.e,h,l,.l j[1].ck.2]]) (l7':=l7) (by rw[d];exact nine R R R R R R (Gb _ _) R R) (by rw[d];exact nine R R R R R R (by show(p.2.late++[_]).length=_;rw[ay];rfl) R R) (by rw[d]) (λ_ _ s=>by rw[d];exact jA.app (t.step s) (R6.step s)) (λ_ _ s=>by rw[d];exact R7.step s)
 have l:e.f q=LL [b.n,b.d,b.w,b.b,b.e,b.a,b.y 0,b.y 1,b.y 2,b.y 3,b.y 4,b.y 5,.map b.m,.map b.c,b.y 6,b.y 7,b.y 8]:=f4;rw[B];refine S1 l ?_;obtain⟨o,s⟩:∃o,o=e.put q (LL ((b.put 6 (.a X.h 0 (N p.2.late+1) (.B 10))).cells)):=⟨_,R⟩;have h:e.put q (LL [.s b.n.1 b.n.2,b.d,b.w,b.b,b.e,II b.a,b.y 0,b.y 1,b.y 2,b.y 3,b.y 4,b.y 5,.map b.m,.map b.c,.a X.h 0 (N p.2.late+1) (.B 10),b.y 7,b.y 8])=o:=s.s;rw[<-s] at r m;rw[h];clear s h l;have b:=w.M m;have l:=(m.same _ Y (.inl O)).t x3;have e:=(m.C _ Y).t O;have h:=m.h;have h:mQ i p.1=mQ p.2 p.1:=by rw[d];exact ad7 _ _ pl
 refine bL (C7 r Y (cW pl g2.V) ?_);rw[h];refine S1 l ?_;refine bL (Zh r Y (b.yu a8) λd d d h d p=>?_);have m:=(d.same _ Y (.inl e)).t l;refine S0 ?_;refine bL (Fo h Y λh s h o i r=>?_);have t:=d.h;have t:=(i.same _ Y (.inl ((d.C _ Y).t e))).t m;refine S3 l m t ?_;exact k _ s h o (b.M (d.M i)) (V1.M (V3.M ((fh.put _ 6 _).M (p.M r))))
def ahl{w:S->Option Nat}{b p:S}{j:Nat}{d:Bool}{r:L Tm}(e:b=fm):tE n f q u v w (.mk b p j a c d r):=by
 intro t g o s z Q h g i g B k;have g:=i;let⟨_,_,rt,_,i⟩:=g;unfold dO at rt;obtain⟨x,z,g,m,rfl,g,i,l,g⟩:=rt;clear g l i;have i:b≠eH:=by rw[e];decide
 have o:aI b.1 b.2 3 6648432=false:=by rw[show aI b.1 b.2 3 6648432=de (b=eH) from bz b eH];exact aA i
 have g:b≠dk:=by rw[e];decide
 have l:aI b.1 b.2 3 7955046=false:=by rw[show aI b.1 b.2 3 7955046=de (b=dk) from bz b dk];exact aA g
 have m:aI b.1 b.2 3 7630441=true:=by rw[show aI b.1 b.2 3 7630441=de (b=fm) from bz b fm];exact aB e
 have y:bu n (sg w) (.mk b p j a c d r) s=hY 2 j s:=by
  unfold bu;rw[ac i,ac g,ae e]
 have e:=B.of (vt n (sg w) (.mk b p j a c d r) s);let⟨_,_,_,_,_,_,g⟩:=id e;rw[y] at k;refine cf zg func77 ?_;simp(disch:=omega)only[go_sem,sV,o,l,m];have e:ai t.h t (t.X (LL [b,p,j,a,.e,x,z,d])):=ap (.refl _ _);refine al (Jy (h.X e) Y λd d d d g h=>?_);refine S0 ?_;exact k _ _ _ d ((bh.ext e).M g) h
def ahj{y:S->Option Nat}{b s:S}{p:Nat}{e:Bool}{t:L Tm}(d:b=cX):tE n f q u v y (.mk b s p a c e t):=by
 intro x g o w z Q h g i g D k;have g:=i;let⟨_,_,rt,_,i⟩:=g;unfold dO at rt;obtain⟨z,C,g,m,rfl,g,i,j,g⟩:=rt;clear g j i;have j:b≠eH:=by rw[d];decide
 have r:aI b.1 b.2 3 6648432=false:=by rw[show aI b.1 b.2 3 6648432=de (b=eH) from bz b eH];exact aA j
 have g:b≠dk:=by rw[d];decide
 have m:aI b.1 b.2 3 7955046=false:=by rw[show aI b.1 b.2 3 7955046=de (b=dk) from bz b dk];exact aA g
 have i:b≠fm:=by rw[d];decide
 have o:aI b.1 b.2 3 7630441=false:=by rw[show aI b.1 b.2 3 7630441=de (b=fm) from bz b fm];exact aA i
 have l:aI b.1 b.2 4 1819242338=true:=by rw[show aI b.1 b.2 4 1819242338=de (b=cX) from bz b cX];exact aB d
 have B:bu n (sg y) (.mk b s p a c e t) w=hY 1 p w:=by
  unfold bu;rw[ac j,ac g,ac i,ae d]
 have d:=D.of (vt n (sg y) (.mk b s p a c e t) w);let⟨_,_,_,_,_,_,g⟩:=id d;rw[B] at k;refine cf zg func77 ?_;simp(disch:=omega)only[go_sem,sV,r,m,o,l];have d:ai x.h x (x.X (LL [b,s,p,a,.e,z,C,e])):=ap (.refl _ _);refine al (Jy (h.X d) Y λe e e e g h=>?_);refine S0 ?_;exact k _ _ _ e ((bh.ext d).M g) h
def aho{B:S->Option Nat}{b w:S}{y:Nat}{p:Bool}{C:L Tm}(e:b=bR):tE n f q u v B (.mk b w y a c p C):=by
 intro x d o D z Q h g i g g k;have g:=i;let⟨_,_,rt,_,i⟩:=g;unfold dO at rt;obtain⟨F,I,g,m,rfl,g,i,j,g⟩:=rt;clear g j i;have l:b≠eH:=by rw[e];decide
 have s:aI b.1 b.2 3 6648432=false:=by rw[show aI b.1 b.2 3 6648432=de (b=eH) from bz b eH];exact aA l
 have i:b≠dk:=by rw[e];decide
 have o:aI b.1 b.2 3 7955046=false:=by rw[show aI b.1 b.2 3 7955046=de (b=dk) from bz b dk];exact aA i
 have j:b≠fm:=by rw[e];decide
 have r:aI b.1 b.2 3 7630441=false:=by rw[show aI b.1 b.2 3 7630441=de (b=fm) from bz b fm];exact aA j
 have g:b≠cX:=by rw[e];decide
 have m:aI b.1 b.2 4 1819242338=false:=by rw[show aI b.1 b.2 4 1819242338=de (b=cX) from bz b cX];exact aA g
 have t:aI b.1 b.2 3 7496054=true:=by rw[show aI b.1 b.2 3 7496054=de (b=bR) from bz b bR];exact aB e
 have H:bu n (sg B) (.mk b w y a c p C) D=(sg B w,D):=by
  unfold bu;rw[ac l,ac i,ac j,ac g,ae e]
 rw[H] at k;have j:x.f q=LL [d.n,d.d,d.w,d.b,d.e,d.a,d.y 0,d.y 1,d.y 2,d.y 3,d.y 4,d.y 5,.map d.m,.map d.c,d.y 6,d.y 7,d.y 8]:=by
  let⟨_,_,e,_⟩:=h.W;exact e.D
 have e:=h.base;obtain⟨W,i⟩:∃W,W=x.X (LL [b,w,y,a,.e,F,I,p]):=⟨_,R⟩;have e:ai x.h x W:=by rw[i];exact ap (.refl _ _)
 have g:=λz=>((h.X e).mM.look w false z);refine cf zg func77 ?_;simp(disch:=omega)only[go_sem,sV,j,s,o,r,m,t];rw[<-i];simp(disch:=omega)only[go_sem,g,wO];exact k _ _ _ (h.X e) (.ext e) (.refl d)
end
section
variable {u v:L Nat}{c:L aS}{a f q:Nat}{n:Nd}
def Vx(n:Nd)(d:S->Nat):∀(a b:L Tm) (c:ES),(cR n d (a++b) c).2=(cR n d b (cR n d a c).2).2
 |[],b,c=>by rw[dH];conv=>rhs;rw[cR]
 |x::a,b,c=>by rw[fc,cR,Vx n d a b];conv=>rhs;rw[cR]
def ahm{C:S->Option Nat}{d nm:S}{b8:Nat}{s:Bool}{t:L Tm}(b1:d≠eH)(V:d≠dk)(W:d≠fm)(I:d≠cX)(b2:d≠bR)(e5:0<N t)(w:N t<=1000)
  (e6:d=jK->3<=N t) (b4:d≠fB->d≠ps->d≠bB->2<=N t) (ih:∀k∈t,tE n f q u v C k):tE n f q u v C (.mk d nm b8 a c s t):=by
 intro a3 g5 o st z Q h hn ht c2 sm k;have w:=ht;let⟨lo,hi,rt,g7,g6⟩:=w;unfold dO at rt;obtain⟨cy,ky,w,m,rfl,c8,e8,c4,b5⟩:=rt;have w:dZ ky=some [ky]:=by rcases b5 with⟨rfl,_⟩|⟨_,_,_,_,rfl,_⟩<;>rfl
 have g1:∀(b7:HN) (e w:Nat),eF (.a e 8 w) ky b7=.ok (II (N t)) b7:=λb7 e w=>by
  rcases b5 with⟨rfl,rfl,_⟩|⟨kb,_,_,_,rfl,_⟩
  .rfl
  .rw[ov,nD,(pQ c4).1,ae (by omega)]
 clear b5 c4 e8;have w:bu n (sg C) (.mk d nm b8 a c s t) st=gx (sg C) d nm c (cR n (sg C) t st).1 (cR n (sg C) t st).2:=by
  conv=>lhs;unfold bu
  rw[ac b1,ac V,ac W,ac I,ac b2]
 rw[w] at k sm;have c5:=sm.of (R5 _ _ _ _ _ _);have c1:aI d.1 d.2 3 6648432=false:=by rw[show aI d.1 d.2 3 6648432=de (d=eH) from bz d eH];exact aA b1
 have b9:aI d.1 d.2 3 7955046=false:=by rw[show aI d.1 d.2 3 7955046=de (d=dk) from bz d dk];exact aA V
 have V:aI d.1 d.2 3 7630441=false:=by rw[show aI d.1 d.2 3 7630441=de (d=fm) from bz d fm];exact aA W
 have w:aI d.1 d.2 4 1819242338=false:=by rw[show aI d.1 d.2 4 1819242338=de (d=cX) from bz d cX];exact aA I
 have I:aI d.1 d.2 3 7496054=false:=by rw[show aI d.1 d.2 3 7496054=de (d=bR) from bz d bR];exact aA b2
 refine cf zg Tryz.func77 ?_;simp(disch:=omega)only[go_sem,sV,g1,c1,b9,V,w,I];obtain⟨W,w⟩:∃W,W=a3.X (LL [d,nm,b8,a,.e,cy,ky,s]):=⟨_,R⟩;have V:ai a3.h a3 W:=by rw[w];exact ap (.refl _ _)
 have w0:W.f a3.h=LL [d,nm,b8,a,.e,cy,ky,s]:=by rw[w];exact ae R
 have nW:W.h=a3.h+1:=by rw[w];rfl
 rw[<-w];clear w;have W:o a3.h=0:=h.free (ak _);let⟨I,hI⟩:=inv λm w a6=>∃(i:Nat) (O:cK) (o1:Nat->Nat) (sx:AV),m=N t-i/\i<=N t/\(w 0=.p q 0/\w 3=.p a3.h 0/\w 10=sx/\w 112=ky/\w 113=II (N t)/\w 114=II i)/\a6.f a3.h=LL [d,nm,b8,a,.e,cy,ky,s]/\ba f q O o1 u v C (cR n (sg C) (t.take i) st).2 a6/\bh a3 o a6 o1/\fh g5 O/\
  aH 1 (a3.h+1) a6 sx i ((cR n (sg C) (t.take i) st).1.map iv)/\(∀c,ar sx c->o1 c=13)/\a3.h+1<=a6.h/\o1 a3.h=0/\(sx=.e\/0<i)
 refine aT I (N t) ((hI _ _ _).2 ⟨0,g5,o,.e,R,aJ _,dy,w0,by rw[gO,cR];exact h.X V,.ext V,.refl g5,by rw[gO,cR];exact aH.nil,λ_ h=>h.elim,Y,W,.inl R⟩) ?_;clear w0 V nW;intro m w a6 m;let⟨i,O,o1,sx,_,m,⟨p0,p3,U,b3,F,H⟩,f0,M1,T1,V1,ox,xo,s,a7,c6⟩:=(hI _ _ _).1 m;by_cases a9:i<N t
 .have s:=ht.step T1;let⟨kb,_,c9,_,_,g0,_,c3,m,tk⟩:=s.mR a9;subst c9;have m:=tk;let⟨_,s,I,_,_⟩:=m;let⟨h1,h2,h3,W,s,w,m,_,V⟩:=qz I;rw[m] at c3 tk;refine S7 p0 U b3 F H g0 c3 ?_;obtain⟨V,m⟩:∃V,V=a6.X (LL [h1,h2,h3,W,.e,s,w,.l t[i].ck.2]):=⟨_,R⟩;have EV:ai a6.h a6 V:=by rw[m];exact ap (.refl _ _)
  have s:V.h=a6.h+1:=by rw[m];rfl
  rw[<-m];clear m;have e1:=Vp n (sg C) t[i] (t.take i) st;rw[<-dt a9] at e1;have m:qe (cR n (sg C) (t.take (i+1)) st).2:=c5.of (by
   have g:=Ba n (sg C) (t.drop (i+1)) (cR n (sg C) (t.take (i+1)) st).2;rw[<-Vx,mH] at g;exact g)
  rw[e1] at m;have w:=Ba n (sg C) (t.take i) st;refine al (ih _ (aU a9) V O o1 _ _ _ (M1.X EV) ((hn.step T1 V1).step (.ext EV) (.refl O)) (tk.step (.ext EV)) (λs=>cW (c2 s) w.V) m λP o2 y M2 K V2=>?_);have n2:=K.h;refine S0 ?_;obtain⟨res,b0⟩:∃res,res=(bu n (sg C) t[i] (cR n (sg C) (t.take i) st).2).1:=⟨_,R⟩;rw[<-b0];obtain⟨j,m⟩:∃s,s=y.X (LL [res]):=⟨_,R⟩;have s:ai y.h y j:=by rw[m];exact ap (.refl _ _)
  have w:j.h=y.h+1:=by rw[m];rfl
  have w:j.f y.h=LL [res]:=by rw[m];exact ae R
  rw[<-m];clear m;have a8:∀c,ar sx c->a3.h+1<=c/\c<a6.h:=λc Z=>cz ox Z;have m:∀c,ar sx c->y.f c=a6.f c:=λc Z=>(K.same c (om (a8 c Z)) (.inr (by rw[xo c Z];decide))).t (EV.2 c (a8 c Z).2);have g4:∀c,ar sx c->o2 c=13:=λc Z=>(K.C c (om (a8 c Z))).t (xo c Z);have I:aH 1 (a3.h+1) j sx i ((cR n (sg C) (t.take i) st).1.map iv):=(kG ox m Y).ext s;let⟨a5,V,g2,W,k3⟩:=oS (s:=1) (w:=8) (m:=1) (k:=[iv res]) dc I (y:=.a y.h 0 1 (.k 1)) (sX w Y R) dc Y Y;rw[V];have K3:∀c,c<y.h->¬ar sx c->a5.f c=y.f c:=λc h1 h2=>(k3 c Y h2).t (s.2 c h1);have bX:∀c,ar (.a j.h 0 (i+1) (.B 1)) c->c=j.h:=λc Z=>(show j.h=c from Z).s;have c7:∀c,c<y.h->a5.f c=y.f c\/eM (y.f c):=λc Z=>by
   by_cases l:ar sx c
   .rw[m c l];obtain⟨h0,⟨rfl,-⟩|⟨b,_,_,⟨rfl,e0,_⟩|⟨rfl,hb⟩⟩⟩:=ox
    .exact l.elim
    .rcases c6 with g|g
     .cases g
     .omega
    .have l:b=c:=l;subst l;rw[hb];have m:0<i:=by
      rcases c6 with g|g
      .cases g
      .exact g
     right;cases hl:(cR n (sg C) (t.take i) st).1 with
     |nil=>rw[hl] at h0;simp at h0;omega
     |cons x r=>exact(nZ.lA (qp x (r.map iv)) (by intro h;cases h))
   .exact .inl (K3 c Z l)
  have g:∀c,(if c=j.h then 13 else o2 c)≠0->f<=c/\c<a5.h:=λc Z=>by
   have hb:=h.base;by_cases e:c=j.h
   .exact⟨Y,Y⟩
   .rw[ac e] at Z
    have:=M2.vp c Z
    exact⟨this.1,Y⟩
  have M3:ba f q P (λc=>if c=j.h then 13 else o2 c) u v C _ a5:=M2.fv Y (λc h1 h2=>K3 c h1 λl=>om (g4 c l)) c7 (λc Z=>ac Y) g;have T3:bh a3 o a5 (λc=>if c=j.h then 13 else o2 c):=(T1.M ((bh.ext EV).M K)).fv Y (λc Z=>K3 c Y λl=>om (a8 c l)) (λc Z=>ac Y);have b6:o2 a3.h=0:=(K.C _ Y).t a7;refine S1 H ?_;refine⟨N t-(i+1),Y,(hI _ _ _).2 ⟨i+1,P,_,.a j.h 0 (i+1) (.B 1),R,a9,⟨dx p0,dx p3,R,dx b3,dx F,R⟩,?_,by rw[e1];exact M3,T3,V1.M V2,?_,λc Z=>ae (bX c Z),Y,(ac Y).t b6,.inr Y⟩⟩
  .exact(K3 _ Y (λl=>om (a8 _ l))).t ((K.same _ Y (.inl a7)).t ((EV.2 _ Y).t f0))
  .rw[e1,<-b0];show aH 1 (a3.h+1) a5 _ (i+1) (List.map iv ((cR n (sg C) (t.take i) st).1++[res]));rw[yU];exact g2
 .obtain rfl:i=N t:=Y;rw[iM (ak _)] at M1 ox;have e9:N (cR n (sg C) t st).1=N t:=Vt _ _ _ _;have g3:∀x∈(cR n (sg C) t st).1,x<N (cR n (sg C) t st).2.an:=L6 _ _ _ _ c2;generalize (cR n (sg C) t st).1=B at*;generalize (cR n (sg C) t st).2=p at*;obtain⟨sb,rfl,D,a4⟩:∃sb,sx=.a sb 0 (N t) (.B 1)/\a6.f sb=LL (B.map iv)/\sb<a6.h:=by
   obtain⟨h0,⟨e,e0⟩|⟨b,_,e4,⟨e,e0,_⟩|⟨e,hb⟩⟩⟩:=ox
   .omega
   .omega
   .exact⟨b,e,hb,e4⟩
  have b:o1 sb=13:=xo sb R;have b:N (B.map iv)=N t:=by rw[aC];exact e9
  have s:∀j,j<N t->B.getD j 0<N p.an:=λj b=>by
   rw[cA,bM (by omega)];exact g3 _ (aU _)
  have o:(B.map iv)[0]?=some (II (B.getD 0 0)):=ints_at Y;have l0:=s 0 e5;let⟨_,_,_,_,_,_,b⟩:=id c5;have hb:a6.f q=LL [O.n,O.d,O.w,O.b,O.e,O.a,O.y 0,O.y 1,O.y 2,O.y 3,O.y 4,O.y 5,.map O.m,.map O.c,O.y 6,O.y 7,O.y 8]:=by
   let⟨l6,l7,HH,_⟩:=M1.W;exact HH.D
  have V:=λz=>(M1.mM.look nm false z);have g:aI d.1 d.2 3 7630702=de (d=fB):=bz d fB;have h:aI d.1 d.2 3 6776174=de (d=ps):=bz d ps;have b:aI d.1 d.2 4 1852139639=de (d=bB):=bz d bB;have m:aI d.1 d.2 2 26217=de (d=jK):=bz d jK;have e:aI d.1 d.2 5 435527247213=de (d=bD):=bz d bD;have i:aI d.1 d.2 2 15917=de (d=jJ):=bz d jJ;by_cases l:d=fB
  .rw[aB l] at g;have j:gx (sg C) d nm c B p=nG (B.getD 0 0) p:=by unfold gx;dsimp only;rw[ae l]
   rw[j] at k;simp(disch:=omega)only[go_sem,p0,p3,U,F,H,f0,D,o,g];refine al (UG M1 Y λP o2 y M2 K V2=>?_);refine S0 ?_;exact k _ _ _ M2 (T1.M K) (V1.M V2)
  have w:=l;clear l;rw[aA w] at g;by_cases l:d=ps
  .rw[aB l] at h;have j:gx (sg C) d nm c B p=(N p.an,eE (.o ⟨7,N p.an,B.getD 0 0,0⟩) (fx 2 p).2):=by unfold gx;dsimp only;rw[ac w,ae l];rfl
   rw[j] at k;refine S7 p0 p3 F H f0 g h ?_;refine al (xe M1 Y λr o2 y M2 K=>?_);have x:=(K.same sb a4 (.inr Y)).t D;refine S4 p0 U x o ?_;refine al (uW (M2.X (ap (.refl _ _))) (uv _ _) (gf R) R Y R λr o3 a5 M3 T3=>?_);refine S0 ?_;exact k _ _ _ M3 (T1.M ((K.M (.ext (ap (.refl _ _)))).M T3)) (V1.M ((fh.put _ 2 _).M (.put _ 5 _)))
  have I:=l;clear l;rw[aA I] at h;by_cases l:d=bB
  .rw[aB l] at b;have j:gx (sg C) d nm c B p=(B.getD 0 0,p):=by unfold gx;dsimp only;rw[ac w,ac I,ae l]
   rw[j] at k;simp(disch:=omega)only[go_sem,p3,U,F,H,f0,D,o,g,h,b];exact k _ _ _ M1 T1 V1
  have q2:=l;clear l;rw[aA q2] at b;by_cases l:d=jK
  .rw[aB l] at m;have j:gx (sg C) d nm c B p=kS (mQ p (B.getD 1 0)) (B.getD 0 0) (B.getD 1 0) (B.getD 2 0) p:=by unfold gx;dsimp only;rw[ac w,ac I,ac q2,ae l]
   rw[j] at k;have h3:=e6 l;have r:(B.map iv)[1]?=some (II (B.getD 1 0)):=ints_at Y;have W:(B.map iv)[2]?=some (II (B.getD 2 0)):=ints_at Y;have Z:=s 1 Y;simp(disch:=omega)only[go_sem,p0,p3,U,F,H,f0,D,r,g,h,b,m];refine bL (C7 M1 Y Z ?_);refine S5 U D o r W ?_;refine bL (Fo M1 Y λP o2 y M2 K V2=>?_);have x:=(K.same sb a4 (.inr Y)).t D;refine S5 D o r W x ?_;exact k _ _ _ M2 (T1.M K) (V1.M V2)
  have W:=l;clear l;rw[aA W] at m;by_cases l:d=bD
  .rw[aB l] at e;have j:gx (sg C) d nm c B p=kS (mQ p (B.getD 0 0)) (sg C nm) (B.getD 0 0) (B.getD 1 0) p:=by unfold gx;dsimp only;rw[ac w,ac I,ac q2,ac W,ae l]
   rw[j] at k;have h2:=b4 w I q2;have r:(B.map iv)[1]?=some (II (B.getD 1 0)):=ints_at Y;simp(disch:=omega)only[go_sem,p0,p3,U,F,H,f0,D,o,g,h,b,m,e];refine bL (C7 M1 Y l0 ?_);simp(disch:=omega)only[go_sem,p0,p3,U,f0,D,o,r,hb,V,wO];refine bL (Fo M1 Y λP o2 y M2 K V2=>?_);have x:=(K.same sb a4 (.inr Y)).t D;have Z:=(K.same _ Y (.inl a7)).t f0;have e7:P.m=O.m:=V2.2.2.2.2.2.2.1;have e2:y.f q=LL [P.n,P.d,P.w,P.b,P.e,P.a,P.y 0,P.y 1,P.y 2,P.y 3,P.y 4,P.y 5,.map O.m,.map P.c,P.y 6,P.y 7,P.y 8]:=by
    let⟨l6,l7,HH,_⟩:=M2.W;rw[HH.D,<-e7];rfl
   have s:=λz=>(M2.mM.look nm false z);rw[e7] at s;simp(disch:=omega)only[go_sem,f0,D,o,r,x,Z,hb,V,e2,s,wO];exact k _ _ _ M2 (T1.M K) (V1.M V2)
  have s:=l;clear l;rw[aA s] at e;by_cases l:d=jJ
  .rw[aB l] at i;have j:gx (sg C) d nm c B p=kS (mQ p (B.getD 0 0)) (N p.an) (B.getD 1 0) (B.getD 0 0) (pD c p).2:=by unfold gx;dsimp only;rw[ac w,ac I,ac q2,ac W,ac s,ae l];rfl
   rw[j] at k;have h2:=b4 w I q2;have r:(B.map iv)[1]?=some (II (B.getD 1 0)):=ints_at Y;simp(disch:=omega)only[go_sem,p0,p3,U,F,H,f0,D,o,g,h,b,m,e,i];refine bL (C7 M1 Y l0 ?_);refine S3 p0 p3 f0 ?_;rw[j] at sm;let⟨_,_,_,_,_,_,z⟩:=id (sm.of (AF _ _ _ _ _));refine bL (Zh M1 Y (T1.yu c8) λP o2 y M2 K V2=>?_);have x:=(K.same sb a4 (.inr Y)).t D;have Z:=(K.same _ Y (.inl a7)).t f0;have n2:=K.h;have z:=K.C sb a4;have b6:=K.C a3.h Y;refine S4 U o r x ?_;refine bL (Fo M2 Y λz o3 a5 M3 T3 z=>?_);have k3:=(T3.same sb Y (.inr Y)).t x;have O:=(T3.same _ Y (.inl (b6.t a7))).t Z;refine S8 f0 D o r x Z k3 O ?_;exact k _ _ _ M3 (T1.M (K.M T3)) (V1.M (V2.M z))
  have x:=l;clear l;rw[aA x] at i;have j:gx (sg C) d nm c B p=pz d (B.getD 0 0) (B.getD 1 0) p:=by unfold gx;dsimp only;rw[ac w,ac I,ac q2,ac W,ac s,ac x]
  rw[j] at k;have h2:=b4 w I q2;have r:(B.map iv)[1]?=some (II (B.getD 1 0)):=ints_at Y;simp(disch:=omega)only[go_sem,p0,p3,U,F,H,f0,D,o,r,g,h,b,m,e,i];refine bL (ajx M1 Y λP o2 y M2 K V2=>?_);refine S0 ?_;exact k _ _ _ M2 (T1.M K) (V1.M V2)
def SR{h:L Nd}{n:Nd}:∀{a:L Tr},ju h n a->∀k∈a,dF h n k
 |[],_,_,b=>by cases b
 |k::a,g,x,hx=>by
  unfold ju at g;rcases bY.1 hx with rfl|hx
  .exact g.1
  .exact SR g.2 x hx
def af5{g:S}{m:Nat}(h:lP g=some m)(i:g≠fm)(j:g≠cX)(k:g≠bR):0<m/\m<=3/\(g=jK->3<=m)/\(g≠fB->g≠ps->g≠bB->g≠eH->2<=m):=by
 unfold lP at h;split at h
 .rename_i f;cases h;refine⟨by decide,by decide,λe=>?_,λa b c d=>?_⟩
  .rw[e] at f;exact absurd f dc
  .simp only[bY,kN,lY] at f;rcases f with e|e|e|e
   .exact absurd e a
   .exact absurd e b
   .exact absurd e d
   .exact absurd e c
 split at h
 .rename_i f;cases h;refine⟨by decide,by decide,λe=>?_,λ_ _ _ _=>ak _⟩;rw[e] at f;exact absurd f dc
 split at h
 .cases h;exact⟨by decide,by decide,λ_=>ak _,λ_ _ _ _=>by decide⟩
 split at h
 .rename_i f;simp only[bY,kN,lY] at f;rcases f with e|e|e
  .exact absurd e i
  .exact absurd e j
  .exact absurd e k
 .cases h
def Vn(l:eG n){x:S->Option Nat}:∀t:Tm,bO (bw t)->cC (bw t)->dF [] n (bw t)->tE n f q u v x t:=by
 refine Tm.E λh a a a c b p y=>?_;intro e d b;have r:=e;have m:=d;have i:=b;unfold bw at e d b;rw[NE] at e d b;unfold bO at e;unfold cC at d;unfold dF at b;rw[aC] at e d b;have s:=(mw _).1 e.2.2;have o:=(ux _).1 d.2;have j:=SR b.2;have t:h≠bK:=λe=>by
  have g:=b.1;rw[e] at g;exact absurd g (by unfold jT;rw[ac (by decide),ae R];unfold iP;intro w;exact Bool.noConfusion w)
 have b:=d.1.resolve_left t;have d:∀k∈p,tE n f q u v x k:=λk e=>y k e (s _ (ni e)) (o _ (ni e)) (j _ (ni e));by_cases e:h=eH
 .have:N p=1:=by rw[e] at b;exact(jX b).s
  exact ahn l ⟨r,m,i,t⟩ Y e
 by_cases g:h=dk
 .have:N p=2:=by rw[g] at b;exact(jX b).s
  exact ahk l Y g (d _ (aU _))
 by_cases q2:h=fm
 .exact ahl q2
 by_cases i:h=cX
 .exact ahj i
 by_cases j:h=bR
 .exact aho j
 let⟨h,_,k,l⟩:=af5 b q2 i j;exact ahm e g q2 i j h Y k (λa b c=>l a b c e) d
end
section
def jd(e:Nat):Nat->L (Nat×Option Nat)->L aQ
 |_,[]=>[]
 |q,(s,none)::r=>⟨19,if 0<q then e else 0,s,0⟩::jd e (q-1) r
 |q,(s,some t)::r=>⟨6,t,s,0⟩::⟨19,if 0<q then e else 0,t,0⟩::jd e (q-1) r
def kX:Nat->L (Nat×Option Nat)->L Nat
 |_,[]=>[]
 |o,(_,none)::r=>o::kX (o+1) r
 |o,(_,some _)::r=>(o+1)::kX (o+2) r
def Ge(e:Nat):∀(l:L (Nat×Option Nat)) (q:Nat),N l<=q->jd e q l=eQ e l
 |[],_,_=>rfl
 |(s,none)::r,q,h=>by
  have h:N r+1<=q:=h;unfold jd eQ;rw[ae (by omega),Ge e r (q-1) (by omega)]
 |(s,some t)::r,q,h=>by
  have h:N r+1<=q:=h;unfold jd eQ;rw[ae (by omega),Ge e r (q-1) (by omega)]
def DI:∀(l:L (Nat×Option Nat)) (o:Nat),N (kX o l)=N l
 |[],_=>rfl
 |(_,none)::r,o=>by unfold kX;rw[bt,DI r,bt]
 |(_,some _)::r,o=>by unfold kX;rw[bt,DI r,bt]
def Gf(e:Nat):∀(l:L (Nat×Option Nat)) (q:Nat),N (jd e q l)=bU l
 |[],_=>rfl
 |(_,none)::r,q=>by unfold jd bU;rw[bt,Gf e r];omega
 |(_,some _)::r,q=>by unfold jd bU;rw[bt,bt,Gf e r];omega
def Kw(e:Nat):∀(l:L (Nat×Option Nat)) (q o:Nat) (h:q<N l),∃(p:Nat) (a:p<N (jd e q l)),(kX o l)[q]'(by rw[DI];exact h)=o+p/\(jd e q l).set p ⟨(jd e q l)[p].o,e,(jd e q l)[p].b,(jd e q l)[p].c⟩=jd e (q+1) l
 |[],_,_,h=>absurd h (nR _)
 |(s,none)::r,0,o,_=>⟨0,by unfold jd;exact jm _,by simp[kX],by simp[jd]⟩
 |(s,some t)::r,0,o,_=>⟨1,by unfold jd;show 1<_+1+1;omega,by simp[kX],by simp[jd]⟩
 |(s,none)::r,q+1,o,h=>by
  let⟨p,a,b,c⟩:=Kw e r q (o+1) (by simpa using h);refine⟨p+1,by simpa [jd] using a,?_,?_⟩
  .simp only[kX,BQ];rw[b];omega
  .simp only[jd,BW,BQ,zR,c,Nat.zero_lt_succ,vR]
 |(s,some t)::r,q+1,o,h=>by
  let⟨p,a,b,c⟩:=Kw e r q (o+2) (by simpa using h);refine⟨p+2,by simpa [jd] using a,?_,?_⟩
  .simp only[kX,BQ];rw[b];omega
  .simp only[jd,BW,BQ,zR,c,Nat.zero_lt_succ,vR]
def KM(l r:L (Nat×Option Nat)):bU (l++r)=bU l+bU r:=by
 induction l with
 |nil=>simp[bU]
 |cons x l a=>
  let⟨s,o⟩:=x;cases o<;>(simp only[fc,bU,a];omega)
def R0(e:Nat)(l r:L (Nat×Option Nat)):eQ e (l++r)=eQ e l++eQ e r:=by
 induction l with
 |nil=>rfl
 |cons x l a=>
  let⟨s,o⟩:=x;cases o<;>simp only[fc,eQ,a]
def He:∀(l r:L (Nat×Option Nat)) (o:Nat),kX o (l++r)=kX o l++kX (o+bU l) r
 |[],_,_=>by simp[kX,bU]
 |(_,none)::l,r,o=>by simp only[fc,kX,bU,He l r];rw[oK]
 |(_,some _)::l,r,o=>by simp only[fc,kX,bU,He l r];rw[oK]
def Kv(e:Nat):∀l:L (Nat×Option Nat),jd e 0 l=eQ 0 l
 |[]=>rfl
 |(s,none)::r=>by unfold jd eQ;rw[ac (by omega),Kv e r]
 |(s,some t)::r=>by unfold jd eQ;rw[ac (by omega),Kv e r]
def zB(a:S->Nat)(c:aS)(l:L aS)(b:ES):bG a (c::l) b=if c.2 then((a c.1,some (N b.an))::(bG a l (fx 1 b).2).1,(bG a l (fx 1 b).2).2) else((a c.1,none)::(bG a l b).1,(bG a l b).2):=by
 conv=>lhs;unfold bG
def xf(b:S->Nat)(a:ES):bG b [] a=([],a):=by unfold bG;rfl
def Ng(a:S->Nat)(x:aS):∀(l:L aS) (b:ES),bG a (l++[x]) b=((bG a l b).1++(bG a [x] (bG a l b).2).1,(bG a [x] (bG a l b).2).2)
 |[],b=>by rw[dH,xf];rfl
 |c::l,b=>by
  rw[fc,zB a c (l++[x]),zB a c l];cases c.2 with
  |true=>rw[ae R,ae R,Ng a x l];rfl
  |false=>rw[ac (by decide),ac (by decide),Ng a x l];rfl
def Yp(b:S->Nat):∀(l:L aS) (a:ES),N (bG b l a).1=N l
 |[],a=>by unfold bG;rfl
 |c::l,a=>by
  unfold bG;split<;>(rw[bt,Yp b l,bt])
def Bu(b:S->Nat):∀(l:L aS) (a:ES),(bG b l a).2={a with an:=(bG b l a).2.an}
 |[],a=>by unfold bG;rfl
 |c::l,a=>by
  unfold bG;split
  .dsimp only;rw[Bu b l (fx 1 a).2];rfl
  .dsimp only;rw[Bu b l a]
end
end Go.Proofs.YtehahhggpdhieaaGreatDoor
