/- Lemmas of the walk of EmitKinds are proved. Conditions: none. -/
import Derived.Test.YtehahhggpdhieaaGreatDoorX32
namespace Go.Proofs.YtehahhggpdhieaaGreatDoor
set_option maxRecDepth 100000
set_option maxHeartbeats 32000000
set_option linter.all false
section
variable {c:L aS}{a k:Nat}{n:Nd}
section
mutual
def iq:Tm->Nat
 |.mk _ _ _ _ _ _ a=>1+lF a
def lF:L Tm->Nat
 |[]=>0
 |k::a=>iq k+lF a
end
def No:∀(a:L Tm) (k:Tm),k∈a->iq k<=lF a
 |[],_,h=>by cases h
 |q::a,k,h=>by
  unfold lF;rcases bY.1 h with rfl|h
  .omega
  .have:=No a k h;omega
mutual
def ms:Tm->Prop
 |.mk _ _ a _ _ _ b=>a<9223372036854775808/\qv b
def qv:L Tm->Prop
 |[]=>True
 |k::a=>ms k/\qv a
end
def LD:∀{a:L Tm},qv a->∀k∈a,ms k
 |[],_,_,h=>by cases h
 |q::a,h,k,hk=>by
  unfold qv at h;rcases bY.1 hk with rfl|hk
  .exact h.1
  .exact LD h.2 k hk
structure qg (l:List Nd) (i:Nat) (n:Nd) (t:Tm):Prop where
 ty:∃k,fM (l.take i) n (bw t)=.inr k
 pC:cC (bw t)
 T:dF (l.take i) n (bw t)
 lit:jf (bw t)
 ck:lJ n t
 td:mX n t
 sz:iq t<=300
 nb:ms t
structure EK (l:List Nd) (i:Nat) (n:Nd):Prop where
 ok:sC l i n
 nz:∀v∈am n,v.n≠(0,0)
 tg:∀q∈n.r,qg l i n (dr n q.n q.e)
 ty:∀q∈n.r,fM (l.take i) n q.e=.inr (bQ n q.n)
 ro:∀q∈n.r,iu (dr n q.n q.e)=aF n q.n
 p:∀v∈n.ao,v.p≠(0,0)->bQ n v.p=1
def od(l:L Nd):Prop:=∀(i:Nat) (n:Nd),l[i]?=some n->EK l i n
def od.ok{l:L Nd}(h:od l):Cb l:=λi n e=>(h i n e).ok
def wB{h:L Nd}{n:Nd}:∀{b:L Tm} {a:L Nat},eZ h n (cL b)=.inr a->N a=N b/\∀m (c:m<N b) (c:m<N a),fM h n (bw b[m])=.inr a[m]
 |[],a,e=>by
  unfold cL eZ at e;grind
 |k::b,a,e=>by
  unfold cL eZ at e;cases g:fM h n (bw k) with
  |inl p=>grind
  |inr c=>
   rw[g] at e;dsimp only at e;cases a:eZ h n (cL b) with
   |inl p=>grind
   |inr b=>
    rw[a] at e;cases e;obtain A:=wB a;grind
def wA{h:L Nd}{j f:S}{m:Nat}{c:L Tr}(e:fM h n (.mk j f m a c)=.inr k):∃b,eZ h n c=.inr b/\iI h n j f b=k/\cP k:=by
 unfold fM at e;cases g:eZ h n c with
 |inl p=>grind
 |inr b=>
  rw[g] at e;dsimp only at e;split at e
  .rename_i q;injection e with e
   exact⟨b,R,e,e▸q⟩
  .cases e
def zI:∀(a:L Tm),cL a=a.map bw
 |[]=>by unfold cL;rfl
 |k::a=>by unfold cL;rw[zI a];rfl
def Jm{n:Nd}:∀{a:L Tm},sI n a->∀k∈a,lJ n k
 |[],_,_,h=>by cases h
 |k::a,g,x,hx=>by
  unfold sI at g;rcases bY.1 hx with rfl|hx
  .exact g.1
  .exact Jm g.2 x hx
def Tq:∀{a:L Tr},iU a->∀k∈a,jf k
 |[],_,_,h=>by cases h
 |k::a,g,x,hx=>by
  unfold iU at g;rcases bY.1 hx with rfl|hx
  .exact g.1
  .exact Tq g.2 x hx
def xp{n:Nd}{f e:S}{c:L aS}:∀{a:L Tm} {i:Nat},zE n f e c i a->∀m (b:m<N a),iu a[m]=nC n f e c (i+m)/\mX n a[m]
 |[],_,_,m,b=>J
 |k::a,i,g,m,b=>by
  unfold zE at g
  match m,b with
  |0,_=>grind
  |m+1,b=>
   have:=xp g.2.2 m J
   grind
def qg.mR{l:L Nd}{i:Nat}{op nm:S}{N:Nat}{b:Bool}{ks:L Tm}(h:qg l i n (.mk op nm N a c b ks)):∀k∈ks,qg l i n k:=by
 intro k e;let⟨⟨_,b⟩,f,g,j,k,o,m,p⟩:=h;unfold bw at b f g j;unfold iq at m;unfold ms at p;unfold cC at f;unfold dF at g;unfold jf at j;unfold lJ at k;unfold mX at o;obtain⟨m,q,-,-⟩:=wA b;obtain⟨m,r,rfl⟩:=gB e;let⟨_,b⟩:=wB q;have b:bw ks[m]∈cL ks:=by rw[zI];exact J
 exact⟨J,(ux _).1 f.2 _ b,(wJ _).1 g.2 _ b,Tq j.2 _ b,Jm k.2 _ e,(xp o.2.2.2.2 m r).2,om (No ks _ e),LD p.2 _ e⟩
def zZ(F:Nd)(x:aP):Prop:=∀v∈am x.n,∃w,aO F (aW x v.n)=some w/\w.z=v.z/\w.p=(fw x v).p/\(w.p≠(0,0)->w.t=(fw x v).t)
structure ja (F:Nd) (l:List Nd) (i:Nat) (x:aP):Prop where
 g:EK l i x.n
 dec:zZ F x
 p:x.p=(0,0)\/((aO F x.p).isSome=true/\bQ F x.p=1)
 nz:∀s,s≠(0,0)->aW x s≠(0,0)
mutual
def kP(F:Nd)(l:L Nd)(P:Nat->aP->Prop)(i:Nat)(x:aP):Tm->Tr->Prop
 |.mk op b f _ c _ g,e=>∃a,kQ F l P i x g a/\((op≠bK/\e=.mk op (if b=(0,0) then(0,0) else aW x b) f 0 a)\/
  (op=bK/\∃j y,j<i/\y.n=fH l b/\(y.p,y.t)=fu x c/\ja F l j y/\(∀m v,y.n.ins[m]?=some v->(⟨aW y v.n,a.getD m E0,0⟩:aX)∈F.r)/\P j y/\e=.mk bR (aW y ((y.n.o.map Vr.n).headD (0,0))) 0 0 []))
def kQ(F:Nd)(l:L Nd)(P:Nat->aP->Prop)(i:Nat)(x:aP):L Tm->L Tr->Prop
 |[],a=>a=[]
 |k::c,a=>∃b r,a=b::r/\kP F l P i x k b/\kQ F l P i x c r
end
mutual
def kP.mono{F:Nd}{l:L Nd}{P a:Nat->aP->Prop}(b:∀j y,P j y->a j y){i:Nat}{x:aP}:∀{t:Tm} {e:Tr},kP F l P i x t e->kP F l a i x t e
 |.mk op k f a c any g,e,h=>by
  unfold kP at h|-;let⟨a,c,e⟩:=h;refine⟨a,kQ.mono b c,e.imp id λ⟨q,j,y,a,c,e,f,g,h,k⟩=>⟨q,j,y,a,c,e,f,g,b j y h,k⟩⟩
def kQ.mono{F:Nd}{l:L Nd}{P b:Nat->aP->Prop}(c:∀j y,P j y->b j y){i:Nat}{x:aP}:∀{a:L Tm} {es:L Tr},kQ F l P i x a es->kQ F l b i x a es
 |[],es,h=>A
 |k::a,es,h=>by
  unfold kQ at h|-;let⟨f,r,a,b,e⟩:=h;exact⟨f,r,a,kP.mono c b,kQ.mono c e⟩
end
def xT{F:Nd}{l:L Nd}{P:Nat->aP->Prop}{i:Nat}{x:aP}:∀{a:L Tm} {es:L Tr},kQ F l P i x a es->N es=N a/\∀m (e:m<N a) (c:m<N es),kP F l P i x a[m] es[m]
 |[],es,h=>by unfold kQ at h;grind
 |k::a,es,h=>by
  unfold kQ at h;obtain⟨a,r,rfl,f,g⟩:=h;let⟨a,b⟩:=xT g;refine⟨by rw[bt,a,bt],λm e c=>?_⟩
  match m,e,c with
  |0,_,_=>exact f
  |m+1,e,c=>exact b m (by simpa using e) (by simpa using c)
def oM(F:Nd)(l:L Nd):Nat->Nat->aP->Prop
 |0,_,_=>False
 |d+1,i,x=>∀q∈x.n.r,∃a,(⟨aW x q.n,a,0⟩:aX)∈F.r/\kP F l (oM F l d) i x (dr x.n q.n q.e) a
structure vS (F:Nd) (l:List Nd) (K:Nat->aP->Prop) (Gd:aX->Prop):Prop where
 step:∀i x,ja F l i x->K i x->∀nm N a c any ks,qg l i x.n (.mk bK nm N a c any ks)->∀d j y,j<i->ja F l j y->y.n=fH l nm->(y.p,y.t)=fu x c->∀ks',kQ F l (oM F l d) i x ks ks'->(∀m v,y.n.ins[m]?=some v->(⟨aW y v.n,ks'.getD m E0,0⟩:aX)∈F.r)->oM F l d j y->K j y
 own:∀i x,ja F l i x->K i x->∀q∈x.n.r,∀d e',kP F l (oM F l d) i x (dr x.n q.n q.e) e'->Gd ⟨aW x q.n,e',0⟩
 rU:∀i x,ja F l i x->K i x->∀nm N a c any ks,qg l i x.n (.mk bK nm N a c any ks)->∀d j y,j<i->ja F l j y->y.n=fH l nm->(y.p,y.t)=fu x c->∀ks',kQ F l (oM F l d) i x ks ks'->(∀m v,y.n.ins[m]?=some v->(⟨aW y v.n,ks'.getD m E0,0⟩:aX)∈F.r)->oM F l d j y->∀m v,y.n.ins[m]?=some v->Gd ⟨aW y v.n,ks'.getD m E0,0⟩
def gw(a b:aa):Prop:=(∃c,b.ao=a.ao++c)/\∃c,b.r=a.r++c
def gw.refl(a:aa):gw a a:=⟨⟨[],by simp⟩,[],by simp⟩
def gw.M{a b c:aa}(h:gw a b)(g:gw b c):gw a c:=by
 let⟨⟨e,n⟩,d2,o⟩:=h;let⟨⟨f,k⟩,j,m⟩:=g;exact⟨⟨e++f,by rw[k,n,dC]⟩,d2++j,by rw[m,o,dC]⟩
def gw.ins(y:aP)(c:L Vr)(b:L Tr)(a:aa):gw a (fT y c b a):=by
 obtain⟨f,e,g,-⟩:=AJ y c b a;exact⟨⟨_,f⟩,e,g⟩
def gw.ao(y:aP)(b:L Vr)(a:aa):gw a (jv y b a):=by
 obtain A:=AR y b a;exact⟨J,[],J⟩
def gw.Au(a:aa)(s:S)(e:Tr):gw a (mj s e a):=⟨⟨[],by simp[mj]⟩,[_],R⟩
section
variable {G:aP->aa->aa}{l:L Nd}{x:aP}
mutual
def Rr(e:∀y b,gw b (G y b)):∀(t:Tm) (b:aa),gw b (cV G l x t b).2
 |.mk op h g a c any f,b=>by
  unfold cV;split
  .have a:=CK e f {b with p:=b.p+1};have a:gw b (bH G l x f {b with p:=b.p+1}).2:=a;exact a.M ((gw.ins _ _ _ _).M ((gw.ao _ _ _).M (e _ _)))
  .exact CK e f b
def CK(c:∀y a,gw a (G y a)):∀(b:L Tm) (a:aa),gw a (bH G l x b a).2
 |[],a=>by unfold bH;exact .refl _
 |k::b,a=>by
  unfold bH;exact(Rr c k a).M (CK c b _)
end
def FO(c:∀y a,gw a (G y a)):∀(b:L aX) (a:aa),gw a (iH G l x b a)
 |[],a=>by unfold iH;exact .refl _
 |q::b,a=>by
  unfold iH;exact((Rr c _ a).M (gw.Au _ _ _)).M (FO c b _)
end
def Hg(l:L Nd):∀(d:Nat) (x:aP) (a:aa),gw a (gJ l d x a)
 |0,_,a=>by unfold gJ;exact .refl _
 |d+1,x,a=>by unfold gJ;exact FO (Hg l d) _ a
def rN(a:aa)(F:Nd):Prop:=(∃r,F.ao=a.ao++r)/\∃r,F.r=a.r++r
def rN.of{a b:aa}{F:Nd}(h:rN b F)(g:gw a b):rN a F:=by
 let⟨⟨m,j⟩,n,k⟩:=h;let⟨⟨c,e⟩,d2,f⟩:=g;exact⟨⟨c++m,by rw[j,e,dC]⟩,d2++n,by rw[k,f,dC]⟩
def K2(y:aP):∀(e:L Vr) (a:L Tr) (b:aa),(∀q∈(fT y e a b).r,q∈b.r\/∃m v,e[m]?=some v/\q=⟨aW y v.n,a.getD m E0,0⟩)/\∀m v,e[m]?=some v->(⟨aW y v.n,a.getD m E0,0⟩:aX)∈(fT y e a b).r
 |[],a,b=>⟨λq f=>.inl f,J⟩
 |v::e,a,b=>by
  unfold fT;let⟨g,c⟩:=K2 y e (a.drop 1) (mj (aW y v.n) (a.headD E0) (tY (fw y v) b));have c:a.headD E0=a.getD 0 E0:=by cases a<;>rfl
  have h:∀m,(a.drop 1).getD m E0=a.getD (m+1) E0:=J;refine⟨λq f=>?_,λm w c=>?_⟩
  .rcases g q f with g|⟨m,w,f,j⟩
   .have g:q∈b.r++[⟨aW y v.n,a.headD E0,0⟩]:=g;grind
   .exact .inr ⟨m+1,w,f,by rw[j,h]⟩
  .match m,c with
   |0,c=>
    have c:some v=some w:=c;injection c with c
    subst c;obtain⟨-,f,g,-⟩:=AJ y e (a.drop 1) (mj (aW y v.n) (a.headD E0) (tY (fw y v) b));rw[g];refine oJ _ ?_;show _∈b.r++[⟨aW y v.n,a.headD E0,0⟩];grind
   |m+1,c=>
    grind
def FZ{F:Nd}(b:((am F).map Vr.n).Nodup){v:Vr}(h:v∈am F):aO F v.n=some v:=by
 obtain⟨j,a,rfl⟩:=gB h;exact AA b j a
def zZ.at{F:Nd}{x:aP}(h:zZ F x){s:S}(c:(aO x.n s).isSome=true):(aO F (aW x s)).isSome=true/\bQ F (aW x s)=bQ x.n s:=by
 let⟨v,a⟩:=xK.1 c;have e:v.n=s:=by have:=uB a;exact J
 obtain⟨w,b,f,-⟩:=h v (pY a);rw[e] at b;refine⟨by grind,?_⟩;unfold bQ;grind
section
variable {F:Nd}{l:L Nd}{P:Nat->aP->Prop}{G:aP->aa->aa}{i:Nat}{x:aP}
def uJ(F:Nd)(l:L Nd)(P:Nat->aP->Prop)(i:Nat)(G:aP->aa->aa):Prop:=(∀y a,gw a (G y a))/\∀j y a,j<i->ja F l j y->rN (G y a) F->P j y
def P0(t:od l)(s:((am F).map Vr.n).Nodup)(h:ja F l i x)(f:lK x.n c){j:Nat}{y:aP}(o:l[j]?=some y.n)(b:y.ah=jo k)(e:(y.p,y.t)=fu x c){m:L Tr}{g:aa}(r:rN (jv y (y.n.o++y.n.ao) (fT y y.n.ins m g)) F):ja F l j y:=by
 have p:(jv y (y.n.o++y.n.ao) (fT y y.n.ins m g)).ao=g.ao++(am y.n).map (fw y):=by
  rw[(AR y _ _).1,(AJ y _ _ _).1,dC,<-cM];rfl
 have n:zZ F y:=λv a=>by
  have q:fw y v∈am F:=by
   obtain⟨⟨a,a⟩,-⟩:=r;unfold am;refine jl _ (jl _ ?_);rw[a,p];exact J
  have:=FZ s q
  rw[Dx] at this;exact⟨_,this,UT y v,R,J⟩
 refine⟨t j _ o,n,?_,λs _=>by show nA y.ah s≠_;rw[b];exact aaE _ _⟩;have a:y.p=(fu x c).1:=by rw[<-e]
 rw[a];unfold fu;cases e:c.getLast? with
 |none=>exact h.p
 |some s=>
  have:=f s J
  obtain A:=h.dec.at this.1;grind
mutual
def JY(s:od l)(p:((am F).map Vr.n).Nodup)(k:uJ F l P i G)(n:ja F l i x):∀(t:Tm) (e:aa),qg l i x.n t->rN (cV G l x t e).2 F->kP F l P i x t (cV G l x t e).1
 |.mk op g h a c any o,e,f,b=>by
  have w:=f.mR;unfold cV at b|-;by_cases q:op=bK
  .rw[ae q] at b|-;subst q;have a:=f.T;unfold bw dF at a;obtain⟨j,u,t,-,-⟩:=callee (show iP (l.take i) g _=true from a.1);have h:=f.ck;unfold lJ at h;unfold rQ at b|-;dsimp only at b|-;generalize v:bH G l x o {e with p:=e.p+1}=r at b|-;generalize a:(⟨fH l g,jo (e.p+1),(fu x c).1,(fu x c).2⟩:aP)=y at b|-;have f:y.n=fH l g:=by rw[<-a]
   have m:y.ah=jo (e.p+1):=by rw[<-a]
   have g:(y.p,y.t)=fu x c:=by rw[<-a]
   rw[<-f] at t b|-;have a:gw r.2 (jv y (y.n.o++y.n.ao) (fT y y.n.ins r.1 r.2)):=(gw.ins _ _ _ _).M (gw.ao _ _ _);have c:=b.of (k.1 y _);have z:=c.of a;have a:=FQ s p k n o {e with p:=e.p+1} w J;rw[v] at a;have v:=P0 s p n h.1 t m g c;have t:=k.2 j y _ u v b;have z:=c.of (gw.ao y (y.n.o++y.n.ao) (fT y y.n.ins r.1 r.2));let⟨c,h⟩:=K2 y y.n.ins r.1 r.2;unfold kP;refine⟨r.1,a,.inr ⟨rfl,j,y,u,f,g,v,λm v f=>?_,t,rfl⟩⟩;obtain⟨-,c,c⟩:=z;rw[c];exact oJ _ (h m v f)
  .rw[ac q] at b|-;have a:=FQ s p k n o e w b;unfold kP;grind
def FQ(h:od l)(g:((am F).map Vr.n).Nodup)(e:uJ F l P i G)(f:ja F l i x):∀(a:L Tm) (b:aa),(∀k∈a,qg l i x.n k)->rN (bH G l x a b).2 F->kQ F l P i x a (bH G l x a b).1
 |[],b,_,c=>by
  unfold bH kQ;rfl
 |k::a,b,j,c=>by
  unfold bH at c|-;have j:=JY h g e f k b J (c.of (CK e.1 a _));have b:=FQ h g e f a _ J c;unfold kQ;grind
end
def Rd(h:od l)(g:((am F).map Vr.n).Nodup)(c:uJ F l P i G)(e:ja F l i x):∀(a:L aX) (b:aa),(∀q∈a,q∈x.n.r)->rN (iH G l x a b) F->∀q∈a,∃f,(⟨aW x q.n,f,0⟩:aX)∈F.r/\kP F l P i x (dr x.n q.n q.e) f
 |[],b,_,_=>J
 |q::a,b,j,f=>by
  unfold iH at f;have m:=j q (gN ..);have j:=f.of (FO c.1 a _);have k:=JY h g c e (dr x.n q.n q.e) b (e.g.tg q m) (j.of (gw.Au _ _ _));have b:=Rd h g c e a _ J f;intro y hy;rcases bY.1 hy with rfl|hy
  .refine⟨_,?_,k⟩;obtain⟨-,r,e⟩:=j;rw[e];exact oJ _ (jl _ (dM.2 R))
  .exact b y hy
end
def Me{F:Nd}{l:L Nd}(e:od l)(c:((am F).map Vr.n).Nodup):∀d,uJ F l (oM F l d) d (gJ l d)
 |0=>⟨Hg l 0,Y⟩
 |d+1=>⟨Hg l (d+1),λj y m a h b=>by
  let⟨a,f⟩:=Me e c d;unfold gJ at b;have g:uJ F l (oM F l d) j (gJ l d):=⟨a,λk n a j=>f k n a Y⟩;exact Rd e c g h y.n.r m J b⟩
section
variable {F:Nd}{l:L Nd}{K:Nat->aP->Prop}{Gd:aX->Prop}{G:aP->aa->aa}{i d:Nat}{x:aP}
def EF(F:Nd)(l:L Nd)(K:Nat->aP->Prop)(Gd:aX->Prop)(i:Nat)(G:aP->aa->aa):Prop:=∀j y a,j<i->ja F l j y->K j y->rN (G y a) F->∀q∈(G y a).r,q∈a.r\/Gd q
mutual
def Rn(I:od l)(D:((am F).map Vr.n).Nodup)(cv:vS F l K Gd)(p:uJ F l (oM F l d) i G)(V:EF F l K Gd i G)(n:ja F l i x)(B:K i x):∀(t:Tm) (b:aa),qg l i x.n t->rN (cV G l x t b).2 F->∀q∈(cV G l x t b).2.r,q∈b.r\/Gd q
 |.mk op u a0 a c any o,b,w,e=>by
  have W:=w.mR;unfold cV at e|-;by_cases q:op=bK
  .rw[ae q] at e|-;subst q;have f:=w.T;unfold bw dF at f;obtain⟨j,z,v,-,-⟩:=callee (show iP (l.take i) u _=true from f.1);have g:=w.ck;unfold lJ at g;unfold rQ at e|-;dsimp only at e|-;generalize C:bH G l x o {b with p:=b.p+1}=r at e|-;generalize k:(⟨fH l u,jo (b.p+1),(fu x c).1,(fu x c).2⟩:aP)=y at e|-;have f:y.n=fH l u:=by rw[<-k]
   have m:y.ah=jo (b.p+1):=by rw[<-k]
   have h:(y.p,y.t)=fu x c:=by rw[<-k]
   rw[<-f] at v e|-;have k:gw r.2 (jv y (y.n.o++y.n.ao) (fT y y.n.ins r.1 r.2)):=(gw.ins _ _ _ _).M (gw.ao _ _ _);have s:=e.of (p.1 y _);have t:=s.of k;have k:=FQ I D p n o {b with p:=b.p+1} W J;have t:=J4 I D cv p V n B o {b with p:=b.p+1} W J;rw[C] at k t;have C:=P0 I D n g.1 v m h s;have py:=p.2 j y _ z C e;have g:=s.of (gw.ao y (y.n.o++y.n.ao) (fT y y.n.ins r.1 r.2));let⟨m1,m⟩:=K2 y y.n.ins r.1 r.2;have s:∀m v,y.n.ins[m]?=some v->(⟨aW y v.n,r.1.getD m E0,0⟩:aX)∈F.r:=λm v hm=>by
    obtain⟨-,r2,e2⟩:=g;grind
   have ky:=cv.step i x n B u a0 a c any o w d j y z C f h r.1 k s py;intro q g;rcases V j y _ z C ky e q g with g|g
   .rw[(AR y _ _).2] at g;rcases m1 q g with g|⟨m,v,g1,rfl⟩
    .exact t q g
    .exact .inr (cv.rU i x n B u a0 a c any o w d j y z C f h r.1 k s py m v g1)
   grind
  .rw[ac q] at e|-;exact J4 I D cv p V n B o b W e
def J4(m:od l)(j:((am F).map Vr.n).Nodup)(cv:vS F l K Gd)(e:uJ F l (oM F l d) i G)(f:EF F l K Gd i G)(g:ja F l i x)(h:K i x):∀(a:L Tm) (b:aa),(∀k∈a,qg l i x.n k)->rN (bH G l x a b).2 F->∀q∈(bH G l x a b).2.r,q∈b.r\/Gd q
 |[],b,_,c=>λq n=>.inl A
 |k::a,b,n,c=>by
  unfold bH at c|-;have n:=Rn m j cv e f g h k b J (c.of (CK e.1 a _));have b:=J4 m j cv e f g h a _ J c;grind
end
def Ra(j:od l)(h:((am F).map Vr.n).Nodup)(cv:vS F l K Gd)(e:uJ F l (oM F l d) i G)(m:EF F l K Gd i G)(b:ja F l i x)(f:K i x):∀(c:L aX) (a:aa),(∀q∈c,q∈x.n.r)->rN (iH G l x c a) F->∀q∈(iH G l x c a).r,q∈a.r\/Gd q
 |[],a,_,_=>λq n=>.inl A
 |q::c,a,n,g=>by
  unfold iH at g|-;have k:=n q (gN ..);have n:=g.of (FO e.1 c _);have o:=JY j h e b (dr x.n q.n q.e) a (b.g.tg q k) (n.of (gw.Au _ _ _));have p:=Rn j h cv e m b f (dr x.n q.n q.e) a (b.g.tg q k) (n.of (gw.Au _ _ _));have n:=Ra j h cv e m b f c _ J g;intro y c;rcases n y c with g|g
  .have g:y∈(cV G l x (dr x.n q.n q.e) a).2.r++[⟨aW x q.n,(cV G l x (dr x.n q.n q.e) a).1,0⟩]:=g;rcases bA.1 g with g|g
   .grind
   .rw[dM.1 g];exact .inr (cv.own i x b f q k d _ o)
  grind
end
def WY{F:Nd}{l:L Nd}{K:Nat->aP->Prop}{Gd:aX->Prop}(f:od l)(e:((am F).map Vr.n).Nodup)(cv:vS F l K Gd):∀d,EF F l K Gd d (gJ l d)
 |0=>λj y k a=>absurd a (nR _)
 |d+1=>λj y k a p q h=>by
  have n:=WY f e cv d;let⟨a,m⟩:=Me (F:=F) f e d;unfold gJ at h|-;have o:uJ F l (oM F l d) j (gJ l d):=⟨a,λc g a b=>m c g a Y⟩;exact Ra f e cv o (λc g a b=>n c g a Y) p q y.n.r k J h
end
end
section
variable {l:L Nd}{i k:Nat}{n:Nd}
def x0(l:L Nd):aP:=⟨aD l,(0,0),(0,0),false⟩
def ut(l:L Nd):aa:=⟨0,(aD l).ao,[]⟩
def vE(l:L Nd):aa:=gJ l (N l) (x0 l) (ut l)
def vj(h:l≠[]):l[N l-1]?=some (aD l):=by
 unfold aD;rw[<-Ob,ZV h];rfl
def AZ(l:L Nd)(s:S):aW (x0 l) s=s:=abF s
def afK(l:L Nd)(a:L S):a.map (aW (x0 l))=a:=by
 have:(aW (x0 l))=id:=funext λs=>AZ l s
 rw[this,Oe]
def I0(l:L Nd):am (aD l)=((aD l).ins++(aD l).o)++(aD l).ao:=by unfold am;grind
structure wa (F:Nd):Prop where
 P:((am F).map Vr.n).Nodup
 own:(F.r.map aX.n).Perm (aE F)
 hu:kB [] (am F)
 z:∀v∈am F,cP v.z
def ad3(d:od l)(b:l≠[])(a:∀v∈am (aD l),LK v.n)(f:(vE l).p<10^20):wa (bN l):=by
 have a:=vj b;have b:=d _ _ a;have a:0<N l:=J;have i:rJ ((aD l).ins++(aD l).o) (ut l) (x0 l):=⟨λv a=>⟨v,by
  have a:v∈am (aD l):=a;rw[I0] at a;exact a,(AZ l v.n).s⟩,.inl R⟩
 let⟨c,e,g,j,_,k,m,h,n,o⟩:=(W3 (D:=(aD l).ins++(aD l).o) d.ok (N l)).2 (N l-1) (x0 l) (ut l) Y b.ok i f;rw[afK] at h;have f:(bN l).ao=(aD l).ao++c:=g;have i:(bN l).r=e:=j;have d:am (bN l)=am (aD l)++c:=by
  show(aD l).ins++((aD l).o++(bN l).ao)=_
  rw[f];unfold am;simp only[dC]
 have j:((am (bN l)).map Vr.n).Nodup:=by
  rw[d,cM];refine rF.2 ⟨b.ok.P,k,λs g e e=>?_⟩;obtain⟨v,a,rfl⟩:=cN.1 g;obtain⟨w,g,rfl⟩:=cN.1 e;obtain⟨k,r,e,-,-⟩:=m w g;intro g;rw[e] at g;exact aaB k r J
 refine⟨j,?_,Se ?_ A,λv a=>?_⟩
 .rw[i];refine h.trans ?_
  have:aE (bN l)=aE (aD l)++c.map Vr.n:=by
   show((aD l).o++(bN l).ao).map Vr.n=_
   rw[f];unfold aE;simp only[cM,dC]
  rw[this];exact ZZ
 .rw[d];refine CX (KT b.ok.hu) ?_;rw[dH,I0];exact n
 .rw[d] at a;exact(bA.1 a).elim (b.ok.z v) (o v)
def Lv(c:od l)(b:l≠[])(w:wa (bN l)):ja (bN l) l (N l-1) (x0 l):=by
 have a:=c _ _ (vj b);refine⟨a,λv a=>?_,.inl R,λs h=>by rw[AZ];exact h⟩;have a:v∈am (aD l):=a;have b:v∈am (bN l):=by
  rw[I0] at a;obtain⟨⟨a,e⟩,-⟩:=Hg l (N l) (x0 l) (ut l);have e:(bN l).ao=(aD l).ao++a:=e;show v∈(aD l).ins++((aD l).o++(bN l).ao);rw[e,<-dC,<-dC];exact J
 refine⟨v,by rw[AZ];exact FZ w.P b,R,?_,λh=>?_⟩
 .unfold fw;split
  .assumption
  .exact(AZ l v.p).s
 .unfold fw;rw[ac h]
def adZ(b:od l)(c:l≠[])(w:wa (bN l)):oM (bN l) l (N l) (N l-1) (x0 l):=by
 have a:0<N l:=J;exact(Me b w.P (N l)).2 (N l-1) (x0 l) (ut l) Y (Lv b c w) ⟨⟨[],by rw[eB];rfl⟩,[],by rw[eB];rfl⟩
def CN{K:Nat->aP->Prop}{Gd:aX->Prop}(b:od l)(d:l≠[])(w:wa (bN l))(cv:vS (bN l) l K Gd)(c:K (N l-1) (x0 l)):∀q∈(bN l).r,Gd q:=by
 have a:0<N l:=J;have a:=WY b w.P cv (N l) (N l-1) (x0 l) (ut l) Y (Lv b d w) c ⟨⟨[],by rw[eB];rfl⟩,[],by rw[eB];rfl⟩;exact λq b=>(a q b).resolve_left λg=>by cases g
def Kt(_:Nat)(_:aP):Prop:=True
def agZ{h:L Nd}{F:Nd}{a d b:S}{c:L Nat}(e:a≠bK)(e:a=bR\/a=bB\/a=bD->bQ F b=bQ n d):iI [] F a b c=iI h n a d c:=by
 unfold iI;by_cases b:a=fm
 .grind
 rw[ac b,ac b];by_cases q2:a=cX
 .grind
 rw[ac q2,ac q2];by_cases b:a=bR
 .grind
 rw[ac b,ac b];by_cases b:a=fB
 .grind
 rw[ac b,ac b];by_cases b:a=ps
 .grind
 grind
def Aj{a:S}{b:L Nat}(h:qQ (l.take i) a b=k)(c:cP k):lN (fH l a).ins b=true/\k=rh (fH l a)/\N (fH l a).o=1/\N (fH l a).ins=N b:=by
 unfold qQ at h;have b:k≠0:=by rcases c with rfl|rfl<;>decide
 cases f:(l.take i).find? (λn=>decide (n.n=a)) with
 |none=>grind
 |some d=>
  rw[f] at h;dsimp only at h;have e:l.find? (λn=>decide (n.n=a))=some d:=by
   have:=F0 (l:=l.take i) (r:=l.drop i) (P:=λn:Nd=>decide (n.n=a)) (by rw[f];rfl)
   rw[mH] at this;exact J
  have b:fH l a=d:=by unfold fH;rw[e]
  grind
def Sp:∀{a:L Vr} {b:L Nat},lN a b=true->N a=N b->∀(m:Nat) (v:Vr) (c:Nat),a[m]?=some v->b[m]?=some c->v.z=c
 |[],_,_,_,m,v,c,h,_=>by cases h
 |v::a,[],_,h,_,_,_,_,_=>by cases h
 |v::a,c::b,h,i,0,g,f,d,e=>by
  injection d with d
  injection e with e
  subst d;subst e;unfold lN at h;grind
 |v::a,c::b,h,i,m+1,g,f,d,e=>by
  unfold lN at h;rw[ss] at h;exact Sp h.2 J m g f d e
def GU(g:EK l i n){s:S}(h:(aO n s).isSome=true):s≠(0,0):=by
 let⟨v,a⟩:=xK.1 h;have e:v.n=s:=by have:=uB a;exact J
 rw[<-e];exact g.nz v (pY a)
def zZ.out{F:Nd}{y:aP}(h:zZ F y)(a:N y.n.o=1):(aO F (aW y ((y.n.o.map Vr.n).headD (0,0)))).isSome=true/\bQ F (aW y ((y.n.o.map Vr.n).headD (0,0)))=rh y.n/\∃v,y.n.o=[v]:=by
 match e:y.n.o,a with
 |[v],_=>
  obtain⟨w,a,b,-⟩:=h v (by unfold am;grind);refine⟨by grind,?_,v,R⟩;show bQ F (aW y v.n)=_;unfold bQ rh;grind
structure rIH (F:Nd) (e:Tr) (k:Nat):Prop where
 ty:fM [] F e=.inr k
 pC:cC e
 T:dF [] F e
 lit:jf e
def Rw{h:L Nd}{n:Nd}:∀{b:L Tr} {a:L Nat},N b=N a->(∀m (f:m<N b) (d:m<N a),fM h n b[m]=.inr a[m])->eZ h n b=.inr a
 |[],[],_,_=>by unfold eZ;rfl
 |e::b,c::a,g,h=>by
  unfold eZ;have a:fM _ n e=.inr c:=h 0 (jm _) (jm _);rw[a];dsimp only;rw[Rw (by simpa using g) λm f d=>h (m+1) (oL f) (oL d)]
def Ts:∀{a:L Tr},(∀k∈a,jf k)->iU a
 |[],_=>by unfold iU;trivial
 |k::a,h=>by unfold iU;exact⟨J,Ts J⟩
def XJ{F:Nd}{P:Nat->aP->Prop}{x:aP}(O:ja F l i x):∀(t:Tm) (e:Tr),kP F l P i x t e->qg l i x.n t->∀k,fM (l.take i) x.n (bw t)=.inr k->rIH F e k:=by
 refine Tm.E λr o a1 a c a0 ks ih=>?_;intro e h D k V;have tk:=D.mR;unfold kP at h;let⟨w,h1,h2⟩:=h;let⟨hl,hr⟩:=xT h1;unfold bw at V;let⟨z,e1,B,H⟩:=wA V;let⟨el,et⟩:=wB e1;have b:∀m (f:m<N w) (C:m<N z),rIH F w[m] z[m]:=λm f C=>ih _ (aU Y) _ (hr m Y f) (tk _ (aU _)) _ (et m Y C);rcases h2 with⟨nc,rfl⟩|⟨rfl,j,y,h3,h4,h5,h6,h7,h8,rfl⟩
 .have n:=D.T;have v:=D.pC;have u:=D.lit;unfold bw dF at n;unfold bw cC at v;unfold bw jf at u;rw[xr] at n v;have p:r=bR\/r=bB\/r=bD->(aO x.n o).isSome=true:=λq=>by
   have:=n.1
   unfold jT at this;grind
  have s:r=bR\/r=bB\/r=bD->(if o=(0,0) then(0,0) else aW x o)=aW x o:=λq=>ac (GU O.g (p q));have K:=Rw Y λm f C=>(b m f C).ty;refine⟨?_,?_,?_,?_⟩
  .unfold fM;rw[K];dsimp only;have I:iI [] F r (if o=(0,0) then(0,0) else aW x o) z=k:=by
    rw[<-B];exact agZ nc λq=>by rw[s q];exact(O.dec.at (p q)).2
   rw[I];exact ae H
  .unfold cC;refine⟨by grind,(ux _).2 λW d=>?_⟩;obtain⟨m,f,rfl⟩:=gB d;exact(b m f Y).pC
  .unfold dF;refine⟨?_,(wJ _).2 λW d=>?_⟩
   .unfold jT;split
    .rename_i q;rw[s q];exact(O.dec.at (p q)).1
    .rfl
   .obtain⟨m,f,rfl⟩:=gB d;exact(b m f Y).T
  .unfold jf;refine⟨u.1,Ts λW d=>?_⟩;obtain⟨m,f,rfl⟩:=gB d;exact(b m f Y).lit
 .have B:qQ (l.take i) o z=k:=B;obtain⟨-,U,Z,-⟩:=Aj B H;rw[<-h4] at U Z;obtain⟨f1,f2,-⟩:=h6.dec.out Z;refine⟨?_,?_,?_,?_⟩
  .unfold fM eZ;dsimp only;have I:iI [] F bR (aW y ((y.n.o.map Vr.n).headD (0,0))) []=k:=by
    show jr (de (N ([]:L Nat)=0)) (bQ F (aW y ((y.n.o.map Vr.n).headD (0,0)))) []=k;rw[f2,<-U];unfold jr;rw[ac (by decide),ac (λg=>absurd g.2 (by decide))]
   rw[I];exact ae H
  .unfold cC gY;exact⟨.inr R,trivial⟩
  .unfold dF ju;refine⟨?_,trivial⟩
   assumption
  .unfold jf iU;grind
def IM(F:Nd)(q:aX):Prop:=rIH F q.e (bQ F q.n)
def acu{F:Nd}{l:L Nd}:vS F l Kt (IM F) where
 step:=λ_ _ _ _ _ _ _ _ _ _ _ _ _ _ _ _ _ _ _ _ _ _=>trivial
 own:=λi x hi _ q hq d e' h=>by
  have ty:=hi.g.ty q hq;have hf:(aO x.n q.n).isSome=true:=by
   have:=(hi.g.ok.own.map id).mem_iff (a:=q.n)
   rw[Oe,Oe] at this;let⟨v,hv,e⟩:=cN.1 (this.1 (ni hq));exact vM.2 ⟨v,jl _ hv,aB e⟩
  show rIH F e' (bQ F (aW x q.n));rw[(hi.dec.at hf).2];exact XJ hi _ _ h (hi.g.tg q hq) _ (by rw[jV];exact ty)
 rU:=λi x hi _ nm N a c any ks tg d j y hj iy ey eo ks' h _ _ m v hv=>by
  let⟨k,hk⟩:=tg.ty;unfold bw at hk;let⟨cs,e1,e2,e3⟩:=wA hk;have e2:qQ (l.take i) nm cs=k:=e2;obtain⟨io,-,o1,o2⟩:=Aj e2 e3;rw[<-ey] at io o1 o2;let⟨el,et⟩:=wB e1;let⟨hl,hr⟩:=xT h;have hm:=mN hv;have hmk:m<ks.length:=Y;have hm':m<ks'.length:=Y;have eg:ks'.getD m E0=ks'[m]:=by rw[cA,bM hm'];rfl
  have hmem:v∈am y.n:=by unfold am;exact J
  have ek:bQ F (aW y v.n)=v.z:=by
   obtain⟨w,a1,a2,-⟩:=iy.dec v hmem;unfold bQ;rw[a1];exact a2
  show rIH F (ks'.getD m E0) (bQ F (aW y v.n));rw[eg,ek,Sp io o2 m v cs[m] hv J];exact XJ hi _ _ (hr m hmk hm') (tg.mR _ (aU _)) _ (et m hmk Y)
end
section
variable {l:L Nd}{c:L aS}{i k:Nat}{n:Nd}
def Cx(F:Nd)(x:aP):L aS:=if x.p=(0,0) then[] else aF F x.p++[(x.p,x.t)]
def jw(x:aP)(c:L aS):L aS:=c.map λs=>(aW x s.1,s.2)
def qK(n:Nd):Prop:=∀v∈n.ins++n.o,v.p=(0,0)
def sC.bare(h:sC l i n):qK n:=λv a=>(bA.1 a).elim (λg=>(h.ib v g).1) λg=>(h.ob v g).1
def abW{F:Nd}{x:aP}(k:kB [] (am F))(e:qK F)(d:ja F l i x):∀(p:Nat) (a:p<N (am x.n)),aF F (aW x (am x.n)[p].n)=Cx F x++jw x (aF x.n (am x.n)[p].n):=by
 intro p
 induction p using Nat.strongRecOn with
 |ind p m=>
  intro a;have b:=d.g.ok;have f:=AA b.P p a;obtain⟨w,c,-,h,j⟩:=d.dec _ (aU a);rw[CA k e c,CA b.hu b.bare f];by_cases e:(am x.n)[p].p=(0,0)
  .have c:w.p=x.p:=by rw[h];unfold fw;rw[ae e]
   have f:w.p≠(0,0)->w.t=x.t:=λg=>by rw[j g];unfold fw;rw[ae e]
   rw[ae e];show _=Cx F x++[];rw[eB];unfold Cx;grind
  .have c:w.p=aW x (am x.n)[p].p:=by rw[h];unfold fw;rw[ac e]
   have q:w.p≠(0,0):=by rw[c];exact d.nz _ e
   have f:w.t=(am x.n)[p].t:=by rw[j q];unfold fw;rw[ac e]
   rw[ac q,ac e,c,f];let⟨u,hu,c⟩:=(CY b.hu p a).resolve_left e;rw[dH] at hu;let⟨j,b,a⟩:=gB hu;rw[dW] at b;rw[Eo] at a
   have:=m j Y Y
   rw[a,c] at this;rw[this];unfold jw;grind
def rR{F:Nd}{x:aP}(b:kB [] (am F))(a:qK F)(c:ja F l i x){s:S}(e:(aO x.n s).isSome=true):aF F (aW x s)=Cx F x++jw x (aF x.n s):=by
 obtain⟨j,d,rfl,-⟩:=tT e;exact abW b a c j d
def B6{F:Nd}{x y:aP}(j:kB [] (am F))(h:qK F)(f:ja F l i x)(k:proper x.n c)(e:(y.p,y.t)=fu x c):Cx F y=Cx F x++jw x c:=by
 rcases k with rfl|⟨s,b,g,rfl⟩
 .have e:(y.p,y.t)=(x.p,x.t):=e;injection e with a d
  unfold Cx;rw[a,d];show _=_++[];grind
 .have e:(y.p,y.t)=(aW x s,b):=by
   rw[e];unfold fu;rw[List.getLast?_append];rfl
  injection e with a d
  unfold Cx;rw[a,d,ac (f.nz s (GU f.g g)),rR j h f g];unfold jw Cx;grind
def Fa(c:kB [] (am n))(a:qK n)(e:((am n).map Vr.n).Nodup){v:Vr}(b:v∈n.ins++n.o):aF n v.n=[]:=by
 have d:v∈am n:=by
  unfold am;rcases bA.1 b with h|h
  .grind
  .grind
 rw[CA c a (FZ e d),ae (a v b)]
def Rk{n:Nd}:∀(b:L Tr) (c:Nat->L aS),(∀m (f:m<N b),∃d,fC n b[m]=.inr d/\cg d (c m)=true)->∃a,fF n b=.inr a/\N a=N b/\∀m (f:m<N a),cg a[m] (c m)=true
 |[],c,_=>⟨[],by unfold fF;rfl,R,J⟩
 |e::b,c,h=>by
  let⟨d,_,e⟩:=h 0 (jm _);let⟨a,_,e,g⟩:=Rk b (λm=>c (m+1)) λm f=>h (m+1) (oL f);refine⟨d::a,?_,by rw[bt,e,bt],λm f=>?_⟩
  .unfold fF;grind
  grind
def agD{a:L Ck}{C:L aS}(h:∀m (c:m<N a),cg a[m] C=true):(kE a).2=true/\cg (kE a).1 C=true:=by
 have h:∀k∈a,cg k C=true:=λk b=>by
  obtain⟨m,c,rfl⟩:=gB b;exact h m c
 unfold kE;cases f:a.find? (λk=>!k.2) with
 |none=>exact dy
 |some k=>
  dsimp only;have b:=h k (pY f);have c:k.2=false:=by have:=uB f;simpa using this
  have d:k.1=C:=by
   unfold cg at b;rw[c] at b;exact J
  grind
def F8(C:L aS):cg (C,false) C=true:=by unfold cg;simp
def XG{F:Nd}{P:Nat->aP->Prop}{x:aP}(z:kB [] (am F))(w:qK F)(a:((am F).map Vr.n).Nodup)(B:ja F l i x):∀(t:Tm) (e:Tr),kP F l P i x t e->qg l i x.n t->∃b,fC F e=.inr b/\cg b (Cx F x++jw x (iu t))=true:=by
 refine Tm.E λf d I a c a ks ih=>?_;intro e h Z;have tk:=Z.mR;have a:=Z.T;have C:=Z.pC;have j:=Z.td;unfold bw dF at a;unfold bw cC at C;unfold mX at j;rw[xr] at a C;obtain⟨pc,d1,d2,d3,d4⟩:=j;unfold kP at h;obtain⟨W,j,t⟩:=h;obtain⟨h,K⟩:=xT j
 show∃b,fC F e=.inr b/\cg b (Cx F x++jw x c)=true
 obtain⟨g,e,e,O⟩:=Rk W (λm=>Cx F x++jw x (nC x.n f d c m)) λm hm=>by
  have e:m<N ks:=by omega
  obtain⟨j,h⟩:=xp d4 m e;obtain⟨b,q,h⟩:=ih _ (aU e) _ (K m e hm) (tk _ (aU _));rw[j,gg] at h;exact⟨b,q,h⟩
 have s:f=bR\/f=bB\/f=bD->(aO x.n d).isSome=true:=λq=>by
  have:=a.1
  unfold jT at this;grind
 have u:f=bR\/f=bB\/f=bD->(if d=(0,0) then(0,0) else aW x d)=aW x d:=λq=>ac (GU B.g (s q));rcases t with⟨nc,rfl⟩|⟨rfl,j,y,a,h4,h5,V,a,a,rfl⟩
 .have r:=C.1.resolve_left nc;have n:∀K:Ck×Bool,df F f (if d=(0,0) then(0,0) else aW x d) I g=K->K.2=true->cg K.1 (Cx F x++jw x c)=true->∃b,fC F (.mk f (if d=(0,0) then(0,0) else aW x d) I 0 W)=.inr b/\cg b (Cx F x++jw x c)=true:=λK e1 e2 e3=>by
   refine⟨K.1,?_,e3⟩;unfold fC;grind
  by_cases q1:f=fm\/f=cX
  .refine n (([],true),true) ?_ rfl R;unfold df;grind
  by_cases q2:f=bR
  .have p:=s (.inl q2);refine n ((aF F (aW x d),false),true) ?_ rfl ?_
   .rw[u (.inl q2)];unfold df;grind
   .show cg (aF F (aW x d),false) _=true;rw[rR z w B p,<-d1 q2];exact F8 _
  by_cases D:f=bB
  .have p:=s (.inr (.inl D));have a:N g=1:=by
    rw[D] at r
    have:1=N ks:=jX r
    omega
   match g,a,O with
   |[k],_,O=>
    have o:=O 0 (jm _);have o:cg k (Cx F x++jw x (nC x.n f d c 0))=true:=o;have U:nC x.n f d c 0=aF x.n d:=by unfold nC;rw[ae D]
    rw[U,<-rR z w B p] at o;refine n ((cB (aF F (aW x d)) (aW x d) (de (I=0)),false),AB (aF F (aW x d)) [k]) ?_ o ?_
    .rw[u (.inr (.inl D))];unfold df;grind
    .show cg (cB (aF F (aW x d)) (aW x d) (de (I=0)),false) _=true;rw[d2 D,rR z w B p]
     have:Cx F x++jw x (cB (aF x.n d) d (de (I=0)))=cB (Cx F x++jw x (aF x.n d)) (aW x d) (de (I=0)):=by
      unfold cB jw;rw[cM,dC];rfl
     rw[this];exact F8 _
  by_cases H:f=bD
  .have p:=s (.inr (.inr H));have a:N g=2:=by
    rw[H] at r
    have:2=N ks:=jX r
    omega
   match g,a,O with
   |[k,k'],_,O=>
    have e:∀b,Cx F x++jw x (cB c d b)=cB (aF F (aW x d)) (aW x d) b:=λb=>by
     rw[d3 H,rR z w B p];unfold cB jw;grind
    have U:∀m,nC x.n f d c m=cB c d (de (0<m)):=λm=>by unfold nC;grind
    have o:cg k (Cx F x++jw x (nC x.n f d c 0))=true:=J;have a:cg k' (Cx F x++jw x (nC x.n f d c 1))=true:=J;rw[U,e] at o a;have o:cg k (cB (aF F (aW x d)) (aW x d) false)=true:=o;have a:cg k' (cB (aF F (aW x d)) (aW x d) true)=true:=a;refine n ((aF F (aW x d),false),yG (cB (aF F (aW x d)) (aW x d) false) (cB (aF F (aW x d)) (aW x d) true) [k,k']) ?_ ?_ ?_
    .rw[u (.inr (.inr H))];unfold df;grind
    .show(cg k _&&cg k' _)=true
     grind
    .show cg (aF F (aW x d),false) _=true;rw[rR z w B p,<-d3 H];exact F8 _
  .obtain⟨b,o2⟩:=agD (a:=g) (C:=Cx F x++jw x c) λm hm=>by
    have:=O m hm
    have U:nC x.n f d c m=c:=by unfold nC;rw[ac D,ac H]
    rw[U] at this;exact this
   refine n (kE g) ?_ b o2;unfold df;rw[ac q1,ac q2,ac D,ac H]
 .have b:N y.n.o=1:=by
   obtain⟨f,a⟩:=Z.ty;unfold bw at a;obtain⟨e,e1,e2,e3⟩:=wA a
   have:=(Aj (show qQ (l.take i) d e=f from e2) e3).2.2.1
   rw[h4];exact this
  obtain⟨o,-,v,a⟩:=V.dec.out b;have d:v∈y.n.ins++y.n.o:=by rw[a];exact jl _ (dM.2 R)
  have b:((y.n.o.map Vr.n).headD (0,0))=v.n:=by rw[a];rfl
  rw[b];have p:(aO y.n v.n).isSome=true:=vM.2 ⟨v,by unfold am;rw[a];exact jl _ (oJ _ (dM.2 R)),aB R⟩;refine⟨(aF F (aW y v.n),false),?_,?_⟩
  .unfold fC fF;dsimp only
   have:df F bR (aW y v.n) 0 []=((aF F (aW y v.n),false),true):=R
   rw[this];rfl
  .rw[rR z w V p,Fa V.g.ok.hu V.g.ok.bare V.g.ok.P d,B6 z w B pc h5];show cg (Cx F x++jw x c++[],false) _=true;rw[eB];exact F8 _
structure IL (F:Nd) (q:aX):Prop where
 ck:∃ck,fC F q.e=.inr ck/\cg ck (aF F q.n)=true
 p:∀w,aO F q.n=some w->w.p≠(0,0)->bQ F w.p=1
def UU{F:Nd}{x:aP}(b:ja F l i x){v:Vr}(d:v∈am x.n):∀w,aO F (aW x v.n)=some w->w.p≠(0,0)->bQ F w.p=1:=by
 intro w j f;obtain⟨k,c,-,a,-⟩:=b.dec v d;rw[j] at c;injection c with c
 subst c;unfold fw at a;split at a
 .have a:w.p=x.p:=a;rw[a] at f|-;exact(b.p.resolve_left f).2
 .rename_i q;have a:w.p=aW x v.p:=a;rw[a];have h:v∈x.n.ao:=by
   have e:v∈x.n.ins++(x.n.o++x.n.ao):=d;rcases bA.1 e with g|g
   .exact absurd (b.g.ok.ib v g).1 q
   .rcases bA.1 g with g|g
    .exact absurd (b.g.ok.ob v g).1 q
    .exact g
  rw[(b.dec.at ((Gp b.g.ok.hu d).resolve_left q)).2];exact b.g.p v h q
def L0(c:sC l i n){q:aX}(a:q∈n.r):∃v,v∈am n/\v.n=q.n/\(aO n q.n).isSome=true:=by
 have b:q.n∈aE n:=c.own.mem_iff.1 J;let⟨v,a,e⟩:=cN.1 b;exact⟨v,jl _ a,e,vM.2 ⟨v,jl _ a,aB e⟩⟩
def acs{F:Nd}{l:L Nd}(hh:kB [] (am F))(hb:qK F)(nd:((am F).map Vr.n).Nodup):vS F l Kt (IL F) where
 step:=λ_ _ _ _ _ _ _ _ _ _ _ _ _ _ _ _ _ _ _ _ _ _=>trivial
 own:=λi x hi _ q hq d e' h=>by
  let⟨v,hv,ev,hf⟩:=L0 hi.g.ok hq;refine⟨?_,by show∀w,aO F (aW x q.n)=some w->_;rw[<-ev];exact UU hi hv⟩
  have:=XG hh hb nd hi _ _ h (hi.g.tg q hq)
  rw[hi.g.ro q hq,<-rR hh hb hi hf] at this;exact this
 rU:=λi x hi _ nm N a c any ks tg d j y hj iy ey eo ks' h _ _ m v hv=>by
  have hm:=qI hv;have hmem:v∈am y.n:=by unfold am;exact J
  refine⟨?_,UU iy hmem⟩;have htd:=tg.td;unfold mX at htd;obtain⟨pc,-,-,-,d4⟩:=htd;let⟨hl,hr⟩:=xT h;let⟨k,hk⟩:=tg.ty;unfold bw at hk;let⟨cs,e1,e2,e3⟩:=wA hk;obtain⟨-,-,-,o2⟩:=Aj (show qQ (l.take i) nm cs=k from e2) e3;rw[<-ey] at o2;obtain A:=wB e1;have hlt:=mN hv;have hmk:m<ks.length:=Y;have hm':m<ks'.length:=Y;have eg:ks'.getD m E0=ks'[m]:=by rw[cA,bM hm'];rfl
  have:=XG hh hb nd hi _ _ (hr m hmk hm') (tg.mR _ (aU _))
  have ec:iu ks[m]=c:=by
   rw[(xp d4 m hmk).1];unfold nC;rw[ac (by decide),ac (by decide)]
  rw[ec,<-B6 hh hb hi pc eo] at this
  show∃ck,fC F (ks'.getD m E0)=.inr ck/\cg ck (aF F (aW y v.n))=true
  have hs:(aO y.n v.n).isSome=true:=vM.2 ⟨v,hmem,aB R⟩;rw[eg,rR hh hb iy hs,Fa iy.g.ok.hu iy.g.ok.bare iy.g.ok.P J]
  show∃ck,fC F ks'[m]=.inr ck/\cg ck (Cx F y++[])=true
  grind
def Qc(b:kB [] (am n))(c:qK n)(d:((am n).map Vr.n).Nodup)(a:∀v∈am n,v.p≠(0,0)->bQ n v.p=1):∀s,lK n (aF n s):=by
 have a:∀(p:Nat) (a:p<N (am n)),lK n (aF n (am n)[p].n):=by
  intro p
  induction p using Nat.strongRecOn with
  |ind p g=>
   intro a;rw[CA b c (AA d p a)];by_cases e:(am n)[p].p=(0,0)
   .rw[ae e];exact λ_ h=>by cases h
   .rw[ac e];let⟨u,hu,d⟩:=(CY b p a).resolve_left e;rw[dH] at hu;let⟨j,f,c⟩:=gB hu;rw[dW] at f;rw[Eo] at c
    have:=g j Y Y
    rw[c,d] at this;intro s hs;rcases bA.1 hs with hs|hs
    .exact this s hs
    .rw[dM.1 hs];exact⟨(Gp b (aU a)).resolve_left e,J⟩
 intro s;cases e:aO n s with
 |none=>rw[Qo e];exact λ_ h=>by cases h
 |some v=>
  obtain A:=tT (n:=n) (x:=s) J;grind
def Qa{n:Nd}:∀{a:L Tm},(∀k∈a,lJ n k)->sI n a
 |[],_=>by unfold sI;trivial
 |k::a,h=>by unfold sI;exact⟨J,Qa J⟩
def agh{h:L Nd}{c b:S}{a:L Nat}(e:iI h n c b a=k)(f:cP k)(q:c=bB\/c=bD):bQ n b=1:=by
 have d:k≠0:=by rcases f with rfl|rfl<;>decide
 rcases q with rfl|rfl
 .have e:jr (de (N a=1/\bQ n b=1)) 0 a=k:=e;by_cases g:N a=1/\bQ n b=1
  .omega
  .rw[aA g] at e;exact absurd e.s d
 .have e:jr (sG a 2&&de (bQ n b=1)) 0 a=k:=e;by_cases g:bQ n b=1
  .exact g
  .rw[aA g,El] at e;exact absurd e.s d
def P9{h:L Nd}(x:∀s,lK n (aF n s)):∀(t:Tm),(∃k,fM h n (bw t)=.inr k)->dF h n (bw t)->mX n t->lK n (iu t)->lJ n t:=by
 refine Tm.E λD C w a c j B u=>?_
 intro⟨k,g⟩ d i e
 unfold bw at g d;unfold dF at d;unfold mX at i;let⟨y,l,o,p⟩:=wA g;let⟨z,r⟩:=wB l;unfold lJ;refine⟨e,Qa λk b=>?_⟩;obtain⟨m,f,rfl⟩:=gB b;let⟨v,t2⟩:=xp i.2.2.2.2 m f;refine u _ b ⟨_,r m f Y⟩ ((wJ _).1 d.2 _ (by rw[zI];grind)) t2 ?_;rw[v];unfold nC;split
 .grind
 .split
  .rename_i q;intro s hs;rcases bA.1 hs with hs|hs
   .exact e s hs
   .rw[dM.1 hs]
    have:=d.1
    unfold jT at this;rw[ae (.inr (.inr q))] at this;exact⟨this,agh o p J⟩
  .exact e
end
end Go.Proofs.YtehahhggpdhieaaGreatDoor
