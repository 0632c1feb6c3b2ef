/- Lemmas of the walk of EmitKinds are proved. Conditions: none. -/
import Derived.Test.YtehahhggpdhieaaGreatDoorX16
namespace Go.Proofs.YtehahhggpdhieaaGreatDoor
set_option maxRecDepth 100000
set_option maxHeartbeats 32000000
set_option linter.all false
section
open Tryz
variable {x:AV}{g:AV->HN->Prop}{d e t:HN}{c:L aS}{h s:Nat}
def kG{n:Nat}{l:L AV}(o:aH s h d x n l)(f:∀c,ar x c->e.f c=d.f c)(a:d.h<=e.h):aH s h e x n l:=by
 obtain⟨a,q|⟨c,g,q2,b⟩⟩:=o
 .exact⟨a,.inl q⟩
 .refine⟨a,.inr ⟨c,g,Y,?_⟩⟩;have a:=f c (by rcases b with⟨rfl,_⟩|⟨rfl,_⟩<;>rfl);rw[a];exact b
structure ki (U0 U:HN) (xb:Nat) (x:aP):Prop where
 I:xb<U.h
 ok:eG x.n
 ah:x.ah.1<=4294967296
 D:∃y1 y2 y3 y4,U.f xb=LL [.s x.n.n.1 x.n.n.2,y1,y2,y3,y4,II x.n.a,.s x.ah.1 x.ah.2,.s 0 0,II 0,.s x.p.1 x.p.2,.l x.t,II 0]/\dL tt U0 x.n [.s x.n.n.1 x.n.n.2,y1,y2,y3,y4,II x.n.a]
def ki.aR{U:HN}{a:Nat}{x:aP}(h:ki t U a x)(d:e.f a=U.f a)(c:U.h<=e.h):ki t e a x:=by
 let⟨f,g,i,j,a,b⟩:=h.D;exact⟨cW h.I c,h.ok,h.ah,f,g,i,j,d.t a,b⟩
def ki.ext{U a:HN}{b:Nat}{x:aP}(h:ki t U b x)(e:ai U.h U a):ki t a b x:=h.aR (e.2 _ h.I) e.1
def wP{c:Nat}{x:aP}(h:ki t d c x)(s:S)(e:s.1<=4294967296)(k:g (.s (nA x.ah s).1 (nA x.ah s).2) d):∃b a,aq Tryz.prog 57 [.p c 0,s] d b a/\g b a:=by
 let⟨_,_,_,_,b,a⟩:=h.D;have a:=h.ah;refine c0 func57 ?_;refine S1 b ?_;exact k
def aev{e:Nat}{x:aP}(h:ki t d e x){f:AV}(l:dS d f c)(j:N c<=4294967296)(n:∀a∈c,a.1.1<=4294967296)
  (k:∀a,ai d.h d a->g (.g [.s 0 0,II 0,.s (fu x c).1.1 (fu x c).1.2,.l (fu x c).2,II 0]) a):∃b a,aq Tryz.prog 140 [.p e 0,f] d b a/\g b a:=by
 let⟨_,_,_,_,m,b⟩:=h.D;have b:=h.I;refine cf VI func140 ?_;by_cases i:N c=0
 .have b:=ff i;subst b;have o:∀(a:HN) (e w:Nat),eF (.a e 2 w) f a=.ok (II 0) a:=λa e w=>by
   rcases l with⟨rfl,_⟩|⟨b,_,rfl,_⟩<;>rfl
  refine S2 m o ?_;exact k _ (ap (.refl _ _))
 .obtain⟨b,a,rfl,e⟩:∃b,b<d.h/\f=.a b 0 (N c) (.B 2)/\d.f b=LL (c.map cU).flatten:=by
   rcases l with⟨_,rfl⟩|h
   .exact absurd R i
   .exact h
  obtain⟨c0,s,rfl⟩:∃c0 s,c=c0++[s]:=⟨c.dropLast,c.getLast (λh=>i (by rw[h];rfl)),(ZK _).s⟩;have a:fu x (c0++[s])=(aW x s.1,s.2):=by unfold fu;rw[List.getLast?_concat]
  rw[a] at k;have f:=n s dp;have i:∀c:L aS,N (c.map cU).flatten=N c*2:=λc=>by
   induction c with
   |nil=>rfl
   |cons a c b=>rw[iL,ir,ay,b,bt];show 2+_=_;omega
  have b:((((c0++[s]).map cU).flatten).drop (N c0*2)).take 2=[.s s.1.1 s.1.2,.l s.2]:=by
   rw[cM,nh,Il (i c0)];rfl
  have a:=i (c0++[s]);rw[ay,su] at a;have a:N (c0++[s])=N c0+1:=by simp
  rw[a] at j;simp(disch:=omega)only[go_sem,a,aA (show¬N c0+1=0 by omega),BW,e,b];obtain⟨W,a⟩:∃W,W=((d.X (LL [.s 0 0,II 0,.s 0 0,false,II 0])).X (LL [.s 0 0,false])).put (d.h+1) (LL [s.1,s.2]):=⟨_,R⟩;have b:ai d.h d W:=by rw[a];exact cO (ap (ap (.refl _ _))) Y
  have e:W.f d.h=LL [.s 0 0,II 0,.s 0 0,false,II 0]:=by rw[a];simp(disch:=omega)only[go_sem]
  have i:W.f (d.h+1)=LL [s.1,s.2]:=by rw[a];simp(disch:=omega)only[go_sem]
  rw[<-a];refine bL (wP (h.ext b) s.1 f ?_);refine S2 e i ?_;exact k _ (cO b Y)
def US{c:Nat}{x:aP}(h:ki t d c x){v:Vr}(m:v.n.1<=4294967296)(o:v.p.1<=4294967296)
  (k:∀a,ai d.h d a->g (.g (fw x v).cells) a):∃b a,aq Tryz.prog 142 [.p c 0,v.cells] d b a/\g b a:=by
 let⟨_,_,_,_,b,a⟩:=h.D;have e:=h.I;refine cf VK func142 ?_;have a:v.cells=[.s v.n.1 v.n.2,II v.z,.s v.p.1 v.p.2,.l v.t,II v.a]:=R;have i:aI v.p.1 v.p.2 0 0=de (v.p=(0,0)):=bz v.p (0,0);rw[a];obtain⟨W,c⟩:∃W,W=(d.X (LL [v.n,v.z,v.p,v.t,v.a])).X (LL [.s 0 0,II 0,.s 0 0,false,II 0]):=⟨_,R⟩;have f:ai d.h d W:=by rw[c];exact ap (ap (.refl _ _))
 have a:W.h=d.h+2:=by rw[c];rfl
 have l:W.f d.h=LL [v.n,v.z,v.p,v.t,v.a]:=by rw[c];simp(disch:=omega)only[go_sem]
 have n:W.f (d.h+1)=LL [.s 0 0,II 0,.s 0 0,false,II 0]:=by rw[c];simp(disch:=omega)only[go_sem]
 have p:=h.ext f;have a:=(f.2 _ e).t b;by_cases q:v.p=(0,0)
 .rw[aB q] at i;have j:fw x v=⟨aW x v.n,v.z,x.p,x.t,0⟩:=ae q;rw[j] at k;refine S0 ?_;rw[<-c];refine S3 i l a ?_;have e:∀a b,ai d.h d ((W.put d.h a).put d.h b):=λa b=>cO (cO f Y) Y;refine al (wP (h.ext (e _ _)) v.n m ?_);refine S1 n ?_;exact k _ (cO (cO (cO (e _ _) Y) Y) Y)
 .rw[aA q] at i;have j:fw x v=⟨aW x v.n,v.z,aW x v.p,v.t,0⟩:=ac q;rw[j] at k;refine S0 ?_;rw[<-c];refine S2 i l ?_;have e:∀a,ai d.h d (W.put d.h a):=λa=>cO f Y;refine al (wP p v.p o ?_);refine S1 l ?_;refine al (wP (h.ext (e _)) v.n m ?_);refine S1 n ?_;exact k _ (cO (cO (cO (e _) Y) Y) Y)
def Tv{j:Nat}{lv:AV}{u:Nd}{y B:AV}{w:aa}{z m:AV}{F:Nat->Prop}(h:fK t j lv u y B w z m F d){v:Vr}(a:N w.ao<=1000000)
  (k:∀a b,fK t j lv u y B (tY v w) a m F b->cS t j d z m F b a m F->g (.t []) b):∃c b,aq Tryz.prog 141 [.p j 0,v.cells] d c b/\g c b:=by
 have D:=h.D;have b:=h.I;have H:=h.hL;refine cf VJ func141 ?_;have b:v.cells=[.s v.n.1 v.n.2,II v.z,.s v.p.1 v.p.2,.l v.t,II v.a]:=R;rw[b];refine S1 D ?_;obtain⟨X,e⟩:∃X,X=(((d.X (LL [v.n,v.z,v.p,v.t,v.a])).at_ (d.h+1+(1+1+1+1+1+1+1))).X (LL [v.n,v.z,v.p,v.t,v.a])).at_ (d.h+1+(1+1+1+1+1+1+1+1+1+1+1+1+1)):=⟨_,R⟩;have x:ai d.h d X:=by
  rw[e];exact⟨by show d.h<=d.h+1+(1+1+1+1+1+1+1+1+1+1+1+1+1);omega,λc b=>(ac (by show¬c=d.h+1+(1+1+1+1+1+1+1);omega)).t (ac Y)⟩
 have f:X.h=d.h+14:=by rw[e];rfl
 have l:X.f (d.h+1+(1+1+1+1+1+1+1))=LL v.cells:=by rw[e];exact ae R
 rw[<-e];clear e;have n:=h.X x;let⟨a,e,i,I,_,_,⟨_,_,r⟩,f,q,o⟩:=aaX (w:=56) (v:=v) n.loc (y:=.a (d.h+1+(1+1+1+1+1+1+1)) 0 1 (.k 1)) (.inr ⟨_,0,_,false,_,R,l,Y,ak _,R,R⟩) Y Y;rw[i];have l:=(f j Y h.fl).t n.D;have i:dZ a=some [a]:=by rw[r];rfl
 refine S2 l i ?_;obtain⟨p,i⟩:∃p,p=e.put j (LL [lv,u.n,y,B,a,m,u.a,w.p]):=⟨_,R⟩;have K:p.f j=LL [lv,u.n,y,B,a,m,u.a,w.p]:=by rw[i];exact ae R
 have s:∀c,c≠j->p.f c=e.f c:=λc b=>by rw[i];exact ac b
 have l:p.h=e.h:=by rw[i];rfl
 rw[<-i];clear i;have l:∀c,ar a c->c=X.h:=λc b=>by rw[r] at b;exact(show X.h=c from b).s
 have S:cS t j d z m F p a m F:=⟨Y,λc i r _ C=>(s c r).t ((f c Y C).t (x.2 c i)),λc i r=>by
  rw[s c (by omega)]
  have:=q c Y r
  rw[x.2 c i] at this;exact this,λ_ _ h=>h,λc i b=>absurd (l c b) Y,λ_ _ h=>h,λc i=>by
  by_cases e:c=j
  .rw[e,D];exact .inr (eM.two λ_ h=>by cases h)
  .have:=o c Y
   rw[x.2 c i] at this;rw[s c e];exact this⟩
 have x:cS t j X z m F p a m F:=⟨Y,λc i r _ C=>(s c r).t (f c i C),λc i r=>by
  rw[s c (by omega)];exact q c i r,λ_ _ h=>h,λc i b=>absurd (l c b) Y,λ_ _ h=>h,λc i=>by
  by_cases e:c=j
  .rw[e,n.D];exact .inr (eM.two λ_ h=>by cases h)
  .rw[s c e];exact o c i⟩
 let⟨i,o,r⟩:=n.own;refine k a p ⟨K,H,Y,I.aR (λc b=>s c (om (l c b))) Y,⟨i,kG o (λc b=>(s c (λe=>h.fe (e▸b))).t (f c (cz o b).2 (h.ne c b))) Y,Mk x n.hF r⟩,λc q=>(n.hF c q).step x,h.en,h.fe,λb=>om (l _ b),λc b a=>by have:=l c a;have:=(cz o b).2;omega,⟨om n.ext.1,λc b=>(n.ext.2 c b).M (x.row c (om n.ext.1) b)⟩⟩ S
variable {z:L AV}
def Rg{f:Nat}{lv:AV}{y:Nd}{O P:AV}{B:aa}{l p:AV}{F:Nat->Prop}(h:fK t f lv y O P B l p F d){s:S}{e:Tr}{G:Nat->Prop}(W:bn G d e z)(V:∀c,G c->km f p l d.h c)(a:N B.r<=1000000)
  (k:∀b a,fK t f lv y O P (mj s e B) l b (λc=>F c\/G c) a->cS t f d l p (λc=>F c\/G c) a l b (λc=>F c\/G c)->g (.t []) a):∃b a,aq Tryz.prog 56 [.p f 0,s,z] d b a/\g b a:=by
 have q:=h.D;have a:=h.I;have Z:=h.hL;obtain⟨v,w,D,H,I,rfl⟩:=cJ W;refine cf Wo func56 ?_;refine S1 q ?_;obtain⟨X,a⟩:∃X,X=(((d.X (LL [v,w,D,H,I])).at_ (d.h+1+(1+1+1+1+1+1+1+1+1))).X (LL [s,v,w,D,H,I,II 0])).at_ (d.h+1+(1+1+1+1+1+1+1+1+1+1+1+1+1+1+1)):=⟨_,R⟩;have K:ai d.h d X:=by
  rw[a];exact⟨by show d.h<=d.h+1+(1+1+1+1+1+1+1+1+1+1+1+1+1+1+1);omega,λc b=>(ac (by show¬c=d.h+1+(1+1+1+1+1+1+1+1+1);omega)).t (ac Y)⟩
 have i:X.h=d.h+16:=by rw[a];rfl
 have n:X.f (d.h+1+(1+1+1+1+1+1+1+1+1))=LL [s,v,w,D,H,I,II 0]:=by rw[a];exact ae R
 rw[<-a];clear a;have m:=h.X K;let⟨x,o,r⟩:=m.own;have a:=(lS r).1;let⟨i,j,o2,_,a⟩:=oS (s:=7) (w:=96) (m:=1) (k:=[s,v,w,D,H,I,II 0]) dc o (y:=.a (d.h+1+(1+1+1+1+1+1+1+1+1)) 0 1 (.k 1)) (.inr ⟨_,0,_,false,_,R,n,Y,ak _,R,R⟩) dc Y Y;rw[j];have j:=(a f Y h.fe).t m.D;refine S1 j ?_;obtain⟨n,j⟩:∃n,n=i.put f (LL [lv,y.n,O,P,l,.a X.h 0 (N x+1) (.B 7),y.a,B.p]):=⟨_,R⟩;have yf:n.f f=LL [lv,y.n,O,P,l,.a X.h 0 (N x+1) (.B 7),y.a,B.p]:=by rw[j];exact ae R
 have u:∀c,c≠f->n.f c=i.f c:=λc b=>by rw[j];exact ac b
 have C:n.h=i.h:=by rw[j];rfl
 rw[<-j];clear j;have j:∀c,ar (.a X.h 0 (N x+1) (.B 7)) c->c=X.h:=λc b=>(show X.h=c from b).s;have C:∀c,ar p c->t.h<=c:=λc b=>(cz o b).1;have S:cS t f d l p (λc=>F c\/G c) n l (.a X.h 0 (N x+1) (.B 7)) (λc=>F c\/G c):=⟨Y,λc i o U _=>(u c o).t ((a c Y U).t (K.2 c i)),λc i o=>.inl ((u c Y).t ((a c Y (λb=>om (C c b))).t (K.2 c i))),λc i b=>absurd (j c b) Y,λ_ _ h=>h,λ_ _ h=>h,λc i=>by
  by_cases e:c=f
  .rw[e,q];exact .inr (eM.two λ_ h=>by cases h)
  .by_cases q:ar p c
   .exact .inr (h.lA q)
   .exact .inl ((u c e).t ((a c Y q).t (K.2 c i)))⟩
 have K:cS t f X l p (λc=>F c\/G c) n l (.a X.h 0 (N x+1) (.B 7)) (λc=>F c\/G c):=⟨Y,λc i o U _=>(u c o).t (a c i U),λc i o=>.inl ((u c Y).t (a c i (λb=>om (C c b)))),λc i b=>absurd (j c b) Y,λ_ _ h=>h,λ_ _ h=>h,λc i=>by
  by_cases e:c=f
  .rw[e,m.D];exact .inr (eM.two λ_ h=>by cases h)
  .by_cases q:ar p c
   .exact .inr (m.lA q)
   .exact .inl ((u c e).t (a c i q))⟩
 have i:=m.loc;have l:=ahO S V W;refine k _ n ⟨yf,Z,Y,i.aR (λc b=>(u c (λe=>h.fl (e▸b))).t (a c (i.lt b) (λa=>h.ne c a b))) Y,⟨x++[[.s s.1 s.2,.s v.1 v.2,.s w.1 w.2,II D,II H,I,II 0]],?_,?_⟩,λc q=>(q.elim (λq=>(m.hF c q).step K) λq=>(V c q).step S),.inr (by show B.r++[_]≠[];simp),λb=>om (j _ b),h.fl,λc b a=>by have:=j c b;have:=i.lt a;omega,⟨om m.ext.1,λc b=>(m.ext.2 c b).M (K.row c (om m.ext.1) b)⟩⟩ S
 .rw[ay,su,nh,Ir];exact kG o2 (λc b=>u c (om (j c b))) Y
 .exact DP (e:=⟨s,e,0⟩) ⟨_,R,gq (λ_ _ _=>R) (ak _) (λ_ q=>.inr q) _ _ l⟩ (pp (λ_ _ _=>R) (ak _) (λ_ q=>.inl q) (Mk K m.hF r))
end
section
variable {d e t:HN}{m:L (L AV)}{l:L Nd}{c:L aS}{a i:Nat}
@[go_sem] def amc{a:FN}:au a (.const (.string ⟨#[46]⟩))=.s 1 46:=(rfl)
def lz(a st':aa):Prop:=a.p<=st'.p/\N a.ao<=N st'.ao/\N a.r<=N st'.r
def rM(a:aa):Prop:=a.p<=1000000/\N a.ao<=1000000/\N a.r<=1000000
def lz.refl(a:aa):lz a a:=⟨ak _,ak _,ak _⟩
def lz.M{a b c:aa}(h:lz a b)(g:lz b c):lz a c:=⟨bC h.1 g.1,bC h.2.1 g.2.1,bC h.2.2 g.2.2⟩
def rM.of{a b:aa}(h:rM b)(g:lz a b):rM a:=⟨bC g.1 h.1,bC g.2.1 h.2.1,bC g.2.2 h.2.2⟩
def R9{v:Vr}{a:aa}:lz a (tY v a):=⟨ak _,by show _<=N (a.ao++[v]);rw[ay];omega,ak _⟩
def KJ{s:S}{e:Tr}{a:aa}:lz a (mj s e a):=⟨ak _,ak _,by show _<=N (a.r++[_]);rw[ay];omega⟩
def CW{y:aP}:∀{vs:L Vr} {b:L Tr} {a:aa},lz a (fT y vs b a)
 |[],_,a=>.refl a
 |v::vs,b,a=>(R9.M KJ).M (CW (vs:=vs))
def AI{y:aP}:∀{vs:L Vr} {a:aa},lz a (jv y vs a)
 |[],a=>.refl a
 |v::vs,a=>R9.M (AI (vs:=vs))
def xN(G:aP->aa->aa):Prop:=∀x a,lz a (G x a)
def aeg{a:aa}:lz a {a with p:=a.p+1}:=⟨iC _,ak _,ak _⟩
mutual
def Ro{G:aP->aa->aa}(d:xN G){l:L Nd}{x:aP}:∀(t:Tm) (b:aa),lz b (cV G l x t b).2
 |.mk op g f a c any e,b=>by
  unfold cV;split
  .exact(aeg.M (Ax d e _)).M ((CW.M AI).M (d _ _))
  .exact Ax d e b
def Ax{G:aP->aa->aa}(c:xN G){l:L Nd}{x:aP}:∀(b:L Tm) (a:aa),lz a (bH G l x b a).2
 |[],a=>by unfold bH;exact .refl a
 |k::b,a=>by unfold bH;exact(Ro c k a).M (Ax c b _)
end
def JT{G:aP->aa->aa}(c:xN G){l:L Nd}{x:aP}:∀(b:L aX) (a:aa),lz a (iH G l x b a)
 |[],a=>.refl a
 |q::b,a=>((Ro c _ a).M KJ).M (JT c b _)
def WZ{l:L Nd}:∀d,xN (gJ l d)
 |0=>λ_ a=>.refl a
 |d+1=>λx a=>JT (WZ d) _ a
def JZ{G:aP->aa->aa}{l:L Nd}{x:aP}(k:Tm):∀(a:L Tm) (b:aa),bH G l x (a++[k]) b=((bH G l x a b).1++[(cV G l x k (bH G l x a b).2).1],(cV G l x k (bH G l x a b).2).2)
 |[],b=>by
  rw[dH];unfold bH;unfold bH;rfl
 |j::a,b=>by
  rw[fc]
  conv=>lhs;unfold bH
  rw[JZ k a]
  conv=>rhs;unfold bH
  rfl
def Ru{G:aP->aa->aa}{x:aP}(a:aa):bH G l x [] a=([],a):=by unfold bH;rfl
def Rt{G:aP->aa->aa}{x:aP}(k:Tm)(b:L Tm)(a:aa):bH G l x (k::b) a=((cV G l x k a).1::(bH G l x b (cV G l x k a).2).1,(bH G l x b (cV G l x k a).2).2):=by
 conv=>lhs;unfold bH
def J0{G:aP->aa->aa}{l:L Nd}{x:aP}(b:L Tm):∀(a:L Tm) (c:aa),bH G l x (a++b) c=((bH G l x a c).1++(bH G l x b (bH G l x a c).2).1,(bH G l x b (bH G l x a c).2).2)
 |[],c=>by
  rw[dH,Ru]
  rfl
 |j::a,c=>by
  rw[fc,Rt,J0 b a,Rt]
  rfl
def FP{G:aP->aa->aa}{l:L Nd}{x:aP}:∀(a:L Tm) (b:aa),N (bH G l x a b).1=N a
 |[],_=>by unfold bH;rfl
 |k::a,b=>by unfold bH;rw[bt,bt,FP]
mutual
def vr(h:L Nd):Tm->Prop
 |.mk op b _ _ c _ a=>b.1<=4294967296/\N a<=1073741824/\(N c<=4294967296/\∀t∈c,t.1.1<=4294967296)/\(op=bK->iP h b (N a)=true)/\Dw h a
def Dw(h:L Nd):L Tm->Prop
 |[]=>True
 |k::a=>vr h k/\Dw h a
end
def LU{h:L Nd}:∀a:L Tm,Dw h a↔∀k∈a,vr h k
 |[]=>⟨λ_ _ h=>(by cases h),λ_=>by unfold Dw;trivial⟩
 |k::a=>by
  unfold Dw;rw[LU a];exact⟨λh x hx=>by rcases bY.1 hx with rfl|hx;exact h.1;exact h.2 x hx,λh=>⟨h k gN,λx hx=>h x (li _ hx)⟩⟩
structure OJ (l:List Nd):Prop where
 ok:ow l
 at_:∀i (h:i<N l),∀q∈l[i].r,(∃c,fC l[i] q.e=.inr c)/\vr (l.take i) (dr l[i] q.n q.e)/\q.n.1<=4294967296
 vs:∀i (h:i<N l),l[i].o≠[]/\∀v∈am l[i],v.n.1<=4294967296/\v.p.1<=4294967296
def Sx{a:Type}{p:a->Bool}:∀{l:L a} {i m:Nat} {d:a},(l.take i).find? p=some d->∃j,j<i/\∃a:j<N l,dD p l m=some (m+j)/\l.find? p=some l[j]/\d=l[j]
 |[],i,m,d,h=>by simp at h
 |a::l,0,m,d,h=>by simp at h
 |a::l,i+1,m,d,h=>by
  rw[rG] at h;by_cases e:p a=true
  .rw[En e] at h;cases h;exact⟨0,jm _,jm _,by unfold dD;rw[ae e];rfl,En e,R⟩
  .rw[zO e] at h;let⟨j,_,a,b,c,d⟩:=Sx (m:=m+1) h;refine⟨j+1,Y,by simpa using a,?_,?_,by simpa using d⟩
   .unfold dD;rw[ac e,b];congr 1;omega
   .rw[zO e,c];rfl
def adO{m:Nat}{a:S}(h:iP (l.take i) a m=true):∃j,j<i/\∃o:j<N l,dD (λn:Nd=>decide (n.n=a)) l 0=some j/\fH l a=l[j]/\l[j].o.length=1/\l[j].ins.length=m:=by
 unfold iP at h;split at h
 .rename_i d k;let⟨j,b,c,e,f,g⟩:=Sx (m:=0) k;have h:=eL h;rw[g] at h;refine⟨j,b,c,by rw[e,gg],?_,h.1,h.2⟩;unfold fH;rw[f]
 .cases h
def jB(b:Nat)(a d:AV)(F:Nat->Prop)(m c:Nat):Prop:=km b a d m c/\¬F c
def jB.step{fb:Nat}{U:HN}{g f b a:AV}{F d:Nat->Prop}(s:cS t fb U g f F e b a d){c:Nat}(q:jB fb f g F U.h c):jB fb a b d e.h c:=⟨q.1.step s,λh=>q.2 (s.f c q.1.1 h)⟩
def jB.more{b:Nat}{a d:AV}{F:Nat->Prop}{m e c:Nat}(h:m<=e)(q:jB b a d F m c):jB b a d F e c:=⟨⟨cW q.1.1 h,q.1.2⟩,q.2⟩
def fK.A8{b:Nat}{lv:AV}{j:Nd}{i l:AV}{m:aa}{f a:AV}{F:Nat->Prop}(h:fK t b lv j i l m f a F d)(k:∀c,c<d.h->(c<t.h\/¬jB b a f F d.h c)->e.f c=d.f c)(n:d.h<=e.h):fK t b lv j i l m f a F e:=h.fv (λc a q=>k c a (by
 rcases q with q|q|q|q|q
 .exact .inl q
 .exact .inr λg=>g.1.2.1 q
 .exact .inr λg=>g.1.2.2.1 q
 .exact .inr λg=>g.1.2.2.2 q
 .exact .inr λg=>g.2 q)) n
def adU(b:∀l∈m,N l=5)(c:i<N m):(m.flatten.drop (i*5)).take 5=m[i]:=by
 induction m generalizing i with
 |nil=>cases c
 |cons a m e=>
  have d:=b a gN;cases i with
  |zero=>
   rw[lq,ng,ir,Et d];rfl
  |succ i=>
   rw[ir,show(i+1)*5=N a+i*5 by omega,<-oH,Il R,e (λl a=>b l (li _ a)) (by simpa using c)]
   rfl
def adV(b:∀l∈m,N l=5):N m.flatten=N m*5:=by
 induction m with
 |nil=>rfl
 |cons a m c=>rw[ir,ay,b a gN,c λl a=>b l (li _ a),bt];omega
def cS.Pc{i:Nat}{j g b a:AV}{F f G:Nat->Prop}(s:cS t i d j g F e b a f)(h:∀c,G c->d.h<=c):cS t i d j g F e b a (λc=>f c\/G c):=
 ⟨s.h,s.same,s.row,s.e,s.l,λc a q=>q.elim (s.f c a) λq=>absurd (h c q) Y,s.ck⟩
def vX.mR{k:Nat}{g j:AV}{op nm:S}{N:Nat}{b:Bool}{ks:L Tm}{f e:AV}(h:vX k g j d (.mk op nm N a c b ks) [sV op,sV nm,N,a,.e,f,e,b])(o:i<ks.length):
  ∃(f:Nat) (b:L (L AV)),e=.a f 0 ks.length (.B 8)/\f<d.h/\km k g j d.h f/\d.f f=LL b.flatten/\∃e:i<b.length,(b.flatten.drop (i*8)).take 8=b[i]/\b.flatten.length=ks.length*8/\vX k g j d ks[i] b[i]:=by
 let⟨_,_,rt,g,n⟩:=h;unfold dO at rt;let⟨_,_,b,m,j,_,_,g,l⟩:=rt;cases j;have j:=pQ g;rcases l with⟨_,rfl,_⟩|⟨f,l,q,r,s,l,t⟩
 .cases o
 let⟨l,m,e,_,_,_,p,_⟩:=DQ g i o;have g:=RT j.2.1;rw[j.1] at g;refine⟨f,b,by rw[s,j.1],r,n f Y q,t,e,RS j.2.1 e,g,l,m,p,Y,λc b q2=>n c Y Y⟩
structure tC (l:List Nd) (ls:List (List AV)) (lv:AV) (U0:HN) (HW:List AV):Prop where
 jG:OJ l
 rv:aK 6 U0 lv ls
 rl:fZ tt U0 l ls
 tb:U0.f 0=.E true HW
 h0:0<U0.h
 itoa:∀(U:HN) (v:Nat) (Q:AV->HN->Prop),v<=1000001->0<U.h->U.f 0=.E true HW->(∀U',ai U.h U U'->Q (.s (oT (hZ 20 v)).1 (oT (hZ 20 v)).2) U')->∃v' U',aq Tryz.prog 139 [II v] U v' U'/\Q v' U'
def Cc(l:L Nd)(lv:AV)(b:HN)(d:Nat)(o:Nd)(n p:AV)(G:aP->aa->aa)(j:Nat):Prop:=∀(x:aP) (a:j<N l),x.n=l[j]->∀(f:HN) (k:Nat) (i:aa) (h g:AV) (F:Nat->Prop) (Q:AV->HN->Prop),
 fK b d lv o n p i h g F f->ki b f k x->km d g h f.h k->rM (G x i)->(∀e c m a,fK b d lv o n p (G x i) e c m a->cS b d f h g F a e c m->Q (.t []) a)->
 ∃c a,aq Tryz.prog 30 [.p d 0,.p k 0] f c a/\Q c a
def EI(f:Nat)(l:L Nd)(lv:AV)(b:HN)(e:Nat)(o:Nd)(n p:AV)(G:aP->aa->aa)(x:aP)(t:Tm):Prop:=∀(h:HN) (k:Nat) (z:L AV) (j:aa) (i c:AV) (F:Nat->Prop) (Q:AV->HN->Prop),
 fK b e lv o n p j i c F h->ki b h k x->km e c i h.h k->vX e c i h t z->rM (cV G l x t j).2->
 (∀q g d m a,fK b e lv o n p (cV G l x t j).2 g d m a->cS b e h i c F a g d m->bn (λc=>h.h<=c/\km e d g a.h c) a (cV G l x t j).1 q->Q (.g q) a)->
 ∃c a,aq Tryz.prog f [.p e 0,.p k 0,z] h c a/\Q c a
def tC.HW{lv:AV}{a:L AV}(C:tC l m lv t a)(x:tB t d):d.f 0=.E true a/\0<d.h:=by
 have:=x.1
 have a:=C.h0;refine⟨?_,Y⟩;rcases x.2 0 a with h|⟨r,a,b⟩
 .exact h.t C.tb
 .rw[C.tb] at a;cases a
end
section
variable {d t:HN}{m:L (L AV)}{l:L Nd}{c:L aS}{a i:Nat}
def JI:∀f n,N (hZ f n)<=f
 |0,_=>by unfold hZ;simp
 |f+1,n=>by
  unfold hZ;split
  .simp
  .rw[ay,su];have:=JI f (n/10);omega
def aaD(k:Nat):(jo k).1<=21:=by
 show(hZ 20 k).length+1<=21
 have:=JI 20 k
 omega
def ahu{b:Nat}{lv:AV}{f:Nd}{j k:AV}{n:aa}{e a:AV}{F:Nat->Prop}(h:fK t b lv f j k n e a F d)(p:Nat):
  fK t b lv f j k {n with p:=p} e a F (d.put b (LL [lv,f.n,j,k,e,a,f.a,p]))/\cS t b d e a F (d.put b (LL [lv,f.n,j,k,e,a,f.a,p])) e a F:=by
 obtain⟨i,m⟩:∃i,i=d.put b (LL [lv,f.n,j,k,e,a,f.a,p]):=⟨_,R⟩;have q:i.f b=LL [lv,f.n,j,k,e,a,f.a,p]:=by rw[m];exact ae R
 have l:∀c,c≠b->i.f c=d.f c:=λc g=>by rw[m];exact ac g
 have o:i.h=d.h:=by rw[m];rfl
 rw[<-m];have m:=h.hL;have S:cS t b d e a F i e a F:=⟨Y,λc _ a _ _=>l c a,λc _ a=>.inl (l c Y),λ_ _ h=>h,λ_ _ h=>h,λ_ _ h=>h,λc _=>by
  by_cases e:c=b
  .rw[e,h.D];exact .inr (eM.two λ_ h=>by cases h)
  .exact .inl (l c e)⟩
 let⟨a,o,r⟩:=h.own;refine⟨⟨q,m,om h.I,h.loc.aR (λc g=>l c (λe=>h.fl (e▸g))) Y,⟨a,kG o (λc g=>l c (λe=>h.fe (e▸g))) Y,Mk S h.hF r⟩,λc q=>(h.hF c q).step S,h.en,h.fe,h.fl,h.ne,⟨om h.ext.1,λc g=>(h.ext.2 c g).M (S.row c (om h.ext.1) g)⟩⟩,S⟩
def abr{lv:AV}{z:L AV}(C:tC l m lv t z){B:Nat}{n0:Nd}{iy oy:AV}{G:aP->aa->aa}(gG:xN G){x:aP}(hG:∀j,j<i->Cc l lv t B n0 iy oy G j)
  {nm:S} {l6:Nat} {Z:Bool} {ks:L Tm} (ok:vr (l.take i) (.mk bK nm l6 a c Z ks)) (ih:∀k∈ks,EI 58 l lv t B n0 iy oy G x k):EI 97 l lv t B n0 iy oy G x (.mk bK nm l6 a c Z ks):=by
 intro o xb z b ly ey F Q hf hx l2 ht sm k;unfold vr at ok;let⟨_,_,⟨s6,s7⟩,z,v6⟩:=ok;let⟨j,q8,hj,q6,l0,m4,v4⟩:=adO (z R);have z:cV G l x (.mk bK nm l6 a c Z ks) b=rQ G l x (b.p+1) nm c (bH G l x ks {b with p:=b.p+1}).1 (bH G l x ks {b with p:=b.p+1}).2:=by
  conv=>lhs;unfold cV
  rw[ae R]
 rw[z] at k sm;have z:=ht;let⟨lo,hi,rt,v2,u9⟩:=z;unfold dO at rt;obtain⟨cy,ky,r9,h9,rfl,o6,j4,i3,g6⟩:=rt;have hb:=hf.D;have z:=hf.I;have z:lz {b with p:=b.p+1} (rQ G l x (b.p+1) nm c (bH G l x ks {b with p:=b.p+1}).1 (bH G l x ks {b with p:=b.p+1}).2).2:=(Ax gG ks _).M ((CW.M AI).M (gG _ _));have oF:b.p+1<=1000000:=(sm.of z).1;let⟨q7,rj⟩:=ph C.rl j hj;obtain⟨bl,b0,a1,z,z,rfl,j3,j2,z,g9⟩:=C.rv.at q7;have s9:=rj;obtain⟨y1,y2,y3,y4,z,-⟩:=s9;have r4:sV l[j].n=.s l[j].n.1 l[j].n.2:=R;rw[z,r4] at g9 rj;have i0:=C.jG.ok.2 _ (aU hj);refine cf WC Tryz.func97 ?_;obtain⟨y,hy⟩:∃y:aP,y=⟨fH l nm,jo (b.p+1),(fu x c).1,(fu x c).2⟩:=⟨_,R⟩;have yn:y.n=l[j]:=by rw[hy];exact l0
 obtain⟨z,i7⟩:∃z:FN->HN->Prop,∀p P,z p P↔∃n,(p 0=.p B 0/\p 1=.p xb 0/\p 5=.p o.h 0/\p 6=.p (o.h+1) 0/\p 8=.p n 0/\p 9=.e)/\P.f o.h=LL [sV bK,sV nm,l6,a,.e,cy,ky,Z]/\
  P.f (o.h+1)=LL [.s 0 0,.s 0 0,II 0,II 0,.e]/\ki t P n y/\fK t B (.a bl b0 (N m) a1) n0 iy oy {b with p:=b.p+1} ly ey F P/\cS t B o ly ey F P ly ey F/\o.h+1<n/\n<P.h:=⟨_,λ_ _=>gZ⟩
 refine iB (M:=z) 5 _ _ _ ?_ ?_
 rotate_left
 .simp(disch:=omega)only[go_sem,sV,hb];obtain⟨W,eW⟩:∃W,W=(o.X (LL [bK,nm,l6,a,.e,cy,ky,Z])).X (LL [.s 0 0,.s 0 0,II 0,II 0,.e]):=⟨_,R⟩;have EW:ai o.h o W:=by rw[eW];exact ap (ap (.refl _ _))
  have nW:W.h=o.h+2:=by rw[eW];rfl
  have w0:W.f o.h=LL [bK,nm,l6,a,.e,cy,ky,Z]:=by rw[eW];simp(disch:=omega)only[go_sem]
  have Z:W.f (o.h+1)=LL [.s 0 0,.s 0 0,II 0,II 0,.e]:=by rw[eW];simp(disch:=omega)only[go_sem]
  rw[<-eW];clear eW;have z:=hf.X EW;have v7:=z.D;refine bL (LP C.jG.ok.1 (C.rv.rel z.ext) (Xo z.ext C.rl) nm λs x2=>?_);rw[q6];have n2:=x2.1;have v0:=(x2.2 _ Y).t w0;have v1:=(x2.2 _ Y).t Z;have h2:=z.X x2;have Z:=h2.D;have z:j<64:=by have:=C.jG.ok.1;omega
  let⟨h3,s3⟩:=ahu h2 (b.p+1);have z:=hf.hL;let⟨_,z⟩:=(h2.ext.2 bl j2).E j3;simp(disch:=omega)only[go_sem,gE,Z,bF,z,g9];obtain⟨X,z⟩:∃X,X=s.put B (LL [.a bl b0 (N m) a1,n0.n,iy,oy,ly,ey,n0.a,II (b.p+1)]):=⟨_,R⟩;rw[<-z] at h3 s3;simp(disch:=omega)only[<-z];have Z:X.h=s.h:=by rw[z];rfl
  have kX:∀c,c≠B->X.f c=s.f c:=λc hc=>by rw[z];exact ac hc
  clear z;obtain⟨XA,Z⟩:∃XA,XA=X.at_ (s.h+(1+1+1+1+1+1+1+1+1+1+1+1+1+1+1+1+1+1+1+1)):=⟨_,R⟩;have z:ai X.h X XA:=by rw[Z];exact⟨by show X.h<=s.h+_;omega,λ_ _=>R⟩
  have v5:XA.h=s.h+20:=by rw[Z];rfl
  simp(disch:=omega)only[<-Z];clear Z;have u0:=(z.2 o.h Y).t ((kX o.h Y).t v0);have u1:=(z.2 (o.h+1) Y).t ((kX (o.h+1) Y).t v1);have h4:=h3.X z;have p7:=h4.D;let⟨Z,m0⟩:=(h4.ext.2 bl j2).E j3;let⟨u5,Z⟩:=C.HW h4.ext;have S4:cS t B o ly ey F XA ly ey F:=((cS.ext EW).M (cS.ext x2)).M (s3.M (cS.ext z));refine bL (C.itoa XA (b.p+1) _ Y Z u5 λk4 x4=>?_);have Z:=h4.X x4;have p3:=Z.D;let⟨_,z⟩:=(Z.ext.2 bl j2).E j3;have n4:=x4.1;have t0:=(x4.2 _ Y).t u0;have S5:cS t B o ly ey F k4 ly ey F:=S4.M (cS.ext x4);have dl:=JI 20 (b.p+1);have u7:(oT (hZ 20 (b.p+1))).1<=20:=dl;refine S1 t0 ?_;have r5:ki t k4 xb x:=hx.aR (l2.same S5) S5.h;refine bL (aev r5 (uQ o6 S5.ck S5.h) s6 s7 λc9 x5=>?_);have h6:=Z.X x5;have p4:=h6.D;let⟨_,Z⟩:=(h6.ext.2 bl j2).E j3;have n5:=x5.1;have o4:=(x5.2 _ Y).t t0;have S6:cS t B o ly ey F c9 ly ey F:=S5.M (cS.ext x5);simp(disch:=omega)only[go_sem,p7,p3,p4,m0,z,Z,g9,u0,t0,o4];have u4:=(x5.2 (o.h+1) Y).t ((x4.2 (o.h+1) Y).t u1);generalize b3:s.h+(1+1+1+1+1+1+1+1+1+1+1+1+1+1+1+1+1+1)=n at*;obtain⟨Z,z⟩:∃Z,Z=(((c9.at_ n).X (LL (dz [.s l[j].n.1 l[j].n.2,y1,y2,y3,y4,II l[j].a,.s ((oT (hZ 20 (b.p+1))).1+1) (xg (oT (hZ 20 (b.p+1))).1 (oT (hZ 20 (b.p+1))).2 46),.s 0 0,II 0,.s 0 0,false,II 0] 7 [.s 0 0,II 0,.s (fu x c).1.1 (fu x c).1.2,.l (fu x c).2,II 0]))).at_ c9.h):=⟨_,R⟩;have kZ:∀c,c≠n->Z.f c=c9.f c:=λc hc=>by rw[z];exact ac hc
  have fZ:Z.f n=LL [y.n.n,y1,y2,y3,y4,y.n.a,y.ah,.s 0 0,II 0,y.p,y.t,II 0]:=by
   rw[z,yn,hy];exact ae R
  have nZ:Z.h=c9.h:=by rw[z];rfl
  rw[<-z];clear z;let⟨fy,Fy⟩:=h2.fresh (c:=n) (m:=c9.h) Y Y;have z:=h2.ext.1;refine(i7 _ _).2 ⟨n,dy,(kZ _ Y).t o4,(kZ _ Y).t u4,⟨Y,by rw[yn];exact i0,by rw[hy];have:=aaD (b.p+1);show(jo (b.p+1)).1<=_;omega,y1,y2,y3,y4,fZ,by rw[yn];exact rj⟩,h6.fv (λc hc q=>kZ c λe=>?_) Y,S6.fv (λc hc=>kZ c Y) Y,Y,Y⟩;subst e;rcases q with q|q|q|q|q
  .omega
  .exact fy.2.1 q
  .exact fy.2.2.1 q
  .exact fy.2.2.2 q
  .exact Fy q
 have m9:∀c,o.h<=c->∀h9,c<h9->jB B ey ly F h9 c:=λc h1 h9 h2=>hf.fresh h1 h2;obtain⟨z,i9⟩:∃z:FN->HN->Prop,∀p P,z p P↔∃n kx a4 f d K,(p 0=.p B 0/\p 1=.p xb 0/\p 5=.p o.h 0/\p 6=.p (o.h+1) 0/\p 8=.p n 0/\p 9=kx)/\
  P.f (o.h+1)=LL [.s 0 0,.s 0 0,II 0,II 0,.e]/\ki t P n y/\fK t B (.a bl b0 (N m) a1) n0 iy oy (bH G l x ks {b with p:=b.p+1}).2 f d K P/\cS t B o ly ey F P f d K/\(o.h+1<n/\n<P.h)/\
  aH 5 (o.h+2) P kx (N a4) a4.flatten/\cw (λc=>n<c/\km B d f P.h c/\¬ar kx c) P (bH G l x ks {b with p:=b.p+1}).1 a4/\(∀c,(c=o.h+1\/c=n\/ar kx c)->jB B d f K P.h c)/\¬ar kx n:=⟨_,λ_ _=>gZ⟩
 intro p P m3;simp(disch:=omega)only[lT,lU];refine iB (M:=z) 1 _ _ _ ?_ ?_
 rotate_left
 .let⟨n,⟨p0,Uu,p5,p6,p8,p9⟩,f0,f1,O,D,S1,c8,a3⟩:=(i7 _ _).1 m3;have s0:∀(b5:HN) (e w:Nat),eF (.a e 8 w) ky b5=mr (N ks) b5:=λb5 e w=>by
   rcases g6 with⟨rfl,rfl,_⟩|⟨kb,_,_,_,rfl,_⟩
   .rfl
   .show mr (N r9) b5=_;rw[(pQ i3).1]
  clear g6 i3 j4 i7 m3;refine S7 Uu p5 p6 p8 p9 f0 s0 ?_;obtain⟨I,hI⟩:∃I:Nat->FN->HN->Prop,∀h9 p r,I h9 p r↔∃i kx a4 f d K,h9=N ks-i/\i<=N ks/\(p 0=.p B 0/\p 1=.p xb 0/\p 5=.p o.h 0/\p 6=.p (o.h+1) 0/\p 8=.p n 0/\p 9=kx/\p 51=ky/\p 52=II (N ks)/\p 53=II i)/\
   r.f (o.h+1)=LL [.s 0 0,.s 0 0,II 0,II 0,.e]/\ki t r n y/\fK t B (.a bl b0 (N m) a1) n0 iy oy (bH G l x (ks.take i) {b with p:=b.p+1}).2 f d K r/\cS t B o ly ey F r f d K/\n<r.h/\
   aH 5 (o.h+2) r kx (N a4) a4.flatten/\cw (λc=>n<c/\km B d f r.h c/\¬ar kx c) r (bH G l x (ks.take i) {b with p:=b.p+1}).1 a4/\(∀c,(c=o.h+1\/c=n\/ar kx c)->jB B d f K r.h c)/\¬ar kx n:=⟨_,λ_ _ _=>gZ⟩
  have e0:bH G l x [] {b with p:=b.p+1}=([],{b with p:=b.p+1}):=by unfold bH;rfl
  have s5:=S1.h;refine aT I (N ks) ((hI _ _ _).2 ⟨0,.e,[],ly,ey,F,R,aJ _,⟨dx p0,dx Uu,dx p5,dx p6,dx p8,dx p9,R,R,R⟩,f1,O,by rw[gO,e0];exact D,S1,a3,⟨R,.inl dy⟩,by rw[gO,e0];unfold cw;rfl,λc q=>?_,λq=>q⟩) ?_
  .rcases q with q|q|q
   .exact m9 c Y _ Y
   .exact m9 c Y _ Y
   .exact q.elim
  clear p0 Uu p5 p6 p8 p9 f0 f1 O D S1 a3 s5;intro m' p u g0;let⟨i',kx,a4,f,d,K,m2,m1,⟨p0,Uu,p5,p6,p8,p9,i1,i2,j9⟩,f1,O,D,S1,a3,ox,rx,lb,l3⟩:=(hI _ _ _).1 g0;by_cases a6:i'<N ks
  .obtain⟨kb,z,rfl,z,z,r6,z,m7,r7,tk⟩:=(ht.step S1).mR a6;have z:=tk;let⟨s1,Z,u2,_,_⟩:=z;let⟨h1,h2,h3,h4,o7,r8,o9,z,Z⟩:=qz u2;have q0:=z.cells;rw[o9] at m7 tk;have e1:=JZ (G:=G) (l:=l) (x:=x) ks[i'] (ks.take i') {b with p:=b.p+1};rw[<-dt a6] at e1;simp(disch:=omega)only[go_sem,p0,Uu,p5,p6,p8,p9,i1,i2,j9,r6,m7,r7,fp,ft,bF,q0,Z];obtain⟨V,eV⟩:∃V,V=u.X (LL [h1,h2,h3,h4,.e,o7,r8,.l ks[i'].ck.2]):=⟨_,R⟩;have EV:ai u.h u V:=by rw[eV];exact ap (.refl _ _)
   have nV:V.h=u.h+1:=by rw[eV];rfl
   rw[<-eV];clear eV;have hV:=D.X EV;have l4:cS t B u f d K V f d K:=cS.ext EV;have SV:=S1.M l4;have z:rM (cV G l x ks[i'] (bH G l x (ks.take i') {b with p:=b.p+1}).2).2:=by
    refine sm.of (lz.M ?_ (CW.M (AI.M (gG _ _))));have Z:=J0 (G:=G) (l:=l) (x:=x) (ks.drop (i'+1)) (ks.take (i'+1)) {b with p:=b.p+1};rw[mH] at Z;rw[Z,e1];exact Ax gG _ _
   refine al (ih _ (aU a6) V xb _ _ f d K _ hV (hx.aR (l2.same SV) SV.h) (l2.step SV) (tk.step l4) z λz h7 e6 F2 s h2 s2 r2=>?_);obtain⟨g1,g2,g3,g4,g5,rfl⟩:=cJ r2;have n2:=s2.h;simp(disch:=omega)only[go_sem,p0,Uu,p5,p6,p8,p9,i1,i2,j9,fp,ft,bF];obtain⟨W,eW⟩:∃W,W=s.X (LL [g1,g2,g3,g4,g5]):=⟨_,R⟩;have EW:ai s.h s W:=by rw[eW];exact ap (.refl _ _)
   have nW:W.h=s.h+1:=by rw[eW];rfl
   have wb:W.f s.h=LL [g1,g2,g3,g4,g5]:=by rw[eW];exact ae R
   rw[<-eW];clear eW;have k0:=l4.M s2;have b4:∀c,(c=o.h+1\/c=n\/ar kx c)->jB B e6 h7 F2 s.h c/\W.f c=u.f c:=λc q=>by
    have q1:=lb c q;have q2:=q1.step k0;exact⟨q2,(EW.2 c q2.1.1).t (q1.1.same k0)⟩
   have z:=(kI rx).1;rw[FP,dW] at z;have z:aH 5 (o.h+2) W kx (N a4) a4.flatten:=kG ox (λc hc=>(b4 c (.inr (.inr hc))).2) Y;let⟨a5,Z,o3,n3,k3⟩:=oS (s:=5) (w:=72) (m:=1) (k:=[g1,g2,g3,g4,g5]) dc z (y:=.a s.h 0 1 (.k 1)) (.inr ⟨_,0,_,false,_,R,wb,Y,ak _,R,R⟩) dc Y (om S1.h);rw[Z];simp(disch:=omega)only[go_sem,p0,Uu,p5,p6,p8,p9,i1,i2,j9];have z:=S1.h;have j7:∀c,ar kx c->o.h+2<=c/\c<u.h:=λc hc=>cz ox hc;have j6:∀c,c<s.h->¬ar kx c->a5.f c=s.f c:=λc h1 h2=>(k3 c Y h2).t (EW.2 c h1);have z:=hf.ext.1;have p2:fK t B (.a bl b0 (N m) a1) n0 iy oy _ h7 e6 F2 a5:=h2.A8 (λc h1 q=>j6 c h1 λhc=>by
    rcases q with q|q
    .have:=(j7 c hc).1;omega
    .exact q (b4 c (.inr (.inr hc))).1) Y
   have e4:∀c,ar (.a W.h 0 (N a4+1) (.B 5)) c->c=W.h:=λc hc=>(show W.h=c from hc).s;refine⟨N ks-(i'+1),Y,(hI _ _ _).2 ⟨i'+1,_,a4++[[.s g1.1 g1.2,.s g2.1 g2.2,II g3,II g4,g5]],h7,e6,F2,R,a6,⟨dx p0,dx Uu,dx p5,dx p6,dx p8,R,dx i1,dx i2,R⟩,?_,?_,by rw[e1];exact p2,(SV.M s2).fv (λc hc=>j6 c Y λh=>om ((j7 c h).1)) Y,Y,?_,?_,λc q=>?_,λh=>om (e4 _ h)⟩⟩
   .exact(k3 _ Y (λh=>om ((j7 _ h).1))).t ((b4 _ (.inl R)).2.t f1)
   .exact O.aR ((k3 n Y l3).t (b4 n (.inr (.inl R))).2) Y
   .rw[ay,su,nh,Ir];exact o3
   .rw[e1];refine zi (sa (U:=u) (λc q hc=>?_) Y (λc q=>⟨q.1,⟨om q.2.1.1,(q.2.1.step k0).2⟩,λh=>by have:=e4 c h;have:=q.2.1.1;omega⟩) _ _ rx) (gq (U:=s) (λc q hc=>j6 c hc λh=>by have:=(j7 c h).2;have:=q.1;omega) Y (λc q=>⟨om q.1,⟨om q.2.1,q.2.2⟩,λh=>by have:=e4 c h;have:=q.2.1;omega⟩) _ _ r2);exact(j6 c Y q.2.2).t (q.2.1.same k0)
   .rcases q with q|q|q
    .exact((b4 c (.inl q)).1).more Y
    .exact((b4 c (.inr (.inl q))).1).more Y
    .exact h2.fresh (om (e4 c q)) (om (e4 c q))
  .have e:i'=N ks:=Y;rw[e,hU] at D rx;simp(disch:=omega)only[go_sem,p0,Uu,p5,p6,p8,p9,i1,i2,j9];exact(i9 _ _).2 ⟨n,kx,a4,f,d,K,⟨dx p0,dx Uu,dx p5,dx p6,dx p8,dx p9⟩,f1,O,D,S1,⟨c8,a3⟩,ox,rx,lb,l3⟩
 .clear i7;obtain⟨a0,b9⟩:∃a0,a0=(bH G l x ks {b with p:=b.p+1}).1:=⟨_,R⟩;obtain⟨a7,h0⟩:∃a7,a7=(bH G l x ks {b with p:=b.p+1}).2:=⟨_,R⟩;have z:N a0=N ks:=by rw[b9];exact FP _ _
  let⟨W,j0⟩:=jH λp P=>∃n f d K,(p 0=.p B 0/\p 1=.p xb 0/\p 6=.p (o.h+1) 0/\p 8=.p n 0)/\
   P.f (o.h+1)=LL [.s 0 0,.s 0 0,II 0,II 0,.e]/\ki t P n y/\fK t B (.a bl b0 (N m) a1) n0 iy oy (fT y l[j].ins a0 a7) f d K P/\cS t B o ly ey F P f d K/\(o.h+1<n/\n<P.h)/\
   (∀c,(c=o.h+1\/c=n)->jB B d f K P.h c)
  intro p P z;simp(disch:=omega)only[lT,lU];refine iB (M:=W) 1 _ _ _ ?_ ?_
  rotate_left
  .let⟨n,kx,a2,f,d,K,⟨p0,Uu,p5,p6,p8,p9⟩,f1,O,D,S1,⟨c8,a3⟩,ox,rx,lb,l3⟩:=(i9 _ _).1 z;clear i9 z g6 i3 j4;rw[<-b9] at rx;rw[<-h0] at D;let⟨z1,z2,z3,z4,b3,i4⟩:=O.D;refine S7 p0 Uu p5 p6 p8 p9 b3 ?_;obtain⟨q1,q2,q3,q4,e5,-,r1,r2,r3,-⟩:=i4;cases e5;rw[yn] at r1;have g7:N (l[j].ins.map Vr.cells)=l[j].ins.length:=aC _;have inl:l[j].ins.length<=1073741824:=Y;have ln:=λb5 e w=>bI (e:=b5) r1 g7 Y e w;simp(disch:=omega)only[go_sem,ln];have gI:lz (fT y l[j].ins a0 a7) (rQ G l x (b.p+1) nm c a0 a7).2:=by
    unfold rQ;rw[<-hy,l0];exact AI.M (gG _ _)
   rw[<-b9,<-h0] at sm;let⟨I,hI⟩:=inv λh9 p r=>∃i b2 f d K,h9=l[j].ins.length-i/\i<=l[j].ins.length/\(p 0=.p B 0/\p 1=.p xb 0/\p 6=.p (o.h+1) 0/\p 8=.p n 0/\p 9=kx/\p 69=z1/\p 70=II l[j].ins.length/\p 71=II i)/\
    r.f (o.h+1)=LL [.s 0 0,.s 0 0,II 0,II 0,.e]/\ki t r n y/\fK t B (.a bl b0 (N m) a1) n0 iy oy b2 f d K r/\fT y (l[j].ins.drop i) (a0.drop i) b2=fT y l[j].ins a0 a7/\cS t B o ly ey F r f d K/\n<r.h/\
    aH 5 (o.h+2) r kx (N a2) a2.flatten/\cw (λc=>n<c/\km B d f r.h c/\¬ar kx c) r a0 a2/\(∀c,(c=o.h+1\/c=n\/ar kx c)->jB B d f K r.h c)
   refine aT I l[j].ins.length ((hI _ _ _).2 ⟨0,a7,f,d,K,R,aJ _,⟨dx p0,dx Uu,dx p6,dx p8,dx p9,R,R,R⟩,f1,O,D,R,S1,a3,ox,rx,lb⟩) ?_;clear p0 Uu p5 p6 p8 p9 f1 O D S1 a3 ox rx lb b3;intro m' p u g0;let⟨i',b2,f,d,K,m2,m1,⟨p0,Uu,p6,p8,p9,b6,b7,c6⟩,f1,O,D,a9,S1,a3,ox,rx,lb⟩:=(hI _ _ _).1 g0;by_cases a6:i'<l[j].ins.length
   .have k7:i'<N (l[j].ins.map Vr.cells):=Y;obtain⟨b1,j8,l7,n8,c4,rfl,e7,b8,g8,H⟩:=r1.at k7;rw[kM] at H;let⟨n9,e8⟩:=(D.ext.2 b1 b8).E e7;obtain⟨v,hv⟩:∃v,v=l[j].ins[i']:=⟨_,R⟩;rw[<-hv] at H;have a8:=(C.jG.vs j hj).2 v (by rw[hv];unfold am;exact oJ _ (aU a6));have ec:v.cells=[.s v.n.1 v.n.2,II v.z,.s v.p.1 v.p.2,.l v.t,II v.a]:=R;rw[ec] at H;have r0:=g7;simp(disch:=omega)only[go_sem,p0,Uu,p6,p8,p9,b6,b7,c6,e8,H,fp,ft,bF];obtain⟨V,eV⟩:∃V,V=u.X (LL [v.n,v.z,v.p,v.t,v.a]):=⟨_,R⟩;have EV:ai u.h u V:=by rw[eV];exact ap (.refl _ _)
    have nV:V.h=u.h+1:=by rw[eV];rfl
    have vb:V.f u.h=LL [v.n,v.z,v.p,v.t,v.a]:=by rw[eV];exact ae R
    rw[<-eV];clear eV;have gl:lz b2 (fT y l[j].ins a0 a7):=by rw[<-a9];exact CW
    have k1:=sm.of (gl.M gI);refine al (US (O.ext EV) a8.1 a8.2 λs x2=>?_);have n2:=x2.1;have E2:=aM EV x2;have h2:=D.X E2;have s2:cS t B u f d K s f d K:=cS.ext E2;refine S8 p0 Uu p6 p8 p9 b6 b7 c6 ?_;refine al (Tv h2 k1.2.1 λh8 a5 h3 s3=>?_);have i5:=s2.M s3;have n3:=s3.h;have c5:∀c,(c=o.h+1\/c=n\/ar kx c)->jB B d h8 K a5.h c/\a5.f c=u.f c:=λc q=>⟨(lb c q).step i5,(lb c q).1.same i5⟩;have z:jB B d f K s.h u.h:=D.fresh (ak _) Y;have o5:a5.f u.h=_:=(z.1.same s3).t ((x2.2 _ Y).t vb);have m6:ki t a5 n y:=O.aR (c5 n (.inr (.inl R))).2 Y;simp(disch:=omega)only[go_sem,p0,Uu,p6,p8,p9,b6,b7,c6,o5];refine bL (wP m6 v.n a8.1 ?_);have k8:i'<N a0:=Y;let⟨q5,s8⟩:=pf rx i' k8;have z:=(kI rx).1;obtain⟨kc,rfl,q9⟩:∃kc,kx=.a kc 0 (N a2) (.B 5)/\u.f kc=LL a2.flatten:=by
     obtain⟨_,q|⟨c,_,_,q|q⟩⟩:=ox
     .omega
     .omega
     .exact⟨c,q⟩
    have Z:=(c5 kc (.inr (.inr R))).2.t q9;have l5:=(kI rx).2;let⟨g1,g2,g3,g4,g5,l9⟩:=cJ s8;have z:=adU l5 q5;rw[l9] at z;have W:=adV l5;simp(disch:=omega)only[go_sem,p0,Uu,p6,p8,p9,b6,b7,c6,Z,z,W];have o1:cw (λc=>n<c/\km B d h8 a5.h c/\¬ar (.a kc 0 (N a2) (.B 5)) c) a5 a0 a2:=sa (λc q _=>q.2.1.same i5) Y (λc q=>⟨q.1,q.2.1.step i5,q.2.2⟩) _ _ rx;let⟨v3,n7⟩:=pf o1 i' k8;rw[l9] at n7;refine bL (Rg h3 n7 (λc q=>q.2.1) k1.2.2 λo8 k4 h4 s4=>?_);have n4:=s4.h;simp(disch:=omega)only[go_sem,p0,Uu,p6,p8,p9,b6,b7,c6,Z,z,W,o5];have c1:∀c,(c=o.h+1\/c=n\/ar (.a kc 0 (N a2) (.B 5)) c)->jB B d h8 (λc=>K c\/(n<c/\km B d h8 a5.h c/\¬ar (.a kc 0 (N a2) (.B 5)) c)) a5.h c:=λc q=>⟨(c5 c q).1.1,λg=>g.elim (c5 c q).1.2 λg=>by
     rcases q with q|q|q
     .have:=g.1;omega
     .have:=g.1;omega
     .exact g.2.2 q⟩
    refine⟨λh=>absurd h dc,l[j].ins.length-(i'+1),Y,(hI _ _ _).2 ⟨i'+1,_,h8,o8,_,R,a6,⟨dx p0,dx Uu,dx p6,dx p8,dx p9,dx b6,dx b7,R⟩,((c1 _ (.inl R)).1.same s4).t ((c5 _ (.inl R)).2.t f1),m6.aR ((c1 n (.inr (.inl R))).1.same s4) Y,h4,?_,((S1.M i5).Pc (λc q=>om q.1)).M s4,Y,kG ox (λc q=>((c1 c (.inr (.inr q))).1.same s4).t (c5 c (.inr (.inr q))).2) Y,sa (λc q _=>q.2.1.same s4) Y (λc q=>⟨q.1,q.2.1.step s4,q.2.2⟩) _ _ o1,λc q=>(c1 c q).step s4⟩⟩;rw[<-a9,eJ a6,eJ k8,<-hv]
    rfl
   .have e:i'=l[j].ins.length:=Y;rw[e,fQ] at a9;refine S8 p0 Uu p6 p8 p9 b6 b7 c6 ?_;refine(j0 _ _).2 ⟨n,f,d,K,⟨dx p0,dx Uu,dx p6,dx p8⟩,f1,O,?_,S1,⟨c8,a3⟩,λc q=>lb c (q.imp id .inl)⟩;rw[<-a9];exact D
  .clear i9;let⟨M4,j1⟩:=jH λp P=>∃n f d K,(p 0=.p B 0/\p 1=.p xb 0/\p 6=.p (o.h+1) 0/\p 8=.p n 0)/\
    P.f (o.h+1)=LL [.s 0 0,.s 0 0,II 0,II 0,.e]/\ki t P n y/\fK t B (.a bl b0 (N m) a1) n0 iy oy (jv y (l[j].o++l[j].ao) (fT y l[j].ins a0 a7)) f d K P/\cS t B o ly ey F P f d K/\(o.h+1<n/\n<P.h)/\
    (∀c,(c=o.h+1\/c=n)->jB B d f K P.h c)
   rw[<-b9,<-h0] at sm k;have g:rQ G l x (b.p+1) nm c a0 a7=(.mk bR (aW y ((l[j].o.map Vr.n).headD (0,0))) 0 0 [],G y (jv y (l[j].o++l[j].ao) (fT y l[j].ins a0 a7))):=by
    unfold rQ;rw[<-hy,l0]
   rw[g] at sm k;clear g;generalize fT y l[j].ins a0 a7=k2 at*;intro p P b;simp(disch:=omega)only[lT,lU];refine iB (M:=M4) 1 _ _ _ ?_ ?_
   rotate_left
   .let⟨n,f,d,K,⟨p0,Uu,p6,p8⟩,f1,O,D,S1,⟨c8,a3⟩,lb⟩:=(j0 _ _).1 b;clear j0 b g6 i3 j4;let⟨z1,z2,z3,z4,b3,i4⟩:=O.D;obtain⟨q1,q2,q3,q4,e5,-,r1,r2,r3,-⟩:=i4;cases e5;rw[yn] at r2 r3;have c2:dZ z2=some [z2]:=by rcases r2 with⟨_,rfl|⟨_,_,_,rfl⟩⟩|⟨_,_,_,_,_,rfl,_⟩<;>rfl
    have c3:dZ z3=some [z3]:=by rcases r3 with⟨_,rfl|⟨_,_,_,rfl⟩⟩|⟨_,_,_,_,_,rfl,_⟩<;>rfl
    refine S7 p0 Uu p6 p8 b3 c2 c3 ?_;obtain⟨V,eV⟩:∃V,V=(((P.at_ (P.h+(1+1+1+1+1+1+1+1+1+1))).X (LL [z2,z3])).at_ (P.h+(1+1+1+1+1+1+1+1+1+1+1+1+1+1))):=⟨_,R⟩;have EV:ai P.h P V:=by
     rw[eV];exact⟨by show P.h<=P.h+(1+1+1+1+1+1+1+1+1+1+1+1+1+1);omega,λc hc=>ac (by show¬c=P.h+(1+1+1+1+1+1+1+1+1+1);omega)⟩
    have nV:V.h=P.h+14:=by rw[eV];rfl
    have vb:V.f (P.h+(1+1+1+1+1+1+1+1+1+1))=LL [z2,z3]:=by rw[eV];exact ae R
    simp(disch:=omega)only[<-eV];clear eV;have hV:=D.X EV;have b:mW [l[j].o,l[j].ao]<=4294967296:=by
     have h1:=i0.2.2.1.1;have h2:=i0.2.2.2.1.1;unfold mW;simp only[ir,Iq,ay,hN];omega
    refine bL (Jw (b:=P.h+(1+1+1+1+1+1+1+1+1+1)) (a:=[z2,z3]) (l:=[l[j].o,l[j].ao]) ⟨r2.rel hV.ext,r3.rel hV.ext,trivial⟩ vb Y b (gf R) λxw s c7 u6 E2=>?_);have n2:=E2.1;have b:[l[j].o,l[j].ao].flatten=l[j].o++l[j].ao:=by simp
    rw[b] at c7;obtain⟨vs,a8⟩:∃vs,vs=l[j].o++l[j].ao:=⟨_,R⟩;rw[<-a8] at c7 j1;have g7:N (vs.map Vr.cells)=N vs:=aC _;have b:N vs<=4294967296:=by rw[a8,ay];have h1:=i0.2.2.1.1;have h2:=i0.2.2.2.1.1;omega
    have ln:=λb5 e w=>bI (e:=b5) c7 g7 Y e w;refine S5 p0 Uu p6 p8 ln ?_;rw[<-a8] at sm;have u3:rM (G y (jv y vs k2)):=sm;obtain⟨bx,n6,l8,o0,k6,i6,e9,k5,k9,-,l1⟩:∃b g z W w,xw=.a b g (N (vs.map Vr.cells)) z/\s.f b=.E W w/\b<s.h/\g+N (vs.map Vr.cells)*5<=N w/\(∀l∈vs.map Vr.cells,N l=5)/\(w.drop g).take (N (vs.map Vr.cells)*5)=(vs.map Vr.cells).flatten:=by
     rcases c7 with⟨h,_⟩|h
     .have:vs=[]:=Od.1 h
      rw[this] at a8
      have:=dv List.length a8
      rw[ay] at this;simp at this;omega
     .exact h
    have b:=c7;rw[i6] at b;have b:V.h<=bx:=u6 bx (by rw[i6];rfl);have s2:cS t B P f d K s f d K:=cS.ext (aM EV E2);have m8:jB B d f K s.h bx:=D.fresh Y k5;let⟨I,hI⟩:=inv λh9 p r=>∃i b2 f d K,h9=N vs-i/\i<=N vs/\(p 0=.p B 0/\p 1=.p xb 0/\p 6=.p (o.h+1) 0/\p 8=.p n 0/\p 103=xw/\p 104=II (N vs)/\p 105=II i)/\
     r.f (o.h+1)=LL [.s 0 0,.s 0 0,II 0,II 0,.e]/\ki t r n y/\fK t B (.a bl b0 (N m) a1) n0 iy oy b2 f d K r/\jv y (vs.drop i) b2=jv y vs k2/\cS t B o ly ey F r f d K/\n<r.h/\
     r.f bx=.E o0 k6/\(∀c,(c=o.h+1\/c=n\/c=bx)->jB B d f K r.h c)
    refine aT I (N vs) ((hI _ _ _).2 ⟨0,k2,f,d,K,R,aJ _,⟨dx p0,dx Uu,dx p6,dx p8,R,R,R⟩,((lb _ (.inl R)).1.same s2).t f1,O.ext (aM EV E2),D.X (aM EV E2),R,S1.M s2,Y,e9,λc q=>?_⟩) ?_
    .rcases q with q|q|q
     .exact(lb c (.inl q)).step s2
     .exact(lb c (.inr q)).step s2
     .rw[q];exact m8
    clear p0 Uu p6 p8 f1 O D S1 a3 lb b3 c7 e9 k5 m8 s2 hV E2 EV vb nV n2 ln;intro m' p u g0;let⟨i',b2,f,d,K,m2,m1,⟨p0,Uu,p6,p8,b,g,r⟩,f1,O,D,a9,S1,a3,e9,lb⟩:=(hI _ _ _).1 g0;rw[i6] at b;by_cases a6:i'<N vs
    .have k7:i'<N (vs.map Vr.cells):=Y;have w:aK 5 u (.a bx n6 (N (vs.map Vr.cells)) l8) (vs.map Vr.cells):=.inr ⟨bx,n6,l8,o0,k6,R,e9,(lb bx (.inr (.inr R))).1.1,k9,Ee _,l1⟩;let⟨b1,j8,l7,n8,c4,e1,e7,b8,g8,H⟩:=w.at k7;rw[kM] at H;obtain⟨v,hv⟩:∃v,v=vs[i']:=⟨_,R⟩;rw[<-hv] at H;have j5:=(C.jG.vs j hj).2 v (by
      have:v∈vs:=by rw[hv];exact aU a6
      rw[a8] at this;unfold am;exact jl _ this)
     have ec:v.cells=[.s v.n.1 v.n.2,II v.z,.s v.p.1 v.p.2,.l v.t,II v.a]:=R;rw[ec] at H;rw[e1] at b;have r0:=g7;simp(disch:=omega)only[go_sem,p0,Uu,p6,p8,b,g,r,e7,H,fp,ft,bF];obtain⟨V2,eV⟩:∃V,V=u.X (LL [v.n,v.z,v.p,v.t,v.a]):=⟨_,R⟩;have EV:ai u.h u V2:=by rw[eV];exact ap (.refl _ _)
     have nV:V2.h=u.h+1:=by rw[eV];rfl
     rw[<-eV];clear eV;have gl:lz b2 (jv y vs k2):=by rw[<-a9];exact AI
     have k1:=u3.of (gl.M (gG _ _));refine al (US (O.ext EV) j5.1 j5.2 λa5 z=>?_);have n3:=z.1;have w:=aM EV z;have h3:=D.X w;have s3:cS t B u f d K a5 f d K:=cS.ext w;refine S7 p0 Uu p6 p8 b g r ?_;refine al (Tv h3 k1.2.1 λw k4 h4 s4=>?_);have u:=s3.M s4;have n4:=s4.h;refine S7 p0 Uu p6 p8 b g r ?_;refine⟨N vs-(i'+1),Y,(hI _ _ _).2 ⟨i'+1,_,w,d,K,R,a6,⟨dx p0,dx Uu,dx p6,dx p8,by rw[i6,e1];exact b,dx g,R⟩,((lb _ (.inl R)).1.same u).t f1,O.aR ((lb n (.inr (.inl R))).1.same u) Y,h4,?_,S1.M u,Y,((lb _ (.inr (.inr R))).1.same u).t e9,λc q=>(lb c q).step u⟩⟩;rw[<-a9,eJ a6,<-hv]
     rfl
    .have e:i'=N vs:=Y;rw[e,fQ] at a9;refine S7 p0 Uu p6 p8 b g r ?_;refine(j1 _ _).2 ⟨n,f,d,K,⟨dx p0,dx Uu,dx p6,dx p8⟩,f1,O,?_,S1,⟨c8,a3⟩,λc q=>lb c (q.imp id .inl)⟩;rw[<-a9];exact D
   .clear j0;intro p P b;let⟨n,f,d,K,⟨p0,Uu,p6,p8⟩,f1,O,D,S1,⟨c8,a3⟩,lb⟩:=(j1 _ _).1 b;clear j1 b g6 i3 j4;simp(disch:=omega)only[lT,lU,go_sem,p0,Uu,p6,p8];refine al (hG j q8 y hj yn P n _ f d K _ D O (lb n (.inr R)).1 sm λh7 e6 F2 s h2 s2=>?_);have m5:ki t s n y:=O.aR ((lb n (.inr R)).1.same s2) s2.h;have f2:=((lb _ (.inl R)).1.same s2).t f1;have b4:=(lb _ (.inl R)).step s2;have n2:=s2.h;let⟨z1,z2,z3,z4,b3,i4⟩:=m5.D;obtain⟨q1,q2,q3,q4,e5,-,r1,r2,r3,-⟩:=i4;cases e5;rw[yn] at r2;have ho:0<N (l[j].o.map Vr.cells):=by rw[aC];omega
    obtain⟨b1,j8,l7,n8,c4,rfl,e7,b8,g8,H⟩:=r2.at ho;obtain⟨v,hv⟩:∃v,l[j].o=[v]:=by
     match b:l[j].o,m4 with
     |[v],_=>exact⟨v,R⟩
    have e0:(l[j].o.map Vr.cells)[0]=v.cells:=by simp[hv]
    rw[e0,lq,nk] at H;let⟨n9,e8⟩:=(h2.ext.2 b1 b8).E e7;have j5:=(C.jG.vs j hj).2 v (by unfold am;rw[hv];simp);have d:c4.getD j8 bp=.s v.n.1 v.n.2:=(uP H 0 dc).t R;have b:j8<N c4:=Y;have f:N (l[j].o.map Vr.cells)=1:=by rw[aC];exact m4
    have b:(l[j].o.map Vr.n).headD (0,0)=v.n:=by rw[hv];rfl
    rw[b] at k;refine S8 p0 Uu p6 p8 b3 e8 f d ?_;refine al (wP m5 v.n j5.1 ?_);refine S5 p0 Uu p6 p8 f2 ?_;have s1:t.h<=o.h+1:=by have:=hf.ext.1;omega
    refine k _ h7 e6 F2 _ (h2.A8 (λc hc q=>ac λe=>?_) (ak _)) ((S1.M s2).fv (λc hc=>ac Y) (ak _)) ?_
    .subst e;rcases q with q|q
     .omega
     .exact q b4
    .unfold bn;exact⟨.e,R,λ_ h=>h.elim,[],.inl ⟨R,.inl R⟩,by unfold cw;rfl⟩
end
end Go.Proofs.YtehahhggpdhieaaGreatDoor
