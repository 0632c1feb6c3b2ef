/- Lemmas of the walk of EmitKinds are proved. Conditions: none. -/
import Derived.Test.YtehahhggpdhieaaGreatDoorX23
namespace Go.Proofs.YtehahhggpdhieaaGreatDoor
set_option maxRecDepth 100000
set_option maxHeartbeats 32000000
set_option linter.all false
section
section
inductive It where
 |o (i:aQ)
 |c (s by_ yes no:Nat)
 |g (l:List (Nat×Option Nat)) (i:aQ)
def bU:L (Nat×Option Nat)->Nat
 |[]=>0
 |(_,none)::r=>1+bU r
 |(_,some _)::r=>2+bU r
def eQ(e:Nat):L (Nat×Option Nat)->L aQ
 |[]=>[]
 |(s,none)::r=>⟨19,e,s,0⟩::eQ e r
 |(s,some t)::r=>⟨6,t,s,0⟩::⟨19,e,t,0⟩::eQ e r
def It.size:It->Nat
 |.o _=>1
 |.c _ _ _ _=>4
 |.g l _=>bU l+1
def It.E(o:Nat):It->L aQ
 |.o i=>[i]
 |.c s b y n=>[⟨19,o+3,b,0⟩,⟨1,s,y,0⟩,⟨20,o+4,0,0⟩,⟨1,s,n,0⟩]
 |.g l i=>eQ (o+bU l+1) l++[i]
structure ES where
 an:List Nat
 y:List Nat
 s:List Nat
 j:List aQ
 l:List aQ
 late:List (Nat×Nat×Tm)
 f:List (Nat×List aS)
def fx(k:Nat)(a:ES):Nat×ES:=(N a.an,{a with an:=a.an++[k]})
def eE(t:It)(a:ES):ES:={a with j:=a.j++t.E (N a.j)}
def mQ(a:ES)(s:Nat):Nat:=a.an.getD s 0
def ot(l:L Nat)(n:Nat):Option Nat:=l.findIdx? λx=>decide (x=n)
def iw(n:Nat)(a:ES):Nat×ES:=match ot a.s n with
 |some i=>(i,a)
 |none=>(N a.s,{a with s:=a.s++[n]})
def hY(k n:Nat)(a:ES):Nat×ES:=
 let c:=iw n a
 let s:=fx k c.2
 (s.1,eE (.o ⟨0,s.1,c.1,0⟩) s.2)
def kD(k:Nat)(a:ES):(Nat×Nat)×ES:=((N a.y,N a.an),{a with y:=a.y++[k],an:=a.an++[k],l:=a.l++[⟨2,N a.an,N a.y,0⟩]})
def pD(c:L aS)(a:ES):Nat×ES:=
 let m:=kD 1 a
 (m.1.2,{m.2 with f:=m.2.f++[(m.1.1,c)]})
def kS(k b y n:Nat)(a:ES):Nat×ES:=
 let s:=fx k a
 (s.1,eE (.c s.1 b y n) s.2)
def nG(s:Nat)(a:ES):Nat×ES:=
 let t:=fx 1 a
 (t.1,eE (.o ⟨6,t.1,s,0⟩) t.2)
def cI(a:S):Nat×Bool×Bool:=
 if a=im then(8,false,false) else if a=gd then(9,false,false) else if a=gL then(10,false,false) else if a=gK then(11,false,false) else if a=gA then(12,false,false)
 else if a=ik then(14,false,false) else if a=gU then(15,false,false) else if a=ij then(14,true,false) else if a=gT then(15,true,false)
 else if a=gS then(16,false,false) else if a=gV then(17,false,false) else if a=gX then(18,false,false) else(13,false,de (a=il))
def pz(d:S)(a b:Nat)(e:ES):Nat×ES:=
 let o:=cI d
 let s:=fx (if 13<=o.1 then 1 else 2) e
 let c:=eE (.o ⟨o.1,s.1,if o.2.1 then b else a,if o.2.1 then a else b⟩) s.2
 if o.2.2 then nG s.1 c else(s.1,c)
mutual
def bw:Tm->Tr
 |.mk op d b a _ _ c=>.mk op d b a (cL c)
def cL:L Tm->L Tr
 |[]=>[]
 |k::a=>bw k::cL a
end
def rf(n:Nd)(e:Tr):Nat:=match fM [] n e with|.inl _=>0|.inr k=>k
def T0:Tm:=.mk (0,0) (0,0) 0 0 [] false []
def gx(f:S->Nat)(b d:S)(c:L aS)(e:L Nat)(a:ES):Nat×ES:=
 let s (i:Nat):=e.getD i 0
 if b=fB then nG (s 0) a
 else if b=ps then(let t:=fx 2 a;(t.1,eE (.o ⟨7,t.1,s 0,0⟩) t.2))
 else if b=bB then(s 0,a)
 else if b=jK then kS (mQ a (s 1)) (s 0) (s 1) (s 2) a
 else if b=bD then kS (mQ a (s 0)) (f d) (s 0) (s 1) a
 else if b=jJ then(let w:=pD c a;kS (mQ a (s 0)) w.1 (s 1) (s 0) w.2)
 else pz b (s 0) (s 1) a
mutual
def bu(n:Nd)(e:S->Nat):Tm->ES->Nat×ES
 |.mk op g f a c any d,b=>
  if op=eH then
   (let m:=kD (rf n (.mk op g f a (cL d))) b
    (m.1.2,{m.2 with late:=m.2.late++[(m.1.1,m.1.2,d.getD 0 T0)]}))
  else if op=dk then
   (let p:=lQ n e d b
    let k:=mQ p.2 p.1
    let m:=kD k p.2
    let w:=pD c {m.2 with late:=m.2.late++[(m.1.1,m.1.2,d.getD 1 T0)]}
    kS k w.1 m.1.2 p.1 w.2)
  else if op=fm then hY 2 f b
  else if op=cX then hY 1 f b
  else if op=bR then(e g,b)
  else gx e op g c (cR n e d b).1 (cR n e d b).2
def lQ(n:Nd)(b:S->Nat):L Tm->ES->Nat×ES
 |[],a=>(0,a)
 |k::_,a=>bu n b k a
def cR(n:Nd)(b:S->Nat):L Tm->ES->L Nat×ES
 |[],a=>([],a)
 |k::c,a=>((bu n b k a).1::(cR n b c (bu n b k a).2).1,(cR n b c (bu n b k a).2).2)
end
def bG(b:S->Nat):L aS->ES->L (Nat×Option Nat)×ES
 |[],a=>([],a)
 |c::r,a=>if c.2 then((b c.1,some (N a.an))::(bG b r (fx 1 a).2).1,(bG b r (fx 1 a).2).2) else((b c.1,none)::(bG b r a).1,(bG b r a).2)
def nB(b:S->Nat)(c:L aS)(i:aQ)(a:ES):ES:=eE (.g (bG b c a).1 i) (bG b c a).2
def iu:Tm->L aS|.mk _ _ _ _ c _ _=>c
def cF(n:Nd)(b:S->Nat):Nat->Nat->L (Nat×Nat×Tm)->ES->L (Nat×Nat×Tm)×ES
 |0,_,k,a=>(k,a)
 |f+1,i,k,a=>match a.late[i]? with
  |none=>(k,a)
  |some x=>cF n b f (i+1) (k++[(x.1,(bu n b x.2.2 a).1,x.2.2)]) (bu n b x.2.2 a).2
def eD(b:S->Nat):L (Nat×Nat×Tm)->ES->ES
 |[],a=>a
 |x::r,a=>eD b r (nB b (iu x.2.2) ⟨3,x.1,x.2.1,0⟩ a)
def js(c:S->Nat)(a:Nat):L (Nat×L aS)->ES->ES
 |[],b=>b
 |x::r,b=>js c a r (nB c x.2 ⟨3,x.1,a,0⟩ b)
def ig(n:Nd)(b:S->Nat)(f:Nat)(c:ES):ES:=
 let l:=cF n b f 0 [] c
 let a:=eD b l.1 l.2
 if a.f=[] then a else(let y:=hY 1 1 a;js b y.1 y.2.f y.2)
def iA:L Vr->Nat->(S->Option Nat)->S->Option Nat
 |[],_,M=>M
 |v::r,i,M=>iA r (i+1) λs=>if s=v.n then some i else M s
def aL(n:Nd)(s:S):Nat:=(iA (am n) 0 (λ_=>none) s).getD 0
def gn:L Vr->Nat->ES->ES
 |[],_,a=>a
 |v::r,i,a=>gn r (i+1) (eE (.o ⟨4,N a.an,i,0⟩) (fx v.z a).2)
def hX:ES:=⟨[],[],[],[],[],[],[]⟩
def eW(n:Nd):ES:=let a:=gn n.ins 0 hX;{a with an:=a.an++(n.o++n.ao).map Vr.z}
def dB(n:Nd)(s:S):Tm:=match n.r.reverse.find? λq=>decide (q.n=s) with|some q=>dr n q.n q.e|none=>T0
def jQ(n:Nd)(a:S->Nat):L S->ES->Option ES
 |[],b=>some b
 |s::r,b=>if 8192<N (eE (.o ⟨1,a s,(bu n a (dB n s) b).1,0⟩) (bu n a (dB n s) b).2).j then none else jQ n a r (eE (.o ⟨1,a s,(bu n a (dB n s) b).1,0⟩) (bu n a (dB n s) b).2)
def gH(b:S->Nat):L Vr->Nat->ES->ES
 |[],_,a=>a
 |v::r,i,a=>gH b r (i+1) (eE (.o ⟨5,i,b v.n,0⟩) a)
def eA(k:Nat)(i:aQ):aQ:=if i.o=19\/i.o=20 then{i with a:=i.a+k} else i
def qm(n:Nd)(f:Nat):Option PD:=match jQ n (aL n) ((gR n).getD []) (eW n) with
 |none=>none
 |some b=>
  let a:=gH (aL n) n.o 0 (ig n (aL n) f b)
  let p:PD:=⟨n.ins.map Vr.z,n.o.map Vr.z,a.an,a.y,a.s,a.l++a.j.map (eA (N a.l))⟩
  if 1024<N p.an\/1024<N p.y\/1024<N p.s\/8192<N p.j then none else some p
end
variable {e:HN}{z:L AV}{k:Nat}
section
def iv(n:Nat):AV:=II n
structure cK where
 n:S
 d:AV
 w:AV
 b:AV
 e:AV
 a:Nat
 y:Nat->AV
 m:Nat
 c:Nat
def cK.cells(v:cK):L AV:=[v.n,v.d,v.w,v.b,v.e,v.a,v.y 0,v.y 1,v.y 2,v.y 3,v.y 4,v.y 5,.map v.m,.map v.c,v.y 6,v.y 7,v.y 8]
def cK.put(v:cK)(k:Nat)(y:AV):cK:={v with y:=λj=>if j=k then y else v.y j}
def jx:Nat->Nat
 |5=>4
 |6=>10
 |7=>2
 |8=>4
 |_=>1
def YA(k:Nat):0<jx k:=by unfold jx;split<;>decide
def nZ(l:L AV):Prop:=l=[]\/∃i r,l=II i::r
def nZ.app{l m:L AV}(h:nZ l)(g:nZ m):nZ (l++m):=by
 rcases h with rfl|⟨i,r,rfl⟩
 .exact g
 .exact .inr ⟨i,r++m,R⟩
structure kr (base mb:Nat) (v:cK) (o:Nat->Nat) (rows:Nat->List AV) (cY:Nat->Nat) (U:HN):Prop where
 D:U.f mb=LL v.cells
 own:∀k,k<9->aH (jx k) base U (v.y k) (cY k) (rows k)
 C:∀k,k<9->∀c,ar (v.y k) c->o c=k+4
 ne:∀k,k<9->v.y k=.e\/0<cY k
 i:∀k,k<9->nZ (rows k)
 om:o mb=1
 os:o v.m=2
 oc:o v.c=3
 ob:∀c,o c≠0->base<=c/\c<U.h
 mM:∃es,U.f v.m=.mp es
 mC:∃es,U.f v.c=.mp es
 wb:∀b,v.d≠.l b
structure bh (U:HN) (o:Nat->Nat) (U':HN) (o':Nat->Nat):Prop where
 h:U.h<=U'.h
 same:∀c,c<U.h->(o c=0\/12<o c)->U'.f c=U.f c
 C:∀c,c<U.h->o' c=o c
 ck:∀c,c<U.h->U'.f c=U.f c\/eM (U.f c)
def bh.refl{U:HN}{o:Nat->Nat}:bh U o U o:=⟨ak _,λ_ _ _=>R,λ_ _=>R,λ_ _=>.inl R⟩
def bh.M{U U' U'':HN}{o o' o'':Nat->Nat}(s:bh U o U' o')(t:bh U' o' U'' o''):bh U o U'' o'' where
 h:=bC s.h t.h
 same:=λc h1 h2=>(t.same c (cW h1 s.h) (by rw[s.C c h1];exact h2)).t (s.same c h1 h2)
 C:=λc h1=>(t.C c (cW h1 s.h)).t (s.C c h1)
 ck:=λc h1=>by
  rcases s.ck c h1 with h|h
  .rcases t.ck c (cW h1 s.h) with g|g
   .exact .inl (g.t h)
   .rw[h] at g;exact .inr g
  .exact .inr h
def bh.ext{U:HN}{o:Nat->Nat}(x:ai U.h U e):bh U o e o:=⟨x.1,λc h _=>x.2 c h,λ_ _=>R,λc h=>.inl (x.2 c h)⟩
def mJ(o:Nat->Nat)(U:HN)(t:Tm)(z:L AV):Prop:=∃b a,dO b a U t z/\a<=U.h/\∀c,b<=c->c<a->o c=0
def mJ.step{U:HN}{o a:Nat->Nat}(s:bh U o e a){t:Tm}(r:mJ o U t z):mJ a e t z:=by
 let⟨b,a,h,c,f⟩:=r
 have:=s.h
 exact⟨b,a,Bj (λ_ _ g=>uQ g s.ck s.h) s.h (λb a d c=>s.same b c (.inl (f b a d))) h,Y,λc a d=>(s.C c Y).t (f c a d)⟩
def bh.fv{U Z Z':HN}{o o1 o':Nat->Nat}(s:bh U o Z o1)(hn:Z.h<=Z'.h)(K:∀c,c<U.h->Z'.f c=Z.f c)(tg:∀c,c<U.h->o' c=o1 c):bh U o Z' o' where
 h:=bC s.h hn
 same:=λc h1 h2=>(K c h1).t (s.same c h1 h2)
 C:=λc h1=>(tg c h1).t (s.C c h1)
 ck:=λc h1=>by rw[K c h1];exact s.ck c h1
def mJ.fv{U:HN}{o b:Nat->Nat}(a:U.h<=e.h)(K:∀c,c<U.h->o c<=12->e.f c=U.f c)(d:∀c,c<U.h->e.f c=U.f c\/eM (U.f c))(i:∀c,c<U.h->b c=o c){t:Tm}(r:mJ o U t z):mJ b e t z:=by
 let⟨g,b,h,_,f⟩:=r;exact⟨g,b,Bj (λ_ _ g=>uQ g d a) a (λb a d g=>K b g (by rw[f b a d];decide)) h,Y,λc a d=>(i c Y).t (f c a d)⟩
def nZ.lA{l:L AV}(h:nZ l)(a:l≠[]):eM (LL l):=by
 rcases h with h|⟨i,r,rfl⟩
 .exact absurd h a
 .exact⟨(by intro h;cases h),λ_ _ _ h=>(by cases h)⟩
def eM.mp{a:L (AV×AV)}:eM (.mp a):=⟨(by intro h;cases h),λ_ _ _ h=>(by cases h)⟩
section
variable {base mb:Nat}{v:cK}{o:Nat->Nat}{rows:Nat->L AV}{cY:Nat->Nat}{U:HN}
def kr.lt(h:kr base mb v o rows cY U):mb<U.h:=(h.ob mb (by rw[h.om];decide)).2
def kr.bT(h:kr base mb v o rows cY U)(b:k<9){c:Nat}(a:ar (v.y k) c):base<=c/\c<U.h:=h.ob c (by rw[h.C k b c a];omega)
def kr.X(h:kr base mb v o rows cY U){U':HN}(x:ai U.h U U'):kr base mb v o rows cY U' where
 D:=(x.2 _ h.lt).t h.D
 own:=λk hk=>(h.own k hk).ext x
 C:=h.C
 ne:=h.ne
 i:=h.i
 om:=h.om
 os:=h.os
 oc:=h.oc
 ob:=λc hc=>⟨(h.ob c hc).1,cW (h.ob c hc).2 x.1⟩
 mM:=by rw[x.2 _ (h.ob v.m (by rw[h.os];decide)).2];exact h.mM
 mC:=by rw[x.2 _ (h.ob v.c (by rw[h.oc];decide)).2];exact h.mC
 wb:=h.wb
def kr.congr(h:kr base mb v o rows cY U){a:Nat->L AV}{b:Nat->Nat}(d:∀k,k<9->a k=rows k)(c:∀k,k<9->b k=cY k):kr base mb v o a b U:=
 {h with own:=λk a=>by rw[d k a,c k a];exact h.own k a,ne:=λk a=>by rw[c k a];exact h.ne k a,i:=λk a=>by rw[d k a];exact h.i k a}
def kr.lA(h:kr base mb v o rows cY U)(d:k<9){c:Nat}(a:ar (v.y k) c):eM (U.f c):=by
 obtain⟨f,⟨e,_⟩|⟨b,_,_,⟨e,g,_⟩|⟨e,i⟩⟩⟩:=h.own k d
 .rw[e] at a;exact a.elim
 .rcases h.ne k d with g|g
  .rw[e] at g;cases g
  .omega
 .rw[e] at a;have a:b=c:=a;subst a;rw[i];refine(h.i k d).lA λq=>?_;rw[q] at f
  have:=YA k
  rcases h.ne k d with g|g
  .rw[e] at g;cases g
  .have:0<cY k*jx k:=IC g this
   simp at f;omega
def kr.fv(h:kr base mb v o rows cY U){o':Nat->Nat}{U':HN}(hn:U.h<=U'.h)(K:∀c,c<U.h->o c<=12->U'.f c=U.f c)(tg:∀c,c<U.h->o' c=o c)(ob':∀c,o' c≠0->base<=c/\c<U'.h):kr base mb v o' rows cY U' where
 D:=(K mb h.lt (by rw[h.om];decide)).t h.D
 own:=λk hk=>kG (h.own k hk) (λc hc=>K c (h.bT hk hc).2 (by rw[h.C k hk c hc];omega)) hn
 C:=λk hk c hc=>(tg c (h.bT hk hc).2).t (h.C k hk c hc)
 ne:=h.ne
 i:=h.i
 om:=(tg mb h.lt).t h.om
 os:=(tg _ (h.ob v.m (by rw[h.os];decide)).2).t h.os
 oc:=(tg _ (h.ob v.c (by rw[h.oc];decide)).2).t h.oc
 ob:=ob'
 mM:=by rw[K _ (h.ob v.m (by rw[h.os];decide)).2 (by rw[h.os];decide)];exact h.mM
 mC:=by rw[K _ (h.ob v.c (by rw[h.oc];decide)).2 (by rw[h.oc];decide)];exact h.mC
 wb:=h.wb
def kr.grow(h:kr base mb v o rows cY U)(f:k<9){new:L AV}(t:nZ new)(r:base<=U.h){X b:HN}(E:ai U.h U X)(r:b.h=X.h+1)
  (o2:aH (jx k) base b (.a X.h 0 (cY k+1) (.B (jx k))) (cY k+1) (rows k++new)) (l:∀c,c<X.h->¬ar (v.y k) c->b.f c=X.f c):
  kr base mb (v.put k (.a X.h 0 (cY k+1) (.B (jx k)))) (λc=>if c=X.h then k+4 else o c) (λj=>if j=k then rows k++new else rows j) (λj=>if j=k then cY k+1 else cY j) (b.put mb (LL (v.put k (.a X.h 0 (cY k+1) (.B (jx k)))).cells))/\
  bh U o (b.put mb (LL (v.put k (.a X.h 0 (cY k+1) (.B (jx k)))).cells)) (λc=>if c=X.h then k+4 else o c):=by
 have u:=h.lt;have r:=E.1;have m:∀c,c<U.h->c≠X.h:=λc a=>by omega
 have r:¬ar (v.y k) mb:=λq=>by have:=h.C k f mb q;rw[h.om] at this;omega
 have i:=(h.ob v.m (by rw[h.os];decide)).2;have g:=(h.ob v.c (by rw[h.oc];decide)).2;have p:v.m≠mb:=λe=>by have:=h.os;rw[e,h.om] at this;cases this
 have n:v.c≠mb:=λe=>by have:=h.oc;rw[e,h.om] at this;cases this
 have F:∀c,c<U.h->c≠mb->¬ar (v.y k) c->(b.put mb (LL (v.put k (.a X.h 0 (cY k+1) (.B (jx k)))).cells)).f c=U.f c:=λc a r s=>(ac r).t ((l c (by omega) s).t (E.2 c a));refine⟨⟨ae R,λj d=>?_,λj d c a=>?_,λj d=>?_,λj d=>?_,?_,?_,?_,λc a=>?_,?_,?_,h.wb⟩,⟨by show U.h<=b.h;omega,λc a l=>F c a (λe=>by rw[e,h.om] at l;omega) (λq=>by have:=h.C k f c q;omega),λc a=>ac (m c a),λc a=>?_⟩⟩
 .by_cases e:j=k
  .subst e;show aH (jx j) base _ (if j=j then _ else _) (if j=j then _ else _) (if j=j then _ else _);rw[ae R,ae R,ae R];exact kG o2 (λc a=>ac (by have a:X.h=c:=a;omega)) (ak _)
  .show aH (jx j) base _ (if j=k then _ else v.y j) (if j=k then _ else cY j) (if j=k then _ else rows j);rw[ac e,ac e,ac e];refine kG (h.own j d) (λc a=>F c (h.bT d a).2 (λq=>by have:=h.C j d c a;rw[q,h.om] at this;omega) (λq=>?_)) (by show U.h<=b.h;omega)
   have:=h.C j d c a
   have:=h.C k f c q
   omega
 .by_cases e:j=k
  .subst e;have a:ar (if j=j then AV.a X.h 0 (cY j+1) (.B (jx j)) else v.y j) c:=a;rw[ae R] at a;exact ae (show c=X.h from(show X.h=c from a).s)
  .have a:ar (if j=k then AV.a X.h 0 (cY k+1) (.B (jx k)) else v.y j) c:=a;rw[ac e] at a;exact(ac (m c (h.bT d a).2)).t (h.C j d c a)
 .by_cases e:j=k
  .exact .inr (by show 0<(if j=k then cY k+1 else cY j);rw[ae e];omega)
  .show(if j=k then AV.a X.h 0 (cY k+1) (.B (jx k)) else v.y j)=_\/0<(if j=k then cY k+1 else cY j)
   rw[ac e,ac e];exact h.ne j d
 .show nZ (if j=k then _ else _);by_cases e:j=k
  .rw[ae e];exact(h.i k f).app t
  .rw[ac e];exact h.i j d
 .exact(ac (m mb u)).t h.om
 .exact(ac (m v.m i)).t h.os
 .exact(ac (m v.c g)).t h.oc
 .by_cases e:c=X.h
  .exact⟨by omega,by show c<b.h;omega⟩
  .have a:=a;rw[ac e] at a;exact⟨(h.ob c a).1,by have:=(h.ob c a).2;show c<b.h;omega⟩
 .rw[show(v.put k (.a X.h 0 (cY k+1) (.B (jx k)))).m=v.m from R,F v.m i p (λq=>by have:=h.C k f _ q;rw[h.os] at this;omega)];exact h.mM
 .rw[show(v.put k (.a X.h 0 (cY k+1) (.B (jx k)))).c=v.c from R,F v.c g n (λq=>by have:=h.C k f _ q;rw[h.oc] at this;omega)];exact h.mC
 .by_cases e:c=mb
  .rw[e,h.D];exact .inr (eM.two h.wb)
  .by_cases q:ar (v.y k) c
   .exact .inr (h.lA f q)
   .exact .inl (F c a e q)
end
end
end
section
variable {y:AV}{p:ES}{d e:HN}{u v:L Nat}{c:L aS}{b f k q s:Nat}{o:Nat->Nat}
def tD(c:HN)(b:Nat)(M:Nat->Option AV):Prop:=∃a,c.f b=.mp a/\(∀e∈a,∃s:Nat,e.1=II s)/\∀n,ml lR (II n) a=some (M n)
def tD.eq{d a:HN}{b:Nat}{M:Nat->Option AV}(h:tD d b M)(e:a.f b=d.f b):tD a b M:=by
 let⟨c,f,g⟩:=h;exact⟨c,e.t f,g⟩
def jA(o:Nat->Nat)(b:HN):L (Nat×Nat×Tm)->L (L AV)->Prop
 |[],a=>a=[]
 |x::c,a=>∃z r,a=(iv x.1::iv x.2.1::z)::r/\mJ o b x.2.2 z/\jA o b c r
def kO(b:HN):L (Nat×L aS)->L (L AV)->Prop
 |[],a=>a=[]
 |x::c,a=>∃y r,a=[iv x.1,y]::r/\dS b y x.2/\kO b c r
def jA.step{U e:HN}{o b:Nat->Nat}(s:bh U o e b):∀{l:L (Nat×Nat×Tm)} {a:L (L AV)},jA o U l a->jA b e l a
 |[],_,h=>h
 |_::_,_,⟨z,r,a,b,c⟩=>⟨z,r,a,b.step s,jA.step s c⟩
def bh.yu{a:Nat->Nat}(s:bh d o e a)(g:dS d y c):dS e y c:=uQ g s.ck s.h
def kO.step{U e:HN}{o a:Nat->Nat}(s:bh U o e a):∀{l:L (Nat×L aS)} {a:L (L AV)},kO U l a->kO e l a
 |[],_,h=>h
 |_::_,_,⟨y,r,a,b,c⟩=>⟨y,r,a,s.yu b,kO.step s c⟩
def jt(l:L aQ):L AV:=(l.map aQ.cells).flatten
def nK(d e:L Nat)(a:ES)(b c:L (L AV)):Nat->L AV
 |0=>d.map iv
 |1=>e.map iv
 |2=>a.an.map iv
 |3=>a.y.map iv
 |4=>a.s.map iv
 |5=>jt a.j
 |6=>b.flatten
 |7=>c.flatten
 |_=>jt a.l
def it(b c:L Nat)(a:ES):Nat->Nat
 |0=>N b
 |1=>N c
 |2=>N a.an
 |3=>N a.y
 |4=>N a.s
 |5=>N a.j
 |6=>N a.late
 |7=>N a.f
 |_=>N a.l
structure ba (base mb:Nat) (v:cK) (o:Nat->Nat) (pi po:List Nat) (σ:S->Option Nat) (st:ES) (U:HN):Prop where
 W:∃l6 l7,kr base mb v o (nK pi po st l6 l7) (it pi po st) U/\jA o U st.late l6/\kO U st.f l7
 mM:fL U v.m λs=>(σ s).map iv
 mC:tD U v.c λn=>(ot st.s n).map iv
def fh(v a:cK):Prop:=a.n=v.n/\a.d=v.d/\a.w=v.w/\a.b=v.b/\a.e=v.e/\a.a=v.a/\a.m=v.m/\a.c=v.c
def fh.refl(v:cK):fh v v:=dy
def fh.put(v:cK)(k:Nat)(y:AV):fh v (v.put k y):=dy
def fh.M{a b c:cK}(h:fh a b)(g:fh b c):fh a c:=by
 let⟨n,o,p,q,r,s,t,u⟩:=h;let⟨d,e,f,i,j,k,l,m⟩:=g;exact⟨d.t n,e.t o,f.t p,i.t q,j.t r,k.t s,l.t t,m.t u⟩
def ba.base{a:cK}{b:S->Option Nat}(h:ba f q a o u v b p d):f<=d.h/\f<=q/\q<d.h:=by
 let⟨_,c,H,_⟩:=h.W
 have:=H.ob q (by rw[H.om];decide)
 omega
def ba.X{a:cK}{b:S->Option Nat}{st:ES}{U:HN}(h:ba f q a o u v b st U)(x:ai U.h U e):ba f q a o u v b st e:=by
 let⟨g,i,H,c,d⟩:=h.W;exact⟨⟨g,i,H.X x,c.step (.ext x),d.step (.ext (o:=o) x)⟩,h.mM.eq (x.2 _ (H.ob a.m (by rw[H.os];decide)).2),h.mC.eq (x.2 _ (H.ob a.c (by rw[H.oc];decide)).2)⟩
def jA.fv{U e:HN}{o d:Nat->Nat}(b:U.h<=e.h)(K:∀c,c<U.h->o c<=12->e.f c=U.f c)(a:∀c,c<U.h->e.f c=U.f c\/eM (U.f c))(f:∀c,c<U.h->d c=o c):∀{l:L (Nat×Nat×Tm)} {c:L (L AV)},jA o U l c->jA d e l c
 |[],_,h=>h
 |_::_,_,⟨z,r,c,d,g⟩=>⟨z,r,c,d.fv b K a f,jA.fv b K a f g⟩
def kO.fv{U e:HN}(b:U.h<=e.h)(a:∀c,c<U.h->e.f c=U.f c\/eM (U.f c)):∀{l:L (Nat×L aS)} {c:L (L AV)},kO U l c->kO e l c
 |[],_,h=>h
 |_::_,_,⟨y,r,c,d,f⟩=>⟨y,r,c,uQ d a b,kO.fv b a f⟩
def ba.fv{a:cK}{d:Nat->Nat}{k:S->Option Nat}{st:ES}{U:HN}(h:ba f q a o u v k st U)(b:U.h<=e.h)(K:∀c,c<U.h->o c<=12->e.f c=U.f c)(i:∀c,c<U.h->e.f c=U.f c\/eM (U.f c))(j:∀c,c<U.h->d c=o c)(g:∀c,d c≠0->f<=c/\c<e.h):ba f q a d u v k st e:=by
 let⟨l,m,H,c,d⟩:=h.W;exact⟨⟨l,m,H.fv b K j g,c.fv b K i j,d.fv b i⟩,h.mM.eq (K _ (H.ob a.m (by rw[H.os];decide)).2 (by rw[H.os];decide)),h.mC.eq (K _ (H.ob a.c (by rw[H.oc];decide)).2 (by rw[H.oc];decide))⟩
def ba.vp{a:cK}{b:S->Option Nat}(h:ba f q a o u v b p d):∀c,o c≠0->f<=c/\c<d.h:=by
 let⟨_,c,H,_⟩:=h.W;exact H.ob
def ba.grow{g:cK}{m:S->Option Nat}{b e:L (L AV)}(h:ba f q g o u v m p d)(H:kr f q g o (nK u v p b e) (it u v p) d)(l:k<9){new:L AV}(s:nZ new){X a:HN}(E:ai d.h d X)(t:a.h=X.h+1)
  (o2:aH (jx k) f a (.a X.h 0 (it u v p k+1) (.B (jx k))) (it u v p k+1) (nK u v p b e k++new)) (i:∀c,c<X.h->¬ar (g.y k) c->a.f c=X.f c)
  {pi' po':L Nat} {st':ES} {l6' l7':L (L AV)} (y:∀j,j<9->nK pi' po' st' l6' l7' j=if j=k then nK u v p b e k++new else nK u v p b e j) (x:∀j,j<9->it pi' po' st' j=if j=k then it u v p k+1 else it u v p j)
  (j:(λn=>(ot st'.s n).map iv)=λn=>(ot p.s n).map iv)
  (n:∀c b,bh d o b c->jA c b st'.late l6') (r:∀c b,bh d o b c->kO b st'.f l7'):
  ∃c,ba f q (g.put k (.a X.h 0 (it u v p k+1) (.B (jx k)))) c pi' po' m st' (a.put q (LL (g.put k (.a X.h 0 (it u v p k+1) (.B (jx k)))).cells))/\
  bh d o (a.put q (LL (g.put k (.a X.h 0 (it u v p k+1) (.B (jx k)))).cells)) c:=by
 let⟨c,S⟩:=H.grow l s h.base.1 E t o2 i;have K:∀b,o b≠0->o b≠1->o b≠k+4->(a.put q (LL (g.put k (.a X.h 0 (it u v p k+1) (.B (jx k)))).cells)).f b=d.f b:=λb a s t=>by
  have w:=(H.ob b a).2
  have:=E.1
  exact(ac λe=>s (by rw[e];exact H.om)).t ((i b Y λa=>t (H.C k l b a)).t (E.2 b w))
 exact⟨_,⟨⟨l6',l7',c.congr y x,n _ _ S,r _ _ S⟩,h.mM.eq (K g.m (by rw[H.os];decide) (by rw[H.os];decide) (by rw[H.os];omega)),by rw[j];exact h.mC.eq (K g.c (by rw[H.oc];decide) (by rw[H.oc];decide) (by rw[H.oc];omega))⟩,S⟩
def ba.app{e:cK}{r:S->Option Nat}{a b:L (L AV)}(h:ba f q e o u v r p d)(H:kr f q e o (nK u v p a b) (it u v p) d){w n:Nat}(l:k<9)(D:jx k=s)(B:it u v p k=n){g:L AV}(z:nZ g){X:HN}{m:AV}(E:ai d.h d X)
  (I:cD s X m 1 g) (F:(n+1)*w<=140737488355328) {pi' po':L Nat} {st':ES} {l6' l7':L (L AV)} (C:∀j,j<9->nK pi' po' st' l6' l7' j=if j=k then nK u v p a b k++g else nK u v p a b j) (y:∀j,j<9->it pi' po' st' j=if j=k then it u v p k+1 else it u v p j)
  (i:(λn=>(ot st'.s n).map iv)=λn=>(ot p.s n).map iv) (t:∀c a,bh d o a c->jA c a st'.late l6') (x:∀c a,bh d o a c->kO a st'.f l7'):
  ∃a c,gj s w (e.y k) m X=.ok (.a X.h 0 (n+1) (.B s)) a/\a.f q=LL e.cells/\ba f q (e.put k (.a X.h 0 (n+1) (.B s))) c pi' po' r st' (a.put q (LL (e.put k (.a X.h 0 (n+1) (.B s))).cells))/\
  bh d o (a.put q (LL (e.put k (.a X.h 0 (n+1) (.B s))).cells)) c:=by
 subst D;subst B;have b:=h.base
 have:=E.1
 let⟨a,m,o2,B,b⟩:=oS (w:=w) (YA k) ((H.X E).own k l) I dc F Y;have j:¬ar (e.y k) q:=λF=>by have:=H.C k l q F;rw[H.om] at this;omega
 let⟨c,M,T⟩:=h.grow H l z E B o2 b C y i t x;exact⟨a,c,m,(b q Y j).t ((E.2 q Y).t H.D),M,T⟩
def sX{a:L AV}(c:d.f b=LL a)(e:b<d.h)(f:N a=s):cD s d (.a b 0 1 (.k 1)) 1 a:=
 .inr ⟨b,0,_,false,a,R,c,e,Y,Y,by rw[ng,iM (by omega)]⟩
def nine{P:Nat->Prop}(a:P 0)(b:P 1)(c:P 2)(d:P 3)(e:P 4)(f:P 5)(g:P 6)(h:P 7)(i:P 8):∀j,j<9->P j:=λj k=>by
 match j,k with
 |0,_=>exact a
 |1,_=>exact b
 |2,_=>exact c
 |3,_=>exact d
 |4,_=>exact e
 |5,_=>exact f
 |6,_=>exact g
 |7,_=>exact h
 |8,_=>exact i
def qp(n:Nat)(r:L AV):nZ (iv n::r):=.inr ⟨n,r,R⟩
def yU(l:L Nat)(n:Nat):(l++[n]).map iv=l.map iv++[iv n]:=by rw[cM];rfl
def Yn{a:cK}{r:S->Option Nat}(h:ba f q a o u v r p d)(b:N p.an<=900000000000){i:Nat}{g:AV->HN->Prop}
  (k:∀y e b,ba f q (a.put 2 y) e u v r {p with an:=p.an++[i]} b->bh d o b e->(∀c,c<d.h->o c=11->b.f c=d.f c)->g (II (N p.an)) b):∃j b,aq Tryz.prog 102 [.p q 0,i] d j b/\g j b:=by
 let⟨y,z,H,t,w⟩:=h.W;have b:=h.base;have n:d.f q=LL [a.n,a.d,a.w,a.b,a.e,a.a,a.y 0,a.y 1,a.y 2,a.y 3,a.y 4,a.y 5,.map a.m,.map a.c,a.y 6,a.y 7,a.y 8]:=H.D;refine c0 Tryz.func102 ?_;refine S1 n ?_;obtain⟨X,b⟩:∃X,X=d.X (LL [i]):=⟨_,R⟩;have l:ai d.h d X:=by rw[b];exact ap (.refl _ _)
 have j:X.h=d.h+1:=by rw[b];rfl
 have j:X.f d.h=LL [i]:=by rw[b];exact ae R
 rw[<-b];clear b;have m:=H.X l;let⟨_,s,o2,B,b⟩:=oS (s:=1) (w:=8) (m:=1) (k:=[iv i]) dc (m.own 2 dc) (y:=.a d.h 0 1 (.k 1)) (.inr ⟨_,0,_,false,_,R,j,Y,ak _,R,R⟩) dc (by show(N p.an+1)*8<=_;omega) Y;have j:¬ar (a.y 2) q:=λm=>by have:=H.C 2 dc q m;rw[H.om] at this;cases this
 have x:=(b q Y j).t ((l.2 q Y).t n);rw[s];let⟨e,M,T⟩:=h.grow H (k:=2) dc (qp i []) l B o2 b (pi':=u) (po':=v) (st':={p with an:=p.an++[i]}) (l6':=y) (l7':=z) (nine R R (yU _ _) R R R R R R) (nine R R (by show(p.an++[i]).length=_;rw[ay];rfl) R R R R R R) R (λ_ _ s=>t.step s) (λ_ _ s=>w.step s);have j:it u v p 2=N p.an:=R;refine S2 x j ?_;exact k _ e _ M T λc n j=>(ac λe=>by rw[e,H.om] at j;cases j).t ((b c Y λm=>om (H.C 2 dc c m)).t (l.2 c n))
def xe{e:cK}{j:S->Option Nat}(h:ba f q e o u v j p d)(l:N p.an<=900000000000){c:Nat}{g:AV->HN->Prop}
 (k:∀y b a,ba f q (e.put 2 y) b u v j {p with an:=p.an++[c]} a->bh d o a b->g (II (N p.an)) a):∃i a,aq Tryz.prog 102 [.p q 0,c] d i a/\g i a:=Yn h l λy b a M T _=>k y b a M T
def iR(b:Nat)(a:L Nat):aQ:=⟨b,a.getD 0 0,a.getD 1 0,a.getD 2 0⟩
def aeE(b:Nat):∀(a:L Nat) (i:Nat) (h:i<N a),N a<=3->(iR b (a.take i)).cells.set (i+1) (iv a[i])=(iR b (a.take (i+1))).cells
 |[],_,h,_=>by simp at h
 |[_],0,_,_=>rfl
 |[_],_+1,h,_=>by simp at h
 |[_,_],0,_,_=>rfl
 |[_,_],1,_,_=>rfl
 |[_,_],n+2,h,_=>absurd h (by show¬n+2<2;omega)
 |[_,_,_],0,_,_=>rfl
 |[_,_,_],1,_,_=>rfl
 |[_,_,_],2,_,_=>rfl
 |[_,_,_],n+3,h,_=>absurd h (by show¬n+3<3;omega)
 |_::_::_::_::_,_,_,h=>by simp at h
def Sm(l:L aQ)(i:aQ):jt (l++[i])=jt l++i.cells:=by unfold jt;rw[cM,nh];simp
def JP{n:cK}{a3:S->Option Nat}(h:ba f q n o u v a3 p d)(a:N p.j<=900000000000){r:Nat}{j:L Nat}(ry:cD 1 d y (N j) (j.map iv))(hx:N j<=3){g:AV->HN->Prop}
  (k:∀y o' a,ba f q (n.put 5 y) o' u v a3 {p with j:=p.j++[iR r j]} a->bh d o a o'->(∀c,c<d.h->o c=11->a.f c=d.f c)->g (.i .i64 (N p.j)) a):∃w a,aq Tryz.prog 76 [.p q 0,.i .i64 r,y] d w a/\g w a:=by
 let⟨l6,l7,H,R6,R7⟩:=h.W;have hm:=h.base;have hb:d.f q=.E false [.s n.n.1 n.n.2,n.d,n.w,n.b,n.e,.i .i64 n.a,n.y 0,n.y 1,n.y 2,n.y 3,n.y 4,n.y 5,.map n.m,.map n.c,n.y 6,n.y 7,n.y 8]:=H.D;have ln:∀(a:HN) (e w:Nat),eF (.a e 1 w) y a=.ok (.i .i64 (N j)) a:=by
  intro a e w;rcases ry with⟨h0,-,rfl|⟨b,off,cap,rfl⟩⟩|⟨b,off,cap,ro,row,rfl,-⟩
  .rw[h0];rfl
  .rw[h0];rfl
  .rw[ov,nD,ae (by omega)]
 refine cf Ww Tryz.func76 ?_;refine S1 ln ?_;let⟨I,hI⟩:=inv λm a z=>∃i,m=N j-i/\i<=N j/\(a 0=.p q 0/\a 7=.p d.h 0/\a 12=y/\a 13=.i .i64 (N j)/\a 14=.i .i64 i)/\z.h=d.h+1/\z.f d.h=.E false (iR r (j.take i)).cells/\∀c,c<d.h->z.f c=d.f c;refine aT I (N j) ((hI _ _ _).2 ⟨0,R,aJ _,dy,R,ae R,λc V=>ac Y⟩) ?_;intro m a z a;let⟨i,w,a,⟨p0,U,B,x,F⟩,nz,fz,kz⟩:=(hI _ _ _).1 a;have C:z.f d.h=.E false [.i .i64 r,.i .i64 ((j.take i).getD 0 0),.i .i64 ((j.take i).getD 1 0),.i .i64 ((j.take i).getD 2 0)]:=fz;by_cases P:i<N j
 .obtain⟨b,off,cap,ro,row,rfl,l,a0,a,-,Z⟩:=ry.resolve_left (λa=>Y);have D:=(kz b a0).t l;have O:row[off+i]?=some (.i .i64 j[i]):=by
   have:=dv (λl=>l[i]?) Z
   simp only[qG,mG,pF,bM P] at this;rw[ae (by omega)] at this;exact this
  have l:=aeE r j i P hx;have K:∀a,a 0=.p q 0->a 7=.p d.h 0->a 12=.a b off (N j) cap->a 13=.i .i64 (N j)->a 14=.i .i64 (i+1)->∃w,w<m/\I w a (z.put d.h (.E false (iR r (j.take (i+1))).cells)):=λa a b c m e=>
   ⟨N j-(i+1),Y,(hI _ _ _).2 ⟨i+1,R,P,⟨a,b,c,m,e⟩,nz,ae R,λc V=>(ac Y).t (kz c V)⟩⟩
  have s:[AV.i .i64 r,.i .i64 ((j.take i).getD 0 0),.i .i64 ((j.take i).getD 1 0),.i .i64 ((j.take i).getD 2 0)].set (i+1) (.i .i64 j[i])=(iR r (j.take (i+1))).cells:=l
  rcases(show i=0\/i=1\/i=2 by omega) with h0|h0|h0
  .have e:[.i .i64 r,.i .i64 j[i],.i .i64 ((j.take i).getD 1 0),.i .i64 ((j.take i).getD 2 0)]=(iR r (j.take (i+1))).cells:=by subst h0;exact s
   simp(disch:=omega)only[go_sem,U,B,x,F,D,O,C,zs];rw[e];exact K _ (dx p0) (dx U) (dx B) (dx x) R
  .have e:[.i .i64 r,.i .i64 ((j.take i).getD 0 0),.i .i64 j[i],.i .i64 ((j.take i).getD 2 0)]=(iR r (j.take (i+1))).cells:=by subst h0;exact s
   simp(disch:=omega)only[go_sem,U,B,x,F,D,O,C,zs];rw[e];exact K _ (dx p0) (dx U) (dx B) (dx x) R
  .have e:[.i .i64 r,.i .i64 ((j.take i).getD 0 0),.i .i64 ((j.take i).getD 1 0),.i .i64 j[i]]=(iR r (j.take (i+1))).cells:=by subst h0;exact s
   simp(disch:=omega)only[go_sem,U,B,x,F,D,O,C,zs];rw[e];exact K _ (dx p0) (dx U) (dx B) (dx x) R
 .obtain rfl:i=N j:=Y;rw[iM (ak _)] at fz C;have D:=(kz q hm.2.2).t hb;refine S6 p0 U x F C D ?_;obtain⟨X,a⟩:∃X,X=(((z.at_ (z.h+(1+1+1+1+1+1+1))).X (.E false [.i .i64 r,.i .i64 (j.getD 0 0),.i .i64 (j.getD 1 0),.i .i64 (j.getD 2 0)])).at_ (z.h+(1+1+1+1+1+1+1+1+1+1+1+1+1))):=⟨_,R⟩;have EX:ai d.h d X:=by
   rw[a];refine⟨by show d.h<=z.h+(1+1+1+1+1+1+1+1+1+1+1+1+1);omega,λc V=>(ac (by show¬c=z.h+(1+1+1+1+1+1+1);omega)).t (kz c V)⟩
  have b:X.h=z.h+13:=by rw[a];rfl
  have b:X.f (z.h+(1+1+1+1+1+1+1))=.E false (iR r j).cells:=by rw[a];exact ae R
  rw[<-a];clear a;have a:=H.X EX;let⟨i,e2,o2,n2,t⟩:=oS (s:=4) (w:=32) (m:=1) (k:=(iR r j).cells) dc (a.own 5 dc) (y:=.a (z.h+(1+1+1+1+1+1+1)) 0 1 (.k 1)) (.inr ⟨_,0,_,false,_,R,b,Y,ak _,R,R⟩) dc (by show(N p.j+1)*32<=_;omega) Y;have a1:¬ar (n.y 5) q:=λa2=>by have:=H.C 5 dc q a2;rw[H.om] at this;cases this
  have b:=(t q Y a1).t ((EX.2 q Y).t hb);rw[e2];let⟨o',M,T⟩:=h.grow H (k:=5) dc (qp r _) EX n2 o2 t (pi':=u) (po':=v) (st':={p with j:=p.j++[iR r j]}) (l6':=l6) (l7':=l7) (nine R R R R R (Sm _ _) R R R) (nine R R R R R (by show(p.j++[iR r j]).length=_;rw[ay];rfl) R R R) R (λ_ _ s=>R6.step s) (λ_ _ s=>R7.step s);have a:it u v p 5=N p.j:=R;refine S3 b a p0 ?_;exact k _ o' _ M T λc V W=>(ac λe=>by rw[e,H.om] at W;cases W).t ((t c Y λa2=>om (H.C 5 dc c a2)).t (EX.2 c V))
def Q4{i:cK}{l:S->Option Nat}(h:ba f q i o u v l p d)(m:N p.j<=900000000000){e:Nat}{c:L Nat}(r:cD 1 d y (N c) (c.map iv))(n:N c<=3){g:AV->HN->Prop}
 (k:∀y b a,ba f q (i.put 5 y) b u v l {p with j:=p.j++[iR e c]} a->bh d o a b->g (II (N p.j)) a):∃j a,aq Tryz.prog 76 [.p q 0,e,y] d j a/\g j a:=JP h m r n λy b a M T _=>k y b a M T
end
section
open Tryz renaming prog->tz
open Tryz
variable {g:AV->HN->Prop}{p:ES}{d:HN}{u v:L Nat}{f q:Nat}{o:Nat->Nat}
def Lx{a:cK}{m:S->Option Nat}(h:ba f q a o u v m p d)(y:N p.an<=900000000000/\N p.y<=900000000000/\N p.l<=900000000000){c:Nat}
  (k:∀e i b,ba f q e i u v m (kD c p).2 b->bh d o b i->fh a e->g (.t [N p.y,N p.an]) b):∃e b,aq tz 109 [.p q 0,c] d e b/\g e b:=by
 let⟨x,z,H,r,t⟩:=h.W;have b:=h.base;have n:d.f q=LL [a.n,a.d,a.w,a.b,a.e,a.a,a.y 0,a.y 1,a.y 2,a.y 3,a.y 4,a.y 5,.map a.m,.map a.c,a.y 6,a.y 7,a.y 8]:=H.D;refine cf VB func109 ?_;refine S1 n ?_;obtain⟨X,b⟩:∃X,X=d.X (LL [c]):=⟨_,R⟩;have e:ai d.h d X:=by rw[b];exact ap (.refl _ _)
 have j:X.h=d.h+1:=by rw[b];rfl
 have j:X.f d.h=LL [c]:=by rw[b];exact ae R
 rw[<-b];clear b;have w:=H.X e;let⟨l,s,o2,B,b⟩:=oS (s:=1) (w:=8) (m:=1) (k:=[iv c]) dc (w.own 3 dc) (y:=.a d.h 0 1 (.k 1)) (.inr ⟨_,0,_,false,_,R,j,Y,ak _,R,R⟩) dc (by show(N p.y+1)*8<=_;omega) Y;have j:¬ar (a.y 3) q:=λw=>by have:=H.C 3 dc q w;rw[H.om] at this;cases this
 have w:=(b q Y j).t ((e.2 q Y).t n);rw[s];let⟨i,M,T⟩:=h.grow H (k:=3) dc (qp c []) e B o2 b (pi':=u) (po':=v) (st':={p with y:=p.y++[c]}) (l6':=x) (l7':=z) (nine R R R (yU _ _) R R R R R) (nine R R R (by show(p.y++[c]).length=_;rw[ay];rfl) R R R R R) R (λ_ _ s=>r.step s) (λ_ _ s=>t.step s);have b:it u v p 3=N p.y:=R;rw[b] at M T;refine S2 w b ?_;obtain⟨b,e⟩:∃b,b=l.put q (LL [a.n,a.d,a.w,a.b,a.e,a.a,a.y 0,a.y 1,a.y 2,.a X.h 0 (N p.y+1) (.B 1),a.y 4,a.y 5,.map a.m,.map a.c,a.y 6,a.y 7,a.y 8]):=⟨_,R⟩;have x:b.f q=LL [a.n,a.d,a.w,a.b,a.e,a.a,a.y 0,a.y 1,a.y 2,.a X.h 0 (N p.y+1) (.B 1),a.y 4,a.y 5,.map a.m,.map a.c,a.y 6,a.y 7,a.y 8]:=by rw[e];exact ae R
 have M:ba f q (a.put 3 (.a X.h 0 (N p.y+1) (.B 1))) i u v m {p with y:=p.y++[c]} b:=by rw[e];exact M
 have T:bh d o b i:=by rw[e];exact T
 rw[<-e];clear e;refine bL (xe M y.1 λr o2 b n e=>?_);have w:=T.M e;let⟨z,B,l,i,j⟩:=n.W;have t:b.f q=LL [a.n,a.d,a.w,a.b,a.e,a.a,a.y 0,a.y 1,r,.a X.h 0 (N p.y+1) (.B 1),a.y 4,a.y 5,.map a.m,.map a.c,a.y 6,a.y 7,a.y 8]:=l.D;have e:N p.y+1-1=N p.y:=R;refine S3 x t e ?_;let⟨e,C,y,f4,t,x⟩:=n.app l (k:=8) (s:=4) (w:=32) (n:=N p.l) dc R R (qp 2 [iv (N p.an),iv (N p.y),iv 0]) (ap (y:=LL [II 2,N p.an,N p.y,II 0]) (.refl _ _)) (sX (ae R) (bJ _) R) Y
  (pi':=u) (po':=v) (st':=(kD c p).2) (l6':=z) (l7':=B) (nine R R R R R R R R (Sm _ ⟨2,N p.an,N p.y,0⟩)) (nine R R R R R R R R (by show(p.l++[_]).length=_;rw[ay];rfl)) R (λ_ _ s=>i.step s) (λ_ _ s=>j.step s)
 have i:gj 4 32 (a.y 8) (.a b.h 0 1 (.k 1)) (b.X (LL [II 2,II (N p.an),II (N p.y),II 0]))=.ok (.a (b.h+1) 0 (N p.l+1) (.B 4)) e:=y;have b:e.f q=LL [a.n,a.d,a.w,a.b,a.e,a.a,a.y 0,a.y 1,r,.a X.h 0 (N p.y+1) (.B 1),a.y 4,a.y 5,.map a.m,.map a.c,a.y 6,a.y 7,a.y 8]:=f4;rw[i];refine S1 b ?_;exact k _ C _ t (w.M x) (((fh.put a 3 _).M (.put _ 2 _)).M (.put _ 8 _))
variable {i s:Nat}
section
def ints_at{l:L Nat}(h:i<N l):(l.map iv)[i]?=some (II (l.getD i 0)):=by
 rw[pF,bM h,cA,bM h];rfl
def K0(l:L aQ):N (jt l)=N l*4:=by
 unfold jt;rw[jZ (s:=4) _ (λx a=>by obtain⟨i,_,rfl⟩:=cN.1 a;rfl),aC]
def Sn(l:L aQ)(p n:Nat)(h:p<N l):(jt l).set (p*4+1) (II n)=jt (l.set p ⟨l[p].o,n,l[p].b,l[p].c⟩):=by
 have:=MQ (s:=4) (p:=1) (r:=[n]) (gf R) (l.map aQ.cells) p (λx a=>by obtain⟨i,_,rfl⟩:=cN.1 a;rfl) (by rw[aC];exact h)
 unfold jt;rw[<-zs,this,kM,Iu]
 rfl
def aeF(l:L aQ):nZ (jt l):=by
 cases l with
 |nil=>exact .inl R
 |cons i l=>exact .inr ⟨i.o,_,R⟩
def ba.Yi{m:cK}{t:S->Option Nat}(h:ba f q m o u v t p d){a:L aQ}(i:N a=N p.j)(b:0<N p.j):
  ∃b,m.y 5=.a b 0 (N p.j) (.B 4)/\d.f b=LL (jt p.j)/\b≠q/\ba f q m o u v t {p with j:=a} (d.put b (LL (jt a)))/\bh d o (d.put b (LL (jt a))) o:=by
 let⟨j,l,H,w,x⟩:=h.W;obtain⟨b,r,s,n,k⟩:∃b,f<=b/\b<d.h/\m.y 5=.a b 0 (N p.j) (.B 4)/\d.f b=LL (jt p.j):=by
  obtain⟨z,⟨e,c⟩|⟨b,r,s,⟨e,c,_⟩|⟨e,g⟩⟩⟩:=H.own 5 dc
  .exact absurd c (by show¬N p.j=0;omega)
  .exact absurd c (by show¬N p.j=0;omega)
  .exact⟨b,r,s,e,g⟩
 have g:o b=9:=H.C 5 dc b (by rw[n];rfl);have y:b≠q:=λe=>by rw[e,H.om] at g;cases g
 have K:∀c,o c≠9->(d.put b (LL (jt a))).f c=d.f c:=λc i=>ac λe=>i (by rw[e];exact g);have S:bh d o (d.put b (LL (jt a))) o:=⟨ak _,λc _ z=>K c Y,λ_ _=>R,λc _=>by
  by_cases e:c=b
  .rw[e];exact .inr (H.lA (k:=5) dc (by rw[n];rfl))
  .exact .inl (ac e)⟩
 refine⟨b,n,k,y,⟨⟨j,l,⟨(K q (by rw[H.om];decide)).t H.D,λk g=>?_,H.C,λk g=>?_,λk g=>?_,H.om,H.os,H.oc,H.ob,?_,?_,H.wb⟩,w.step S,x.step S⟩,h.mM.eq (K _ (by rw[H.os];decide)),h.mC.eq (K _ (by rw[H.oc];decide))⟩,S⟩
 .by_cases e:k=5
  .subst e;show aH 4 f _ (m.y 5) (N a) (jt a);rw[n,i];exact⟨by rw[K0,i],.inr ⟨b,r,s,.inr ⟨R,ae R⟩⟩⟩
  .have n:nK u v {p with j:=a} j l k=nK u v p j l k:=by
    match k,g with
    |0,_|1,_|2,_|3,_|4,_|6,_|7,_|8,_=>rfl
    |5,_=>exact absurd R e
   have b:it u v {p with j:=a} k=it u v p k:=by
    match k,g with
    |0,_|1,_|2,_|3,_|4,_|6,_|7,_|8,_=>rfl
    |5,_=>exact absurd R e
   rw[n,b];exact kG (H.own k g) (λc i=>K c (by rw[H.C k g c i];omega)) (ak _)
 .by_cases e:k=5
  .subst e;exact .inr (by show 0<N a;omega)
  .have b:it u v {p with j:=a} k=it u v p k:=by
    match k,g with
    |0,_|1,_|2,_|3,_|4,_|6,_|7,_|8,_=>rfl
    |5,_=>exact absurd R e
   rw[b];exact H.ne k g
 .by_cases e:k=5
  .subst e;exact aeF _
  .have n:nK u v {p with j:=a} j l k=nK u v p j l k:=by
    match k,g with
    |0,_|1,_|2,_|3,_|4,_|6,_|7,_|8,_=>rfl
    |5,_=>exact absurd R e
   rw[n];exact H.i k g
 .rw[K _ (by rw[H.os];decide)];exact H.mM
 .rw[K _ (by rw[H.oc];decide)];exact H.mC
def C7{a:cK}{m:S->Option Nat}(h:ba f q a o u v m p d)(b:N p.an<=900000000000)(l:s<N p.an)
  (k:g (II (mQ p s)) d):∃c b,aq tz 111 [.p q 0,s] d c b/\g c b:=by
 let⟨_,_,H,_,b⟩:=h.W;have i:d.f q=LL [a.n,a.d,a.w,a.b,a.e,a.a,a.y 0,a.y 1,a.y 2,a.y 3,a.y 4,a.y 5,.map a.m,.map a.c,a.y 6,a.y 7,a.y 8]:=H.D;obtain⟨b,e,j⟩:∃b,a.y 2=.a b 0 (N p.an) (.B 1)/\d.f b=LL (p.an.map iv):=by
  obtain⟨c,⟨e,c⟩|⟨b,n,n,⟨e,c,_⟩|⟨e,i⟩⟩⟩:=H.own 2 dc
  .exact absurd c (by show¬N p.an=0;omega)
  .exact absurd c (by show¬N p.an=0;omega)
  .exact⟨b,e,i⟩
 have b:=ints_at l;have c:N (p.an.map iv)=N p.an:=aC ..;refine c0 func111 ?_;refine S4 i e j b ?_;exact k
def aes{a:cK}{m:S->Option Nat}(h:ba f q a o u v m p d)(b:N p.j<=900000000000){i:Nat}(r:i<N p.j){g:AV->HN->Prop}
  (k:∀b,ba f q a o u v m {p with j:=p.j.set i ⟨p.j[i].o,N p.j,p.j[i].b,p.j[i].c⟩} b->bh d o b o->(∀c,c<d.h->o c=11->b.f c=d.f c)->g (.t []) b):∃e b,aq tz 150 [.p q 0,i] d e b/\g e b:=by
 let⟨_,_,H,_,b⟩:=h.W;have n:d.f q=LL [a.n,a.d,a.w,a.b,a.e,a.a,a.y 0,a.y 1,a.y 2,a.y 3,a.y 4,a.y 5,.map a.m,.map a.c,a.y 6,a.y 7,a.y 8]:=H.D;obtain⟨b,e,l,-,M,T⟩:=h.Yi (a:=p.j.set i ⟨p.j[i].o,N p.j,p.j[i].b,p.j[i].c⟩) (jk ..) Y;have j:=K0 p.j;have j:=Sn p.j i (N p.j) r;refine cf VO func150 ?_;simp(disch:=omega)only[go_sem,n,e,l,zs,j];exact k _ M T λc c c=>ac λj=>by have:=H.C 5 dc b (by rw[e];rfl);rw[j] at c;omega
def UE{j:cK}{l:S->Option Nat}(h:ba f q j o u v l p d)(e:N p.an<=900000000000/\N p.j<=900000000000)
  (k:∀b c a,ba f q b c u v l (nG s p).2 a->bh d o a c->fh j b->(∀c,c<d.h->o c=11->a.f c=d.f c)->g (II (nG s p).1) a):∃b a,aq tz 115 [.p q 0,s] d b a/\g b a:=by
 refine c0 func115 ?_;refine S0 ?_;refine al (Yn h e.1 λa a a n b m=>?_);refine S0 ?_;have i:ai a.h a (a.X (LL [N p.an,s])):=ap (.refl _ _);refine al (JP (n.X i) e.2 (j:=[N p.an,s]) (.inr ⟨a.h,0,_,false,_,R,ae R,bJ _,ak _,R,R⟩) (by show 2<=3;decide) λa a a a e n=>?_);refine S0 ?_;exact k _ _ _ a ((b.M (.ext i)).M e) ((fh.put j 2 _).M (.put _ 5 _)) λc e a=>(n c (cW e (bC b.h i.1)) ((b.C c e).t a)).t ((i.2 c (cW e b.h)).t (m c e a))
def UG{e:cK}{i:S->Option Nat}(h:ba f q e o u v i p d)(j:N p.an<=900000000000/\N p.j<=900000000000)
 (k:∀b c a,ba f q b c u v i (nG s p).2 a->bh d o a c->fh e b->g (II (nG s p).1) a):∃b a,aq tz 115 [.p q 0,s] d b a/\g b a:=UE h j λb c a M T V _=>k b c a M T V
end
variable {y:AV}{b:Nat}
def Yg{a:Type}:∀(c r:L a) (i:Nat) (x:a),(c++r).set (N c+i) x=c++r.set i x
 |[],r,i,x=>by rw[dH,hN,gg,dH]
 |a::c,r,i,x=>by rw[fc,bt,show N c+1+i=(N c+i)+1 by omega,zR,Yg c r i x,fc]
def aea{a:Type}(c r:L a)(i:Nat)(h:N c+i<N (c++r))(a:i<N r):(c++r)[N c+i]=r[i]:=by
 rw[ZU (by omega)];congr 1;omega
def CI{t:cK}{w:S->Option Nat}{s m c:L Nat}{a l e:L aQ}{j:L (Nat×Nat×Tm)}{i:L (Nat×L aS)}(h:ba f q t o u v w ⟨s,m,c,a,l,j,i⟩ d){r n:Nat}{b:L Nat}(D:cD 1 d y (N b) (b.map iv))(C:N b<=3)
  (B:N a=n) (z:n<=900000000000) (x:a++[iR r b]=e)
  (k:∀y p a,ba f q (t.put 5 y) p u v w ⟨s,m,c,e,l,j,i⟩ a->bh d o a p->(∀c,c<d.h->o c=11->a.f c=d.f c)->g (II n) a):∃c a,aq tz 76 [.p q 0,r,y] d c a/\g c a:=by
 subst B;subst x;exact JP h z D C k
def uW{t:cK}{w:S->Option Nat}{s p i:L Nat}{a m e:L aQ}{l:L (Nat×Nat×Tm)}{j:L (Nat×L aS)}(h:ba f q t o u v w ⟨s,p,i,a,m,l,j⟩ d){r n:Nat}{c:L Nat}(D:cD 1 d y (N c) (c.map iv))(C:N c<=3)
 (B:N a=n) (z:n<=900000000000) (x:a++[iR r c]=e)
 (k:∀y b a,ba f q (t.put 5 y) b u v w ⟨s,p,i,e,m,l,j⟩ a->bh d o a b->g (II n) a):∃i a,aq tz 76 [.p q 0,r,y] d i a/\g i a:=CI h D C B z x λy b a M T _=>k y b a M T
def Sb{w:cK}{x:S->Option Nat}{t s b:L Nat}{a m y:L aQ}{l:L (Nat×Nat×Tm)}{e:L (Nat×L aS)}(h:ba f q w o u v x ⟨t,s,b,a,m,l,e⟩ d){p n:Nat}(c r:L aQ)(z:a=c++r)(B:p=N c+i)(D:i<N r)(F:N c+N r=n)(a:n<=900000000000)
  (C:c++r.set i ⟨r[i].o,n,r[i].b,r[i].c⟩=y)
  (k:∀a,ba f q w o u v x ⟨t,s,b,y,m,l,e⟩ a->bh d o a o->(∀c,c<d.h->o c=11->a.f c=d.f c)->g (.t []) a):∃j a,aq tz 150 [.p q 0,p] d j a/\g j a:=by
 subst z;subst B;subst F;subst C;have j:N (c++r)=N c+N r:=ay;refine aes h (by show(c++r).length<=_;omega) (by show _<N (c++r);omega) λa M T C=>k a ?_ T C;have z:=aea c r i Y D;have M:ba f q w o u v x ⟨t,s,b,(c++r).set (N c+i) ⟨((c++r)[N c+i]'Y).o,N (c++r),((c++r)[N c+i]'Y).b,((c++r)[N c+i]'Y).c⟩,m,l,e⟩ a:=M;rw[z,j,Yg] at M;exact M
def Sc{w:cK}{x:S->Option Nat}{t s e:L Nat}{a m b:L aQ}{l:L (Nat×Nat×Tm)}{j:L (Nat×L aS)}(h:ba f q w o u v x ⟨t,s,e,a,m,l,j⟩ d){p n:Nat}(c r:L aQ)(y:a=c++r)(z:p=N c+i)(C:i<N r)(F:N c+N r=n)(D:n<=900000000000)
 (B:c++r.set i ⟨r[i].o,n,r[i].b,r[i].c⟩=b)
 (k:∀a,ba f q w o u v x ⟨t,s,e,b,m,l,j⟩ a->bh d o a o->g (.t []) a):∃e a,aq tz 150 [.p q 0,p] d e a/\g e a:=Sb h c r y z C F D B λa M T _=>k a M T
def uv(a b:Nat):cD 1 (d.X (LL [a,b])) (.a d.h 0 2 (.k 2)) (N [a,b]) ([a,b].map iv):=.inr ⟨d.h,0,_,false,_,R,ae R,bJ _,ak _,R,R⟩
def Fo{n:cK}{t:S->Option Nat}(h:ba f q n o u v t p d)(l:N p.an<=899999999990/\N p.j<=899999999990){s c m:Nat}
  (k:∀e i a,ba f q e i u v t (kS s b c m p).2 a->bh d o a i->fh n e->g (II (N p.an)) a):∃e a,aq tz 112 [.p q 0,s,b,c,m] d e a/\g e a:=by
 let⟨j,_,co,e,_,_,a⟩:=p;dsimp only at l k;refine c0 func112 ?_;refine S0 ?_;refine al (xe h (by dsimp only;omega) λa a a r w=>?_);dsimp only at r|-;have l (i:HN) (a b:Nat):ai i.h i (i.X (LL [a,b])):=ap (.refl _ _);refine S0 ?_;refine al (uW (r.X (l _ 0 b)) (uv 0 b) (gf rfl) rfl Y rfl λa a i a i=>?_);refine S0 ?_;refine al (uW (a.X (l _ (N j) c)) (uv _ _) (gf rfl) (n:=N e+1) dp Y (e:=e++[iR 19 [0,b],iR 1 [N j,c]]) dp λa a a a r=>?_);refine S0 ?_;refine al (uW a (c:=[]) (.inl ⟨rfl,rfl,.inl rfl⟩) dc (n:=N e+2) dp Y (e:=e++[iR 19 [0,b],iR 1 [N j,c],iR 20 []]) dp λa a a a x=>?_);refine S0 ?_;refine al (Sc a e _ rfl (i:=0) rfl (gf rfl) (n:=N e+3) rfl Y rfl λa a y=>?_);refine S0 ?_;refine al (uW (a.X (l _ (N j) m)) (uv _ _) (gf rfl) (n:=N e+3) dp Y (e:=e++[⟨19,N e+3,b,0⟩,iR 1 [N j,c],iR 20 [],iR 1 [N j,m]]) (by simp[iR]) λa a a a c=>?_);refine S0 ?_;refine al (Sc a e _ rfl (i:=2) rfl (gf rfl) (n:=N e+4) rfl Y rfl λa a e=>?_);refine S0 ?_;exact k _ _ _ a ((w.M (.ext (l _ _ _))).M (i.M ((bh.ext (l _ _ _)).M (r.M (x.M (y.M ((bh.ext (l _ _ _)).M (c.M e)))))))) (((((fh.put n 2 _).M (.put _ 5 _)).M (.put _ 5 _)).M (.put _ 5 _)).M (.put _ 5 _))
variable {c:L aS}
def kO.app{d:HN}{m:Nat}{c:L aS}{y:AV}(g:dS d y c):∀{l:L (Nat×L aS)} {a:L (L AV)},kO d l a->kO d (l++[(m,c)]) (a++[[iv m,y]])
 |[],_,h=>by cases h;exact⟨y,[],R,g,R⟩
 |_::_,_,⟨z,r,a,b,e⟩=>⟨z,r++[[iv m,y]],by rw[a];rfl,b,kO.app g e⟩
def jA.app{o:Nat->Nat}{d:HN}{m s:Nat}{t:Tm}{z:L AV}(g:mJ o d t z):∀{l:L (Nat×Nat×Tm)} {a:L (L AV)},jA o d l a->jA o d (l++[(m,s,t)]) (a++[iv m::iv s::z])
 |[],_,h=>by cases h;exact⟨z,[],R,g,R⟩
 |_::_,_,⟨w,r,a,b,c⟩=>⟨w,r++[iv m::iv s::z],by rw[a];rfl,b,jA.app g c⟩
def Gb(l:L (L AV))(r:L AV):(l++[r]).flatten=l.flatten++r:=by rw[nh];simp
def Zh{n:cK}{r:S->Option Nat}(h:ba f q n o u v r p d)(a:N p.an<=900000000000/\N p.y<=900000000000/\N p.l<=900000000000/\N p.f<=900000000000){e:AV}(C:dS d e c)
  (k:∀b i a,ba f q b i u v r (pD c p).2 a->bh d o a i->fh n b->g (II (N p.an)) a):∃b a,aq tz 113 [.p q 0,e] d b a/\g b a:=by
 refine c0 func113 ?_;refine S0 ?_;refine al (Lx h Y λa b b j l z=>?_);let⟨D,F,H,w,x⟩:=j.W;have s:b.f q=LL [a.n,a.d,a.w,a.b,a.e,a.a,a.y 0,a.y 1,a.y 2,a.y 3,a.y 4,a.y 5,.map a.m,.map a.c,a.y 6,a.y 7,a.y 8]:=H.D;have m:=l.yu C;have i:=m.cells;refine S2 s i ?_;let⟨i,I,B,f4,t,y⟩:=j.app H (k:=7) (s:=2) (w:=32) (n:=N p.f) dc R R (qp (N p.y) [e]) (ap (y:=LL [N p.y,e]) (.refl _ _)) (sX (ae R) (bJ _) R) Y
  (pi':=u) (po':=v) (st':=(pD c p).2) (l6':=D) (l7':=F++[[iv (N p.y),e]]) (nine R R R R R R R (Gb _ _) R) (nine R R R R R R R (by show(p.f++[_]).length=_;rw[ay];rfl) R) R (λ_ _ s=>w.step s) (λ_ _ s=>kO.app (s.yu m) (x.step s))
 have j:gj 2 32 (a.y 7) (.a b.h 0 1 (.k 1)) (b.X (LL [II (N p.y),e]))=.ok (.a (b.h+1) 0 (N p.f+1) (.B 2)) i:=B;have b:i.f q=LL [a.n,a.d,a.w,a.b,a.e,a.a,a.y 0,a.y 1,a.y 2,a.y 3,a.y 4,a.y 5,.map a.m,.map a.c,a.y 6,a.y 7,a.y 8]:=f4;rw[j];refine S1 b ?_;exact k _ I _ t (l.M y) (z.M (.put _ 7 _))
end
end Go.Proofs.YtehahhggpdhieaaGreatDoor
