/- Lemmas of the walk of EmitKinds are proved. Conditions: none. -/
import Derived.Test.YtehahhggpdhieaaGreatDoorX33
namespace Go.Proofs.YtehahhggpdhieaaGreatDoor
set_option maxRecDepth 100000
set_option maxHeartbeats 32000000
set_option linter.all false
section
variable {c:L aS}{i:Nat}
section
def lw(F:Nd)(s:S):Prop:=s∈aE F->Acc (λy z=>y∈fA F z) s
def pZ(F:Nd)(c:L aS):Prop:=∀p∈c,lw F p.1
theorem agA{n:Nd}{s z:S}:z∈A6 n s↔∃b,(z,b)∈aF n s:=by
 unfold A6 aF;grind
theorem GD{n:Nd}{s z:S}:z∈fA n s↔s∈aE n/\z∈aE n/\(z∈eS (jE n s)\/∃b,(z,b)∈aF n s):=by
 unfold fA;split
 .rename_i h;rw[vO,Ij,zM,zM,agA];grind
 grind
theorem Pb{F:Nd}{s:S}(c:∀y∈eS (jE F s),lw F y)(d:pZ F (aF F s)):lw F s:=λa=>Acc.intro s λy e=>by
 obtain⟨-,a,b⟩:=GD.1 e;rcases b with b|⟨e,b⟩
 .exact c y b a
 .exact d _ b a
theorem aar{F:Nd}(hh:kB [] (am F))(hb:qK F)(nd:((am F).map Vr.n).Nodup){s:S}(d:(aO F s).isSome=true)(h:lw F s):pZ F (aF F s):=by
 obtain⟨j,a,rfl,-⟩:=tT d;have hm:(am F)[j]∈F.ins++(F.o++F.ao):=aU a;rcases bA.1 hm with hm|hm
 .rw[Fa hh hb nd (oJ _ hm)];exact λ_ h=>by cases h
 .have b:(am F)[j].n∈aE F:=ni hm;intro p c a;exact(h b).inv (GD.2 ⟨b,a,.inr ⟨p.2,c⟩⟩)
theorem JV{n:Nd}(nd:((am n).map Vr.n).Nodup)(own:(n.r.map aX.n).Perm (aE n)):(n.r.map aX.n).Nodup:=by
 rw[own.nodup_iff];unfold am at nd;rw[cM] at nd;exact(rF.1 nd).2.1
theorem find_eq{l:L aX}(nd:(l.map aX.n).Nodup){q:aX}(h:q∈l):l.find? (λp=>decide (p.n=q.n))=some q:=by
 induction l with
 |nil=>cases h
 |cons a l b=>
  grind
theorem FJ{n:Nd}(nd:(n.r.map aX.n).Nodup){q:aX}(h:q∈n.r):jE n q.n=q.e:=by
 unfold jE;rw[find_eq nd h]
theorem Nr{n:Nd}(nd:(n.r.map aX.n).Nodup){q:aX}(h:q∈n.r):dB n q.n=dr n q.n q.e:=by
 unfold dB;rw[find_eq (l:=n.r.reverse) J J]
theorem GG:∀{a:L Tr} {z:S},z∈dw a↔∃k∈a,z∈eS k
 |[],z=>by
  unfold dw;grind
 |k::a,z=>by
  unfold dw;rw[bA,GG];grind
section
variable {F:Nd}{l:L Nd}(hh:kB [] (am F))(hb:qK F)(nd:((am F).map Vr.n).Nodup)(nq:(F.r.map aX.n).Nodup)
def OA(F:Nd)(l:L Nd)(d:Nat):Prop:=∀i x,ja F l i x->oM F l d i x->pZ F (Cx F x)->(∀v∈x.n.ins,lw F (aW x v.n))->∀s∈aE x.n,lw F (aW x s)
include hh hb nd nq
theorem Pa{j:Nat}{x y:aP}(g:ja F l i x)(b:ja F l j y)(k:proper x.n c)(d:(y.p,y.t)=fu x c)(a:pZ F (Cx F x++jw x c)){v:Vr}(a:v∈y.n.ins){e:Tr}(f:(⟨aW y v.n,e,0⟩:aX)∈F.r)(h:∀z∈eS e,lw F z):lw F (aW y v.n):=by
 have a:v∈am y.n:=by unfold am;exact J
 refine Pb (λz m=>h z ?_) ?_
 .have:=FJ nq f
  grind
 .rw[rR hh hb b (vM.2 ⟨v,a,aB R⟩),Fa b.g.ok.hu b.g.ok.bare b.g.ok.P J,B6 hh hb g k d];show pZ F (Cx F x++jw x c++[]);grind
theorem XF{d:Nat}(hP:OA F l d){x:aP}(P:ja F l i x):∀(t:Tm) (e:Tr),kP F l (oM F l d) i x t e->qg l i x.n t->(∀s∈eS (bw t),lw F (aW x s))->pZ F (Cx F x++jw x (iu t))->∀z∈eS e,lw F z:=by
 refine Tm.E λop nm a6 a c a5 I ih=>?_;intro e h tg C u;have tk:=tg.mR;have B:=tg.T;have a0:=tg.pC;have W:=tg.td;unfold bw dF at B;unfold bw cC at a0;unfold mX at W;unfold bw at C;rw[xr] at B a0;obtain⟨pc,-,-,-,d4⟩:=W;have u:pZ F (Cx F x++jw x c):=u;unfold kP at h;let⟨o,h1,h2⟩:=h;let⟨hl,hr⟩:=xT h1;have D:op=bR\/op=bB\/op=bD->(aO x.n nm).isSome=true/\lw F (aW x nm):=λq=>by
  have:=B.1
  unfold jT at this;rw[ae q] at this;refine⟨this,C nm ?_⟩;unfold eS;grind
 have kc:∀m (b:m<N I),pZ F (Cx F x++jw x (iu I[m])):=λm b=>by
  rw[(xp d4 m b).1];unfold nC;split
  .rename_i q;let⟨K,f2⟩:=D (.inr (.inl q));rw[<-rR hh hb P K];exact aar hh hb nd (P.dec.at K).1 f2
  .split
   .rename_i q;let⟨K,f2⟩:=D (.inr (.inr q));intro p hp;rcases bA.1 hp with hp|hp
    .exact u p J
    .obtain⟨p',hp',rfl⟩:=cN.1 hp;rcases bA.1 hp' with hp'|hp'
     .exact u _ (jl _ (ni hp'))
     grind
   .exact u
 have g:∀m (b:m<N I) (f:m<N o),(∀s∈eS (bw I[m]),lw F (aW x s))->∀z∈eS o[m],lw F z:=λm b f a1=>ih _ (aU b) _ (hr m b f) (tk _ (aU _)) a1 (kc m b);rcases h2 with⟨nc,rfl⟩|⟨rfl,j,y,h3,h4,h5,h6,h7,h8,rfl⟩
 .intro z hz;unfold eS at hz;rcases bA.1 hz with hz|hz
  .split at hz
   .rename_i q;let⟨K,f2⟩:=D q;rw[ac (GU P.g K)] at hz;grind
   .grind
  .split at hz
   .grind
   .rename_i q0;split at hz
    .rename_i q1
     match o,hl,hr,g,hz with
     |[],_,_,_,hz=>unfold qu at hz;cases hz
     |k'::r',hl,hr,g,hz=>
      unfold qu at hz
      match I,hl,g,C with
      |k::r,hl,g,C=>
       refine g 0 (jm _) (jm _) (λs hs=>C s ?_) z hz;unfold eS;refine jl _ ?_;rw[ac q0,ae q1]
       assumption
    .rename_i q1;let⟨k',a2,a4⟩:=GG.1 hz;obtain⟨m,f,rfl⟩:=gB a2;refine g m Y f (λs hs=>C s ?_) z a4;unfold eS;refine jl _ ?_;rw[ac q0,ac q1];exact GG.2 ⟨_,by rw[zI];exact ni (aU Y),hs⟩
 .intro z hz;have ez:z=aW y ((y.n.o.map Vr.n).headD (0,0)):=by
   unfold eS dw at hz;rw[ae (.inl R),ac (by decide),ac (by decide),eB] at hz;exact dM.1 hz
  rw[ez];let⟨k0,V⟩:=tg.ty;unfold bw at V;let⟨cs,e1,e2,e3⟩:=wA V;obtain⟨-,-,o1,o2⟩:=Aj (show qQ (l.take i) nm cs=k0 from e2) e3;rw[<-h4] at o1 o2;obtain⟨el,-⟩:=wB e1;obtain⟨-,-,v,ev⟩:=h6.dec.out o1;have en:((y.n.o.map Vr.n).headD (0,0))=v.n:=by rw[ev];rfl
  rw[en];refine hP j y h6 h8 (by rw[B6 hh hb P pc h5];exact u) (λw hw=>?_) v.n (by unfold aE;rw[ev];exact ni (oJ _ (dM.2 R)));obtain⟨m,a3,rfl⟩:=gB hw;have b:m<N I:=Y;have f:m<N o:=Y;have eg:o.getD m E0=o[m]:=by rw[cA,bM f];rfl
  have he:=h7 m _ (bM a3);rw[eg] at he;refine Pa hh hb nd nq P h6 pc h5 u hw he (g m b f λs hs=>C s ?_);unfold eS;refine jl _ ?_;rw[ac (by decide),ac (by decide)];exact GG.2 ⟨_,by rw[zI];exact ni (aU b),hs⟩
theorem ET(a:∀(i:Nat) (n:Nd),l[i]?=some n->∃o,gR n=some o):∀d,OA F l d
 |0=>λi x e h=>h.elim
 |d+1=>λi x e h z b=>by
  have C:=ET a d;have m:=e.g.ok;let⟨o,b⟩:=a i _ m.at_;let⟨p,a⟩:=DC b;have a:=wU (names:=aE x.n) (lean:=fA x.n) _ _ ((ue _ _).s.t b) (λi e=>(by cases e)) Iw (λ_ h=>by cases h);have u:=JV m.P m.own;have a:(aE x.n).Nodup:=by
   have:=m.P
   unfold am at this;rw[cM] at this;exact(rF.1 this).2.1
  have i:∀k,k<=N o->∀s∈o.take k,lw F (aW x s):=by
   intro k
   induction k with
   |zero=>grind
   |succ k D=>
    intro b s hs;have a:k<N o:=b;rw[dt a] at hs;rcases bA.1 hs with hs|hs
    .grind
    rw[dM.1 hs];have c:o[k]∈aE x.n:=J;let⟨q,g,eq⟩:=cN.1 (m.own.mem_iff.2 c);let⟨w,y,B⟩:=h q g;let⟨v,_,_,b⟩:=L0 m g;have f:∀d,(aO x.n d).isSome=true->(d∈eS (jE x.n o[k])\/∃b,(d,b)∈aF x.n o[k])->lw F (aW x d):=λd b h=>by
     obtain⟨j,v,rfl,-⟩:=tT b;have hm:(am x.n)[j]∈x.n.ins++(x.n.o++x.n.ao):=aU v;rcases bA.1 hm with hm|hm
     .grind
     .refine D Y _ (p k a _ (GD.2 ⟨c,ni hm,h⟩))
    have j:pZ F (Cx F x++jw x (aF x.n o[k])):=by
     intro p hp;rcases bA.1 hp with hp|hp
     .exact z p hp
     .obtain⟨h,b,rfl⟩:=cN.1 hp;have a:=e.g.tg q g;have p:lK x.n (aF x.n q.n):=by
       have:=a.ck
       rw[<-e.g.ro q g];generalize dr x.n q.n q.e=t at this;let⟨_,_,_,_,c,any,a⟩:=t;unfold lJ at this;exact this.1
      rw[eq] at p;exact f h.1 (p h b).1 (.inr ⟨h.2,b⟩)
    have a:(⟨aW x o[k],w,0⟩:aX)∈F.r:=by rw[<-eq];exact y
    refine Pb (λz b=>?_) (by rw[rR hh hb e J];exact j)
    have:jE F (aW x o[k])=w:=FJ nq a
    rw[this] at b;refine XF hh hb nd nq C e _ _ B (e.g.tg q g) (λd a=>?_) (by rw[e.g.ro q g,eq];exact j) z b;rw[jV] at a;have b:(aO x.n d).isSome=true:=Di (m.T q g) d a;refine f d b (.inl ?_);rw[<-eq,FJ u g];exact a
  intro s hs;refine i (N o) Y s ?_;rw[hU];exact Cl (k:=aE x.n) J J Y s hs
def KAH(F:Nd)(_:Nat)(x:aP):Prop:=(∀v∈am x.n,lw F (aW x v.n))/\pZ F (Cx F x)
theorem KAH.known{x:aP}(b:KAH F i x){s:S}(c:(aO x.n s).isSome=true):lw F (aW x s):=by
 obtain⟨j,a,rfl,-⟩:=tT c;exact b.1 _ (aU a)
theorem acr(hO:∀(i:Nat) (n:Nd),l[i]?=some n->∃o,gR n=some o):vS F l (KAH F) (λq=>lw F q.n):=by
 have a0:∀(i:Nat) (x:aP),ja F l i x->KAH F i x->∀u z a c e f,qg l i x.n (.mk bK u z a c e f)->∀(d j:Nat) (y:aP),j<i->ja F l j y->y.n=fH l u->(y.p,y.t)=fu x c->∀b,kQ F l (oM F l d) i x f b->(∀(m:Nat) (v:Vr),y.n.ins[m]?=some v->(⟨aW y v.n,b.getD m E0,0⟩:aX)∈F.r)->pZ F (Cx F x++jw x c)/\proper x.n c/\∀(m:Nat) (v:Vr),y.n.ins[m]?=some v->lw F (aW y v.n):=by
  intro i x k o u z a c e f w d j y W I K B b h g;have p:=w.td;have s:=w.ck;unfold mX at p;unfold lJ at s;obtain⟨P,-,-,-,d4⟩:=p;have kn:∀s,(aO x.n s).isSome=true->lw F (aW x s):=λs hs=>KAH.known hh hb nd nq o hs;have V:∀{p:L aS},lK x.n p->pZ F (Cx F x++jw x p):=λC p hp=>by
   rcases bA.1 hp with hp|hp
   .exact o.2 p hp
   .obtain⟨D,p,rfl⟩:=cN.1 hp;exact kn D.1 (C D p).1
  refine⟨J,P,λm v hv=>?_⟩;have hm:=qI hv;let⟨_,p⟩:=w.ty;unfold bw at p;let⟨_,C,_,D⟩:=wA p;obtain⟨-,-,-,o2⟩:=Aj A D;rw[<-K] at o2;obtain A:=wB C;let⟨p,hr⟩:=xT h;have p:=mN hv;have D:m<N f:=Y;have C:m<N b:=Y;have p:b.getD m E0=b[m]:=by rw[cA,bM C];rfl
  have he:=g m v hv;rw[p] at he;have p:=w.mR _ (aU D);refine Pa hh hb nd nq k I P B J hm he ?_;refine XF hh hb nd nq (ET hh hb nd nq hO d) k _ _ (hr m D C) p (λs hs=>kn s (Di p.T s hs)) ?_
  have:lK x.n (iu f[m]):=by
   have:=p.ck
   generalize f[m]=t at this;let⟨p,u,z,a,c,e,f⟩:=t;unfold lJ at this;exact this.1
  exact V this
 refine⟨λi x k o u z a c e f w d j y W I K B b h g p=>?_,λi x k o q s d q h=>?_,λi x k o u z a c e f w d j y W I K B b h g p m v hv=>?_⟩
 .let⟨V,P,q⟩:=a0 i x k o u z a c e f w d j y W I K B b h g;have b:pZ F (Cx F y):=by rw[B6 hh hb k P B];exact V
  have a:∀v∈y.n.ins,lw F (aW y v.n):=λv hv=>by
   obtain⟨m,hm,rfl⟩:=gB hv;exact q m _ (bM hm)
  refine⟨λv hv=>?_,b⟩;have hv:v∈y.n.ins++(y.n.o++y.n.ao):=hv;rcases bA.1 hv with hv|hv
  .grind
  .exact ET hh hb nd nq hO d j y I p b a v.n (ni hv)
 .let⟨v,hv,_,a⟩:=L0 k.g.ok s;exact KAH.known hh hb nd nq o a
 grind
end
theorem aas{c:S->L S}{s:S}(h:Acc (λy z=>y∈c z) s):¬jO c s s:=by
 induction h with
 |intro s _ f=>
  intro g;have first:∀x z,jO c x z->∃y∈c x,y=z\/jO c y z:=by
   intro x z g
   induction g with
   |one d=>grind
   |step _ d e=>
    let⟨y,a,b⟩:=e;refine⟨y,a,.inr ?_⟩;rcases b with rfl|b
    .exact .one d
    .exact .step b d
  let⟨y,a,e⟩:=first s s g
  rcases e with rfl|e
  .grind
  .exact f y a (.step e a)
theorem adX{l:L Nd}(b:od l)(e:∀(i:Nat) (n:Nd),l[i]?=some n->∃o,gR n=some o)(a:l≠[])(w:wa (bN l))(j:N (aD l).ins<=64)(k:N (aD l).o<=64):uF (bN l)/\(∃o,gR (bN l)=some o)/\(∀q∈(bN l).r,IM (bN l) q/\IL (bN l) q):=by
 have c:=b _ _ (vj a);have hb:qK (bN l):=λv hv=>c.ok.bare v hv;have nq:=JV w.P w.own;have m:=CN b a w (acu (F:=bN l)) trivial;have f:=CN b a w (acs w.hu hb w.P) trivial;have g:=adZ b a w;have c0:pZ (bN l) (Cx (bN l) (x0 l)):=by
  have:Cx (bN l) (x0 l)=[]:=ae R
  rw[this];exact λ_ h=>by cases h
 have d:∀v∈(aD l).ins,lw (bN l) (aW (x0 l) v.n):=λv hv c=>by
  rw[AZ] at c
  exfalso
  have nd:=w.P;unfold am at nd;rw[cM] at nd;exact(rF.1 nd).2.2 v.n (ni hv) _ c R
 have c:=ET w.hu hb w.P nq e _ _ _ (Lv b a w) g c0 d;have g:KAH (bN l) (N l-1) (x0 l):=⟨λv hv=>by
  have hv:v∈(aD l).ins++((aD l).o++(aD l).ao):=hv;rcases bA.1 hv with hv|hv
  .grind
  .exact c v.n (ni hv),c0⟩
 have d:=CN b a w (acr w.hu hb w.P nq e) g;have a:(aE (bN l)).Nodup:=by
  have nd:=w.P;unfold am at nd;rw[cM] at nd;exact(rF.1 nd).2.1
 have b:∀s∈aE (bN l),∃q∈(bN l).r,q.n=s:=λs c=>cN.1 (w.own.mem_iff.2 c);have i:∃o,gR (bN l)=some o:=by
  let⟨o,e⟩:=LY (names:=aE (bN l)) (lean:=fA (bN l)) a (λx=>GA x) (λs c=>by
   obtain⟨q,a,rfl⟩:=b s c;exact aas (d q a c)) (N (aE (bN l))) [] dp J J
  exact⟨o,(ue _ _).t e⟩
 have e:∀v∈am (bN l),v.p≠(0,0)->bQ (bN l) v.p=1:=λv hv h=>by
  have d:v∈(bN l).ins++((bN l).o++(bN l).ao):=hv;rcases bA.1 d with g|g
  .exact absurd (hb v J) h
  .let⟨q,a,eq⟩:=b v.n (ni g);refine(f q a).p v ?_ h;rw[eq];exact FZ w.P hv
 have g:=Qc w.hu hb w.P e;refine⟨⟨w.z,w.P,λs c=>?_,λs c x e=>?_,j,k⟩,i,J⟩
 .obtain⟨q,a,rfl⟩:=b s c;rw[Nr nq a];have t:=m q a;obtain⟨⟨k,h,i⟩,-⟩:=f q a;let⟨d,f⟩:=HX w.hu hb q.e (aF (bN l) q.n) h t.pC t.T i (Hf w.hu hb q.n);have d:mX (bN l) (dr (bN l) q.n q.e):=d;have f:iu (dr (bN l) q.n q.e)=aF (bN l) q.n:=f;refine⟨by rw[jV];exact t.ty,by rw[jV];exact t.pC,by rw[jV];exact t.T,by rw[jV];exact t.lit,?_⟩;exact P9 g _ ⟨_,by rw[jV];exact t.ty⟩ (by rw[jV];exact t.T) d J
 .obtain⟨q,a,rfl⟩:=b s c;rw[Nr nq a,jV] at e;rw[FJ nq a];exact e
end
end
section
variable {i:Nat}{n:Nd}
section
theorem YB:∀t:Tm,gu (bw t)=iq t:=by
 refine Tm.E λa a a a c a a b=>?_;unfold bw gu iq
 have:∀a:L Tm,(∀k∈a,gu (bw k)=iq k)->ji (cL a)=lF a:=λa=>by
  induction a with
  |nil=>intro _;unfold cL ji lF;rfl
  |cons k a b=>
   intro h;unfold cL ji lF;grind
 grind
theorem af4{B:Nat}:∀t:Tm,eU B (bw t)->ms t:=by
 refine Tm.E λa a a a c a a b=>?_;intro h;unfold bw eU at h;unfold ms
 have:∀a:L Tm,(∀k∈a,eU B (bw k)->ms k)->y6 B (cL a)->qv a:=λa=>by
  induction a with
  |nil=>intro _ _;assumption
  |cons k a b=>
   intro h g;unfold cL y6 at g;unfold qv;grind
 grind
structure oO (l:List Nd):Prop where
 made:∀n∈l,Made n
 Az:∀n∈l,vT n
 Kh:∀n∈l,∀q∈n.r,vU q
 nb:∀n∈l,∀q∈n.r,eU 16384 q.e
 x:(nF l).1=0
 types:(lG l).1=0
 Qp:Aq l=none
 abG:Cv l=none
theorem RG{e:Nat}(b:e≠0){o:Option Nat}(h:(yE e o).1=0):o=none:=by
 cases o with
 |none=>rfl
 |some a=>exact absurd h b
theorem Uf{h:L Nd}{n:Nd}:∀(l a:L aX) (b:Bd),(sR h n a l b).1=0->(∀q∈l,∀p∈a,p.n≠q.n)/\(l.map aX.n).Nodup
 |[],a,b,_=>J
 |q::r,a,b,c=>by
  let⟨d,f⟩:=Uf r _ _ c;obtain⟨e,-⟩:=GL _ _ (Do r _ _ c).1;obtain⟨b,-⟩:=tP dc e;have c:∀p∈a,p.n≠q.n:=λp c e=>by
   have:(a.any λp=>decide (p.n=q.n))=true:=BM.2 ⟨p,c,aB e⟩
   rw[this,Bool.or_true] at b;cases b
  refine⟨λx a p c=>?_,?_⟩
  .grind
  .rw[iL];refine BT.2 ⟨λg=>?_,f⟩;let⟨x,a,e⟩:=cN.1 g;exact d x a q (jl _ (dM.2 R)) e.s
theorem Uk:∀(l h:L Nd) (b:Bd),(wQ h l b).1=0->∀n∈l,(n.r.map aX.n).Nodup
 |[],h,b,a=>J
 |n::r,h,b,a=>by
  have b:=Uk r _ _ a;have c:=(GM r _ _ a).1;intro x hx;rcases bY.1 hx with rfl|hx
  .exact(Uf _ _ _ (Dt _ _ c)).2
  .exact b x hx
theorem Rf{h:L Nd}{n:Nd}:∀{a:L aX},uY h n a=none->∀q∈a,fM h n q.e=.inr (bQ n q.n)
 |[],_,_,c=>J
 |q::a,e,x,hx=>by
  unfold uY at e;cases g:fM h n q.e with
  |inl p=>grind
  |inr k=>
   rw[g] at e;dsimp only at e;split at e
   .rename_i b;rcases bY.1 hx with rfl|hx
    .rw[g,b]
    .exact Rf e x hx
   .cases e
theorem TA{n:Nd}:∀{a:L Vr},vh n a=none->∀v∈a,v.p≠(0,0)->bQ n v.p=1
 |[],_,_,b=>J
 |v::a,e,x,hx=>by
  unfold vh at e;split at e
  .cases e
  .rename_i q;rcases bY.1 hx with rfl|hx
   .exact λh=>ZE λg=>q ⟨h,g⟩
   .exact TA e x hx
theorem YX:∀(l h:L Nd),zF h l=none->∀(i:Nat) (n:Nd),l[i]?=some n->vh n n.ao=none/\uY (h++l.take i) n n.r=none
 |[],h,_,i,n,e=>by cases e
 |m::l,h,e,i,n,b=>by
  unfold zF at e;cases g:(vh m m.ao).or (uY h m m.r) with
  |some a=>grind
  |none=>
   rw[g] at e;dsimp only at e;obtain A:=Option.or_eq_none_iff.1 g
   match i,b with
   |0,b=>
    grind
   |i+1,b=>
    have:=YX l (h++[m]) e i n b
    grind
theorem JR{n:Nd}:∀{a:L aX},uX n a=none->∀q∈a,∃c,fC n q.e=.inr c/\cg c (aF n q.n)=true
 |[],_,_,d=>J
 |q::a,e,x,hx=>by
  unfold uX at e;cases g:fC n q.e with
  |inl p=>grind
  |inr k=>
   rw[g] at e;dsimp only at e;split at e
   .rename_i b;rcases bY.1 hx with rfl|hx
    .exact⟨k,g,b⟩
    .exact JR e x hx
   .cases e
theorem Ju:∀{l:L Nd},Aq l=none->∀n∈l,uX n n.r=none
 |[],_,_,h=>by cases h
 |m::l,e,n,hn=>by
  unfold Aq at e;cases g:uX m m.r with
  |some a=>grind
  |none=>
   rw[g] at e;rcases bY.1 hn with rfl|hn
   .exact g
   .exact Ju e n hn
section
variable {l:L Nd}(h:oO l)
include h
theorem oO.yi:zF [] l=none:=by
 have:=ajD h.made h.x
 have a:=h.types;rw[this] at a;exact RG dc a
theorem oO.GJ(e:l[i]?=some n):EK l i n:=by
 have a:=mN e;have b:l[i]=n:=by
  rw[bM a] at e;exact J
 have d:n∈l:=J;have f:=GI h.x a;rw[b] at f;let⟨k,m,a,x⟩:=h.made n d;let⟨_,o2,b⟩:=Ds l [] (0,0) h.x n d;have b:=Uk l [] (0,0) h.x n d;have r:((am n).map Vr.n).Nodup:=by
  have:=KX f.vars J
  rw[dH] at this;exact this
 have o:qK n:=λv b=>(bA.1 b).elim (λg=>(k v g).1) λg=>(m v g).1;have w:∀v∈am n,cP v.z:=λv b=>by
  have b:v∈n.ins++(n.o++n.ao):=b;rcases bA.1 b with g|g
  .exact(k v g).2
  .rcases bA.1 g with g|g
   .exact(m v g).2
   .exact a v g
 let⟨a,t2⟩:=YX l [] h.yi i n e;rw[dH] at t2;have p:=Rf t2;have y:=TA a;have u:=JR (Ju h.Qp n d);have c:∀v∈am n,v.p≠(0,0)->bQ n v.p=1:=λv b j=>by
  have a:v∈n.ins++(n.o++n.ao):=b;rcases bA.1 a with g|g
  .exact absurd (k v g).1 j
  .rcases bA.1 g with g|g
   .exact absurd (m v g).1 j
   grind
 have t:=Qc f.vars o r c;have j:∀q∈n.r,dF (l.take i) n q.e:=λq a=>(f.r q a).1;have c:∀q∈n.r,mX n (dr n q.n q.e)/\iu (dr n q.n q.e)=aF n q.n:=λq a=>by
  let⟨_,c,s⟩:=u q a;exact HX f.vars o q.e (aF n q.n) c J (j q a) s (Hf f.vars o q.n)
 have c:∀q∈n.r,lJ n (dr n q.n q.e):=λq a=>by
  refine P9 (h:=l.take i) t _ ⟨_,by rw[jV];exact p q a⟩ (by rw[jV];grind) J ?_;grind
 have o:sC l i n:=⟨e,r,J,f.vars,k,m,w,λg=>f.o J,j,c,λq _=>jV n q.n q.e⟩;exact⟨o,λv b=>((h.Az n d).1 v b).1,λq a=>⟨⟨_,by rw[jV];exact p q a⟩,by rw[jV];exact x q a,by rw[jV];grind,by rw[jV];exact(h.Kh n d q a).1,J,J,by rw[<-YB,jV];exact(h.Kh n d q a).2,af4 (B:=16384) _ (by rw[jV];exact h.nb n d q a)⟩,p,J,y⟩
theorem oO.jG:od l:=λ_ _ e=>h.GJ e
theorem oO.ord:∀(i:Nat) (n:Nd),l[i]?=some n->∃o,gR n=some o:=λi n e=>by
 have a:n∈l:=J;exact(agU (Ds l [] (0,0) h.x n a)).2 (Jj.1 h.abG n a)
theorem oO.Uc:∀(i:Nat) (n:Nd),l[i]?=some n->Ca l i n:=λi n e=>by
 have a:n∈l:=J;have b:=(h.GJ e).ok;let⟨c,f2⟩:=h.Az n a;have c:N n.ins+N (aE n)<=64:=by
  unfold am at f2;rw[ay] at f2;unfold aE;rw[aC];exact f2
 have c:=b.own.length_eq;rw[aC] at c;refine⟨b,Y,?_⟩
 have:=P4 λq b=>bC (P2 q.e) (h.Kh n a q b).2
 omega
theorem oO.cY:sJ [] l=true:=Qv l [] λn b=>by
 let⟨i,a,e⟩:=gB b;exact(h.Uc i n (by rw[bM a,e])).cq
theorem oO.small(a:l≠[])(d:kT l<=1000):(vE l).p<=1000/\N (vE l).r<=65000/\N (vE l).ao<=65064:=by
 have b:0<N l:=J;have e:=vj a;rw[acp a] at d;let⟨a,b,c⟩:=WW h.Uc (N l) (N l-1) (x0 l) (ut l) Y e d;have d:=(h.Az (aD l) J).2;have e:N (aD l).ao<=64:=by
  unfold am at d;rw[ay,ay] at d;omega
 have a:(vE l).p+1<=0+(jq l).getD (N l-1) 0:=a;have b:N (vE l).r+64<=0+65*(jq l).getD (N l-1) 0:=b;have c:N (vE l).ao+N (aE (x0 l).n)+64<=N (aD l).ao+65*(jq l).getD (N l-1) 0:=c;omega
theorem oO.flat(a:l≠[])(c:kT l<=1000):wa (bN l)/\uF (bN l)/\(∃o,gR (bN l)=some o)/\∀q∈(bN l).r,IM (bN l) q/\IL (bN l) q:=by
 have d:=qI (vj a);let⟨b,f2⟩:=h.Az _ d;obtain A:=h.small a c;have w:=ad3 h.jG a (λv c=>(b v c).2.1) Y;have b:N (aD l).ins<=64/\N (aD l).o<=64:=by
  unfold am at f2;rw[ay,ay] at f2;omega
 exact⟨w,adX h.jG h.ord a w b.1 b.2⟩
end
end
variable {k:Nat}
section
def ZL(a:aa):Prop:=∀v∈a.ao,v.a<=16384
def agz(y:aP)(v:Vr):(fw y v).a=0:=by unfold fw;split<;>rfl
def ZL.loc{y:aP}{v:Vr}{b:aa}(h:ZL b):ZL (tY (fw y v) b):=λw a=>by
 have a:w∈b.ao++[fw y v]:=a;rcases bA.1 a with g|g
 .exact h w g
 .rw[dM.1 g,agz];omega
def ZL.ins{y:aP}:∀(c:L Vr) (b:L Tr) (a:aa),ZL a->ZL (fT y c b a)
 |[],_,_,h=>h
 |v::c,b,a,h=>ZL.ins c (b.drop 1) _ (show ZL (mj _ _ (tY (fw y v) a)) from h.loc)
def ZL.ao{y:aP}:∀(b:L Vr) (a:aa),ZL a->ZL (jv y b a)
 |[],_,h=>h
 |v::b,a,h=>ZL.ao b _ h.loc
section
variable {G:aP->aa->aa}{l:L Nd}{x:aP}
mutual
def Rs(d:∀y b,ZL b->ZL (G y b)):∀(t:Tm) (b:aa),ZL b->ZL (cV G l x t b).2
 |.mk op g f a c any e,b,h=>by
  unfold cV;by_cases q:op=bK
  .rw[ae q];unfold rQ;exact d _ _ (ZL.ao _ _ (ZL.ins _ _ _ (J6 d e _ h)))
  .rw[ac q];exact J6 d e b h
def J6(c:∀y a,ZL a->ZL (G y a)):∀(b:L Tm) (a:aa),ZL a->ZL (bH G l x b a).2
 |[],a,h=>A
 |k::b,a,h=>by
  unfold bH;exact J6 c b _ (Rs c k a h)
end
def Re(c:∀y a,ZL a->ZL (G y a)):∀(b:L aX) (a:aa),ZL a->ZL (iH G l x b a)
 |[],a,h=>A
 |q::b,a,h=>by
  unfold iH;exact Re c b _ (Rs c _ a h)
end
def W4(l:L Nd):∀(d:Nat) (x:aP) (a:aa),ZL a->ZL (gJ l d x a)
 |0,_,a,h=>A
 |d+1,x,a,h=>by unfold gJ;exact Re (W4 l d) _ _ h
def D6:∀t:Tm,1<=iq t
 |.mk ..=>by unfold iq;omega
mutual
def XI{F:Nd}{l:L Nd}{P:Nat->aP->Prop}{i:Nat}{x:aP}:∀(t:Tm) (e:Tr),kP F l P i x t e->iq t<=300->gu e<=iq t/\bO e
 |.mk op g b a c any f,e,h,d=>by
  unfold kP at h;let⟨a,b,c⟩:=h;unfold iq at d|-;let⟨_,q2,d⟩:=Ms f a b Y;rcases c with⟨_,rfl⟩|⟨_,j,y,_,_,_,_,_,_,rfl⟩
  .unfold gu bO;exact⟨Y,aJ _,Y,q2⟩
  .unfold gu ji bO jI;grind
def Ms{F:Nd}{l:L Nd}{P:Nat->aP->Prop}{i:Nat}{x:aP}:∀(b:L Tm) (a:L Tr),kQ F l P i x b a->lF b<=300->ji a<=lF b/\jI a/\N a<=lF b
 |[],a,h,_=>by
  unfold kQ at h;rw[h];unfold ji jI;grind
 |k::b,a,h,d=>by
  unfold kQ at h;obtain⟨e,r,rfl,a,c⟩:=h;unfold lF at d|-;let⟨_,d⟩:=XI k e a Y;obtain A:=Ms b r c Y
  have:=D6 k
  unfold ji jI;grind
end
mutual
def rW:Tr->Prop
 |.mk _ _ a _ b=>a<9223372036854775808/\tZ b
def tZ:L Tr->Prop
 |[]=>True
 |k::a=>rW k/\tZ a
end
def Ua:∀{a:L Tr},tZ a->∀k∈a,rW k
 |[],_,_,h=>by cases h
 |q::a,h,k,hk=>by
  unfold tZ at h;rcases bY.1 hk with rfl|hk
  .exact h.1
  .exact Ua h.2 k hk
mutual
def XH{F:Nd}{l:L Nd}{P:Nat->aP->Prop}{i:Nat}{x:aP}:∀(t:Tm) (e:Tr),kP F l P i x t e->ms t->rW e
 |.mk op g d a c any f,e,h,b=>by
  unfold kP at h;let⟨a,c,d⟩:=h;unfold ms at b;rcases d with⟨_,rfl⟩|⟨_,j,y,_,_,_,_,_,_,rfl⟩
  .unfold rW;exact⟨b.1,Mr f a c b.2⟩
  .unfold rW tZ;grind
def Mr{F:Nd}{l:L Nd}{P:Nat->aP->Prop}{i:Nat}{x:aP}:∀(b:L Tm) (a:L Tr),kQ F l P i x b a->qv b->tZ a
 |[],a,h,_=>by
  unfold kQ at h;rw[h]
  assumption
 |k::b,a,h,c=>by
  unfold kQ at h;obtain⟨e,r,rfl,a,d⟩:=h;unfold qv at c;unfold tZ;exact⟨XH k e a c.1,Mr b r d c.2⟩
end
def YD:∀(a:L Tr) (e:Tr),e∈a->gu e<=ji a
 |[],_,h=>by cases h
 |q::a,e,h=>by
  unfold ji;rcases bY.1 h with rfl|h
  .omega
  .have:=YD a e h;omega
def wv(q:aX):Prop:=gu q.e<=300/\zb q
def qk(q:aX):Prop:=rW q.e
def RV{l:L Nd}(h:oO l)(a:l≠[])(w:wa (bN l)):∀q∈(bN l).r,wv q:=by
 refine CN (K:=Kt) h.jG a w ⟨λ_ _ _ _ _ _ _ _ _ _ _ _ _ _ _ _ _ _ _ _ _ _=>trivial,λi x b _ q f d a e=>?_,λi x b _ a a a c a i g d j y _ _ _ _ a e _ _ m v _=>?_⟩ trivial
 .have c:=(b.g.tg q f).sz;let⟨d,b⟩:=XI _ _ e c;exact⟨J,aJ _,b⟩
 .have c:=g.sz;unfold iq at c;let⟨d,b,c⟩:=Ms i a e Y;show gu (a.getD m E0)<=300/\0<=16384/\bO (a.getD m E0);rw[cA];by_cases c:m<N a
  .rw[bM c]
   have:=YD a _ (aU c)
   exact⟨by grind,Y,(mw a).1 b _ J⟩
  .rw[rC (by omega)];show gu E0<=300/\_/\bO E0;unfold E0 gu ji bO jI;grind
def adW{l:L Nd}(h:oO l)(a:l≠[])(w:wa (bN l)):∀q∈(bN l).r,qk q:=by
 refine CN (K:=Kt) h.jG a w ⟨λ_ _ _ _ _ _ _ _ _ _ _ _ _ _ _ _ _ _ _ _ _ _=>trivial,λi x e _ q f d a b=>?_,λi x e _ a a a c a i g d j y _ _ _ _ a b _ _ m v _=>?_⟩ trivial
 .exact XH _ _ b (e.g.tg q f).nb
 .have c:=g.nb;unfold ms at c;have d:=Mr i a b c.2;show rW (a.getD m E0);rw[cA];by_cases b:m<N a
  .rw[bM b];exact Ua d _ J
  .rw[rC (by omega)];show rW E0;unfold E0 rW tZ;grind
def GV(h:cP k):k<=2:=by unfold cP at h;omega
def adY{l:L Nd}(h:oO l)(i:ow l)(a:l≠[])(b:kT l<=1000):eG (bN l)/\N (am (bN l))<=66000:=by
 obtain⟨w,c,-,-⟩:=h.flat a b;obtain⟨-,d,j⟩:=h.small a b;have b:=qI (vj a);let⟨d,e,f,g,_,k⟩:=i.2 _ b;have z:=W4 l (N l) (x0 l) (ut l) (λv b=>(g.2 v b).1);have g:∀v∈(bN l).ao,v.a<=16384:=z;refine⟨⟨d,e,f,⟨by show(vE l).ao.length<=_;omega,λv b=>⟨g v b,GV (w.z v (jl _ (jl _ b)))⟩⟩,by show(vE l).r.length<=_;omega,λq b=>(RV h a w q b).2⟩,?_⟩;have a:=c.ins;have a:=c.o
 have:N (bN l).ao<=65064:=j
 unfold am;grind
end
structure dN (a b:ES) (k:Nat):Prop where
 V:N b.an<=N a.an+k
 me:N b.y<=N a.y+k
 co:N b.s<=N a.s+k
 cd:N b.j<=N a.j+k
 lo:N b.l<=N a.l+k
 la:N b.late<=N a.late+k
 fi:N b.f<=N a.f+k
def dN.refl(a:ES):dN a a 0:=⟨Y,Y,Y,Y,Y,Y,Y⟩
def dN.M{a b c:ES}{m j:Nat}(h:dN a b k)(g:dN b c m)(e:k+m<=j):dN a c j:=⟨by have:=h.V;have:=g.V;omega,by have:=h.me;have:=g.me;omega,by have:=h.co;have:=g.co;omega,by have:=h.cd;have:=g.cd;omega,by have:=h.lo;have:=g.lo;omega,by have:=h.la;have:=g.la;omega,by have:=h.fi;have:=g.fi;omega⟩
def dN.mono{a b:ES}{j:Nat}(h:dN a b k)(e:k<=j):dN a b j:=h.M (.refl _) Y
def rV{a:Type}(l r:L a)(h:N r<=k):N (l++r)<=N l+k:=J
def AP(k:Nat)(a:ES):dN a (fx k a).2 1:=⟨rV _ _ (ak _),du _ _,du _ _,du _ _,du _ _,du _ _,du _ _⟩
def wL(t:It)(a:ES)(h:N (t.E (N a.j))<=k):dN a (eE t a) k:=⟨du _ _,du _ _,du _ _,rV _ _ h,du _ _,du _ _,du _ _⟩
def Th(k:Nat)(a:ES):dN a (kD k a).2 1:=⟨rV _ _ (ak _),rV _ _ (ak _),du _ _,du _ _,rV _ _ (ak _),du _ _,du _ _⟩
def Tg(a:ES)(x:Nat×Nat×Tm):dN a {a with late:=a.late++[x]} 1:=⟨du _ _,du _ _,du _ _,du _ _,du _ _,J,du _ _⟩
def Tk(c:L aS)(a:ES):dN a (pD c a).2 1:=⟨rV _ _ (ak _),rV _ _ (ak _),du _ _,du _ _,rV _ _ (ak _),du _ _,rV _ _ (ak _)⟩
def GB(k b y n:Nat)(a:ES):dN a (kS k b y n a).2 5:=(AP k a).M (wL _ _ (k:=4) (ak _)) Y
def Ti(s:Nat)(a:ES):dN a (nG s a).2 2:=(AP 1 a).M (wL _ _ (k:=1) (ak _)) Y
def afo(n:Nat)(a:ES):dN a (iw n a).2 1:=by
 unfold iw;split
 .exact(dN.refl _).mono Y
 .exact⟨du _ _,du _ _,J,du _ _,du _ _,du _ _,du _ _⟩
def Lo(k n:Nat)(a:ES):dN a (hY k n a).2 3:=((afo n a).M (AP k _) (ak 2)).M (wL _ _ (k:=1) (ak _)) Y
def afq(c:S)(a b:Nat)(d:ES):dN d (pz c a b d).2 4:=by
 have g:dN d (eE (.o ⟨(cI c).1,(fx (if 13<=(cI c).1 then 1 else 2) d).1,if(cI c).2.1 then b else a,if(cI c).2.1 then a else b⟩) (fx (if 13<=(cI c).1 then 1 else 2) d).2) 2:=(AP _ d).M (wL _ _ (k:=1) (ak _)) Y;show dN d (if(cI c).2.2 then _ else _:Nat×ES).2 4;split
 .exact g.M (Ti _ _) Y
 .exact g.mono Y
def afp(f:S->Nat)(d b:S)(c:L aS)(e:L Nat)(a:ES):dN a (gx f d b c e a).2 6:=by
 unfold gx;dsimp only;split
 .exact(Ti _ _).mono Y
 split
 .exact(AP 2 a).M (wL _ _ (k:=1) (ak _)) Y
 split
 .exact(dN.refl _).mono Y
 split
 .exact(GB _ _ _ _ _).mono Y
 split
 .exact(GB _ _ _ _ _).mono Y
 split
 .exact(Tk c a).M (GB _ _ _ _ _) Y
 .exact(afq _ _ _ _).mono Y
mutual
def DF(n:Nd)(d:S->Nat):∀(t:Tm) (b:ES),dN b (bu n d t b).2 (8*iq t)
 |.mk op g f a c any e,b=>by
  unfold bu iq;dsimp only;split
  .exact(Th _ b).M (Tg _ _) Y
  split
  .exact((ahg n d e b).M ((Th _ _).M (Tg _ _) (ak 2)) (ak _)).M ((Tk c _).M (GB _ _ _ _ _) (ak 6)) Y
  split
  .exact(Lo _ _ _).mono Y
  split
  .exact(Lo _ _ _).mono Y
  split
  .exact(dN.refl _).mono Y
  .exact(Vu n d e b).M (afp _ _ _ _ _ _) Y
def ahg(n:Nd)(c:S->Nat):∀(b:L Tm) (a:ES),dN a (lQ n c b a).2 (8*lF b)
 |[],a=>by unfold lQ;exact(dN.refl _).mono Y
 |k::b,a=>by unfold lQ lF;exact(DF n c k a).mono Y
def Vu(n:Nd)(c:S->Nat):∀(b:L Tm) (a:ES),dN a (cR n c b a).2 (8*lF b)
 |[],a=>by unfold cR;exact(dN.refl _).mono Y
 |k::b,a=>by
  unfold cR lF;exact(DF n c k a).M (Vu n c b _) Y
end
end
section
def Ul:L (Nat×Nat×Tm)->Nat
 |[]=>0
 |x::r=>iq x.2.2+Ul r
def Ch:∀(a b:L (Nat×Nat×Tm)),Ul (a++b)=Ul a+Ul b
 |[],b=>by show Ul b=0+Ul b;omega
 |x::a,b=>by
  show iq x.2.2+Ul (a++b)=iq x.2.2+Ul a+Ul b;rw[Ch a b];omega
def jb(a b:ES)(u p:Nat):Prop:=∃c,b.late=a.late++c/\Ul c<=u/\N b.f+Ul c<=N a.f+p
def jb.refl{a b:ES}(h:b.late=a.late)(g:b.f=a.f):jb a b 0 0:=⟨[],J,ak _,by rw[g];exact ak _⟩
def jb.M{a b c:ES}{u p j d k i:Nat}(h:jb a b u p)(g:jb b c j d)(e:u+j<=k)(f:p+d<=i):jb a c k i:=by
 let⟨i,l,_,j⟩:=h;let⟨j,k,_,m⟩:=g;exact⟨i++j,by rw[k,l,dC],by rw[Ch];omega,by rw[Ch];omega⟩
def jb.mono{a b:ES}{u p d c:Nat}(h:jb a b u p)(e:u<=d)(f:p<=c):jb a b d c:=h.M (.refl R R) Y Y
def WG(a:ES)(x:Nat×Nat×Tm):jb a {a with late:=a.late++[x]} (iq x.2.2) (iq x.2.2):=⟨[x],R,by show iq x.2.2+0<=_;omega,by show N a.f+(iq x.2.2+0)<=_;omega⟩
def WH(c:L aS)(a:ES):jb a (pD c a).2 0 1:=⟨[],(eB _).s,ak _,by show(a.f++[_]).length+0<=_;grind⟩
def ahx(k b y n:Nat)(a:ES):jb a (kS k b y n a).2 0 0:=.refl R R
def ahA(k:Nat)(a:ES):jb a (kD k a).2 0 0:=.refl R R
def ahy(n:Nat)(a:ES):jb a (iw n a).2 0 0:=by
 unfold iw;split
 .exact .refl R R
 .exact .refl R R
def WF(k n:Nat)(a:ES):jb a (hY k n a).2 0 0:=(ahy n a).M (.refl R R) Y Y
def ahB(d:S)(a b:Nat)(c:ES):jb c (pz d a b c).2 0 0:=by
 show jb c (if(cI d).2.2 then _ else _:Nat×ES).2 0 0;split
 .exact .refl R R
 .exact .refl R R
def ahz(f:S->Nat)(d b:S)(c:L aS)(e:L Nat)(a:ES):jb a (gx f d b c e a).2 0 1:=by
 unfold gx;dsimp only;split
 .exact(jb.refl R R).mono Y Y
 split
 .exact(jb.refl R R).mono Y Y
 split
 .exact(jb.refl R R).mono Y Y
 split
 .exact(jb.refl R R).mono Y Y
 split
 .exact(jb.refl R R).mono Y Y
 split
 .exact(WH c a).M (.refl R R) Y Y
 .exact(ahB _ _ _ _).mono Y Y
mutual
def G8(n:Nd)(i:S->Nat):∀(t:Tm) (f:ES),cC (bw t)->jb f (bu n i t f).2 (iq t-1) (iq t)
 |.mk op o m a c any d,f,j=>by
  unfold bw cC at j;let⟨b,g⟩:=j;have e:N (cL d)=N d:=xr d;rw[e] at b;unfold bu iq;dsimp only;split
  .rename_i q;subst q
   match d,b with
   |[],b=>exact absurd b dc
   |k::d,b=>
    have:=D6 k
    exact(jb.refl R R).M (WG _ _) (by unfold lF;grind) (by unfold lF;grind)
  split
  .rename_i q;subst q
   match d,b,g with
   |[],b,_=>exact absurd b dc
   |[k],b,_=>exact absurd b (by show¬(dk=bK\/lP dk=some 1);decide)
   |k::h::d,b,g=>
    unfold cL gY at g
    have:=D6 k
    unfold lQ lF lF;have l:=G8 n i k f g.1;exact((l.M (ahA _ _) (ak _) (ak _)).M (WG _ (_,_,h)) (ak _) (ak _)).M ((WH c _).M (ahx _ _ _ _ _) Y (ak _)) (by show _+iq h+0<=_;omega) (by show _+iq h+1<=_;omega)
  split
  .exact(WF _ _ _).mono Y Y
  split
  .exact(WF _ _ _).mono Y Y
  split
  .exact(jb.refl R R).mono Y Y
  .exact(Vv n i d f g).M (ahz _ _ _ _ _ _) Y Y
def Vv(n:Nd)(d:S->Nat):∀(a:L Tm) (b:ES),gY (cL a)->jb b (cR n d a b).2 (lF a) (lF a)
 |[],b,_=>by unfold cR;exact(jb.refl R R).mono Y Y
 |k::a,b,c=>by
  unfold cL gY at c;unfold cR lF;exact(G8 n d k b c.1).M (Vv n d a _ c.2) Y Y
end
variable {p:ES}{c:L aS}{a b k:Nat}
section
structure TP (P:Tm->Prop) (C:List aS->Prop):Prop where
 mR:∀{op nm:S} {N a:Nat} {c:List aS} {any:Bool} {ks:List Tm},P (.mk op nm N a c any ks)->∀k∈ks,P k
 ck:∀{op nm:S} {N a:Nat} {c:List aS} {any:Bool} {ks:List Tm},P (.mk op nm N a c any ks)->C c
 pC:∀t,P t->cC (bw t)
 sz:∀t,P t->iq t<=300
def iN(P:Tm->Prop)(C:L aS->Prop)(a:ES):Prop:=(∀x∈a.late,P x.2.2)/\∀x∈a.f,C x.2
def iN.same{P:Tm->Prop}{C:L aS->Prop}{a b:ES}(h:iN P C a)(e:b.late=a.late)(f:b.f=a.f):iN P C b:=by
 unfold iN;rw[e,f];exact h
section
variable {P:Tm->Prop}{C:L aS->Prop}
def Pj(h:iN P C p)(a:C c):iN P C (pD c p).2:=⟨h.1,λx a=>by
 have a:x∈p.f++[_]:=a;rcases bA.1 a with g|g
 .exact h.2 x g
 grind⟩
def Ph{x:Nat×Nat×Tm}(h:iN P C p)(a:P x.2.2):iN P C {p with late:=p.late++[x]}:=⟨λy a=>by
 have a:y∈p.late++[x]:=a;rcases bA.1 a with g|g
 .exact h.1 y g
 grind,h.2⟩
def aaH{n:Nat}(h:iN P C p):iN P C (iw n p).2:=by
 unfold iw;split
 .exact h
 assumption
def Pg{n:Nat}(h:iN P C p):iN P C (hY k n p).2:=(aaH h).same R R
def Pf{y n:Nat}(h:iN P C p):iN P C (kS k b y n p).2:=A
def aaJ{c:S}(h:iN P C p):iN P C (pz c a b p).2:=by
 show iN P C (if(cI c).2.2 then _ else _:Nat×ES).2;split
 .assumption
 assumption
def all_join{f:S->Nat}{d b:S}{e:L Nat}(h:iN P C p)(a:C c):iN P C (gx f d b c e p).2:=by
 unfold gx;dsimp only;split
 .assumption
 split
 .assumption
 split
 .exact h
 split
 .assumption
 split
 .assumption
 split
 .exact Pf (Pj h a)
 .exact aaJ h
mutual
def DE(T:TP P C)(n:Nd)(i:S->Nat):∀(t:Tm) (f:ES),P t->iN P C f->iN P C (bu n i t f).2
 |.mk op o m a c any d,f,g,h=>by
  have e:=T.mR g;have j:=T.pC _ g;unfold bw cC at j;obtain⟨b,-⟩:=j;rw[xr d] at b;unfold bu;dsimp only;split
  .rename_i q;subst q
   match d,b,e with
   |[],b,_=>exact absurd b dc
   |k::d,b,e=>exact Ph (x:=(_,_,k)) A J
  split
  .rename_i q;subst q
   match d,b,e with
   |[],b,_=>exact absurd b dc
   |[k],b,_=>exact absurd b (by show¬(dk=bK\/lP dk=some 1);decide)
   |k::l::d,b,e=>
    unfold lQ;have p:=DE T n i k f J h;exact Pf (Pj (Ph (x:=(_,_,l)) A J) (T.ck g))
  split
  .exact Pg h
  split
  .exact Pg h
  split
  .exact h
  .exact all_join (Vo T n i d f e h) (T.ck g)
def Vo(T:TP P C)(n:Nd)(c:S->Nat):∀(b:L Tm) (a:ES),(∀k∈b,P k)->iN P C a->iN P C (cR n c b a).2
 |[],a,_,h=>A
 |k::b,a,d,h=>by
  unfold cR;exact Vo T n c b _ J (DE T n c k a J h)
end
def SW(T:TP P C)(n:Nd)(b:S->Nat):∀(f i:Nat) (k:L (Nat×Nat×Tm)) (a:ES),iN P C a->(∀x∈k,P x.2.2)->i<=N a.late->Ul (a.late.drop i)<=f->
  iN P C (cF n b f i k a).2/\(∀x∈(cF n b f i k a).1,P x.2.2)/\N (cF n b f i k a).2.late<=i+f/\N (cF n b f i k a).1<=N k+f/\
  N (cF n b f i k a).2.f<=N a.f+Ul (a.late.drop i)/\dN a (cF n b f i k a).2 (2400*f)
 |0,i,k,a,h,d,j,c=>by
  have g:a.late.drop i=[]:=by
   cases e:a.late.drop i with
   |nil=>rfl
   |cons x r=>
    rw[e] at c
    have:iq x.2.2+Ul r<=0:=c
    have:=D6 x.2.2
    omega
  have:=dv List.length g
  rw[qH,hN] at this;unfold cF;exact⟨h,d,J,J,J,(dN.refl _).mono Y⟩
 |f+1,i,k,a,h,d,j,c=>by
  unfold cF;cases e:a.late[i]? with
  |none=>
   have:=List.getElem?_eq_none_iff.1 e
   exact⟨h,d,J,J,J,(dN.refl _).mono Y⟩
  |some x=>
   have d:i<N a.late:=by
    by_cases q:i<N a.late
    .exact q
    .grind
   have j:a.late[i]=x:=by rw[bM d] at e;exact J
   have e:P x.2.2:=h.1 x J;have g:a.late.drop i=x::a.late.drop (i+1):=by rw[<-j];exact eJ d
   rw[g] at c;have c:iq x.2.2+Ul (a.late.drop (i+1))<=f+1:=c;have c:=D6 x.2.2;have c:=T.sz _ e;let⟨d,d1,d2,d3⟩:=G8 n b x.2.2 a (T.pC _ e);have j:=DF n b x.2.2 a;have c:(bu n b x.2.2 a).2.late.drop (i+1)=a.late.drop (i+1)++d:=by rw[d1,NW (by omega)]
   let⟨l,q2,_,m,d,o⟩:=SW T n b f (i+1) (k++[(x.1,(bu n b x.2.2 a).1,x.2.2)]) (bu n b x.2.2 a).2 (DE T n b _ a e h) J (by rw[d1,ay];omega) (by rw[c,Ch];omega);rw[c,Ch] at d;rw[ay,su] at m;refine⟨l,q2,J,J,bC d ?_,j.M o Y⟩;rw[g];show _<=N a.f+(iq x.2.2+Ul (a.late.drop (i+1)));omega
end
end
def ada{n:Nd}(h:uF n){o:L S}(a:gR n=some o)(e:jQ n (aL n) o (eW n)=some p)(f:Nat):tF (gH (aL n) n.o 0 (ig n (aL n) f p)).j:=by
 let⟨l,d2⟩:=FE (O:=n.o.map Vr.z) h;let⟨m,q⟩:=DC a;have r:=wU (names:=aE n) (lean:=fA n) _ _ ((ue _ _).s.t a) (λi a=>(by cases a)) J J;have a:∀v∈n.ins,aL n v.n<N n.ins:=λv g=>by
  let⟨j,b,c⟩:=gB g;have d:j<N (am n):=by unfold am;rw[ay];omega
  have i:(am n)[j]=v:=by
   have:(n.ins++(n.o++n.ao))[j]' A=n.ins[j]:=J
   exact this.t c
  have:=HK h.P j d
  grind
 let⟨d,k,_,i⟩:=Fe h o [] _ (eW n) J m l J a J e;have l:=FV (n:=n) (aL n) o (eW n) e;have a:(am n).map Vr.z<+:p.an:=by have:=l.V;rw[d2] at this;exact this
 have e:qJ n (aL n) d:=λx d=>by
  obtain⟨j,b,rfl,_⟩:=tT d;have hm:(am n)[j]∈n.ins++(n.o++n.ao):=aU b;rcases bA.1 hm with hm|hm
  .grind
  .refine i _ ?_;exact Cl (k:=aE n) J r.2.2.2 (by rw[q];exact ak _) _ (cN.2 ⟨_,hm,R⟩)
 let⟨q,i,l,m⟩:=Mt (σ:=aL n) h.z f k (zv h.P a) e;have d:=a.trans q.V;have a:∀v∈n.o,aO n v.n=some v:=λv g=>by
  let⟨j,b,c⟩:=gB (show v∈am n by unfold am;grind);rw[<-c];exact AA h.P j b
 have b:=G5 (e.mono l) n.o a n.o [] _ R (m.mono (λ_ g=>g) λs g=>absurd g (nR _)) (zv h.P d);have b:bZ n (n.ins.map Vr.z) (n.o.map Vr.z) i (λs=>s<N n.o) (gH (aL n) n.o 0 (ig n (aL n) f p)):=b;exact b.tg
def KO(b:S->Nat):∀(c:L aS) (a:ES),bU (bG b c a).1<=2*N c/\dN a (bG b c a).2 (N c)/\(bG b c a).2.j=a.j
 |[],a=>by unfold bG;exact⟨ak _,.refl _,R⟩
 |s::c,a=>by
  unfold bG;split
  .let⟨f,d,e⟩:=KO b c (fx 1 a).2;exact⟨by show 2+bU _<=_;grind,(AP 1 a).M d (by rw[bt];omega),e⟩
  .let⟨f,d,e⟩:=KO b c a;exact⟨by show 1+bU _<=_;grind,d.mono J,e⟩
def Kx(e:Nat):∀l:L (Nat×Option Nat),N (eQ e l)=bU l
 |[]=>rfl
 |(s,none)::r=>by show(eQ e r).length+1=1+bU r;rw[Kx e r];omega
 |(s,some t)::r=>by show(eQ e r).length+1+1=2+bU r;rw[Kx e r];omega
def Te(b:S->Nat)(c:L aS)(i:aQ)(a:ES){m:Nat}(d:N c<=m):dN a (nB b c i a) (2*m+1)/\(nB b c i a).f=a.f/\(nB b c i a).late=a.late:=by
 let⟨_,d,f⟩:=KO b c a;have e:∀(c:L aS) (a:ES),(bG b c a).2.f=a.f/\(bG b c a).2.late=a.late:=λc=>by
  induction c with
  |nil=>exact λa=>by unfold bG;grind
  |cons s c g=>
   intro a;unfold bG;split
   .exact g (fx 1 a).2
   grind
 have g:N (nB b c i a).j=N a.j+(bU (bG b c a).1+1):=by
  show((bG b c a).2.j++(eQ _ _++[i])).length=_
  rw[f,ay,ay,Kx,su]
 exact⟨⟨bC d.V Y,bC d.me Y,bC d.co Y,Y,bC d.lo Y,bC d.la Y,bC d.fi Y⟩,(e c a).1,(e c a).2⟩
def SN(b:S->Nat){m:Nat}:∀(l:L (Nat×Nat×Tm)) (a:ES),(∀x∈l,N (iu x.2.2)<=m)->dN a (eD b l a) ((2*m+1)*N l)/\(eD b l a).f=a.f
 |[],a,_=>by unfold eD;exact⟨(dN.refl _).mono Y,R⟩
 |x::l,a,h=>by
  unfold eD;obtain⟨c,d,-⟩:=Te b (iu x.2.2) ⟨3,x.1,x.2.1,0⟩ a (h x gN);obtain⟨e,f⟩:=SN b l _ λy a=>h y (li _ a);exact⟨c.M e (by rw[bt,Nat.mul_succ];omega),f.t d⟩
def RQ(c:S->Nat)(a:Nat){m:Nat}:∀(l:L (Nat×L aS)) (b:ES),(∀x∈l,N x.2<=m)->dN b (js c a l b) ((2*m+1)*N l)
 |[],b,_=>by unfold js;exact(dN.refl _).mono Y
 |x::l,b,h=>by
  unfold js;obtain⟨d,e,-⟩:=Te c x.2 ⟨3,x.1,a,0⟩ b (h x gN);exact d.M (RQ c a l _ λy a=>h y (li _ a)) (by rw[bt,Nat.mul_succ];omega)
def Jb{P:Tm->Prop}{C:L aS->Prop}(T:TP P C)(n:Nd)(c:S->Nat):∀(r:L S) (a:ES) {b:ES},jQ n c r a=some b->(∀s∈r,P (dB n s))->iN P C a->iN P C b/\dN a b (2401*N r)/\jb a b (300*N r) (300*N r)/\N a.j+N r<=N b.j/\(r≠[]->N b.j<=8192)
 |[],a,b,e,_,h=>by
  obtain rfl:a=b:=jX e;exact⟨h,.refl _,.refl R R,ak _,J⟩
 |s::r,a,b,e,f,h=>by
  have e:(if 8192<N (eE (.o ⟨1,c s,(bu n c (dB n s) a).1,0⟩) (bu n c (dB n s) a).2).j then none else jQ n c r (eE (.o ⟨1,c s,(bu n c (dB n s) a).1,0⟩) (bu n c (dB n s) a).2))=some b:=e;split at e
  .cases e
  .rename_i q;have d:=f s gN;have w:=T.sz _ d;have p:=DE T n c _ a d h;have i:=DF n c (dB n s) a;have k:=G8 n c (dB n s) a (T.pC _ d);let⟨l,q2,m,u,v⟩:=Jb T n c r _ e J A;have t:N (eE (.o ⟨1,c s,(bu n c (dB n s) a).1,0⟩) (bu n c (dB n s) a).2).j=N (bu n c (dB n s) a).2.j+1:=by show(_++[_]).length=_;rw[ay];rfl
   have j:dN (bu n c (dB n s) a).2 (eE (.o ⟨1,c s,(bu n c (dB n s) a).1,0⟩) (bu n c (dB n s) a).2) 1:=wL _ _ (ak _);have o:N a.j<=N (bu n c (dB n s) a).2.j:=(zf n c (dB n s) a).cd.length_le;refine⟨l,(i.M j (ak _)).M q2 (by rw[bt];omega),(k.M (.refl R R) (ak _) (ak _)).M m (by rw[bt];omega) (by rw[bt];omega),J,λ_=>?_⟩;by_cases g:r=[]
   .subst g;obtain rfl:eE _ _=b:=jX e;omega
   grind
variable {l:L Nd}{n:Nd}
def UK(n:Nd):∀(k:Nat) (s:S),N (fW n k s)<=k
 |0,_=>ak _
 |k+1,s=>by
  unfold fW;split
  .split
   .grind
   .rw[bt];exact IE (UK n k _)
  grind
def ab0(n:Nd)(s:S):N (aF n s)<=N n.ao:=by
 unfold aF;rw[Ep];exact UK n _ s
def WP(h:proper n c):N c<=N n.ao+1:=by
 rcases h with rfl|⟨s,b,_,rfl⟩
 .exact aJ _
 .rw[ay,su];exact IE (ab0 n s)
def af3:∀t:Tm,rW (bw t)->ms t:=by
 refine Tm.E λa a a a c a a b=>?_;intro h;unfold bw rW at h;unfold ms
 have:∀a:L Tm,(∀k∈a,rW (bw k)->ms k)->tZ (cL a)->qv a:=λa=>by
  induction a with
  |nil=>intro _ _;assumption
  |cons k a b=>
   intro h g;unfold cL tZ at g;unfold qv;grind
 grind
def Pn(n:Nd)(t:Tm):Prop:=bO (bw t)/\cC (bw t)/\dF [] n (bw t)/\iq t<=300/\mX n t/\ms t
def Cn(c:L aS):Prop:=N c<=65065
def WE(a:N n.ao<=65064){t:Tm}(h:Pn n t):N (iu t)<=65065:=by
 let⟨_,_,_,_,c,any,a⟩:=t;obtain⟨-,-,-,-,h,-⟩:=h;unfold mX at h
 have:=WP h.1
 show N c<=_;omega
def YS{n:Nd}(hn:n.ao.length<=65064):TP (Pn n) Cn where
 mR:=λ{op nm N a c any ks} h k hk=>by
  let⟨h1,h2,h3,h4,h5,h6⟩:=h;unfold ms at h6;unfold bw at h1 h2 h3;unfold bO at h1;unfold cC at h2;unfold dF at h3;unfold iq at h4;unfold mX at h5;obtain⟨m,hm,rfl⟩:=gB hk;have mem:bw ks[m]∈cL ks:=by rw[zI];exact J
  exact⟨(mw _).1 h1.2.2 _ mem,(ux _).1 h2.2 _ mem,(wJ _).1 h3.2 _ mem,om (No ks _ hk),(xp h5.2.2.2.2 m hm).2,LD h6.2 _ hk⟩
 ck:=λh=>WE hn h
 pC:=λ_ h=>h.2.1
 sz:=λ_ h=>h.2.2.2.1
def TK:∀(l:L Vr) (i:Nat) (M:S->Option Nat) (s:S),(∀k,M s=some k->k<i)->∀k,iA l i M s=some k->k<i+N l
 |[],i,M,s,h,k,e=>h k e
 |v::l,i,M,s,h,k,e=>by
  unfold iA at e
  have:=TK l (i+1) _ s J k e
  grind
def aiN(h:uF n)(a:am n≠[])(s:S):aL n s<N (eW n).an:=by
 obtain⟨-,d2⟩:=FE (O:=n.o.map Vr.z) h;rw[d2,aC];have a:0<N (am n):=J;unfold aL;cases e:iA (am n) 0 (λ_=>none) s with
 |none=>exact a
 |some k=>
  have:=TK (am n) 0 (λ_=>none) s J k e
  grind
structure B7 (n:Nd) (o:List S):Prop where
 ok:eG n
 fo:uF n
 ord:gR n=some o
 all:N (am n)<=66000
 lc:N n.ao<=65064
 ck:∀q∈n.r,∃c,fC n q.e=.inr c
 pn:∀s∈o,Pn n (dB n s)
 sg:∀s,aL n s<N (eW n).an
 ol:N o<=66000
 oo:n.o≠[]
def RU(h:oO l)(r:ow l)(d:l≠[])(a:kT l<=1000):∃o,B7 (bN l) o:=by
 let⟨w,b,⟨o,f⟩,j⟩:=h.flat d a;obtain⟨-,c,i⟩:=h.small d a;let⟨c,e⟩:=adY h r d a;have a:=h.jG _ _ (vj d);have m:qK (bN l):=λv g=>a.ok.bare v g;have p:=JV w.P w.own;have n:(bN l).o≠[]:=a.ok.ne;have g:N (bN l).ao<=65064:=i;have k:=wU (names:=aE (bN l)) (lean:=fA (bN l)) _ _ ((ue _ _).s.t f) (λi a=>(by cases a)) J J;refine⟨o,c,b,f,e,g,λq e=>?_,λs a=>?_,aiN b λg=>n ?_,?_,n⟩
 .obtain A:=(j q e).2.ck;grind
 .have a:=k.2.2.2 s a;have n:=b.r s a;obtain⟨q,e,rfl⟩:=cN.1 (w.own.mem_iff.2 a);have i:=Nr p e;obtain⟨p,-,s⟩:=RV h d w q e;let⟨_,c,o⟩:=(j q e).2.ck;have b:=n.pC;have a:=n.T;rw[i,jV] at b a;rw[i];exact⟨by rw[jV];exact s,by rw[jV];exact b,by rw[jV];exact a,by rw[<-YB,jV];exact p,(HX w.hu m q.e (aF (bN l) q.n) c b a o (Hf w.hu m q.n)).1,af3 _ (by rw[jV];exact adW h d w q e)⟩
 .unfold am at g
  have:=(NV.1 g).2
  exact(NV.1 this).1
 .have:=k.2.1
  have e:=(DC f).2
  have:N (aE (bN l))<=N (am (bN l)):=by
   unfold aE am;simp only[aC,ay];omega
  omega
end
end Go.Proofs.YtehahhggpdhieaaGreatDoor
