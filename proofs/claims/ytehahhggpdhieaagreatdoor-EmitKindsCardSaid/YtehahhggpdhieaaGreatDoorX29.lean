/- Lemmas of the walk of EmitKinds are proved. Conditions: none. -/
import Derived.Test.YtehahhggpdhieaaGreatDoorX27
import Derived.Test.YtehahhggpdhieaaGreatDoorX28
namespace Go.Proofs.YtehahhggpdhieaaGreatDoor
set_option maxRecDepth 100000
set_option maxHeartbeats 32000000
set_option linter.all false
section
variable {a k:Nat}
section
def TL{s:S}:∀(l:L Vr) (i:Nat) (M:S->Option Nat),s∉l.map Vr.n->iA l i M s=M s
 |[],_,_,_=>rfl
 |v::r,i,M,h=>by
  unfold iA;rw[iL] at h;rw[TL r (i+1) _ J];grind
def TJ:∀(l:L Vr) (i:Nat) (M:S->Option Nat),(l.map Vr.n).Nodup->∀j (b:j<N l),iA l i M l[j].n=some (i+j)
 |v::r,i,M,h,0,_=>by
  rw[iL] at h;unfold iA;show iA r (i+1) _ v.n=_;rw[TL r (i+1) _ J];grind
 |v::r,i,M,h,j+1,b=>by
  rw[iL] at h;unfold iA;have a:j<N r:=by simpa using b
  show iA r (i+1) _ r[j].n=_;rw[TJ r (i+1) _ J j a];grind
structure uF (n:Nd):Prop where
 z:∀v∈am n,cP v.z
 P:((am n).map Vr.n).Nodup
 r:∀s∈aE n,PE n (dB n s) (bQ n s)
 mn:∀s∈aE n,∀x∈eS (bw (dB n s)),x∈eS (jE n s)
 ins:N n.ins<=64
 o:N n.o<=64
def tT{n:Nd}{x:S}(h:(aO n x).isSome=true):∃j,∃a:j<N (am n),(am n)[j].n=x/\bQ n x=(am n)[j].z:=by
 let⟨v,b⟩:=xK.1 h;have e:v.n=x:=by have:=uB b;exact J
 let⟨j,a,c⟩:=gB (pY b);refine⟨j,a,by rw[c];exact e,?_⟩;unfold bQ;grind
def AA{n:Nd}(d:((am n).map Vr.n).Nodup)(j:Nat)(a:j<N (am n)):aO n (am n)[j].n=some (am n)[j]:=by
 have b:(aO n (am n)[j].n).isSome=true:=vM.2 ⟨_,aU a,aB R⟩;let⟨v,a⟩:=xK.1 b;have e:v.n=(am n)[j].n:=by have:=uB a;exact J
 let⟨i,c,b⟩:=gB (pY a)
 have:((am n).map Vr.n)[i]'(by rw[aC];exact c)=((am n).map Vr.n)[j]' J:=by rw[kM,kM,b,e]
 have:=(List.getElem_inj d).1 this
 grind
def HK{n:Nd}(b:((am n).map Vr.n).Nodup)(j:Nat)(a:j<N (am n)):aL n (am n)[j].n=j:=by
 unfold aL;rw[TJ _ _ _ b j a,gg];rfl
def zv{n:Nd}(b:((am n).map Vr.n).Nodup){a:L Nat}(p:(am n).map Vr.z<+:a):Sg n (aL n) a:=by
 intro x a;obtain⟨j,c,rfl,e⟩:=tT a;rw[HK b,e];refine dG p ?_;grind
section
variable {n:Nd}{I O:L Nat}
def aeL:bZ n I O (λ_=>False) (λ_=>False) hX where
 run:=λL N s0 W0 a b c=>⟨s0,R,b.mono (λx g=>g.elim False.elim id) λ_ g=>g⟩
 ok:=λi hi=>by cases hi
 tg:=λk i h=>by cases h
 ld:=λi hi=>by cases hi
 sk:=λi hi=>by cases hi
 mq:=λi hi=>by cases hi
 la:=λi hi=>by cases hi
 fi:=λi hi=>by cases hi
def Sr:∀(l a:L Vr) (b:ES),(∀v∈l,cP v.z)->bZ n ((a++l).map Vr.z) O (λs=>s<N a) (λ_=>False) b->b.an=a.map Vr.z->bZ n ((a++l).map Vr.z) O (λs=>s<N (a++l)) (λ_=>False) (gn l (N a) b)/\(gn l (N a) b).an=(a++l).map Vr.z
 |[],a,b,_,h,e=>by
  unfold gn;grind
 |v::r,a,b,c,h,e=>by
  have f:N b.an=N a:=by rw[e,aC]
  unfold gn;have d:=(h.slot (c v (gN ..))).lay (i:=⟨4,N b.an,N a,0⟩) (.rU (k:=v.z) (yg _ _) J) J (λx c=>by cases c);have e:a++v::r=(a++[v])++r:=by rw[dC];rfl
  have c:N a+1=N (a++[v]):=by rw[ay];rfl
  rw[e] at d|-;rw[c];refine Sr r (a++[v]) _ J (d.mono (λs g=>?_) λs g=>g.elim) ?_
  .rw[<-c] at g;rcases aae.1 g with g|g
   .exact .inl g
   .exact .inr ⟨by show¬((4:Nat)=5\/(4:Nat)=3\/(4:Nat)=19\/(4:Nat)=20);decide,by rw[g,f]⟩
  .show b.an++[v.z]=_;grind
def FE(h:uF n):bZ n (n.ins.map Vr.z) O (λs=>s<N n.ins) (λ_=>False) (eW n)/\(eW n).an=(am n).map Vr.z:=by
 let⟨a,b⟩:=Sr (n:=n) (O:=O) n.ins [] hX (λv c=>h.z v (by unfold am;grind)) (aeL.mono J J) R;rw[dH] at a b;have a:bZ n (n.ins.map Vr.z) O (λs=>s<N n.ins) (λ_=>False) (gn n.ins 0 hX):=a;have b:(gn n.ins 0 hX).an=n.ins.map Vr.z:=b;have e:(eW n).an=(am n).map Vr.z:=by
  show(gn n.ins 0 hX).an++(n.o++n.ao).map Vr.z=_
  rw[b];unfold am;rw[cM,cM,cM]
 refine⟨a.ext ⟨tq _ _,hQ,hQ,hQ,hQ,hQ,hQ⟩ R (λi b=>.inl b) (λk b=>?_) a.mq (λx a=>.inl a) (λx a=>.inl a),e⟩;rw[e] at b;obtain⟨v,c,rfl⟩:=cN.1 b;exact h.z v c
def FV(c:S->Nat):∀(l:L S) (b:ES) {a:ES},jQ n c l b=some a->iD b a
 |[],b,a,e=>by
  unfold jQ at e;cases e;exact .refl _
 |s::r,b,a,e=>by
  unfold jQ at e;split at e
  .cases e
  .exact((zf n c _ b).M (yC _ _)).M (FV c r _ e)
def Fe(h:uF n){V:Nat->Prop}:∀(l a:L S) (W:Nat->Prop) (b:ES) {c:ES},(∀s∈l,s∈aE n)->uI (fA n) (a++l)->bZ n I O W V b->(am n).map Vr.z<+:b.an->(∀v∈n.ins,W (aL n v.n))->(∀s∈a,W (aL n s))->jQ n (aL n) l b=some c->
  ∃d:Nat->Prop,bZ n I O d V c/\(∀v∈n.ins,d (aL n v.n))/\∀s∈a++l,d (aL n s)
 |[],a,W,b,c,_,_,i,_,f,d,e=>by
  unfold jQ at e;grind
 |s::r,a,W,b,c,j,g,i,k,f,d,e=>by
  have sg:=zv h.P k;have c:=j s (gN ..);have j:=h.r s c;let⟨_,l,_,m,o⟩:=Vl (I:=I) (O:=O) (V:=V) h.z (o:=aL n) (dB n s) _ W b j i sg λx hx=>by
   have q:=TR j.T x hx;let⟨j,p,i,_⟩:=tT q;have hm:(am n)[j]∈n.ins++(n.o++n.ao):=aU p;rcases bA.1 hm with hm|hm
   .grind
   .refine d x ?_;have d:x∈aE n:=cN.2 ⟨_,hm,i⟩;have i:x∈fA n s:=by
     unfold fA;rw[ae (zM.2 c)];exact vO.2 ⟨d,by rw[zM.2 (h.mn s c x hx)];rfl⟩
    have:=g (N a) J x J
    grind
  have p:=zf n (aL n) (dB n s) b;have i:(bu n (aL n) (dB n s) b).2.an[aL n s]?=some (bQ n s):=(sg.mono p.V) s (by
   obtain⟨v,d,rfl⟩:=cN.1 c;exact vM.2 ⟨v,jl _ d,aB R⟩)
  have c:=m.lay (i:=⟨1,aL n s,(bu n (aL n) (dB n s) b).1,0⟩) (.m i o) J (λx hx=>by
   have hx:x∈[(bu n (aL n) (dB n s) b).1]:=hx;grind)
  unfold jQ at e;split at e
  .cases e
  .have b:a++s::r=(a++[s])++r:=by rw[dC];rfl
   rw[b] at g|-;exact Fe h r (a++[s]) _ _ J g (c.mono (λ_ g=>g) J) (k.trans p.V) (λv d=>.inl (l _ (f v d))) (λx hx=>by
    rcases bA.1 hx with hx|hx
    .grind
    .rw[dM.1 hx];exact .inr ⟨by show¬((1:Nat)=5\/(1:Nat)=3\/(1:Nat)=19\/(1:Nat)=20);decide,rfl⟩) e
def G5{f:S->Nat}{W:Nat->Prop}(g:qJ n f W)(b:L Vr)(c:∀v∈b,aO n v.n=some v):∀(l a:L Vr) (d:ES),a++l=b->bZ n I (b.map Vr.z) W (λs=>s<N a) d->Sg n f d.an->bZ n I (b.map Vr.z) W (λs=>s<N b) (gH f l (N a) d)
 |[],a,d,e,h,_=>by
  unfold gH;grind
 |v::r,a,d,e,h,sg=>by
  have d:=c v (by rw[<-e];exact jl _ (gN ..));have e:(aO n v.n).isSome=true:=by rw[d];rfl
  have i:=sg v.n e;have j:bQ n v.n=v.z:=by unfold bQ;rw[d];rfl
  rw[j] at i;unfold gH;have j:=h.lay (i:=⟨5,N a,f v.n,0⟩) (.out (k:=v.z) J i) J (λx d=>by
   have d:x∈[f v.n]:=d;rw[dM.1 d];exact g _ e)
  have d:N a+1=N (a++[v]):=by rw[ay];rfl
  rw[d];refine G5 g b c r (a++[v]) _ J (j.mono J λs g=>?_) sg;rw[<-d] at g;rcases aae.1 g with g|g
  .exact .inl g
  .exact .inr ⟨R,g⟩
end
def XS{c M:Nat}:∀(l:L aQ) (a:Nat) (b:Nat->St) (W V:Nat->Prop),Hr c M b a W V->(∀i∈l,i.o=2/\i.a<c)->∃s,jh l a b=some s/\Hr c M s (a+N l) (λx=>W x\/∃i∈l,x=i.a) V
 |[],a,b,W,V,h,_=>⟨b,R,h.mono J J⟩
 |i::l,a,b,W,V,h,f=>by
  let⟨d,k⟩:=f i (gN ..);let⟨j,m,o⟩:=XU h i (by rw[d];decide) (λx e=>by
   unfold iK at e;grind) (λs g=>by rw[g.2];exact k) (λs g=>absurd (d.s.t g.1) dc)
  let⟨k,_,h⟩:=XS l (a+1) j _ _ o λx e=>f x (li _ e);refine⟨k,?_,?_⟩
  .have:=xc [i] l a b j m
   grind
  .rw[bt,show a+(N l+1)=a+1+N l by omega];refine h.mono (λx g=>?_) J;rcases g with g|⟨y,hy,e⟩
   .exact .inl (.inl g)
   .rcases bY.1 hy with rfl|hy
    .exact .inl (.inr ⟨by rw[d];decide,e⟩)
    .exact .inr ⟨y,hy,e⟩
def Kn{f:Nat->aQ->Bool}:∀(l:L aQ) (a:Nat),(∀k (h:k<N l),f (a+k) l[k]=true)->yF f l a=none
 |[],_,_=>rfl
 |i::l,a,h=>by
  unfold yF;have b:f a i=true:=h 0 (jm _);rw[ae b];refine Kn l (a+1) λk a=>?_
  have:=h (k+1) (oL a)
  grind
def je{l:L Nat}(h:l[a]?=some k):has l a=true:=aB (mN h)
def oX{p:PD}(h:p.an[a]?=some k):kC p k a=true:=aB (by rw[AD h])
def gC.X{p:PD}{i:aQ}(h:gC p.ins p.o p.an p.y p.s i)(d:Nat)(f:i.o=19\/i.o=20->d<i.a/\i.a<=N p.j):px p d i=true:=by
 cases h with
 |tL a b _=>show(has _ _&&has _ _)=true;rw[je a,je b];rfl
 |m a b=>show(has _ _&&has _ _)=true;rw[je a,je b];rfl
 |l a b=>show(has _ _&&has _ _)=true;rw[je a,je b];rfl
 |aR a b=>show(has _ _&&has _ _)=true;rw[je a,je b];rfl
 |rU a b=>show(has _ _&&has _ _)=true;rw[je a,je b];rfl
 |out a b=>show(has _ _&&has _ _)=true;rw[je a,je b];rfl
 |not a b=>show(has _ _&&has _ _)=true;rw[je a,je b];rfl
 |n a b=>show(has _ _&&has _ _)=true;rw[je a,je b];rfl
 |@r op x y z e q2 a b c=>
  unfold px;dsimp only;rw[ac (by omega),ac (by omega),ac (by omega),ac (by omega),ac (by omega),ac (by omega),ac (by omega),ac (by omega),aB (by omega),je a,je b,je c];rfl
 |@eq x y z k a b c=>
  show(de (8<=13/\13<=18)&&(has p.an x&&(has p.an y&&has p.an z)))=true
  rw[je a,je b,je c];rfl
 |@p op x y z q a b c=>
  unfold px;dsimp only;rw[ac (by omega),ac (by omega),ac (by omega),ac (by omega),ac (by omega),ac (by omega),ac (by omega),ac (by omega),aB (by omega),je a,je b,je c];rfl
 |@g op x y z e q2 a b c=>
  unfold px;dsimp only;rw[ac (by omega),ac (by omega),ac (by omega),ac (by omega),ac (by omega),ac (by omega),ac (by omega),ac (by omega),aB (by omega),je a,je b,je c];rfl
 |@u x y a=>
  show(ru p d x&&has _ _)=true
  rw[je a];unfold ru;grind
 |@j x=>
  show ru p d x=true;unfold ru;grind
def gC.E{p:PD}{i:aQ}(h:gC p.ins p.o p.an p.y p.s i):wI p i=true:=by
 have d:∀{l m:L Nat} {a b k:Nat},l[a]?=some k->m[b]?=some k->de (l.getD a 0=m.getD b 0)=true:=J;cases h with
 |@tL a b k v c e f=>
  show(kC p 2 a||(de (p.s.getD b 0=0)||de (p.s.getD b 0=1)))=true
  rw[AD e];rcases f with rfl|rfl|rfl
  .rw[oX c];rfl
  .simp
  .simp
 |m a b=>exact d a b
 |l a b=>exact d a b
 |aR a b=>exact d a b
 |rU a b=>exact d a b
 |out a b=>exact d a b
 |not a b=>show(kC _ _ _&&kC _ _ _)=true;rw[oX a,oX b];rfl
 |n a b=>show(kC _ _ _&&kC _ _ _)=true;rw[oX a,oX b];rfl
 |@r op x y z e q2 a b c=>
  unfold wI;dsimp only;rw[ac (by omega),ac (by omega),ac (by omega),ac (by omega),ac (by omega),ac (by omega),ac (by omega),ac (by omega),ae (by omega),oX a,oX b,oX c];rfl
 |eq a b c=>show(kC _ _ _&&de _)=true;rw[oX a,d b c];rfl
 |@p op x y z q a b c=>
  unfold wI;dsimp only;rw[ac Y,ac Y,ac (by omega),ac (by omega),ac (by omega),ac (by omega),ac (by omega),ac (by omega),ac (by omega),ac (by omega),ae (by omega),oX a,oX b,oX c];rfl
 |@g op x y z e q2 a b c=>
  unfold wI;dsimp only;rw[ac Y,ac (by omega),ac (by omega),ac (by omega),ac (by omega),ac (by omega),ac (by omega),ac (by omega),ac (by omega),ac (by omega),ac (by omega),ae (by omega),oX a,oX b,oX c];rfl
 |u a=>exact oX a
 |j=>rfl
def gC.M{I O o e d:L Nat}{i:aQ}(h:gC I O o e d i)(k:Nat):gC I O o e d (eA k i):=by
 unfold eA;split
 .rename_i q;cases h with
  |tL a b c=>grind
  |m a b=>grind
  |l a b=>grind
  |aR a b=>grind
  |rU a b=>grind
  |out a b=>grind
  |not a b=>grind
  |n a b=>grind
  |r f q2 a b c=>grind
  |eq a b c=>grind
  |p f a b c=>grind
  |g f q2 a b c=>grind
  |u a=>exact .u a
  |j=>exact .j
 .exact h
def ae3(h:cP k):tX k=true:=by
 unfold tX;rcases h with rfl|rfl<;>rfl
def ac8{n:Nd}(h:uF n){o:L S}(ho:gR n=some o){f:Nat}{p:PD}(e:qm n f=some p):Cw p=(0,0)/\p.ins=n.ins.map Vr.z/\p.o=n.o.map Vr.z/\N p.j<=8192/\N p.an<=1024/\N p.y<=1024:=by
 unfold qm at e;rw[ho] at e;dsimp only[Option.getD_some] at e;cases V:jQ n (aL n) o (eW n) with
 |none=>grind
 |some st=>
  rw[V] at e;dsimp only at e;let⟨d1,d2⟩:=FE (O:=n.o.map Vr.z) h;let⟨g1,K⟩:=DC ho;have go:=wU (names:=aE n) (lean:=fA n) _ _ ((ue _ _).s.t ho) (λi hi=>(by cases hi)) J J;have r:∀v∈n.ins,aL n v.n<N n.ins:=λv y=>by
   let⟨j,u,B⟩:=gB y;have W:j<N (am n):=by unfold am;rw[ay];omega
   have ea:(am n)[j]=v:=by
    have:(n.ins++(n.o++n.ao))[j]' A=n.ins[j]:=J
    exact this.t B
   have:=HK h.P j W
   grind
  let⟨W1,b1,b2,b3⟩:=Fe h o [] _ (eW n) J g1 d1 J r J V;have p0:=FV (n:=n) (aL n) o (eW n) V;have sp:(am n).map Vr.z<+:st.an:=by have:=p0.V;rw[d2] at this;exact this
  have aw:qJ n (aL n) W1:=λx hx=>by
   obtain⟨j,u,rfl,_⟩:=tT hx;have hm:(am n)[j]∈n.ins++(n.o++n.ao):=aU u;rcases bA.1 hm with hm|hm
   .grind
   .refine b3 _ ?_;exact Cl (k:=aE n) J go.2.2.2 (by rw[K];exact ak _) _ (cN.2 ⟨_,hm,R⟩)
  let⟨p1,W2,c1,c2⟩:=Mt (σ:=aL n) h.z f b1 (zv h.P sp) aw;have a1:=sp.trans p1.V;have C:∀v∈n.o,aO n v.n=some v:=λv y=>by
   let⟨j,u,B⟩:=gB (show v∈am n by unfold am;exact jl _ (oJ _ y));rw[<-B];exact AA h.P j u
  have c:=G5 (aw.mono c1) n.o C n.o [] _ R (c2.mono (λ_ g=>g) λs g=>absurd g (nR _)) (zv h.P a1);have c:bZ n (n.ins.map Vr.z) (n.o.map Vr.z) W2 (λs=>s<N n.o) (gH (aL n) n.o 0 (ig n (aL n) f st)):=c;generalize gH (aL n) n.o 0 (ig n (aL n) f st)=a at c e;split at e
  .cases e
  .rename_i hb;injection e with e
   subst e;have w:N (a.l++a.j.map (eA (N a.l)))=N a.l+N a.j:=by rw[ay,aC]
   refine⟨?_,R,R,by show(a.l++a.j.map (eA (N a.l))).length<=8192;omega,by show N a.an<=1024;omega,by show N a.y<=1024;omega⟩;have b:∀l:L Nat,(∀k∈l,cP k)->l.all tX=true:=λl hl=>lX.2 λk m=>ae3 (hl k m);have hi:∀k∈n.ins.map Vr.z,cP k:=λk m=>by
    obtain⟨v,y,rfl⟩:=cN.1 m;exact h.z v (by unfold am;exact oJ _ y)
   have a0:∀k∈n.o.map Vr.z,cP k:=λk m=>by
    obtain⟨v,y,rfl⟩:=cN.1 m;exact h.z v (by unfold am;exact jl _ (oJ _ y))
   have z:DG ⟨n.ins.map Vr.z,n.o.map Vr.z,a.an,a.y,a.s,a.l++a.j.map (eA (N a.l))⟩=true:=by
    unfold DG;dsimp only;rw[aB (by omega:N a.an<=1024),aB (by omega:N a.y<=1024),aB (by omega:N a.s<=1024),b _ hi,b _ a0,b _ c.sk,b _ c.mq,aC,aC,aB h.ins,aB h.o,aB (by omega:N (a.l++a.j.map (eA (N a.l)))<=8192)]
    rfl
   have F:∀i∈a.l++a.j.map (eA (N a.l)),gC (n.ins.map Vr.z) (n.o.map Vr.z) a.an a.y a.s i:=λi hi=>by
    rcases bA.1 hi with hi|hi
    .exact(c.ld i hi).2
    .obtain⟨j,u,rfl⟩:=cN.1 hi;exact(c.ok j u).M _
   have tg:tF (a.l++a.j.map (eA (N a.l))):=by
    refine tF.app (λk i e g=>?_) (λk i e g=>?_)
    .rw[(c.ld _ (qI e)).1] at g;exact absurd g dc
    .rw[aC];rw[pF] at e;cases P:a.j[k]? with
     |none=>rw[P] at e;cases e
     |some D=>
      rw[P] at e;injection e with e
      subst e;have K:D.o=19\/D.o=20:=by
       unfold eA at g;split at g
       .exact g
       .exact g
      have t:=c.tg k D P K;have es:(eA (N a.l) D).a=D.a+N a.l:=by
       unfold eA;rw[ae K]
      rw[es];omega
   unfold Cw;rw[ae z,Kn _ _ λk m=>by
    rw[gg];exact(F _ (aU m)).X k (tg k _ (bM m))]
   dsimp only;rw[Kn _ _ λk m=>gC.E (F _ (aU m))];dsimp only;have ut:Hr (N a.an) (N (n.o.map Vr.z)) (zw ⟨n.ins.map Vr.z,n.o.map Vr.z,a.an,a.y,a.s,a.l++a.j.map (eA (N a.l))⟩) 0 (λ_=>False) (λ_=>False):=⟨⟨_,ae R,rD,rD,λ_ g=>g.elim,λ_ g=>g.elim⟩,λq hq=>ac Y⟩;let⟨s3,r1,r2⟩:=XS a.l 0 _ _ _ ut λi hi=>⟨(c.ld i hi).1,(c.ld i hi).2.wr.1 _ ⟨by rw[(c.ld i hi).1];decide,R⟩⟩;rw[gg] at r2;let⟨s4,r3,r4⟩:=c.run (N a.l) (N a.an) s3 _ (ak _) r2 λi hi=>.inr ⟨i,hi,R⟩;have rr:=xc a.l (a.j.map (eA (N a.l))) 0 _ s3 r1;rw[gg,r3] at rr;unfold C9;rw[Kq _ _ _ _ rr];obtain⟨⟨d,q1,q2⟩,-⟩:=r4;have e4:s4 (0+N (a.l++a.j.map (eA (N a.l))))=some d:=by rw[gg,w];exact q1
   show(match(.inr (s4 (0+N (a.l++a.j.map (eA (N a.l))))):Nat ⊕ St) with|.inl pc=>(pc,4)|.inr none=>(0,0)|.inr (some d)=>if d.2.all id then(0,0) else(N (a.l++a.j.map (eA (N a.l))),5))=(0,0)
   rw[e4]
   show(if d.2.all id then((0,0):Nat×Nat) else _)=(0,0)
   refine ae (lX.2 λx hx=>?_);let⟨j,u,B⟩:=gB hx;have hl:=q2.m;rw[aC] at hl
   have:=q2.v j Y
   rw[cA,bM u] at this;rw[<-B];exact this
end
end
section
variable {x:AV}{g:AV->HN->Prop}{p:ES}{d e:HN}{m:L (L AV)}{u v:L Nat}{f q s:Nat}{o:Nat->Nat}{n:Nd}
def Lw(v:Vr):∀(l:L Vr) (i:Nat) (M:S->Option Nat),iA (l++[v]) i M=λs=>if s=v.n then some (i+N l) else iA l i M s
 |[],i,M=>rfl
 |w::l,i,M=>by
  rw[fc];unfold iA;rw[Lw v l];funext s;rw[bt,show i+1+N l=i+(N l+1) by omega]
def Gq:∀(l:L Vr) (i:Nat) (a:ES),(gn l i a).an=a.an++l.map Vr.z/\N (gn l i a).j=N a.j+N l
 |[],i,a=>by unfold gn;simp
 |v::l,i,a=>by
  unfold gn;let⟨b,c⟩:=Gq l (i+1) (eE (.o ⟨4,N a.an,i,0⟩) (fx v.z a).2);rw[b,c];refine⟨?_,?_⟩
  .show(a.an++[v.z])++_=_
   rw[dC];rfl
  .have e:N (eE (.o ⟨4,N a.an,i,0⟩) (fx v.z a).2).j=N a.j+1:=by
    show(a.j++[_]).length=_
    rw[ay];rfl
   rw[e,bt];omega
def So(v:Vr):∀(l:L Vr) (i:Nat) (a:ES),gn (l++[v]) i a=eE (.o ⟨4,N (gn l i a).an,i+N l,0⟩) (fx v.z (gn l i a)).2
 |[],i,a=>by
  rw[dH]
  conv=>lhs;unfold gn gn
  conv=>rhs;unfold gn
  rfl
 |w::l,i,a=>by
  rw[fc]
  conv=>lhs;unfold gn
  rw[So v l]
  conv=>rhs;unfold gn
  rw[bt,show i+1+N l=i+(N l+1) by omega]
def ba.named{a:cK}{c:S->Option Nat}(h:ba f q a o u v c p d)(s:S)(n:Nat):∃b,yX (some kh) a.m (.s s.1 s.2) (II n) d=.ok bp (d.put a.m (.mp b))/\ba f q a o u v (λt=>if t=s then some n else c t) p (d.put a.m (.mp b))/\bh d o (d.put a.m (.mp b)) o:=by
 let⟨r,w,H,k,l⟩:=h.W;let⟨b,m,j⟩:=h.mM.mE s (II n);let⟨e,g,i⟩:=H.map (b:=a.m) (.inl H.os) H.mM b;refine⟨b,m,⟨⟨r,w,e,k.step g,l.step (o:=o) g⟩,?_,h.mC.eq (i a.c λe=>by have:=H.oc;rw[e,H.os] at this;cases this)⟩,g⟩;have e:(λt=>(if t=s then some n else c t).map iv)=λt=>if t=s then some (II n) else(c t).map iv:=by
  funext t;split<;>rfl
 rw[e];exact j
def Xs(r:aK s d x m)(n:d.h<=e.h)(k:∀b,ar x b->b<d.h->e.f b=d.f b):aK s e x m:=by
 rcases r with r|⟨b,off,cap,f,row,rfl,c,a,r⟩
 .exact .inl r
 .exact .inr ⟨b,off,cap,f,row,R,(k b R a).t c,cW a n,r⟩
def acK{v:cK}(h:ba f q v o [] [] (λ_=>none) hX d)(hn:rK o d v n)(e:N (am n)<=900000)
  (k:∀a c l,ba f q a c (n.ins.map Vr.z) [] (iA (am n) 0 λ_=>none) (eW n) l->bh d o l c->fh v a->g (.t []) l):∃a l,aq Tryz.prog 74 [.p q 0] d a l/\g a l:=by
 have b:=e;unfold am at b;rw[ay,ay] at b;let⟨_,_,H,_,b⟩:=h.W;have hb:d.f q=LL [v.n,v.d,v.w,v.b,v.e,v.a,v.y 0,v.y 1,v.y 2,v.y 3,v.y 4,v.y 5,.map v.m,.map v.c,v.y 6,v.y 7,v.y 8]:=H.D;have b:∀(c:Nat->Nat) (j:HN) (a:cK),bh d o j c->fh v a->aK 5 j v.d (n.ins.map Vr.cells)/\aK 5 j v.w (n.o.map Vr.cells)/\aK 5 j v.b (n.ao.map Vr.cells):=λc j a T V=>by
  have:=hn.step T V
  obtain⟨a,a,a,a,e,-,c,q2,q3,-⟩:=this;obtain⟨-,a,i,m,-⟩:=V;injection e with _ e
  injection e with p e
  injection e with r e
  injection e with s e
  rw[<-a,<-i,<-m,p,r,s];exact⟨c,q2,q3⟩
 have i:=(b o d v .refl (.refl v)).1;have a:=λl e w=>bI (e:=l) i (n:=N n.ins) (jy _) Y e w;refine cf Wt Tryz.func74 ?_;refine S2 hb a ?_;let⟨I,hI⟩:=inv λm K j=>∃(i:Nat) (a:cK) (o1:Nat->Nat),m=N n.ins-i/\i<=N n.ins/\(K 0=.p q 0/\K 10=v.d/\K 11=II (N n.ins)/\K 12=II i)/\ba f q a o1 ((n.ins.take i).map Vr.z) [] (iA (n.ins.take i) 0 λ_=>none) (gn (n.ins.take i) 0 hX) j/\bh d o j o1/\fh v a;refine aT I (N n.ins) ((hI _ _ _).2 ⟨0,v,o,R,aJ _,dy,by rw[gO];exact h,.refl,.refl v⟩) ?_;intro m K j p;let⟨i,a,o1,e8,p,⟨H,b3,a2,a3⟩,M1,T1,V1⟩:=(hI _ _ _).1 p;have c4:=M1.base;let⟨m6,m7,H1,c8,c9⟩:=M1.W;have D:j.f q=LL [a.n,a.d,a.w,a.b,a.e,a.a,a.y 0,a.y 1,a.y 2,a.y 3,a.y 4,a.y 5,.map a.m,.map a.c,a.y 6,a.y 7,a.y 8]:=H1.D;let⟨c,q2,q3⟩:=b o1 j a T1 V1;by_cases u:i<N n.ins
 .let⟨bx,c6,b6,g5,c7,ex,a8,c1,y⟩:=pV c Y;let⟨e5,a7⟩:=y i u;have b1:=(Gq (n.ins.take i) 0 hX).1;have c:=(Gq (n.ins.take i) 0 hX).2;have b:N (n.ins.take i)=i:=by rw[dW];omega
  have a9:N (gn (n.ins.take i) 0 hX).an=i:=by
   rw[b1]
   show([]++(n.ins.take i).map Vr.z).length=i
   rw[dH,aC,b]
  have e7:N (gn (n.ins.take i) 0 hX).j=i:=by rw[c,b];show 0+i=i;omega
  have W:=Lw n.ins[i] (n.ins.take i) 0 λ_=>none;have ei:=So n.ins[i] (n.ins.take i) 0 hX;have ek:(n.ins.take (i+1)).map Vr.z=(n.ins.take i).map Vr.z++[n.ins[i].z]:=by rw[dt u,cM];rfl
  rw[<-dt u] at W ei;rw[b,gg] at W ei;have p:N ((n.ins.take i).map Vr.z)=i:=by rw[aC,b]
  rw[a9] at ei;generalize b:gn (n.ins.take i) 0 hX=st at*;generalize e9:iA (n.ins.take i) 0 (λ_=>none)=g9 at*;generalize b:(n.ins.take i).map Vr.z=s at*;generalize hw:n.ins[i]=w at*;obtain⟨B,r⟩:∃B,B=j.X (LL [w.n,w.z,w.p,w.t,w.a]):=⟨_,R⟩;have C:ai j.h j B:=by rw[r];exact ap (.refl _ _)
  have F:B.f j.h=LL [w.n,w.z,w.p,w.t,w.a]:=by rw[r];exact ae R
  have c5:B.h=j.h+1:=by rw[r];rfl
  have O:=M1.free (ak _);have MV:=M1.X C;let⟨u6,u7,z,I,P⟩:=MV.W;refine S7 H b3 a2 a3 ex a8 a7 ?_;rw[<-r];clear r;refine S2 D F ?_;obtain⟨a5,eN⟩:∃a5,a5=j.h+1+(1+1+1+1+1+1+1+1):=⟨_,R⟩;obtain⟨X,b⟩:∃X,X=(((B.at_ (j.h+1+(1+1+1+1+1+1+1+1))).X (LL [w.z])).at_ (j.h+1+(1+1+1+1+1+1+1+1+1+1+1+1+1+1))):=⟨_,R⟩;have t:ai B.h B X:=by
   rw[b];refine⟨by rw[c5];show j.h+1<=j.h+1+(1+1+1+1+1+1+1+1+1+1+1+1+1+1);omega,λc hc=>ac (by show¬c=j.h+1+(1+1+1+1+1+1+1+1);omega)⟩
  have x:X.h=j.h+15:=by rw[b];rfl
  have fX:X.f a5=LL [w.z]:=by rw[b,eN];exact ae R
  rw[<-b,<-eN];clear b;let⟨x,b,Z,f4,U,T4⟩:=MV.app z (k:=0) (s:=1) (w:=8) (n:=i) dc R p (qp w.z []) t (sX fX Y R) Y
   (pi':=s++[w.z]) (po':=[]) (st':=st) (l6':=u6) (l7':=u7) (nine (yU _ _) R R R R R R R R) (nine (by show(s++[w.z]).length=_;rw[ay];rfl) R R R R R R R R) R (λ_ _ s=>I.step s) (λ_ _ s=>P.step s)
  rw[Z];have I:x.f q=LL [a.n,a.d,a.w,a.b,a.e,a.a,a.y 0,a.y 1,a.y 2,a.y 3,a.y 4,a.y 5,.map a.m,.map a.c,a.y 6,a.y 7,a.y 8]:=f4;refine S2 H I ?_;obtain⟨b,z⟩:∃b,b=a.put 0 (.a X.h 0 (i+1) (.B 1)):=⟨_,R⟩;obtain⟨P,s⟩:∃P,P=x.put q (LL [a.n,a.d,a.w,a.b,a.e,a.a,.a X.h 0 (i+1) (.B 1),a.y 1,a.y 2,a.y 3,a.y 4,a.y 5,.map a.m,.map a.c,a.y 6,a.y 7,a.y 8]):=⟨_,R⟩;have p:P=x.put q (LL (a.put 0 (.a X.h 0 (i+1) (.B 1))).cells):=s;rw[<-p,<-z] at U;rw[<-p] at T4;rw[<-s];have T6:=T4;have t:b.m=a.m:=by rw[z];rfl
  clear p f4 I Z T4;have p:=T6.h;have e0:fh a b:=by rw[z];exact .put _ _ _
  have a4:=(T6.same _ Y (.inl O)).t F;have p:x.f j.h=LL [w.n,w.z,w.p,w.t,w.a]:=by
   have:=a4
   rw[s] at this;exact(ac Y).s.t this
  have b9:P.f q=LL [b.n,b.d,b.w,b.b,b.e,b.a,b.y 0,b.y 1,b.y 2,b.y 3,b.y 4,b.y 5,.map b.m,.map b.c,b.y 6,b.y 7,b.y 8]:=by let⟨_,_,Z,_⟩:=U.W;exact Z.D
  clear s;rw[t] at b9;refine S3 H a4 p ?_;have b0:=a9;refine bL (xe U (c:=w.z) Y λy7 o7 p M7 T7=>?_);rw[b0];have n7:=T7.h;have z:=(T6.C _ Y).t O;have P:=(T7.same _ Y (.inl z)).t a4;have a0:p.f q=LL [b.n,b.d,b.w,b.b,b.e,b.a,b.y 0,b.y 1,y7,b.y 3,b.y 4,b.y 5,.map b.m,.map b.c,b.y 6,b.y 7,b.y 8]:=by let⟨_,_,Z,_⟩:=M7.W;exact Z.D
  rw[t] at a0;let⟨es,eu,M8,T8⟩:=M7.named w.n i;have I:yX (some kh) a.m (.s w.n.1 w.n.2) (II i) p=.ok bp (p.put a.m (.mp es)):=by rw[<-t];exact eu
  have b8:(b.put 2 y7).m=a.m:=t;rw[b8] at M8 T8;obtain⟨s,x⟩:∃s,s=p.put a.m (.mp es):=⟨_,R⟩;rw[<-x] at M8 T8 I;have g0:s.h=p.h:=by rw[x];rfl
  clear x;have b2:=(T7.C _ Y).t z;have b4:=(T8.same _ Y (.inl b2)).t P;have a1:s.f q=LL [b.n,b.d,b.w,b.b,b.e,b.a,b.y 0,b.y 1,y7,b.y 3,b.y 4,b.y 5,.map b.m,.map b.c,b.y 6,b.y 7,b.y 8]:=by let⟨_,_,Z,_⟩:=M8.W;exact Z.D
  rw[t] at a1;have t:ai s.h s (s.at_ (s.h+(1+1+1+1+1+1+1+1+1+1+1))):=⟨du _ _,λ_ _=>R⟩;have a6:=λz=>((M8.X t).mM.look w.n false z);rw[b8] at a6;have t:sg (λt=>if t=w.n then some i else g9 t) w.n=i:=by unfold sg;simp
  have t:iv i=II i:=R;simp(disch:=omega)only[go_sem,H,t,b9,a4,a0,P,a1,b4,I,a6,fp,ft,bF];obtain⟨N9,b7⟩:∃N9,N9=s.h+(1+1+1+1+1+1+1+1+1):=⟨_,R⟩;obtain⟨z,t⟩:∃z,z=(((s.at_ (s.h+(1+1+1+1+1+1+1+1+1))).X (LL [i,i])).at_ (s.h+(1+1+1+1+1+1+1+1+1+1+1))):=⟨_,R⟩;have b5:ai s.h s z:=by
   rw[t];exact⟨du _ _,λc hc=>ac (by show¬c=s.h+(1+1+1+1+1+1+1+1+1);omega)⟩
  have h0:z.h=s.h+11:=by rw[t];rfl
  have e6:z.f N9=LL [i,i]:=by rw[t,b7];exact ae R
  rw[<-t,<-b7];clear t;have t:=e7;have g6:cD 1 z (.a N9 0 2 (.k 2)) (N [i,i]) ([i,i].map iv):=.inr ⟨N9,0,_,false,_,R,e6,Y,ak _,R,R⟩;refine bL (uW (M8.X b5) (r:=4) (n:=i) (c:=[i,i]) g6 (by show 2<=3;decide) t Y R λg8 g4 t t z=>?_);refine S1 a3 ?_;refine⟨N n.ins-(i+1),Y,(hI _ _ _).2 ⟨i+1,(b.put 2 y7).put 5 g8,g4,R,u,⟨H,b3,a2,R⟩,?_,T1.M ((bh.ext C).M (T6.M (T7.M (T8.M ((bh.ext b5).M z))))),V1.M (e0.M (.M (.put _ _ _) (.put _ _ _)))⟩⟩;rw[ek,W,ei];exact t
 .obtain rfl:i=N n.ins:=Y;rw[iM (ak _)] at M1;rw[V1.2.2.1,V1.2.2.2.1] at D;have i:dZ v.w=some [v.w]:=by rcases q2 with⟨_,b|⟨_,_,_,b⟩⟩|⟨_,_,_,_,_,b,_⟩<;>rw[b]<;>rfl
  have t:dZ v.b=some [v.b]:=by rcases q3 with⟨_,b|⟨_,_,_,b⟩⟩|⟨_,_,_,_,_,b,_⟩<;>rw[b]<;>rfl
  refine S6 H a2 a3 D i t ?_;obtain⟨a5,eN⟩:∃a5,a5=j.h+(1+1+1+1+1+1+1+1+1+1):=⟨_,R⟩;obtain⟨V,b⟩:∃V,V=(((j.at_ (j.h+(1+1+1+1+1+1+1+1+1+1))).X (LL [v.w,v.b])).at_ (j.h+(1+1+1+1+1+1+1+1+1+1+1+1+1+1))):=⟨_,R⟩;have EV:ai j.h j V:=by
   rw[b];exact⟨du _ _,λc hc=>ac (by show¬c=j.h+(1+1+1+1+1+1+1+1+1+1);omega)⟩
  have c:V.h=j.h+14:=by rw[b];rfl
  have c:V.f a5=LL [v.w,v.b]:=by rw[b,eN];exact ae R
  rw[<-b,<-eN];clear b;have b:mW [n.o,n.ao]<=4294967296:=by
   unfold mW;simp only[ir,Iq,ay,hN];omega
  refine bL (Jw (b:=a5) (a:=[v.w,v.b]) (l:=[n.o,n.ao]) ⟨q2.ext (f:=0) EV,q3.ext (f:=0) EV,trivial⟩ c Y b (gf R) λxw z t g7 V=>?_);have b:[n.o,n.ao].flatten=n.o++n.ao:=by simp
  rw[b] at t;obtain⟨i,b⟩:∃i,i=n.o++n.ao:=⟨_,R⟩;have c:am n=n.ins++i:=by rw[b];rfl
  have j:N i<=900000:=by rw[b,ay];omega
  have j:N n.ins+N i<=900000:=by rw[b,ay];omega
  have j:eW n={gn n.ins 0 hX with an:=(gn n.ins 0 hX).an++i.map Vr.z}:=by rw[b];rfl
  rw[<-b] at t;rw[j,c] at k;have b:=λl e w=>bI (e:=l) t (jy _) Y e w;refine S1 b ?_;have b:=aM EV V;have e:=M1.X b;have T3:=T1.M (.ext b);have a9:N (gn n.ins 0 hX).an=N n.ins:=by rw[(Gq n.ins 0 hX).1];show([]++n.ins.map Vr.z).length=_;rw[dH,aC]
  generalize gn n.ins 0 hX=st at*;obtain⟨J,V⟩:∃J:Nat->FN->HN->Prop,∀m K b,J m K b↔∃(j:Nat) (c:cK) (o2:Nat->Nat),m=N i-j/\j<=N i/\(K 0=.p q 0/\K 63=xw/\K 64=II (N i)/\K 65=II j)/\ba f q c o2 (n.ins.map Vr.z) [] (iA (n.ins++i.take j) 0 λ_=>none) {st with an:=st.an++(i.take j).map Vr.z} b/\bh z o1 b o2/\fh v c:=⟨_,λ_ _ _=>gZ⟩;refine aT J (N i) ((V _ _ _).2 ⟨0,a,o1,R,aJ _,⟨H,R,R,R⟩,by rw[gO,eB,oI,eB];exact e,.refl,V1⟩) ?_;have kx:∀b o2,bh z o1 b o2->aK 5 b xw (i.map Vr.cells):=λb o2 T=>Xs t T.h λb hb hn=>T.same b hn (.inl (M1.free (om (g7 b hb))));clear H b3 a2 a3;intro a K a b;let⟨j,c,o2,e8,_,⟨H,t,e,m⟩,U,T4,z⟩:=(V _ _ _).1 b;have b:=kx _ _ T4;by_cases u:j<N i
  .let⟨bx,c6,b6,g5,c7,ex,a8,c1,y⟩:=pV b Y;let⟨e5,a7⟩:=y j u;have W:(n.ins++i.take (j+1))=(n.ins++i.take j)++[i[j]]:=by rw[dt u,dC]
   have W:=(dv (λl=>iA l 0 λ_=>none) W).t (Lw i[j] (n.ins++i.take j) 0 λ_=>none);have ek:(i.take (j+1)).map Vr.z=(i.take j).map Vr.z++[i[j].z]:=by rw[dt u,cM];rfl
   have b:N (n.ins++i.take j)=N n.ins+j:=by rw[ay,dW];omega
   have b1:N (st.an++(i.take j).map Vr.z)=N n.ins+j:=by rw[ay,aC,dW];omega
   rw[b,gg] at W;have W:=W;generalize e9:iA (n.ins++i.take j) 0 (λ_=>none)=g9 at*;generalize hw:i[j]=w at*;have c4:=U.base;let⟨m6,m7,H1,c8,c9⟩:=U.W;have D:a.f q=LL [c.n,c.d,c.w,c.b,c.e,c.a,c.y 0,c.y 1,c.y 2,c.y 3,c.y 4,c.y 5,.map c.m,.map c.c,c.y 6,c.y 7,c.y 8]:=H1.D;obtain⟨B,r⟩:∃B,B=a.X (LL [w.n,w.z,w.p,w.t,w.a]):=⟨_,R⟩;have C:ai a.h a B:=by rw[r];exact ap (.refl _ _)
   have F:B.f a.h=LL [w.n,w.z,w.p,w.t,w.a]:=by rw[r];exact ae R
   have c5:B.h=a.h+1:=by rw[r];rfl
   have O:=U.free (ak _);have MV:=U.X C;have l:=(C.2 q c4.2.2).t D;refine S7 H t e m ex a8 a7 ?_;rw[<-r];clear r;refine S3 H D F ?_;refine bL (xe MV (c:=w.z) (by show(st.an++_).length<=_;omega) λy7 o7 p M7 T7=>?_);have b0:N ({st with an:=st.an++(i.take j).map Vr.z}:ES).an=N n.ins+j:=b1;rw[b0];have n7:=T7.h;have P:=(T7.same _ Y (.inl O)).t F;have a0:p.f q=LL [c.n,c.d,c.w,c.b,c.e,c.a,c.y 0,c.y 1,y7,c.y 3,c.y 4,c.y 5,.map c.m,.map c.c,c.y 6,c.y 7,c.y 8]:=by let⟨_,_,Z,_⟩:=M7.W;exact Z.D
   let⟨es,eu,M8,T8⟩:=M7.named w.n (N n.ins+j);have I:yX (some kh) c.m (.s w.n.1 w.n.2) (II (N n.ins+j:Nat)) p=.ok bp (p.put c.m (.mp es)):=eu;obtain⟨s,x⟩:∃s,s=p.put c.m (.mp es):=⟨_,R⟩;have b:s=p.put (c.put 2 y7).m (.mp es):=x;rw[<-b] at M8 T8;rw[<-x] at I;have g0:s.h=p.h:=by rw[x];rfl
   clear x b;have b2:=(T7.C _ Y).t O;have b4:=(T8.same _ Y (.inl b2)).t P;have a1:s.f q=LL [c.n,c.d,c.w,c.b,c.e,c.a,c.y 0,c.y 1,y7,c.y 3,c.y 4,c.y 5,.map c.m,.map c.c,c.y 6,c.y 7,c.y 8]:=by let⟨_,_,Z,_⟩:=M8.W;exact Z.D
   refine S8 m l F a0 P a1 b4 I ?_;refine⟨N i-(j+1),Y,?_⟩;refine(V _ _ _).2 ⟨j+1,c.put 2 y7,o7,R,u,⟨dx H,dx t,dx e,R⟩,?_,T4.M ((bh.ext C).M (T7.M T8)),z.M (.put _ _ _)⟩;rw[W,ek,<-dC];exact M8
  .obtain rfl:j=N i:=Y;rw[iM (ak _)] at U;refine S2 e m ?_;exact k c o2 a U (T3.M T4) z
end
section
open Tryz
variable {d:HN}{m:L (L AV)}{b i j q r s:Nat}
def oY(b:S)(a:L Tr):L Tr:=if b=eH then[] else if b=dk then a.take 1 else a
def pO(a b:S):L S:=if a=bR\/a=bB\/a=bD then[b] else[]
def afS(a:L Tr):qu a=dw (a.take 1):=by
 cases a with
 |nil=>unfold qu;rw[xD];unfold dw;rfl
 |cons k a=>
  rw[show(k::a).take 1=[k] from R]
  conv=>lhs;unfold qu
  conv=>rhs;unfold dw
  rw[show dw []=[] by unfold dw;rfl,eB]
def TO(b d:S)(n a:Nat)(c:L Tr):eS (.mk b d n a c)=pO b d++dw (oY b c):=by
 conv=>lhs;unfold eS
 unfold pO oY;congr 1;by_cases h:b=eH
 .rw[ae h,ae h];conv=>rhs;unfold dw
 .rw[ac h,ac h];by_cases g:b=dk
  .rw[ae g,ae g,afS]
  .rw[ac g,ac g]
def LA{c:L Tr}(h:i<N c):dw (c.take (i+1))=dw (c.take i)++eS c[i]:=by
 have d:∀(a b:L Tr),dw (a++b)=dw a++dw b:=by
  intro a b
  induction a with
  |nil=>rw[dH,show dw []=[] by unfold dw;rfl,dH]
  |cons x a b=>
   rw[fc]
   conv=>lhs;unfold dw
   conv=>rhs;enter [1];unfold dw
   rw[b,dC]
 rw[dt h,d];congr 1
 conv=>lhs;unfold dw
 rw[show dw []=[] by unfold dw;rfl,eB]
def mL(P:S->Bool)(l:L S):S->Bool:=λs=>P s||l.contains s
def IW(P:S->Bool):mL P []=P:=by funext s;unfold mL;rw[ZJ,NP]
def IV(P:S->Bool)(a b:L S):mL (mL P a) b=mL P (a++b):=by
 funext s;unfold mL;rw[ZI,Bool.or_assoc]
def IX(P:S->Bool)(x:S):(λt=>decide (t=x)||P t)=mL P [x]:=by
 funext s;unfold mL;rw[Ik,ZJ,NP,Bool.or_comm];congr 1;exact rB.2 dp
def Xr{a:Nat}{c:Cp}(h:aK s d (.a b j r c) m)(f:a<=N m):aK s d (.a b j a c) (m.take a):=by
 have n:∀(m:L (L AV)) (a:Nat),(∀l∈m,N l=s)->a<=N m->m.flatten.take (a*s)=(m.take a).flatten:=by
  intro m
  induction m with
  |nil=>intro a _ _;simp
  |cons l m i=>
   intro a g f;cases a with
   |zero=>simp
   |succ a=>
    have e:=g l gN;rw[rG,ir,ir,List.take_append,iM (by rw[e,tv];omega),<-i a (λx i=>g x (li _ i)) (by simpa using f),e];congr 2;rw[tv];omega
 rcases h with⟨rfl,_⟩|⟨i,i,i,t,row,e,o,p,i,k,q⟩
 .have:a=0:=by simpa using f
  subst this;exact .inl ⟨by simp,.inr ⟨_,_,_,R⟩⟩
 .cases e;have e:N (m.take a)=a:=by rw[dW];omega
  have i:a*s<=N m*s:=tu _ f;refine .inr ⟨b,j,c,t,row,by rw[e],o,p,by rw[e];omega,λl g=>k l (rE g),?_⟩;rw[e,<-n m a k f,<-q,vP,xH i]
def Xk{F:Nat->Prop}{d:HN}:∀{b:L Tr} {a:L (L AV)} (m:Nat),cw F d b a->cw F d (b.take m) (a.take m)
 |_,_,0,_=>by rw[gO,gO];unfold cw;rfl
 |[],a,m+1,h=>by
  unfold cw at h;subst h;rw[xD,xD];unfold cw;rfl
 |k::b,a,m+1,h=>by
  unfold cw at h;obtain⟨l,r,rfl,a,b⟩:=h;rw[rG,rG];unfold cw;exact⟨l,_,R,a,Xk m b⟩
def adK{F:Nat->Prop}{fb:Nat}(hF:¬F q)(b8:fb≠q):∀(e:Tr),bO e->∀(d:HN) (z:L AV) (P:S->Bool) (Q:AV->HN->Prop),q<d.h->fb<d.h->d.f fb=LL [.map q]->fL d q (lD P)->bn F d e z->
  (∀m,ax q d m->fL m q (lD (mL P (eS e)))->Q (.t []) m)->∃v' m,aq Tryz.prog 165 [.p fb 0,z] d v' m/\Q v' m:=by
 refine Tr.E λc u n a l ih=>?_;intro ok d z P Q K b0 hf M r k;unfold bO at ok;let⟨z,b7,B⟩:=ok;have B:=(mw _).1 B;unfold bn at r;obtain⟨y,rfl,iy,V,ry,p⟩:=r;have C:=(kI p).1;refine cf VQ func165 ?_;have E:ai d.h d (d.X (LL [c,u,n,a,y])):=ap (.refl _ _);have c0:(d.X (LL [c,u,n,a,y])).f d.h=LL [c,u,n,a,y]:=ae R;have r:(d.X (LL [c,u,n,a,y])).h=d.h+1:=R;have U:=(E.2 _ b0).t hf;have Z:=sB M K E;have t:aI c.1 c.2 3 7496054=de (c=bR):=bz c bR;have w:aI c.1 c.2 4 1852139639=de (c=bB):=bz c bB;have H:aI c.1 c.2 5 435527247213=de (c=bD):=bz c bD;have I:aI c.1 c.2 3 6648432=de (c=eH):=bz c eH;have e5:aI c.1 c.2 3 7955046=de (c=dk):=bz c dk;let⟨es,eu,Mu⟩:=MM Z u;rw[IX] at Mu;rw[TO,<-IV] at k;let⟨K,f⟩:=jH λW v=>∃y' a4,W 0=.p fb 0/\W 4=y'/\sA F y'/\aK 5 d y' a4/\cw F d (oY c l) a4/\fL v q (lD (mL P (pO c u)))/\ax q d v;refine iB (M:=K) 3 _ _ _ ?_ ?_
 rotate_left
 .simp(disch:=omega)only[go_sem,sV];generalize d.X (LL [.s c.1 c.2,.s u.1 u.2,II n,II a,y])=a9 at*;have o:c=bR\/c=bB\/c=bD->pO c u=[u]/\oY c l=l:=λg=>by
   refine⟨ae g,?_⟩;unfold oY;rcases g with rfl|rfl|rfl<;>rw[ac (by decide),ac (by decide)]
  have n:ax q d (a9.put q (.mp es)):=⟨by show d.h<=a9.h;omega,λb h1 h2=>(ac h2).t (E.2 b h1)⟩;have X1:ax q d a9:=CL q E;by_cases r:c=bR
  .let⟨a,x⟩:=o (.inl r);rw[a,x] at f;rw[aB r] at t;refine S4 t U c0 eu ?_;exact(f _ _).2 ⟨_,_,R,R,iy,ry,p,Mu,n⟩
  rw[aA r] at t;by_cases q2:c=bB
  .let⟨a,x⟩:=o (.inr (.inl q2));rw[a,x] at f;rw[aB q2] at w;refine S5 t w U c0 eu ?_;exact(f _ _).2 ⟨_,_,R,R,iy,ry,p,Mu,n⟩
  rw[aA q2] at w;by_cases r:c=bD
  .let⟨a,x⟩:=o (.inr (.inr r));rw[a,x] at f;rw[aB r] at H;refine S6 t w H U c0 eu ?_;exact(f _ _).2 ⟨_,_,R,R,iy,ry,p,Mu,n⟩
  rw[aA r] at H;have a6:pO c u=[]:=ac (by rintro(g|g|g)<;>contradiction);rw[a6,IW] at f;by_cases q4:c=eH
  .have x:oY c l=[]:=ae q4;rw[x] at f;rw[aB q4] at I;refine S4 t w H I ?_;exact(f _ _).2 ⟨_,[],R,R,λ_ h=>h.elim,.inl ⟨R,.inl R⟩,by unfold cw;rfl,Z,X1⟩
  rw[aA q4] at I;by_cases q5:c=dk
  .have x:oY c l=l.take 1:=(ac q4).t (ae q5);rw[x] at f;rw[aB q5] at e5;have a5:yV (II 0) (II 1)=some (II 0):=R;rcases ry with⟨hn,rfl|⟨b,off,j,rfl⟩⟩|ry'
   .have a3:l=[]:=ff (by rw[<-C,hn];rfl);subst a3;refine S6 t w H I e5 a5 ?_;exact(f _ _).2 ⟨_,[],R,R,λ_ h=>h.elim,.inl ⟨R,.inl R⟩,by rw[xD];unfold cw;rfl,Z,X1⟩
   .have a3:l=[]:=ff (by rw[<-C,hn];rfl);subst a3;cases j<;>(
     refine S6 t w H I e5 a5 ?_;exact(f _ _).2 ⟨_,[],R,R,iy,.inl ⟨R,.inr ⟨_,_,_,R⟩⟩,by rw[xD];unfold cw;rfl,Z,X1⟩)
   .have c3:=ry';obtain⟨b,off,j,ro,row,rfl,-⟩:=ry';have b3:aK 5 d (.a b off (N V) j) V:=.inr c3;by_cases b1:N V=0
    .have c1:sA F (.a b off 0 j):=iy;have g5:cw F d (l.take 1) (V.take 0):=by
      rw[iM (by omega:N l<=1),ff (l:=l) (by omega),gO];unfold cw;rfl
     have g6:=Xr (a:=0) b3 (aJ _);rw[b1] at c0;cases j<;>(
      refine S7 t w H I e5 b1 a5 ?_;exact(f _ _).2 ⟨_,_,R,R,c1,g6,g5,Z,X1⟩)
    .have c2:sA F (.a b off 1 j):=iy;have qu:yV (II (N V)) (II 1)=some (II 1):=by
      show some (II (if fU .i64 1 (N V) then 1 else N V))=_;rw[TF (by omega) (by omega)];by_cases h1:1<N V
      .rw[aB h1];rfl
      .rw[aA h1,show N V=1 by omega];rfl
     have g6:=Xr (a:=1) b3 Y;have g5:=Xk 1 p;cases j<;>(
      simp(disch:=omega)only[go_sem,t,w,H,I,e5,qu];exact(f _ _).2 ⟨_,_,R,R,c2,g6,g5,Z,X1⟩)
  .have x:oY c l=l:=(ac q4).t (ac q5);rw[x] at f;rw[aA q5] at e5;refine S5 t w H I e5 ?_;exact(f _ _).2 ⟨_,_,R,R,iy,ry,p,Z,X1⟩
 .intro W v s;let⟨y',a4,p0,p4,b9,ry',a2,Mz,O⟩:=(f _ _).1 s;clear s f t w H I e5 eu Mu Z U c0 ry p C iy;have a1:∀k∈oY c l,k∈l:=λk s=>by
   unfold oY at s;split at s
   .cases s
   .split at s
    .exact rE s
    .exact s
  have a:N (oY c l)<=1073741824:=by
   unfold oY;split
   .exact aJ _
   .split
    .rw[dW];omega
    .exact b7
  have ih:=λk s=>ih k (a1 k s);have B:=λk s=>B k (a1 k s);generalize oY c l=KS at*;generalize mL P (pO c u)=P1 at*;have C:=(kI a2).1;have a:=λm e w=>bI (e:=m) ry' C Y e w;simp(disch:=omega)only[lT,lU];refine S2 p4 a ?_;let⟨I,hI⟩:=inv λm W a=>∃i,m=N KS-i/\i<=N KS/\(W 0=.p fb 0/\W 30=y'/\W 31=II (N KS)/\W 32=II i)/\fL a q (lD (mL P1 (dw (KS.take i))))/\ax q d a;refine aT I (N KS) ((hI _ _ _).2 ⟨0,R,aJ _,⟨dx p0,R,R,R⟩,by rw[gO,show dw []=[] by unfold dw;rfl,IW];exact Mz,O⟩) ?_;clear p0 p4 Mz O;intro m W v a;let⟨i,c,a,⟨p0,b2,a7,a8⟩,Mz,O⟩:=(hI _ _ _).1 a;have a:=O.1;by_cases D:i<N KS
  .let⟨b6,ri⟩:=pf a2 i D;obtain⟨b,off,j,ro,row,rfl,b5,b4,a,a0⟩:=ry'.at b6;have c:v.f b=_:=(O.2 b b4 (λe=>hF (e▸b9 b R))).t b5;have a:=nI ri O hF;let⟨d,f2,f3,f4,f5,b⟩:=cJ ri;rw[b] at a0 a;refine S6 p0 b2 a7 a8 c a0 ?_;have b:=ap (y:=LL [d,f2,f3,f4,f5]) (.refl v.h v);have c:=B _ (aU D);have d:=(b.2 _ (by omega:fb<v.h)).t ((O.2 _ b0 b8).t hf);refine al (ih _ (aU D) c _ _ _ _ (by show q<v.h+1;omega) (by show fb<v.h+1;omega) d (sB Mz Y b) (rp a b) λa d c=>?_);rw[IV,<-LA D] at c;have e:v.h+1<=a.h:=d.1;refine S1 a8 ?_;exact⟨N KS-(i+1),Y,(hI _ _ _).2 ⟨i+1,R,D,⟨dx p0,dx b2,dx a7,R⟩,c,⟨Y,λc h1 h2=>(d.2 c (by show c<v.h+1;omega) h2).t ((b.2 c Y).t (O.2 c h1 h2))⟩⟩⟩
  .obtain rfl:i=N KS:=Y;rw[hU] at Mz;refine S2 a7 a8 ?_;exact k _ O Mz
variable {g:AV->HN->Prop}{z:L AV}{n:Nd}
def aeT{a:Type}{l:L a}{v:AV}(D:N m=N l)(t:N l<=4294967296)(y:aK 7 d v m){p:a->Bool}{f:FuncId}{c:L AV}
  (C:Cf d l m p f c) (k:∀a,ai d.h d a->g (II (gE (dD p l 0))) a):∃t a,aq Tryz.prog 179 [v,.func f [] c] d t a/\g t a:=by
 refine c0 func179 ?_;have t:=λa e w=>bI (e:=a) y D Y e w;refine S1 t ?_;let⟨I,n⟩:=inv λt a s=>∃i,t=N l-i/\i<=N l/\(a 0=v/\a 1=.func f [] c/\a 7=II (N l)/\a 8=II i)/\dD p (l.drop i) i=dD p l 0/\ai d.h d s;refine aT I (N l) ((n _ _ _).2 ⟨0,R,aJ _,dy,R,.refl _ _⟩) ?_;intro t a s a;let⟨i,t,a,⟨u,x,q,r⟩,ex,Ex⟩:=(n _ _ _).1 a;by_cases h:i<N l
 .obtain⟨b,off,cap,a,row,rfl,B,o,a,j⟩:=y.at (i:=i) Y;have a:=(Ex.2 b o).t B;refine S6 u x q r a j ?_;refine al (C s Ex i h Y _ λa z=>?_);rw[yM h] at ex;cases e:p l[i] with
  |true=>
   rw[e,ae R] at ex;rw[<-ex] at k;refine S0 ?_;exact k _ (aM Ex z)
  |false=>
   rw[e,ac (by decide)] at ex;refine S1 r ?_;exact⟨N l-(i+1),Y,(n _ _ _).2 ⟨i+1,R,h,⟨dx u,dx x,dx q,R⟩,ex,aM Ex z⟩⟩
 .obtain rfl:i=N l:=Y;rw[fQ] at ex;rw[<-ex] at k;refine S2 q r ?_;exact k _ Ex
def adc{q:aX}{c:Nat}{s:S}(r:uf tt d q z)(b:d.f c=LL [s])(a:c<d.h)(k:∀a,ai d.h d a->g (.l (de (q.n=s))) a):∃v a,aq Tryz.prog 180 [z,.p c 0] d v a/\g v a:=by
 obtain⟨a,rfl,a⟩:=r;obtain⟨e,f2,f3,f4,f5,rfl⟩:=cJ a;refine c0 func180 ?_;have e:=bz q.n s;simp(disch:=omega)only[go_sem,sV,b,e,fc,dH];exact k _ (ap (.refl _ _))
def aco{q:aX}(r:uf tt d q z)(s:bO q.e)(k:∀b a,bn (λc=>d.h<=c) a q.e b->ai d.h d a->g (.g ([sV q.n]++b++[II q.a])) a):∃v a,aq Tryz.prog 181 [z] d v a/\g v a:=by
 obtain⟨b,rfl,e⟩:=r;obtain⟨c,f2,f3,f4,f5,rfl⟩:=cJ e;refine c0 func181 ?_;obtain⟨a,b⟩:∃a,a=(d.X (LL [q.n,c,f2,f3,f4,f5,q.a])).X (LL [.s 0 0,.s 0 0,.s 0 0,II 0,II 0,.e,II 0]):=⟨_,R⟩;have f:ai d.h d a:=by rw[b];exact ap (ap (.refl _ _))
 have h:a.h=d.h+2:=by rw[b];rfl
 have c0:a.f d.h=LL [q.n,c,f2,f3,f4,f5,q.a]:=by rw[b];exact(ac (by show¬d.h=d.h+1;omega)).t (ae R)
 have i:a.f (d.h+1)=LL [.s 0 0,.s 0 0,.s 0 0,II 0,II 0,.e,II 0]:=by rw[b];exact ae R
 simp(disch:=omega)only[go_sem,sV,fc,dH];rw[<-b];clear b;refine al (QB q.e s _ _ _ (rp e f) λb c h e=>?_);have b:=e.1;obtain⟨l,m,n,o,p,rfl⟩:=cJ h;have b:=(e.2 _ (by omega:d.h<a.h)).t c0;have j:=(e.2 _ (by omega:d.h+1<a.h)).t i;refine S2 b j ?_;refine k [l,m,n,o,p] _ ?_ ?_
 .refine gq (U:=c) (λb a i=>?_) ?_ (λb a=>?_) _ _ h
  .have a:=a;exact(ac Y).t (ac Y)
  .exact ak _
  .have a:=a;show d.h<=b;omega
 .exact⟨by show d.h<=c.h;omega,λb a=>(ac Y).t ((ac Y).t ((aM f e).2 b a))⟩
def eq_then(r:dL tt d n z)(ok:eG n)(s:S)(k:∀(v:S) (a:Nat) (b:Bool) I f,bn (λc=>d.h<=c) f (jE n s) I->ai d.h d f->g (.t [.g ([sV v]++I++[.i .i64 a]),.l b]) f):∃v f,aq Tryz.prog 164 [.g z,.s s.1 s.2] d v f/\g v f:=by
 obtain⟨i,u,x,y4,rfl,-,-,-,-,a,r4,H⟩:=r;let⟨_,_,_,_,a,F⟩:=ok;have f:=lS H;refine c0 func164 ?_;obtain⟨a,c⟩:∃a,a=((d.X (.E false [.s n.n.1 n.n.2,i,u,x,y4,.i .i64 n.a])).X (.E false [.s s.1 s.2])).X (.E false [.s 0 0,.s 0 0,.s 0 0,.i .i64 0,.i .i64 0,.e,.i .i64 0]):=⟨_,R⟩;have v:ai d.h d a:=by rw[c];exact ap (ap (ap (.refl _ _)))
 have n1:a.h=d.h+3:=by rw[c];rfl
 have c0:a.f d.h=.E false [.s n.n.1 n.n.2,i,u,x,y4,.i .i64 n.a]:=by rw[c];exact(ac (by show¬d.h=d.h+1+1;omega)).t ((ac (by show¬d.h=d.h+1;omega)).t (ae R))
 have c1:a.f (d.h+1)=.E false [.s s.1 s.2]:=by rw[c];exact(ac (by show¬d.h+1=d.h+1+1;omega)).t (ae R)
 have c2:a.f (d.h+2)=.E false [.s 0 0,.s 0 0,.s 0 0,.i .i64 0,.i .i64 0,.e,.i .i64 0]:=by rw[c];exact ae R
 simp(disch:=omega)only[go_sem,sV];rw[<-c];clear c;skip;have i:=r4.ext (f:=0) v;refine al (aeT (l:=n.r) (p:=λq=>decide (q.n=s)) f.1 Y i ?_ λK u=>?_)
 .intro f x i c f f k';have f:=aM v x;let⟨a0,p⟩:=sh H i c;exact adc (Hl (iS f) f.1 (λ_ h=>h) p) ((x.2 _ Y).t c1) (om x.1) k'
 have c:=u.1;have l:=aM v u;have d0:=(u.2 _ (by omega:d.h<a.h)).t c0;have Uu:=(u.2 _ (by omega:d.h+2<a.h)).t c2;have m:=wG (λq:aX=>decide (q.n=s)) n.r 0;cases e:dD (λq:aX=>decide (q.n=s)) n.r 0 with
 |none=>
  rw[e] at m;have m:none=n.r.find? (λq=>decide (q.n=s)):=m;have y:jE n s=E0:=by unfold jE;rw[<-m]
  rw[y] at k;have B:gE none=18446744073709551615:=R;have yT:fU .i64 18446744073709551615 0=true:=R;simp(disch:=omega)only[go_sem,B,yT,Uu,bF];exact k (0,0) 0 false _ _ sY (cO l Y)
 |some j=>
  let⟨_,w,_⟩:=pL e;have w:j<N n.r:=Y;rw[e] at m;have m:n.r[j-0]?=n.r.find? (λq=>decide (q.n=s)):=m;rw[uC,bM w] at m;have y:jE n s=n.r[j].e:=by unfold jE;rw[<-m]
  rw[y] at k;let⟨D,p⟩:=sh H j w;obtain⟨b,off,cap,a,row,rfl,o,C,a,t⟩:=r4.at D;have a:=(l.2 b C).t o;have c:=F _ (aU w);have e:=Hl (iS l) l.1 (λ_ h=>h) p;have B:gE (some j)=j:=R;refine S4 B d0 a t ?_;refine al (aco e c.2 λI O Z P=>?_);have d3:=(P.2 _ (by omega:d.h+2<K.h)).t Uu;obtain⟨V,W,g3,g4,g5,rfl⟩:=cJ Z;simp(disch:=omega)only[go_sem,d3,sV,fc,dH,bF];refine k n.r[j].n n.r[j].a true [.s V.1 V.2,.s W.1 W.2,.i .i64 g3,.i .i64 g4,g5] _ ?_ (cO (aM l P) ?_)
  rotate_left
  .omega
  refine gq (U:=O) (λb o a=>?_) ?_ (λb o=>?_) _ _ Z
  .have o:=o;exact ac Y
  .exact ak _
  .have o:=o;show d.h<=b;omega
end
end Go.Proofs.YtehahhggpdhieaaGreatDoor
