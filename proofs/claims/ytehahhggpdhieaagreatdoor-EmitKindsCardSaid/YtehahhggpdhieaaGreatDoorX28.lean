/- Lemmas of the walk of EmitKinds are proved. Conditions: none. -/
import Derived.Test.YtehahhggpdhieaaGreatDoorX24
namespace Go.Proofs.YtehahhggpdhieaaGreatDoor
set_option maxRecDepth 100000
set_option maxHeartbeats 32000000
set_option linter.all false
section
variable {b s:Nat}
def jh:L aQ->Nat->(Nat->St)->Option (Nat->St)
 |[],_,a=>some a
 |i::r,b,a=>match a b with
  |none=>jh r (b+1) a
  |some d=>if(iK i).all (λn=>d.1.getD n false) then jh r (b+1) (mP i b a (fR i d)) else none
def Kq:∀(l:L aQ) (b:Nat) (c a:Nat->St),jh l b c=some a->rT l b c=.inr (a (b+N l))
 |[],b,c,a,h=>by cases h;rfl
 |i::r,b,c,a,h=>by
  unfold jh at h;unfold rT;rw[bt,show b+(N r+1)=b+1+N r by omega];cases e:c b with
  |none=>
   rw[e] at h;exact Kq r _ _ _ h
  |some d=>
   rw[e] at h;dsimp only at h|-;split at h
   .rename_i g;rw[ae g];exact Kq r _ _ _ h
   .cases h
def xc:∀(a b:L aQ) (c:Nat) (f j:Nat->St),jh a c f=some j->jh (a++b) c f=jh b (c+N a) j
 |[],b,c,f,j,h=>by cases h;rfl
 |i::r,b,c,f,j,h=>by
  unfold jh at h;rw[fc]
  conv=>lhs;unfold jh
  rw[bt,show c+(N r+1)=c+1+N r by omega];cases e:f c with
  |none=>
   rw[e] at h;exact xc r b _ _ _ h
  |some d=>
   rw[e] at h;dsimp only at h|-;split at h
   .rename_i g;rw[ae g];exact xc r b _ _ _ h
   .cases h
structure Dn (N M:Nat) (W V:Nat->Prop) (d:List Bool×List Bool):Prop where
 n:d.1.length=N
 m:d.2.length=M
 w:∀s,W s->d.1.getD s false=true
 v:∀s,V s->d.2.getD s false=true
structure Hr (N M:Nat) (st:Nat->St) (pc:Nat) (W V:Nat->Prop):Prop where
 d:∃d,st pc=some d/\Dn N M W V d
 f:∀q,pc<q->st q=none
def Gi(l:L Bool)(a s:Nat)(h:l.getD s false=true):(l.set a true).getD s false=true:=J
def Gh(l:L Bool)(a:Nat)(h:a<N l):(l.set a true).getD a false=true:=J
def R2(x y:L Bool)(s:Nat)(h:x.getD s false=true)(g:y.getD s false=true):(List.zipWith and x y).getD s false=true:=J
def Dn.meet{N M:Nat}{W V:Nat->Prop}{x d:L Bool×L Bool}(h:Dn N M W V x)(g:Dn N M W V d):Dn N M W V (gy (some x) d) where
 n:=by show(List.zipWith and x.1 d.1).length=N;rw[Er,h.n,g.n,Nat.min_self]
 m:=by show(List.zipWith and x.2 d.2).length=M;rw[Er,h.m,g.m,Nat.min_self]
 w:=λs hs=>R2 _ _ s (h.w s hs) (g.w s hs)
 v:=λs hs=>R2 _ _ s (h.v s hs) (g.v s hs)
def Dn.mono{N M:Nat}{W V b a:Nat->Prop}{d:L Bool×L Bool}(h:Dn N M W V d)(c:∀s,b s->W s)(c:∀s,a s->V s):Dn N M b a d:=⟨h.n,h.m,λs g=>h.w s J,λs g=>h.v s J⟩
def Hr.mono{N M:Nat}{st:Nat->St}{c:Nat}{W V b a:Nat->Prop}(h:Hr N M st c W V)(g:∀s,b s->W s)(f:∀s,a s->V s):Hr N M st c b a:=by
 let⟨⟨d,a,b⟩,e⟩:=h;exact⟨⟨d,a,b.mono g f⟩,e⟩
def BJ(i:aQ)(s:Nat):Prop:=¬(i.o=5\/i.o=3\/i.o=19\/i.o=20)/\s=i.a
def BI(i:aQ)(s:Nat):Prop:=i.o=5/\s=i.a
def Dn.acQ{b M:Nat}{W V:Nat->Prop}{d:L Bool×L Bool}(h:Dn b M W V d)(i:aQ)(e:∀s,BJ i s->s<b)(c:∀s,BI i s->s<M):Dn b M (λs=>W s\/BJ i s) (λs=>V s\/BI i s) (fR i d):=by
 unfold fR;by_cases a:i.o=5
 .rw[ae a];refine⟨h.n,by rw[jk];exact h.m,λs hs=>?_,λs hs=>?_⟩
  .rcases hs with hs|hs
   .exact h.w s hs
   .exact absurd (.inl a) hs.1
  .rcases hs with hs|hs
   .exact Gi _ _ _ (h.v s hs)
   .have:=c s hs
    rw[hs.2] at this|-;exact Gh _ _ (by rw[h.m];exact this)
 rw[ac a];by_cases c:i.o=3\/i.o=19\/i.o=20
 .rw[ae c];refine⟨h.n,h.m,λs hs=>?_,λs hs=>?_⟩
  .rcases hs with hs|hs
   .exact h.w s hs
   .exact absurd (.inr c) hs.1
  .rcases hs with hs|hs
   .exact h.v s hs
   .exact absurd hs.1 a
 rw[ac c];refine⟨by rw[jk];exact h.n,h.m,λs hs=>?_,λs hs=>?_⟩
 .rcases hs with hs|hs
  .exact Gi _ _ _ (h.w s hs)
  .have:=e s hs
   rw[hs.2] at this|-;exact Gh _ _ (by rw[h.n];exact this)
 .rcases hs with hs|hs
  .exact h.v s hs
  .exact absurd hs.1 a
def ah1{i:aQ}{d:L Bool×L Bool}(h:∀n∈iK i,d.1.getD n false=true):(iK i).all (λn=>d.1.getD n false)=true:=J
def XU{c M:Nat}{f:Nat->St}{a:Nat}{W V:Nat->Prop}(h:Hr c M f a W V)(i:aQ)(b:¬(i.o=19\/i.o=20))(d:∀n∈iK i,W n)(l:∀s,BJ i s->s<c)(k:∀s,BI i s->s<M):
  ∃d,jh [i] a f=some d/\Hr c M d (a+1) (λs=>W s\/BJ i s) (λs=>V s\/BI i s):=by
 let⟨⟨d,j,e⟩,g⟩:=h;refine⟨mP i a f (fR i d),?_,⟨fR i d,?_,e.acQ i l k⟩,λq d=>?_⟩
 .unfold jh;rw[j];dsimp only;rw[ae (ah1 λn d=>e.w n J)]
  rfl
 .unfold mP;rw[ac b,ac λe=>b (.inr e),g (a+1) (bJ _)];exact ae R
 .unfold mP;rw[ac b,ac λe=>b (.inr e)];exact(ac Y).t (g q Y)
def ais{f M:Nat}{c:Nat->St}{a:Nat}{W V:Nat->Prop}(h:Hr f M c a W V){y n:Nat}(u:W b)(z:W y)(v:W n)(w:s<f):
  ∃d,jh [⟨19,a+3,b,0⟩,⟨1,s,y,0⟩,⟨20,a+4,0,0⟩,⟨1,s,n,0⟩] a c=some d/\Hr f M d (a+4) (λx=>W x\/x=s) V:=by
 let⟨⟨d,t,e⟩,i⟩:=h;have j:∀x,iK ⟨19,x,b,0⟩=[b]:=λ_=>R;have m:∀x,iK ⟨1,s,x,0⟩=[x]:=λ_=>R;have k:∀x,iK ⟨20,x,0,0⟩=[]:=λ_=>R;have o:(d.1.set s true).getD s false=true:=Gh _ _ (by rw[e.n];exact w);have l:Dn f M (λx=>W x\/x=s) V (d.1.set s true,d.2):=⟨by rw[jk];exact e.n,e.m,λx g=>g.elim (λg=>Gi _ _ _ (e.w x g)) λg=>by rw[g];exact o,e.v⟩;have g:∀x,W x->d.1.getD x false=true:=e.w
 let S1:Nat->St:=λq=>if q=a+1 then some d else if q=a+3 then some d else c q
 let S2:Nat->St:=λq=>if q=a+2 then some (d.1.set s true,d.2) else S1 q
 let S3:Nat->St:=λq=>if q=a+4 then some (d.1.set s true,d.2) else S2 q
 let S4:Nat->St:=λq=>if q=a+4 then some (gy (some (d.1.set s true,d.2)) (d.1.set s true,d.2)) else S3 q
 have r:mP ⟨19,a+3,b,0⟩ a c (fR ⟨19,a+3,b,0⟩ d)=S1:=by
  funext q
  show(if q=a+1 then _ else(if q=a+3 then _ else c q))=_
  have e:c (a+3)=none:=i _ Y;have o:c (a+1)=none:=i _ Y;have p:(oD c (a+3) (gy (c (a+3)) d)) (a+1)=none:=(ac Y).t o
  show(if q=a+1 then some (gy ((oD c (a+3) (gy (c (a+3)) d)) (a+1)) d) else(if q=a+3 then some (gy (c (a+3)) d) else c q))=_
  rw[p,e]
  rfl
 have o:mP ⟨1,s,y,0⟩ (a+1) S1 (fR ⟨1,s,y,0⟩ d)=S2:=by
  funext q;have e:S1 (a+2)=none:=(ac Y).t ((ac Y).t (i _ Y))
  show(if q=a+1+1 then some (gy (S1 (a+1+1)) (d.1.set s true,d.2)) else S1 q)=_
  rw[show a+1+1=a+2 from R,e]
  rfl
 have p:mP ⟨20,a+4,0,0⟩ (a+2) S2 (fR ⟨20,a+4,0,0⟩ (d.1.set s true,d.2))=S3:=by
  funext q;have e:S2 (a+4)=none:=(ac Y).t ((ac Y).t ((ac Y).t (i _ Y)))
  show(if q=a+4 then some (gy (S2 (a+4)) (d.1.set s true,d.2)) else S2 q)=_
  rw[e]
  rfl
 have i:mP ⟨1,s,n,0⟩ (a+3) S3 (fR ⟨1,s,n,0⟩ d)=S4:=by
  funext q;have e:S3 (a+4)=some (d.1.set s true,d.2):=J
  show(if q=a+3+1 then some (gy (S3 (a+3+1)) (d.1.set s true,d.2)) else S3 q)=_
  rw[show a+3+1=a+4 from R,e]
 refine⟨S4,?_,⟨_,J,l.meet l⟩,λq e=>?_⟩
 .unfold jh;rw[t];dsimp only;rw[j,ae (by simp only[uA,vK,g b u,xy]),r];unfold jh;rw[show S1 (a+1)=some d from ae R];dsimp only;rw[m,ae (by simp only[uA,vK,g y z,xy]),o];unfold jh;rw[show S2 (a+1+1)=some (d.1.set s true,d.2) from ae R];dsimp only;rw[k,ae (by simp only[vK])];rw[show a+1+1=a+2 from R,p];unfold jh;rw[show S3 (a+2+1)=some d from(ac (by omega)).t ((ac (by omega)).t ((ac (by omega)).t (ae R)))];dsimp only;rw[m,ae (by simp only[uA,vK,g n v,xy])];rw[show a+2+1=a+3 from R,i]
  rfl
 grind
structure Gd (N M:Nat) (st:Nat->St) (pc e:Nat) (W V W0:Nat->Prop):Prop where
 d:∃d,st pc=some d/\Dn N M W V d
 f:∀q,pc<q->q≠e->st q=none
 e:∀d,st e=some d->Dn N M W0 V d
def ME{v M:Nat}{e:Nat}{V o:Nat->Prop}:∀(l:L (Nat×Option Nat)) (a:Nat) (b:Nat->St) (W:Nat->Prop),Gd v M b a e W V o->(∀s,o s->W s)->a+bU l<e->(∀x∈l,o x.1/\∀t,x.2=some t->t<v)->∃n m,jh (eQ e l) a b=some n/\Gd v M n (a+bU l) e m V o/\(∀s,o s->m s)
 |[],a,b,W,h,i,_,_=>⟨b,W,R,h,i⟩
 |(s,none)::r,a,b,W,h,i,g,p=>by
  have g:a+(1+bU r)<e:=g;let⟨⟨d,z,c⟩,l,B⟩:=h;have P:=(p _ (gN ..)).1;have K:b (a+1)=none:=l _ Y Y;have D:a+1≠e:=Y
  let S1:Nat->St:=λq=>if q=a+1 then some d else if q=e then some (gy (b e) d) else b q
  have y:mP ⟨19,e,s,0⟩ a b (fR ⟨19,e,s,0⟩ d)=S1:=by
   funext q;have w:(oD b e (gy (b e) d)) (a+1)=none:=(ac D).t K
   show(if q=a+1 then some (gy ((oD b e (gy (b e) d)) (a+1)) d) else(if q=e then some (gy (b e) d) else b q))=_
   rw[w]
   rfl
  let⟨n,m,F,H,I⟩:=ME r (a+1) S1 W ⟨⟨d,ae R,c⟩,λq U f=>(ac Y).t ((ac f).t (l q Y f)),λO j=>by
   have j:S1 e=some O:=j;have k:S1 e=some (gy (b e) d):=J;rw[k] at j;cases j;cases q:b e with
   |none=>exact c.mono i J
   |some x=>exact(B x q).meet (c.mono i J)⟩ i Y λx u=>p x (li _ u)
  refine⟨n,m,?_,by rw[show a+bU ((s,none)::r)=a+1+bU r by show a+(1+bU r)=_;omega];exact H,I⟩;unfold eQ jh;rw[z];dsimp only;rw[show iK ⟨19,e,s,0⟩=[s] from R,ae (by simp only[uA,vK,c.w s J,xy]),y];exact F
 |(s,some t)::r,a,b,W,h,i,g,p=>by
  have g:a+(2+bU r)<e:=g;let⟨⟨d,z,c⟩,l,B⟩:=h;let⟨P,C⟩:=p _ (gN ..);have C:=C t R;have h:Dn v M (λx=>W x\/x=t) V (d.1.set t true,d.2):=⟨by rw[jk];exact c.n,c.m,λx u=>u.elim (λg=>Gi _ _ _ (c.w x g)) λg=>by rw[g];exact Gh _ _ (by rw[c.n];exact C),c.v⟩
  let S0:Nat->St:=λq=>if q=a+1 then some (d.1.set t true,d.2) else b q
  have C:mP ⟨6,t,s,0⟩ a b (fR ⟨6,t,s,0⟩ d)=S0:=by
   funext q
   show(if q=a+1 then some (gy (b (a+1)) (d.1.set t true,d.2)) else b q)=_
   rw[l _ (by omega) (by omega)]
   rfl
  have K:S0 (a+1+1)=none:=J;have D:a+1+1≠e:=Y
  let S1:Nat->St:=λq=>if q=a+1+1 then some (d.1.set t true,d.2) else if q=e then some (gy (b e) (d.1.set t true,d.2)) else S0 q
  have W:S0 e=b e:=J;have y:mP ⟨19,e,t,0⟩ (a+1) S0 (fR ⟨19,e,t,0⟩ (d.1.set t true,d.2))=S1:=by
   funext q;have w:(oD S0 e (gy (S0 e) (d.1.set t true,d.2))) (a+1+1)=none:=(ac D).t K
   show(if q=a+1+1 then some (gy ((oD S0 e (gy (S0 e) (d.1.set t true,d.2))) (a+1+1)) (d.1.set t true,d.2)) else(if q=e then some (gy (S0 e) (d.1.set t true,d.2)) else S0 q))=_
   rw[w,W]
   rfl
  let⟨n,m,F,H,I⟩:=ME r (a+1+1) S1 _ ⟨⟨_,ae R,h⟩,λq U f=>(ac Y).t ((ac f).t ((ac Y).t (l q Y f))),λO j=>by
   have k:S1 e=some (gy (b e) (d.1.set t true,d.2)):=J;rw[k] at j;cases j;cases q:b e with
   |none=>exact h.mono J J
   |some x=>exact(B x q).meet (h.mono J λ_ g=>g)⟩ (λx g=>.inl (i x g)) Y λx u=>p x (li _ u)
  refine⟨n,m,?_,by rw[show a+bU ((s,some t)::r)=a+1+1+bU r by show a+(2+bU r)=_;omega];exact H,I⟩;unfold eQ jh;rw[z];dsimp only;rw[show iK ⟨6,t,s,0⟩=[s] from R,ae (by simp only[uA,vK,c.w s (i s P),xy]),C];unfold jh;rw[show S0 (a+1)=some (d.1.set t true,d.2) from ae R];dsimp only;rw[show iK ⟨19,e,t,0⟩=[t] from R,ae (by simp only[uA,vK,h.w t (.inr R),xy]),y];exact F
def ait{f M:Nat}{i:Nat->St}{b:Nat}{W V:Nat->Prop}(h:Hr f M i b W V)(l:L (Nat×Option Nat)){m:Nat}(e:∀x∈l,W x.1/\∀t,x.2=some t->t<f)(u:W s):
  ∃a,jh (eQ (b+bU l+1) l++[⟨3,m,s,0⟩]) b i=some a/\Hr f M a (b+bU l+1) W V:=by
 let⟨g,a,k,⟨⟨d,n,t⟩,p,r⟩,v⟩:=ME l b i W (e:=b+bU l+1) (o:=W) ⟨h.d,λq j _=>h.f q j,λd a=>by rw[h.f _ Y] at a;cases a⟩ J Y e;have c:N (eQ (b+bU l+1) l)=bU l:=by
  clear k n p r e;generalize b+bU l+1=e
  induction l with
  |nil=>rfl
  |cons x l e=>
   let⟨a,o⟩:=x;cases o<;>(simp only[eQ,bU,bt,e];omega)
 have a:Dn f M W V d:=t.mono v J;rw[xc _ _ _ _ _ k,c];refine⟨λq=>if q=b+bU l+1 then some (gy (g (b+bU l+1)) d) else g q,?_,⟨_,ae R,?_⟩,λq j=>(ac Y).t (p q Y Y)⟩
 .unfold jh;rw[n];dsimp only;rw[show iK ⟨3,m,s,0⟩=[s] from R,ae (by simp only[uA,vK,a.w s u,xy])];unfold jh
  rfl
 .cases q:g (b+bU l+1) with
  |none=>exact a
  |some x=>exact(r x q).meet a
end
section
variable {c:L aS}{a b i k s:Nat}
section
inductive gC (I O sl me co:List Nat):aQ->Prop
 |tL {a b k v:Nat}:sl[a]?=some k->co[b]?=some v->(k=2\/v=0\/v=1)->gC I O sl me co ⟨0,a,b,0⟩
 |m {a b k:Nat}:sl[a]?=some k->sl[b]?=some k->gC I O sl me co ⟨1,a,b,0⟩
 |l {a b k:Nat}:sl[a]?=some k->me[b]?=some k->gC I O sl me co ⟨2,a,b,0⟩
 |aR {a b k:Nat}:me[a]?=some k->sl[b]?=some k->gC I O sl me co ⟨3,a,b,0⟩
 |rU {a b k:Nat}:sl[a]?=some k->I[b]?=some k->gC I O sl me co ⟨4,a,b,0⟩
 |out {a b k:Nat}:O[a]?=some k->sl[b]?=some k->gC I O sl me co ⟨5,a,b,0⟩
 |not {a b:Nat}:sl[a]?=some 1->sl[b]?=some 1->gC I O sl me co ⟨6,a,b,0⟩
 |n {a b:Nat}:sl[a]?=some 2->sl[b]?=some 2->gC I O sl me co ⟨7,a,b,0⟩
 |r {op a b c:Nat}:8<=op->op<=12->sl[a]?=some 2->sl[b]?=some 2->sl[c]?=some 2->gC I O sl me co ⟨op,a,b,c⟩
 |eq {a b c k:Nat}:sl[a]?=some 1->sl[b]?=some k->sl[c]?=some k->gC I O sl me co ⟨13,a,b,c⟩
 |p {op a b c:Nat}:op=14\/op=15->sl[a]?=some 1->sl[b]?=some 2->sl[c]?=some 2->gC I O sl me co ⟨op,a,b,c⟩
 |g {op a b c:Nat}:16<=op->op<=18->sl[a]?=some 1->sl[b]?=some 1->sl[c]?=some 1->gC I O sl me co ⟨op,a,b,c⟩
 |u {a b:Nat}:sl[b]?=some 1->gC I O sl me co ⟨19,a,b,0⟩
 |j {a:Nat}:gC I O sl me co ⟨20,a,0,0⟩
def dG{b:Type}{l m:L b}(h:l<+:m){k:b}(e:l[a]?=some k):m[a]?=some k:=by
 obtain⟨t,rfl⟩:=h;have b:a<N l:=by
  refine vQ λg=>?_;rw[rC g] at e;cases e
 rw[tp b];exact e
def mN{b:Type}{l:L b}{k:b}(e:l[a]?=some k):a<N l:=J
def yg{a:Type}(l:L a)(k:a):(l++[k])[N l]?=some k:=J
def gC.mono{I O e k d c b a:L Nat}{i:aQ}(h:gC I O e k d i)(f:e<+:c)(e:k<+:b)(k:d<+:a):gC I O c b a i:=by
 cases h with
 |tL a b c=>exact .tL (dG f a) (dG k b) c
 |m a b=>exact .m (dG f a) (dG f b)
 |l a b=>exact .l (dG f a) (dG e b)
 |aR a b=>exact .aR (dG e a) (dG f b)
 |rU a b=>exact .rU (dG f a) b
 |out a b=>exact .out a (dG f b)
 |not a b=>exact .not (dG f a) (dG f b)
 |n a b=>exact .n (dG f a) (dG f b)
 |r a b c d e=>exact .r a b (dG f c) (dG f d) (dG f e)
 |eq a b c=>exact .eq (dG f a) (dG f b) (dG f c)
 |p a b c d=>exact .p a (dG f b) (dG f c) (dG f d)
 |g a b c d e=>exact .g a b (dG f c) (dG f d) (dG f e)
 |u a=>exact .u (dG f a)
 |j=>exact .j
def gC.wr{I O a c b:L Nat}{i:aQ}(h:gC I O a c b i):(∀s,BJ i s->s<N a)/\∀s,BI i s->s<N O:=by
 cases h with
 |tL a b c=>exact⟨λs g=>by rw[g.2];exact mN a,λs g=>absurd g.1 (show¬(0:Nat)=5 by decide)⟩
 |m a b=>exact⟨λs g=>by rw[g.2];exact mN a,λs g=>absurd g.1 (show¬(1:Nat)=5 by decide)⟩
 |l a b=>exact⟨λs g=>by rw[g.2];exact mN a,λs g=>absurd g.1 (show¬(2:Nat)=5 by decide)⟩
 |aR a b=>exact⟨λs g=>absurd J g.1,λs g=>absurd g.1 (show¬(3:Nat)=5 by decide)⟩
 |rU a b=>exact⟨λs g=>by rw[g.2];exact mN a,λs g=>absurd g.1 (show¬(4:Nat)=5 by decide)⟩
 |out a b=>exact⟨λs g=>absurd J g.1,λs g=>by rw[g.2];exact mN a⟩
 |not a b=>exact⟨λs g=>by rw[g.2];exact mN a,λs g=>absurd g.1 (show¬(6:Nat)=5 by decide)⟩
 |n a b=>exact⟨λs g=>by rw[g.2];exact mN a,λs g=>absurd g.1 (show¬(7:Nat)=5 by decide)⟩
 |r a b c d e=>exact⟨λs g=>by rw[g.2];exact mN c,λs g=>by have f:=g.1;grind⟩
 |eq a b c=>exact⟨λs g=>by rw[g.2];exact mN a,λs g=>absurd g.1 (show¬(13:Nat)=5 by decide)⟩
 |p a b c d=>exact⟨λs g=>by rw[g.2];exact mN b,λs g=>by have f:=g.1;grind⟩
 |g a b c d e=>exact⟨λs g=>by rw[g.2];exact mN c,λs g=>by have f:=g.1;grind⟩
 |u a=>exact⟨λs g=>absurd J g.1,λs g=>absurd g.1 (show¬(19:Nat)=5 by decide)⟩
 |j=>exact⟨λs g=>absurd J g.1,λs g=>absurd g.1 (show¬(20:Nat)=5 by decide)⟩
structure iD (a b:ES):Prop where
 V:a.an<+:b.an
 me:a.y<+:b.y
 co:a.s<+:b.s
 cd:a.j<+:b.j
 lo:a.l<+:b.l
 la:a.late<+:b.late
 fi:a.f<+:b.f
def iD.refl(a:ES):iD a a:=⟨J,J,J,J,J,J,J⟩
def iD.M{a b c:ES}(h:iD a b)(g:iD b c):iD a c:=⟨h.V.trans g.V,h.me.trans g.me,h.co.trans g.co,h.cd.trans g.cd,h.lo.trans g.lo,h.la.trans g.la,h.fi.trans g.fi⟩
def lK(n:Nd)(c:L aS):Prop:=∀s∈c,(aO n s.1).isSome=true/\bQ n s.1=1
mutual
def lJ(n:Nd):Tm->Prop
 |.mk _ _ _ _ c _ a=>lK n c/\sI n a
def sI(n:Nd):L Tm->Prop
 |[]=>True
 |k::a=>lJ n k/\sI n a
end
mutual
def jf:Tr->Prop
 |.mk op _ a _ b=>(op=cX->a=0\/a=1)/\iU b
def iU:L Tr->Prop
 |[]=>True
 |k::a=>jf k/\iU a
end
structure PE (n:Nd) (t:Tm) (k:Nat):Prop where
 ty:fM [] n (bw t)=.inr k
 pC:cC (bw t)
 T:dF [] n (bw t)
 lit:jf (bw t)
 ck:lJ n t
def oN(n:Nd):L Tm->L Nat->Prop
 |[],a=>a=[]
 |t::b,a=>∃c r,a=c::r/\PE n t c/\oN n b r
def tF(l:L aQ):Prop:=∀(k:Nat) (i:aQ),l[k]?=some i->i.o=19\/i.o=20->k<i.a/\i.a<=N l
def tF.app{a b:L aQ}(c:tF a)(d:∀(k:Nat) (i:aQ),b[k]?=some i->i.o=19\/i.o=20->N a+k<i.a/\i.a<=N a+N b):tF (a++b):=λk i e g=>by
 rw[ay];by_cases q:k<N a
 .rw[tp q] at e
  have:=c k i e g
  omega
 grind
structure bZ (n:Nd) (I O:List Nat) (W V:Nat->Prop) (st:ES):Prop where
 run:∀(L N:Nat) (s0:Nat->St) (W0:Nat->Prop),st.an.length<=N->Hr N O.length s0 L W0 (λ_=>False)->(∀i∈st.l,W0 i.a)->
  ∃s,jh (st.j.map (eA L)) L s0=some s/\Hr N O.length s (L+st.j.length) (λx=>W x\/W0 x) V
 ok:∀i∈st.j,gC I O st.an st.y st.s i
 tg:tF st.j
 ld:∀i∈st.l,i.o=2/\gC I O st.an st.y st.s i
 sk:∀k∈st.an,cP k
 mq:∀k∈st.y,cP k
 la:∀x∈st.late,∃k,st.y[x.1]?=some k/\PE n x.2.2 k
 fi:∀x∈st.f,st.y[x.1]?=some 1/\lK n x.2
section
variable {n:Nd}{I O:L Nat}{W V:Nat->Prop}{st:ES}
def bZ.mono{b a:Nat->Prop}(h:bZ n I O W V st)(c:∀s,b s->W s)(i:∀s,a s->V s):bZ n I O b a st:=
 ⟨λd e g f a b c=>(h.run d e g f a b c).elim λs g=>⟨s,g.1,g.2.mono J i⟩,h.ok,h.tg,h.ld,h.sk,h.mq,h.la,h.fi⟩
def wC(k:Nat)(st:ES):iD st (fx k st).2:=⟨tq _ _,hQ,hQ,hQ,hQ,hQ,hQ⟩
def yC(t:It)(st:ES):iD st (eE t st):=⟨hQ,hQ,hQ,tq _ _,hQ,hQ,hQ⟩
def ext_mem(k:Nat)(st:ES):iD st (kD k st).2:=⟨tq _ _,tq _ _,hQ,hQ,tq _ _,hQ,hQ⟩
def Kc(st:ES)(x:Nat×Nat×Tm):iD st {st with late:=st.late++[x]}:=⟨J,J,J,J,J,J,J⟩
def FX(c:L aS)(st:ES):iD st (pD c st).2:=(ext_mem 1 st).M ⟨hQ,hQ,hQ,hQ,hQ,hQ,tq _ _⟩
def FW(k b y n:Nat)(st:ES):iD st (kS k b y n st).2:=(wC k st).M (yC _ _)
def RD(s:Nat)(st:ES):iD st (nG s st).2:=(wC 1 st).M (yC _ _)
def adE(n:Nat)(st:ES):iD st (iw n st).2:=by
 unfold iw;split
 .exact .refl _
 .exact⟨J,J,J,J,J,J,J⟩
def Kb(k n:Nat)(st:ES):iD st (hY k n st).2:=((adE n st).M (wC k _)).M (yC _ _)
def bZ.ext{st':ES}(h:bZ n I O W V st)(x:iD st st')(hc:st'.j=st.j)(hl:∀i∈st'.l,i∈st.l\/i.o=2/\gC I O st'.an st'.y st'.s i)(hs:∀k∈st'.an,cP k)(hm:∀k∈st'.y,cP k)(la:∀x∈st'.late,x∈st.late\/∃k,st'.y[x.1]?=some k/\PE n x.2.2 k)(fi:∀x∈st'.f,x∈st.f\/st'.y[x.1]?=some 1/\lK n x.2):bZ n I O W V st' where
 run:=λL N s0 W0 a b c=>by
  rw[hc];exact h.run L N s0 W0 (bC x.V.length_le a) b λi hi=>c i (x.lo.subset hi)
 ok:=λi hi=>(h.ok i J).mono x.V x.me x.co
 tg:=by rw[hc];exact h.tg
 ld:=λi hi=>(hl i hi).elim (λg=>⟨(h.ld i g).1,(h.ld i g).2.mono x.V x.me x.co⟩) id
 sk:=hs
 mq:=hm
 la:=λy hy=>(la y hy).elim (λg=>by let⟨k,e,p⟩:=h.la y g;exact⟨k,dG x.me e,p⟩) id
 fi:=λy hy=>(fi y hy).elim (λg=>⟨dG x.me (h.fi y g).1,(h.fi y g).2⟩) id
def bZ.slot(h:bZ n I O W V st)(a:cP k):bZ n I O W V (fx k st).2:=
 h.ext (wC k st) R (λi a=>.inl a) (λx a=>(bA.1 a).elim (h.sk x) J) h.mq (λx a=>.inl a) λx a=>.inl a
def bZ.lay(h:bZ n I O W V st){i:aQ}(hi:gC I O st.an st.y st.s i)(hj:¬(i.o=19\/i.o=20))(hr:∀x∈iK i,W x):bZ n I O (λs=>W s\/BJ i s) (λs=>V s\/BI i s) (eE (.o i) st) where
 run:=λL N s0 W0 a b c=>by
  let⟨s,h1,h2⟩:=h.run L N s0 W0 a b c;let⟨w1,w2⟩:=hi.wr;let⟨s',h3,h4⟩:=XU h2 i hj (λx hx=>.inl (hr x hx)) (λx hx=>cW (w1 x hx) a) w2;have es:eA L i=i:=ac hj;refine⟨s',?_,?_⟩
  .show jh ((st.j++[i]).map (eA L)) L _=_;rw[cM,iL,oI,es,xc _ _ _ _ _ h1,aC];exact h3
  .show Hr N O.length s' (L+(st.j++[i]).length) _ _;grind
 ok:=λx hx=>(bA.1 hx).elim (h.ok x) λg=>by rw[dM.1 g];exact hi
 tg:=h.tg.app λk j e g=>by
  match k,e with
  |0,e=>
   injection e with e
   grind
 ld:=h.ld
 sk:=h.sk
 mq:=h.mq
 la:=h.la
 fi:=h.fi
def bZ.choose(h:bZ n I O W V st){y z:Nat}(a:cP k)(q:st.an[b]?=some 1)(r:st.an[y]?=some k)(t:st.an[z]?=some k)(c:W b)(c:W y)(wz:W z):
  bZ n I O (λs=>W s\/s=N st.an) V (kS k b y z st).2/\(kS k b y z st).2.an[(kS k b y z st).1]?=some k:=by
 have f:=h.slot a;have j:st.an<+:st.an++[k]:=J;have i:(st.an++[k])[N st.an]?=some k:=J;refine⟨⟨λd g o m a p c=>?_,λx hx=>?_,?_,f.ld,f.sk,f.mq,f.la,f.fi⟩,i⟩
 .let⟨s,e,l⟩:=f.run d g o m a p c;have e:jh (st.j.map (eA d)) d o=some s:=e;have l:Hr g (N O) s (d+N st.j) (λx=>W x\/m x) V:=l;have c:N st.an<g:=by
   have a:N (st.an++[k])<=g:=a;rw[ay] at a;exact a
  let⟨a,_,m⟩:=ais l (b:=b) (y:=y) (n:=z) J J J c;refine⟨a,?_,?_⟩
  .show jh ((st.j++It.E (N st.j) (.c (N st.an) b y z)).map (eA d)) d _=_;rw[cM,xc _ _ _ _ _ e,aC];have e:(It.E (N st.j) (.c (N st.an) b y z)).map (eA d)=[⟨19,d+N st.j+3,b,0⟩,⟨1,N st.an,y,0⟩,⟨20,d+N st.j+4,0,0⟩,⟨1,N st.an,z,0⟩]:=by
    show[(⟨19,N st.j+3+d,b,0⟩:aQ),⟨1,N st.an,y,0⟩,⟨20,N st.j+4+d,0,0⟩,⟨1,N st.an,z,0⟩]=_
    rw[show N st.j+3+d=d+N st.j+3 by omega,show N st.j+4+d=d+N st.j+4 by omega]
   grind
  .show Hr g (N O) a (d+N (st.j++It.E (N st.j) (.c (N st.an) b y z))) _ _;rw[ay];exact m.mono (λx g=>by rcases g with(g|g)|g;exact .inl (.inl g);exact .inr g;exact .inl (.inr g)) λ_ g=>g
 .have hx:x∈st.j++It.E (N st.j) (.c (N st.an) b y z):=hx;rcases bA.1 hx with hx|hx
  .exact f.ok x hx
  .have hx:x∈[(⟨19,N st.j+3,b,0⟩:aQ),⟨1,N st.an,y,0⟩,⟨20,N st.j+4,0,0⟩,⟨1,N st.an,z,0⟩]:=hx;simp only[bY,kN,lY] at hx;rcases hx with rfl|rfl|rfl|rfl
   .exact .u (dG j q)
   .exact .m i (dG j r)
   .exact .j
   .exact .m i (dG j t)
 .have a:N (It.E (N st.j) (.c (N st.an) b y z))=4:=R;refine tF.app h.tg (λj i e g=>?_);show N st.j+j<i.a/\i.a<=N st.j+4;have e:[(⟨19,N st.j+3,b,0⟩:aQ),⟨1,N st.an,y,0⟩,⟨20,N st.j+4,0,0⟩,⟨1,N st.an,z,0⟩][j]?=some i:=e;grind
def bZ.not(h:bZ n I O W V st)(b:st.an[s]?=some 1)(a:W s):bZ n I O (λx=>W x\/x=N st.an) V (nG s st).2/\(nG s st).2.an[(nG s st).1]?=some 1:=by
 have a:=h.slot (k:=1) (.inl R);have e:=a.lay (i:=⟨6,N st.an,s,0⟩) (.not (yg _ _) (dG (tq _ _) b)) J (λx a=>by
  have a:x∈[s]:=a;grind)
 exact⟨e.mono (λx g=>g.imp id λg=>⟨by show¬((6:Nat)=5\/(6:Nat)=3\/(6:Nat)=19\/(6:Nat)=20);decide,g⟩) J,yg _ _⟩
def bZ.mem(h:bZ n I O W V st)(a:cP k):bZ n I O (λx=>W x\/x=N st.an) V (kD k st).2/\(kD k st).2.an[N st.an]?=some k/\(kD k st).2.y[N st.y]?=some k:=by
 have f:(st.an++[k])[N st.an]?=some k:=J;have d:(st.y++[k])[N st.y]?=some k:=J;have e:=h.ext (ext_mem k st) R (λi a=>by
   have a:i∈st.l++[⟨2,N st.an,N st.y,0⟩]:=a;refine(bA.1 a).imp id λg=>?_;rw[dM.1 g];exact⟨R,.l f d⟩) (λx a=>(bA.1 a).elim (h.sk x) J) (λx a=>(bA.1 a).elim (h.mq x) J) (λx a=>.inl a) λx a=>.inl a
 refine⟨⟨λi j m l a b c=>?_,e.ok,e.tg,e.ld,e.sk,e.mq,e.la,e.fi⟩,f,d⟩;let⟨s,d,f⟩:=e.run i j m l a b c;refine⟨s,d,f.mono (λx g=>?_) J⟩;rcases g with(g|g)|g
 .exact .inl g
 .rw[g];exact .inr (c ⟨2,N st.an,N st.y,0⟩ (jl _ (dM.2 R)))
 grind
def bZ.Zg(h:bZ n I O W V st)(e:lK n c):bZ n I O (λx=>W x\/x=N st.an) V (pD c st).2/\(pD c st).1=N st.an/\(pD c st).2.an[N st.an]?=some 1:=by
 let⟨a,b,d⟩:=h.mem (k:=1) (.inl R);refine⟨a.ext ⟨hQ,hQ,hQ,hQ,hQ,hQ,tq _ _⟩ R (λi f=>.inl f) a.sk a.mq (λx a=>.inl a) (λx a=>(bA.1 a).imp id λg=>?_),R,b⟩;rw[dM.1 g];exact⟨d,e⟩
def bZ.late(h:bZ n I O W V st){m:Nat}{t:Tm}(a:st.y[m]?=some k)(a:PE n t k):bZ n I O W V {st with late:=st.late++[(m,s,t)]}:=
 h.ext (Kc _ _) R J h.sk h.mq J J
def aeS{l:L Nat}{v:Nat}(h:ot l v=some i):l[i]?=some v:=by
 unfold ot at h;obtain A:=List.findIdx?_eq_some_iff_getElem.1 h;grind
def bZ.tL(h:bZ n I O W V st)(v:Nat):bZ n I O W V (iw v st).2/\(iw v st).2.s[(iw v st).1]?=some v/\(iw v st).2.an=st.an:=by
 unfold iw;cases e:ot st.s v with
 |some i=>exact⟨h,aeS e,R⟩
 |none=>exact⟨h.ext ⟨J,J,J,J,J,J,J⟩ R J h.sk h.mq J J,J,R⟩
def bZ.const(h:bZ n I O W V st){v:Nat}(e:cP k)(f:k=2\/v=0\/v=1):bZ n I O (λx=>W x\/x=N st.an) V (hY k v st).2/\(hY k v st).1=N st.an/\(hY k v st).2.an[N st.an]?=some k:=by
 let⟨a,c,b⟩:=h.tL v;have d:=a.slot e;have a:(fx k (iw v st).2).1=N st.an:=by show(iw v st).2.an.length=_;rw[b]
 have i:(fx k (iw v st).2).2.an[N st.an]?=some k:=by
  show((iw v st).2.an++[k])[N st.an]?=some k
  rw[b];exact J
 have e:=d.lay (i:=⟨0,(fx k (iw v st).2).1,(iw v st).1,0⟩) (.tL J c f) J (λx b=>by cases b);exact⟨e.mono (λx g=>g.imp id λg=>⟨by show¬((0:Nat)=5\/(0:Nat)=3\/(0:Nat)=19\/(0:Nat)=20);decide,by rw[g];exact a.s⟩) J,a,i⟩
end
end
end
section
variable {p:ES}{c:L aS}{a b k s:Nat}
section
def xr:∀a:L Tm,N (cL a)=N a
 |[]=>by unfold cL;rfl
 |k::a=>by unfold cL;rw[bt,xr a,bt]
def OS{n:Nd}:∀{a:L Tm} {b:L Nat},eZ [] n (cL a)=.inr b->gY (cL a)->ju [] n (cL a)->iU (cL a)->sI n a->oN n a b
 |[],b,h,_,_,_,_=>by
  unfold cL eZ at h;cases h;unfold oN;rfl
 |k::a,b,h,d,e,f,i=>by
  unfold cL at h d e f;unfold gY at d;unfold ju at e;unfold iU at f;unfold sI at i;unfold eZ at h;cases g:fM [] n (bw k) with
  |inl p=>grind
  |inr c=>
   rw[g] at h;dsimp only at h;cases b:eZ [] n (cL a) with
   |inl p=>grind
   |inr a=>
    rw[b] at h;cases h;unfold oN;exact⟨c,a,R,⟨g,d.1,e.1,f.1,i.1⟩,OS b d.2 e.2 f.2 i.2⟩
def OQ{n:Nd}:∀{b:L Tm} {a:L Nat},oN n b a->N a=N b/\∀c∈a,cP c
 |[],a,h=>by unfold oN at h;grind
 |k::b,a,h=>by
  unfold oN at h;obtain⟨c,r,rfl,c,d⟩:=h;let⟨a,b⟩:=OQ d;refine⟨by rw[bt,a,bt],λx hx=>?_⟩;rcases bY.1 hx with rfl|hx
  .exact J7 _ c.ty
  .exact b x hx
def agl{n:Nd}{a:S}{m:Nat}(h:jT [] n bK a m=true):False:=by
 have h:iP [] a m=true:=h;cases h
def PE.kids{n:Nd}(x:∀v∈am n,cP v.z){j o:S}{r:Nat}{s:Bool}{i:L Tm}(h:PE n (.mk j o r a c s i) k):
  ∃d,oN n i d/\mz [] n j o d=(true,k)/\cP k/\lP j=some (N i)/\jT [] n j o (N i)=true/\(j=cX->r=0\/r=1)/\lK n c/\N d=N i:=by
 let⟨f,l,b,m,t⟩:=h;unfold bw at f l b m;unfold cC at l;unfold dF at b;unfold jf at m;unfold lJ at t;unfold fM at f;rw[xr] at l b;cases g:eZ [] n (cL i) with
 |inl p=>grind
 |inr d=>
  rw[g] at f;dsimp only at f;have u:=OS g l.2 b.2 m.2 t.2;let⟨w,y⟩:=OQ u;have z:=l.1.resolve_left λe=>agl (by rw[<-e];exact b.1);split at f
  .rename_i q;have e:iI [] n j o d=k:=by injection f
   have:=(Vh (h:=[]) (r:=[]) w.s x J y J b.1).1 q
   rw[e] at this q;exact⟨d,u,this,q,z,b.1,m.1,t.1,w⟩
  .grind
def Sg(n:Nd)(b:S->Nat)(a:L Nat):Prop:=∀x,(aO n x).isSome=true->a[b x]?=some (bQ n x)
def Sg.mono{n:Nd}{c:S->Nat}{b a:L Nat}(h:Sg n c b)(p:b<+:a):Sg n c a:=λx a=>dG p (h x a)
def adG(c:S)(a b:Nat)(d:ES):iD d (pz c a b d).2:=by
 have g:iD d (eE (.o ⟨(cI c).1,(fx (if 13<=(cI c).1 then 1 else 2) d).1,if(cI c).2.1 then b else a,if(cI c).2.1 then a else b⟩) (fx (if 13<=(cI c).1 then 1 else 2) d).2):=(wC _ d).M (yC _ _);show iD d (if(cI c).2.2 then _ else _:Nat×ES).2;split
 .exact g.M (RD _ _)
 .exact g
def adF(f:S->Nat)(d b:S)(c:L aS)(e:L Nat)(a:ES):iD a (gx f d b c e a).2:=by
 unfold gx;dsimp only;split
 .exact RD _ _
 split
 .exact(wC 2 a).M (yC _ _)
 split
 .exact .refl _
 split
 .exact FW _ _ _ _ _
 split
 .exact FW _ _ _ _ _
 split
 .exact(FX c a).M (FW _ _ _ _ _)
 .exact adG _ _ _ _
mutual
def zf(n:Nd)(d:S->Nat):∀(t:Tm) (b:ES),iD b (bu n d t b).2
 |.mk op g f a c any e,b=>by
  unfold bu;dsimp only;split
  .exact(ext_mem _ b).M (Kc _ _)
  split
  .exact((ahe n d e b).M ((ext_mem _ _).M (Kc _ _))).M ((FX c _).M (FW _ _ _ _ _))
  split
  .exact Kb _ _ _
  split
  .exact Kb _ _ _
  split
  .exact .refl _
  .exact(G9 n d e b).M (adF _ _ _ _ _ _)
def ahe(n:Nd)(b:S->Nat):∀(c:L Tm) (a:ES),iD a (lQ n b c a).2
 |[],a=>by unfold lQ;exact .refl _
 |k::_,a=>by unfold lQ;exact zf n b k a
def G9(n:Nd)(c:S->Nat):∀(b:L Tm) (a:ES),iD a (cR n c b a).2
 |[],a=>by unfold cR;exact .refl _
 |k::b,a=>by
  unfold cR;exact(zf n c k a).M (G9 n c b _)
end
def A2(W:Nat->Prop)(a:L Nat):L Nat->L Nat->Prop
 |[],[]=>True
 |s::d,c::b=>(W s/\a[s]?=some c)/\A2 W a d b
 |_,_=>False
def agv{W:Nat->Prop}{d c b:L Nat}(h:A2 W d c b)(l:N b=1):∃a x,c=[a]/\b=[x]/\W a/\d[a]?=some x:=by
 match b,l with
 |[x],_=>cases c with
  |nil=>exact h.elim
  |cons a c=>cases c with
   |nil=>exact⟨a,x,R,R,h.1.1,h.1.2⟩
   |cons b c=>exact h.2.elim
def agw{W:Nat->Prop}{e d c:L Nat}(h:A2 W e d c)(l:N c=2):∃a x b y,d=[a,b]/\c=[x,y]/\(W a/\e[a]?=some x)/\W b/\e[b]?=some y:=by
 match c,l with
 |[x,y],_=>cases d with
  |nil=>exact h.elim
  |cons a d=>cases d with
   |nil=>exact h.2.elim
   |cons b d=>cases d with
    |nil=>exact⟨a,x,b,y,R,R,h.1,h.2.1⟩
    |cons c d=>exact h.2.2.elim
def agx{W:Nat->Prop}{f e d:L Nat}(h:A2 W f e d)(l:N d=3):∃a x b y c z,e=[a,b,c]/\d=[x,y,z]/\(W a/\f[a]?=some x)/\(W b/\f[b]?=some y)/\W c/\f[c]?=some z:=by
 match d,l with
 |[x,y,z],_=>cases e with
  |nil=>exact h.elim
  |cons a e=>cases e with
   |nil=>exact h.2.elim
   |cons b e=>cases e with
    |nil=>exact h.2.2.elim
    |cons c e=>cases e with
     |nil=>exact⟨a,x,b,y,c,z,R,R,h.1,h.2.1,h.2.2.1⟩
     |cons d e=>exact h.2.2.2.elim
section
variable {n:Nd}{I O:L Nat}{V:Nat->Prop}
def nr(n:Nd)(I O:L Nat)(V W:Nat->Prop)(k:Nat)(r:Nat×ES):Prop:=∃a:Nat->Prop,(∀s,W s->a s)/\a r.1/\bZ n I O a V r.2/\r.2.an[r.1]?=some k
def nr.mono{W a:Nat->Prop}{r:Nat×ES}(h:nr n I O V a k r)(d:∀s,W s->a s):nr n I O V W k r:=by
 let⟨a,b,c⟩:=h;exact⟨a,λs g=>b s (d s g),c⟩
def Vy{W:Nat->Prop}(h:bZ n I O W V p)(c:p.an[s]?=some 1)(d:W s):nr n I O V W 1 (nG s p):=by
 let⟨a,b⟩:=h.not c d;exact⟨_,λ_ g=>.inl g,.inr R,a,b⟩
def Hc{W:Nat->Prop}(h:bZ n I O W V p){y z:Nat}(d:cP k)(e:p.an[b]?=some 1)(f:p.an[y]?=some k)(g:p.an[z]?=some k)(i:W b)(j:W y)(wz:W z):nr n I O V W k (kS k b y z p):=by
 let⟨a,c⟩:=h.choose d e f g i j wz;exact⟨_,λ_ g=>.inl g,.inr R,a,c⟩
def DH{W:Nat->Prop}(h:bZ n I O W V p){q c:Nat}(f:cP c)(g:8<=q/\q<=18)(d:gC I O (p.an++[c]) p.y p.s ⟨q,N p.an,a,b⟩)(e:W a)(e:W b):nr n I O V W c (N p.an,eE (.o ⟨q,N p.an,a,b⟩) (fx c p).2):=by
 have e:=(h.slot f).lay d J (λx c=>by
  have c:iK ⟨q,N p.an,a,b⟩=[a,b]:=by
   unfold iK;rw[ac (by show¬(q=0\/q=2\/q=4\/q=20);omega),ae g]
  grind)
 exact⟨_,λ_ g=>.inl g,.inr ⟨by show¬(q=5\/q=3\/q=19\/q=20);omega,R⟩,e.mono (λ_ g=>g) J,yg _ _⟩
def ahs{W:Nat->Prop}(h:bZ n I O W V p)(b:p.an[s]?=some 2)(a:W s):nr n I O V W 2 (N p.an,eE (.o ⟨7,N p.an,s,0⟩) (fx 2 p).2):=by
 have e:=(h.slot (k:=2) (.inr R)).lay (i:=⟨7,N p.an,s,0⟩) (.n (yg _ _) (dG (tq _ _) b)) J (λx a=>by
  have a:x∈[s]:=a;grind)
 exact⟨_,λ_ g=>.inl g,.inr ⟨by show¬((7:Nat)=5\/(7:Nat)=3\/(7:Nat)=19\/(7:Nat)=20);decide,R⟩,e.mono (λ_ g=>g) J,yg _ _⟩
def aht{W:Nat->Prop}(h:bZ n I O W V p){r z:S}{x y:Nat}(t:r∈[im,gd,gL,gK,gA,dY,il,ik,gU,ij,gT,gS,gV,gX])(c:mz [] n r z [x,y]=(true,k))(j:W a)(v:p.an[a]?=some x)(l:W b)(w:p.an[b]?=some y):nr n I O V W k (pz r a b p):=by
 have u:p.an<+:p.an++[1]:=J;have i:∀q,8<=q->q<=12->(de (x=2/\y=2),2)=(true,k)->nr n I O V W k (N p.an,eE (.o ⟨q,N p.an,a,b⟩) (fx 2 p).2):=λq g q2 e=>by
  injection e with f d
  obtain A:=eL f;subst d;exact DH h (.inr R) Y (.r g q2 J J J) j l
 have m:∀q,q=14\/q=15->(de (x=2/\y=2),1)=(true,k)->nr n I O V W k (N p.an,eE (.o ⟨q,N p.an,a,b⟩) (fx 1 p).2)/\nr n I O V W k (N p.an,eE (.o ⟨q,N p.an,b,a⟩) (fx 1 p).2):=λq g e=>by
  injection e with f d
  obtain A:=eL f;subst d;exact⟨DH h (.inl R) Y (.p g J J J) j l,DH h (.inl R) Y (.p g J J J) l j⟩
 have o:∀q,16<=q->q<=18->(de (x=1/\y=1),1)=(true,k)->nr n I O V W k (N p.an,eE (.o ⟨q,N p.an,a,b⟩) (fx 1 p).2):=λq g q2 e=>by
  injection e with f d
  obtain⟨rfl,rfl⟩:=eL f;subst d;exact DH h (.inl R) Y (.g g q2 J J J) j l
 have s:(de (x=y),1)=(true,k)->nr n I O V W k (N p.an,eE (.o ⟨13,N p.an,a,b⟩) (fx 1 p).2):=λe=>by
  injection e with f d
  obtain rfl:=eL f;subst d;exact DH h (.inl R) Y (.eq J (dG u v) (dG u w)) j l
 simp only[bY,kN,lY] at t;rcases t with rfl|rfl|rfl|rfl|rfl|rfl|rfl|rfl|rfl|rfl|rfl|rfl|rfl|rfl
 .exact i 8 dc dc c
 .exact i 9 dc dc c
 .exact i 10 dc dc c
 .exact i 11 dc dc c
 .exact i 12 dc dc c
 .exact s c
 .have c:(de (x=y),1)=(true,k):=c;let⟨e,B,C,D,F⟩:=s c;injection c with _ d
  subst d;exact(Vy D F C).mono B
 .exact(m 14 Y c).1
 .exact(m 15 Y c).1
 .exact(m 14 Y c).2
 .exact(m 15 Y c).2
 .exact o 16 dc dc c
 .exact o 17 dc dc c
 .exact o 18 dc dc c
def AD{b:L Nat}{x:Nat}(h:b[a]?=some x):b.getD a 0=x:=J
def ahr{W:Nat->Prop}{u:S->Nat}(h:bZ n I O W V p)(sg:Sg n u p.an){i r:S}{P B:L Nat}{m:Nat}(D:A2 W p.an P B)(hl:N B=m)(nd:lP i=some m)(hx:jT [] n i r m=true)(f:mz [] n i r B=(true,k))(C:cP k)(hc:lK n c)(B:i=bD->W (u r))
  (n0:i≠eH) (n1:i≠dk) (n2:i≠fm) (n3:i≠cX) (n4:i≠bR):nr n I O V W k (gx u i r c P p):=by
 subst hl;rcases GK nd with⟨e,g⟩|⟨e,g⟩|⟨e,g⟩|⟨e,g⟩
 .obtain⟨a,x,rfl,rfl,s,l⟩:=agv D e;simp only[bY,kN,lY] at g;rcases g with rfl|rfl|rfl|rfl
  .have f:(de (x=1),1)=(true,k):=f;injection f with o j
   obtain rfl:=eL o;subst j;exact Vy h l s
  .have f:(de (x=2),2)=(true,k):=f;injection f with o j
   obtain rfl:=eL o;subst j;exact ahs h l s
  .grind
  .have f:(de (bQ n r=1),x)=(true,k):=f;injection f with o j
   subst j;exact⟨W,J,s,h,l⟩
 .obtain⟨a,x,b,y,rfl,rfl,⟨s,l⟩,w,t⟩:=agw D e;by_cases K:i=bD
  .subst K;have f:(de (bQ n r=1/\x=y),x)=(true,k):=f;injection f with o j
   obtain⟨e3,rfl⟩:=eL o;subst j;have B:p.an[u r]?=some 1:=by
    have:=sg r A
    rw[e3] at this;exact this
   have v:mQ p a=x:=AD l;show nr n I O V W x (kS (mQ p a) (u r) a b p);rw[v];exact Hc h C B l t J s w
  by_cases F:i=jJ
  .subst F;have f:(de (x=y),x)=(true,k):=f;injection f with o j
   obtain rfl:=eL o;subst j;let⟨P,w2,w3⟩:=h.Zg hc;have v:mQ p a=x:=AD l;have B:=(FX c p).V;show nr n I O V W x (kS (mQ p a) (pD c p).1 b a (pD c p).2);rw[v,w2];exact(Hc P C w3 (dG B t) (dG B l) Y J J).mono J
  .have j:gx u i r c [a,b] p=pz i a b p:=by
    simp only[bY] at g;unfold gx;dsimp only;rw[ac (λq=>by subst q;simp[fB,bD,jJ,dk,im,gd,gL,gK,gA,dY,il,ik,gU,ij,gT,gS,gV,gX] at g),ac (λq=>by subst q;simp[ps,bD,jJ,dk,im,gd,gL,gK,gA,dY,il,ik,gU,ij,gT,gS,gV,gX] at g),ac (λq=>by subst q;simp[bB,bD,jJ,dk,im,gd,gL,gK,gA,dY,il,ik,gU,ij,gT,gS,gV,gX] at g),ac (λq=>by subst q;simp[jK,bD,jJ,dk,im,gd,gL,gK,gA,dY,il,ik,gU,ij,gT,gS,gV,gX] at g),ac K,ac F]
    rfl
   rw[j];refine aht h ?_ f s l w t;simp only[bY,kN,lY] at g|-;exact(g.resolve_left K).resolve_left F|>.resolve_left n1
 .obtain⟨a,x,b,y,d,z,rfl,rfl,⟨s,l⟩,⟨w,t⟩,wd,kd⟩:=agx D e;subst g;have f:(de (x=1/\y=z),y)=(true,k):=f;injection f with o j
  obtain⟨rfl,rfl⟩:=eL o;subst j;have v:mQ p b=y:=AD t;show nr n I O V W y (kS (mQ p b) a b d p);rw[v];exact Hc h C l t kd s w wd
 .simp only[bY,kN,lY] at g;rcases g with g|g|g
  .exact absurd g n2
  .exact absurd g n3
  .exact absurd g n4
def OT(n:Nd)(I O:L Nat)(V:Nat->Prop)(b:S->Nat)(t:Tm):Prop:=∀(k:Nat) (W:Nat->Prop) (a:ES),PE n t k->bZ n I O W V a->Sg n b a.an->(∀x∈eS (bw t),W (b x))->nr n I O V W k (bu n b t a)
def Vs{d:S->Nat}:∀(b:L Tm),(∀t∈b,OT n I O V d t)->∀(c:L Nat) (W:Nat->Prop) (a:ES),oN n b c->bZ n I O W V a->Sg n d a.an->(∀x∈dw (cL b),W (d x))->∃e:Nat->Prop,(∀s,W s->e s)/\bZ n I O e V (cR n d b a).2/\A2 e (cR n d b a).2.an (cR n d b a).1 c
 |[],_,c,W,a,h,e,_,_=>by
  unfold oN at h;subst h;unfold cR;exact⟨W,J,e,trivial⟩
 |t::b,m,c,W,a,h,e,sg,g=>by
  unfold oN at h;obtain⟨c,r,rfl,l,o⟩:=h;unfold cL dw at g;let⟨h,f,i,j,k⟩:=m t J c W a l e sg J;have p:=zf n d t a;let⟨e,c,l,m⟩:=Vs b J r h _ o j (sg.mono p.V) λx h=>f _ (g x (jl _ h));have h:=G9 n d b (bu n d t a).2;unfold cR;exact⟨e,λs g=>c s (f s g),l,⟨c _ i,dG h.V k⟩,m⟩
def Vl(hn:∀v∈am n,cP v.z){o:S->Nat}:∀t:Tm,OT n I O V o t:=by
 refine Tm.E λy w a0 a c v s K=>?_;intro k W i v m sg h;let⟨cs,f,b,D,h4,F,h6,h7,q⟩:=v.kids hn;have p:=v.ty;have hl:=v;unfold bw eS at h;unfold bu;by_cases z:y=eH
 .rw[ae z];subst z;have ek:rf n (.mk eH w a0 a (cL s))=k:=by
   unfold rf;unfold bw at p;rw[p]
  have l1:=(jX h4).s
  match s,l1,f,q with
  |[t],_,f,q=>
   unfold oN at f;obtain⟨d,r,rfl,g1,l⟩:=f;unfold oN at l;subst l;have b:(true,d)=(true,k):=b;injection b with _ e
   subst e;dsimp only;rw[ek];let⟨m1,m2,m3⟩:=m.mem D;refine⟨_,J,?_,m1.late (m:=N i.y) (s:=N i.an) (t:=t) m3 g1,m2⟩;exact .inr R
 rw[ac z];by_cases B:y=dk
 .rw[ae B];subst B;have l1:=(jX h4).s
  match s,l1,f,q,K,h with
  |[t,u],_,f,q,K,h=>
   unfold oN at f;obtain⟨d,r,rfl,g1,l⟩:=f;unfold oN at l;obtain⟨j,a,rfl,l,g3⟩:=l;unfold oN at g3;subst g3;have b:(de (d=j),d)=(true,k):=b;injection b with e1 e
   obtain rfl:=eL e1;subst e;have h:∀x∈eS (bw t),W (o x):=A;have a:lQ n o [t,u] i=bu n o t i:=by unfold lQ;rfl
   rw[a];let⟨W1,a,a2,a3,a4⟩:=K t J d W i g1 m sg h;dsimp only;generalize bu n o t i=r at a2 a3 a4|-;have ek:mQ r.2 r.1=d:=AD a4;rw[ek];let⟨m1,m2,m3⟩:=a3.mem D;have a:=m1.late (m:=N r.2.y) (s:=N r.2.an) (t:=u) m3 l;let⟨p,t,v⟩:=a.Zg (c:=c) h7;have l:=(ext_mem d r.2).V;have a:=(FX c {(kD d r.2).2 with late:=(kD d r.2).2.late++[(N r.2.y,N r.2.an,u)]}).V
   have:=Hc p D v (dG a m2) (dG a (dG l a4)) Y Y J
   rw[<-t] at this;exact this.mono J
 rw[ac B];by_cases q2:y=fm
 .rw[ae q2];subst q2;have b:(true,2)=(true,k):=b;injection b with _ e
  subst e;let⟨d,j,c3⟩:=m.const (k:=2) (v:=a0) (.inr R) (.inl R);exact⟨_,λ_ g=>.inl g,.inr j,d,by rw[j];exact c3⟩
 rw[ac q2];by_cases C:y=cX
 .rw[ae C];have hN:=h6 C;subst C;have b:(true,1)=(true,k):=b;injection b with _ e
  subst e;let⟨d,j,c3⟩:=m.const (k:=1) (v:=a0) (.inl R) (.inr hN);exact⟨_,λ_ g=>.inl g,.inr j,d,by rw[j];exact c3⟩
 rw[ac C];by_cases P:y=bR
 .rw[ae P];subst P;have b:(true,bQ n w)=(true,k):=b;injection b with _ e
  subst e;exact⟨W,λ_ g=>g,h w (oJ _ (by rw[ae (.inl R)];exact dM.2 R)),m,sg w (by unfold jT at F;rw[ae (.inl R)] at F;exact F)⟩
 rw[ac P];rw[ac z,ac B] at h;let⟨W1,a,c,d⟩:=Vs s K cs W i f m sg λx e=>h x (jl _ e);have p:=G9 n o s i;exact(ahr c (sg.mono p.V) d q h4 F b D h7 (λe=>a _ (h w (oJ _ (by rw[ae (.inr (.inr e))];exact dM.2 R)))) z B q2 C P).mono a
end
end
end
section
variable {c:L aS}{k s:Nat}
section
def Ky(a:Nat)(e:Nat):∀l:L (Nat×Option Nat),(eQ e l).map (eA a)=eQ (e+a) l
 |[]=>rfl
 |(s,none)::r=>by
  simp only[eQ,iL,Ky a e r]
  rfl
 |(s,some t)::r=>by
  simp only[eQ,iL,Ky a e r]
  rfl
def CQ(e:Nat):∀l:L (Nat×Option Nat),N (eQ e l)=bU l
 |[]=>rfl
 |(s,none)::r=>by simp only[eQ,bU,bt,CQ e r];omega
 |(s,some t)::r=>by simp only[eQ,bU,bt,CQ e r];omega
def Gg(e:Nat):∀{l:L (Nat×Option Nat)} {i:aQ},i∈eQ e l->(∃s,i=⟨19,e,s,0⟩/\((s,none)∈l\/∃x,(x,some s)∈l))\/∃t s,i=⟨6,t,s,0⟩/\(s,some t)∈l
 |[],i,h=>by cases h
 |(s,none)::r,i,h=>by
  simp only[eQ,bY] at h;rcases h with rfl|h
  .grind
  .rcases Gg e h with⟨c,a,b⟩|⟨t,c,a,b⟩
   .grind
   grind
 |(s,some t)::r,i,h=>by
  simp only[eQ,bY] at h;rcases h with rfl|rfl|h
  .exact .inr ⟨t,s,R,gN ..⟩
  .grind
  .rcases Gg e h with⟨c,a,b⟩|⟨d,c,a,b⟩
   .grind
   grind
section
variable {n:Nd}{I O:L Nat}{W V:Nat->Prop}{st:ES}{σ:S->Nat}
def Ay(σ:S->Nat):∀(c:L aS) (st:ES),iD st (bG σ c st).2
 |[],st=>by unfold bG;exact .refl _
 |x::c,st=>by
  unfold bG;split
  .exact(wC 1 st).M (Ay σ c _)
  .exact Ay σ c st
def RC(σ:S->Nat)(c:L aS)(i:aQ)(st:ES):iD st (nB σ c i st):=(Ay σ c st).M (yC _ _)
def qJ(n:Nd)(σ:S->Nat)(W:Nat->Prop):Prop:=∀x,(aO n x).isSome=true->W (σ x)
def bZ.steps(a:qJ n σ W):∀(c:L aS) (st:ES),bZ n I O W V st->Sg n σ st.an->lK n c->bZ n I O W V (bG σ c st).2/\∀x∈(bG σ c st).1,W x.1/\(bG σ c st).2.an[x.1]?=some 1/\∀t,x.2=some t->(bG σ c st).2.an[t]?=some 1
 |[],st,h,_,_=>by
  unfold bG;grind
 |c::r,st,h,sg,b=>by
  let⟨d,f⟩:=b c J;have g:lK n r:=λx hx=>b x J;have e:=sg c.1 d;rw[f] at e;unfold bG;split
  .let⟨b,f⟩:=bZ.steps a r (fx 1 st).2 (h.slot (.inl R)) (sg.mono (wC 1 st).V) g;have p:=(Ay σ r (fx 1 st).2).V;refine⟨b,λx hx=>?_⟩;rcases bY.1 hx with rfl|hx
   .exact⟨a _ d,dG p (dG (tq _ _) e),λt c=>by
     injection c with c
     subst c;exact dG p (yg _ _)⟩
   grind
  .let⟨b,f⟩:=bZ.steps a r st h sg g;have p:=(Ay σ r st).V;refine⟨b,λx hx=>?_⟩;rcases bY.1 hx with rfl|hx
   .exact⟨a _ d,dG p e,J⟩
   .exact f x hx
def bZ.guard(h:bZ n I O W V st)(sg:Sg n σ st.an)(a:qJ n σ W)(b:lK n c){m:Nat}(u:st.y[m]?=some k)(v:st.an[s]?=some k)(d:W s):bZ n I O W V (nB σ c ⟨3,m,s,0⟩ st):=by
 let⟨g,j⟩:=h.steps a c st sg b;have p:=Ay σ c st;unfold nB;generalize (bG σ c st).1=l at j|-;generalize (bG σ c st).2=f at g j p|-;have o:∀e,N (eQ e l++[(⟨3,m,s,0⟩:aQ)])=bU l+1:=λe=>by rw[ay,CQ];rfl
 refine⟨λi q r t a b d=>?_,λx hx=>?_,?_,g.ld,g.sk,g.mq,g.la,g.fi⟩
 .let⟨_,w,y⟩:=g.run i q r t a b d;let⟨b,z,d⟩:=ait y l (m:=m) (s:=s) (λx hx=>And.intro (Or.inl (j x hx).1) (λt d=>cW (mN ((j x hx).2.2 t d)) a)) J;refine⟨b,?_,?_⟩
  .show jh ((f.j++(eQ (N f.j+bU l+1) l++[(⟨3,m,s,0⟩:aQ)])).map (eA i)) i r=_;rw[cM,xc _ _ _ _ _ w,aC,cM,Ky,show N f.j+bU l+1+i=i+N f.j+bU l+1 by omega];exact z
  .show Hr q (N O) b (i+N (f.j++(eQ (N f.j+bU l+1) l++[(⟨3,m,s,0⟩:aQ)]))) _ _;grind
 .have hx:x∈f.j++(eQ (N f.j+bU l+1) l++[⟨3,m,s,0⟩]):=hx;show gC I O f.an f.y f.s x;rcases bA.1 hx with hx|hx
  .exact g.ok x hx
  rcases bA.1 hx with hx|hx
  .rcases Gg _ hx with⟨y,rfl,a|⟨z,a⟩⟩|⟨t,y,rfl,a⟩
   .exact .u (j _ a).2.1
   .exact .u J
   .exact .not J J
  .rw[dM.1 hx];exact .aR (dG p.me u) (dG p.V v)
 .refine tF.app g.tg (λj i e g=>?_);have e:(eQ (N f.j+bU l+1) l++[(⟨3,m,s,0⟩:aQ)])[j]?=some i:=e;have a:N (It.E (N f.j) (.g l ⟨3,m,s,0⟩))=bU l+1:=o _;show N f.j+j<i.a/\i.a<=N f.j+N (It.E (N f.j) (.g l ⟨3,m,s,0⟩));rw[a];have q:=mN e;rw[o] at q;rcases bA.1 (qI e) with hx|hx
  .have a:j<bU l:=by
    refine vQ λa=>?_;rw[vN (by rw[CQ];exact a),CQ,show j-bU l=0 by omega] at e;injection e with e
    rw[<-e] at g;exact J
   rcases Gg _ hx with⟨y,a,_⟩|⟨t,y,a,_⟩
   .grind
   .rw[a] at g;exact absurd g (show¬((6:Nat)=19\/(6:Nat)=20) by decide)
  grind
def qJ.mono{a:Nat->Prop}(h:qJ n σ W)(b:∀s,W s->a s):qJ n σ a:=λx a=>b _ (h x a)
mutual
def Di{h:L Nd}{n:Nd}:∀{e:Tr},dF h n e->∀x∈eS e,(aO n x).isSome=true
 |.mk op d b a c,h,x,hx=>by
  unfold dF at h;unfold eS at hx;rcases bA.1 hx with hx|hx
  .split at hx
   .rename_i q;rw[dM.1 hx]
    have:=h.1
    unfold jT at this;grind
   .grind
  .split at hx
   .grind
   .split at hx
    .exact afQ h.2 x hx
    .exact TS h.2 x hx
def afQ{h:L Nd}{n:Nd}:∀{a:L Tr},ju h n a->∀x∈qu a,(aO n x).isSome=true
 |[],_,x,a=>by unfold qu at a;cases a
 |k::_,h,x,a=>by
  unfold ju at h;unfold qu at a;exact Di h.1 x a
def TS{h:L Nd}{n:Nd}:∀{a:L Tr},ju h n a->∀x∈dw a,(aO n x).isSome=true
 |[],_,x,hx=>by unfold dw at hx;cases hx
 |k::a,h,x,hx=>by
  unfold ju at h;unfold dw at hx;rcases bA.1 hx with hx|hx
  .exact Di h.1 x hx
  .exact TS h.2 x hx
end
def TR{n:Nd}{e:Tr}(h:dF [] n e):∀x∈eS e,(aO n x).isSome=true:=Di h
def PE.iu{t:Tm}(h:PE n t k):lK n (iu t):=by
 let⟨_,_,_,_,c,any,a⟩:=t
 have:=h.ck
 unfold lJ at this;exact this.1
def z7(n:Nd)(W:Nat->Prop)(st:ES)(x:Nat×Nat×Tm):Prop:=∃k,st.y[x.1]?=some k/\st.an[x.2.1]?=some k/\W x.2.1/\lK n (iu x.2.2)
def z7.mono{a:Nat->Prop}{st':ES}{x:Nat×Nat×Tm}(h:z7 n W st x)(f:∀s,W s->a s)(e:iD st st'):z7 n a st' x:=by
 let⟨k,a,b,c,d⟩:=h;exact⟨k,dG e.me a,dG e.V b,f _ c,d⟩
def SZ(g:∀v∈am n,cP v.z):∀(f i:Nat) (a:L (Nat×Nat×Tm)) (W:Nat->Prop) (st:ES),bZ n I O W V st->Sg n σ st.an->qJ n σ W->(∀x∈a,z7 n W st x)->iD st (cF n σ f i a st).2/\∃b:Nat->Prop,(∀s,W s->b s)/\bZ n I O b V (cF n σ f i a st).2/\∀x∈(cF n σ f i a st).1,z7 n b (cF n σ f i a st).2 x
 |0,i,a,W,st,h,sg,d,b=>by
  unfold cF;exact⟨.refl _,W,J,h,b⟩
 |f+1,i,a,W,st,h,sg,d,b=>by
  unfold cF;cases e:st.late[i]? with
  |none=>exact⟨.refl _,W,J,h,b⟩
  |some x=>
   dsimp only;let⟨k,v,e⟩:=h.la x J;have p:=zf n σ x.2.2 st;let⟨j,c,l,m,o⟩:=Vl (I:=I) (O:=O) (V:=V) g (o:=σ) x.2.2 k W st e h sg λy hy=>d y (TR e.T y hy);let⟨q,h,r,t,u⟩:=SZ g f (i+1) (a++[(x.1,(bu n σ x.2.2 st).1,x.2.2)]) j _ m (sg.mono p.V) (d.mono c) λy hy=>by
    rcases bA.1 hy with hy|hy
    .exact(b y hy).mono c p
    .rw[dM.1 hy];exact⟨k,dG p.me v,o,l,e.iu⟩
   exact⟨p.M q,h,λs g=>r s (c s g),t,u⟩
def SL:∀(l:L (Nat×Nat×Tm)) (st:ES),bZ n I O W V st->Sg n σ st.an->qJ n σ W->(∀x∈l,z7 n W st x)->iD st (eD σ l st)/\bZ n I O W V (eD σ l st)
 |[],st,h,_,_,_=>by unfold eD;exact⟨.refl _,h⟩
 |x::l,st,h,sg,a,b=>by
  unfold eD;let⟨k,e,f,g,i⟩:=b x (gN ..);have p:=RC σ (iu x.2.2) ⟨3,x.1,x.2.1,0⟩ st;let⟨c,d⟩:=SL l _ (h.guard sg a i e f g) (sg.mono p.V) a λy a=>(b y (li _ a)).mono J p;exact⟨p.M c,d⟩
def RP{y:Nat}:∀(l:L (Nat×L aS)) (st:ES),bZ n I O W V st->Sg n σ st.an->qJ n σ W->st.an[y]?=some 1->W y->(∀x∈l,st.y[x.1]?=some 1/\lK n x.2)->iD st (js σ y l st)/\bZ n I O W V (js σ y l st)
 |[],st,h,_,_,_,_,_=>by unfold js;exact⟨.refl _,h⟩
 |x::l,st,h,sg,a,b,c,d=>by
  unfold js;let⟨f,g⟩:=d x (gN ..);have p:=RC σ x.2 ⟨3,x.1,y,0⟩ st;let⟨d,e⟩:=RP l _ (h.guard sg a g f b c) (sg.mono p.V) a (dG p.V b) c λz a=>⟨dG p.me J,J⟩;exact⟨p.M d,e⟩
def Mt(d:∀v∈am n,cP v.z)(f:Nat)(h:bZ n I O W V st)(sg:Sg n σ st.an)(c:qJ n σ W):iD st (ig n σ f st)/\∃a:Nat->Prop,(∀s,W s->a s)/\bZ n I O a V (ig n σ f st):=by
 let⟨b,g,a,i,j⟩:=SZ (I:=I) (O:=O) (V:=V) (σ:=σ) d f 0 [] W st h sg c J;let⟨d,e⟩:=SL _ _ i (sg.mono b.V) (c.mono a) j;unfold ig;dsimp only;split
 .exact⟨b.M d,g,a,e⟩
 .let⟨g,i,j⟩:=e.const (k:=1) (v:=1) (.inl R) Y;have e:=Kb 1 1 (eD σ (cF n σ f 0 [] st).1 (cF n σ f 0 [] st).2);rw[i];let⟨i,d1⟩:=RP (y:=N (eD σ (cF n σ f 0 [] st).1 (cF n σ f 0 [] st).2).an) _ _ g (sg.mono (b.V.trans (d.V.trans e.V))) ((c.mono a).mono J) j Y g.fi;exact⟨b.M (d.M (e.M i)),_,λs g=>.inl (a s g),d1⟩
end
end
end
end Go.Proofs.YtehahhggpdhieaaGreatDoor
