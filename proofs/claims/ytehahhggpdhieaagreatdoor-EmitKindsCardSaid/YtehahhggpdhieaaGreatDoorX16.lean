/- Lemmas of the walk of EmitKinds are proved. Conditions: none. -/
import Derived.Test.YtehahhggpdhieaaGreatDoorX15
namespace Go.Proofs.YtehahhggpdhieaaGreatDoor
set_option maxRecDepth 100000
set_option maxHeartbeats 32000000
set_option linter.all false
section
variable {a b k:Nat}
section
def bQ(n:Nd)(s:S):Nat:=((aO n s).getD ⟨(0,0),0,(0,0),false,0⟩).z
def rh(d:Nd):Nat:=(d.o.getD 0 ⟨(0,0),0,(0,0),false,0⟩).z
def lN:L Vr->L Nat->Bool
 |v::l,k::r=>decide (v.z=k)&&lN l r
 |_,_=>true
def kx(ks:L Nat)(i:Nat):Nat:=ks.getD i 0
def Ai(l:L Nd)(nm:S)(ks:L Nat):Bool×Nat:=match l.find? (λn=>decide (n.n=nm)) with
 |some d=>(lN d.ins ks,rh d)
 |none=>(true,0)
def mz(l:L Nd)(n:Nd)(a nm:S)(ks:L Nat):Bool×Nat:=
 if a=fm then(true,2)
 else if a=cX then(true,1)
 else if a=bR then(true,bQ n nm)
 else if a=fB then(de (kx ks 0=1),1)
 else if a=ps then(de (kx ks 0=2),2)
 else if a=eH then(true,kx ks 0)
 else if a=im\/a=gd\/a=gL\/a=gK\/a=gA then(de (kx ks 0=2/\kx ks 1=2),2)
 else if a=dY\/a=il then(de (kx ks 0=kx ks 1),1)
 else if a=ik\/a=gU\/a=ij\/a=gT then(de (kx ks 0=2/\kx ks 1=2),1)
 else if a=gS\/a=gV\/a=gX then(de (kx ks 0=1/\kx ks 1=1),1)
 else if a=jJ\/a=dk then(de (kx ks 0=kx ks 1),kx ks 0)
 else if a=jK then(de (kx ks 0=1/\kx ks 1=kx ks 2),kx ks 1)
 else if a=bB then(de (bQ n nm=1),kx ks 0)
 else if a=bD then(de (bQ n nm=1/\kx ks 0=kx ks 1),kx ks 0)
 else if a=bK then Ai l nm ks
 else(true,0)
mutual
def kW(l:L Nd)(n:Nd):Tr->Bd->Nat×Bd
 |.mk op nm _ a ks,b=>((mz l n op nm (fG l n ks b).1).2,dI (!(mz l n op nm (fG l n ks b).1).1) 9 a (fG l n ks b).2)
def fG(l:L Nd)(n:Nd):L Tr->Bd->L Nat×Bd
 |[],b=>([],b)
 |k::r,b=>((kW l n k b).1::(fG l n r (kW l n k b).2).1,(fG l n r (kW l n k b).2).2)
end
def qY(n:Nd):L Vr->Bd->Bd
 |[],b=>b
 |v::r,b=>qY n r (dI (!de (v.p=(0,0)) && !de (bQ n v.p=1)) 9 v.a b)
def pM(l:L Nd)(n:Nd):L aX->Bd->Bd
 |[],b=>b
 |q::r,b=>pM l n r (dI (!de ((kW l n q.e b).1=bQ n q.n)) 9 q.a (kW l n q.e b).2)
def qZ(l:L Nd):L Nd->Bd->Bd
 |[],b=>b
 |n::r,b=>qZ l r (pM l n n.r (qY n n.ao b))
def lG(l:L Nd):Bd:=qZ l l (0,0)
def Jd(ks:L Nat)(w t:Nat):Nat:=if N ks=2/\kx ks 0=w/\kx ks 1=w then t else 0
def sG(ks:L Nat)(n:Nat):Bool:=de (N ks=n) && !ks.any λk=>!de (k=kx ks 0)
def jr(b:Bool)(a:Nat)(ks:L Nat):Nat:=if b=false then 0 else if a=0/\0<N ks then kx ks (N ks-1) else a
def qQ(h:L Nd)(nm:S)(ks:L Nat):Nat:=match h.find? (λn=>decide (n.n=nm)) with
 |some d=>if N d.o=1/\N d.ins=N ks then(if lN d.ins ks then rh d else 0) else 0
 |none=>0
def iI(h:L Nd)(n:Nd)(a nm:S)(ks:L Nat):Nat:=
 if a=fm then jr (de (N ks=0)) 2 ks
 else if a=cX then jr (de (N ks=0)) 1 ks
 else if a=bR then jr (de (N ks=0)) (bQ n nm) ks
 else if a=fB then jr (de (N ks=1/\kx ks 0=1)) 1 ks
 else if a=ps then jr (de (N ks=1/\kx ks 0=2)) 2 ks
 else if a=eH then jr (de (N ks=1)) 0 ks
 else if a=im\/a=gd\/a=gL\/a=gK\/a=gA then Jd ks 2 2
 else if a=ik\/a=gU\/a=ij\/a=gT then Jd ks 2 1
 else if a=gS\/a=gV\/a=gX then Jd ks 1 1
 else if a=dY\/a=il then jr (sG ks 2) 1 ks
 else if a=jJ\/a=dk then jr (sG ks 2) 0 ks
 else if a=bB then jr (de (N ks=1/\bQ n nm=1)) 0 ks
 else if a=jK then jr (de (N ks=3/\kx ks 0=1/\kx ks 1=kx ks 2)) 0 ks
 else if a=bD then jr (sG ks 2&&de (bQ n nm=1)) 0 ks
 else if a=bK then qQ h nm ks
 else jr false 0 ks
mutual
def fM(h:L Nd)(n:Nd):Tr->Sum Nat Nat
 |.mk op nm _ a ks=>match eZ h n ks with
  |.inl p=>.inl p
  |.inr b=>if iI h n op nm b=1\/iI h n op nm b=2 then .inr (iI h n op nm b) else .inl a
def eZ(h:L Nd)(n:Nd):L Tr->Sum Nat (L Nat)
 |[]=>.inr []
 |k::r=>match fM h n k with
  |.inl p=>.inl p
  |.inr c=>match eZ h n r with
   |.inl p=>.inl p
   |.inr a=>.inr (c::a)
end
def vh(n:Nd):L Vr->Option Nat
 |[]=>none
 |v::r=>if¬v.p=(0,0)/\¬bQ n v.p=1 then some v.a else vh n r
def uY(h:L Nd)(n:Nd):L aX->Option Nat
 |[]=>none
 |q::r=>match fM h n q.e with
  |.inl p=>some p
  |.inr k=>if k=bQ n q.n then uY h n r else some q.a
def zF(h:L Nd):L Nd->Option Nat
 |[]=>none
 |n::r=>match(vh n n.ao).or (uY h n n.r) with
  |some a=>some a
  |none=>zF (h++[n]) r
def cP(k:Nat):Prop:=k=1\/k=2
def J7{h:L Nd}{n:Nd}:∀(e:Tr) {k:Nat},fM h n e=.inr k->cP k
 |.mk op nm b a ks,k,e=>by
  unfold fM at e;split at e
  .cases e
  .split at e
   .rename_i g;cases e;exact g
   .cases e
def FT{h:L Nd}{n:Nd}:∀(ks:L Tr) {a:L Nat},eZ h n ks=.inr a->N a=N ks/\∀k∈a,cP k
 |[],a,e=>by
  unfold eZ at e;grind
 |k::r,a,e=>by
  unfold eZ at e;split at e
  .cases e
  .rename_i c g;split at e
   .cases e
   .rename_i b d;cases e;let⟨f,i⟩:=FT r d;exact⟨dv (·+1) f,λx j=>(bY.1 j).elim (λe=>e▸J7 k g) (i x)⟩
def ae5{n:Nd}(a:∀v∈am n,cP v.z){s:S}(h:(aO n s).isSome=true):cP (bQ n s):=by
 unfold bQ;cases e:aO n s with
 |none=>grind
 |some v=>exact a v (pY e)
def F0{a:Type}{P:a->Bool}{l r:L a}(h:(l.find? P).isSome=true):(l++r).find? P=l.find? P:=by
 rw[List.find?_append];cases e:l.find? P with
 |none=>grind
 |some x=>rfl
def GK{a:S}{m:Nat}(h:lP a=some m):(m=1/\a∈[fB,ps,eH,bB])\/(m=2/\a∈[bD,jJ,dk,im,gd,gL,gK,gA,dY,il,ik,gU,ij,gT,gS,gV,gX])\/(m=3/\a=jK)\/(m=0/\a∈[fm,cX,bR]):=by
 unfold lP at h;grind
section
variable {h l:L Nd}{n:Nd}{nm:S}{ks:L Nat}
def uE(l h:L Nd)(n:Nd)(a nm:S)(ks:L Nat):Prop:=(cP (iI h n a nm ks)->mz l n a nm ks=(true,iI h n a nm ks))/\(¬cP (iI h n a nm ks)->(mz l n a nm ks).1=false)
def oQ{a:S}(b:cP k)(b:iI h n a nm ks=k)(b:mz l n a nm ks=(true,k)):uE l h n a nm ks:=by
 unfold uE;grind
def uM{a:S}(b:iI h n a nm ks=0)(c:(mz l n a nm ks).1=false):uE l h n a nm ks:=by
 unfold uE;rw[b];exact⟨λg=>(by rcases g with g|g<;>exact Y),J⟩
def aay{f:S}(b:f∈[fB,ps,eH,bB])(d:cP a)(e:f=bB->cP (bQ n nm)):uE l h n f nm [a]:=by
 simp only[bY,kN,lY] at b;rcases b with rfl|rfl|rfl|rfl
 .rcases d with rfl|rfl
  .exact oQ (.inl R) R R
  .exact uM R R
 .rcases d with rfl|rfl
  .exact uM R R
  .exact oQ (.inr R) R R
 .rcases d with rfl|rfl
  .exact oQ (.inl R) R R
  .exact oQ (.inr R) R R
 .have b:iI h n bB nm [a]=jr (de (1=1/\bQ n nm=1)) 0 [a]:=R;have c:mz l n bB nm [a]=(de (bQ n nm=1),a):=R;rcases e R with g|g
  .rw[g] at b c;rcases d with rfl|rfl
   .exact oQ (.inl R) b c
   .exact oQ (.inr R) b c
  .rw[g] at b c;exact uM b J
def aaz{e:S}(k:e∈[bD,jJ,dk,im,gd,gL,gK,gA,dY,il,ik,gU,ij,gT,gS,gV,gX])(f:cP a)(i:cP b)(g:e=bD->cP (bQ n nm)):uE l h n e nm [a,b]:=by
 by_cases j:e=bD
 .subst j;have c:iI h n bD nm [a,b]=jr (sG [a,b] 2&&de (bQ n nm=1)) 0 [a,b]:=R;have d:mz l n bD nm [a,b]=(de (bQ n nm=1/\a=b),a):=R;rcases g R with g|g
  .rw[g] at c d;rcases f with rfl|rfl<;>rcases i with rfl|rfl
   .exact oQ (.inl R) c d
   .exact uM c J
   .exact uM c J
   .exact oQ (.inr R) c d
  .rw[g] at c d;have d:(mz l n bD nm [a,b]).1=false:=by rw[d];show de (2=1/\a=b)=false;exact J
   rcases f with rfl|rfl<;>rcases i with rfl|rfl<;>exact uM c d
 .simp only[bY,kN,lY,j,false_or] at k;rcases k with rfl|rfl|rfl|rfl|rfl|rfl|rfl|rfl|rfl|rfl|rfl|rfl|rfl|rfl|rfl|rfl<;>rcases f with rfl|rfl<;>rcases i with rfl|rfl<;>first
   |exact uM rfl rfl
   |exact oQ (.inl rfl) rfl rfl
   |exact oQ (.inr rfl) rfl rfl
def aaA{c:Nat}(d:cP a)(e:cP b)(f:cP c):uE l h n jK nm [a,b,c]:=by
 rcases d with rfl|rfl<;>rcases e with rfl|rfl<;>rcases f with rfl|rfl<;>first
  |exact uM rfl rfl
  |exact oQ (.inl rfl) rfl rfl
  |exact oQ (.inr rfl) rfl rfl
def aax{a:S}(b:a∈[fm,cX,bR])(c:a=bR->cP (bQ n nm)):uE l h n a nm []:=by
 simp only[bY,kN,lY] at b;rcases b with rfl|rfl|rfl
 .exact oQ (.inr R) R R
 .exact oQ (.inl R) R R
 .have b:iI h n bR nm []=jr true (bQ n nm) []:=R;have c:mz l n bR nm []=(true,bQ n nm):=R;refine oQ J (b.t ?_) c;unfold jr;grind
end
def Vh{h r:L Nd}{n:Nd}{j nm:S}{ks:L Nat}{m:Nat}(o:m=N ks)(c:∀v∈am n,cP v.z)(p:∀d∈h,∀v∈d.o,cP v.z)(a:∀k∈ks,cP k)(e:j=bK\/lP j=some m)(a:jT h n j nm m=true):uE (h++r) h n j nm ks:=by
 have b:j=bR\/j=bB\/j=bD->cP (bQ n nm):=λg=>ae5 c (by unfold jT at a;grind);by_cases k:j=bK
 .subst k;have a:iP h nm m=true:=a;have b:iI h n bK nm ks=qQ h nm ks:=R;have c:mz (h++r) n bK nm ks=Ai (h++r) nm ks:=R;unfold iP at a;cases f:h.find? (λn=>decide (n.n=nm)) with
  |none=>grind
  |some d=>
   rw[f] at a;have a:=eL a;unfold qQ at b;unfold Ai at c;rw[F0 (by rw[f];rfl),f] at c;rw[f] at b;dsimp only at b c;rw[ae ⟨a.1,a.2.t o⟩] at b;have f:cP (rh d):=by
    unfold rh
    match q:d.o,a.1 with
    |[v],_=>grind
   cases i:lN d.ins ks with
   |true=>
    rw[i,ae R] at b;rw[i] at c;exact oQ f b c
   |false=>
    rw[i,ac to] at b;rw[i] at c;exact uM b (by rw[c])
 .obtain e:=e.resolve_left k;subst o;rcases GK e with⟨e,g⟩|⟨e,g⟩|⟨e,g⟩|⟨e,g⟩
  .match ks,e with
   |[a],_=>exact aay g J J
  .match ks,e with
   |[a,b],_=>exact aaz g J J J
  .subst g
   match ks,e with
   |[a,b,c],_=>exact aaA J J J
  .match ks,e with
   |[],_=>exact aax g J
section
variable {h r:L Nd}{n:Nd}
mutual
def SB{l:L Nd}{n:Nd}:∀(e:Tr) (b:Bd),b.1≠0->(kW l n e b).2=b
 |.mk op nm c a ks,b,h=>by
  unfold kW;dsimp only;rw[Lb ks b h];exact qU h
def Lb{l:L Nd}{n:Nd}:∀(ks:L Tr) (b:Bd),b.1≠0->(fG l n ks b).2=b
 |[],b,h=>by unfold fG;rfl
 |k::r,b,h=>by
  unfold fG;dsimp only;rw[SB k b h];exact Lb r b h
end
mutual
def SA(j:∀v∈am n,cP v.z)(i:∀d∈h,∀v∈d.o,cP v.z):∀(e:Tr) (b:Bd),cC e->dF h n e->b.1=0->(∀k,fM h n e=.inr k->kW (h++r) n e b=(k,b))/\(∀p,fM h n e=.inl p->(kW (h++r) n e b).2=(9,p))
 |.mk op nm c a ks,b,d,e,f=>by
  unfold cC at d;unfold dF at e;let⟨m,c⟩:=SD j i ks b d.2 e.2 f;unfold fM kW;cases g:eZ h n ks with
  |inl p=>
   refine⟨J,λq h=>?_⟩;have h:Sum.inl p=(Sum.inl q:Sum Nat Nat):=h;cases h;dsimp only;rw[c p g];exact qU Y
  |inr c=>
   rw[m c g];let⟨o,m⟩:=FT ks g;let⟨g,o2⟩:=Vh (r:=r) o.s j i m d.1 e.1;dsimp only;by_cases q:cP (iI h n op nm c)
   .have d:iI h n op nm c=1\/iI h n op nm c=2:=q;rw[ae d,g q];exact⟨λk h=>by cases h;rfl,J⟩
   .have d:¬(iI h n op nm c=1\/iI h n op nm c=2):=q;rw[ac d,o2 q];refine⟨J,λp h=>?_⟩;cases h;show kV 9 a b=(9,a);exact ae f
def SD(i:∀v∈am n,cP v.z)(f:∀d∈h,∀v∈d.o,cP v.z):∀(ks:L Tr) (b:Bd),gY ks->ju h n ks->b.1=0->(∀a,eZ h n ks=.inr a->fG (h++r) n ks b=(a,b))/\(∀p,eZ h n ks=.inl p->(fG (h++r) n ks b).2=(9,p))
 |[],b,_,_,a=>by
  unfold eZ fG;grind
 |k::t,b,d,e,a=>by
  unfold gY at d;unfold ju at e;let⟨j,c⟩:=SA i f k b d.1 e.1 a;unfold eZ fG;cases g:fM h n k with
  |inl p=>
   refine⟨J,λq h=>?_⟩;have h:Sum.inl p=(Sum.inl q:Sum Nat (L Nat)):=h;cases h;dsimp only;rw[c p g];exact Lb t _ Y
  |inr c=>
   rw[j c g];dsimp only;obtain A:=SD i f t b d.2 e.2 a;grind
end
def Lf:∀(l:L Vr) (b:Bd),b.1≠0->qY n l b=b
 |[],_,_=>rfl
 |v::r,b,h=>by
  unfold qY;rw[qU h];exact Lf r b h
def C6{l:L Nd}:∀(a:L aX) (b:Bd),b.1≠0->pM l n a b=b
 |[],_,_=>rfl
 |q::r,b,h=>by
  unfold pM;rw[SB q.e b h,qU h];exact C6 r b h
def Lg{l:L Nd}:∀(a:L Nd) (b:Bd),b.1≠0->qZ l a b=b
 |[],_,_=>rfl
 |n::r,b,h=>by
  unfold qZ;rw[Lf _ b h,C6 _ b h];exact Lg r b h
def Le:∀(l:L Vr),qY n l (0,0)=yE 9 (vh n l)
 |[]=>rfl
 |v::r=>by
  unfold qY vh;by_cases a:v.p=(0,0)
  .rw[aB a,ac (λg=>g.1 a)];exact Le r
  .by_cases q2:bQ n v.p=1
   .rw[aB q2,ac (λg=>g.2 q2),Bool.and_comm];exact Le r
   .rw[aA a,aA q2,ae ⟨a,q2⟩];show qY n r (9,v.a)=(9,v.a);exact Lf r _ Y
def SG(f:∀v∈am n,cP v.z)(b:∀d∈h,∀v∈d.o,cP v.z):∀(a:L aX),(∀q∈a,cC q.e/\dF h n q.e)->pM (h++r) n a (0,0)=yE 9 (uY h n a)
 |[],_=>rfl
 |q::t,a=>by
  let⟨d,e⟩:=a q (gN ..);let⟨a,c⟩:=SA (r:=r) f b q.e (0,0) d e R;unfold pM uY;cases g:fM h n q.e with
  |inl p=>
   rw[c p g,qU Y];exact C6 t _ Y
  |inr c=>
   rw[a c g];dsimp only;by_cases e:c=bQ n q.n
   .rw[aB e,ae e];exact SG f b t J
   .rw[aA e,ac e];show pM (h++r) n t (9,q.a)=(9,q.a);exact C6 t _ Y
end
def SE:∀(a h:L Nd),(∀d∈h,∀v∈d.o,cP v.z)->(∀n∈a,∀v∈am n,cP v.z)->(∀i (e:i<N a),∀q∈a[i].r,cC q.e/\dF (h++a.take i) a[i] q.e)->qZ (h++a) a (0,0)=yE 9 (zF h a)
 |[],_,_,_,_=>rfl
 |n::r,h,j,a,f=>by
  have b:=a n (gN ..);have c:=f 0 (jm _);unfold qZ zF;rw[Le];cases g:vh n n.ao with
  |some a=>
   show qZ _ r (pM _ n n.r (9,a))=(9,a);rw[C6 _ _ Y];exact Lg r _ Y
  |none=>
   show qZ _ r (pM _ n n.r (0,0))=_;rw[SG b j n.r (λq h=>by simpa using c q h)];rw[Option.none_or];cases c:uY h n n.r with
   |some a=>
    show qZ _ r (9,a)=(9,a);exact Lg r _ Y
   |none=>
    show qZ _ r (0,0)=_
    have:=SE r (h++[n]) (λd hd v c=>?_) J (λi e q a=>?_)
    .grind
    .rcases bA.1 hd with hd|hd
     .grind
     .rw[dM.1 hd] at c;exact b v (by unfold am;grind)
    .have:=f (i+1) (oL e) q a
     grind
def ajD{l:L Nd}(b:∀n∈l,Made n)(d:(nF l).1=0):lG l=yE 9 (zF [] l):=by
 have:=SE l [] J (λn e v hv=>?_) (λi a q c=>?_)
 .exact this
 .obtain⟨f,g,i,-⟩:=b n e;unfold am at hv;rcases bA.1 hv with hv|hv
  .exact(f v hv).2
  rcases bA.1 hv with hv|hv
  .exact(g v hv).2
  .exact i v hv
 .refine⟨(b _ (aU a)).r q c,?_⟩;rw[dH];exact((GI d a).r q c).1
def wJ{h:L Nd}{n:Nd}:∀ks:L Tr,ju h n ks↔∀k∈ks,dF h n k
 |[]=>⟨J,λ_=>by unfold ju;trivial⟩
 |k::ks=>by
  unfold ju;rw[wJ ks];grind
def abt{h r:L Nd}{s:S}{m:Nat}(g:iP h s m=true):iP (h++r) s m=true:=by
 unfold iP at g|-;grind
mutual
def SS{h r:L Nd}{n:Nd}:∀(e:Tr),dF h n e->dF (h++r) n e
 |.mk op nm c a ks,g=>by
  unfold dF at g|-;refine⟨?_,SU ks g.2⟩;have b:=g.1;unfold jT at b|-;split
  .grind
  .rename_i q;rw[ac q] at b;split
   .rename_i q2;rw[ae q2] at b;exact abt b
   .rfl
def SU{h r:L Nd}{n:Nd}:∀(ks:L Tr),ju h n ks->ju (h++r) n ks
 |[],_=>A
 |k::ks,g=>by
  unfold ju at g|-;exact⟨SS k g.1,SU ks g.2⟩
end
end
mutual
def eS:Tr->L S
 |.mk op b _ _ a=>(if op=bR\/op=bB\/op=bD then[b] else[])++(if op=eH then[] else if op=dk then qu a else dw a)
def qu:L Tr->L S
 |[]=>[]
 |k::_=>eS k
def dw:L Tr->L S
 |[]=>[]
 |k::a=>eS k++dw a
end
def aE(n:Nd):L S:=(n.o++n.ao).map Vr.n
def A6(n:Nd)(s:S):L S:=(fW n (N n.ao) s).map Prod.fst
def jE(n:Nd)(s:S):Tr:=match n.r.find? λq=>decide (q.n=s) with|some q=>q.e|none=>E0
def fA(n:Nd)(s:S):L S:=if(aE n).contains s then(aE n).filter λx=>(eS (jE n s)).contains x||(A6 n s).contains x else[]
def ug(n:Nd)(done:L S)(s:S):Bool:=!done.contains s && !(fA n s).any λx=>!done.contains x
def zd(n:Nd):Nat->L S->Option (L S)
 |0,l=>some l
 |k+1,l=>match(aE n).find? (ug n l) with
  |some s=>zd n k (l++[s])
  |none=>none
def gR(n:Nd):Option (L S):=zd n (N (aE n)) []
def DX(n:Nd)(s:S):Nat->L S->L S->Option Bool
 |0,_,_=>none
 |k+1,seen,a=>match a.getLast? with
  |none=>some false
  |some x=>if x=s then some true else if seen.contains x then DX n s k seen a.dropLast else DX n s k (x::seen) (a.dropLast++fA n x)
end
section
section
section
variable (names:L S)(lean:S->L S)
def DR(done:L S)(s:S):Bool:=!done.contains s && !(lean s).any λx=>!done.contains x
def zc:Nat->L S->Option (L S)
 |0,l=>some l
 |k+1,l=>match names.find? (DR lean l) with
  |some s=>zc k (l++[s])
  |none=>none
def uh(s:S):Nat->L S->L S->Option Bool
 |0,_,_=>none
 |k+1,seen,a=>match a.getLast? with
  |none=>some false
  |some x=>if x=s then some true else if seen.contains x then uh s k seen a.dropLast else uh s k (x::seen) (a.dropLast++lean x)
inductive jO (lean:S->List S):S->S->Prop
 |one {x y:S}:y∈lean x->jO lean x y
 |step {x y z:S}:jO lean x y->z∈lean y->jO lean x z
variable {names lean}
def uI(lean:S->L S)(o:L S):Prop:=∀i (a:i<N o),∀y∈lean o[i],y∈o.take i
theorem Mo{done:L S}{s:S}:DR lean done s=true↔s∉done/\∀x∈lean s,x∈done:=by
 unfold DR;grind
theorem uI.app{o:L S}{s:S}(h:uI lean o)(g:∀x∈lean s,x∈o):uI lean (o++[s]):=by
 intro i a y b;rw[ay] at a;have a:i<N o+1:=a;by_cases e:i<N o
 .rw[Is e] at b;rw[aad (zU e)];exact h i e y b
 grind
theorem wU:∀(k:Nat) (l:L S) {o:L S},zc names lean k l=some o->uI lean l->l.Nodup->(∀x∈l,x∈names)->uI lean o/\N o=N l+k/\o.Nodup/\∀x∈o,x∈names
 |0,l,o,h,c,d,i=>by
  cases h;grind
 |k+1,l,o,h,c,d,i=>by
  unfold zc at h;split at h
  .rename_i s e;let⟨f,g⟩:=Mo.1 (uB e);let⟨n,q2,p,q⟩:=wU k _ h (c.app g) (by
    rw[rF];refine⟨d,BT.2 ⟨kN,Iw⟩,λa j b m=>?_⟩;rw[dM.1 m];exact λe=>f (e▸j)) J
   grind
  .cases h
theorem wM:∀{l k:L S},l.Nodup->(∀x∈l,x∈k)->N l<=N k
 |[],_,_,_=>aJ _
 |a::l,k,h,g=>by
  let⟨_,b⟩:=BT.1 h
  have:=wM (l:=l) (k:=k.erase a) b J
  grind
theorem Cl{l k:L S}(h:l.Nodup)(g:∀x∈l,x∈k)(e:N k<=N l):∀x∈k,x∈l:=by
 intro x a;apply ZE;intro a
 have:=wM (l:=l) (k:=k.erase x) h J
 grind
theorem agQ{o:L S}(h:uI lean o){x y:S}(g:jO lean x y):∀i (a:i<N o),o[i]=x->∃j,j<i/\∃c:j<N o,o[j]=y:=by
 induction g with
 |one b=>
  intro i a e;obtain A:=gB (h i a _ (e▸b));grind
 |step _ b f=>
  intro i a e;let⟨j,_,c,d⟩:=f i a e;obtain A:=gB (h j c _ (d▸b));grind
theorem agP{o:L S}(h:uI lean o){s:S}(b:s∈o):¬jO lean s s:=by
 intro g
 have:∀n i (a:i<N o),i<n->o[i]=s->False:=by
  intro n
  induction n with
  |zero=>omega
  |succ n c=>
   intro i a c e;obtain A:=agQ h g i a e;grind
 obtain A:=gB b;grind
theorem QI:∀(n:Nat) (a:L S),N a<=n->a≠[]->(∀x∈a,∃y∈a,y∈lean x)->∃s∈a,jO lean s s
 |0,a,h,b,_=>J
 |n+1,a,h,b,c=>by
  let⟨x,d⟩:=List.exists_mem_of_ne_nil a b;by_cases g:jO lean x x
  .grind
  .letI:∀y,Decidable (jO lean x y):=λy=>Classical.propDecidable _
   let⟨y,e,b⟩:=c x d;have d:y∈a.filter λy=>decide (jO lean x y):=vO.2 ⟨e,aB (.one b)⟩;have b:N (a.filter λy=>decide (jO lean x y))<N a:=ZW.2 J;let⟨s,_,b⟩:=QI n (a.filter λy=>decide (jO lean x y)) Y J λz a=>by
    let⟨d,b⟩:=vO.1 a;let⟨w,b,a⟩:=c z d;exact⟨w,vO.2 ⟨b,aB (.step J a)⟩,a⟩
   grind
theorem LY(i:names.Nodup)(h:∀x,∀y∈lean x,y∈names)(c:∀s∈names,¬jO lean s s):∀(k:Nat) (l:L S),N l+k=N names->l.Nodup->(∀x∈l,x∈names)->∃o,zc names lean k l=some o
 |0,l,_,_,_=>⟨l,R⟩
 |k+1,l,b,d,a=>by
  unfold zc;cases e:names.find? (DR lean l) with
  |some s=>
   obtain⟨f,a⟩:=Mo.1 (uB e);exact LY i h c k (l++[s]) J (by
    rw[rF];refine⟨d,BT.2 ⟨kN,Iw⟩,λa c b a=>?_⟩;rw[dM.1 a];exact λe=>f (e▸c)) J
  |none=>
   exfalso
   have f:=ZO.1 e;have b:names.filter (λx=>!l.contains x)≠[]:=λg=>by
    have a:∀x∈names,x∈l:=λx e=>by
     have:=ZN.1 g x e
     grind
    have:=wM i a
    omega
   obtain⟨s,i,d⟩:=QI _ (names.filter (λx=>!l.contains x)) (ak _) b λx e=>by
    obtain⟨a,b⟩:=vO.1 e;have e:x∉l:=by simpa using b
    have:=f x a
    have:¬∀y∈lean x,y∈l:=λg=>this (Mo.2 J)
    obtain⟨y,b⟩:=Classical.not_forall.1 this;obtain⟨a,e⟩:=Classical.not_imp.1 b;exact⟨y,vO.2 ⟨h x y a,by simpa using e⟩,a⟩
   exact c s (vO.1 i).1 d
theorem Li{a:L S}{x:S}(h:a.getLast?=some x):a=a.dropLast++[x]:=by
 have b:a≠[]:=J;rw[ZV b] at h;rw[<-jX h];exact(ZK b).s
theorem My{s:S}:∀(k:Nat) (b a:L S),(∀w∈a,jO lean s w)->uh lean s k b a=some true->jO lean s s
 |0,_,_,_,h=>by cases h
 |k+1,b,a,i,h=>by
  unfold uh at h;split at h
  .cases h
  .rename_i x e;have f:=Li e;have d:jO lean s x:=J;have c:∀w∈a.dropLast,jO lean s w:=J;split at h
   .grind
   split at h
   .exact My k _ _ c h
   .refine My k _ _ (λw g=>?_) h;rcases bA.1 g with g|g
    .grind
    .exact .step d g
theorem Mw{s:S}:∀(k:Nat) (f i:L S),(∀w∈lean s,w∈f\/w∈i)->(∀x∈f,∀y∈lean x,y∈f\/y∈i)->s∉f->uh lean s k f i=some false->¬jO lean s s
 |0,_,_,_,_,_,h=>by cases h
 |k+1,f,i,o,p,l,h=>by
  unfold uh at h;split at h
  .rename_i e;have e:i=[]:=List.getLast?_eq_none_iff.1 e;subst e
   have:∀x y,jO lean x y->x=s->y∈f:=by
    intro x y g
    induction g with
    |one j=>
     grind
    |step _ j r=>
     grind
   grind
  .rename_i x e;have n:=Li e;have t:∀{w:S},w∈i->w∈i.dropLast\/w=x:=J;split at h
   .cases h
   .rename_i q;split at h
    .rename_i c;have c:=zM.1 c;have m:∀{w:S},w∈f\/w∈i->w∈f\/w∈i.dropLast:=J;exact Mw k _ _ J J l h
    .have m:∀{w:S},w∈f\/w∈i->w∈x::f\/w∈i.dropLast++lean x:=J;refine Mw k _ _ J (λa b c d=>?_) (λg=>?_) h
     .grind
     grind
theorem Mx{s:S}{K:Nat}(f:∀x,N (lean x)<=K)(g:∀x,∀y∈lean x,y∈names):∀(k:Nat) (a d:L S),(∀w∈d,w∈names)->N (names.filter λx=>!a.contains x)*(K+1)+N d<k->∃b,uh lean s k a d=some b
 |0,_,_,_,h=>Y
 |k+1,a,d,p,h=>by
  unfold uh;cases e:d.getLast? with
  |none=>grind
  |some x=>
   dsimp only;have i:=Li e;have r:x∈names:=J;have l:∀w∈d.dropLast,w∈names:=J;have m:N d=N d.dropLast+1:=by
    have:=dv List.length i
    rw[ay] at this;exact this
   split
   .grind
   split
   .exact Mx f g k _ _ l Y
   .rename_i c;refine Mx f g k _ _ J ?_;have j:N (names.filter λy=>!(x::a).contains y)<N (names.filter λy=>!a.contains y):=by
     have:(names.filter λy=>!(x::a).contains y)=(names.filter λy=>!a.contains y).filter λy=>!de (y=x):=by
      rw[List.filter_filter];refine List.filter_congr λy _=>?_;rw[Ik];by_cases q:y=x
      .grind
      .grind
     rw[this];refine ZW.2 J
    have n:=f x;rw[ay];have o:(N (names.filter λy=>!(x::a).contains y)+1)*(K+1)<=N (names.filter λy=>!a.contains y)*(K+1):=tu _ j;grind
end
end
def xU(Q:L S)(m:L S):Prop:=m.Nodup/\∀x∈m,x∈Q
def xU.len{Q m:L S}(h:xU Q m):N m<=N Q:=wM h.1 h.2
def xU.app{Q m:L S}{x:S}(h:xU Q m)(a:x∈Q)(g:m.contains x=false):xU Q (m++[x]):=by
 refine⟨?_,λy hy=>?_⟩
 .rw[rF];refine⟨h.1,J,λa a b a=>?_⟩;grind
 .rcases bA.1 hy with hy|hy
  .exact h.2 y hy
  grind
def qq(s:S):L Nd->Nat->Option Nat
 |[],_=>none
 |n::l,i=>if n.n=s then some i else qq s l (i+1)
mutual
def ny(h:L Nd):Tr->L Nat->L Nat
 |.mk op b _ _ a,k=>mf h a (if op=bK then(match qq b h 0 with|some i=>k.set i ((k.getD i 0+1)%18446744073709551616)|none=>k) else k)
def mf(h:L Nd):L Tr->L Nat->L Nat
 |[],k=>k
 |e::es,k=>mf h es (ny h e k)
end
def pG(h:L Nd):L aX->L Nat->L Nat
 |[],k=>k
 |q::l,k=>pG h l (ny h q.e k)
def oG:L Nat->L Nat->Nat->Nat
 |p::k,e::es,a=>oG k es (min (a+min p 1001*e) 1001)
 |_,_,a=>a
def pI(h:L Nd)(a:L Nat)(n:Nd):Nat:=oG (pG h n.r (List.replicate (N h) 0)) a (min (N n.r) 1001)
def jp:L Nd->L Nd->L Nat->L Nat
 |_,[],es=>es
 |h,n::l,es=>jp (h++[n]) l (es++[pI h es n])
def kT(l:L Nd):Nat:=if N l=0 then 0 else(jp [] l []).getD (N l-1) 0
def sJ:L Nd->L Nd->Bool
 |_,[]=>true
 |h,n::l=>((pG h n.r (List.replicate (N h) 0)).all λx=>Nat.ble x 1000000)&&sJ (h++[n]) l
def mo(n:Nd)(s:S):L S:=(aE n).filter λx=>(eS (jE n s)++(aF n s).map Prod.fst).contains x
section
def nA(a b:S):S:=(a.1+b.1,xg a.1 a.2 b.2)
def hZ:Nat->Nat->L Nat
 |0,_=>[]
 |f+1,n=>if n<10 then[48+n] else hZ f (n/10)++[48+n%10]
def oT(l:L Nat):S:=(N l,l.foldr (λb r=>b+256*r) 0)
def jo(k:Nat):S:=nA (oT (hZ 20 k)) (1,46)
structure aP where
 n:Nd
 ah:S
 p:S
 t:Bool
structure aa where
 p:Nat
 ao:List Vr
 r:List aX
def aW(x:aP)(s:S):S:=nA x.ah s
def fw(x:aP)(v:Vr):Vr:=if v.p=(0,0) then⟨aW x v.n,v.z,x.p,x.t,0⟩ else⟨aW x v.n,v.z,aW x v.p,v.t,0⟩
def fu(x:aP)(c:L aS):S×Bool:=match c.getLast? with
 |none=>(x.p,x.t)
 |some s=>(aW x s.1,s.2)
def tY(v:Vr)(a:aa):aa:={a with ao:=a.ao++[v]}
def mj(s:S)(e:Tr)(a:aa):aa:={a with r:=a.r++[⟨s,e,0⟩]}
def fH(l:L Nd)(s:S):Nd:=match l.find? λn=>decide (n.n=s) with
 |some n=>n
 |none=>⟨(0,0),[],[],[],[],0⟩
def fT(y:aP):L Vr->L Tr->aa->aa
 |[],_,a=>a
 |v::c,b,a=>fT y c (b.drop 1) (mj (aW y v.n) (b.headD E0) (tY (fw y v) a))
def jv(y:aP):L Vr->aa->aa
 |[],a=>a
 |v::b,a=>jv y b (tY (fw y v) a)
def rQ(G:aP->aa->aa)(l:L Nd)(x:aP)(d:Nat)(a:S)(c:L aS)(b:L Tr)(e:aa):Tr×aa:=
 let y:aP:=⟨fH l a,jo d,(fu x c).1,(fu x c).2⟩
 (.mk bR (aW y (((fH l a).o.map Vr.n).headD (0,0))) 0 0 [],G y (jv y ((fH l a).o++(fH l a).ao) (fT y (fH l a).ins b e)))
mutual
def cV(G:aP->aa->aa)(l:L Nd)(x:aP):Tm->aa->Tr×aa
 |.mk op d e _ c _ b,a=>
  if op=bK then rQ G l x (a.p+1) d c (bH G l x b {a with p:=a.p+1}).1 (bH G l x b {a with p:=a.p+1}).2
  else(.mk op (if d=(0,0) then(0,0) else aW x d) e 0 (bH G l x b a).1,(bH G l x b a).2)
def bH(G:aP->aa->aa)(l:L Nd)(x:aP):L Tm->aa->L Tr×aa
 |[],a=>([],a)
 |k::b,a=>((cV G l x k a).1::(bH G l x b (cV G l x k a).2).1,(bH G l x b (cV G l x k a).2).2)
end
def iH(G:aP->aa->aa)(l:L Nd)(x:aP):L aX->aa->aa
 |[],a=>a
 |q::b,a=>iH G l x b (mj (aW x q.n) (cV G l x (dr x.n q.n q.e) a).1 (cV G l x (dr x.n q.n q.e) a).2)
def gJ(l:L Nd):Nat->aP->aa->aa
 |0,_,a=>a
 |d+1,x,a=>iH (gJ l d) l x x.n.r a
def aD(l:L Nd):Nd:=(l.getLast?).getD ⟨(0,0),[],[],[],[],0⟩
def bN(l:L Nd):Nd:=
 let n:=aD l
 let a:=gJ l (N l) ⟨n,(0,0),(0,0),false⟩ ⟨0,n.ao,[]⟩
 {n with ao:=a.ao,r:=a.r}
end
end
section
variable {y:AV}{d e t:HN}{m:L (L AV)}{z:L AV}{c:L aS}{s:Nat}{n:Nd}
def qd(x y:BN):Prop:=y=x\/∃a,x=LL a/\y=.E true a
def tB(b a:HN):Prop:=b.h<=a.h/\∀c,c<b.h->qd (b.f c) (a.f c)
def qd.refl(x:BN):qd x x:=.inl R
def qd.M{x y z:BN}(h:qd x y)(g:qd y z):qd x z:=by
 rcases h with rfl|⟨r,rfl,rfl⟩
 .exact g
 .rcases g with rfl|⟨a,a,_⟩
  .exact .inr ⟨r,R,R⟩
  .cases a
def tB.of{U:HN}(x:ai U.h U e):tB U e:=⟨x.1,λc a=>.inl (x.2 c a)⟩
def qd.E{x y:BN}{c:Bool}{a:L AV}(h:qd x y)(e:x=.E c a):∃b,y=.E b a:=by
 rcases h with rfl|⟨r,rfl,rfl⟩
 .exact⟨c,e⟩
 .cases e;exact⟨true,R⟩
def aK.rel(h:aK s d y m)(c:tB d e):aK s e y m:=by
 rcases h with h|⟨b,off,cap,a,row,g,i,f,j⟩
 .exact .inl h
 .let⟨a,k⟩:=(c.2 b f).E i;exact .inr ⟨b,off,cap,a,row,g,k,cW f c.1,j⟩
mutual
def Mi{F:Nat->Prop}{d e:HN}(x:tB d e):∀(a:Tr) (z:L AV),bn F d a z->bn F e a z
 |.mk op b n a i,z,h=>by
  unfold bn at h|-;let⟨y,b,c,a,f,g⟩:=h;exact⟨y,b,c,a,f.rel x,Xi x i a g⟩
def Xi{F:Nat->Prop}{d e:HN}(x:tB d e):∀(a:L Tr) (b:L (L AV)),cw F d a b->cw F e a b
 |[],b,h=>by unfold cw at h|-;exact h
 |k::a,b,h=>by
  unfold cw at h|-;let⟨l,r,b,c,f⟩:=h;exact⟨l,r,b,Mi x k l c,Xi x a r f⟩
end
def Xp{F:Nat->Prop}{d e:HN}(x:tB d e):∀{b:L aX} {a:L (L AV)},mU F d b a->mU F e b a
 |[],_,h=>h
 |_::_,_,⟨l,r,a,⟨g,b,c⟩,f⟩=>⟨l,r,a,⟨g,b,Mi x _ _ c⟩,Xp x f⟩
def Xn{F:Nat->Prop}(x:tB d e)(h:dL F d n z):dL F e n z:=by
 let⟨l,m,o,p,i,j,a,b,c,k,f,g⟩:=h;exact⟨l,m,o,p,i,j,a.rel x,b.rel x,c.rel x,k,f.rel x,Xp x g⟩
def Xo{F:Nat->Prop}{d e:HN}(x:tB d e):∀{l:L Nd} {a:L (L AV)},fZ F d l a->fZ F e l a
 |[],_,h=>h
 |_::_,_,⟨l,r,a,b,c⟩=>⟨l,r,a,Xn x b,Xo x c⟩
def vcs(l:L Vr):L AV:=(l.map Vr.cells).flatten
def ajL(l:L Vr):N (vcs l)=N l*5:=by
 unfold vcs
 induction l with
 |nil=>rfl
 |cons v l a=>rw[iL,ir,ay,a,bt];show 5+_=_;omega
def NA(l:L Vr)(v:Vr):vcs (l++[v])=vcs l++v.cells:=by unfold vcs;rw[cM,nh];simp
def eM(x:BN):Prop:=x≠LL []/\∀(s:S) (b:Bool) (r:L AV),x≠LL (.s s.1 s.2::.l b::r)
def eM.gM{l:L AV}:eM (.gM l):=⟨(by intro h;cases h),λ_ _ _ h=>(by cases h)⟩
def eM.two{a b:AV}{r:L AV}(h:∀q,b≠.l q):eM (LL (a::b::r)):=⟨(by intro h;cases h),λs q c e=>by injection e with _ e;injection e with _ e;injection e with e _;exact h q e⟩
def eM.vcs{a:L Vr}(h:a≠[]):eM (LL (vcs a)):=by
 cases a with
 |nil=>exact absurd R h
 |cons v a=>exact eM.two (a:=sV v.n) (b:=II v.z) (r:=sV v.p::.l v.t::II v.a::YtehahhggpdhieaaGreatDoor.vcs a) λ_ h=>by cases h
def uQ(g:dS d y c)(h:∀b,b<d.h->e.f b=d.f b\/eM (d.f b))(a:d.h<=e.h):dS e y c:=by
 rcases g with g|⟨b,f,rfl,a⟩
 .exact .inl g
 .refine .inr ⟨b,Y,R,?_⟩;rcases h b f with h|h
  .exact h.t a
  .rw[a] at h;cases c with
   |nil=>exact absurd R h.1
   |cons t c=>exact absurd R (h.2 t.1 t.2 _)
mutual
def Bj{d e:HN}(o:∀y c,dS d y c->dS e y c)(B:d.h<=e.h):∀{t:Tm} {z:L AV} {g f:Nat},(∀b,g<=b->b<f->b<d.h->e.f b=d.f b)->dO g f d t z->dO g f e t z
 |.mk op F t a c any y,z,g,f,p,h=>by
  unfold dO at h|-;let⟨q,C,D,m,r,s,u,k,l⟩:=h;have a:m<=f:=by
   rcases l with⟨_,_,h⟩|⟨b,n,j,_⟩
   .exact h
   .omega
  refine⟨q,C,D,m,r,o _ _ s,u,Xy o B (λb a c c=>p b a Y c) k,?_⟩;rcases l with h|⟨b,n,j,v,w,x,i⟩
  .exact .inl h
  .exact .inr ⟨b,n,j,Y,w,x,(p b (om ((pQ k).2.2)) j v).t i⟩
def Xy{d e:HN}(g:∀y c,dS d y c->dS e y c)(j:d.h<=e.h):∀{f:L Tm} {h:L (L AV)} {c a:Nat},(∀b,c<=b->b<a->b<d.h->e.f b=d.f b)->eh c a d f h->eh c a e f h
 |[],_,_,_,_,h=>by unfold eh at h|-;exact h
 |k::f,_,c,a,i,h=>by
  unfold eh at h|-;let⟨l,r,m,a,c,f,k,n⟩:=h;exact⟨l,r,m,a,c,f,Bj g j (λb c f a=>i b c Y a) k,Xy g j (λb c f a=>i b Y f a) n⟩
end
def uH(d:Nat)(c:HN)(e:AV)(a:L Vr):Prop:=∃b,b<c.h/\
 ((e=.a b 0 0 (.k 0)/\a=[]/\b<d/\∃g f,c.f b=.E g f)\/(a≠[]/\((e=.a b 0 (N a) (.B 5)/\d<=b/\c.f b=LL (vcs a))\/
  (e=.a b 0 (N a) (.s 5)/\b<d/\c.f b=LL (vcs a))\/(e=.a b 0 (N a) (.s 5)/\d<=b/\c.f b=.gM (vcs a)))))
def uH.aR{g:Nat}{U:HN}{a:AV}{i:L Vr}(h:uH g U a i)(d:∀c,ar a c->e.f c=U.f c)(b:U.h<=e.h):uH g e a i:=by
 let⟨b,a,h⟩:=h;refine⟨b,Y,?_⟩;rcases h with⟨rfl,a,c,k,row,j⟩|⟨f,⟨rfl,a,c⟩|⟨rfl,a,c⟩|⟨rfl,a,c⟩⟩
 .exact .inl ⟨R,a,c,k,row,(d b R).t j⟩
 .exact .inr ⟨f,.inl ⟨R,a,(d b R).t c⟩⟩
 .exact .inr ⟨f,.inr (.inl ⟨R,a,(d b R).t c⟩)⟩
 .exact .inr ⟨f,.inr (.inr ⟨R,a,(d b R).t c⟩)⟩
def uH.lt{e:Nat}{b:AV}{f:L Vr}(h:uH e d b f){c:Nat}(a:ar b c):c<d.h:=by
 let⟨b,g,h⟩:=h;rcases h with⟨rfl,_⟩|⟨_,⟨rfl,_⟩|⟨rfl,_⟩|⟨rfl,_⟩⟩<;>(have a:b=c:=a;omega)
def aaX{m w:Nat}{e:AV}{g:L Vr}{v:Vr}(h:uH m d e g)(u:cD 5 d y 1 v.cells)(n:m<=d.h)(f:(N g+1)*w<=140737488355328):
  ∃b a,gj 5 w e y d=.ok b a/\uH m a b (g++[v])/\a.h=d.h+1/\ar b d.h/\(∃c i,b=.a d.h 0 c i)/\(∀c,c<d.h->¬ar e c->a.f c=d.f c)/\(∀c,c<d.h->c<m->qd (d.f c) (a.f c))/\(∀c,c<d.h->a.f c=d.f c\/eM (d.f c)):=by
 have j:g++[v]≠[]:=by simp
 obtain⟨q,a,k,b,b,rfl,p,b,s,o,t⟩:∃b e l r i,y=.a b e 1 l/\d.f b=.E r i/\b<d.h/\e+1*5<=N i/\N v.cells=1*5/\(i.drop e).take (1*5)=v.cells:=by
  rcases u with⟨h,_⟩|h
  .cases h
  .exact h
 have e:pq (d.f q) a (1*5)=some v.cells:=by
  rw[p,ui,ae s,t]
 have l:∀x,gj 5 w x (.a q a 1 k) d=lI 5 w x 1 v.cells d:=λx=>by
  rw[oR,ac (by omega),e];rfl
 rw[l];let⟨b,a,h⟩:=h;have a:=ajL g;have l:∀(y w:BN),eM (d.f b)->∀c,c<d.h->((d.put b y).X w).f c=d.f c\/eM (d.f c):=λy w k c a=>by
  by_cases e:c=b
  .rw[e];exact .inr k
  .exact .inl ((ac (by show¬c=d.h;omega)).t (ac e))
 rcases h with⟨rfl,rfl,k,r,i,k⟩|⟨p,⟨rfl,k,i⟩|⟨rfl,k,i⟩|⟨rfl,k,i⟩⟩
 .refine⟨.a d.h 0 1 (.B 5),d.X (LL v.cells),?_,⟨d.h,bJ _,.inr ⟨j,.inl ⟨R,n,?_⟩⟩⟩,R,R,⟨_,_,R⟩,λc a _=>ac Y,λc a _=>.inl (ac Y),λc a=>.inl (ac Y)⟩
  .rw[aaR,ae (by simpa using f),ac (by omega),EY (by omega),k,ui,ae (by omega),lq,gO,aaS];rfl
  .show(if d.h=d.h then _ else _)=_
   rw[ae R,dH];unfold vcs;simp
 .refine⟨.a d.h 0 (N g+1) (.B 5),(d.put b .none).X (LL (vcs g++v.cells)),?_,⟨d.h,bJ _,.inr ⟨j,.inl ⟨by rw[ay];rfl,n,?_⟩⟩⟩,R,R,⟨_,_,R⟩,λc a k=>(ac (by show¬c=d.h;omega)).t (ac λe=>k e.s),λc a k=>.inl ((ac (by show¬c=d.h;omega)).t (ac Y)),λc a=>l _ _ (by rw[i];first|exact eM.vcs p|exact eM.gM) c a⟩
  .rw[Pq,ae f,ac (by omega),ae R,i,I4,ac (by omega),ae ⟨by omega,o⟩,ng]
  .rw[NA];exact ae R
 .refine⟨.a d.h 0 (N g+1) (.s 5),(d.put b (.E true (vcs g))).X (.gM (vcs g++v.cells)),?_,⟨d.h,bJ _,.inr ⟨j,.inr (.inr ⟨by rw[ay];rfl,n,?_⟩)⟩⟩,R,R,⟨_,_,R⟩,λc a k=>(ac (by show¬c=d.h;omega)).t (ac λe=>k e.s),λc a k=>?_,λc a=>l _ _ (by rw[i];first|exact eM.vcs p|exact eM.gM) c a⟩
  .rw[Pp,ae f,ac (by omega),ae R,i,aaU,ae ⟨R,by omega,o⟩]
  .rw[NA];exact ae R
  .by_cases e:c=b
   .subst e;exact .inr ⟨_,i,(ac (by show¬c=d.h;omega)).t (ae R)⟩
   .exact .inl ((ac (by show¬c=d.h;omega)).t (ac e))
 .refine⟨.a d.h 0 (N g+1) (.s 5),(d.put b .none).X (.gM (vcs g++v.cells)),?_,⟨d.h,bJ _,.inr ⟨j,.inr (.inr ⟨by rw[ay];rfl,n,?_⟩)⟩⟩,R,R,⟨_,_,R⟩,λc a k=>(ac (by show¬c=d.h;omega)).t (ac λe=>k e.s),λc a k=>.inl ((ac (by show¬c=d.h;omega)).t (ac Y)),λc a=>l _ _ (by rw[i];first|exact eM.vcs p|exact eM.gM) c a⟩
  .rw[Pp,ae f,ac (by omega),ae R,i,aaV,ae ⟨R,by omega,o⟩]
  .rw[NA];exact ae R
def km(b:Nat)(a d:AV)(m c:Nat):Prop:=c<m/\c≠b/\¬ar a c/\¬ar d c
structure fK (U0:HN) (fb:Nat) (lv:AV) (n0:Nd) (iy oy:AV) (st:aa) (ly ey:AV) (F:Nat->Prop) (U:HN):Prop where
 D:U.f fb=LL [lv,.s n0.n.1 n0.n.2,iy,oy,ly,ey,II n0.a,II st.p]
 hL:U0.h<=fb
 I:fb<U.h
 loc:uH U0.h U ly st.ao
 own:∃ls,aH 7 U0.h U ey (N ls) ls.flatten/\mU F U st.r ls
 hF:∀c,F c->km fb ey ly U.h c
 en:ey=.e\/st.r≠[]
 fe:¬ar ey fb
 fl:¬ar ly fb
 ne:∀c,ar ey c->¬ar ly c
 ext:tB U0 U
structure cS (U0:HN) (fb:Nat) (U:HN) (ly ey:AV) (F:Nat->Prop) (U':HN) (ly' ey':AV) (F':Nat->Prop):Prop where
 h:U.h<=U'.h
 same:∀c,c<U.h->c≠fb->¬ar ey c->¬ar ly c->U'.f c=U.f c
 row:∀c,c<U.h->c<U0.h->qd (U.f c) (U'.f c)
 e:∀c,c<U.h->ar ey' c->ar ey c
 l:∀c,c<U.h->ar ly' c->ar ly c
 f:∀c,c<U.h->F' c->F c
 ck:∀c,c<U.h->U'.f c=U.f c\/eM (U.f c)
def cS.refl{c:Nat}{U:HN}{b a:AV}{F:Nat->Prop}:cS t c U b a F U b a F:=⟨ak _,λ_ _ _ _ _=>R,λ_ _ _=>.refl _,λ_ _ h=>h,λ_ _ h=>h,λ_ _ h=>h,λ_ _=>.inl R⟩
def cS.M{U0:HN}{fb:Nat}{U U' U'':HN}{ly ey ly' ey' ly'' ey'':AV}{F F' F'':Nat->Prop}(s:cS U0 fb U ly ey F U' ly' ey' F')(t:cS U0 fb U' ly' ey' F' U'' ly'' ey'' F''):cS U0 fb U ly ey F U'' ly'' ey'' F'' where
 h:=bC s.h t.h
 same:=λc h1 h2 h3 h4=>(t.same c (cW h1 s.h) h2 (λh=>h3 (s.e c h1 h)) (λh=>h4 (s.l c h1 h))).t (s.same c h1 h2 h3 h4)
 row:=λc h1 h2=>(s.row c h1 h2).M (t.row c (cW h1 s.h) h2)
 e:=λc h1 h=>s.e c h1 (t.e c (cW h1 s.h) h)
 l:=λc h1 h=>s.l c h1 (t.l c (cW h1 s.h) h)
 f:=λc h1 h=>s.f c h1 (t.f c (cW h1 s.h) h)
 ck:=λc h1=>by
  rcases s.ck c h1 with h|h
  .rcases t.ck c (cW h1 s.h) with g|g
   .exact .inl (g.t h)
   .rw[h] at g;exact .inr g
  .exact .inr h
def cS.ext{d:Nat}{U:HN}{b a:AV}{F:Nat->Prop}(x:ai U.h U e):cS t d U b a F e b a F:=⟨x.1,λc h _ _ _=>x.2 c h,λc h _=>.inl (x.2 c h),λ_ _ h=>h,λ_ _ h=>h,λ_ _ h=>h,λc h=>.inl (x.2 c h)⟩
def cS.fv{U0:HN}{fb:Nat}{U U' U'':HN}{ly ey ly' ey':AV}{F F':Nat->Prop}(s:cS U0 fb U ly ey F U' ly' ey' F')(h:∀c,c<U.h->U''.f c=U'.f c)(hn:U'.h<=U''.h):cS U0 fb U ly ey F U'' ly' ey' F' where
 h:=bC s.h hn
 same:=λc h1 h2 h3 h4=>(h c h1).t (s.same c h1 h2 h3 h4)
 row:=λc h1 h2=>by rw[h c h1];exact s.row c h1 h2
 e:=s.e
 l:=s.l
 f:=s.f
 ck:=λc h1=>by rw[h c h1];exact s.ck c h1
def fK.fv{f:Nat}{lv:AV}{i:Nd}{g j:AV}{st:aa}{b a:AV}{F:Nat->Prop}{U:HN}(h:fK t f lv i g j st b a F U)(k:∀c,c<U.h->(c<t.h\/c=f\/ar a c\/ar b c\/F c)->e.f c=U.f c)(d:U.h<=e.h):fK t f lv i g j st b a F e:=by
 let⟨b,o,r⟩:=h.own;refine⟨(k _ h.I (.inr (.inl R))).t h.D,h.hL,cW h.I d,h.loc.aR (λc a=>k c (h.loc.lt a) (.inr (.inr (.inr (.inl a))))) d,⟨b,?_,pp (λb q l=>k b l (.inr (.inr (.inr (.inr q))))) d (λ_ q=>q) r⟩,λc q=>⟨cW (h.hF c q).1 d,(h.hF c q).2⟩,h.en,h.fe,h.fl,h.ne,⟨bC h.ext.1 d,λc a=>?_⟩⟩
 .obtain⟨b,q|⟨c,l,q2,d⟩⟩:=o
  .exact⟨b,.inl q⟩
  .refine⟨b,.inr ⟨c,l,Y,?_⟩⟩;have b:=k c q2 (.inr (.inr (.inl (by rcases d with⟨rfl,_⟩|⟨rfl,_⟩<;>rfl))));rw[b];exact d
 .rw[k c (cW a h.ext.1) (.inl a)];exact h.ext.2 c a
def fK.X{b:Nat}{lv:AV}{f:Nd}{d g:AV}{st:aa}{c a:AV}{F:Nat->Prop}{U:HN}(h:fK t b lv f d g st c a F U)(x:ai U.h U e):fK t b lv f d g st c a F e:=h.fv (λc a _=>x.2 c a) x.1
def km.step{fb:Nat}{U:HN}{f d b a:AV}{F g:Nat->Prop}(s:cS t fb U f d F e b a g){c:Nat}(q:km fb d f U.h c):km fb a b e.h c:=⟨cW q.1 s.h,q.2.1,λh=>q.2.2.1 (s.e c q.1 h),λh=>q.2.2.2 (s.l c q.1 h)⟩
def km.same{g:Nat}{h f b a:AV}{F i:Nat->Prop}(s:cS t g d h f F e b a i){c:Nat}(q:km g f h d.h c):e.f c=d.f c:=s.same c q.1 q.2.1 q.2.2.1 q.2.2.2
def fK.fresh{f:Nat}{lv:AV}{i:Nd}{g j:AV}{k:aa}{b a:AV}{F:Nat->Prop}(h:fK t f lv i g j k b a F d){c m:Nat}(e:d.h<=c)(e:c<m):km f a b m c/\¬F c:=by
 let⟨a,o,r⟩:=h.own;refine⟨⟨e,λe=>om h.I,λa=>?_,λa=>om (h.loc.lt a)⟩,λa=>om ((h.hF c a).1)⟩;obtain⟨_,q|⟨b,e,q2,e⟩⟩:=o
 .rw[q.1] at a;exact a
 .rcases e with⟨rfl,_⟩|⟨rfl,_⟩<;>(have a:b=c:=a;omega)
def ahO{h:Nat}{i g b a:AV}{F c G:Nat->Prop}(s:cS t h d i g F e b a c)(a:∀c,G c->km h g i d.h c){f:Tr}(r:bn G d f z):bn G e f z:=
 gq (λb q c=>(a b q).same s) s.h (λ_ q=>q) _ _ r
def Mk{h:Nat}{i g b a:AV}{F c G:Nat->Prop}(s:cS t h d i g F e b a c)(a:∀c,G c->km h g i d.h c){f:L aX}{z:L (L AV)}(r:mU G d f z):mU G e f z:=
 pp (λb q c=>(a b q).same s) s.h (λ_ q=>q) r
def vX(f:Nat)(e g:AV)(b:HN)(t:Tm)(z:L AV):Prop:=∃d a,dO d a b t z/\a<=b.h/\∀c,d<=c->c<a->km f e g b.h c
def vX.step{i:HN}{fb:Nat}{U:HN}{d c b a:AV}{F f:Nat->Prop}(s:cS i fb U d c F e b a f){t:Tm}(r:vX fb c d U t z):vX fb a b e t z:=by
 let⟨b,a,c,d,h⟩:=r
 have:=s.h
 refine⟨b,a,Bj (λ_ _ g=>uQ g s.ck s.h) s.h (λb a d j=>?_) c,Y,λc a d=>?_⟩
 .let⟨_,f,q2,g⟩:=h b a d;exact s.same b j f q2 g
 .let⟨b,f,q2,g⟩:=h c a d;exact⟨Y,f,λh=>q2 (s.e c b h),λh=>g (s.l c b h)⟩
def fK.lA{g:Nat}{lv:AV}{m:Nd}{k n:AV}{f:aa}{a b:AV}{F:Nat->Prop}(h:fK t g lv m k n f a b F d){c:Nat}(a:ar b c):eM (d.f c):=by
 let⟨b,o,r⟩:=h.own;rcases h.en with rfl|hne
 .exact a.elim
 .cases b:f.r with
  |nil=>exact absurd b hne
  |cons q e=>
   rw[b] at r;obtain⟨l,b,rfl,⟨b,rfl,b⟩,_⟩:=r;obtain⟨e,i,i,i,i,rfl⟩:=cJ b;let⟨_,o⟩:=o;rcases o with⟨rfl,_⟩|⟨b,_,_,⟨rfl,i,_⟩|⟨rfl,j⟩⟩
   .exact a.elim
   .cases i
   .have a:b=c:=a;subst a;rw[j];exact eM.two (a:=sV q.n) (b:=.s e.1 e.2) λ_ h=>by cases h
end
end Go.Proofs.YtehahhggpdhieaaGreatDoor
