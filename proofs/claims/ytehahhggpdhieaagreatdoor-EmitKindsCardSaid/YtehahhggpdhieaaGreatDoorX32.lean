/- Lemmas of the walk of EmitKinds are proved. Conditions: none. -/
import Derived.Test.YtehahhggpdhieaaGreatDoorX31
namespace Go.Proofs.YtehahhggpdhieaaGreatDoor
set_option maxRecDepth 100000
set_option maxHeartbeats 32000000
set_option linter.all false
section
section
def CZ(s:S):Prop:=s≠(0,0)/\LK s/\s.1<=24
def qc(L:List Wd):Prop:=∀w∈L,w.k=1->CZ w.t
def ace(c:UInt8)(r:By):aY (c::r)%256=c.toNat:=by
 have h:=c.toNat_lt
 show(c.toNat+256*aY r)%256=c.toNat
 omega
def ajU{c:UInt8}{r:By}{n v:Nat}(h:nf (c::r)=some (1,n,v)):CZ (sS ((c::r).take n)):=by
 have l:=(Eg h).1;have f:=(Eg h).2.1;unfold nf at h;dsimp only at h;split at h
 .rename_i b;split at h
  .rename_i k;injection h with h
   injection h with i a
   injection a with a j
   subst a;have b:=eL b;obtain⟨m,g⟩:∃m,fP mS (c::r)=m+1:=⟨fP mS (c::r)-1,Y⟩;rw[g,rG];refine⟨λe=>?_,?_,?_⟩
   .injection e with d _
    simp at d
   .right;show 57<aY (c::r.take m)%256;rw[ace];omega
   .show(c::r.take m).length<=24
    grind
  .cases h
 grind
def Fw:∀(f a:Nat) (r:By) (l:List Wd),qc l->qc (gQ f a r l).1
 |0,a,r,l,h=>by
  unfold gQ;intro w hw b;rcases bA.1 hw with hw|hw
  .exact h w hw b
  .rw[dM.1 hw] at b;exact absurd b (by show¬(0:Nat)=1;decide)
 |f+1,a,[],l,h=>by
  unfold gQ;intro w hw b;rcases bA.1 hw with hw|hw
  .exact h w hw b
  .rw[dM.1 hw] at b;exact absurd b (by show¬(0:Nat)=1;decide)
 |f+1,a,c::r,l,h=>by
  unfold gQ;split
  .exact Fw f _ _ l h
  .split
   .exact Fw f _ _ l h
   .cases e:nf (c::r) with
    |none=>exact λw hw=>by cases hw
    |some t=>
     let⟨k,n,v⟩:=t;dsimp only;refine Fw f _ _ _ λw hw b=>?_;rcases bA.1 hw with hw|hw
     .exact h w hw b
     .have hw:=dM.1 hw;subst hw;have b:k=1:=b;subst b;exact ajU e
def acw(t:By):qc (ix t).1:=by
 unfold ix;split
 .exact λw a=>by cases a
 .exact Fw _ _ _ _ λw a=>by cases a
variable {L:List Wd}{p:PS}
def RE{a:Nat}:(iQ L a p).x=p.x:=by unfold iQ;split<;>rfl
def aja{s:S}:(fJ L s p).x=p.x:=by unfold fJ;split<;>rfl
def uy{s:S}:(aV L s p).x=p.x:=by
 unfold aV;split
 .rfl
 .exact RE
def TZ:(aG L p).2.x=p.x:=by
 unfold aG;split
 .rfl
 .exact RE
def afW(g:qc L)(h:(aG L p).2.e=0):(wd L p).k=1/\CZ (aG L p).1:=by
 by_cases q:p.e=0/\(wd L p).k=1
 .refine⟨q.2,?_⟩;have e:(aG L p).1=(wd L p).t:=by unfold aG;rw[ae q]
  rw[e];have a:wd L p∈L:=by
   unfold wd;rw[cA];by_cases b:p.k<L.length
   .grind
   .exfalso
    have:=q.2
    unfold wd at this;grind
  exact g _ a q.2
 .unfold aG at h;rw[ac q] at h;exact absurd h (tR dc)
def Dc(q:Nat)(a:List Vr)(p:PS):Prop:=(∀v∈a,CZ v.n)/\a.length+q<=p.x/\p.x<=64
def Dc.app{q:Nat}{b c:List Vr}{p a:PS}(h:Dc q b p)(g:Dc p.x c a):Dc q (b++c) a:=by
 refine⟨λv c=>(bA.1 c).elim (h.1 v) (g.1 v),?_,g.2.2⟩
 have:=h.2.1
 have:=g.2.1
 grind
def Dc.st{q:Nat}{b:List Vr}{p a:PS}(h:Dc q b p)(e:a.x=p.x):Dc q b a:=⟨h.1,by rw[e];exact h.2.1,by rw[e];exact h.2.2⟩
def JG(g:qc L):∀(n:Nat) (l:List Vr) (p:PS) (q:Nat),Dc q l p->(iz L n l p).2.e=0->p.e=0/\(iz L n l p).1.2=true/\Dc q (iz L n l p).1.1 (iz L n l p).2
 |0,l,p,q,h,a=>⟨a,rfl,h⟩
 |n+1,l,p,q,h,a=>by
  unfold iz at a|-;by_cases b:p.e=0
  .rw[ae b] at a|-;by_cases b:(wd L p).k=1/\p.x=64
   .rw[ae b] at a;exact absurd a (tR dc)
   .rw[ac b] at a|-;have c:(aG L p).2.e=0->Dc q (l++[⟨(aG L p).1,0,(0,0),false,(wd L p).a⟩]) {(aG L p).2 with x:=(p.x+1)%18446744073709551616}:=λb=>by
     obtain A:=afW g b
     have:=h.2.2
     have d:p.x<64:=by
      refine Y
     have d:(p.x+1)%18446744073709551616=p.x+1:=Y;refine⟨λv hv=>?_,?_,J⟩
     .rcases bA.1 hv with hv|hv
      .exact h.1 v hv
      grind
     .show _<=(p.x+1)%18446744073709551616
      have:=h.2.1
      grind
    by_cases b:aN L pR (aG L p).2=true
    .rw[ae b] at a|-;obtain A:=JG g n _ (bm {(aG L p).2 with x:=(p.x+1)%18446744073709551616}) q ((c (eL b).1).st rfl) a;grind
    grind
  grind
def FA(g:qc L)(p:PS)(b:p.x<=64)(a:(cH L p).2.e=0):p.e=0/\Dc p.x (cH L p).1 (cH L p).2:=by
 unfold cH at a|-;dsimp only at a|-;have d:Dc p.x [] p:=⟨λ_ h=>(by cases h),by show 0+p.x<=p.x;omega,b⟩;by_cases q:(iz L L.length [] p).1.2=true
 .rw[ae q] at a|-;dsimp only at a|-;have c:(aV L uj (iz L L.length [] p).2).e=0:=by
   split at a
   .exact a
   .exact jM a
  let⟨b,_,e⟩:=JG g _ _ _ p.x d (jM c);have c:=e.st (a:=aV L uj (iz L L.length [] p).2) uy;refine⟨b,?_⟩;have b:∀k,Dc p.x ((iz L L.length [] p).1.1.map λv=>{v with z:=k}) (aV L uj (iz L L.length [] p).2):=λk=>⟨λv e=>by
   obtain⟨u,hu,rfl⟩:=cN.1 e;exact c.1 u hu,by rw[aC];exact c.2.1,c.2.2⟩
  refine(b _).st ?_;split
  .rfl
  .exact uy
 .rw[ac q] at a;exact absurd (JG g _ _ _ p.x d a).2.1 q
def QS(g:qc L):∀(n:Nat) (l:List Vr) (p:PS) (q:Nat),(p.e=0->Dc q l p)->(mg L n l p).2.e=0->p.e=0/\Dc q (mg L n l p).1 (mg L n l p).2
 |0,l,p,q,h,a=>⟨a,h a⟩
 |n+1,l,p,q,h,a=>by
  unfold mg at a|-;by_cases b:aN L iW p=true
  .rw[ae b] at a|-;have c:=(eL b).1;have d:=h c;obtain A:=QS g n _ _ q (λb=>d.app (FA g (bm p) d.2.2 b).2) a;grind
  grind
def QP(g:qc L)(p:PS)(b:p.x<=64)(a:(kU L p).2.e=0):p.e=0/\Dc p.x (kU L p).1 (kU L p).2:=by
 unfold kU at a|-;by_cases q:aN L gW p=true
 .rw[ae q] at a|-;exact⟨a,J,J,b⟩
 .rw[ac q] at a|-;let⟨c,d⟩:=QS g _ _ _ p.x (λe=>(FA g p b e).2) a;exact⟨(FA g p b c).1,d⟩
def ab2{q:Nat}{d:List Vr×PS}(h:d.2.e=0->Dc q d.1 d.2)(a:(is L d).2.e=0):d.2.e=0/\Dc q (is L d).1 (is L d).2:=by
 unfold is at a|-;by_cases b:aN L bB d.2=true
 .rw[ae b] at a|-;have e:=(eL b).1;let⟨a,b,c⟩:=h e;refine⟨e,?_⟩;have e:(aG L (fJ L fB (bm d.2))).2.x=d.2.x:=by rw[TZ,aja];rfl
  refine Dc.st ⟨λv d=>?_,by rw[aC];exact b,c⟩ e;obtain⟨u,hu,rfl⟩:=cN.1 d;exact a u hu
 grind
def Tw(g:qc L):∀(n:Nat) (l:List Vr) (p:PS) (q:Nat),(p.e=0->Dc q l p)->(nE L n l p).2.e=0->p.e=0/\Dc q (nE L n l p).1 (nE L n l p).2
 |0,l,p,q,h,a=>⟨a,h a⟩
 |n+1,l,p,q,h,a=>by
  unfold nE at a|-;dsimp only at a|-;by_cases b:p.e=0
  .rw[ae b] at a|-;have d:=h b;have b:(is L (cH L p)).2.e=0->Dc q (l++(is L (cH L p)).1) (is L (cH L p)).2:=λb=>d.app (ab2 (λc=>(FA g p d.2.2 c).2) b).2;by_cases b:aN L iW (is L (cH L p)).2=true/\(wd L (bm (is L (cH L p)).2)).k=1
   .rw[ae b] at a|-;obtain A:=Tw g n _ (bm (is L (cH L p)).2) q A a;grind
   grind
  grind
def ajI(g:qc L)(p:PS)(c:p.x<=64)(a:(jj L p).2.e=0):p.e=0/\Dc p.x (jj L p).1 (jj L p).2:=by
 unfold jj at a|-;by_cases q:aN L bR p=true
 .rw[ae q] at a|-;have e:=(eL q).1;have b:=jM a;refine⟨e,Dc.st ?_ uy⟩;unfold sO at b|-;have d:Dc p.x [] (bm p):=⟨J,by show 0+p.x<=p.x;omega,c⟩;split
  .exact d
  .rename_i q2;rw[ac q2] at b;exact(Tw g _ _ _ p.x J b).2
 .rw[ac q] at a|-;exact⟨a,J,J,c⟩
def vT(n:Nd):Prop:=(∀v∈am n,CZ v.n)/\(am n).length<=64
def adp:∀(n:Nat) (l:List aX) (q:PS),(iG L n l q).2.e=0->q.e=0
 |0,_,_,h=>h
 |n+1,l,q,h=>by
  unfold iG at h;grind
def acN:∀(n:Nat) (l:List Vr) (q:PS),(mg L n l q).2.e=0->q.e=0
 |0,_,_,h=>h
 |n+1,l,q,h=>by
  unfold mg at h;split at h
  .rename_i a;exact(eL a).1
  .exact h
def acJ:∀(n:Nat) (l:List Vr) (q:PS),(iz L n l q).2.e=0->q.e=0
 |0,_,_,h=>h
 |n+1,l,q,h=>by
  unfold iz at h;grind
def acH(q:PS)(h:(cH L q).2.e=0):q.e=0:=by
 unfold cH at h;dsimp only at h;refine acJ (L:=L) L.length [] q ?_;split at h
 .split at h
  .exact jM h
  .exact jM (jM h)
 .exact h
def acM(q:PS)(h:(kU L q).2.e=0):q.e=0:=by
 unfold kU at h;split at h
 .exact h
 .exact acH q (acN _ _ _ h)
def aer(g:qc L)(b:PS)(f:b.x=0){I a:List Vr×PS}(d:kU L b=I)(e:kU L (aV L iV (aV L tc (aV L gW I.2)))=a)(c:a.2.e=0):Dc 0 (I.1++a.1) a.2:=by
 have c:(aV L iV (aV L tc (aV L gW I.2))).e=0:=acM (L:=L) _ J;have h:I.2.e=0:=jM (jM (jM c));have c:=(QP g b Y J).2;rw[d,f] at c;have d:(aV L iV (aV L tc (aV L gW I.2))).x=I.2.x:=by rw[uy,uy,uy]
 have b:=(QP g (aV L iV (aV L tc (aV L gW I.2))) (by rw[d];exact c.2.2) J).2;rw[e,d] at b;exact c.app b
def aeo(g:qc L)(p:PS)(a:(dJ L p).2.e=0):Dc 0 ((dJ L p).1.2.1++(dJ L p).1.2.2) (dJ L p).2:=by
 unfold dJ at a|-;dsimp only at a|-;have d:(aV L iV (aG L (aV L uo {p with x:=0})).2).x=0:=by rw[uy,TZ,uy]
 generalize b:kU L (aV L iV (aG L (aV L uo {p with x:=0})).2)=I at*;generalize c:kU L (aV L iV (aV L tc (aV L gW I.2)))=e at*;have h:=aer g _ d b c (jM (jM a));exact h.st (by rw[uy,uy])
def agp(g:qc L)(p:PS)(c:(jg L p).2.e=0):vT (jg L p).1:=by
 rw[LN] at c;have a:=jM (adp _ _ _ (jM (D7 c)));clear c;have h:(dJ L p).2.e=0:=by
  unfold jj at a;split at a
  .rename_i q;exact(eL q).1
  .exact a
 have d:=aeo g p h;rw[GN];generalize dJ L p=e at*;have f:=(ajI g e.2 d.2.2 a).2;have b:=d.app f;unfold vT am;dsimp only;rw[<-dC];exact⟨b.1,by have:=b.2.1;have:=b.2.2;omega⟩
def Uz(g:qc L):∀(n:Nat) (l:List Nd) (p:PS),(p.e=0->∀d∈l,vT d)->(fV L n l p).2.e=0->∀d∈(fV L n l p).1,vT d
 |0,l,p,h,a=>h a
 |n+1,l,p,h,a=>by
  unfold fV at a|-;by_cases q:p.e=0/\(l.length=0\/(wd L p).k≠0)
  .rw[ae q] at a|-;by_cases q2:l.length=32
   .grind
   .rw[ac q2] at a|-;refine Uz g n _ _ (λc x b=>(bA.1 b).elim J λb=>?_) a;rw[dM.1 b];exact agp g p c
  grind
def ag8(t:By):∀n∈(ch t).1,vT n:=by
 unfold ch;split
 .unfold tn;dsimp only;split
  .rename_i a;exact Uz (acw t) 34 [] ⟨0,0,0,0,0⟩ J a
  grind
 grind
end
end
section
variable {c:L aS}{a b k:Nat}
section
def C3(y:aP):∀(b:L Vr) (c:L Tr) (a:aa),(fT y b c a).p=a.p
 |[],_,_=>rfl
 |v::b,c,a=>by unfold fT;rw[C3 y b];rfl
def Db(y:aP):∀(b:L Vr) (a:aa),(jv y b a).p=a.p
 |[],_=>rfl
 |v::b,a=>by unfold jv;rw[Db y b];rfl
section
variable {G:aP->aa->aa}{l:L Nd}{x:aP}
mutual
def Rq(d:∀y b,b.p<=(G y b).p):∀(t:Tm) (b:aa),b.p<=(cV G l x t b).2.p
 |.mk op g f a c any e,b=>by
  unfold cV;split
  .refine bC ?_ (d _ _);rw[Db,C3];exact bC (iC _) (CJ d e {b with p:=b.p+1})
  .exact CJ d e b
def CJ(c:∀y a,a.p<=(G y a).p):∀(b:L Tm) (a:aa),a.p<=(bH G l x b a).2.p
 |[],a=>by unfold bH;grind
 |k::b,a=>by
  unfold bH;exact bC (Rq c k a) (CJ c b _)
end
def JU(c:∀y a,a.p<=(G y a).p):∀(b:L aX) (a:aa),a.p<=(iH G l x b a).p
 |[],a=>by unfold iH;omega
 |q::b,a=>by
  unfold iH;exact bC (Rq c _ a) (JU c b (mj _ _ _))
end
def Md(l:L Nd):∀(d:Nat) (x:aP) (a:aa),a.p<=(gJ l d x a).p
 |0,_,a=>by unfold gJ;omega
 |d+1,x,a=>by unfold gJ;exact JU (Md l d) _ a
def wR(a b:Nat)(s:S):Prop:=∃k r,s=nA (jo k) r/\a<k/\k<=b
def uT(D:L Vr)(s:S):Prop:=∃w∈D,w.n=s
def tU:L Vr->L Vr->Prop
 |_,[]=>True
 |pre,v::r=>(v.p=(0,0)\/uT pre v.p)/\tU (pre++[v]) r
def uT.app{D E:L Vr}{s:S}(h:uT D s):uT (D++E) s:=by
 let⟨w,a,b⟩:=h;exact⟨w,oJ _ a,b⟩
def CX:∀{a b c:L Vr},tU c a->tU (c++a) b->tU c (a++b)
 |[],b,c,_,h=>J
 |v::a,b,c,h,g=>by
  refine⟨h.1,CX h.2 ?_⟩;grind
def Se:∀{l a:L Vr},tU a l->((a++l).map Vr.n).Nodup->kB a l
 |[],_,_,_=>trivial
 |v::r,a,h,b=>by
  have e:a++v::r=(a++[v])++r:=by rw[dC];rfl
  refine⟨⟨h.1,λw a g=>?_⟩,Se h.2 J⟩;grind
def KT:∀{l a:L Vr},kB a l->tU a l
 |[],_,_=>trivial
 |_::_,_,h=>⟨h.1.1,KT h.2⟩
def Gw(D:L Vr)(b st':aa)(d:L S):Prop:=∃a c,st'.ao=b.ao++a/\st'.r=b.r++c/\b.p<=st'.p/\(a.map Vr.n).Nodup/\(∀v∈a,wR b.p st'.p v.n)/\(c.map aX.n).Perm (a.map Vr.n++d)/\tU (D++b.ao) a/\∀v∈a,cP v.z
def Gw.refl(D:L Vr)(a:aa):Gw D a a []:=⟨[],[],by simp,by simp,Y,J,J,J,trivial,J⟩
def wR.mono{c d:Nat}{s:S}(h:wR a b s)(e:c<=a)(e:b<=d):wR c d s:=by
 let⟨k,r,c,_,d⟩:=h;exact⟨k,r,c,Y,Y⟩
def GS{c d:Nat}{s e:S}(h:wR a b s)(g:wR c d e)(f:b<=c)(f:d<10^20):s≠e:=by
 obtain⟨k,r,rfl,d,d⟩:=h;obtain⟨d,d,rfl,d,d⟩:=g;intro e
 have:=(Pe Y Y e).1
 omega
def Gw.M{D:L Vr}{a b c:aa}{e d:L S}(h:Gw D a b e)(g:Gw D b c d)(C:c.p<10^20):Gw D a c (e++d):=by
 let⟨o,n,k,u,y,w,m,d,z,B⟩:=h;let⟨e,d,p,q,r,s,f,_,j,t⟩:=g;refine⟨o++e,n++d,by rw[p,k,dC],by rw[q,u,dC],Y,?_,λv hv=>?_,?_,?_,λv hv=>(bA.1 hv).elim (B v) (t v)⟩
 .rw[cM];refine rF.2 ⟨w,s,λs e d d=>?_⟩;obtain⟨v,hv,rfl⟩:=cN.1 e;obtain⟨w,e,rfl⟩:=cN.1 d;exact GS (m v hv) (f w e) (ak _) C
 .rcases bA.1 hv with hv|hv
  .exact(m v hv).mono Y r
  .exact(f v hv).mono y Y
 .grind
 .rw[k,<-dC] at j;exact CX z j
def Gw.perm{D:L Vr}{a b:aa}{d c:L S}(h:Gw D a b d)(p:d.Perm c):Gw D a b c:=by
 let⟨d,c,e,f,g,j,k,m,n,o⟩:=h;exact⟨d,c,e,f,g,j,k,m.trans (NR _ p),n,o⟩
def Gw.ao{D:L Vr}{a b:aa}{c:L S}(h:Gw D a b c):∃c,b.ao=a.ao++c:=by
 obtain⟨c,d,d,-⟩:=h;exact⟨c,d⟩
def Gw.Au{D:L Vr}(a:aa)(s:S)(e:Tr):Gw D a (mj s e a) [s]:=⟨[],[⟨s,e,0⟩],by simp[mj],R,ak _,J,J,J,trivial,J⟩
structure rJ (D:List Vr) (st:aa) (x:aP):Prop where
 all:∀v∈am x.n,uT (D++st.ao) (aW x v.n)
 p:x.p=(0,0)\/uT (D++st.ao) x.p
def rJ.mono{D:L Vr}{st st':aa}{x:aP}(h:rJ D st x)(g:∃a,st'.ao=st.ao++a):rJ D st' x:=by
 let⟨a,e⟩:=g;refine⟨λv a=>?_,h.p.imp id λg=>?_⟩
 .rw[e,<-dC];exact(h.all v a).app
 .rw[e,<-dC];exact g.app
structure sC (l:List Nd) (i:Nat) (n:Nd):Prop where
 at_:l[i]?=some n
 P:((am n).map Vr.n).Nodup
 own:(n.r.map aX.n).Perm (aE n)
 hu:kB [] (am n)
 ib:∀v∈n.ins,tG v
 ob:∀v∈n.o,tG v
 z:∀v∈am n,cP v.z
 ne:n.o≠[]
 T:∀q∈n.r,dF (l.take i) n q.e
 ck:∀q∈n.r,lJ n (dr n q.n q.e)
 wh:∀q∈n.r,bw (dr n q.n q.e)=q.e
def Cb(l:L Nd):Prop:=∀(i:Nat) (n:Nd),l[i]?=some n->sC l i n
def callee{l:L Nd}{i m:Nat}{a:S}(h:iP (l.take i) a m=true):∃j,j<i/\l[j]?=some (fH l a)/\N (fH l a).o=1/\N (fH l a).ins=m:=by
 unfold iP at h;cases f:(l.take i).find? (λn=>decide (n.n=a)) with
 |none=>grind
 |some d=>
  rw[f] at h;have h:=eL h;have e:l.find? (λn=>decide (n.n=a))=some d:=by
   have:=F0 (l:=l.take i) (r:=l.drop i) (P:=λn:Nd=>decide (n.n=a)) (by rw[f];rfl)
   rw[mH] at this;exact J
  have c:fH l a=d:=by unfold fH;rw[e]
  let⟨j,d,b⟩:=gB (pY f);rw[dW] at d;rw[Eo] at b;rw[c];exact⟨j,Y,J,h⟩
def TM{k:Nat}(a:k<10^20):∀{l:L S},l.Nodup->(l.map (nA (jo k))).Nodup
 |[],_=>A
 |s::l,h=>by
  let⟨c,b⟩:=BT.1 h;rw[iL];refine BT.2 ⟨λg=>?_,TM a b⟩;let⟨r,b,e⟩:=cN.1 g;rw[(Pe a a e).2] at b;exact c b
def Dx(y:aP)(v:Vr):(fw y v).n=aW y v.n:=by unfold fw;split<;>rfl
def UT(y:aP)(v:Vr):(fw y v).z=v.z:=by unfold fw;split<;>rfl
def AJ(y:aP):∀(c:L Vr) (b:L Tr) (a:aa),(fT y c b a).ao=a.ao++c.map (fw y)/\∃d,(fT y c b a).r=a.r++d/\d.map aX.n=c.map λv=>aW y v.n
 |[],b,a=>⟨by unfold fT;simp,[],by unfold fT;simp,R⟩
 |v::c,b,a=>by
  unfold fT;let⟨e,d,f,g⟩:=AJ y c (b.drop 1) (mj (aW y v.n) (b.headD E0) (tY (fw y v) a));refine⟨by rw[e,iL];show(a.ao++[fw y v])++_=_;grind,_::d,by rw[f];show(a.r++[_])++_=_;rw[dC];rfl,by rw[iL,iL,g]⟩
def AR(y:aP):∀(b:L Vr) (a:aa),(jv y b a).ao=a.ao++b.map (fw y)/\(jv y b a).r=a.r
 |[],a=>⟨by unfold jv;simp,R⟩
 |v::b,a=>by
  unfold jv;let⟨c,d⟩:=AR y b (tY (fw y v) a);exact⟨by rw[c,iL];show(a.ao++[fw y v])++_=_;grind,d⟩
def Sf{y:aP}{E:L Vr}(b:y.p=(0,0)\/uT E y.p):∀(l a:L Vr),tU a l->tU (E++a.map (fw y)) (l.map (fw y))
 |[],_,_=>trivial
 |v::r,a,h=>by
  refine⟨?_,?_⟩
  .unfold fw;split
   .exact b.imp id λg=>g.app
   .rename_i q;refine .inr ?_;let⟨w,c,d⟩:=h.1.resolve_left q;exact⟨fw y w,jl _ (ni c),by rw[Dx,d]⟩
  .have:=Sf b r (a++[v]) h.2
   grind
def abv{l:L Nd}{D:L Vr}{j:Nat}{y:aP}{a:aa}{c:L Tr}(h:sC l j y.n)(g:y.ah=jo k)(n:k<10^20)(b:k<=a.p)(e:y.p=(0,0)\/uT (D++a.ao) y.p):∃b f,(jv y (y.n.o++y.n.ao) (fT y y.n.ins c a)).ao=a.ao++b/\(jv y (y.n.o++y.n.ao) (fT y y.n.ins c a)).r=a.r++f/\(b.map Vr.n).Nodup/\(∀v∈b,∃r,v.n=nA (jo k) r)/\b.map Vr.n=f.map aX.n++(aE y.n).map (aW y)/\tU (D++a.ao) b/\(∀v∈b,cP v.z)/\rJ D (jv y (y.n.o++y.n.ao) (fT y y.n.ins c a)) y:=by
 let⟨d,f,b,m⟩:=AJ y y.n.ins c a;let⟨b,o⟩:=AR y (y.n.o++y.n.ao) (fT y y.n.ins c a);rw[d,dC,<-cM] at b;have b:(jv y (y.n.o++y.n.ao) (fT y y.n.ins c a)).ao=a.ao++(am y.n).map (fw y):=b;have d:((am y.n).map (fw y)).map Vr.n=((am y.n).map Vr.n).map (nA (jo k)):=by
  rw[zQ,zQ];refine ZX λv _=>?_
  show(fw y v).n=nA (jo k) v.n
  rw[Dx,<-g];rfl
 refine⟨(am y.n).map (fw y),f,b,J,?_,λv f=>?_,?_,?_,λv f=>?_,?_,?_⟩
 .rw[d];exact TM n h.P
 .obtain⟨w,_,rfl⟩:=cN.1 f;exact⟨w.n,by rw[Dx,<-g];rfl⟩
 .rw[d,m];unfold am aE;rw[cM,cM,zQ,zQ,zQ,<-g]
  rfl
 .have:=Sf (E:=D++a.ao) e _ [] (KT h.hu)
  grind
 .obtain⟨w,d,rfl⟩:=cN.1 f;rw[UT];exact h.z w d
 .intro v f;refine⟨fw y v,jl _ ?_,Dx y v⟩;rw[b];exact jl _ (ni f)
 .rw[b,<-dC];exact e.imp id λg=>g.app
section
variable {G:aP->aa->aa}{l:L Nd}{x:aP}{D:L Vr}{i:Nat}
def B9(l:L Nd)(D:L Vr)(i:Nat)(G:aP->aa->aa):Prop:=(∀y a,a.p<=(G y a).p)/\∀j y a,j<i->sC l j y.n->rJ D a y->(G y a).p<10^20->Gw D a (G y a) ((aE y.n).map (aW y))
def aeu{d:aa}(b:rJ D d x)(a:lK x.n c):(fu x c).1=(0,0)\/uT (D++d.ao) (fu x c).1:=by
 unfold fu;cases e:c.getLast? with
 |none=>exact b.p
 |some s=>
  refine .inr ?_
  have:=(a s J).1
  let⟨v,a⟩:=xK.1 this;have e:v.n=s.1:=by have:=uB a;exact J
  have:=b.all v (pY a)
  grind
mutual
def Rp(po:Cb l)(u:B9 l D i G):∀(t:Tm) (b:aa),dF (l.take i) x.n (bw t)->lJ x.n t->rJ D b x->(cV G l x t b).2.p<10^20->Gw D b (cV G l x t b).2 []
 |.mk op f b9 a c any g,b,F,C,B,d=>by
  unfold bw dF at F;unfold lJ at C;unfold cV at d|-;split
  .rename_i q;rw[ae q] at d;subst q;have h1:iP (l.take i) f (N (cL g))=true:=F.1;obtain⟨j,hj,ej,-,-⟩:=callee h1;have ok:=po j _ ej;unfold rQ at d|-;dsimp only at d|-;have m0:=u.1 ⟨fH l f,jo (b.p+1),(fu x c).1,(fu x c).2⟩ (jv ⟨fH l f,jo (b.p+1),(fu x c).1,(fu x c).2⟩ ((fH l f).o++(fH l f).ao) (fT ⟨fH l f,jo (b.p+1),(fu x c).1,(fu x c).2⟩ (fH l f).ins (bH G l x g {b with p:=b.p+1}).1 (bH G l x g {b with p:=b.p+1}).2));have I:=CJ (l:=l) (x:=x) u.1 g {b with p:=b.p+1};rw[Db,C3] at m0;have I:b.p+1<=(bH G l x g {b with p:=b.p+1}).2.p:=I;have g1:=J5 po u g {b with p:=b.p+1} F.2 C.2 ⟨B.all,B.p⟩ Y;generalize hr:bH G l x g {b with p:=b.p+1}=r at*;have b0:rJ D r.2 x:=rJ.mono (st:={b with p:=b.p+1}) ⟨B.all,B.p⟩ g1.ao;have z:=aeu b0 C.1;generalize hy:(⟨fH l f,jo (b.p+1),(fu x c).1,(fu x c).2⟩:aP)=y at*;have a0:y.n=fH l f:=by rw[<-hy]
   have W:y.ah=jo (b.p+1):=by rw[<-hy]
   have a9:y.p=(fu x c).1:=by rw[<-hy]
   rw[<-a9] at z;rw[<-a0] at ok m0 d|-;let⟨dl,V,c1,c2,c3,c4,c5,c6,c7,c8⟩:=abv (c:=r.1) ok W Y I z;generalize hs:jv y (y.n.o++y.n.ao) (fT y y.n.ins r.1 r.2)=s2 at*;have ep:s2.p=r.2.p:=by rw[<-hs,Db,C3]
   have g2:=u.2 j y s2 hj ok c8 d;let⟨h,n,a1,a2,a3,a4,m,a6,a7,a8⟩:=g1;let⟨p,o,b1,b2,b3,b4,K,b6,P,b8⟩:=g2;rw[ep] at b3 K;have a3:b.p+1<=r.2.p:=a3;have m:∀v∈h,wR (b.p+1) r.2.p v.n:=m;refine⟨h++dl++p,n++V++o,?_,?_,Y,?_,λv hv=>?_,?_,?_,λv hv=>?_⟩
   .grind
   .grind
   .have n4:∀v∈dl,wR b.p (b.p+1) v.n:=λv hv=>by
     let⟨r',e⟩:=c4 v hv;exact⟨b.p+1,r',e,Y,Y⟩
    rw[cM,cM];refine rF.2 ⟨rF.2 ⟨a4,c3,λs hs s' k=>?_⟩,b4,λs hs s' k=>?_⟩
    .obtain⟨v,hv,rfl⟩:=cN.1 hs;obtain⟨w,hw,rfl⟩:=cN.1 k;exact(GS (n4 w hw) (m v hv) (ak _) Y).symm
    .obtain⟨w,hw,rfl⟩:=cN.1 k;rcases bA.1 hs with hs|hs
     .obtain⟨v,hv,rfl⟩:=cN.1 hs;exact GS (m v hv) (K w hw) (ak _) d
     .obtain⟨v,hv,rfl⟩:=cN.1 hs;exact GS (n4 v hv) J I d
   .rcases bA.1 hv with hv|hv
    .rcases bA.1 hv with hv|hv
     .exact(m v hv).mono Y b3
     .let⟨r',e⟩:=c4 v hv;exact⟨b.p+1,r',e,Y,Y⟩
    .exact(K v hv).mono Y (ak _)
   .simp only[cM,eB] at a6|-;rw[c5];have p1:(List.map aX.n n++List.map aX.n V++List.map aX.n o).Perm ((List.map Vr.n h++List.map aX.n V)++(List.map Vr.n p++(aE y.n).map (aW y))):=(a6.append_right _).append b6;refine p1.trans ?_;rw[dC,dC,dC];refine NR _ (NR _ ?_);exact ZZ
   .refine CX (CX a7 ?_) ?_
    .rw[a1,<-dC] at c6;exact c6
    .rw[c1,a1] at P;simp only[dC] at P|-;exact P
   .rcases bA.1 hv with hv|hv
    .exact(bA.1 hv).elim (a8 v) (c7 v)
    .exact b8 v hv
  .rename_i q;rw[ac q] at d;exact J5 po u g b F.2 C.2 B d
def J5(j:Cb l)(c:B9 l D i G):∀(b:L Tm) (a:aa),ju (l.take i) x.n (cL b)->sI x.n b->rJ D a x->(bH G l x b a).2.p<10^20->Gw D a (bH G l x b a).2 []
 |[],a,_,_,_,_=>by unfold bH;exact .refl D a
 |k::b,a,e,d,h,f=>by
  unfold cL ju at e;unfold sI at d;unfold bH at f|-;have m:=CJ (l:=l) (x:=x) c.1 b (cV G l x k a).2;have g:=Rp j c k a e.1 d.1 h J;exact g.M (J5 j c b _ e.2 d.2 (h.mono g.ao) f) f
end
def Rb(h:Cb l)(e:B9 l D i G)(d:sC l i x.n):∀(b:L aX) (a:aa),(∀q∈b,q∈x.n.r)->rJ D a x->(iH G l x b a).p<10^20->Gw D a (iH G l x b a) (b.map λq=>aW x q.n)
 |[],a,_,_,_=>by unfold iH;exact .refl D a
 |q::b,a,j,g,c=>by
  unfold iH at c|-;have f:=j q (gN ..);have m:=JU (l:=l) (x:=x) e.1 b (mj (aW x q.n) (cV G l x (dr x.n q.n q.e) a).1 (cV G l x (dr x.n q.n q.e) a).2);have j:=Rp (x:=x) h e (dr x.n q.n q.e) a (by rw[d.wh q f];exact d.T q f) (d.ck q f) g (Eu m c);have f:=j.M (Gw.Au _ (aW x q.n) (cV G l x (dr x.n q.n q.e) a).1) Y;have j:=Rb h e d b (mj (aW x q.n) (cV G l x (dr x.n q.n q.e) a).1 (cV G l x (dr x.n q.n q.e) a).2) J (g.mono f.ao) c;exact f.M j c
end
def W3{l:L Nd}{D:L Vr}(e:Cb l):∀d,B9 l D d (gJ l d)
 |0=>⟨Md l 0,Y⟩
 |d+1=>⟨Md l (d+1),λj y m a c k b=>by
  unfold gJ at b|-;let⟨a,f⟩:=W3 (D:=D) e d;have g:B9 l D j (gJ l d):=⟨a,λh j a d=>f h j a Y⟩;refine(Rb e g c y.n.r m J k b).perm ?_
  have:=c.own.map (aW y)
  rw[zQ] at this;exact this⟩
end
end
section
section
def mB(l:L Nat):Nat:=l.foldr (·+·) 0
def Bz(a:Nat)(l:L Nat):mB (a::l)=a+mB l:=R
def Nk:∀{l:L Nat} {x:Nat},x∈l->x<=mB l
 |a::l,x,h=>by
  rw[Bz];rcases bY.1 h with rfl|h
  .omega
  .have:=Nk h;omega
def Nl:∀(l:L Nat) (i v:Nat),v<=l.getD i 0+1->mB (l.set i v)<=mB l+1
 |[],_,_,_=>aJ _
 |a::l,0,v,h=>by
  have h:v<=a+1:=h;rw[zS,Bz,Bz];omega
 |a::l,i+1,v,h=>by
  have:=Nl l i v A
  rw[zR,Bz,Bz];omega
def Yx(n:Nat):mB (List.replicate n 0)=0:=by
 induction n with
 |zero=>rfl
 |succ n a=>rw[BV,Bz,a]
mutual
def Fi(h:L Nd):∀(e:Tr) (k:L Nat),mB (ny h e k)<=mB k+qh e
 |.mk op c d a b,k=>by
  unfold ny qh;refine bC (PX h b _) ?_;by_cases q:op=bK
  .rw[ae q,ae q];cases qq c h 0 with
   |none=>grind
   |some i=>
    dsimp only
    have:=Nl k i ((k.getD i 0+1)%18446744073709551616) Y
    omega
  grind
def PX(h:L Nd):∀(a:L Tr) (k:L Nat),mB (mf h a k)<=mB k+qi a
 |[],k=>by unfold mf qi;omega
 |e::es,k=>by
  unfold mf qi;have a:=PX h es (ny h e k);have a:=Fi h e k;omega
end
def uO(a:L aX):Nat:=mB (a.map λq=>qh q.e)
def PZ(h:L Nd):∀(a:L aX) (k:L Nat),mB (pG h a k)<=mB k+uO a
 |[],k=>by unfold pG;omega
 |q::a,k=>by
  unfold pG;have b:=PZ h a (ny h q.e k);have b:=Fi h q.e k;show _<=mB k+(qh q.e+uO a);omega
def P4:∀{qs:L aX},(∀q∈qs,qh q.e<=300)->uO qs<=N qs*300
 |[],_=>aJ _
 |q::qs,h=>by
  have a:=h q (gN ..);have a:=P4 (qs:=qs) J;show qh q.e+uO qs<=(N qs+1)*300;omega
def Qv:∀(l h:L Nd),(∀n∈l,uO n.r<=1000000)->sJ h l=true
 |[],_,_=>rfl
 |n::l,h,a=>by
  unfold sJ;rw[ss];refine⟨lX.2 λx a=>Oh ?_,Qv l _ J⟩;have b:=Nk a;have a:=PZ h n.r (List.replicate (N h) 0);rw[Yx] at a;grind
def mh:L Nat->L Nat->Nat
 |p::k,e::es=>p*e+mh k es
 |_,_=>0
mutual
def cE(h:L Nd)(a:L Nat):Tr->Nat
 |.mk op c _ _ b=>(if op=bK then(match qq c h 0 with|some i=>a.getD i 0|none=>0) else 0)+tI h a b
def tI(h:L Nd)(a:L Nat):L Tr->Nat
 |[]=>0
 |k::b=>cE h a k+tI h a b
end
def cQ(h:L Nd)(a:L Nat)(b:L aX):Nat:=mB (b.map λq=>cE h a q.e)
def La:∀{h:L Nd} {s:S} {i j:Nat},qq s h i=some j->i<=j/\j<i+N h
 |[],_,_,_,e=>by cases e
 |n::h,s,i,j,e=>by
  unfold qq at e;split at e
  .grind
  .have:=La e
   grind
def QY:∀(k a:L Nat) (i:Nat),i<N k->mh (k.set i (k.getD i 0+1)) a=mh k a+a.getD i 0
 |[],_,_,h=>J
 |p::k,[],0,_=>rfl
 |p::k,[],i+1,_=>rfl
 |p::k,e::a,0,_=>by
  show(p+1)*e+mh k a=p*e+mh k a+e
  grind
 |p::k,e::a,i+1,h=>by
  have:=QY k a i J
  show p*e+mh (k.set i (k.getD i 0+1)) a=p*e+mh k a+a.getD i 0;omega
def ad9(k:L Nat)(i:Nat):k.getD i 0<=mB k:=by
 rw[cA];cases e:k[i]? with
 |none=>grind
 |some x=>exact Nk J
mutual
def PU{h:L Nd}{c:L Nat}:∀(e:Tr) (k:L Nat),N k=N h->mB k+qh e<18446744073709551616->N (ny h e k)=N h/\mh (ny h e k) c=mh k c+cE h c e
 |.mk op b j a g,k,d,f=>by
  unfold qh at f;unfold ny cE;by_cases q:op=bK
  .rw[ae q] at f|-;rw[ae q];cases e:qq b h 0 with
   |none=>
    obtain A:=Fj (a:=c) g k d Y;grind
   |some i=>
    dsimp only;have b:=(La e).2;have b:=ad9 k i;have b:(k.getD i 0+1)%18446744073709551616=k.getD i 0+1:=Y;rw[b];have b:=Nl k i (k.getD i 0+1) Y;obtain⟨a,b⟩:=Fj (a:=c) g (k.set i (k.getD i 0+1)) (by rw[jk];exact d) Y;exact⟨a,by rw[b,QY k c i Y];omega⟩
  .rw[ac q] at f|-;rw[ac q];obtain A:=Fj (a:=c) g k d Y;omega
def Fj{h:L Nd}{a:L Nat}:∀(b:L Tr) (k:L Nat),N k=N h->mB k+qi b<18446744073709551616->N (mf h b k)=N h/\mh (mf h b k) a=mh k a+tI h a b
 |[],k,b,_=>by unfold mf tI;omega
 |e::r,k,b,c=>by
  unfold qi at c;unfold mf tI;let⟨c,d⟩:=PU (c:=a) e k b Y;have b:=Fi h e k;let⟨b,f⟩:=Fj (a:=a) r (ny h e k) c Y;exact⟨b,by rw[f,d];omega⟩
end
def PY{h:L Nd}{a:L Nat}:∀(b:L aX) (k:L Nat),N k=N h->mB k+uO b<18446744073709551616->mh (pG h b k) a=mh k a+cQ h a b
 |[],k,c,_=>by unfold pG;rfl
 |q::b,k,c,d=>by
  have d:mB k+(qh q.e+uO b)<18446744073709551616:=d;unfold pG;let⟨d,e⟩:=PU (c:=a) q.e k c Y;have c:=Fi h q.e k;rw[PY b (ny h q.e k) d Y,e];show _=mh k a+(cE h a q.e+cQ h a b);omega
def acT(n:Nat)(a:L Nat):mh (List.replicate n 0) a=0:=by
 induction n generalizing a with
 |zero=>rfl
 |succ n b=>
  rw[BV];cases a with
  |nil=>rfl
  |cons e a=>show 0*e+mh (List.replicate n 0) a=0;grind
def Yv:∀(k b:L Nat) (a:Nat),a<=1001->a<=oG k b a
 |[],_,a,_=>by unfold oG;omega
 |p::k,[],a,_=>by unfold oG;omega
 |p::k,e::b,a,h=>by
  unfold oG;refine bC ?_ (Yv k b _ Y);rw[Nat.le_min];exact⟨du _ _,h⟩
def Yu:∀(k b:L Nat) (a:Nat),oG k b a<=1000->a+mh k b<=oG k b a
 |[],_,a,h=>by unfold oG mh;omega
 |p::k,[],a,h=>by unfold oG mh;omega
 |p::k,e::b,a,h=>by
  unfold oG at h|-;have c:=Yv k b (min (a+min p 1001*e) 1001) Y;have d:=Yu k b _ h;have f:min (a+min p 1001*e) 1001=a+min p 1001*e:=Y;rw[f] at c d h|-;have c:min p 1001*e=p*e:=by
   by_cases q:p<=1001
   .grind
   .cases e with
    |zero=>rfl
    |succ e=>
     grind
  show a+(p*e+mh k b)<=_;omega
def Q3:∀(l h:L Nd) (a:L Nat),∃r,jp h l a=a++r
 |[],_,a=>⟨[],by unfold jp;simp⟩
 |n::l,h,a=>by
  unfold jp;obtain A:=Q3 l (h++[n]) (a++[pI h a n]);grind
def Q1:∀(l h:L Nd) (a:L Nat),N a=N h->∀i (c:i<N l),(jp h l a).getD (N h+i) 0=pI (h++l.take i) ((jp h l a).take (N h+i)) l[i]
 |n::l,h,a,b,0,_=>by
  unfold jp;obtain A:=Q3 l (h++[n]) (a++[pI h a n]);grind
 |n::l,h,a,b,i+1,c=>by
  have:=Q1 l (h++[n]) (a++[pI h a n]) J i J
  unfold jp;grind
def jq(l:L Nd):L Nat:=jp [] l []
def adt{l:L Nd}{i:Nat}(a:i<N l):(jq l).getD i 0=pI (l.take i) ((jq l).take i) l[i]:=by
 have:=Q1 l [] [] R i a
 rw[hN,gg,dH] at this;exact this
def acp{l:L Nd}(a:l≠[]):kT l=(jq l).getD (N l-1) 0:=by
 unfold kT;rw[ac (by have:=zP.2 a;omega)];rfl
def adu{l:L Nd}{i:Nat}(a:i<N l)(b:uO l[i].r<=1000000)(h:(jq l).getD i 0<=1000):l[i].r.length+cQ (l.take i) ((jq l).take i) l[i].r<=(jq l).getD i 0:=by
 rw[adt a] at h|-;unfold pI at h|-;have a:=Yu _ _ _ h;rw[PY l[i].r (List.replicate (N (l.take i)) 0) J (by rw[Yx];omega),acT] at a;omega
def Sy:∀{h:L Nd} {s:S} {d:Nd} (i:Nat),h.find? (λn=>decide (n.n=s))=some d->∃j,qq s h i=some (i+j)/\h[j]?=some d
 |n::h,s,d,i,e=>by
  unfold qq;by_cases q:n.n=s
  .have a:(n::h).find? (λn=>decide (n.n=s))=some n:=J;rw[ae q];exact⟨0,R,J⟩
  .rw[zO (by simpa using q)] at e;rw[ac q];let⟨j,a,b⟩:=Sy (i+1) e;exact⟨j+1,by rw[a];congr 1;omega,b⟩
def abw{l:L Nd}{i m:Nat}{a:S}(h:iP (l.take i) a m=true):∃j,j<i/\l[j]?=some (fH l a)/\qq a (l.take i) 0=some j:=by
 unfold iP at h;cases f:(l.take i).find? (λn=>decide (n.n=a)) with
 |none=>grind
 |some d=>
  have e:l.find? (λn=>decide (n.n=a))=some d:=by
   have:=F0 (l:=l.take i) (r:=l.drop i) (P:=λn:Nd=>decide (n.n=a)) (by rw[f];rfl)
   rw[mH] at this;exact J
  have b:fH l a=d:=by unfold fH;rw[e]
  obtain A:=Sy 0 f;grind
def zY(w:Nat)(a b:aa):Prop:=b.p<=a.p+w/\N b.r<=N a.r+65*w/\N b.ao<=N a.ao+65*w
def zY.M{v w:Nat}{a b c:aa}(h:zY v a b)(g:zY w b c):zY (v+w) a c:=by
 let⟨_,_,d⟩:=h;let⟨_,_,d⟩:=g;refine⟨Y,?_,?_⟩<;>(rw[Nat.mul_add];omega)
def qf(c q:Nat)(a b:aa):Prop:=b.p+1<=a.p+c/\N b.r+64<=N a.r+65*c/\N b.ao+q+64<=N a.ao+65*c
structure Ca (l:List Nd) (i:Nat) (n:Nd):Prop where
 ok:sC l i n
 ins:N n.ins<=64
 cq:uO n.r<=1000000
def B4(l:L Nd)(i:Nat)(G:aP->aa->aa):Prop:=∀j y a,j<i->l[j]?=some y.n->(jq l).getD j 0<=1000->qf ((jq l).getD j 0) (N (aE y.n)) a (G y a)
section
variable {G:aP->aa->aa}{l:L Nd}{x:aP}{i:Nat}
def abn{l:L Nd}{i:Nat}{a:S}{j:Nat}(h:qq a (l.take i) 0=some j):((jq l).take i).getD j 0=(jq l).getD j 0:=by
 have:=(La h).2
 grind
mutual
def Rm(o:∀(i:Nat) (n:Nd),l[i]?=some n->Ca l i n)(g:B4 l i G):∀(t:Tm) (b:aa),dF (l.take i) x.n (bw t)->cE (l.take i) ((jq l).take i) (bw t)<=1000->zY (cE (l.take i) ((jq l).take i) (bw t)) b (cV G l x t b).2
 |.mk op n h a c any f,b,e,d=>by
  unfold bw dF at e;unfold bw cE at d|-;unfold cV;by_cases q:op=bK
  .rw[ae q] at d|-;rw[ae q];subst q;let⟨j,s,a,h⟩:=abw (show iP (l.take i) n _=true from e.1);rw[h] at d|-;dsimp only at d|-;rw[abn h] at d|-;have p:=o j _ a;let⟨h,k,m⟩:=J3 o g f {b with p:=b.p+1} e.2 Y;unfold rQ;dsimp only;generalize bH G l x f {b with p:=b.p+1}=r at h k m|-;have h:r.2.p<=b.p+1+_:=h;have k:N r.2.r<=N b.r+_:=k;have m:N r.2.ao<=N b.ao+_:=m;generalize h:(⟨fH l n,jo (b.p+1),(fu x c).1,(fu x c).2⟩:aP)=y;have c:y.n=fH l n:=by rw[<-h]
   rw[<-c] at p a|-;let⟨c,h,k⟩:=g j y (jv y (y.n.o++y.n.ao) (fT y y.n.ins r.1 r.2)) s a Y;let⟨m,a,n,s⟩:=AJ y y.n.ins r.1 r.2;let⟨t,u⟩:=AR y (y.n.o++y.n.ao) (fT y y.n.ins r.1 r.2);rw[Db,C3] at c;rw[u,n,ay] at h;rw[t,m,ay,ay,aC,aC] at k;have c:N a=N y.n.ins:=by
    have:=dv List.length s
    rw[aC,aC] at this;exact this
   have a:N (aE y.n)=N (y.n.o++y.n.ao):=by unfold aE;rw[aC]
   have a:=p.ins;generalize (jq l).getD j 0=a at*;generalize tI (l.take i) ((jq l).take i) (cL f)=w at*;refine⟨Y,?_,?_⟩<;>omega
  .rw[ac q] at d|-;rw[ac q];rw[gg] at d|-;exact J3 o g f b e.2 d
def J3(e:∀(i:Nat) (n:Nd),l[i]?=some n->Ca l i n)(d:B4 l i G):∀(a:L Tm) (b:aa),ju (l.take i) x.n (cL a)->tI (l.take i) ((jq l).take i) (cL a)<=1000->zY (tI (l.take i) ((jq l).take i) (cL a)) b (bH G l x a b).2
 |[],b,_,_=>by unfold bH cL tI;exact⟨ak _,ak _,ak _⟩
 |k::a,b,c,f=>by
  unfold cL ju at c;unfold cL tI at f|-;unfold bH;exact(Rm e d k b c.1 Y).M (J3 e d a _ c.2 Y)
end
def Q9(e:∀(i:Nat) (n:Nd),l[i]?=some n->Ca l i n)(d:B4 l i G)(c:sC l i x.n):∀(b:L aX) (a:aa),(∀q∈b,q∈x.n.r)->cQ (l.take i) ((jq l).take i) b<=1000->(iH G l x b a).p<=a.p+cQ (l.take i) ((jq l).take i) b/\N (iH G l x b a).r<=N a.r+N b+65*cQ (l.take i) ((jq l).take i) b/\N (iH G l x b a).ao<=N a.ao+65*cQ (l.take i) ((jq l).take i) b
 |[],a,_,_=>by unfold iH;omega
 |q::b,a,g,h=>by
  have f:=g q (gN ..);have g:cQ (l.take i) ((jq l).take i) (q::b)=cE (l.take i) ((jq l).take i) q.e+cQ (l.take i) ((jq l).take i) b:=R;rw[g] at h|-;unfold iH;have w:=c.wh q f;let⟨g,h,j⟩:=Rm (x:=x) e d (dr x.n q.n q.e) a (by rw[w];exact c.T q f) J;rw[w] at g h j;let⟨_,_,f⟩:=Q9 e d c b (mj (aW x q.n) (cV G l x (dr x.n q.n q.e) a).1 (cV G l x (dr x.n q.n q.e) a).2) J Y;have b:(mj (aW x q.n) (cV G l x (dr x.n q.n q.e) a).1 (cV G l x (dr x.n q.n q.e) a).2).p=(cV G l x (dr x.n q.n q.e) a).2.p:=R;have b:N (mj (aW x q.n) (cV G l x (dr x.n q.n q.e) a).1 (cV G l x (dr x.n q.n q.e) a).2).r=N (cV G l x (dr x.n q.n q.e) a).2.r+1:=by
   show((cV G l x (dr x.n q.n q.e) a).2.r++[_]).length=_
   rw[ay];rfl
  have b:(mj (aW x q.n) (cV G l x (dr x.n q.n q.e) a).1 (cV G l x (dr x.n q.n q.e) a).2).ao=(cV G l x (dr x.n q.n q.e) a).2.ao:=R;grind
end
def WW{l:L Nd}(e:∀(i:Nat) (n:Nd),l[i]?=some n->Ca l i n):∀d,B4 l d (gJ l d)
 |0=>λj y g a=>absurd a (nR _)
 |d+1=>λj y g a c h=>by
  have b:=e j _ c;have a:=mN c;have f:l[j]=y.n:=by
   rw[bM a] at c;exact J
  have c:=adu a (by rw[f];exact b.cq) h;rw[f] at c;have a:0<N y.n.r:=by
   have a:=b.ok.own.length_eq;rw[aC] at a
   have:0<N (aE y.n):=by
    unfold aE;rw[aC,ay]
    have:=zP.2 b.ok.ne
    omega
   omega
  have a:N (aE y.n)=N y.n.r:=by
   have a:=b.ok.own.length_eq;rw[aC] at a;exact a.s
  unfold gJ;have c:B4 l j (gJ l d):=λh k a f=>WW e d h k a Y;obtain A:=Q9 e c b.ok y.n.r g J Y;generalize cQ (l.take j) ((jq l).take j) y.n.r=w at*;generalize (jq l).getD j 0=c at*;refine⟨Y,Y,Y⟩
end
end
section
variable {a:Nat}{w:Option dn}
section
mutual
def eU(B:Nat):Tr->Prop
 |.mk _ c a _ b=>(c.1<=B/\a<9223372036854775808)/\y6 B b
def y6(B:Nat):List Tr->Prop
 |[]=>True
 |k::a=>eU B k/\y6 B a
end
theorem LI{B:Nat}:∀a:List Tr,y6 B a↔∀k∈a,eU B k
 |[]=>⟨J,λ_=>by unfold y6;trivial⟩
 |k::a=>by
  unfold y6;rw[LI a];grind
theorem ub{B:Nat}{f d:S}{c:Nat}{b:List Tr}(h:d.1<=B/\c<9223372036854775808)(e:∀k∈b,eU B k):eU B (.mk f d c a b):=by
 unfold eU;exact⟨h,(LI b).2 e⟩
theorem LH{B:Nat}:eU B E0:=by unfold E0;exact ub Y J
theorem Ui{B:Nat}{d c:S}{b:Nat}{x:Tr}(h:c.1<=B/\b<9223372036854775808)(e:eU B x):eU B (.mk d c b a [x]):=ub h J
theorem Dp{B:Nat}{d c:S}{b:Nat}{x y:Tr}(h:c.1<=B/\b<9223372036854775808)(e:eU B x)(e:eU B y):eU B (.mk d c b a [x,y]):=ub h J
section
variable {L:List Wd}{B:Nat}(hL:∀w∈L,w.t.1<=B/\w.n<9223372036854775808)
include hL
theorem Zi(p:PS):(wd L p).t.1<=B/\(wd L p).n<9223372036854775808:=by
 unfold wd;grind
theorem Dk(p:PS):(aG L p).1.1<=B:=by
 unfold aG;split
 .exact(Zi hL p).1
 grind
omit hL in
def sw(B:Nat):Option dn->Prop
 |none=>True
 |some F=>(∀p,eU B (F.a p).1)/\(∀p,eU B (F.f p).1)/\(∀p,eU B (F.B p).1)/\∀p,eU B (F.p p).1
omit hL in
theorem CT{p:PS}{f:dn->Tr×PS}(h:∀F,w=some F->eU B (f F).1):eU B (gm L w p f).1:=by
 unfold gm qn;by_cases q:p.e=0
 .rw[ae q];cases w with
  |none=>exact LH
  |some F=>grind
 .rw[ac q];exact LH
omit hL in
theorem Aw(g:sw B w)(p:PS):eU B (dU L w p).1:=CT λF e=>by subst e;exact g.1 p
omit hL in
theorem Sk(g:sw B w)(p:PS):eU B (qX L w p).1:=CT λF e=>by subst e;exact g.2.2.2 p
omit hL in
theorem Px{w:Option dn}(g:sw B w):∀(n:Nat) (l:List Tr) (p:PS),(∀k∈l,eU B k)->∀k∈(jC L w n l p).1,eU B k
 |0,l,p,h=>h
 |n+1,l,p,h=>by
  have a:∀k∈l++[(dU L w p).1],eU B k:=λk b=>(bA.1 b).elim (h k) λb=>by rw[dM.1 b];exact Aw g p
  unfold jC;split
  .split
   .exact Px g n _ _ a
   .exact a
  .exact h
theorem aie(g:sw B w)(a:Wd)(b:a.n<9223372036854775808)(p:PS):eU B (ii L w a p).1:=by
 unfold ii;split
 .exact ub Y J
 split
 .exact ub Y J
 split
 .exact ub Y J
 split
 .unfold C0;exact ub Y λk hk=>by
   rcases bY.1 hk with rfl|hk
   .exact Aw g _
   rcases bY.1 hk with rfl|hk
   .exact Aw g _
   .rw[dM.1 hk];exact Aw g _
 split
 .unfold Dh;exact Dp ⟨Dk hL _,by decide⟩ (Sk g _) (Sk g _)
 .unfold pU;dsimp only;split
  .unfold yq;split
   .exact ub ⟨Dk hL _,by decide⟩ J
   .exact ub ⟨Dk hL _,by decide⟩ (Px g _ _ _ J)
  .exact ub ⟨Dk hL _,by decide⟩ J
theorem WM(g:sw B w)(p:PS):eU B (oB L w p).1:=by
 unfold oB;split
 .exact Aw g _
 .exact aie hL g _ (Zi hL p).2 _
omit hL in
theorem Ny(g:sw B w)(a:S)(p:PS):eU B (nP L w a p).1:=by
 unfold nP;split
 .exact CT λF e=>by subst e;exact Ui Y (g.2.2.1 _)
 .exact LH
theorem Y0(g:sw B w)(p:PS):eU B (pA L w p).1:=by
 unfold pA;split
 .exact Ny g _ _
 split
 .exact Ny g _ _
 split
 .exact Ny g _ _
 .exact WM hL g p
theorem Zp:∀(n:Nat) (a:Tr) (p:PS),eU B a->eU B (mZ L n a p).1
 |0,a,p,h=>h
 |n+1,a,p,h=>by
  unfold mZ;split
  .exact Zp n _ _ (Ui ⟨Dk hL _,by unfold pE;grind⟩ h)
  .exact h
theorem RJ(g:sw B w)(p:PS):eU B (pK L w p).1:=by
 have a:eU B (lW L w p).1:=Zp hL _ _ _ (Y0 hL g p);unfold pK;dsimp only;split
 .exact CT λF e=>by subst e;exact Dp Y a (g.2.1 _)
 .exact a
omit hL in
theorem XP{e:PS->Tr×PS}{d:List S}{b:Bool}(c:∀p,eU B (e p).1):∀(n:Nat) (a:Tr) (p:PS),eU B a->eU B (fO L e d b n a p).1
 |0,a,p,h=>h
 |n+1,a,p,h=>by
  unfold fO;split
  .exact h
  .split
   .exact Dp Y h (c _)
   .exact XP c n _ _ (Dp Y h (c _))
theorem MB{w:Option dn}(g:sw B w):∀(n:Nat) (p:PS),eU B (bP L w n p).1
 |0,p=>RJ hL g p
 |n+1,p=>by
  unfold bP;exact XP (MB g n) _ _ _ (MB g n p)
theorem aa2(g:sw B w)(p:PS):eU B (qP L w p).1:=by
 have a:=MB hL g 5 p;unfold qP;dsimp only;split
 .exact CT λF e=>by subst e;exact Dp Y a (g.1 _)
 .exact a
theorem Df:∀m:Nat,sw B (pN L m)
 |0=>trivial
 |m+1=>⟨aa2 hL (Df m),RJ hL (Df m),Y0 hL (Df m),WM hL (Df m)⟩
theorem Q7:∀(n:Nat) (l:List aX) (p:PS),(∀q∈l,eU B q.e)->∀q∈(iG L n l p).1,eU B q.e
 |0,l,p,h=>h
 |n+1,l,p,h=>by
  unfold iG;split
  .exact Q7 n _ _ λq a=>(bA.1 a).elim (h q) λg=>by
    rw[dM.1 g];exact Aw (Df hL 30) _
  .exact h
theorem UA:∀(n:Nat) (l:List Nd) (p:PS),(∀d∈l,∀q∈d.r,eU B q.e)->∀d∈(fV L n l p).1,∀q∈d.r,eU B q.e
 |0,l,p,h=>h
 |n+1,l,p,h=>by
  unfold fV;split
  .split
   .exact h
   .exact UA n _ _ λd a=>(bA.1 a).elim (h d) λg=>by
     rw[dM.1 g];exact Q7 hL _ _ _ J
  .exact h
end
theorem ArH{B:Nat}:∀(f a:Nat) (r:By) (l:List Wd),r.length<=B->(∀w∈l,w.t.1<=B/\w.n<9223372036854775808)->∀w∈(gQ f a r l).1,w.t.1<=B/\w.n<9223372036854775808
 |0,a,r,l,_,h=>λw b=>by
  unfold gQ at b;rcases bA.1 b with g|g
  .grind
  .rw[dM.1 g];exact⟨aJ _,by show 0<9223372036854775808;decide⟩
 |f+1,a,[],l,_,h=>λw b=>by
  unfold gQ at b;rcases bA.1 b with g|g
  .grind
  .rw[dM.1 g];exact⟨A,by show 0<9223372036854775808;decide⟩
 |f+1,a,c::r,l,d,h=>λw b=>by
  unfold gQ at b;split at b
  .exact ArH f _ r l J h w b
  split at b
  .exact ArH f _ _ l J h w b
  split at b
  .grind
  .rename_i k n v e;refine ArH f _ _ _ J (λw b=>?_) w b;rcases bA.1 b with g|g
   .grind
   .rw[dM.1 g];refine⟨?_,(Eg e).2.2.2.2⟩
    show((c::r).take n).length<=B
    grind
theorem acx(t:By):∀w∈(ix t).1,w.t.1<=16384/\w.n<9223372036854775808:=by
 unfold ix;split
 .grind
 .exact ArH _ _ _ _ Y J
theorem aha(t:By):∀n∈(ch t).1,∀q∈n.r,eU 16384 q.e:=by
 unfold ch;split
 .unfold tn;dsimp only;split
  .exact UA (acx t) _ _ _ J
  grind
 grind
end
section
theorem Ed(n:Nd):∀(k:Nat) (s:S) (c:L aS),jW n k s c=(jW n k s []).map (·++c)
 |0,_,_=>rfl
 |k+1,s,c=>by
  unfold jW;cases aO n s with
  |none=>simp
  |some v=>
   dsimp only;split
   .simp
   .rw[Ed n k v.p ((v.p,v.t)::c),Ed n k v.p [(v.p,v.t)],Option.map_map];congr 1;grind
theorem Y3(n:Nd):∀(k:Nat) (s:S) {r:L aS},jW n k s []=some r->jW n (k+1) s []=some r
 |0,_,_,h=>by cases h
 |k+1,s,r,h=>by
  unfold jW at h|-;cases e:aO n s with
  |none=>grind
  |some v=>
   rw[e] at h;dsimp only at h|-;split
   .grind
   .rename_i q;rw[ac q,Ed] at h;rw[Ed];cases a:jW n k v.p [] with
    |none=>grind
    |some b=>
     rw[a] at h;rw[Y3 n k v.p a];exact h
theorem CA{n:Nd}(hh:kB [] (am n))(hio:∀v∈n.ins++n.o,v.p=(0,0)){s:S}{v:Vr}(c:aO n s=some v):aF n s=if v.p=(0,0) then[] else aF n v.p++[(v.p,v.t)]:=by
 have a:=Nz hh hio s;unfold jW at a;rw[c] at a;dsimp only at a;split at a
 .grind
 .rename_i q;rw[ac q];rw[Ed] at a;cases e:jW n (N (am n)) v.p [] with
  |none=>grind
  |some r=>
   rw[e] at a;have b:=Y3 n _ _ e;rw[Nz hh hio v.p] at b;grind
theorem Qo{n:Nd}{s:S}(a:aO n s=none):aF n s=[]:=by
 unfold aF;cases N n.ao with
 |zero=>rfl
 |succ m=>unfold fW;rw[a];rfl
def proper(n:Nd)(c:L aS):Prop:=c=[]\/∃s b,(aO n s).isSome=true/\c=aF n s++[(s,b)]
theorem Gp{n:Nd}(hh:kB [] (am n)){v:Vr}(b:v∈am n):v.p=(0,0)\/(aO n v.p).isSome=true:=by
 obtain⟨i,a,rfl⟩:=gB b;refine(CY hh i a).imp id λ⟨w,a,b⟩=>?_;rw[dH] at a;exact vM.2 ⟨w,rE a,aB b⟩
theorem Hf{n:Nd}(hh:kB [] (am n))(hio:∀v∈n.ins++n.o,v.p=(0,0))(s:S):proper n (aF n s):=by
 cases e:aO n s with
 |none=>exact .inl (Qo e)
 |some v=>
  rw[CA hh hio e];split
  .exact .inl R
  .rename_i q;exact .inr ⟨v.p,v.t,(Gp hh (pY e)).resolve_left q,R⟩
def nC(n:Nd)(b a:S)(c:L aS)(i:Nat):L aS:=if b=bB then aF n a else if b=bD then cB c a (de (0<i)) else c
mutual
def mX(n:Nd):Tm->Prop
 |.mk op a b _ c _ d=>proper n c/\(op=bR->c=aF n a)/\(op=bB->c=cB (aF n a) a (de (b=0)))/\(op=bD->c=aF n a)/\zE n op a c 0 d
def zE(n:Nd)(b a:S)(c:L aS):Nat->L Tm->Prop
 |_,[]=>True
 |i,k::d=>iu k=nC n b a c i/\mX n k/\zE n b a c (i+1) d
end
theorem abP(n:Nd):∀(t:Tm) (d:L aS),iu (nM n t d)=if t.ck.2 then d else t.ck.1
 |.mk op f b a c any e,d=>by unfold nM iu Tm.ck;rfl
mutual
theorem Yd(n:Nd):∀(t:Tm) (d:L aS),bw (nM n t d)=bw t
 |.mk op e f a c any b,d=>by unfold nM bw;rw[Yf n op e _ 0 b]
theorem Yf(n:Nd)(d b:S)(c:L aS):∀(i:Nat) (a:L Tm),cL (kL n d b c i a)=cL a
 |_,[]=>by unfold kL;rfl
 |i,k::a=>by unfold kL cL;rw[Yd n k,Yf n d b c (i+1) a]
end
mutual
theorem YM(n:Nd):∀e:Tr,bw (jL n e)=e
 |.mk op d c a b=>by unfold jL bw;rw[YP n b]
theorem YP(n:Nd):∀a:L Tr,cL (fy n a)=a
 |[]=>by unfold fy cL;rfl
 |k::a=>by unfold fy cL;rw[YM n k,YP n a]
end
theorem jV(n:Nd)(s:S)(e:Tr):bw (dr n s e)=e:=by
 unfold dr;rw[Yd,YM]
theorem adA{n:Nd}{k:Tr}{r:L Tr}{b:L Ck}(h:fF n (k::r)=.inr b):∃c a,b=c::a/\fC n k=.inr c/\fF n r=.inr a:=by
 unfold fF at h;grind
section
variable {n:Nd}(hh:kB [] (am n))(hio:∀v∈n.ins++n.o,v.p=(0,0))
include hh hio
mutual
theorem HX{h:L Nd}:∀(e:Tr) {u:Ck} (d:L aS),fC n e=.inr u->cC e->dF h n e->cg u d=true->proper n d->mX n (nM n (jL n e) d)/\iu (nM n (jL n e) d)=d
 |.mk op b w a t,u,d,o,I,s,F,hp=>by
  unfold cC at I;unfold dF at s;have P:=Nq o;have a0:=o;unfold fC at o;cases g:fF n t with
  |inl p=>grind
  |inr i=>
   rw[g] at o;dsimp only at o;split at o
   .rename_i l;injection o with o
    have hl:=JX g;have V:=HZ g;have r:iu (nM n (jL n (.mk op b w a t)) d)=d:=by
     rw[abP,<-P];unfold cg at F;cases q:u.2 with
     |true=>rfl
     |false=>
      grind
    have c:u.2=false->u.1=d:=λq=>by
     unfold cg at F;grind
    refine⟨?_,r⟩;have a1:op=bR\/op=bB\/op=bD->(aO n b).isSome=true:=λq=>by
     have:=s.1
     unfold jT at this;grind
    have y:nM n (jL n (.mk op b w a t)) d=.mk op b w a d (df n op b w ((fy n t).map Tm.ck)).1.2 (kL n op b d 0 (fy n t)):=by
     have C:=r;unfold jL nM at C|-;unfold iu at C;dsimp only at C;rw[C]
    rw[y];unfold mX;rw[<-o] at c;refine⟨hp,λq=>?_,λq=>?_,λq=>?_,?_⟩
    .subst q;exact(c R).s
    .subst q;exact(c R).s
    .subst q;exact(c R).s
    .have m:∀(x:Nat->L aS),(∀j (v:j<N i),cg i[j] (x j)=true)->(∀j,j<N i->proper n (x j))->(∀j,nC n op b d j=x j)->zE n op b d 0 (kL n op b d 0 (fy n t)):=λx h1 h2 h3=>
      YI t i 0 x d g I.2 s.2 A h2 J
     by_cases K:op=bB
     .subst K;have l:AB (aF n b) i=true:=l;obtain⟨k,rfl⟩:∃k,i=[k]:=by
       match i,l with
       |[k],_=>grind
      exact m (λ_=>aF n b) (λj v=>by
       have v:j<1:=v;obtain rfl:j=0:=Y;exact l) (λ_ _=>Hf hh hio b) λ_=>R
     by_cases q2:op=bD
     .subst q2;have l:yG (cB (aF n b) b false) (cB (aF n b) b true) i=true:=l;have D:aF n b=d:=A;obtain⟨k,z,rfl⟩:∃k z,i=[k,z]:=by
       match i,l with
       |[k,z],_=>grind
      have l:(cg k (cB (aF n b) b false)&&cg z (cB (aF n b) b true))=true:=l;rw[ss,D] at l;refine m (λj=>cB d b (de (0<j))) (λj v=>?_) (λj _=>.inr ⟨b,_,J,by rw[D];rfl⟩) λ_=>R;grind
     .refine m (λ_=>d) (λj v=>?_) J λj=>by unfold nC;grind
      by_cases B:op=fm\/op=cX\/op=bR
      .exfalso
       have nd:lP op=some 0:=by rcases B with rfl|rfl|rfl<;>rfl
       have nc:op≠bK:=by rcases B with rfl|rfl|rfl<;>decide
       grind
      .have W:df n op b w i=kE i:=by
        unfold df;rw[ac (λh=>B (h.imp id .inl)),ac (λh=>B (.inr (.inr h))),ac K,ac q2]
       rw[W] at l c;unfold kE at l c;cases f:i.find? (λk=>!k.2) with
       |none=>
        have:=ZO.1 f i[j] (aU v)
        unfold cg;grind
       |some k=>
        grind
   .grind
theorem YI{h:L Nd}{f e:S}:∀(b:L Tr) (c:L Ck) (i:Nat) (a:Nat->L aS) (d:L aS),fF n b=.inr c->gY b->ju h n b->(∀j (g:j<N c),cg c[j] (a j)=true)->(∀j,j<N c->proper n (a j))->(∀j,nC n f e d (i+j)=a j)->zE n f e d i (kL n f e d i (fy n b))
 |[],_,_,_,_,_,_,_,_,_,_=>A
 |k::r,c,i,a,d,u,m,b,o,t,p=>by
  obtain⟨c,l,rfl,q,s⟩:=adA u;unfold gY at m;unfold ju at b;have c:=p 0;rw[nk] at c;let⟨p,u⟩:=HX k (a 0) q m.1 b.1 (o 0 (jm _)) J;unfold fy kL zE;have k:(if f=bB then aF n e else if f=bD then cB d e (de (0<i)) else d)=a 0:=c;rw[k];refine⟨by grind,p,YI r l (i+1) (λj=>a (j+1)) d s m.2 b.2 (λj g=>o (j+1) (oL g)) (λj g=>t (j+1) (oL g)) λj=>?_⟩;grind
end
end
end
end
end Go.Proofs.YtehahhggpdhieaaGreatDoor
