/- Lemmas of the walk of EmitKinds are proved. Conditions: none. -/
import Derived.Test.YtehahhggpdhieaaGreatDoorX8
namespace Go.Proofs.YtehahhggpdhieaaGreatDoor
set_option maxRecDepth 100000
set_option maxHeartbeats 32000000
set_option linter.all false
section
open Tryz renaming prog->tz
open Tryz
variable {d:HN}{i s:Nat}
section
variable {O:FN}
@[go_sem] def ame:au O (.const (.string ⟨#[110,111,100,101]⟩))=.s 4 1701080942:=(rfl)
@[go_sem] def amf:au O (.const (.string ⟨#[114,101,116,117,114,110,115]⟩))=.s 7 32491060197614962:=(rfl)
@[go_sem] def amq:au O (.const (.string ⟨#[118,97,114]⟩))=.s 3 7496054:=(rfl)
@[go_sem] def amB:au O (.const (.string ⟨#[108,101,116]⟩))=.s 3 7628140:=(rfl)
@[go_sem] def amM:au O (.const (.string ⟨#[116,101,108]⟩))=.s 3 7103860:=(rfl)
@[go_sem] def amO:au O (.const (.string ⟨#[98,111,111,108]⟩))=.s 4 1819242338:=(rfl)
@[go_sem] def amP:au O (.const (.string ⟨#[105,110,116]⟩))=.s 3 7630441:=(rfl)
@[go_sem] def amQ:au O (.const (.string ⟨#[116,114,117,101]⟩))=.s 4 1702195828:=(rfl)
@[go_sem] def amR:au O (.const (.string ⟨#[102,97,108,115,101]⟩))=.s 5 435728179558:=(rfl)
@[go_sem] def amS:au O (.const (.string ⟨#[110,111,116]⟩))=.s 3 7630702:=(rfl)
@[go_sem] def amg:au O (.const (.string ⟨#[97,110,100]⟩))=.s 3 6581857:=(rfl)
@[go_sem] def amh:au O (.const (.string ⟨#[111,114]⟩))=.s 2 29295:=(rfl)
@[go_sem] def ami:au O (.const (.string ⟨#[120,111,114]⟩))=.s 3 7499640:=(rfl)
@[go_sem] def amj:au O (.const (.string ⟨#[109,111,100]⟩))=.s 3 6582125:=(rfl)
@[go_sem] def amk:au O (.const (.string ⟨#[105,102]⟩))=.s 2 26217:=(rfl)
@[go_sem] def aml:au O (.const (.string ⟨#[116,104,101,110]⟩))=.s 4 1852139636:=(rfl)
@[go_sem] def amm:au O (.const (.string ⟨#[101,108,115,101]⟩))=.s 4 1702063205:=(rfl)
@[go_sem] def amn:au O (.const (.string ⟨#[112,114,101]⟩))=.s 3 6648432:=(rfl)
@[go_sem] def amo:au O (.const (.string ⟨#[102,98,121]⟩))=.s 3 7955046:=(rfl)
@[go_sem] def amp:au O (.const (.string ⟨#[119,104,101,110]⟩))=.s 4 1852139639:=(rfl)
@[go_sem] def amr:au O (.const (.string ⟨#[109,101,114,103,101]⟩))=.s 5 435527247213:=(rfl)
@[go_sem] def ams:au O (.const (.string ⟨#[60,61]⟩))=.s 2 15676:=(rfl)
@[go_sem] def amt:au O (.const (.string ⟨#[62,61]⟩))=.s 2 15678:=(rfl)
@[go_sem] def amu:au O (.const (.string ⟨#[60,62]⟩))=.s 2 15932:=(rfl)
@[go_sem] def amv:au O (.const (.string ⟨#[45,62]⟩))=.s 2 15917:=(rfl)
@[go_sem] def amw:au O (.const (.string ⟨#[40]⟩))=.s 1 40:=(rfl)
@[go_sem] def amx:au O (.const (.string ⟨#[41]⟩))=.s 1 41:=(rfl)
@[go_sem] def amy:au O (.const (.string ⟨#[58]⟩))=.s 1 58:=(rfl)
@[go_sem] def amz:au O (.const (.string ⟨#[59]⟩))=.s 1 59:=(rfl)
@[go_sem] def amA:au O (.const (.string ⟨#[44]⟩))=.s 1 44:=(rfl)
@[go_sem] def amC:au O (.const (.string ⟨#[61]⟩))=.s 1 61:=(rfl)
@[go_sem] def amD:au O (.const (.string ⟨#[43]⟩))=.s 1 43:=(rfl)
@[go_sem] def amE:au O (.const (.string ⟨#[45]⟩))=.s 1 45:=(rfl)
@[go_sem] def amF:au O (.const (.string ⟨#[42]⟩))=.s 1 42:=(rfl)
@[go_sem] def amG:au O (.const (.string ⟨#[47]⟩))=.s 1 47:=(rfl)
@[go_sem] def amH:au O (.const (.string ⟨#[60]⟩))=.s 1 60:=(rfl)
@[go_sem] def amI:au O (.const (.string ⟨#[62]⟩))=.s 1 62:=(rfl)
@[go_sem] def amJ:au O (.const (.string ⟨#[110,101,103]⟩))=.s 3 6776174:=(rfl)
@[go_sem] def amK:au O (.const (.string ⟨#[99,97,108,108]⟩))=.s 4 1819042147:=(rfl)
@[go_sem] def amL:au O (.const (.string ⟨#[]⟩))=.s 0 0:=(rfl)
@[go_sem] def amN:au O (.const (.string ⟨#[40,41,58,59,44,61,43,45,42,47,60,62]⟩))=.s 12 19260828887342980396431845672:=(rfl)
def ft{l:L AV}:jU (no_index 0) l=[]:=R
def fp{n:Nat}{l:L AV}:jU (no_index (n+1)) l=l++jU n l:=R
def bF{l r:L AV}{a:AV}:dz l i (a::r)=dz (l.set i a) (i+1) r:=R
@[go_sem] def alE{w a:BN}:(d.X w).put d.h a=d.X a:=by
 show HN.mk _ _=HN.mk _ _;congr 1;funext b
 show(if b=d.h then a else if b=d.h then w else d.f b)=if b=d.h then a else d.f b
 split<;>rfl
@[go_sem] def ank{z:AV}:List.replicate 21 z=[z,z,z,z,z,z,z,z,z,z,z,z,z,z,z,z,z,z,z,z,z]:=(rfl)
def MN(A B:L (L AV))(x:L AV)(j:Nat)(v:AV)(a:∀l∈A,N l=s)(b:j<N x):((A++x::B).flatten).set (N A*s+j) v=(A++x.set j v::B).flatten:=by
 have e:=jZ A a;grind
def Ee(l:L Vr):∀r∈l.map Vr.cells,N r=5:=λr a=>by
 obtain⟨v,_,rfl⟩:=cN.1 a
 rfl
end
section
variable {U:HN}{pb:Nat}{y:AV}{L:List Wd}{d:Nat}{p:PS}{Q:AV->HN->Prop}
def lf(h:PA U pb y L d p)(k:∀a,ai U.h U a->Q (.g (wd L p).cells) a):∃v a,aq tz 90 [.p pb 0] U v a/\Q v a:=by
 refine cf Wz func90 ?_;obtain⟨b,off,cap,a,row,rfl,b,a,a,a,a⟩:=h.row;have c:=h.D;have e:=h.I;have e:=h.k;have e:=h.g.2.1;have e:(wd L p).cells=[II (wd L p).k,.s (wd L p).t.1 (wd L p).t.2,II (wd L p).n,II (wd L p).a]:=rfl;rw[e] at k a;refine S3 c b a ?_;refine k _ ?_;exact .X (ak _)
def afG{n m:Nat}(h:9223372036854775807<n)(a:m<9223372036854775808):fU .i64 n m=true:=by
 have a:cT .i64 n=false:=by
  cases b:cT .i64 n with
  |false=>rfl
  |true=>exact absurd (gP.1 b) (by show¬Nat.succ n<=9223372036854775808;omega)
 have b:cT .i64 m=true:=gP.2 (show Nat.succ m<=9223372036854775808 by omega);unfold fU;rw[a,b];rfl
def yD(h:PA U pb y L d p){b:Nat}(j:0<b/\b<8)(k:∀a,PA a pb y L d (iQ L b p)->ax pb U a->Q (.t []) a):∃v a,aq tz 91 [.p pb 0,b] U v a/\Q v a:=by
 refine c0 func91 ?_;have c:=h.D;have i:=h.I;by_cases f:p.e=0
 .rw[f] at c;refine S1 c ?_;refine al (lf h λa g=>?_);have e:a.f pb=_:=(g.2 pb i).t c;have i:(wd L p).cells=[II (wd L p).k,.s (wd L p).t.1 (wd L p).t.2,II (wd L p).n,II (wd L p).a]:=rfl;rw[i];refine S1 e ?_;have e:iQ L b p={p with e:=b,b:=(wd L p).a}:=ae f;have X:ax pb U (a.put pb (LL [y,p.k,b,II (wd L p).a,d,p.p,p.x])):=((ax.refl pb U).of g).put;refine k _ ?_ X;rw[e];exact h.put X (ae rfl) h.k j.2 (h.g.2.2.2 _ (ajN h.k)).2.2 h.q h.n
 .refine S1 c ?_;refine k _ ?_ (.refl _ _);rw[show iQ L b p=p from ac f];exact h
def lO(h:PA U pb y L d p)(s:S)(k:∀a,ai U.h U a->Q (.l (aN L s p)) a):∃v a,aq tz 152 [.p pb 0,s] U v a/\Q v a:=by
 refine c0 func152 ?_;have c:=h.D;have e:=h.I;have g:(wd L p).cells=[II (wd L p).k,.s (wd L p).t.1 (wd L p).t.2,II (wd L p).n,II (wd L p).a]:=rfl;refine S0 ?_;refine al (lf h λa b=>?_);have a:=(b.2 pb e).t c;have l:=h.fS b;rw[g];by_cases f:p.e=0
 .rw[f] at a;by_cases c:(wd L p).k=2
  .rw[c];refine S1 a ?_;refine al (lf l λj i=>?_);rw[g];simp(disch:=omega)only[go_sem,bz];have e:aN L s p=decide ((wd L p).t=s):=by unfold aN;simp[f,c]
   rw[<-e];exact k _ (b.M (i.mono b.1))
  .by_cases m:(wd L p).k=4
   .rw[m];refine S1 a ?_;refine al (lf l λj i=>?_);rw[g];simp(disch:=omega)only[go_sem,bz];have e:aN L s p=decide ((wd L p).t=s):=by unfold aN;simp[f,m]
    rw[<-e];exact k _ (b.M (i.mono b.1))
   .refine S1 a ?_;have e:aN L s p=false:=aA Y;rw[<-e];exact k _ b
 .have e:aN L s p=false:=aA Y;rw[e] at k;by_cases c:(wd L p).k=2
  .rw[c];refine S1 a ?_;exact k _ b
  .refine S1 a ?_;exact k _ b
def K8{s:S}(h:PA U pb y L d p)(e:aN L s p=true):p.k+1<L.length:=Ae h.g h.k (om ((qo e).2.1))
def mD(h:PA U pb y L d p)(s:S)(k:∀a,PA a pb y L d (fJ L s p)->ax pb U a->Q (.l (aN L s p)) a):∃v a,aq tz 132 [.p pb 0,s] U v a/\Q v a:=by
 refine c0 func132 ?_;have e:=h.D;have f:=h.I;have a:=h.g.2.1;have a:=h.k;refine S0 ?_;refine al (lO h s λa b=>?_);have c:a.f pb=_:=(b.2 pb f).t e;unfold fJ at k;cases e:aN L s p with
 |true=>
  rw[e] at k;refine S1 c ?_;have X:ax pb U (a.put pb (LL [y,II (p.k+1),p.e,p.b,d,p.p,p.x])):=((ax.refl pb U).of b).put;refine k _ ?_ X;exact h.put (a:=bm p) X (ae rfl) (K8 h e) h.e h.b h.q h.n
 |false=>
  rw[e] at k;refine S0 ?_;exact k _ (h.fS b) ((ax.refl pb U).of b)
def nQ(h:PA U pb y L d p)(s:S)(k:∀a,PA a pb y L d (aV L s p)->ax pb U a->Q (.t []) a):∃v a,aq tz 129 [.p pb 0,s] U v a/\Q v a:=by
 refine c0 func129 ?_;refine S0 ?_;refine al (mD h s λa a b=>?_);unfold aV at k;unfold fJ at a;cases e:aN L s p with
 |true=>
  rw[e] at k a;refine S0 ?_;exact k _ a b
 |false=>
  rw[e] at k a;refine S0 ?_;refine al (yD a (b:=7) Y λa a c=>?_);refine S0 ?_;exact k _ a (b.M c)
def vn(h:PA U pb y L d p)(k:∀a,PA a pb y L d (aG L p).2->ax pb U a->Q (sV (aG L p).1) a):∃v a,aq tz 130 [.p pb 0] U v a/\Q v a:=by
 refine cf VF func130 ?_;have i:=h.D;have o:=h.I;have a:=h.g.2.1;have a:=h.k;have l:(wd L p).cells=[II (wd L p).k,.s (wd L p).t.1 (wd L p).t.2,II (wd L p).n,II (wd L p).a]:=rfl;unfold aG at k;by_cases f:p.e=0
 .have a:=i;rw[f] at a;refine S1 a ?_;refine al (lf h λc e=>?_);have j:c.f pb=_:=(e.2 pb o).t i;have m:=h.fS e;rw[l];by_cases g:(wd L p).k=1
  .rw[ae ⟨f,g⟩] at k;rw[g];obtain⟨b,off,cap,a,row,rfl,q,a,a,a,n⟩:=m.row;rw[l] at n;have a:row[off+p.k*4+1]?=some (.s (wd L p).t.1 (wd L p).t.2):=by
    have:=dv (λl=>l[1]?) n
    simpa [qG,mG] using this
   have l:row.getD (off+(p.k+1-1)*4+1) bp=.s (wd L p).t.1 (wd L p).t.2:=by
    rw[BW,cA,a];rfl
   refine S3 j q l ?_;have X:ax pb U (c.put pb (LL [.a b off L.length cap,II (p.k+1),p.e,p.b,d,p.p,p.x])):=((ax.refl pb U).of e).put;refine k _ ?_ X;exact h.put (a:=bm p) X (ae rfl) (Ae h.g h.k Y) h.e h.b h.q h.n
  .rw[ac (λq=>g q.2)] at k;refine S0 ?_;refine al (yD m (b:=7) Y λc a b=>?_);refine S0 ?_;exact k _ a (((ax.refl pb U).of e).M b)
 .rw[ac (λq=>f q.1)] at k;refine S1 i ?_;refine al (yD h (b:=7) Y λc a b=>?_);refine S0 ?_;exact k _ a b
def oA(h:PA U pb y L d p)(k:∀a,PA a pb y L d (bf L p)->ax pb U a->Q (.t []) a):∃v a,aq tz 171 [.p pb 0] U v a/\Q v a:=by
 refine c0 func171 ?_;have l:=h.D;have a:=h.q;have b:∀(q:PS) (a:HN),q.p=p.p->rZ L p=q->PA a pb y L d q->ax pb U a->Q (.t []) (a.put pb (LL [y,q.k,q.e,q.b,d,II ((p.p+1)%18446744073709551616),q.x])):=by
  intro q a c e c f;refine k _ ?_ f.put;have f:bf L p={q with p:=(p.p+1)%18446744073709551616}:=by unfold bf;rw[e]
  rw[f];exact c.put ((ax.refl pb a).put) (ae rfl) c.k c.e c.b (BZ _ Y) c.n
 by_cases c:p.e=0
 .have a:=l;rw[c] at a;by_cases i:300<=p.p
  .by_cases j:p.p<9223372036854775808
   .refine S1 a ?_;refine al (yD h (b:=2) Y λe e m=>?_);have f:=e.D;have g:(iQ L 2 p).p=p.p:=by unfold iQ;rw[ae c]
    rw[g] at f;refine S1 f ?_
    have:=b _ _ g (ae ⟨c,i,j⟩) e m
    rw[TT (show p.p+1<_ by omega)] at this;exact this
   .have e:=afG (n:=p.p) (m:=300) Y Y;refine S2 a e ?_
    have:=b _ _ rfl (ac (λq=>j q.2.2)) h (.refl _ _)
    rw[c] at this;exact this
  .refine S1 a ?_
   have:=b _ _ rfl (ac (λq=>i q.2.1)) h (.refl _ _)
   rw[c,TT (show p.p+1<_ by omega)] at this;exact this
 .refine S1 l ?_;exact b _ _ rfl (ac (λq=>c q.1)) h (.refl _ _)
def aey(h:PA U pb y L d p)(a:d<=30)(f:p.e≠0->PA U pb y L d p->Q (.l false) U)(g:p.e=0->d=30->∀a,PA a pb y L d (iQ L 2 p)->ax pb U a->Q (.l false) a)(i:p.e=0->d<30->∀a,PA a pb y L (d+1) p->ax pb U a->Q (.l true) a):∃v a,aq tz 154 [.p pb 0] U v a/\Q v a:=by
 refine c0 func154 ?_;have e:=h.D;by_cases b:p.e=0
 .have a:=e;rw[b] at a;by_cases c:d=30
  .subst c;refine S1 a ?_;refine al (yD h (b:=2) Y λj c j=>?_);refine S0 ?_;exact g b rfl _ c j
  .refine S1 a ?_;have X:ax pb U (U.put pb (LL [y,p.k,II 0,p.b,II (d+1),p.p,p.x])):=(ax.refl pb U).put;exact i b Y _ (h.put X (by rw[b];exact ae rfl) h.k h.e h.b h.q h.n) X
 .refine S1 e ?_;exact f b h
end
end
section
open Tryz
variable {x:AV}{t:HN}{m:L (L AV)}{a b f h s:Nat}
section
variable {U U':HN}{pb:Nat}{y:AV}{L:List Wd}{d:Nat}{p:PS}{Q:AV->HN->Prop}{F G:Nat->Prop}{e:Tr}{z:List AV}
def nI(r:bn F U e z)(x:ax pb U U')(f:¬F pb):bn F U' e z:=gq (λb a c=>x.2 b c (λe=>f (e▸a))) x.1 (λ_ h=>h) _ _ r
def rp(r:bn F U e z)(x:ai U.h U U'):bn F U' e z:=gq (λb _ a=>x.2 b a) x.1 (λ_ h=>h) _ _ r
def mT{c:Nat}{w:BN}(r:bn F U e z)(f:¬F c):bn F (U.put c w) e z:=gq (U:=U) (e:=U.put c w) (λb a _=>by show(if b=c then w else U.f b)=U.f b;exact ac (λq:b=c=>f (q▸a))) (ak _) (λ_ h=>h) _ _ r
def Xe{w:BN}(r:bn F U e z):bn F (U.X w) e z:=rp r (.X (ak _))
def pe(r:bn F U e z)(h:∀b,F b->G b):bn G U e z:=gq (λ_ _ _=>rfl) (ak _) h _ _ r
def cJ(r:bn F U e z):∃(a b:S) (c d:Nat) (y:AV),z=[.s a.1 a.2,.s b.1 b.2,II c,II d,y]:=by
 cases e with
 |mk op f n a b=>
  unfold bn at r;obtain⟨y,rfl,_⟩:=r;exact⟨op,f,n,a,y,rfl⟩
def sY:bn F U E0 [.s 0 0,.s 0 0,II 0,II 0,.e]:=by
 unfold E0 bn;exact⟨.e,rfl,λ_ h=>h.elim,[],.inl ⟨rfl,.inl rfl⟩,by unfold cw;rfl⟩
def DN{c b:S}{n:Nat}:bn F U (.mk c b n a []) [c,b,n,a,.e]:=by
 unfold bn;exact⟨.e,rfl,λ_ h=>h.elim,[],.inl ⟨rfl,.inl rfl⟩,by unfold cw;rfl⟩
def Mh{l k:S}{n j:Nat}{g:Cp}{i:List Tr}{f:List AV}(o:F b)(q:U.f b=LL f)(r:f=m.flatten)(c:j=m.length)(s:b<U.h)(h:cw F U i m):
  bn F U (.mk l k n a i) [l,k,n,a,.a b 0 j g]:=by
 subst r;subst c;unfold bn;exact⟨_,rfl,λc r=>by obtain rfl:b=c:=r;exact o,m,aK.bT m q s (kI h).2,h⟩
def Xg{b:Tr}{a:List AV}(c:bn F U b a):cw F U [b] [a]:=by
 unfold cw;exact⟨a,[],rfl,c,by unfold cw;rfl⟩
def Xh{c f:Tr}{a b:List AV}(g:bn F U c a)(h:bn F U f b):cw F U [c,f] [a,b]:=by
 unfold cw;exact⟨a,[b],rfl,g,Xg h⟩
def ahP{f g h:Tr}{a b c:List AV}(i:bn F U f a)(j:bn F U g b)(k:bn F U h c):cw F U [f,g,h] [a,b,c]:=by
 unfold cw;exact⟨a,[b,c],rfl,i,Xh j k⟩
def jR{w:BN}(h:PA U pb y L d p):∃a,a=U.X w/\PA a pb y L d p/\a.f U.h=w/\a.h=U.h+1/\ax pb U a/\ai U.h U a:=⟨_,rfl,h.X,ae rfl,rfl,(ax.refl _ _).X,.X (ak _)⟩
def np(f:FuncId)(L:List Wd)(d:Nat)(O:PS->Tr×PS):Prop:=
 ∀(U:HN) (pb:Nat) (y:AV) (p:PS) (Q:AV->HN->Prop),PA U pb y L d p->(∀z U',bn (kJ U.h U'.h) U' (O p).1 z->PA U' pb y L d (O p).2->ax pb U U'->Q (.g z) U')->∃v U',aq Tryz.prog f [.p pb 0] U v U'/\Q v U'
def rL(L:List Wd)(d lv:Nat)(O:PS->Tr×PS):Prop:=
 ∀(U:HN) (pb:Nat) (y:AV) (p:PS) (Q:AV->HN->Prop),PA U pb y L d p->(∀z U',bn (kJ U.h U'.h) U' (O p).1 z->PA U' pb y L d (O p).2->ax pb U U'->Q (.g z) U')->∃v U',aq Tryz.prog 170 [.p pb 0,lv] U v U'/\Q v U'
def OH(L:List Wd)(d:Nat)(F:dn):Prop:=np 155 L (d+1) F.a/\np 183 L (d+1) F.f/\np 200 L (d+1) F.B/\np 204 L (d+1) F.p
def tw(L:List Wd)(G:Option dn)(d:Nat):Prop:=match G with|none=>d=30|some F=>d<30/\OH L d F
def yK{G:Option dn}(D:tw L G d)(h:PA U pb y L d p)(g:qn G p=none->∀U',PA U' pb y L d (wV L G p)->ax pb U U'->Q (.l false) U')
  (k:∀F,qn G p=some F->OH L d F->∀U',PA U' pb y L (d+1) p->ax pb U U'->Q (.l true) U'):∃v U',aq Tryz.prog 154 [.p pb 0] U v U'/\Q v U':=by
 have a:d<=30:=by
  cases G with
  |none=>exact BX D
  |some F=>exact zU D.1
 refine aey h a (λa b=>?_) (λa f U' b c=>?_) (λa f U' b c=>?_)
 .have i:qn G p=none:=ac a;have j:wV L G p=p:=by
   unfold wV;cases G with
   |none=>exact ac a
   |some F=>rfl
  refine g i U ?_ (.refl _ _);rw[j];exact b
 .cases G with
  |none=>exact g (by unfold qn;rw[ae a]) U' b c
  |some F=>exact absurd f (om D.1)
 .cases G with
  |none=>
   have:d=30:=D
   omega
  |some F=>exact k F (by unfold qn;rw[ae a]) D.2 U' b c
def Bf{c:Nat}(r:bn F U e z)(h:∀b,b<U.h->b≠pb->b≠c->U'.f b=U.f b)(i:U.h<=U'.h)(f:∀b,F b->G b/\b≠pb/\b≠c):bn G U' e z:=
 gq (λb a g=>h b g (f b a).2.1 (f b a).2.2) i (λb a=>(f b a).1) _ _ r
def DM{c:Nat}{g:Nat->Prop}{i:Tr}{h:List AV}{k j:S}{n:Nat}{f:Cp}(s:bn g U i h)(r:∀b,g b->G b/\b≠pb/\b≠c)
  (o:∀b,b<U.h->b≠pb->b≠c->U'.f b=U.f b) (q:U.h<=U'.h) (m:U'.f b=LL h) (g:b<U'.h) (l:G b):
  bn G U' (.mk k j n a [i]) [k,j,n,a,.a b 0 1 f]:=
 Mh (m:=[h]) l m dp rfl g (Xg (Bf s o q r))
def wY{c:Nat}{g j:Nat->Prop}{k l:Tr}{h i:List AV}{q o:S}{n:Nat}{f:Cp}(v:bn g U k h)(w:bn j U l i)(t:∀b,g b->G b/\b≠pb/\b≠c)(u:∀b,j b->G b/\b≠pb/\b≠c)
  (j:∀b,b<U.h->b≠pb->b≠c->U'.f b=U.f b) (m:U.h<=U'.h) (s:U'.f b=LL (h++i)) (g:b<U'.h) (r:G b):
  bn G U' (.mk q o n a [k,l]) [q,o,n,a,.a b 0 2 f]:=
 Mh (m:=[h,i]) r s dp rfl g (Xh (Bf v j m t) (Bf w j m u))
def ahN{c:Nat}{g h i:Nat->Prop}{m o q:Tr}{j k l:List AV}{s r:S}{n:Nat}{f:Cp}(B:bn g U m j)(D:bn h U o k)(I:bn i U q l)(v:∀b,g b->G b/\b≠pb/\b≠c)(w:∀b,h b->G b/\b≠pb/\b≠c)(x:∀b,i b->G b/\b≠pb/\b≠c)
  (h:∀b,b<U.h->b≠pb->b≠c->U'.f b=U.f b) (i:U.h<=U'.h) (u:U'.f b=LL (j++(k++l))) (g:b<U'.h) (t:G b):
  bn G U' (.mk s r n a [m,o,q]) [s,r,n,a,.a b 0 3 f]:=
 Mh (m:=[j,k,l]) t u dp rfl g (ahP (Bf B h i v) (Bf D h i w) (Bf I h i x))
def dK{n:Nat}{l:List AV}(o:aH s h U x n l)(f:∀b,h<=b->b<U.h->U'.f b=U.f b)(a:U.h<=U'.h):aH s h U' x n l:=by
 obtain⟨a,q|⟨c,b,q2,g⟩⟩:=o
 .exact⟨a,.inl q⟩
 .refine⟨a,.inr ⟨c,b,Y,?_⟩⟩;rw[f c b q2];exact g
def cz{n:Nat}{l:List AV}(o:aH s h U x n l)(a:ar x b):h<=b/\b<U.h:=by
 obtain⟨_,⟨rfl,_⟩|⟨c,f,g,⟨rfl,_⟩|⟨rfl,_⟩⟩⟩:=o
 .exact a.elim
 .obtain rfl:c=b:=a;exact⟨f,g⟩
 .obtain rfl:c=b:=a;exact⟨f,g⟩
def oz(o:aH s h U x m.length m.flatten)(b:∀l∈m,l.length=s):aK s U x m:=by
 obtain⟨a,⟨rfl,q⟩|⟨c,a,q2,⟨rfl,a,_⟩|⟨rfl,a⟩⟩⟩:=o
 .exact .inl ⟨ff q,.inl rfl⟩
 .exact .inl ⟨ff a,.inr ⟨_,_,_,rfl⟩⟩
 .exact aK.bT m a q2 b
def oW{b:Type}(a:List (List b))(l:List b):(a++[l]).flatten=a.flatten++l:=by
 rw[nh];simp
def Bg{a:List Tr}(f:∀b,F b->b<U.h->U'.f b=U.f b)(g:U.h<=U'.h)(c:∀b,F b->G b)(r:cw F U a m):cw G U' a m:=sa f g c _ _ r
def Xf{i g:S}{n:Nat}{f:List Tr}(o:aH 5 h U x m.length m.flatten)(r:cw F U f m)(j:∀b,F b->G b)(k:∀b,h<=b->b<U.h->G b):
  bn G U (.mk i g n a f) [i,g,n,a,x]:=by
 unfold bn;exact⟨x,rfl,λb c=>k b (cz o c).1 (cz o c).2,m,oz o (kI r).2,Bg (λ_ _ _=>rfl) (ak _) j r⟩
section
variable {C:Spec}{dd:Option Nat}{O:FN}
def tm{w n m:Nat}{y:AV}{l k:List AV}{c:FN->HN->Prop}(j:0<s)(q:aH s f U x n l)(r:cD s U y m k)(i:0<m)(a:(n+m)*w<=140737488355328)(g:f<=U.h)
  (h:∀U',aH s f U' (.a U.h 0 (n+m) (.B s)) (n+m) (l++k)->U'.h=U.h+1->(∀b,b<U.h->¬ar x b->U'.f b=U.f b)->c (be dd (.a U.h 0 (n+m) (.B s)) O) U'):mY C (gj s w x y U) t dd c O:=by
 let⟨U',e,o,c,b⟩:=oS (w:=w) j q r i a g;rw[e];exact h U' o c b
end
end
variable {y:AV}{g:AV->HN->Prop}
section
variable {L:List Wd}{d:Nat}{G:Option dn}
def CF(D:tw L G d):d<=30:=by
 cases G with
 |none=>exact BX D
 |some F=>exact zU D.1
def Rx(D:tw L G d):np 134 L d (dU L G):=by
 intro j l y p Q h k;have a:=CF D;refine c0 func134 ?_;have a:=h.I;refine S0 ?_;let⟨_,a,b,c0,_,m,c⟩:=jR (w:=LL [.s 0 0,.s 0 0,II 0,II 0,.e]) h;rw[<-a];refine al (yK D b (λg b f a=>?_) (λF g i b f a=>?_))
 .have c:=(a.2 j.h Y Y).t c0;refine S1 c ?_;have e:dU L G p=(E0,wV L G p):=by unfold dU gm;rw[g]
  rw[e] at k;exact k _ _ sY (f.dh Y (h.fresh (ak _))) ((m.M a).be (ak _))
 .have c:=(a.2 j.h Y Y).t c0;refine S0 ?_;refine al (i.1 b l y p _ f λb l b f i=>?_);have o:=fN b;have n:=a.1;have n:=i.1;have n:=(i.2 j.h Y Y).t c;have c:=f.D;have j:=f.I;refine S3 o c n ?_;have e:dU L G p=F.a p:=by unfold dU gm;rw[g]
  rw[e] at k;refine k _ _ (pe (mT (mT (Xe b) (λq=>om q.1)) (λq=>om q.1)) (λb q=>⟨om q.1,by have:=q.2;show b<l.h+1;omega⟩)) ?_ ?_
  .exact(f.X.zr (a:=d)).dh Y (h.fresh (ak _))
  .exact((((m.M a).M i).X).put).be (ak _)
def aeC(D:tw L G d):np 205 L d (qX L G):=by
 intro j l y p Q h k;have a:=CF D;refine c0 func205 ?_;have a:=h.I;refine S0 ?_;let⟨_,a,b,c0,_,m,c⟩:=jR (w:=LL [.s 0 0,.s 0 0,II 0,II 0,.e]) h;rw[<-a];refine al (yK D b (λg b f a=>?_) (λF g i b f a=>?_))
 .have c:=(a.2 j.h Y Y).t c0;refine S1 c ?_;have e:qX L G p=(E0,wV L G p):=by unfold qX gm;rw[g]
  rw[e] at k;exact k _ _ sY (f.dh Y (h.fresh (ak _))) ((m.M a).be (ak _))
 .have c:=(a.2 j.h Y Y).t c0;refine S0 ?_;refine al (i.2.2.2 b l y p _ f λb l b f i=>?_);have o:=fN b;have n:=a.1;have n:=i.1;have n:=(i.2 j.h Y Y).t c;have c:=f.D;have j:=f.I;refine S3 o c n ?_;have e:qX L G p=F.p p:=by unfold qX gm;rw[g]
  rw[e] at k;refine k _ _ (pe (mT (mT (Xe b) (λq=>om q.1)) (λq=>om q.1)) (λb q=>⟨om q.1,by have:=q.2;show b<l.h+1;omega⟩)) ?_ ?_
  .exact(f.X.zr (a:=d)).dh Y (h.fresh (ak _))
  .exact((((m.M a).M i).X).put).be (ak _)
def wu{c:HN}{b:Nat}{p:PS}(s:S)(h:PA c b y L d (bf L p))(k:∀a,PA a b y L d (cZ L s p)->ax b c a->g (.l (aN L s (bf L p))) a):∃v a,aq Tryz.prog 132 [.p b 0,s] c v a/\g v a:=mD h s k
def adI(D:tw L G d)(W:np 192 L d (lW L G)):np 183 L d (pK L G):=by
 intro C pb y p Q h k;have c:=CF D;refine c0 func183 ?_;have c:=h.I;refine S0 ?_;let⟨c,g,l,c0,_,m,B⟩:=jR (w:=LL [.s 0 0,.s 0 0,II 0,II 0,.e]) h;rw[<-g];refine al (W c pb y p _ l λB c t g f=>?_);have x:=fN t;have c:=f.1;have P:=(f.2 C.h Y Y).t c0;refine S1 x ?_;let⟨_,c,l,V,_,I,F⟩:=jR (w:=LL B) g;rw[<-c];refine al (lf l λc g=>?_);have c:(wd L (lW L G p).2).cells=[II (wd L (lW L G p).2).k,.s (wd L (lW L G p).2).t.1 (wd L (lW L G p).2).t.2,II (wd L (lW L G p).2).n,II (wd L (lW L G p).2).a]:=rfl;rw[c];refine S0 ?_;refine al (lO (l.fS g) dk λo B=>?_);have c:=g.1;have c:=B.1;have c:=g.M (B.mono g.1);have w:=l.fS c;have n:=(c.2 _ Y).t (((F.2 _ Y)).t P);have v:=(c.2 _ Y).t V;have i:=I.of c;have z:=nI t i (λq=>om q.1);unfold pK at k;dsimp only at k;cases e:aN L dk (lW L G p).2 with
 |false=>
  rw[e] at k;refine S3 n v x ?_;refine k _ _ (pe (mT z (λq=>om q.1)) (λb q=>⟨om q.1,by have:=q.2;show b<o.h;omega⟩)) (w.dh Y (h.fresh (ak _))) (((m.M f).M i).be (ak _))
 |true=>
  rw[e] at k;refine S0 ?_;refine al (oA w λc e c=>?_);refine S0 ?_;refine al (wu dk e λe e l=>?_);refine S0 ?_;refine al (yK D e (λs g o e=>?_) (λF s p g o e=>?_))
  .have x:=c.1;have w:=(((c.M l).M e).2 _ Y Y).t n;refine S1 w ?_;unfold gm at k;rw[ae rfl,s] at k;exact k _ _ sY (o.dh Y (h.fresh (ak _))) ((((((m.M f).M i).M c).M l).M e).be (ak _))
  .have x:=c.1;have w:=l.1;have w:=e.1;have w:=(c.M l).M e;refine S0 ?_;refine al (p.2.1 g pb y _ _ o λc a u r c=>?_);have e:=c.1;have j:=w.M c;have c8:=(j.2 _ Y Y).t n;have d8:=(j.2 _ Y Y).t v;have K:=r.D;have c:=r.I;have l8:=fN u;have s1:=nI z j (λq=>om q.1);obtain⟨c,c,c,c,c,rfl⟩:=cJ t;obtain⟨c,f2,f3,f4,f5,rfl⟩:=cJ u;refine S4 l8 K c8 d8 ?_;unfold gm at k;rw[ae rfl,s] at k;refine k _ _ (wY (c:=C.h) (pb:=pb) s1 u (λb q=>⟨⟨om q.1,by have:=q.2;show b<a.h+1+1;omega⟩,om q.1,om q.1⟩) (λb q=>⟨⟨om q.1,by have:=q.2;show b<a.h+1+1;omega⟩,om q.1,om q.1⟩)
    (λb b q2 b=>by simp(disch:=omega)only[go_sem]) (by show a.h<=a.h+1+1;omega) (by simp(disch:=omega)only[go_sem]) (by show a.h+1<a.h+1+1;omega) ⟨Y,by show a.h+1<a.h+1+1;omega⟩) ?_ ?_
   .exact(r.X.zr (a:=d)).X.dh Y (h.fresh (ak _))
   .exact(((((m.M f).M i).M j).X.put).X).be (ak _)
def aa5(D:tw L G d)(W:rL L d 0 (bP L G 5)):np 155 L d (qP L G):=by
 intro C pb y p Q h k;have c:=CF D;refine c0 func155 ?_;have c:=h.I;refine S0 ?_;let⟨c,g,l,c0,_,m,B⟩:=jR (w:=LL [.s 0 0,.s 0 0,II 0,II 0,.e]) h;rw[<-g];refine al (W c pb y p _ l λB c t g f=>?_);have x:=fN t;have c:=f.1;have P:=(f.2 C.h Y Y).t c0;refine S1 x ?_;let⟨_,c,l,V,_,I,F⟩:=jR (w:=LL B) g;rw[<-c];refine al (lf l λc g=>?_);have c:(wd L (bP L G 5 p).2).cells=[II (wd L (bP L G 5 p).2).k,.s (wd L (bP L G 5 p).2).t.1 (wd L (bP L G 5 p).2).t.2,II (wd L (bP L G 5 p).2).n,II (wd L (bP L G 5 p).2).a]:=rfl;rw[c];refine S0 ?_;refine al (lO (l.fS g) jJ λo B=>?_);have c:=g.1;have c:=B.1;have c:=g.M (B.mono g.1);have w:=l.fS c;have n:=(c.2 _ Y).t (((F.2 _ Y)).t P);have v:=(c.2 _ Y).t V;have i:=I.of c;have z:=nI t i (λq=>om q.1);unfold qP at k;dsimp only at k;cases e:aN L jJ (bP L G 5 p).2 with
 |false=>
  rw[e] at k;refine S3 n v x ?_;refine k _ _ (pe (mT z (λq=>om q.1)) (λb q=>⟨om q.1,by have:=q.2;show b<o.h;omega⟩)) (w.dh Y (h.fresh (ak _))) (((m.M f).M i).be (ak _))
 |true=>
  rw[e] at k;refine S0 ?_;refine al (oA w λc e c=>?_);refine S0 ?_;refine al (wu jJ e λe e l=>?_);refine S0 ?_;refine al (yK D e (λs g o e=>?_) (λF s p g o e=>?_))
  .have x:=c.1;have w:=(((c.M l).M e).2 _ Y Y).t n;refine S1 w ?_;unfold gm at k;rw[ae rfl,s] at k;exact k _ _ sY (o.dh Y (h.fresh (ak _))) ((((((m.M f).M i).M c).M l).M e).be (ak _))
  .have x:=c.1;have w:=l.1;have w:=e.1;have w:=(c.M l).M e;refine S0 ?_;refine al (p.1 g pb y _ _ o λc a u r c=>?_);have e:=c.1;have j:=w.M c;have c8:=(j.2 _ Y Y).t n;have d8:=(j.2 _ Y Y).t v;have K:=r.D;have c:=r.I;have l8:=fN u;have s1:=nI z j (λq=>om q.1);obtain⟨c,c,c,c,c,rfl⟩:=cJ t;obtain⟨c,f2,f3,f4,f5,rfl⟩:=cJ u;refine S4 l8 K c8 d8 ?_;unfold gm at k;rw[ae rfl,s] at k;refine k _ _ (wY (c:=C.h) (pb:=pb) s1 u (λb q=>⟨⟨om q.1,by have:=q.2;show b<a.h+1+1;omega⟩,om q.1,om q.1⟩) (λb q=>⟨⟨om q.1,by have:=q.2;show b<a.h+1+1;omega⟩,om q.1,om q.1⟩)
    (λb b q2 b=>by simp(disch:=omega)only[go_sem]) (by show a.h<=a.h+1+1;omega) (by simp(disch:=omega)only[go_sem]) (by show a.h+1<a.h+1+1;omega) ⟨Y,by show a.h+1<a.h+1+1;omega⟩) ?_ ?_
   .exact(r.X.zr (a:=d)).X.dh Y (h.fresh (ak _))
   .exact(((((m.M f).M i).M j).X.put).X).be (ak _)
end
end
section
section
variable {L:List Wd}{d:Nat}{G:Option dn}
def ajF(D:tw L G d)(W:np 204 L d (oB L G)):np 200 L d (pA L G):=by
 intro f pb y p Q h k;have a:=CF D;refine c0 Tryz.func200 ?_;have a:=h.I;refine S0 ?_;let⟨_,a,c,c0,_,g,b⟩:=jR (w:=LL [.s 0 0,.s 0 0,II 0,II 0,.e]) h;rw[<-a];refine al (lf c λb a=>?_);have e:(wd L p).cells=[II (wd L p).k,.s (wd L p).t.1 (wd L p).t.2,II (wd L p).n,II (wd L p).a]:=rfl;rw[e];have e:=c.fS a;have c:=a.1;have i:b.f f.h=_:=(a.2 _ Y).t c0;have c:=g.of a;refine S0 ?_;unfold pA at k;refine al (lO e fB λb a=>?_);have g:=a.1;have h2:=e.fS a;have X2:=c.of a;have c2:b.f f.h=_:=(a.2 _ Y).t i;cases e2:aN L fB p with
 |true=>
  rw[e2,ae rfl] at k;refine S0 ?_;have l:aI 3 7630702 0 0=false:=rfl;refine S1 l ?_;refine al (oA h2 λa e i=>?_);have n5:=i.1;have u:a.f f.h=_:=(i.2 _ Y Y).t c2;have n:=e.D;have k5:=e.k;have g5:=e.g.2.1;unfold nP at k;by_cases m:(bf L p).e=0
  .rw[ae m] at k;rw[m] at n;refine S1 n ?_;have w5:(wd L p).k≠0:=by have:=(qo e2).2.1;omega
   have C:(bf L p).k=p.k:=by
    unfold bf rZ iQ;split<;>(try split)<;>rfl
   have V:PA (a.put pb (LL [y,II ((bf L p).k+1),II 0,II (bf L p).b,d,II (bf L p).p,II (bf L p).x])) pb y L d (bm (bf L p)):=
    e.put (a:=bm (bf L p)) (ax.refl pb a).put (by rw[<-m];exact ae rfl) (by show(bf L p).k+1<_;rw[C];exact Ae h.g h.k w5) e.e e.b e.q e.n
   have x:(a.put pb (LL [y,II ((bf L p).k+1),II 0,II (bf L p).b,d,II (bf L p).p,II (bf L p).x])).f f.h=_:=(ac Y).t u;have v:ax pb f (a.put pb (LL [y,II ((bf L p).k+1),II 0,II (bf L p).b,d,II (bf L p).p,II (bf L p).x])):=(X2.M i).put;have n6:(a.put pb (LL [y,II ((bf L p).k+1),II 0,II (bf L p).b,d,II (bf L p).p,II (bf L p).x])).h=a.h:=rfl;generalize a.put pb (LL [y,II ((bf L p).k+1),II 0,II (bf L p).b,II d,II (bf L p).p,II (bf L p).x])=a1 at*;refine al (yK D V (λs g o j=>?_) (λF s B g o j=>?_))
   .have K:g.f f.h=_:=(j.2 _ Y Y).t x;refine S1 K ?_;unfold gm at k;rw[s] at k;exact k _ _ sY (o.dh Y (h.fresh (ak _))) ((v.M j).be (ak _))
   .have n7:=j.1;refine S0 ?_;refine al (B.2.2.1 g pb y _ _ o λz8 c t r z=>?_);have n8:=z.1;have w:=j.M z;have P:c.f f.h=_:=(w.2 _ Y Y).t x;have I:=r.D;have m8:=r.I;have l8:=fN t;obtain⟨f1,f2,f3,f4,f5,rfl⟩:=cJ t;refine S3 l8 I P ?_;unfold gm at k;rw[s] at k;refine k _ _ (DM (c:=f.h) (pb:=pb) t (λb q=>⟨⟨om q.1,by have:=q.2;show b<c.h+1+1;omega⟩,om q.1,om q.1⟩)
     (λb q1 q2 q3=>by simp(disch:=omega)only[go_sem]) (by show c.h<=c.h+1+1;omega) (by simp(disch:=omega)only[go_sem]) (by show c.h+1<c.h+1+1;omega) ⟨Y,by show c.h+1<c.h+1+1;omega⟩) ?_ ?_
    .exact(r.X.zr (a:=d)).X.dh Y (h.fresh (ak _))
    .exact(((v.M w).X.put).X).be (ak _)
  .rw[ac m] at k;refine S2 n u ?_;exact k _ _ sY (e.dh Y (h.fresh (ak _))) ((X2.M i).be (ak _))
 |false=>
  rw[e2,ac (by decide)] at k;refine S0 ?_;refine al (lO h2 gd λa2 x3=>?_);have n3:=x3.1;have h3:=h2.fS x3;have X3:=X2.of x3;have c3:a2.f f.h=_:=(x3.2 _ Y).t c2;cases e3:aN L gd p with
  |true=>
   rw[e3,ae rfl] at k;refine S0 ?_;have l:aI 3 6776174 0 0=false:=rfl;refine S1 l ?_;refine al (oA h3 λa e i=>?_);have n5:=i.1;have u:a.f f.h=_:=(i.2 _ Y Y).t c3;have n:=e.D;have k5:=e.k;have g5:=e.g.2.1;unfold nP at k;by_cases m:(bf L p).e=0
   .rw[ae m] at k;rw[m] at n;refine S1 n ?_;have w5:(wd L p).k≠0:=by have:=(qo e3).2.1;omega
    have C:(bf L p).k=p.k:=by
     unfold bf rZ iQ;split<;>(try split)<;>rfl
    have V:PA (a.put pb (LL [y,II ((bf L p).k+1),II 0,II (bf L p).b,d,II (bf L p).p,II (bf L p).x])) pb y L d (bm (bf L p)):=
     e.put (a:=bm (bf L p)) (ax.refl pb a).put (by rw[<-m];exact ae rfl) (by show(bf L p).k+1<_;rw[C];exact Ae h.g h.k w5) e.e e.b e.q e.n
    have x:(a.put pb (LL [y,II ((bf L p).k+1),II 0,II (bf L p).b,d,II (bf L p).p,II (bf L p).x])).f f.h=_:=(ac Y).t u;have v:ax pb f (a.put pb (LL [y,II ((bf L p).k+1),II 0,II (bf L p).b,d,II (bf L p).p,II (bf L p).x])):=(X3.M i).put;have n6:(a.put pb (LL [y,II ((bf L p).k+1),II 0,II (bf L p).b,d,II (bf L p).p,II (bf L p).x])).h=a.h:=rfl;generalize a.put pb (LL [y,II ((bf L p).k+1),II 0,II (bf L p).b,II d,II (bf L p).p,II (bf L p).x])=a1 at*;refine al (yK D V (λs g o j=>?_) (λF s B g o j=>?_))
    .have K:g.f f.h=_:=(j.2 _ Y Y).t x;refine S1 K ?_;unfold gm at k;rw[s] at k;exact k _ _ sY (o.dh Y (h.fresh (ak _))) ((v.M j).be (ak _))
    .have n7:=j.1;refine S0 ?_;refine al (B.2.2.1 g pb y _ _ o λz8 c t r z=>?_);have n8:=z.1;have w:=j.M z;have P:c.f f.h=_:=(w.2 _ Y Y).t x;have I:=r.D;have m8:=r.I;have l8:=fN t;obtain⟨f1,f2,f3,f4,f5,rfl⟩:=cJ t;refine S3 l8 I P ?_;unfold gm at k;rw[s] at k;refine k _ _ (DM (c:=f.h) (pb:=pb) t (λb q=>⟨⟨om q.1,by have:=q.2;show b<c.h+1+1;omega⟩,om q.1,om q.1⟩)
      (λb q1 q2 q3=>by simp(disch:=omega)only[go_sem]) (by show c.h<=c.h+1+1;omega) (by simp(disch:=omega)only[go_sem]) (by show c.h+1<c.h+1+1;omega) ⟨Y,by show c.h+1<c.h+1+1;omega⟩) ?_ ?_
     .exact(r.X.zr (a:=d)).X.dh Y (h.fresh (ak _))
     .exact(((v.M w).X.put).X).be (ak _)
   .rw[ac m] at k;refine S2 n u ?_;exact k _ _ sY (e.dh Y (h.fresh (ak _))) ((X3.M i).be (ak _))
  |false=>
   rw[e3,ac (by decide)] at k;refine S0 ?_;refine al (lO h3 eH λa0 x4=>?_);have n4:=x4.1;have h4:=h3.fS x4;have X4:=X3.of x4;have c4:a0.f f.h=_:=(x4.2 _ Y).t c3;cases e4:aN L eH p with
   |true=>
    rw[e4,ae rfl] at k;refine S0 ?_;have l:aI 3 6648432 0 0=false:=rfl;refine S1 l ?_;refine al (oA h4 λa e i=>?_);have n5:=i.1;have u:a.f f.h=_:=(i.2 _ Y Y).t c4;have n:=e.D;have k5:=e.k;have g5:=e.g.2.1;unfold nP at k;by_cases m:(bf L p).e=0
    .rw[ae m] at k;rw[m] at n;refine S1 n ?_;have w5:(wd L p).k≠0:=by have:=(qo e4).2.1;omega
     have C:(bf L p).k=p.k:=by
      unfold bf rZ iQ;split<;>(try split)<;>rfl
     have V:PA (a.put pb (LL [y,II ((bf L p).k+1),II 0,II (bf L p).b,d,II (bf L p).p,II (bf L p).x])) pb y L d (bm (bf L p)):=
      e.put (a:=bm (bf L p)) (ax.refl pb a).put (by rw[<-m];exact ae rfl) (by show(bf L p).k+1<_;rw[C];exact Ae h.g h.k w5) e.e e.b e.q e.n
     have x:(a.put pb (LL [y,II ((bf L p).k+1),II 0,II (bf L p).b,d,II (bf L p).p,II (bf L p).x])).f f.h=_:=(ac Y).t u;have v:ax pb f (a.put pb (LL [y,II ((bf L p).k+1),II 0,II (bf L p).b,d,II (bf L p).p,II (bf L p).x])):=(X4.M i).put;have n6:(a.put pb (LL [y,II ((bf L p).k+1),II 0,II (bf L p).b,d,II (bf L p).p,II (bf L p).x])).h=a.h:=rfl;generalize a.put pb (LL [y,II ((bf L p).k+1),II 0,II (bf L p).b,II d,II (bf L p).p,II (bf L p).x])=a1 at*;refine al (yK D V (λs g o j=>?_) (λF s B g o j=>?_))
     .have K:g.f f.h=_:=(j.2 _ Y Y).t x;refine S1 K ?_;unfold gm at k;rw[s] at k;exact k _ _ sY (o.dh Y (h.fresh (ak _))) ((v.M j).be (ak _))
     .have n7:=j.1;refine S0 ?_;refine al (B.2.2.1 g pb y _ _ o λz8 c t r z=>?_);have n8:=z.1;have w:=j.M z;have P:c.f f.h=_:=(w.2 _ Y Y).t x;have I:=r.D;have m8:=r.I;have l8:=fN t;obtain⟨f1,f2,f3,f4,f5,rfl⟩:=cJ t;refine S3 l8 I P ?_;unfold gm at k;rw[s] at k;refine k _ _ (DM (c:=f.h) (pb:=pb) t (λb q=>⟨⟨om q.1,by have:=q.2;show b<c.h+1+1;omega⟩,om q.1,om q.1⟩)
       (λb q1 q2 q3=>by simp(disch:=omega)only[go_sem]) (by show c.h<=c.h+1+1;omega) (by simp(disch:=omega)only[go_sem]) (by show c.h+1<c.h+1+1;omega) ⟨Y,by show c.h+1<c.h+1+1;omega⟩) ?_ ?_
      .exact(r.X.zr (a:=d)).X.dh Y (h.fresh (ak _))
      .exact(((v.M w).X.put).X).be (ak _)
    .rw[ac m] at k;refine S2 n u ?_;exact k _ _ sY (e.dh Y (h.fresh (ak _))) ((X4.M i).be (ak _))
   |false=>
    rw[e4,ac (by decide)] at k;refine S0 ?_;have l:aI 0 0 0 0=true:=rfl;refine S1 l ?_;refine al (W a0 pb y p _ h4 λm a c e i=>?_);have g:=fN c;have n5:=i.1;have u:a.f f.h=_:=(i.2 _ Y Y).t c4;refine S2 u g ?_;exact k _ _ (pe (mT c (λq=>om q.1)) (λb q=>⟨om q.1,q.2⟩)) (e.dh Y (h.fresh (ak _))) ((X4.M i).be (ak _))
end
variable {i:Nat}{w:Option dn}
section
def gh(p q:PS):Prop:=q.e=0->p.e=0/\p.k<=q.k
variable {L:List Wd}{p q r:PS}
def gh.refl(p:PS):gh p p:=λh=>⟨h,ak _⟩
def gh.M(h:gh p q)(g:gh q r):gh p r:=λe=>by
 let⟨a,b⟩:=g e;let⟨_,b⟩:=h a;omega
def CM{a:Nat}(b:a≠0):gh p (iQ L a p):=by
 unfold iQ;split
 .exact λh=>absurd h b
 .exact .refl _
def oe:gh p (bm p):=λh=>⟨h,iC _⟩
def D8{s:S}:gh p (fJ L s p):=by
 unfold fJ;split
 .exact oe
 .exact .refl _
def vI{s:S}:gh p (aV L s p):=by
 unfold aV;split
 .exact oe
 .exact CM dc
def vl:gh p (aG L p).2:=by
 unfold aG;split
 .exact oe
 .exact CM dc
def ahi:gh p (rZ L p):=by
 unfold rZ;split
 .exact CM dc
 .exact .refl _
def Ha:gh p (bf L p):=λh=>ahi (L:=L) (p:=p) h
def CH{s:S}:gh p (cZ L s p):=Ha.M D8
def L9:(bf L p).k=p.k:=by
 unfold bf rZ iQ;grind
def aeO{s:S}(h:aN L s p=true)(e:(bf L p).e=0):aN L s (bf L p)=true:=by
 let⟨_,a,b⟩:=qo h;refine aB ⟨e,?_⟩;unfold wd at a b|-;rw[L9];grind
def CG{s:S}(h:aN L s p=true)(e:(cZ L s p).e=0):(cZ L s p).k=p.k+1:=by
 have a:=(D8 e).1;have b:=aeO h a;unfold cZ fJ;rw[ae b]
 show(bf L p).k+1=_
 rw[L9]
def ajQ:gh p (pE L p).2:=(CH.M D8).M vl
def ajP(h:aN L bB p=true)(e:(pE L p).2.e=0):p.k+1<=(pE L p).2.k:=by
 have a:=(D8 (L:=L) (s:=fB)).M vl (p:=cZ L bB p) e;have b:=CG h a.1;show p.k+1<=(aG L (fJ L fB (cZ L bB p))).2.k;omega
def ajO{a:Tr}(h:aN L bB p=false):∀n,mZ L n a p=(a,p)
 |0=>rfl
 |n+1=>by
  unfold mZ;rw[h];rfl
def aaZ{l:List Tr}(h:p.e≠0):∀n,jC L w n l p=(l,p)
 |0=>rfl
 |n+1=>by
  unfold jC;rw[ac h]
def ahG:(lB L p).k=p.k:=by
 unfold lB;split
 .exact L9
 .rfl
def Gs{s:S}(h:p.e≠0):aN L s p=false:=aA (λq=>h q.1)
def TW:(aG L p).2.x=p.x:=by
 unfold aG iQ;split
 .rfl
 grind
def acI{l:List Vr}(h:p.e≠0):∀n,iz L n l p=((l,true),p)
 |0=>rfl
 |n+1=>by
  unfold iz;rw[ac h]
def acO{l:List Vr}(h:aN L iW p=false):∀n,mg L n l p=(l,p)
 |0=>rfl
 |n+1=>by
  unfold mg;rw[h];rfl
def afD{l:List Vr}(h:p.e≠0):∀n,nE L n l p=(l,p)
 |0=>rfl
 |n+1=>by
  unfold nE;rw[ac h]
def adq{l:List aX}(h:¬(p.e=0/\(wd L p).k=1)):∀n,iG L n l p=(l,p)
 |0=>rfl
 |n+1=>by
  unfold iG;rw[ac h]
def LB(h:(aG L p).2.e=0):(aG L p).2.k=p.k+1:=by
 revert h;unfold aG;split
 .exact λ_=>rfl
 .rename_i g;intro h
  have:(iQ L 7 p).e=0:=h
  unfold iQ at this;grind
def aaj{a:Type}(b:PS->a×PS):Prop:=∀p,gh p (b p).2
def Yc{n:Nat}:gh p {p with x:=n}:=λh=>⟨h,ak _⟩
def FC:∀(n:Nat) (l:List Vr) (p:PS),gh p (iz L n l p).2
 |0,_,_=>.refl _
 |n+1,l,p=>by
  unfold iz;split
  .split
   .exact CM dc
   .split
    .exact(vl.M Yc).M (oe.M (FC n _ _))
    .exact vl.M Yc
  .exact .refl _
def JE:aaj (cH L):=λp=>by
 unfold cH;dsimp only;split
 .split
  .exact((FC _ _ p).M vI).M oe
  .exact((FC _ _ p).M vI).M vI
 .exact FC _ _ p
def ab4{d:List Vr×PS}:gh d.2 (is L d).2:=by
 unfold is;split
 .exact(oe.M D8).M vl
 .exact .refl _
def aiA{n:Nat}:gh p {p with p:=n}:=λh=>⟨h,ak _⟩
def qL(a:PS->Tr×PS):Prop:=∀p,gh p (a p).2
def nU(G:Option dn):Prop:=match G with|none=>True|some F=>qL F.a/\qL F.f/\qL F.B/\qL F.p
def agW:gh p (wV L w p):=by
 unfold wV;cases w with
 |none=>exact CM dc
 |some F=>exact .refl _
def CS{f:dn->Tr×PS}{b:PS}(a:gh b p)(h:∀F,w=some F->gh p (f F).2):gh b (gm L w p f).2:=by
 unfold gm qn;split
 .rename_i F c;split at c
  .exact a.M J
  .grind
 .exact a.M agW
def wy(g:nU w):qL (dU L w):=λp=>CS (.refl _) λF e=>by subst e;exact g.1 p
def Sj(g:nU w):qL (qX L w):=λp=>CS (.refl _) λF e=>by subst e;exact g.2.2.2 p
def Pw{w:Option dn}(g:nU w):∀(n:Nat) (l:List Tr) (p:PS),gh p (jC L w n l p).2
 |0,_,_=>.refl _
 |n+1,l,p=>by
  unfold jC;split
  .split
   .exact((wy g p).M oe).M (Pw g n _ _)
   .exact wy g p
  .exact .refl _
def ahH:gh p (lB L p):=by
 unfold lB;split
 .exact Ha
 .exact .refl _
def aid{a:Wd}(g:nU w):gh p (ii L w a p).2:=by
 unfold ii;split
 .exact oe
 split
 .exact oe
 split
 .exact oe
 split
 .exact((((oe.M (wy g _)).M vI).M (wy g _)).M vI).M (wy g _)
 split
 .exact((oe.M vl).M (Sj g _)).M (Sj g _)
 .unfold pU;dsimp only;split
  .unfold yq;split
   .exact(vl.M oe).M oe
   .exact((vl.M oe).M (Pw g _ _ _)).M vI
  .exact vl
def WL(g:nU w):qL (oB L w):=λp=>by
 unfold oB;split
 .exact(oe.M (wy g _)).M vI
 .exact ahH.M (aid g)
def Nx{a:S}(g:nU w):gh p (nP L w a p).2:=by
 unfold nP;split
 .exact CS (Ha.M oe) λF e=>by subst e;exact g.2.2.1 _
 .exact Ha
def YZ(g:nU w):qL (pA L w):=λp=>by
 unfold pA;split
 .exact Nx g
 split
 .exact Nx g
 split
 .exact Nx g
 .exact WL g p
def Zo:∀(n:Nat) (a:Tr) (p:PS),gh p (mZ L n a p).2
 |0,_,_=>.refl _
 |n+1,a,p=>by
  unfold mZ;split
  .exact ajQ.M (Zo n _ _)
  .exact .refl _
def Zk(g:nU w):qL (lW L w):=λp=>(YZ g p).M (Zo _ _ _)
def RI(g:nU w):qL (pK L w):=λp=>by
 unfold pK;dsimp only;split
 .exact CS ((Zk g p).M CH) λF e=>by subst e;exact g.2.1 _
 .exact Zk g p
def XO{e:PS->Tr×PS}{d:List S}{b:Bool}(c:qL e):∀(n:Nat) (a:Tr) (p:PS),gh p (fO L e d b n a p).2
 |0,_,_=>.refl _
 |n+1,a,p=>by
  unfold fO;split
  .exact .refl _
  .split
   .exact CH.M (c _)
   .exact(CH.M (c _)).M (XO c n _ _)
def wZ{w:Option dn}(g:nU w):∀n:Nat,qL (bP L w n)
 |0=>λp=>RI g p
 |n+1=>λp=>(wZ g n p).M (XO (wZ g n) _ _ _)
def aa1(g:nU w):qL (qP L w):=λp=>by
 unfold qP;dsimp only;split
 .exact CS ((wZ g 5 p).M CH) λF e=>by subst e;exact g.1 _
 .exact wZ g 5 p
def AT:∀m:Nat,nU (pN L m)
 |0=>trivial
 |m+1=>⟨aa1 (AT m),RI (AT m),YZ (AT m),WL (AT m)⟩
def adh(h:(mi L p).2.e=0):p.k+1<=(mi L p).2.k:=by
 have a:gh (aG L p).2 (mi L p).2:=by
  unfold mi;dsimp only;exact((vI.M aiA).M (wy (AT 30) _)).M vI
 have b:=a h;have a:=LB b.1;omega
def A7{b:List S}{s:S}(h:kf L b p=some s):s∈b/\aN L s p=true:=by
 induction b with
 |nil=>cases h
 |cons a l c=>
  unfold kf at h;grind
def aeN{s t:S}(h:aN L s p=true)(g:aN L t p=true):s=t:=(qo h).2.2.s.t (qo g).2.2
def UW(s:S):∀l:List S,kf L (l++[s]) p=match kf L l p with|some t=>some t|none=>if aN L s p then some s else none
 |[]=>by
  show(if aN L s p=true then some s else none)=_
  rfl
 |a::l=>by
  show(if aN L a p=true then some a else kf L (l++[s]) p)=match(if aN L a p=true then some a else kf L l p) with|some t=>some t|none=>_
  by_cases h:aN L a p=true
  .grind
  .rw[ac h,ac h];exact UW s l
def my(L:List Wd)(a:List S)(p:PS)(i:Nat):S:=(kf L (a.take i) p).getD (0,0)
def DA{a:List S}(b:i<a.length):my L a p (i+1)=if aN L (a.getD i (0,0)) p then a.getD i (0,0) else my L a p i:=by
 have e:a.take (i+1)=a.take i++[a.getD i (0,0)]:=by
  rw[Og,cA,bM b];rfl
 unfold my;rw[e,UW];cases h:kf L (a.take i) p with
 |none=>
  grind
 |some t=>
  dsimp only;split
  .rename_i g;exact(aeN (A7 h).2 g)
  .rfl
def Dz{a:List S}:my L a p a.length=(kf L a p).getD (0,0):=by
 unfold my;grind
def xj:∀(a:List S) (i:Nat),i<a.length->(a.map sV).getD i bp=.s (a.getD i (0,0)).1 (a.getD i (0,0)).2
 |[],_,h=>J
 |a::l,0,_=>rfl
 |a::l,i+1,h=>xj l i J
end
end
section
section
variable {L:List Wd}{d:Nat}{G:Option dn}
def ajR(D:tw L G d)(W:np 200 L d (pA L G)):np 192 L d (lW L G):=by
 intro P pb y p Q h k;refine c0 Tryz.func192 ?_;have n:=h.I;refine S0 ?_;let⟨C,n,z,c0,_,X0,I⟩:=jR (w:=LL [.s 0 0,.s 0 0,II 0,II 0,.e]) h;rw[<-n];refine al (W C pb y p _ z λz1 i r1 z x1=>?_);have n:=fN r1;have I:=x1.1;have c1:=(x1.2 P.h Y Y).t c0;refine S1 n ?_;let⟨o,n,h2,c2,I,X2,W⟩:=jR (w:=LL z1) z;rw[<-n];let⟨I,F⟩:=inv λm V n=>∃a z q,V 0=.p pb 0/\V 2=.p P.h 0/\V 3=.p i.h 0/\PA n pb y L d q/\
   n.f P.h=LL [.s 0 0,.s 0 0,II 0,II 0,.e]/\n.f i.h=LL z/\bn (λb=>C.h<=b/\b<n.h/\b≠i.h) n a z/\o.h<=n.h/\ax pb P n/\
   mZ L m a q=lW L G p/\(q.e=0->L.length<=q.k+m)
 refine aT I L.length ((F _ _ _).2 ⟨_,z1,_,rfl,rfl,rfl,h2,?_,c2,gq (λb _ t=>W.2 b t) W.1 (λb q=>⟨q.1,om q.2,om q.2⟩) _ _ r1,ak _,(X0.M x1).M X2,rfl,λ_=>tr _ _⟩) ?_
 .exact(W.2 _ Y).t c1
 intro m V n C;let⟨a,_,q,j,p2,v,hq,y,z,n,I,Xq,wq,fq⟩:=(F _ _ _).1 C;have lq:=fN n;refine S1 j ?_;refine al (lO hq bB λr l=>?_);have h3:=hq.fS l;have C:=l.1;have c3:=(l.2 _ Y).t y;have d3:=(l.2 _ Y).t z;have r3:=rp n l;cases e:aN L bB q with
 |false=>
  refine S5 p2 v c3 d3 lq ?_;rw[ajO e] at wq;rw[<-wq] at k;exact k _ _ (pe (mT r3 (λq=>om q.1)) (λb q=>⟨om q.1,by have:=q.2.1;show b<r.h;omega⟩)) (h3.dh Y (h.fresh (ak _))) ((Xq.of l).be (ak _))
 |true=>
  let⟨he,k,_⟩:=qo e;have k:=hq.k;obtain _|m:=m
  .have:=fq he;omega
  have x:mZ L m (.mk bB (pE L q).1.2 (pE L q).1.1 (wd L q).a [a]) (pE L q).2=lW L G p:=by
   rw[<-wq]
   conv=>rhs;unfold mZ
   rw[e];rfl
  have s:(pE L q).2.e=0->L.length<=(pE L q).2.k+m:=λa=>by
   have:=ajP e a
   have:=fq he
   omega
  refine S1 j ?_;refine al (lf h3 λa K=>?_);have u:(wd L q).cells=[II (wd L q).k,.s (wd L q).t.1 (wd L q).t.2,II (wd L q).n,II (wd L q).a]:=rfl;rw[u];refine S1 j ?_;refine al (oA (h3.fS K) λa a x5=>?_);refine S1 j ?_;refine al (wu bB a λa a x6=>?_);refine S1 j ?_;refine al (mD a fB λa h7 x7=>?_);have a:=K.1;have a:=x5.1;have a:=x6.1;have a:=x7.1;cases e7:aN L fB (cZ L bB q) with
  |true=>
   refine S1 j ?_;refine al (vn h7 λc h8 B=>?_);have n8:=B.1;have X8:=((x5.M x6).M x7).M B;have f:ax pb r c:=⟨Y,λb t u=>(X8.2 b Y u).t (K.2 b t)⟩;have c8:=(f.2 _ Y Y).t c3;have d8:=(f.2 _ Y Y).t d3;have w:=nI r3 f (λq=>om q.1);obtain⟨f1,f2,f3,f4,f5,rfl⟩:=cJ w;simp(disch:=omega)only[go_sem,v,d8,fp,ft,bF,sV];refine⟨m,bJ _,(F _ _ _).2 ⟨_,_,_,j,p2,v,(h8.X).dh Y (λg=>h.fresh (c:=i.h) Y g),?_,ae rfl,?_,?_,?_,x,s⟩⟩
   .simp(disch:=omega)only[go_sem,c8]
   .have e9:(pE L q).1.1=0:=by show(if aN L fB (cZ L bB q)=true then 0 else 1)=0;rw[e7];rfl
    rw[e9];exact DM (c:=i.h) (pb:=pb) w (λb q=>⟨⟨q.1,by have:=q.2.1;show b<c.h+1;omega,q.2.2⟩,om q.1,q.2.2⟩)
     (λb q1 q2 q3=>by simp(disch:=omega)only[go_sem]) (by show c.h<=c.h+1;omega) (by simp(disch:=omega)only[go_sem]) (by show c.h<c.h+1;omega) ⟨Y,by show c.h<c.h+1;omega,Y⟩
   .show o.h<=c.h+1;omega
   .exact(((Xq.of l).M f).X).be Y
  |false=>
   refine S1 j ?_;refine al (vn h7 λc h8 B=>?_);have n8:=B.1;have X8:=((x5.M x6).M x7).M B;have f:ax pb r c:=⟨Y,λb t u=>(X8.2 b Y u).t (K.2 b t)⟩;have c8:=(f.2 _ Y Y).t c3;have d8:=(f.2 _ Y Y).t d3;have w:=nI r3 f (λq=>om q.1);obtain⟨f1,f2,f3,f4,f5,rfl⟩:=cJ w;simp(disch:=omega)only[go_sem,v,d8,fp,ft,bF,sV];refine⟨m,bJ _,(F _ _ _).2 ⟨_,_,_,j,p2,v,(h8.X).dh Y (λg=>h.fresh (c:=i.h) Y g),?_,ae rfl,?_,?_,?_,x,s⟩⟩
   .simp(disch:=omega)only[go_sem,c8]
   .have e9:(pE L q).1.1=1:=by show(if aN L fB (cZ L bB q)=true then 0 else 1)=1;rw[e7];rfl
    rw[e9];exact DM (c:=i.h) (pb:=pb) w (λb q=>⟨⟨q.1,by have:=q.2.1;show b<c.h+1;omega,q.2.2⟩,om q.1,q.2.2⟩)
     (λb q1 q2 q3=>by simp(disch:=omega)only[go_sem]) (by show c.h<=c.h+1;omega) (by simp(disch:=omega)only[go_sem]) (by show c.h<c.h+1;omega) ⟨Y,by show c.h<c.h+1;omega,Y⟩
   .show o.h<=c.h+1;omega
   .exact(((Xq.of l).M f).X).be Y
end
section
section
variable {P:Program}{C:Spec}{PT:bW}{K:jn}{O:FN}{U:HN}
noncomputable def BH(P:Program)(C:Spec)(PT:bW):Nat->Code->(FN->HN->Prop)->jn->FN->HN->Prop
 |0,_,M,_=>M
 |n+1,.seq a t,M,K=>dQ P C PT a (vB (BH P C PT n t M K) K)
 |_+1,_,_,_=>λ_ _=>False
def BA:Nat->Code->Code
 |0,c=>c
 |n+1,.seq _ t=>BA n t
 |_+1,c=>c
@[go_sem] def anV{c:Code}{M:FN->HN->Prop}:BH P C PT (no_index 0) c M K O U=M O U:=by cases c<;>rfl
@[go_sem] def anU{n:Nat}{a t:Code}{M:FN->HN->Prop}:BH P C PT (no_index (n+1)) (.seq a t) M K O U=dQ P C PT a (vB (BH P C PT n t M K) K) O U:=(rfl)
@[go_sem] def lU{c:Code}:BA (no_index 0) c=c:=by cases c<;>rfl
@[go_sem] def lT{n:Nat}{a t:Code}:BA (no_index (n+1)) (.seq a t)=BA n t:=(rfl)
def iB{M:FN->HN->Prop}:∀(n:Nat) (c:Code) (O:FN) (U:HN),(∀O U,M O U->dQ P C PT (BA n c) K O U)->BH P C PT n c M K O U->dQ P C PT c K O U
 |0,c,O,U,b,h=>by
  have e:BA 0 c=c:=by cases c<;>rfl
  rw[e] at b;have h:M O U:=by
   have:BH P C PT 0 c M K O U=M O U:=by cases c<;>rfl
   rw[this] at h;exact h
  grind
 |n+1,.seq a t,O,U,b,h=>by
  refine NG a _ _ (λe O U q=>?_) O U h;cases e with
  |normal=>exact iB n t O U b q
  |exit i=>exact q
  |ret=>exact q
 |n+1,.skip,O,U,_,h=>h.elim
 |n+1,.region _ _ _,O,U,_,h=>h.elim
 |n+1,.cond _ _ _,O,U,_,h=>h.elim
 |n+1,.block _ _,O,U,_,h=>h.elim
 |n+1,.loop _,O,U,_,h=>h.elim
 |n+1,.exit _,O,U,_,h=>h.elim
 |n+1,.ret,O,U,_,h=>h.elim
end
end
end
end Go.Proofs.YtehahhggpdhieaaGreatDoor
