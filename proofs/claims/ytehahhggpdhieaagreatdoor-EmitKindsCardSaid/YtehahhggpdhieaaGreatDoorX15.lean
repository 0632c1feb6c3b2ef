/- Lemmas of the walk of EmitKinds are proved. Conditions: none. -/
import Derived.Test.YtehahhggpdhieaaGreatDoorX14
namespace Go.Proofs.YtehahhggpdhieaaGreatDoor
set_option maxRecDepth 100000
set_option maxHeartbeats 32000000
set_option linter.all false
section
variable {y:AV}{d e:HN}{c:L aS}{i:Nat}{n:Nd}
def lZ(b:HN)(c:Nat):Prop:=∃(a:AV) (s:S) (r:L AV),b.f c=LL (a::.s s.1 s.2::r)
def Jo(g:dS d y c)(h:∀b,b<d.h->e.f b=d.f b\/lZ d b)(a:d.h<=e.h):dS e y c:=by
 rcases g with g|⟨b,a,rfl,f⟩
 .exact .inl g
 .refine .inr ⟨b,Y,R,?_⟩;rcases h b a with h|⟨a,s,r,b⟩
  .exact h.t f
  .rw[b] at f;cases c with
   |nil=>cases f
   |cons t c=>
    have f:LL (a::.s s.1 s.2::r)=LL (.s t.1.1 t.1.2::.l t.2::(c.map cU).flatten):=f;cases f
mutual
def Ml{d e:HN}(n:∀b,b<d.h->e.f b=d.f b\/lZ d b)(p:d.h<=e.h):∀{t:Tm} {z:L AV} {g f:Nat},(∀b,g<=b->b<f->b<d.h->e.f b=d.f b)->dO g f d t z->dO g f e t z
 |.mk op F t a c any D,z,g,f,o,h=>by
  unfold dO at h|-;let⟨q,B,C,m,r,s,u,v,k⟩:=h;have a:m<=f:=by
   rcases k with⟨_,_,h⟩|⟨b,l,j,_⟩
   .exact h
   .omega
  refine⟨q,B,C,m,r,Jo s n p,u,Hn n p (λb a c c=>o b a Y c) v,?_⟩;rcases k with h|⟨b,l,j,w,x,y,i⟩
  .exact .inl h
  .exact .inr ⟨b,l,j,Y,x,y,(o b Y j w).t i⟩
def Hn{d e:HN}(g:∀b,b<d.h->e.f b=d.f b\/lZ d b)(j:d.h<=e.h):∀{f:L Tm} {h:L (L AV)} {c a:Nat},(∀b,c<=b->b<a->b<d.h->e.f b=d.f b)->eh c a d f h->eh c a e f h
 |[],_,_,_,_,h=>by unfold eh at h|-;exact h
 |k::f,_,c,a,i,h=>by
  unfold eh at h|-;let⟨l,r,m,a,c,f,k,n⟩:=h;exact⟨l,r,m,a,c,f,Ml g j (λb c f a=>i b c Y a) k,Hn g j (λb c f a=>i b Y f a) n⟩
end
def DQ{d:HN}:∀{n:L Tm} {g:L (L AV)} {f j:Nat},eh f j d n g->∀i (h:i<N n),∃(a b:Nat) (D:i<N g),f<=a/\a<=b/\b<=j/\dO a b d n[i] g[i]/\
  ∀(e:HN) (t:Tm) (z:L AV),(∀c,c<d.h->e.f c=d.f c\/lZ d c)->d.h<=e.h->(∀c,f<=c->c<j->c<a\/b<=c->c<d.h->e.f c=d.f c)->dO a b e t z->eh f j e (n.set i t) (g.set i z)
 |k::n,_,f,j,p,0,_=>by
  unfold eh at p;obtain⟨l,r,m,rfl,u,v,B,C⟩:=p;refine⟨f,m,jm _,ak _,u,v,B,λe t z w y x g=>?_⟩;show eh f j e (t::n) (z::r);unfold eh;exact⟨z,r,m,R,u,v,g,Hn w y (λc q s o=>x c Y s (.inr q) o) C⟩
 |k::n,_,f,j,p,i+1,h=>by
  unfold eh at p;obtain⟨l,r,m,rfl,u,v,B,C⟩:=p;let⟨a,b,D,_,p,F,H,I⟩:=DQ C i (by simpa using h);refine⟨a,b,oL D,Y,p,F,H,λe t z w y x g=>?_⟩;show eh f j e (k::n.set i t) (l::r.set i z);unfold eh;exact⟨l,r.set i z,m,R,u,v,Ml w y (λc q s o=>x c q Y (.inl Y) o) B,I e t z w y (λc q s o a=>x c Y s o a) g⟩
mutual
def A3(n:Nd):Tm->L aS->Prop
 |.mk op b _ _ c any a,d=>N a<=1073741824/\N (if any then d else c)<=1073741826/\wT n op b (if any then d else c) 0 a
def wT(n:Nd)(b a:S)(c:L aS):Nat->L Tm->Prop
 |_,[]=>True
 |i,k::d=>A3 n k (if b=bB then aF n a else if b=bD then cB c a (de (0<i)) else c)/\wT n b a c (i+1) d
end
def UP{n:Nd}{d b:S}{c:L aS}:∀{a:L Tm} {j:Nat},wT n d b c j a->∀i (h:i<N a),A3 n a[i] (if d=bB then aF n b else if d=bD then cB c b (de (0<j+i)) else c)
 |k::a,j,g,0,_=>by unfold wT at g;exact g.1
 |k::a,j,g,i+1,h=>by
  unfold wT at g
  have:=UP g.2 i (by simpa using h)
  rw[show j+1+i=j+(i+1) by omega] at this;exact this
def pw(n:Nd)(d b:S)(c:L aS)(i:Nat)(a:L Tm):L Tm:=kL n d b c 0 (a.take i)++a.drop i
def zp{n:Nd}{d b:S}{c:L aS}:∀{a:L Tm} {j:Nat},N (kL n d b c j a)=N a
 |[],_=>by unfold kL;rfl
 |k::a,j=>by unfold kL;rw[bt,bt,zp]
def Ye{n:Nd}{e d:S}{c:L aS}(b:L Tm):∀(a:L Tm) (j:Nat),kL n e d c j (a++b)=kL n e d c j a++kL n e d c (j+N a) b
 |[],j=>by
  rw[dH]
  conv=>rhs;enter [1];unfold kL
  rfl
 |k::a,j=>by
  rw[fc]
  conv=>lhs;unfold kL
  conv=>rhs;enter [1];unfold kL
  rw[Ye b a (j+1),fc,bt,show j+1+N a=j+(N a+1) by omega]
def aiy{d b:S}{a:L Tm}(h:i<N a):pw n d b c (i+1) a=(pw n d b c i a).set i (nM n a[i] (if d=bB then aF n b else if d=bD then cB c b (de (0<i)) else c)):=by
 have e:N (a.take i)=i:=by rw[dW];omega
 unfold pw;rw[dt h,Ye,e,gg,Es _ _ (by rw[zp,e];exact ak _),zp,e,rH,eJ h,dC];congr 1
variable {t:HN}{m:L (L AV)}{z:L AV}{b h s:Nat}
def uP{a l:L AV}{o:Nat}(h:(a.drop o).take s=l)(j:Nat)(b:j<s):a.getD (o+j) bp=l.getD j bp:=by
 rw[<-h,cA,cA,qG,ae b,mG]
def D3{a r:L AV}{o:Nat}(h:o+N r<=N a):dz a o r=a.take o++(r++a.drop (o+N r)):=by
 have b:N (a.take o)=o:=by rw[dW];omega
 have c:N ((a.drop o).take (N r))=N r:=by rw[dW,qH];omega
 have e:=Bo (r:=r) (a.take o) (a.drop o) 0;rw[mH,b,nk] at e;rw[e];congr 1;have b:=D2 ((a.drop o).take (N r)) r ((a.drop o).drop (N r)) c;rw[mH,oH] at b;exact b
def Zs{a:L AV}{o:Nat}(h:o+8<=N a)(b:(a.drop o).take 8=z):a=a.take o++(z++a.drop (o+8)):=by
 rw[<-b,<-oH,mH,mH]
def aiB{a:L AV}{o:Nat}{v x0 b c d e j f g:AV}(h:o+8<=N a)(i:(a.drop o).take 8=[x0,b,c,d,e,j,f,g]):a.set (o+5) v=dz a o [x0,b,c,d,e,v,f,g]:=by
 rw[D3 (r:=[x0,b,c,d,e,v,f,g]) h];have e:=Zs h i;have b:N (a.take o)=o:=by rw[dW];omega
 conv=>lhs;rw[e]
 rw[Es _ _ (by omega),b,show o+5-o=5 by omega]
 rfl
def aiw{a:L AV}{o:Nat}(h:o+8<=N a)(c:(a.drop o).take 8=z)(b:N z=8):dz a o z=a:=by
 rw[D3 (by omega),b];exact(Zs h c).s
def ajT{a:L AV}{o:Nat}(h:o+N z<=N a):((dz a o z).drop o).take (N z)=z:=by
 rw[D3 h];have b:N (a.take o)=o:=by rw[dW];omega
 rw[Il b,Et R]
def lZ.of{U:HN}{s t:S}{r:L AV}(h:U.f b=LL (.s s.1 s.2::.s t.1 t.2::r)):lZ U b:=⟨_,t,r,h⟩
def ahW{k:Tm}{f:L Tm}{a:Nat}(b:eh h a d (k::f) m):∃(s t:S) (r:L AV),m.flatten=.s s.1 s.2::.s t.1 t.2::r:=by
 unfold eh at b;obtain⟨l,r,a,rfl,_,_,e,_⟩:=b;let⟨i,g,_,_,c,any,a⟩:=k;unfold dO at e;obtain⟨_,_,_,_,rfl,_⟩:=e;exact⟨i,g,_,R⟩
def ad0(b:∀l∈m,N l=8)(c:i<N m)(a:N z=8):dz m.flatten (i*8) z=(m.set i z).flatten:=by
 induction m generalizing i with
 |nil=>cases c
 |cons a m d=>
  have e:=b a gN;cases i with
  |zero=>
   rw[lq,zS,ir,ir];exact D2 a z _ Y
  |succ i=>
   rw[zR,ir,ir]
   have:=Bo (r:=z) a m.flatten (i*8)
   rw[show(i+1)*8=N a+i*8 by omega,this,d (λl a=>b l (li _ a)) (by simpa using c)]
def RS(b:∀l∈m,N l=8)(c:i<N m):(m.flatten.drop (i*8)).take 8=m[i]:=by
 induction m generalizing i with
 |nil=>cases c
 |cons a m e=>
  have d:=b a gN;cases i with
  |zero=>
   rw[lq,ng,ir,Et d];rfl
  |succ i=>
   rw[ir,show(i+1)*8=N a+i*8 by omega,<-oH,Il R,e (λl a=>b l (li _ a)) (by simpa using c)]
   rfl
def RT(b:∀l∈m,N l=8):N m.flatten=N m*8:=by
 induction m with
 |nil=>rfl
 |cons a m c=>rw[ir,ay,b a gN,c λl a=>b l (li _ a),bt];omega
structure xV (U0 U:HN) (tb:Nat) (n:Nd):Prop where
 D:∃y1 y2 y3 y4,U.f tb=LL [.s n.n.1 n.n.2,y1,y2,y3,y4,II n.a,.e]/\dL tt U0 n [.s n.n.1 n.n.2,y1,y2,y3,y4,II n.a]
 W:ai U0.h U0 U
 I:tb<U.h
 ok:eG n
def xV.aR{U:HN}{tb:Nat}(h:xV t U tb n)(d:∀c,c<t.h->c<U.h->e.f c=U.f c)(f:U.h<=e.h)(g:e.f tb=U.f tb):xV t e tb n:=by
 let⟨i,j,k,l,a,b⟩:=h.D
 have:=h.W.1
 exact⟨⟨i,j,k,l,g.t a,b⟩,⟨Y,λc a=>(d c a Y).t (h.W.2 c a)⟩,cW h.I f,h.ok⟩
def aiD{tb:Nat}:∀(j1:Tm) (d:L aS),A3 n j1 d->∀(g:HN) (b o:Nat) (I:L AV) (z:L AV) (cd:AV) (lo hi:Nat) (Q:AV->HN->Prop),xV t g tb n->(∀c,c<t.h->c≠b/\(c<lo\/hi<=c))->g.f b=LL I->b<g.h->o+8<=N I->(I.drop o).take 8=z->dO lo hi g j1 z->hi<=g.h->(b<lo\/hi<=b)->(tb<lo\/hi<=tb)->tb≠b->lZ g b->dS g cd d->
  (∀z' j,j.f b=LL (dz I o z')->N z'=8->dO lo hi j (nM n j1 d) z'->g.h<=j.h->(∀c,c<g.h->c≠b->c<lo\/hi<=c->j.f c=g.f c)->(∀c,c<g.h->j.f c=g.f c\/lZ g c)->Q (.t []) j)->∃v' j,aq Tryz.prog 95 [.p tb 0,.p b o,cd] g v' j/\Q v' j:=by
 refine Tm.E λp v g8 a c F l ih=>?_;intro d ok g b o I z cd lo hi Q T hF hb z e2 hz r z z i4 i3 nb c3 k;have i5:=T.I;unfold A3 at ok;let⟨z,K,e1⟩:=ok;unfold dO at r;obtain⟨cy,ky,ls,m,rfl,h0,i1,b8,a2⟩:=r;have r:I.getD (o+6) bp=ky:=(uP hz 6 dc).t R;have g7:I.getD (o+7) bp=.l F:=(uP hz 7 dc).t R;refine cf WB Tryz.func95 ?_;obtain⟨u,w⟩:∃u,u=(if F then d else c):=⟨_,R⟩;have r:nM n (.mk p v g8 a c F l) d=.mk p v g8 a u F (kL n p v u 0 l):=by rw[w];conv=>lhs;unfold nM
 rw[r] at k;rw[<-w] at K e1;let⟨K,hK⟩:=jH λb3 c2=>(b3 0=.p tb 0/\b3 1=.p b o)/\∃x,c2.f b=LL (dz I o [sV p,sV v,g8,a,.e,x,ky,F])/\dS c2 x u/\c2.h=g.h/\(∀c,c≠b->c2.f c=g.f c);refine iB (M:=K) 1 _ _ _ ?_ ?_
 rotate_left
 .cases F with
  |true=>
   have w:u=d:=w;have sf:=aiB (v:=cd) e2 hz;have qc:dZ cd=some [cd]:=by rcases c3 with⟨rfl,_⟩|⟨_,_,rfl,_⟩<;>rfl
   refine S3 hb g7 qc ?_;rw[sf];refine(hK _ _).2 ⟨dy,cd,ae R,?_,R,λd h=>ac h⟩;rw[w];refine Jo c3 (λd _=>?_) ?_
   .by_cases e:d=b
    .rw[e];exact .inr nb
    .exact .inl (ac e)
   .exact ak _
  |false=>
   have w:u=c:=w;have sf:=aiw e2 hz R;refine S2 hb g7 ?_;refine(hK _ _).2 ⟨dy,cy,?_,?_,R,λ_ _=>R⟩
   .rw[sf];exact hb
   .rw[w];exact h0
 .intro b3 c2 d;let⟨⟨p0,p1⟩,x,fb,g9,r,b2⟩:=(hK _ _).1 d;obtain⟨z1,O⟩:∃z1,z1=[sV p,sV v,II g8,II a,.e,x,ky,.l F]:=⟨_,R⟩;have e7:N z1=8:=by rw[O];rfl
  rw[<-O] at fb;obtain⟨R1,b1⟩:∃R1,R1=dz I o z1:=⟨_,R⟩;have a:N R1=N I:=by rw[b1];exact HE _ _ _
  have a:(R1.drop o).take 8=z1:=by rw[b1,<-e7];exact ajT Y
  rw[<-b1] at fb;have a0:R1.getD o bp=.s p.1 p.2:=(uP a 0 dc).t (by rw[O];rfl);have a1:R1.getD (o+1) bp=.s v.1 v.2:=(uP a 1 dc).t (by rw[O];rfl);have a5:R1.getD (o+5) bp=x:=(uP a 5 dc).t (by rw[O];rfl);have a6:R1.getD (o+6) bp=ky:=(uP a 6 dc).t (by rw[O];rfl);have a7:∀c,c<g.h->c2.f c=g.f c\/lZ g c:=λc _=>by
   by_cases e:c=b
   .rw[e];exact .inr nb
   .exact .inl (b2 c e)
  have c9:=(pQ b8).1;have h8:=(pQ b8).2.1;have a:m<=hi:=by
   rcases a2 with⟨_,_,h⟩|⟨b',h5,h6,_⟩
   .exact h
   .omega
  have i6:∀(j:HN) (e w:Nat),eF (.a e 8 w) ky j=mr (N l) j:=λj e w=>by
   rcases a2 with⟨rfl,rfl,_⟩|⟨q,_,_,_,rfl,_⟩
   .rfl
   .show mr (N ls) j=_;rw[c9]
  have a:N l<=9223372036854775807:=Y;have i9:∀{a:HN} {c:Nat},lZ a c->a.f c=g.f c->lZ g c:=λh e=>by
   let⟨a',s',r',e'⟩:=h;exact⟨a',s',r',e.s.t e'⟩
  refine S4 p1 fb a6 i6 ?_;let⟨I,hI⟩:=inv λm' b3 a=>∃i C,m'=N l-i/\i<=N l/\(b3 0=.p tb 0/\b3 1=.p b o/\b3 19=II (N l)/\b3 20=II i)/\
   a.f b=LL R1/\dS a x u/\eh lo m a (pw n p v u i l) C/\(∀q,ar ky q->a.f q=LL C.flatten)/\g.h<=a.h/\(∀c,c<g.h->c≠b->c<lo\/hi<=c->a.f c=g.f c)/\(∀c,c<g.h->a.f c=g.f c\/lZ g c)
  have a:pw n p v u 0 l=l:=by
   unfold pw;rw[gO,ng];unfold kL
   rfl
  refine aT I (N l) ((hI _ _ _).2 ⟨0,ls,R,aJ _,⟨dx p0,dx p1,R,R⟩,fb,g9,?_,?_,Y,λc _ h _=>b2 c h,a7⟩) ?_
  .rw[a];exact Hn (d:=g) a7 Y (λc h1 h2 _=>b2 c Y) b8
  .intro q c8;rcases a2 with⟨rfl,_⟩|⟨P,h5,h6,h7,rfl,_,h9⟩
   .exact c8.elim
   .have:P=q:=c8
    subst this;exact(b2 _ Y).t h9
  clear p0 p1;intro m' b3 s a;let⟨i,C,_,d,⟨p0,p1,U,V⟩,y,b0,W,c6,e8,Z,e6⟩:=(hI _ _ _).1 a;have T1:xV t s tb n:=T.aR (λc hc a=>Z c a (hF c hc).1 (hF c hc).2) e8 (Z tb i5 i3 i4);by_cases B:i<N l
  .have i2:l≠[]:=λh=>by rw[h] at B;cases B
   obtain⟨q,h5,h6,h7,rfl,_,h9⟩:∃q,m<=q/\q<hi/\q<g.h/\ky=.a q 0 (N ls) (.B 8)/\l≠[]/\g.f q=LL ls.flatten:=by
    rcases a2 with⟨_,h,_⟩|h
    .exact absurd h i2
    .exact h
   clear a2;have fk:=c6 q R;have a:q≠b:=Y;have b4:N (pw n p v u i l)=N l:=by
    unfold pw;rw[ay,zp,dW,qH];omega
   let⟨a',b',c7,_,_,a,g4,g5⟩:=DQ W i Y;have l2:=pQ W;have a:(pw n p v u i l)[i]'Y=l[i]:=by
    have d:N (kL n p v u 0 (l.take i))=i:=by rw[zp,dW];omega
    have:(pw n p v u i l)[i]?=some l[i]:=by
     unfold pw;rw[vN (by omega),d,rH,mG,nk,bM B]
    rw[bM (by omega)] at this;exact jX this
   rw[a] at g4;have i7:=RT l2.2.1;have i0:=RS l2.2.1 c7;have j0:lZ s q:=by
    obtain⟨k0,kr,e0⟩:∃k0 kr,pw n p v u i l=k0::kr:=by
     cases hq:pw n p v u i l with
     |nil=>rw[hq] at b4;simp at b4;omega
     |cons k0 kr=>exact⟨k0,kr,R⟩
    rw[e0] at W;let⟨s',a,r',e'⟩:=ahW W;rw[e'] at fk;exact lZ.of fk
   have o:=UP e1 i B;rw[gg] at o;have e4:aI p.1 p.2 4 1852139639=de (p=bB):=bz p bB;have e5:aI p.1 p.2 5 435527247213=de (p=bD):=bz p bD;have z:i*8+8<=N C.flatten:=by rw[i7];omega
   have a:i<N ls:=Y;have b6:∀(w:L aS) (a:HN),w=(if p=bB then aF n v else if p=bD then cB u v (de (0<i)) else u)->ai s.h s a->∀(r:AV->HN->Prop) (d:AV),dS a d w->
     (∀f D,eh lo m f (pw n p v u (i+1) l) D->f.f q=LL D.flatten->f.f b=LL R1->dS f x u->g.h<=f.h->(∀c,c<g.h->c≠b->c<lo\/hi<=c->f.f c=g.f c)->(∀c,c<g.h->f.f c=g.f c\/lZ g c)->(∀c,c<a.h->f.f c=a.f c\/lZ a c)->(∀c,c<a.h->c≠q->c<lo\/hi<=c->f.f c=a.f c)->r (.t []) f)->
     ∃v' j,aq Tryz.prog 95 [.p tb 0,.p q (i*8),d] a v' j/\r v' j:=by
    intro w a c4 x2 r d g c5;have F:=x2.1;have j:xV t a tb n:=T1.aR (λc _ hc=>x2.2 c hc) F (x2.2 _ Y);rw[<-c4] at o;refine ih _ (aU B) w o a q (i*8) C.flatten C[i] d a' b' r j (λc hc=>?_) ((x2.2 _ Y).t fk) Y z i0 (Bi x2 g4) Y Y Y Y ?_ g ?_
    .have:=hF c hc
     omega
    .let⟨a9,s9,r9,e9⟩:=j0;exact⟨a9,s9,r9,(x2.2 _ Y).t e9⟩
    .intro z' f q1 q2 q3 q4 q5 q6;have b7:∀c,c<s.h->f.f c=s.f c\/lZ s c:=λc hc=>by
      rcases q6 c Y with h|⟨a9,s9,r9,e9⟩
      .exact .inl (h.t (x2.2 c hc))
      .exact .inr ⟨a9,s9,r9,(x2.2 c hc).s.t e9⟩
     have a:∀c,c<s.h->c≠q->c<a'\/b'<=c->f.f c=s.f c:=λc hc h1 h2=>(q5 c Y h1 h2).t (x2.2 c hc);refine c5 f (C.set i z') ?_ ?_ ((a b Y Y Y).t y) (Jo b0 b7 Y) Y (λc h1 h2 d=>(a c Y Y Y).t (Z c h1 h2 d)) (λc hc=>?_) q6 (λc h1 h2 d=>q5 c h1 h2 Y)
     .rw[aiy B,<-c4];exact g5 f _ z' b7 Y (λc h1 h2 d g=>a c g Y d) q3
     .rw[q1,ad0 l2.2.1 c7 q2]
     .rcases e6 c hc with h|h
      .rcases b7 c Y with h'|h'
       .exact .inl (h'.t h)
       .exact .inr (i9 h' h)
      .exact .inr h
   let⟨g,j,o,r,d,c⟩:=T1.D;have a:dL tt s n [n.n,g,j,o,r,n.a]:=ic c T1.W;by_cases q4:p=bB
   .rw[aB q4] at e4;simp(disch:=omega)only[go_sem,p0,p1,U,V,y,d,a0,a1,a6,e4];refine bL (Du a T1.ok v λy9 b9 k9 x9=>?_);have b5:=(x9.2 b Y).t y;refine S0 ?_;refine bL (b6 (aF n v) b9 (ae q4).s x9 _ y9 k9 λf D r3 a4 H a3 n3 o3 a8 e3 g0=>?_);refine S5 V y b5 H a6 ?_;exact⟨N l-(i+1),Y,(hI _ _ _).2 ⟨i+1,D,R,B,⟨dx p0,dx p1,dx U,R⟩,H,a3,r3,λP h'=>by(have h':q=P:=h');subst h';exact a4,n3,o3,a8⟩⟩
   .rw[aA q4] at e4;by_cases q5:p=bD
    .rw[aB q5] at e5;simp(disch:=omega)only[go_sem,p0,p1,U,V,y,a0,a1,a5,a6,e4,e5];refine bL (zy (s:=v) (q:=de (0<i)) b0 Y λy9 b9 k9 x9=>?_);have b5:=(x9.2 b Y).t y;refine S0 ?_;refine bL (b6 (cB u v (de (0<i))) b9 (by rw[ac q4,ae q5]) x9 _ y9 k9 λf D r3 a4 H a3 n3 o3 a8 e3 g0=>?_);refine S5 V y b5 H a6 ?_;exact⟨N l-(i+1),Y,(hI _ _ _).2 ⟨i+1,D,R,B,⟨dx p0,dx p1,dx U,R⟩,H,a3,r3,λP h'=>by(have h':q=P:=h');subst h';exact a4,n3,o3,a8⟩⟩
    .rw[aA q5] at e5;simp(disch:=omega)only[go_sem,p0,p1,U,V,y,a0,a5,a6,e4,e5];refine bL (b6 u s (by rw[ac q4,ac q5]) (.refl _ _) _ x b0 λf D r3 a4 H a3 n3 o3 a8 e3 g0=>?_);refine S1 V ?_;exact⟨N l-(i+1),Y,(hI _ _ _).2 ⟨i+1,D,R,B,⟨dx p0,dx p1,dx U,R⟩,H,a3,r3,λP h'=>by(have h':q=P:=h');subst h';exact a4,n3,o3,a8⟩⟩
  .have e:i=N l:=Y;refine S2 U V ?_;have a:pw n p v u i l=kL n p v u 0 l:=by
    unfold pw;rw[e,hU,fQ,eB]
   rw[a] at W;refine k z1 s (by rw[<-b1];exact y) e7 ?_ e8 Z e6;unfold dO;refine⟨x,ky,C,m,O,b0,i1,W,?_⟩;have l2:=(pQ W).1;rw[zp] at l2;rcases a2 with⟨rfl,rfl,h⟩|⟨q,h5,h6,h7,rfl,h8,h9⟩
   .refine .inl ⟨R,?_,h⟩;unfold kL;rfl
   .refine .inr ⟨q,h5,h6,Y,by rw[c9,l2],λg=>h8 ?_,c6 q R⟩
    have:=dv List.length g
    rw[zp] at this;exact ff this
end
section
variable {g:AV->HN->Prop}{d:HN}{n:Nd}
mutual
def YL{n:Nd}(b:∀s,N (aF n s)<=1073741824):∀(e:Tr),N (jL n e).ck.1<=1073741825
 |.mk op c e a d=>by
  unfold jL Tm.ck;exact Ve (b c) λk a=>by
   obtain⟨t,c,rfl⟩:=cN.1 a;exact YO b d t c
def YO{n:Nd}(b:∀s,N (aF n s)<=1073741824):∀(a:L Tr),∀t∈fy n a,N t.ck.1<=1073741825
 |[],t,h=>by unfold fy at h;cases h
 |k::a,t,h=>by
  unfold fy at h;rcases bY.1 h with rfl|h
  .exact YL b k
  .exact YO b a t h
end
def YN{n:Nd}:∀(a:L Tr),N (fy n a)=N a
 |[]=>by unfold fy;rfl
 |k::a=>by unfold fy;rw[bt,bt,YN]
mutual
def UO{n:Nd}(f:∀s,N (aF n s)<=1073741824):∀(e:Tr),bO e->∀d,N d<=1073741825->A3 n (jL n e) d
 |.mk op b e a c,ok,d,h=>by
  unfold bO at ok;have g:=YL f (.mk op b e a c);unfold jL Tm.ck at g;unfold jL A3;have a:N (if(df n op b e ((fy n c).map Tm.ck)).1.2=true then d else(df n op b e ((fy n c).map Tm.ck)).1.1)<=1073741825:=by
   split
   .exact h
   .exact g
  refine⟨by rw[YN];exact ok.2.1,Y,UQ f c ok.2.2 op b _ (λq=>?_) a 0⟩
  have:df n op b e ((fy n c).map Tm.ck)=((aF n b,false),yG (cB (aF n b) b false) (cB (aF n b) b true) ((fy n c).map Tm.ck)):=by
   unfold df;rw[ac (by rw[q];decide),ac (by rw[q];decide),ac (by rw[q];decide),ae q]
  rw[this];exact f b
def UQ{n:Nd}(f:∀s,N (aF n s)<=1073741824):∀(b:L Tr),jI b->∀(e d:S) (c:L aS),(e=bD->N c<=1073741824)->N c<=1073741825->∀i,wT n e d c i (fy n b)
 |[],_,_,_,_,_,_,_=>by unfold fy wT;trivial
 |k::b,ok,e,d,c,g,a,i=>by
  unfold jI at ok;unfold fy wT;refine⟨UO f k ok.1 _ ?_,UQ f b ok.2 e d c g a (i+1)⟩;split
  .have:=f d;omega
  .split
   .rename_i q
    have:=g q
    unfold cB;rw[ay,su];omega
   .exact a
end
def ahV:∀{t:Tm} {z:L AV} {i g e:Nat},g<=e->dO i g d t z->dO i e d t z
 |.mk op o l a c any n,z,i,g,e,m,h=>by
  unfold dO at h|-;let⟨a,n,o,m,e,c,g,i,l⟩:=h;refine⟨a,n,o,m,e,c,g,i,?_⟩;rcases l with⟨f,j,k⟩|⟨b,f,j,k⟩
  .exact .inl ⟨f,j,Y⟩
  .exact .inr ⟨b,f,Y,k⟩
def YQ{q:aX}{zn zq:L AV}(C:dL tt d n zn)(f:eG n)(rq:uf tt d q zq)(z:zb q){c:Ck}(ec:fC n q.e=.inr c)
  (k:∀O b,dO d.h b.h b (dr n q.n q.e) O->ai d.h d b->g (.t [O,true]) b):∃v' b,aq Tryz.prog 55 [zn,zq] d v' b/\g v' b:=by
 have p:=C;obtain⟨r,s,t,u,rfl,-⟩:=p;obtain⟨b,rfl,re⟩:=rq;have h:=cJ re;obtain⟨g1,g2,g3,g4,g5,rfl⟩:=h;refine c0 Tryz.func55 ?_;simp(disch:=omega)only[go_sem,sV,bF];obtain⟨W,b⟩:∃W,W=((((d.X (LL [n.n,r,s,t,u,n.a])).X (LL [q.n,g1,g2,g3,g4,g5,q.a])).X (LL [.s 0 0,.s 0 0,II 0,II 0,.e,.e,.e,false])).X (LL [n.n,r,s,t,u,n.a,.e])):=⟨_,R⟩;have B:ai d.h d W:=by rw[b];exact ap (ap (ap (ap (.refl _ _))))
 have h:W.h=d.h+4:=by rw[b];rfl
 have w0:W.f d.h=LL [n.n,r,s,t,u,n.a]:=by rw[b];simp(disch:=omega)only[go_sem]
 have w1:W.f (d.h+1)=LL [q.n,g1,g2,g3,g4,g5,q.a]:=by rw[b];simp(disch:=omega)only[go_sem]
 have w2:W.f (d.h+1+1)=LL [.s 0 0,.s 0 0,II 0,II 0,.e,.e,.e,false]:=by rw[b];simp(disch:=omega)only[go_sem]
 have w3:W.f (d.h+1+1+1)=LL [n.n,r,s,t,u,n.a,.e]:=by rw[b];simp(disch:=omega)only[go_sem]
 rw[<-b];clear b;have b:=ic C B;have T:Ac W (d.h+1+1+1) n .e:=⟨⟨r,s,t,u,w3,b⟩,Y,f⟩;have w:=Ao f;refine al (ajj q.e z.2 W _ _ T (gq (iS B) B.1 (λ_ h=>h) _ _ re) (λb b b a U o=>?_) (λp V=>by rw[ec] at V;cases V));have t3:=qz U;obtain⟨D,F,h3,h4,v,K,rfl,b,b⟩:=t3;have b:=o.1;have h:=(o.2 _ Y).t w0;have b:=(o.2 _ Y).t w1;have v2:=(o.2 _ Y).t w2;have v3:=(o.2 _ Y).t w3;refine S2 h b ?_;obtain⟨i,e⟩:∃i,i=[.s D.1 D.2,.s F.1 F.2,II h3,II h4,.e,v,K,.l (jL n q.e).ck.2]:=⟨_,R⟩;have b:N i=8:=by rw[e];rfl
 rw[<-e];obtain⟨V,b⟩:∃V,V=a.X (LL i):=⟨_,R⟩;have p:ai a.h a V:=by rw[b];exact ap (.refl _ _)
 have v:V.h=a.h+1:=by rw[b];rfl
 have K:V.f a.h=LL i:=by rw[b];exact ae R
 rw[<-b];clear b;have b:=(p.2 _ Y).t h;have V:=(p.2 _ Y).t v2;have u3:=(p.2 _ Y).t v3;have v:=aM B (aM o p);refine al (Du (ic C v) f q.n λy9 b B h=>?_);have o:=h.1;have o:=(h.2 _ Y).t K;have s2:=(h.2 _ Y).t V;have K:=(h.2 _ Y).t u3;refine S0 ?_;have P:=aM v h;have v:xV d b (d.h+1+1+1) n:=⟨⟨r,s,t,u,K,C⟩,P,Y,f⟩;have r:dO W.h a.h b (jL n q.e) i:=by rw[e];exact Bi h (Bi p U)
 have f:lZ b a.h:=by rw[e] at o;exact lZ.of o
 refine al (aiD (jL n q.e) (aF n q.n) (UO w q.e z.2 _ (om (w q.n))) b a.h 0 i i y9 W.h a.h _ v (λc a=>⟨Y,.inl Y⟩) o Y Y (by rw[ng];exact iM Y) r Y (.inr (ak _)) (.inl Y) Y f B λO j f5 a Z a o5 a=>?_);have t5:=qz Z;obtain⟨x,y,H,I,l,m,rfl,a,a⟩:=t5;have a:dz i 0 [.s x.1 x.2,.s y.1 y.2,II H,II I,.e,l,m,.l (nM n (jL n q.e) (aF n q.n)).ck.2]=[.s x.1 x.2,.s y.1 y.2,II H,II I,.e,l,m,.l (nM n (jL n q.e) (aF n q.n)).ck.2]:=by rw[e];rfl
 rw[a] at f5;have h:=(o5 (d.h+1+1) Y Y (.inl Y)).t s2;refine S2 f5 h ?_;obtain⟨X,a⟩:∃X,X=j.put (d.h+1+1) (LL [x,y,H,I,.e,l,m,.l (nM n (jL n q.e) (aF n q.n)).ck.2]):=⟨_,R⟩;have f:∀b,b≠d.h+1+1->X.f b=j.f b:=λb e=>by rw[a];exact ac e
 have i:X.h=j.h:=by rw[a];rfl
 rw[<-a];clear a;have a:∀b,b<d.h->X.f b=d.f b:=λb e=>(f b Y).t ((o5 b Y Y (.inl Y)).t (P.2 b e));refine k _ _ ?_ ⟨Y,a⟩;have a:=Ml (d:=j) (e:=X) (λb e=>by
  by_cases e:b=d.h+1+1
  .rw[e];exact .inr (lZ.of (s:=(0,0)) (t:=(0,0)) h)
  .exact .inl (f b e)) Y (λb D F _=>f b Y) Z
 exact ahV Y (Mm Y a)
variable {l:L Nd}{a i:Nat}
def Kd{e:Nat}{b:Bd}(c:e≠0):(kV e a b).1≠0:=by
 unfold kV;grind
def tP{c:Bool}{e:Nat}{b:Bd}(d:e≠0)(h:(dI c e a b).1=0):c=false/\b.1=0:=by
 unfold dI at h;cases c with
 |true=>exact absurd h (Kd d)
 |false=>grind
mutual
def dF(h:L Nd)(n:Nd):Tr->Prop
 |.mk op b _ _ a=>jT h n op b (N a)=true/\ju h n a
def ju(h:L Nd)(n:Nd):L Tr->Prop
 |[]=>True
 |k::a=>dF h n k/\ju h n a
end
mutual
def GL{h:L Nd}{n:Nd}:∀(e:Tr) (b:Bd),(rX h n e b).1=0->b.1=0/\dF h n e
 |.mk op e _ a d,b,c=>by
  unfold rX at c;let⟨a,b⟩:=Ug d _ c;let⟨c,d⟩:=tP dc a;unfold dF;exact⟨d,by simpa using c,b⟩
def Ug{h:L Nd}{n:Nd}:∀(a:L Tr) (b:Bd),(oZ h n a b).1=0->b.1=0/\ju h n a
 |[],b,a=>by
  unfold oZ at a;unfold ju;grind
 |k::r,b,a=>by
  unfold oZ at a;let⟨b,c⟩:=Ug r _ a;let⟨a,d⟩:=GL k _ b;unfold ju;exact⟨a,d,c⟩
end
def Un{v:Vr}:∀(l:L Vr) (r:Bool×Bd),(qw v l r).2.1=0->r.2.1=0/\∀w∈l,w.n≠v.n
 |[],r,h=>⟨h,J⟩
 |w::l,r,h=>by
  let⟨a,b⟩:=Un l _ h;let⟨c,d⟩:=tP dc a;refine⟨d,λx hx=>?_⟩;rcases bY.1 hx with rfl|hx
  .exact EC c
  .exact b x hx
def Uo{v:Vr}:∀(l:L Vr) (r:Bool×Bd),(qw v l r).1=(r.1||l.any λw=>decide (w.n=v.p))
 |[],r=>by simp[qw]
 |w::l,r=>by
  show(qw v l _).1=_
  rw[Uo l,vL,Bool.or_assoc]
def kB:L Vr->L Vr->Prop
 |_,[]=>True
 |pre,v::r=>((v.p=(0,0)\/∃w∈pre,w.n=v.p)/\∀w∈pre,w.n≠v.n)/\kB (pre++[v]) r
def Up:∀(l a:L Vr) (b:Bd),(vo a l b).1=0->b.1=0/\kB a l
 |[],_,b,h=>⟨h,trivial⟩
 |v::r,a,b,h=>by
  let⟨a,b⟩:=Up r _ _ h;let⟨c,d⟩:=tP dc a;let⟨a,e⟩:=Un _ _ d;refine⟨a,⟨?_,e⟩,b⟩;rw[Uo] at c;grind
def Do{h:L Nd}{n:Nd}:∀(l pre:L aX) (b:Bd),(sR h n pre l b).1=0->b.1=0/\∀q∈l,dF h n q.e/\(aO n q.n).isSome=true
 |[],_,b,a=>⟨a,J⟩
 |q::r,pre,b,a=>by
  let⟨b,c⟩:=Do r _ _ a;let⟨d,e⟩:=GL _ _ b;let⟨a,b⟩:=tP dc d;refine⟨b,λx hx=>?_⟩;rcases bY.1 hx with rfl|hx
  .refine⟨e,?_⟩;have a:((!(aO n x.n).isSome||n.ins.any (λv=>decide (v.n=x.n)))||pre.any (λp=>decide (p.n=x.n)))=false:=a;cases e:(aO n x.n).isSome with
   |true=>rfl
   |false=>rw[e] at a;cases a
  .exact c x hx
def Dt{n:Nd}:∀(l:L Vr) (b:Bd),(ud n l b).1=0->b.1=0
 |[],b,a=>a
 |v::r,b,a=>(tP dc (Dt r _ a)).2
structure EL (h:List Nd) (n:Nd):Prop where
 o:N n.o≠0
 vars:kB [] (am n)
 r:∀q∈n.r,dF h n q.e/\(aO n q.n).isSome=true
def Uj{h:L Nd}{b:Bd}(d:(Dq h n b).1=0):b.1=0/\EL h n:=by
 let⟨a,c⟩:=Do _ _ _ (Dt _ _ d);let⟨d,e⟩:=Up _ _ _ a;let⟨a,f⟩:=tP dc d;refine⟨f,λg=>?_,e,c⟩;rw[g] at a;simp at a
def GM:∀(l h:L Nd) (b:Bd),(wQ h l b).1=0->b.1=0/\∀i (d:i<N l),EL (h++l.take i) l[i]
 |[],h,b,a=>⟨a,J⟩
 |n::r,h,b,a=>by
  let⟨b,c⟩:=GM r _ _ a;let⟨a,c⟩:=Uj b;refine⟨a,λi d=>?_⟩;cases i with
  |zero=>simpa using c
  |succ i=>
   grind
def GI(h:(nF l).1=0)(a:i<N l):EL (l.take i) l[i]:=by
 have:=(GM l [] (0,0) h).2 i a
 assumption
def CY:∀{l a:L Vr},kB a l->∀i (b:i<N l),l[i].p=(0,0)\/∃w∈a++l.take i,w.n=l[i].p
 |v::r,a,h,0,_=>by simpa using h.1.1
 |v::r,a,h,i+1,b=>by
  have:=CY h.2 i J
  grind
def Kl{a:Type}{P:a->Bool}:∀{l:L a} {m:Nat},(∃w∈l.take m,P w=true)->∃i,i<m/\∃a:i<N l,l.find? P=some l[i]
 |[],m,⟨w,b,_⟩=>J
 |a::l,0,⟨w,b,_⟩=>J
 |a::l,m+1,⟨w,b,f⟩=>by
  by_cases e:P a=true
  .grind
  .have b:w∈l.take m:=by
    rcases bY.1 b with rfl|h
    .grind
    .exact h
   let⟨i,a,c,d⟩:=Kl ⟨w,b,f⟩;exact⟨i+1,oL a,oL c,by rw[zO e,d];rfl⟩
def ajG(f:kB [] (am n))(a:∀v∈n.ins++n.o,v.p=(0,0)):∀(p:Nat) (b:p<N (am n)) (s:S),aO n s=some (am n)[p]->∀(j k:Nat) (c:L aS),(N n.ins+N n.o<=p->p+1<=j+(N n.ins+N n.o))->p+1<=k->jW n k s c=some ((fW n j s).reverse++c):=by
 intro p
 induction p using Nat.strongRecOn with
 |ind p g=>
  intro b s d j k c c c;obtain⟨k,rfl⟩:∃c,k=c+1:=⟨k-1,Y⟩;unfold jW;rw[d];dsimp only;by_cases e:(am n)[p].p=(0,0)
  .rw[ae e];cases j with
   |zero=>rfl
   |succ j=>
    unfold fW;grind
  .rw[ac e];have c:N n.ins+N n.o<=p:=by
    refine Nat.le_of_not_lt λc=>e ?_;refine a _ ?_
    have:(am n)[p]=(n.ins++n.o)[p]' J:=by
     unfold am;simp only[<-dC];rw[Is]
    rw[this];exact J
   obtain⟨j,rfl⟩:∃a,j=a+1:=⟨j-1,Y⟩;rcases CY f p b with h|⟨w,a,a⟩
   .exact absurd h e
   .let⟨i,c,b,a⟩:=Kl (P:=λv:Vr=>decide (v.n=(am n)[p].p)) (l:=am n) (m:=p) J;rw[g i c b _ a j k _ Y Y]
    conv=>rhs;unfold fW
    grind
def Nz(d:kB [] (am n))(c:∀v∈n.ins++n.o,v.p=(0,0))(s:S):jW n (N (am n)+1) s []=some (aF n s):=by
 cases a:aO n s with
 |none=>
  unfold jW aF;rw[a];cases N n.ao with
  |zero=>rfl
  |succ m=>
   unfold fW;rw[a];rfl
 |some v=>
  have b:(am n).find? (λv=>decide (v.n=s))=some v:=a;let⟨i,_,b,a⟩:=Kl (P:=λv:Vr=>decide (v.n=s)) (l:=am n) (m:=N (am n)) J;have e:N (am n)=N n.ins+N n.o+N n.ao:=by unfold am;simp only[ay];omega
  rw[ajG d c i b s a (N n.ao) _ [] (λh=>by omega) (by omega),eB]
  rfl
variable {c:L aS}
def ke(k:Ck)(c:L aS):Bool:=!k.2 && !de (k.1=c)
def NL:Ck:=([],true)
def pd(n:Nd)(d c:S)(f a:Nat)(e:L Ck)(b:Bd):Ck×Bd:=
 if d=fm\/d=cX then(([],true),b)
 else if d=bR then((aF n c,false),b)
 else if d=bB then((cB (aF n c) c (de (f=0)),false),dI (ke (e.getD 0 NL) (aF n c)) 10 a b)
 else if d=bD then((aF n c,false),dI (ke (e.getD 1 NL) (cB (aF n c) c true)) 10 a (dI (ke (e.getD 0 NL) (cB (aF n c) c false)) 10 a b))
 else kF a e ([],true) b
mutual
def iF(n:Nd):Tr->Bd->Ck×Bd
 |.mk op e d a c,b=>pd n op e d a (eO n c b).1 (eO n c b).2
def eO(n:Nd):L Tr->Bd->L Ck×Bd
 |[],b=>([],b)
 |k::r,b=>((iF n k b).1::(eO n r (iF n k b).2).1,(eO n r (iF n k b).2).2)
end
def qU{c:Bool}{e:Nat}{b:Bd}(h:b.1≠0):dI c e a b=b:=by
 unfold dI;cases c with
 |true=>exact ac h
 |false=>rfl
def GY{a:Nat}:∀(c:L Ck) (k:Ck) (b:Bd),b.1≠0->(kF a c k b).2=b
 |[],_,_,_=>rfl
 |q::r,k,b,h=>by
  unfold kF;split
  .exact GY r k b h
  .split
   .exact GY r _ b h
   .rw[qU h];exact GY r k b h
def Vf{f e:S}{c:Nat}{d:L Ck}{b:Bd}(h:b.1≠0):(pd n f e c a d b).2=b:=by
 unfold pd;split
 .rfl
 split
 .rfl
 split
 .exact qU h
 split
 .rw[qU h];exact qU h
 .exact GY _ _ _ h
mutual
def Qh{n:Nd}:∀(e:Tr) (b:Bd),b.1≠0->(iF n e b).2=b
 |.mk op e d a c,b,h=>by
  unfold iF;rw[Jr c b h];exact Vf h
def Jr{n:Nd}:∀(a:L Tr) (b:Bd),b.1≠0->(eO n a b).2=b
 |[],b,h=>by unfold eO;rfl
 |k::r,b,h=>by
  unfold eO;dsimp only;rw[Qh k b h];exact Jr r b h
end
def GF{k:Ck}:ke k c=!cg k c:=by
 unfold ke cg;grind
def LV{a:Nat}:∀(d:L Ck) (c:L aS) (b:Bd),(kF a d (c,false) b).1=(c,false)/\(kF a d (c,false) b).2=dI (d.any λk=>!cg k c) 10 a b
 |[],c,b=>dy
 |q::r,c,b=>by
  unfold kF;cases f:q.2 with
  |true=>
   rw[ae R,vL]
   have:cg q c=true:=by unfold cg;rw[f];rfl
   rw[this];exact LV r c b
  |false=>
   rw[ac to,ac to,vL];obtain⟨d,g⟩:=LV r c (dI (!de (c=q.1)) 10 a b);have e:cg q c=de (c=q.1):=by
    unfold cg;rw[f,Em];exact J
   refine⟨d,g.t ?_⟩;rw[e];cases de (c=q.1) with
   |true=>rfl
   |false=>
    show dI _ 10 a (kV 10 a b)=kV 10 a b;exact qU (Kd (by decide))
def UV{a:Nat}:∀(c:L Ck) (b:Bd),(kF a c ([],true) b).1=(kE c).1/\(kF a c ([],true) b).2=dI (!(kE c).2) 10 a b
 |[],b=>dy
 |q::r,b=>by
  unfold kF;cases g:q.2 with
  |true=>
   rw[ae R];obtain⟨d,f⟩:=UV r b;have e:kE (q::r)=kE r:=by
    unfold kE;rw[zO (by rw[g];decide)];cases c:r.find? (λk=>!k.2) with
    |none=>rfl
    |some k=>
     dsimp only;rw[vL]
     have:cg q k.1=true:=by unfold cg;rw[g];rfl
     grind
   rw[e];exact⟨d,f⟩
  |false=>
   rw[ac to,ae R];obtain⟨d,f⟩:=LV (a:=a) r q.1 b;have e:kE (q::r)=((q.1,false),!(q::r).any λb=>!cg b q.1):=by
    unfold kE;rw[En (by rw[g];rfl)]
   rw[e];refine⟨d,f.t ?_⟩;rw[vL]
   have:cg q q.1=true:=by unfold cg;simp
   grind
end
section
variable {a:Nat}{n:Nd}
def adH{c d:Bool}{b:Bd}:dI d 10 a (dI c 10 a b)=dI (c||d) 10 a b:=by
 cases c with
 |false=>rfl
 |true=>
  show dI d 10 a (kV 10 a b)=kV 10 a b;exact qU (Kd dc)
def agY{c g:S}{f:Nat}{d:L Ck}{b:Bd}(h:c=bB->N d=1)(i:c=bD->N d=2):pd n c g f a d b=((df n c g f d).1,dI (!(df n c g f d).2) 10 a b):=by
 unfold pd df;by_cases e:c=fm\/c=cX
 .rw[ae e,ae e];rfl
 rw[ac e,ac e];by_cases q2:c=bR
 .rw[ae q2,ae q2];rfl
 rw[ac q2,ac q2];by_cases e:c=bB
 .rw[ae e,ae e]
  have:=h e
  match d,this with
  |[k],_=>rw[GF];rfl
 rw[ac e,ac e];by_cases e:c=bD
 .rw[ae e,ae e]
  have:=i e
  match d,this with
  |[k,l],_=>
   rw[GF,GF,adH]
   show(_,dI (!cg k _||!cg l _) 10 a b)=(_,dI (!(cg k _&&cg l _)) 10 a b)
   rw[Bool.not_and]
 rw[ac e,ac e];obtain A:=UV (a:=a) d b;grind
mutual
def yd:Tr->Prop
 |.mk op _ _ _ a=>(op=bB->N a=1)/\(op=bD->N a=2)/\Ag a
def Ag:L Tr->Prop
 |[]=>True
 |k::r=>yd k/\Ag r
end
def JX{n:Nd}:∀{b:L Tr} {a:L Ck},fF n b=.inr a->N a=N b
 |[],a,h=>by
  unfold fF at h;cases h;rfl
 |k::r,a,h=>by
  unfold fF at h;cases g:fC n k with
  |inl p=>grind
  |inr c=>
   rw[g] at h;dsimp only at h;cases b:fF n r with
   |inl p=>grind
   |inr a=>
    rw[b] at h;cases h;show N a+1=N r+1;rw[JX b]
mutual
def Qg{n:Nd}:∀(e:Tr) (b:Bd),yd e->b.1=0->(∀c,fC n e=.inr c->iF n e b=(c,b))/\(∀p,fC n e=.inl p->(iF n e b).2=(10,p))
 |.mk op j f a h,b,d,i=>by
  unfold yd at d;let⟨_,_,e⟩:=d;let⟨k,d⟩:=Qk (n:=n) h b e i;unfold fC iF;cases g:fF n h with
  |inl p=>
   refine⟨J,λq h=>?_⟩;have h:Sum.inl p=(Sum.inl q:Sum Nat Ck):=h;cases h
   have:=d p g
   rw[this];exact Vf Y
  |inr d=>
   rw[k d g];have e:=JX g;dsimp only;rw[agY J J];cases e:(df n op j f d).2 with
   |true=>
    refine⟨λc h=>?_,J⟩;have h:(Sum.inr (df n op j f d).1:Sum Nat Ck)=.inr c:=by simpa using h
    cases h
    rfl
   |false=>
    refine⟨J,λq h=>?_⟩;have h:a=q:=by simpa using h
    subst h;show kV 10 a b=(10,a);exact ae i
def Qk{n:Nd}:∀(a:L Tr) (b:Bd),Ag a->b.1=0->(∀c,fF n a=.inr c->eO n a b=(c,b))/\(∀p,fF n a=.inl p->(eO n a b).2=(10,p))
 |[],b,_,d=>by
  unfold fF eO;grind
 |k::r,b,a,d=>by
  unfold Ag at a;let⟨e,c⟩:=Qg (n:=n) k b a.1 d;unfold fF eO;cases g:fC n k with
  |inl p=>
   refine⟨J,λq h=>?_⟩;have h:Sum.inl p=(Sum.inl q:Sum Nat (L Ck)):=h;cases h;dsimp only;rw[c p g];exact Jr r _ Y
  |inr c=>
   rw[e c g];dsimp only;obtain A:=Qk (n:=n) r b a.2 d;grind
end
def qS(n:Nd):L aX->Bd->Bd
 |[],b=>b
 |q::r,b=>qS n r (dI (ke (iF n q.e b).1 (aF n q.n)) 10 q.a (iF n q.e b).2)
def uS:L Nd->Bd->Bd
 |[],b=>b
 |n::r,b=>uS r (qS n n.r b)
def lL(l:L Nd):Bd:=uS l (0,0)
def Ft{n:Nd}:∀(l:L aX) (b:Bd),b.1≠0->qS n l b=b
 |[],_,_=>rfl
 |q::r,b,h=>by
  unfold qS;rw[Qh q.e b h,qU h];exact Ft r b h
def Qm:∀(l:L Nd) (b:Bd),b.1≠0->uS l b=b
 |[],_,_=>rfl
 |n::r,b,h=>by
  unfold uS;rw[Ft _ b h];exact Qm r b h
def Qn{n:Nd}:∀(l:L aX),(∀q∈l,yd q.e)->qS n l (0,0)=yE 10 (uX n l)
 |[],_=>rfl
 |q::r,h=>by
  let⟨a,b⟩:=Qg (n:=n) q.e (0,0) J R;unfold qS uX;cases g:fC n q.e with
  |inl p=>
   rw[b p g,qU Y];exact Ft r _ Y
  |inr c=>
   rw[a c g,GF];dsimp only;cases a:cg c (aF n q.n) with
   |true=>
    rw[ae R];exact Qn r J
   |false=>
    rw[ac to];show qS n r (10,q.a)=(10,q.a);exact Ft r _ Y
def Qq:∀(l:L Nd),(∀n∈l,∀q∈n.r,yd q.e)->uS l (0,0)=yE 10 (Aq l)
 |[],_=>rfl
 |n::r,h=>by
  unfold uS Aq;rw[Qn n.r J];cases g:uX n n.r with
  |some a=>exact Qm r _ (by show(10:Nat)≠0;decide)
  |none=>exact Qq r J
variable {w:Option dn}
section
def lP(a:S):Option Nat:=
 if a∈[fB,ps,eH,bB] then some 1
 else if a∈[bD,jJ,dk,im,gd,gL,gK,gA,dY,il,ik,gU,ij,gT,gS,gV,gX] then some 2
 else if a=jK then some 3
 else if a∈[fm,cX,bR] then some 0 else none
mutual
def cC:Tr->Prop
 |.mk op _ _ _ a=>(op=bK\/lP op=some a.length)/\gY a
def gY:List Tr->Prop
 |[]=>True
 |k::a=>cC k/\gY a
end
def ux:∀a:List Tr,gY a↔∀k∈a,cC k
 |[]=>⟨J,λ_=>by unfold gY;trivial⟩
 |k::a=>by
  unfold gY;rw[ux a];grind
def Zb{a:List Tr}{e:Tr}(h:gY a)(g:cC e):gY (a++[e]):=(ux _).2 λk hk=>by
 rcases bA.1 hk with hk|hk
 .exact(ux _).1 h k hk
 grind
def Za{c:S}{n:Nat}{b:List Tr}(d:gY b):cC (.mk bK c n a b):=by unfold cC;grind
def Ie{b c:S}{n:Nat}(h:lP b=some 0):cC (.mk b c n a []):=by unfold cC gY;grind
def Y9{b c:S}{n:Nat}{x:Tr}(h:lP b=some 1)(d:cC x):cC (.mk b c n a [x]):=by unfold cC gY gY;grind
def Ef{b c:S}{n:Nat}{x y:Tr}(h:lP b=some 2)(d:cC x)(d:cC y):cC (.mk b c n a [x,y]):=by unfold cC gY gY gY;grind
def ajM{b c:S}{n:Nat}{x y z:Tr}(h:lP b=some 3)(d:cC x)(d:cC y)(d:cC z):cC (.mk b c n a [x,y,z]):=by unfold cC gY gY gY gY;grind
variable {L:List Wd}{p:PS}
def tR{a:Nat}(b:a≠0):(iQ L a p).e≠0:=by
 unfold iQ;grind
def D7{s:S}(h:(fJ L s p).e=0):p.e=0:=by
 unfold fJ at h;split at h<;>exact h
def jM{s:S}(h:(aV L s p).e=0):p.e=0:=by
 unfold aV at h;split at h
 .exact h
 .exact absurd h (tR dc)
def A0(h:(aG L p).2.e=0):p.e=0:=by
 unfold aG at h;split at h
 .exact h
 .exact absurd h (tR dc)
def L8(h:(bf L p).e=0):p.e=0:=by
 have h:(rZ L p).e=0:=h;unfold rZ at h;grind
def ahF(h:(lB L p).e=0):p.e=0:=by
 unfold lB at h;split at h
 .exact L8 h
 .exact h
def qb(a:PS->Tr×PS):Prop:=∀p,(a p).2.e=0->p.e=0/\cC (a p).1
def mI(G:Option dn):Prop:=match G with|none=>True|some F=>qb F.a/\qb F.f/\qb F.B/\qb F.p
def CV{f:dn->Tr×PS}(h:∀F,w=some F->(f F).2.e=0->cC (f F).1)(a:(gm L w p f).2.e=0):p.e=0/\cC (gm L w p f).1:=by
 unfold gm qn at a|-;by_cases b:p.e=0
 .rw[ae b] at a|-;cases w with
  |none=>exact absurd a (tR dc)
  |some F=>grind
 .rw[ac b] at a;cases w with
  |none=>exact absurd a (tR dc)
  |some F=>exact absurd a b
def va(g:mI w):qb (dU L w):=λp a=>CV (λF e b=>by subst e;exact(g.1 p b).2) a
def KZ(g:mI w):qb (qX L w):=λp a=>CV (λF e b=>by subst e;exact(g.2.2.2 p b).2) a
def Pz{w:Option dn}(g:mI w):∀(n:Nat) (l:List Tr) (p:PS),gY l->(jC L w n l p).2.e=0->p.e=0/\gY (jC L w n l p).1
 |0,l,p,h,a=>⟨a,h⟩
 |n+1,l,p,h,a=>by
  unfold jC at a|-;split at a
  .rename_i c;rw[ae c];split at a
   .rename_i b;rw[ae b];refine⟨c,?_⟩;by_cases d:(dU L w p).2.e=0
    .exact(Pz g n _ _ (Zb h (va g p d).2) a).2
    .exact absurd (eL b).1 d
   .rename_i b;rw[ac b];exact⟨c,Zb h (va g p a).2⟩
  grind
def XL{e:Wd}(g:mI w)(a:(ii L w e p).2.e=0):p.e=0/\cC (ii L w e p).1:=by
 unfold ii at a|-;by_cases b:p.e=0/\e.k=3
 .rw[ae b] at a|-;exact⟨b.1,Ie rfl⟩
 rw[ac b] at a|-;by_cases q2:aN L uq p=true
 .rw[ae q2] at a|-;exact⟨a,Ie rfl⟩
 rw[ac q2] at a|-;by_cases b:aN L uk p=true
 .rw[ae b] at a|-;exact⟨a,Ie rfl⟩
 rw[ac b] at a|-;by_cases h:aN L jK p=true
 .rw[ae h] at a|-;unfold C0 at a|-;let⟨b,i⟩:=va g _ a;let⟨d,f⟩:=va g _ (jM b);let⟨b,c⟩:=va g _ (jM d);exact⟨b,ajM rfl c f i⟩
 rw[ac h] at a|-;by_cases h:aN L bD p=true
 .rw[ae h] at a|-;unfold Dh at a|-;let⟨d,f⟩:=KZ g _ a;let⟨b,c⟩:=KZ g _ d;exact⟨A0 (p:=bm p) b,Ef rfl c f⟩
 rw[ac h] at a|-;unfold pU at a|-;dsimp only at a|-;by_cases d:aN L iV (aG L p).2=true
 .rw[ae d] at a|-;unfold yq at a|-;by_cases f:aN L gW (bm (aG L p).2)=true
  .rw[ae f] at a|-;exact⟨A0 (p:=p) a,Za (by unfold gY;trivial)⟩
  .rw[ac f] at a|-;let⟨b,c⟩:=Pz g L.length [] _ (by unfold gY;trivial) (jM a);exact⟨A0 (p:=p) b,Za c⟩
 .rw[ac d] at a|-;exact⟨A0 a,Ie rfl⟩
def WO(g:mI w):qb (oB L w):=λp a=>by
 unfold oB at a|-;by_cases d:aN L iV p=true
 .rw[ae d] at a|-;let⟨b,c⟩:=va g _ (jM a);exact⟨b,c⟩
 .rw[ac d] at a|-;let⟨b,c⟩:=XL g a;exact⟨ahF b,c⟩
def Nw(g:mI w):qb (pA L w):=λp a=>by
 have h:∀b,lP b=some 1->(nP L w b p).2.e=0->p.e=0/\cC (nP L w b p).1:=λb c a=>by
  unfold nP at a|-;by_cases q:(bf L p).e=0
  .rw[ae q] at a|-;exact⟨L8 q,(CV (λF e b=>by subst e;exact Y9 c (g.2.2.1 _ b).2) a).2⟩
  grind
 unfold pA at a|-;by_cases b:aN L fB p=true
 .rw[ae b] at a|-;exact h _ rfl a
 rw[ac b] at a|-;by_cases q2:aN L gd p=true
 .rw[ae q2] at a|-;exact h _ rfl a
 rw[ac q2] at a|-;by_cases b:aN L eH p=true
 .rw[ae b] at a|-;exact h _ rfl a
 rw[ac b] at a|-;exact WO g p a
def Zr:∀(n:Nat) (a:Tr) (p:PS),(p.e=0->cC a)->(mZ L n a p).2.e=0->p.e=0/\cC (mZ L n a p).1
 |0,_,_,h,b=>⟨b,h b⟩
 |n+1,a,p,h,b=>by
  unfold mZ at b|-;by_cases q:aN L bB p=true
  .rw[ae q] at b|-;have a:p.e=0:=(eL q).1;exact⟨a,(Zr n _ _ (λ_=>Y9 rfl (h a)) b).2⟩
  grind
def Zm(g:mI w):qb (lW L w):=λp a=>by
 unfold lW at a|-;let⟨b,c⟩:=Zr _ _ _ (λh=>(Nw g p h).2) a;exact⟨(Nw g p b).1,c⟩
def RL(g:mI w):qb (pK L w):=λp a=>by
 unfold pK at a|-;dsimp only at a|-;by_cases q:aN L dk (lW L w p).2=true
 .rw[ae q] at a|-;have b:=Zm g p (eL q).1;exact⟨b.1,(CV (λF e c=>by subst e;exact Ef rfl b.2 (g.2.1 _ c).2) a).2⟩
 .rw[ac q] at a|-;exact Zm g p a
def G2:∀{a:List S} {op:S},kf L a p=some op->op∈a/\p.e=0
 |[],_,h=>by cases h
 |s::l,op,h=>by
  unfold kf at h;split at h
  .rename_i q;cases h;exact⟨J,(eL q).1⟩
  .exact⟨li _ (G2 h).1,(G2 h).2⟩
def agN:∀k:Nat,∀a∈LX k,lP a=some 2
 |0=>by decide
 |1=>by decide
 |2=>by decide
 |3=>by decide
 |n+4=>by
  show∀a∈[gL,gK,gA],lP a=some 2
  decide
def XR{c:PS->Tr×PS}{d:List S}{b:Bool}(i:∀f∈d,lP f=some 2)(g:qb c):∀(n:Nat) (a:Tr) (p:PS),(p.e=0->cC a)->(fO L c d b n a p).2.e=0->p.e=0/\cC (fO L c d b n a p).1
 |0,_,_,h,c=>⟨c,h c⟩
 |n+1,a,p,h,c=>by
  unfold fO at c|-;cases e:kf L d p with
  |none=>
   grind
  |some f=>
   rw[e] at c;let⟨j,f⟩:=G2 e;have a:=i _ j;dsimp only at c|-;refine⟨f,?_⟩;cases b with
   |true=>
    rw[ae rfl] at c|-;exact Ef a (h f) (g _ c).2
   |false=>
    rw[ac to] at c|-;exact(XR i g n _ _ (λb=>Ef a (h f) (g _ b).2) c).2
def Bn{w:Option dn}(g:mI w):∀n:Nat,qb (bP L w n)
 |0=>λp=>RL g p
 |n+1=>λp a=>by
  unfold bP at a|-;let⟨b,c⟩:=XR (agN _) (Bn g n) _ _ _ (λh=>(Bn g n p h).2) a;exact⟨(Bn g n p b).1,c⟩
def aa4(g:mI w):qb (qP L w):=λp a=>by
 unfold qP at a|-;dsimp only at a|-;by_cases q:aN L jJ (bP L w 5 p).2=true
 .rw[ae q] at a|-;have b:=Bn g 5 p (eL q).1;exact⟨b.1,(CV (λF e c=>by subst e;exact Ef rfl b.2 (g.1 _ c).2) a).2⟩
 .rw[ac q] at a|-;exact Bn g 5 p a
def vi:∀m:Nat,mI (pN L m)
 |0=>trivial
 |m+1=>⟨aa4 (vi m),RL (vi m),Nw (vi m),WO (vi m)⟩
def tG(v:Vr):Prop:=v.p=(0,0)/\(v.z=1\/v.z=2)
def QN:∀(n:Nat) (l:List Vr) (p:PS),(∀v∈l,v.p=(0,0))->∀v∈(iz L n l p).1.1,v.p=(0,0)
 |0,l,p,h=>h
 |n+1,l,p,h=>by
  have a:∀v∈l++[(⟨(aG L p).1,0,(0,0),false,(wd L p).a⟩:Vr)],v.p=(0,0):=J;unfold iz;split
  .split
   .grind
   .split
    .exact QN n _ _ a
    .exact a
  .exact h
def JD(p:PS):∀v∈(cH L p).1,tG v:=by
 unfold cH;dsimp only;split
 .intro v a;obtain⟨u,hu,rfl⟩:=cN.1 a;refine⟨QN L.length [] p J u hu,?_⟩;grind
 grind
def QR:∀(n:Nat) (l:List Vr) (p:PS),(∀v∈l,tG v)->∀v∈(mg L n l p).1,tG v
 |0,l,p,h=>h
 |n+1,l,p,h=>by
  unfold mg;split
  .exact QR n _ _ λv a=>(bA.1 a).elim (h v) (JD _ v)
  .exact h
def QO(p:PS):∀v∈(kU L p).1,tG v:=by
 unfold kU;split
 .grind
 .exact QR _ _ _ (JD p)
def ab3{d:List Vr×PS}(h:∀v∈d.1,v.z=1\/v.z=2):∀v∈(is L d).1,v.z=1\/v.z=2:=by
 unfold is;grind
def Tx:∀(n:Nat) (l:List Vr) (p:PS),(∀v∈l,v.z=1\/v.z=2)->∀v∈(nE L n l p).1,v.z=1\/v.z=2
 |0,l,p,h=>h
 |n+1,l,p,h=>by
  have a:∀v∈l++(is L (cH L p)).1,v.z=1\/v.z=2:=λv b=>(bA.1 b).elim (h v) (ab3 (λv b=>(JD p v b).2) v);unfold nE;dsimp only;split
  .split
   .exact Tx n _ _ a
   .exact a
  .exact h
def ajJ(q:PS):∀v∈(jj L q).1,v.z=1\/v.z=2:=by
 unfold jj;split
 .unfold sO;split
  .grind
  .exact Tx _ _ _ J
 grind
def adj(p:PS)(a:(mi L p).2.e=0):p.e=0/\cC (mi L p).1.e:=by
 unfold mi at a|-;dsimp only at a|-;let⟨b,c⟩:=va (vi 30) _ (jM a);exact⟨A0 (jM (p:=(aG L p).2) b),c⟩
def Q8:∀(n:Nat) (l:List aX) (p:PS),(p.e=0->∀q∈l,cC q.e)->(iG L n l p).2.e=0->p.e=0/\∀q∈(iG L n l p).1,cC q.e
 |0,l,p,h,a=>⟨a,h a⟩
 |n+1,l,p,h,a=>by
  unfold iG at a|-;by_cases q:p.e=0/\(wd L p).k=1
  .rw[ae q] at a|-;refine⟨q.1,(Q8 n _ _ (λc x b=>(bA.1 b).elim J λb=>?_) a).2⟩;rw[dM.1 b];exact(adj p c).2
  grind
structure Made (n:Nd):Prop where
 ins:∀v∈n.ins,tG v
 o:∀v∈n.o,tG v
 ao:∀v∈n.ao,v.z=1\/v.z=2
 r:∀q∈n.r,cC q.e
def aen(p:PS):∀v∈(dJ L p).1.2.1,tG v:=QO (aV L iV (aG L (aV L uo {p with x:=0})).2)
def aeq(p:PS):∀v∈(dJ L p).1.2.2,tG v:=QO (aV L iV (aV L tc (aV L gW (kU L (aV L iV (aG L (aV L uo {p with x:=0})).2)).2)))
def LN(p:PS):(jg L p).2=fJ L iW (aV L D0 (iG L L.length [] (aV L pr (jj L (dJ L p).2).2)).2):=rfl
def ago(p:PS)(a:(jg L p).2.e=0):Made (jg L p).1:=by
 have b:=aen (L:=L) p;have c:=aeq (L:=L) p;have d:=ajJ (L:=L) (dJ L p).2;rw[LN] at a;have e:=(Q8 (L:=L) L.length [] (aV L pr (jj L (dJ L p).2).2) J (jM (D7 a))).2;rw[GN];generalize (dJ L p).1=a at*;generalize (iG L L.length [] (aV L pr (jj L (dJ L p).2).2)).1=es at*;generalize (jj L (dJ L p).2).1=a at*;exact⟨b,c,d,e⟩
def Uy:∀(n:Nat) (l:List Nd) (p:PS),(p.e=0->∀d∈l,Made d)->(fV L n l p).2.e=0->∀d∈(fV L n l p).1,Made d
 |0,l,p,h,a=>h a
 |n+1,l,p,h,a=>by
  unfold fV at a|-;by_cases q:p.e=0/\(l.length=0\/(wd L p).k≠0)
  .rw[ae q] at a|-;by_cases q2:l.length=32
   .grind
   .rw[ac q2] at a|-;refine Uy n _ _ (λc x b=>(bA.1 b).elim J λb=>?_) a;rw[dM.1 b];exact ago p c
  grind
def Vj(t:By):∀n∈(ch t).1,Made n:=by
 unfold ch;split
 .unfold tn;dsimp only;split
  .rename_i a;exact Uy 34 [] ⟨0,0,0,0,0⟩ J a
  grind
 grind
mutual
def Zc:∀e:Tr,cC e->yd e
 |.mk op c n a b,h=>by
  unfold cC at h;unfold yd;refine⟨λe=>?_,λe=>?_,Zd b h.2⟩
  .subst e;rcases h.1 with g|g
   .exact absurd g dc
   .exact(jX g).s
  .subst e;rcases h.1 with g|g
   .exact absurd g dc
   .exact(jX g).s
def Zd:∀a:List Tr,gY a->Ag a
 |[],_=>A
 |k::r,h=>by
  unfold gY at h;unfold Ag;exact⟨Zc k h.1,Zd r h.2⟩
end
end
end
end Go.Proofs.YtehahhggpdhieaaGreatDoor
