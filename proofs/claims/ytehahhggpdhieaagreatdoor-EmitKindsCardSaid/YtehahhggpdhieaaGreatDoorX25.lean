/- Lemmas of the walk of EmitKinds are proved. Conditions: none. -/
import Derived.Test.YtehahhggpdhieaaGreatDoorX24
namespace Go.Proofs.YtehahhggpdhieaaGreatDoor
set_option maxRecDepth 100000
set_option maxHeartbeats 32000000
set_option linter.all false
section
open Tryz
variable {g:AV->HN->Prop}{d:HN}
def agM{a:S}(k:g (.t [II (cI a).1,.l (cI a).2.1,.l (cI a).2.2]) d):∃c b,aq Tryz.prog 151 [a] d c b/\g c b:=by
 refine c0 func151 ?_;have c:aI a.1 a.2 1 43=de (a=im):=bz a im;have e:aI a.1 a.2 1 45=de (a=gd):=bz a gd;have f:aI a.1 a.2 1 42=de (a=gL):=bz a gL;have i:aI a.1 a.2 1 47=de (a=gK):=bz a gK;have m:aI a.1 a.2 3 6582125=de (a=gA):=bz a gA;have n:aI a.1 a.2 1 60=de (a=ik):=bz a ik;have r:aI a.1 a.2 2 15676=de (a=gU):=bz a gU;have t:aI a.1 a.2 1 62=de (a=ij):=bz a ij;have v:aI a.1 a.2 2 15678=de (a=gT):=bz a gT;have y:aI a.1 a.2 3 6581857=de (a=gS):=bz a gS;have l:aI a.1 a.2 2 29295=de (a=gV):=bz a gV;have p:aI a.1 a.2 3 7499640=de (a=gX):=bz a gX;have F:aI a.1 a.2 2 15932=de (a=il):=bz a il;by_cases q:a=im
 .rw[aB q] at c;have b:cI a=(8,false,false):=by unfold cI;rw[ae q]
  rw[b] at k;refine S1 c ?_;exact k
 have h:=q;clear q;rw[aA h] at c;by_cases q:a=gd
 .rw[aB q] at e;have b:cI a=(9,false,false):=by unfold cI;rw[ac h,ae q]
  rw[b] at k;refine S2 c e ?_;exact k
 have j:=q;clear q;rw[aA j] at e;by_cases q:a=gL
 .rw[aB q] at f;have b:cI a=(10,false,false):=by unfold cI;rw[ac h,ac j,ae q]
  rw[b] at k;refine S3 c e f ?_;exact k
 have q2:=q;clear q;rw[aA q2] at f;by_cases q:a=gK
 .rw[aB q] at i;have b:cI a=(11,false,false):=by unfold cI;rw[ac h,ac j,ac q2,ae q]
  rw[b] at k;refine S4 c e f i ?_;exact k
 have o:=q;clear q;rw[aA o] at i;by_cases q:a=gA
 .rw[aB q] at m;have b:cI a=(12,false,false):=by unfold cI;rw[ac h,ac j,ac q2,ac o,ae q]
  rw[b] at k;refine S5 c e f i m ?_;exact k
 have s:=q;clear q;rw[aA s] at m;by_cases q:a=ik
 .rw[aB q] at n;have b:cI a=(14,false,false):=by unfold cI;rw[ac h,ac j,ac q2,ac o,ac s,ae q]
  rw[b] at k;refine S6 c e f i m n ?_;exact k
 have u:=q;clear q;rw[aA u] at n;by_cases q:a=gU
 .rw[aB q] at r;have b:cI a=(15,false,false):=by unfold cI;rw[ac h,ac j,ac q2,ac o,ac s,ac u,ae q]
  rw[b] at k;refine S7 c e f i m n r ?_;exact k
 have x:=q;clear q;rw[aA x] at r;by_cases q:a=ij
 .rw[aB q] at t;have b:cI a=(14,true,false):=by unfold cI;rw[ac h,ac j,ac q2,ac o,ac s,ac u,ac x,ae q]
  rw[b] at k;refine S8 c e f i m n r t ?_;exact k
 have z:=q;clear q;rw[aA z] at t;by_cases q:a=gT
 .rw[aB q] at v;have b:cI a=(15,true,false):=by unfold cI;rw[ac h,ac j,ac q2,ac o,ac s,ac u,ac x,ac z,ae q]
  rw[b] at k;simp(disch:=omega)only[go_sem,c,e,f,i,m,n,r,t,v];exact k
 have C:=q;clear q;rw[aA C] at v;by_cases q:a=gS
 .rw[aB q] at y;have b:cI a=(16,false,false):=by unfold cI;rw[ac h,ac j,ac q2,ac o,ac s,ac u,ac x,ac z,ac C,ae q]
  rw[b] at k;simp(disch:=omega)only[go_sem,c,e,f,i,m,n,r,t,v,y];exact k
 have D:=q;clear q;rw[aA D] at y;by_cases q:a=gV
 .rw[aB q] at l;have b:cI a=(17,false,false):=by unfold cI;rw[ac h,ac j,ac q2,ac o,ac s,ac u,ac x,ac z,ac C,ac D,ae q]
  rw[b] at k;simp(disch:=omega)only[go_sem,c,e,f,i,m,n,r,t,v,y,l];exact k
 have w:=q;clear q;rw[aA w] at l;by_cases q:a=gX
 .rw[aB q] at p;have b:cI a=(18,false,false):=by unfold cI;rw[ac h,ac j,ac q2,ac o,ac s,ac u,ac x,ac z,ac C,ac D,ac w,ae q]
  rw[b] at k;simp(disch:=omega)only[go_sem,c,e,f,i,m,n,r,t,v,y,l,p];exact k
 have B:=q;clear q;rw[aA B] at p;have b:cI a=(13,false,de (a=il)):=by unfold cI;rw[ac h,ac j,ac q2,ac o,ac s,ac u,ac x,ac z,ac C,ac D,ac w,ac B]
 rw[b] at k;simp(disch:=omega)only[go_sem,c,e,f,i,m,n,r,t,v,y,l,p,F];exact k
variable {p:ES}{u v:L Nat}{a b f q:Nat}{o:Nat->Nat}
def ajh(a b c:Nat):cD 1 (d.X (LL [a,b,c])) (.a d.h 0 3 (.k 3)) (N [a,b,c]) ([a,b,c].map iv):=.inr ⟨d.h,0,_,false,_,R,ae R,bJ _,ak _,R,R⟩
def agH(c:S):(cI c).1<=18:=by
 have f:∀(p:Prop) [Decidable p] (a b:Nat×Bool×Bool),a.1<=18->b.1<=18->(if p then a else b).1<=18:=by
  intro p _ a b h g;split
  .exact h
  .exact g
 unfold cI;refine f _ _ _ dc ?_;refine f _ _ _ dc ?_;refine f _ _ _ dc ?_;refine f _ _ _ dc ?_;refine f _ _ _ dc ?_;refine f _ _ _ dc ?_;refine f _ _ _ dc ?_;refine f _ _ _ dc ?_;refine f _ _ _ dc ?_;refine f _ _ _ dc ?_;refine f _ _ _ dc ?_;refine f _ _ _ dc ?_;exact(by decide:13<=18)
def ajx{j:cK}{t:S->Option Nat}(h:ba f q j o u v t p d)(m:N p.an<=899999999990/\N p.j<=899999999990){c:S}
  (k:∀i l e,ba f q i l u v t (pz c a b p).2 e->bh d o e l->fh j i->g (II (pz c a b p).1) e):∃i e,aq Tryz.prog 116 [.p q 0,c,a,b] d i e/\g i e:=by
 let⟨e,s,co,i,r,n,l⟩:=p;dsimp only at m;have m:=agH c;have w:pz c a b ⟨e,s,co,i,r,n,l⟩=if(cI c).2.2 then nG (N e) ⟨e++[if 13<=(cI c).1 then 1 else 2],s,co,i++[iR (cI c).1 [N e,if(cI c).2.1 then b else a,if(cI c).2.1 then a else b]],r,n,l⟩ else(N e,⟨e++[if 13<=(cI c).1 then 1 else 2],s,co,i++[iR (cI c).1 [N e,if(cI c).2.1 then b else a,if(cI c).2.1 then a else b]],r,n,l⟩):=R
 rw[w] at k;refine c0 func116 ?_;refine S0 ?_;refine al (agM ?_);generalize cI c=O at*;let⟨i,o2,e⟩:=O;dsimp only at m k|-;have l:∀x y z:Nat,N [x,y,z]<=3:=λ_ _ _=>ak _;cases o2
 all_goals cases e
 all_goals by_cases e:13<=i
 all_goals simp only[e,vR,uD,xA] at k
 all_goals simp(disch:=omega)only[go_sem]
 all_goals refine al (xe h (by dsimp only;omega) λe e e e i=>?_)
 all_goals dsimp only at e|-
 all_goals simp(disch:=omega)only[go_sem,fp,ft,bF]
 all_goals refine al (uW (e.X (ap (.refl _ _))) (ajh _ _ _) (l _ _ _) R Y R λe e e e l=>?_)
 all_goals simp(disch:=omega)only[go_sem]
 all_goals first
  |exact k _ _ _ e ((i.M (.ext (ap (.refl _ _)))).M l) ((fh.put j 2 _).M (.put _ 5 _))
  |refine al (UG e ⟨by rw[ay,su];omega,by rw[ay,su];omega⟩ λx w s m n r=>?_)
   refine S0 ?_;exact k _ _ _ m (((i.M (.ext (ap (.refl _ _)))).M l).M n) (((fh.put j 2 _).M (.put _ 5 _)).M r)
section
@[go_sem] def alk{k:IntKind}:wH (.i k)=some lR:=(rfl)
@[go_sem] def alr{v z:AV}:sN true z (some v)=.t [v,true]:=(rfl)
@[go_sem] def alq{z:AV}:sN true z none=.t [z,false]:=(rfl)
def Be(a b:Nat):lR (II a) (II b)=some (de (a=b)):=by
 show some (a==b)=_;congr 1
section
variable {U:HN}
def tD.look{M:Nat->Option AV}(h:tD U b M)(n:Nat)(a:Bool)(z:AV):yQ (some lR) (some z) (.map b) (II n) a U=.ok (sN a z (M n)) U:=by
 let⟨c,d,_,e⟩:=h;show yR lR a z (II n) (uZ (U.f b)) U=_;rw[d];show AQ a z (ml lR (II n) c) U=_;rw[e n];rfl
def ahK{c:L (AV×AV)}{M:Nat->Option AV}(i:∀e∈c,∃s:Nat,e.1=II s)(h:∀n,ml lR (II n) c=some (M n))(k:Nat)(v:AV):∃a,oC lR (II k) v c=some a/\(∀e∈a,∃s:Nat,e.1=II s)/\∀n,ml lR (II n) a=some (if n=k then some v else M n):=by
 have n:∀(c:L (AV×AV)),(∀e∈c,∃s:Nat,e.1=II s)->∃a,oC lR (II k) v c=some a/\(∀e∈a,∃s:Nat,e.1=II s)/\∀(s:Nat) (o),ml lR (II s) c=some o->ml lR (II s) a=some (if s=k then some v else o):=by
  intro c
  induction c with
  |nil=>
   refine λ_=>⟨_,R,(λx b=>⟨k,by rw[dM.1 b]⟩),λs o b=>?_⟩;cases b;unfold ml;rw[Be];by_cases e:s=k
   .rw[ae e,aB e]
   .rw[ac e,aA e];rfl
  |cons x r d=>
   intro i;let⟨t,j⟩:=i x gN;let⟨p,l,f,m⟩:=d λz d=>i z (li _ d);by_cases e:k=t
   .refine⟨(II k,v)::r,by unfold oC;rw[j,Be,aB e],λy hy=>?_,λs o b=>?_⟩
    .rcases bY.1 hy with rfl|hy
     .exact⟨k,R⟩
     .exact i y (li _ hy)
    unfold ml at b|-;rw[j,Be] at b;rw[Be];by_cases d:s=k
    .rw[ae d,aB d]
    .rw[aA (λg=>d (g.t e.s))] at b;rw[ac d,aA d];exact b
   .refine⟨x::p,by unfold oC;rw[j,Be,aA e,l],λy hy=>?_,λs o b=>?_⟩
    .rcases bY.1 hy with rfl|hy
     .exact⟨t,j⟩
     .exact f y hy
    unfold ml at b|-;rw[j,Be] at b|-;by_cases d:s=t
    .rw[aB d] at b|-
     have:s≠k:=λg=>e (g.s.t d)
     rw[ac this];exact b
    .rw[aA d] at b|-;exact m s o b
 let⟨a,l,f,m⟩:=n c i;exact⟨a,l,f,λs=>m s _ (h s)⟩
def tD.mE{M:Nat->Option AV}(h:tD U b M)(s:Nat)(v:AV):∃c,yX (some lR) b (II s) v U=.ok bp (U.put b (.mp c))/\tD (U.put b (.mp c)) b λt=>if t=s then some v else M t:=by
 let⟨c,g,i,j⟩:=h;let⟨a,d,e,f⟩:=ahK i j s v;refine⟨a,?_,a,by show(if b=b then _ else _)=_;rw[ae R],e,f⟩;show AX lR b _ v (uZ (U.f b)) U=_;rw[g];show Dj b (oC lR (II s) v c) U=_;rw[d];rfl
end
def aeR{l:L Nat}{n:Nat}(h:ot l n=none)(m:Nat):ot (l++[n]) m=if m=n then some (N l) else ot l m:=by
 unfold ot at*;rw[List.findIdx?_append];by_cases e:m=n
 .subst e;rw[h,ae R];simp[ZP]
 .rw[ac e];cases List.findIdx? (λx=>decide (x=m)) l with
  |some i=>rfl
  |none=>simp[ZP,Ne.symm e]
def kr.map{v:cK}{a:Nat->L AV}{cY:Nat->Nat}{U:HN}(h:kr f q v o a cY U)(i:o b=2\/o b=3)(j:∃es,U.f b=.mp es)(es:L (AV×AV)):kr f q v o a cY (U.put b (.mp es))/\bh U o (U.put b (.mp es)) o/\∀c,c≠b->(U.put b (.mp es)).f c=U.f c:=by
 have K:∀c,c≠b->(U.put b (.mp es)).f c=U.f c:=λc a=>ac a;have d:(U.put b (.mp es)).f b=.mp es:=ae R;have g:∀c,(∃es,U.f c=.mp es)->∃e,(U.put b (.mp es)).f c=.mp e:=λc a=>by
  by_cases e:c=b
  .rw[e];exact⟨es,d⟩
  .rw[K c e];exact a
 refine⟨⟨(K q λe=>by rw[<-e,h.om] at i;omega).t h.D,λk d=>kG (h.own k d) (λc a=>K c λe=>by have:=h.C k d c a;rw[e] at this;omega) (ak _),h.C,h.ne,h.i,h.om,h.os,h.oc,h.ob,g _ h.mM,g _ h.mC,h.wb⟩,⟨ak _,λc _ a=>K c λe=>by rw[e] at a;omega,λ_ _=>R,λc _=>?_⟩,K⟩;by_cases e:c=b
 .rw[e];let⟨_,a⟩:=j;rw[a];exact .inr eM.mp
 .exact .inl (K c e)
def Jy{a:cK}{P:S->Option Nat}{U:HN}(h:ba f q a o u v P p U)(b:N p.an<=899999999990/\N p.j<=899999999990/\N p.s<=899999999990){r n:Nat}
  (k:∀c d b,ba f q c d u v P (hY r n p).2 b->bh U o b d->fh a c->g (II (hY r n p).1) b):∃c b,aq Tryz.prog 114 [.p q 0,r,n] U c b/\g c b:=by
 let⟨l6,l7,j,R6,R7⟩:=h.W;have c:=h.base;have s:U.f q=LL [a.n,a.d,a.w,a.b,a.e,a.a,a.y 0,a.y 1,a.y 2,a.y 3,a.y 4,a.y 5,.map a.m,.map a.c,a.y 6,a.y 7,a.y 8]:=j.D;have d:=λz e=>h.mC.look n e z;refine c0 func114 ?_;cases x:ot p.s n with
 |some i=>
  rw[x] at d;have d:∀z e,yQ (some lR) (some z) (.map a.c) (II n) e U=.ok (sN e z (some (II i))) U:=d;have l:hY r n p=(N p.an,{p with an:=p.an++[r],j:=p.j++[iR 0 [N p.an,i]]}):=by unfold hY iw;rw[x];rfl
  rw[l] at k;refine S2 s d ?_;refine al (xe h Y λc c c i y=>?_);refine S0 ?_;refine al (uW (i.X (ap (.refl _ _))) (uv _ _) (gf R) R Y R λi i i C m=>?_);refine S0 ?_;exact k _ _ _ C ((y.M (.ext (ap (.refl _ _)))).M m) ((fh.put a 2 _).M (.put _ 5 _))
 |none=>
  rw[x] at d;have d:∀z e,yQ (some lR) (some z) (.map a.c) (II n) e U=.ok (sN e z none) U:=d;have l:hY r n p=(N p.an,{p with an:=p.an++[r],s:=p.s++[n],j:=p.j++[iR 0 [N p.an,N p.s]]}):=by unfold hY iw;rw[x];rfl
  rw[l] at k;have B:∀(b:HN) (e w:Nat),eF (.a e 1 w) (a.y 4) b=.ok (II (N p.s)) b:=by
   intro b e w;obtain⟨h0,⟨l,i⟩|⟨b,t,t,⟨l,i,_⟩|⟨l,s⟩⟩⟩:=j.own 4 dc
   .have i:N p.s=0:=i;rw[l,i];rfl
   .have i:N p.s=0:=i;rw[l,i];rfl
   .have l:a.y 4=.a b 0 (N p.s) (.B 1):=l;rw[l,ov,nD,ae (by omega)]
  let⟨l,t,W⟩:=h.mC.mE n (II (N p.s));let⟨i,y,V⟩:=j.map (b:=a.c) (.inr j.oc) j.mC l;obtain⟨c,z⟩:∃w,w=U.put a.c (.mp l):=⟨_,R⟩;rw[<-z] at t W i y V;have l:c.h=U.h:=by rw[z];rfl
  have l:c.f q=LL [a.n,a.d,a.w,a.b,a.e,a.a,a.y 0,a.y 1,a.y 2,a.y 3,a.y 4,a.y 5,.map a.m,.map a.c,a.y 6,a.y 7,a.y 8]:=i.D;refine S5 s d B t l ?_;obtain⟨X,d⟩:∃X,X=c.X (LL [n]):=⟨_,R⟩;have w:ai c.h c X:=by rw[d];exact ap (.refl _ _)
  have t:X.h=c.h+1:=by rw[d];rfl
  have B:X.f c.h=LL [n]:=by rw[d];exact ae R
  rw[<-d];clear d;let⟨t,D,o2,K,d⟩:=oS (s:=1) (w:=8) (m:=1) (k:=[iv n]) dc ((i.X w).own 4 dc) (y:=.a c.h 0 1 (.k 1)) (sX B Y R) dc (by show(N p.s+1)*8<=_;omega) Y;have B:¬ar (a.y 4) q:=λI=>by have:=i.C 4 dc q I;rw[i.om] at this;omega
  have F:=(d q Y B).t ((w.2 q Y).t l);have l:it u v p 4=N p.s:=R;rw[l] at D o2;let⟨B,m⟩:=i.grow (k:=4) dc (qp n []) Y w K o2 d;rw[l] at B m;rw[D];refine S1 F ?_;obtain⟨l,D⟩:∃l,l=t.put q (LL [a.n,a.d,a.w,a.b,a.e,a.a,a.y 0,a.y 1,a.y 2,a.y 3,.a X.h 0 (N p.s+1) (.B 1),a.y 5,.map a.m,.map a.c,a.y 6,a.y 7,a.y 8]):=⟨_,R⟩;rw[<-D];have F:t.put q (LL (a.put 4 (.a X.h 0 (N p.s+1) (.B (jx 4)))).cells)=l:=D.s;rw[F] at B m;have K:∀b,o b≠0->o b≠1->o b≠8->l.f b=c.f b:=λb h0 z c=>by
   have s:=(i.ob b h0).2;rw[D];exact(ac λe=>z (by rw[e];exact i.om)).t ((d b Y λI=>c (i.C 4 dc b I)).t (w.2 b s))
  have b:=y.M m;have C:ba f q (a.put 4 (.a X.h 0 (N p.s+1) (.B (jx 4)))) _ u v P {p with s:=p.s++[n]} l:=⟨⟨l6,l7,B.congr (nine R R R R (yU _ _) R R R R) (nine R R R R (by show(p.s++[n]).length=_;rw[ay];rfl) R R R R),R6.step b,R7.step b⟩,
   h.mM.eq ((K a.m (by rw[j.os];decide) (by rw[j.os];decide) (by rw[j.os];decide)).t (V a.m λe=>by have:=j.os;rw[e,j.oc] at this;cases this)),by
    have:=W.eq (K a.c (by rw[j.oc];decide) (by rw[j.oc];decide) (by rw[j.oc];decide))
    have c:(λm=>(ot (p.s++[n]) m).map iv)=λt=>if t=n then some (II (N p.s)) else(ot p.s t).map iv:=by
     funext m;rw[aeR x];split<;>rfl
    show tD l a.c λm=>(ot (p.s++[n]) m).map iv;rw[c];exact this⟩
  refine al (xe C (by show N p.an<=_;omega) λc c c c d=>?_);refine S0 ?_;refine al (uW (c.X (ap (.refl _ _))) (uv _ _) (gf R) R (by show N p.j<=_;omega) R λc c c c e=>?_);refine S0 ?_;exact k _ _ _ c (b.M ((d.M (.ext (ap (.refl _ _)))).M e)) (((fh.put a 4 _).M (.put _ 2 _)).M (.put _ 5 _))
end
end
section
open Tryz renaming prog->tz
open Tryz
def NE:∀a:L Tm,cL a=a.map bw
 |[]=>rfl
 |k::a=>by unfold cL;rw[NE a];rfl
def ajS:∀t:Tm,bO (bw t)->∀(b:HN) (e Z:Nat) (z:L AV) (Q:AV->HN->Prop),dO e Z b t z->(∀z' g,bn (λc=>b.h<=c/\c<g.h) g (bw t) z'->ai b.h b g->Q (.g z') g)->∃t g,aq tz 149 [z] b t g/\Q t g:=by
 refine Tm.E λD C x a c I s ih=>?_;intro t b e Z z Q w k;unfold bw at t k;unfold bO at t;let⟨_,e,h⟩:=t;rw[NE] at h e k;rw[aC] at e;have h:=(mw _).1 h;unfold dO at w;obtain⟨cy,ky,B,m,rfl,e,e,a5,y⟩:=w;obtain⟨a4,a3,-⟩:=pQ a5;have e:dZ ky=some [ky]:=by rcases y with⟨rfl,_⟩|⟨_,_,_,_,rfl,_⟩<;>rfl
 have W:∀(g:HN) (e w:Nat),eF (.a e 8 w) ky g=.ok (II (N s)) g:=λg e w=>by
  rcases y with⟨rfl,rfl,_⟩|⟨kb,_,_,_,rfl,_⟩
  .rfl
  .rw[ov,nD,ae (by omega),a4]
 refine cf VN func149 ?_;simp(disch:=omega)only[go_sem,sV,bF,W];obtain⟨W,e⟩:∃W,W=((((b.X (LL [D,C,x,a,.e,cy,ky,I])).X (LL [.s 0 0,.s 0 0,II 0,II 0,.e])).X (LL [.s 0 0,.s 0 0,II 0,II 0,.e])).put (b.h+1+1) (LL [D,C,x,a,.e])):=⟨_,R⟩;have g:ai b.h b W:=by rw[e];exact cO (ap (ap (ap (.refl _ _)))) Y
 have z:W.h=b.h+3:=by rw[e];rfl
 have t:W.f (b.h+1)=LL [.s 0 0,.s 0 0,II 0,II 0,.e]:=by rw[e];simp(disch:=omega)only[go_sem]
 have w:W.f (b.h+1+1)=LL [D,C,x,a,.e]:=by rw[e];simp(disch:=omega)only[go_sem]
 rw[<-e];clear e;let⟨I,hI⟩:=inv λm e f=>∃(i:Nat) (kx:AV) (n:L (L AV)),m=N s-i/\i<=N s/\(e 2=.p (b.h+1) 0/\e 3=.p (b.h+1+1) 0/\e 9=ky/\e 10=II (N s)/\e 11=II i)/\f.f (b.h+1)=LL [.s 0 0,.s 0 0,II 0,II 0,.e]/\f.f (b.h+1+1)=LL [D,C,x,a,kx]/\ai b.h b f/\b.h+3<=f.h/\
  aH 5 (b.h+3) f kx (N n) n.flatten/\cw (λc=>b.h+2<c/\c<f.h/\¬ar kx c) f ((s.take i).map bw) n
 refine aT I (N s) ((hI _ _ _).2 ⟨0,.e,[],R,aJ _,dy,t,w,g,Y,aH.nil,by rw[gO];unfold cw;rfl⟩) ?_;clear t w g z;intro g e f Z;let⟨i,kx,n,_,Z,⟨p2,p3,p9,F,H⟩,f1,f2,K,e,ox,rx⟩:=(hI _ _ _).1 Z;by_cases o:i<N s
 .obtain⟨kb,e,e,a0,rfl,e,a2⟩:=y.resolve_left (λg=>by rw[g.2.1] at o;exact absurd o (nR _));obtain⟨I,W,m,e,e,e,y,-⟩:=DQ a5 i o;have t:=(K.2 kb a0).t a2;have g:=jZ (s:=8) B a3;have e:=oV (s:=8) B i a3 m;have m:i*8+8<=N B.flatten:=by rw[g];omega
  let⟨B,Z,g3,g4,g,w,m,_,z⟩:=qz y;rw[m] at e y;refine S8 p3 p9 F H t e a4 f2 ?_;obtain⟨V,e⟩:∃V,V=(f.X (LL [B,Z,g3,g4,.e,g,w,.l s[i].ck.2])).at_ (f.h+1+(1+1+1+1+1+1+1+1)):=⟨_,R⟩;have EV:ai f.h f V:=by
   rw[e];exact⟨by show f.h<=f.h+1+(1+1+1+1+1+1+1+1);omega,λc d=>ac Y⟩
  have g:V.h=f.h+9:=by rw[e];rfl
  simp(disch:=omega)only[<-e];clear e;have v1:=(EV.2 _ Y).t f1;have v2:=(EV.2 _ Y).t f2;have g:=Bi (aM K EV) y;have e:=h _ (ni (aU o));refine bL (ih _ (aU o) e V I W _ _ g λz' j r2 E2=>?_);obtain⟨v,u,O,P,h5,rfl⟩:=cJ r2;have e:=E2.1;have I:=(E2.2 _ (by omega:b.h+1<V.h)).t v1;have y:=(E2.2 _ (by omega:b.h+1+1<V.h)).t v2;refine S0 ?_;obtain⟨g,e⟩:∃g,g=f.h+1+(1+1+1+1):=⟨_,R⟩;rw[<-e];obtain⟨X,e⟩:∃X,X=(((j.at_ g).X (LL [v,u,O,P,h5])).at_ j.h):=⟨_,R⟩;have t:∀c,c≠g->X.f c=j.f c:=λc d=>by rw[e];exact ac d
  have W:X.f g=LL [v,u,O,P,h5]:=by rw[e];exact ae R
  have h:X.h=j.h:=by rw[e];rfl
  rw[<-e];clear e;have e:=(kI rx).1;rw[aC,dW] at e;have l:∀c,ar kx c->b.h+3<=c/\c<f.h:=λc d=>cz ox d;have m:∀c,c<f.h->j.f c=f.f c:=λc d=>(E2.2 c Y).t (EV.2 c d);have h:=kG ox (λc d=>(t c (om (l c d))).t (m c (l c d).2)) Y;let⟨e,w,B,_,z⟩:=oS (s:=5) (w:=72) (m:=1) (k:=[v,u,O,P,h5]) dc h (y:=.a g 0 1 (.k 1)) (sX W Y R) dc Y Y;rw[w];have w:∀c,c<j.h->c≠g->¬ar kx c->e.f c=j.f c:=λc v h u=>(z c Y u).t (t c h);have t:=(w (b.h+1+1) Y Y (λh=>om (l _ h))).t y;refine S5 p3 H t v2 y ?_;obtain⟨p,r⟩:∃p,p=e.put (b.h+1+1) (LL [D,C,x,a,.a X.h 0 (N n+1) (.B 5)]):=⟨_,R⟩;have Uu:∀c,c≠b.h+1+1->p.f c=e.f c:=λc d=>by rw[r];exact ac d
  have y:p.f (b.h+1+1)=LL [D,C,x,a,.a X.h 0 (N n+1) (.B 5)]:=by rw[r];exact ae R
  have nY:p.h=e.h:=by rw[r];rfl
  rw[<-r];clear r;have t:∀c,ar (.a X.h 0 (N n+1) (.B 5)) c->c=X.h:=λc d=>(show X.h=c from d).s;have e:∀c,c<j.h->c≠b.h+1+1->c≠g->¬ar kx c->p.f c=j.f c:=λc v u O P=>(Uu c u).t (w c v O P);refine⟨λh=>absurd h dc,N s-(i+1),Y,(hI _ _ _).2 ⟨i+1,_,n++[[.s v.1 v.2,.s u.1 u.2,II O,II P,h5]],R,o,⟨dx p2,dx p3,dx p9,dx F,R⟩,?_,y,?_,Y,?_,?_⟩⟩
  .exact(e _ Y Y Y (λh=>om ((l _ h).1))).t I
  .exact⟨om K.1,λc d=>(e c Y Y Y (λh=>om ((l _ h).1))).t ((m c Y).t (K.2 c d))⟩
  .rw[ay,su,nh,Ir];exact kG B (λc d=>Uu c (om (t c d))) Y
  .rw[dt o,cM];refine zi (sa (U:=f) (λc q d=>?_) Y (λc q=>⟨q.1,om q.2.1,λh=>by have:=t c h;have:=q.2.1;omega⟩) _ _ rx) ?_
   .exact(e c Y (om q.1) Y q.2.2).t (m c d)
   .exact gq (U:=j) (F:=λc=>V.h<=c/\c<j.h) (λc q d=>e c d (om q.1) (om q.1) λh=>by have:=(l c h).2;have:=q.1;omega) Y (λc q=>⟨om q.1,om q.2,λh=>by have:=t c h;have:=q.2;omega⟩) _ _ r2
 .obtain rfl:i=N s:=Y;refine S6 p2 p3 F H f1 f2 ?_;rw[iM (ak _)] at rx;obtain⟨p,r⟩:∃p,p=f.put (b.h+1) (LL [D,C,x,a,kx]):=⟨_,R⟩;have Uu:∀c,c≠b.h+1->p.f c=f.f c:=λc d=>by rw[r];exact ac d
  have nY:p.h=f.h:=by rw[r];rfl
  rw[<-r];clear r;have l:∀c,ar kx c->b.h+3<=c/\c<f.h:=λc d=>cz ox d;have a:=kG ox (λc d=>Uu c (om (l c d))) Y;refine k _ p ?_ ⟨om K.1,λc d=>(Uu c Y).t (K.2 c d)⟩;unfold bn;refine⟨kx,R,λc d=>?_,n,oz a (kI rx).2,sa (U:=f) (λc q d=>Uu c (om q.1)) Y (λc q=>⟨om q.1,om q.2.1⟩) _ _ rx⟩
  have:=l c d
  exact⟨Y,Y⟩
variable {x y:AV}{g:AV->HN->Prop}{d:HN}{a b h:Nat}{n:Nd}
def YW{c:Nat}{v a b e f i:AV}(h:d.f c=LL [v,n.n,a,b,e,f,n.a,i])(i:c<d.h)(i:dL tt d n [n.n,a,b,e,f,n.a])(b:eG n)(s:S)
  (k:∀a,ai d.h d a->g (II (bQ n s)) a):∃e a,aq tz 188 [.p c 0,s] d e a/\g e a:=by
 refine c0 func188 ?_;refine S1 h ?_;refine al (Km i b s λa e=>?_);have b:bQ n s=((aO n s).getD dm).z:=R;rw[b] at k;have b:∀w:Vr,w.cells=[.s w.n.1 w.n.2,II w.z,.s w.p.1 w.p.2,.l w.t,II w.a]:=λ_=>R;rw[b];generalize (aO n s).getD dm=u at*;have b:(a.X (LL [u.n,u.z,u.p,u.t,u.a])).f a.h=LL [u.n,u.z,u.p,u.t,u.a]:=ae R;refine S1 b ?_;exact k _ (ap e)
def Nv{c w t:Nat}(l:d.f b=LL [a,c])(k:g (II (if a=w/\c=w then t else 0)) d):∃f e,aq tz 189 [.a b 0 2 (.B 1),w,t] d f e/\g f e:=by
 refine c0 func189 ?_;by_cases f:a=w
 .by_cases h:c=w
  .rw[ae ⟨f,h⟩] at k;have e:=aB f;have i:=aB h;refine S3 l e i ?_;exact k
  .rw[ac (λj=>h j.2)] at k;have e:=aB f;have i:=aA h;refine S3 l e i ?_;exact k
 .rw[ac (λj=>f j.1)] at k;have e:=aA f;refine S2 l e ?_;exact k
def YU{f c q:Nat}(j:d.f f=LL [.a b 0 2 (.B 1)])(i:d.f b=LL [a,c])(k:g (.l (!de (q=a))) d):∃h e,aq tz 199 [q,.p f 0] d h e/\g h e:=by
 refine c0 func199 ?_;refine S2 j i ?_;exact k
def acb:fU .i64 18446744073709551615 0=true:=R
def ae0{r c:Nat}(u:d.f r=LL [.a b 0 2 (.B 1)])(o:d.f b=LL [a,c]){t:AV->HN->Prop}(k:t (II (if c=a then 18446744073709551615 else 1)) d):∃w j,aq tz 203 [.a b 0 2 (.B 1),.func 199 [] [.p r 0]] d w j/\t w j:=by
 refine c0 func203 ?_;refine S0 ?_;let⟨I,n⟩:=inv λm l x=>∃i,m=2-i/\i<=2/\(l 0=.a b 0 2 (.B 1)/\l 1=.func 199 [] [.p r 0]/\l 7=II 2/\l 8=II i)/\x=d/\(i=2->c=a);refine aT I 2 ((n _ _ _).2 ⟨0,R,aJ _,dy,R,λh=>by cases h⟩) ?_;intro m l x v;obtain⟨i,j,v,⟨p,q,e,f⟩,rfl,s⟩:=(n _ _ _).1 v;by_cases y:i=0
 .subst y;refine S5 p q e f o ?_;refine al (YU u o ?_);have j:de (a=a)=true:=aB R;rw[j];refine S1 f ?_;exact⟨1,Y,(n _ _ _).2 ⟨1,R,by decide,⟨dx p,dx q,dx e,R⟩,R,λh=>by cases h⟩⟩
 by_cases z:i=1
 .subst z;refine S5 p q e f o ?_;refine al (YU u o ?_);by_cases g:c=a
  .rw[aB g];refine S1 f ?_;exact⟨0,Y,(n _ _ _).2 ⟨2,R,ak _,⟨dx p,dx q,dx e,R⟩,R,λ_=>g⟩⟩
  .rw[ac g] at k;rw[aA g];refine S0 ?_;exact k
 obtain rfl:i=2:=Y;rw[ae (s R)] at k;refine S2 e f ?_;exact k
def aeZ{h c:Nat}(l:d.f h=LL [.a b 0 2 (.B 1)])(j:d.f b=LL [a,c]){f:AV->HN->Prop}(k:f (.l (!de (c=a))) d):∃i e,aq tz 198 [.a b 0 2 (.B 1),.func 199 [] [.p h 0]] d i e/\f i e:=by
 refine c0 func198 ?_;refine S0 ?_;refine al (ae0 l j ?_);by_cases g:c=a
 .rw[ae g];rw[aB g] at k;simp(disch:=omega)only[go_sem,acb];exact k
 .rw[ac g];rw[aA g] at k;refine S0 ?_;exact k
def YV{c:Nat}(h:d.f b=LL [a,c])(i:b<d.h)(k:∀e,ai d.h d e->g (.l (de (c=a))) e):∃f e,aq tz 190 [.a b 0 2 (.B 1),II 2] d f e/\g f e:=by
 refine c0 func190 ?_;have E:ai d.h d (d.X (LL [.a b 0 2 (.B 1)])):=ap (.refl _ _);have c0:(d.X (LL [.a b 0 2 (.B 1)])).f d.h=LL [.a b 0 2 (.B 1)]:=ae R;have e:=(E.2 b i).t h;refine S1 c0 ?_;refine al (aeZ c0 e ?_);cases h:de (c=a) with
 |true=>
  rw[h] at k;refine S0 ?_;exact k _ E
 |false=>
  rw[h] at k;refine S0 ?_;exact k _ E
def ajy{tb:Nat}{v s:AV}{l:L Nd}{zn:L AV}(c:xL d tb v l zn s){op t:S}{b2:Nat}{K:L Nat}(rk:ce h d x (gF K))(s:N K<=1073741824)(F:iP l t (N K)=true)
  (k:∀b,ai d.h d b->g (II (qQ l t K)) b):∃s b,aq tz 191 [.p tb 0,.g [op,t,b2,a,y],x] d s b/\g s b:=by
 obtain⟨s,s,s,s,s,s,rfl,hb⟩:=c.D;let⟨lv,rv,rl⟩:=c.hv;have s:=c.I;let⟨hl,b1⟩:=c.hl;refine cf VZ func191 ?_;refine S1 hb ?_;have E:ai d.h d (d.X (LL [op,t,b2,a,y])):=ap (.refl _ _);refine bL (LP hl (rv.ext (f:=0) E) (iJ (iS E) E.1 (λ_ l=>l) rl) t λC x2=>?_);have E2:=aM E x2;have Z:C.f tb=_:=(E2.2 tb s).t hb;have r:=wG (λn:Nd=>decide (n.n=t)) l 0;unfold iP at F;cases e:dD (λn:Nd=>decide (n.n=t)) l 0 with
 |none=>
  rw[e] at r;have r:none=l.find? (λn:Nd=>decide (n.n=t)):=r;rw[<-r] at F;cases F
 |some j=>
  let⟨_,hj,_⟩:=pL e;have ee:gE (some j)=j:=R;have hj:j<N l:=Y;rw[e] at r;have r:l[j-0]?=l.find? (λn:Nd=>decide (n.n=t)):=r;rw[uC,bM hj] at r;rw[<-r] at F;have F:=eL F;let⟨b0,rj⟩:=ph rl j hj;obtain⟨bv,off,cap,n,row,rfl,a3,a1,n,m⟩:=rv.at b0;have n:=b1 _ (aU hj);have n:qQ l t K=if l[j].o.length=1/\l[j].ins.length=N K then(if lN l[j].ins K then rh l[j] else 0) else 0:=by unfold qQ;rw[<-r]
  rw[n,ae F] at k;generalize l[j]=f at*;generalize lv[j]=n at*;obtain⟨r,s,n,n,ez,-,r1,r2,-⟩:=rj;have n:sV f.n=.s f.n.1 f.n.2:=R;rw[ez,n] at m;have n:C.f bv=_:=(E2.2 bv a1).t a3;have g1:row.getD (off+j*6+1) bp=r:=(ql m 1 dc).t R;have g2:row.getD (off+j*6+2) bp=s:=(ql m 2 dc).t R;have m:=λb e w=>bI (e:=b) r1 (n:=N f.ins) (jy _) Y e w;have s:=λb e w=>bI (e:=b) r2 (n:=N f.o) (jy _) Y e w;have lk:=λb e w=>bI (e:=b) rk.rd (n:=N K) (by rw[aC];exact aC ..) Y e w;let⟨b,e⟩:=F;rw[e] at m;rw[b] at s;refine S8 Z ee n g1 g2 m s lk ?_;let⟨J,hJ⟩:=inv λm b p=>∃i,m=N K-i/\i<=N K/\(b 0=.p tb 0/\b 2=x/\b 7=II j/\b 52=r/\b 53=II (N K)/\b 54=II i)/\ai C.h C p/\lN (f.ins.drop i) (K.drop i)=lN f.ins K;refine aT J (N K) ((hJ _ _ _).2 ⟨0,R,aJ _,dy,.refl _ _,R⟩) ?_;intro m b p b;let⟨i,e,b,⟨p0,p2,p7,I,B,O⟩,EX,D⟩:=(hJ _ _ _).1 b;have b:=E2.1;have b:=EX.1;have P:=aM E2 EX;by_cases H:i<N K
  .obtain⟨bx,b,a6,rfl,b,a9⟩:=rk.resolve_left (λU=>by have:=dv List.length U.2;rw[show(gF K).length=N K from aC ..] at this;have:N K=0:=this;omega);have b3:p.f bx=_:=(P.2 _ a6).t a9;obtain⟨bi,b,b,b,b,rfl,a7,a0,u⟩:=pV r1 Y;let⟨b,W⟩:=u i Y;have V:p.f bi=_:=(P.2 _ a0).t a7;have gk:(gF K).getD i bp=II K[i]:=by
    unfold gF;rw[cA,pF,bM H];rfl
   have gl:N (gF K)=N K:=aC ..;have b:lN (f.ins.drop i) (K.drop i)=(de (f.ins[i].z=K[i])&&lN (f.ins.drop (i+1)) (K.drop (i+1))):=by
    rw[eJ (by omega:i<N f.ins),eJ H];rfl
   rw[b] at D;generalize f.ins[i]=w at*;generalize K[i]=q at*;have b:ai p.h p (p.X (LL [w.n,w.z,w.p,w.t,w.a])):=ap (.refl _ _);have j:(p.X (LL [w.n,w.z,w.p,w.t,w.a])).f p.h=LL [w.n,w.z,w.p,w.t,w.a]:=ae R;have m:=(b.2 _ Y).t b3;by_cases U:w.z=q
   .rw[aB U,pX] at D;have e:de (w.z=q)=true:=aB U;simp(disch:=omega)only[go_sem,p2,I,B,O,V,W,bF,j,m,gk,gl,e,eI];exact⟨N K-(i+1),Y,(hJ _ _ _).2 ⟨i+1,R,H,⟨dx p0,dx p2,dx p7,dx I,dx B,R⟩,aM EX b,D⟩⟩
   .rw[aA U,pW] at D;rw[<-D] at k;have e:de (w.z=q)=false:=aA U;simp(disch:=omega)only[go_sem,p2,I,B,O,V,W,bF,j,m,gk,gl,e,gv];exact k _ (aM P b)
  .obtain rfl:i=N K:=Y;have D:true=lN f.ins K:=by
    rw[<-D,fQ];cases f.ins.drop (N K)<;>rfl
   rw[<-D,ae R] at k;have o:0<N f.o:=Y;obtain⟨bo,a4,b,b,a5,rfl,a8,a2,z⟩:=pV r2 o;let⟨i,b⟩:=z 0 o;have e:p.f bo=_:=(P.2 _ a2).t a8;rw[lq,nk] at i b;have i:a5.getD (a4+1) bp=II f.o[0].z:=(ql b 1 dc).t R;have b:rh f=f.o[0].z:=by
    unfold rh;rw[cA,bM o];rfl
   rw[b] at k;have f:=(EX.2 _ Y).t Z;have b:p.f bv=_:=(P.2 bv a1).t a3;simp(disch:=omega)only[go_sem,p0,p7,B,O,f,b,g2,e,i];exact k _ P
end
section
variable {x y:AV}{g:AV->HN->Prop}{d:HN}{h:Nat}
def aaG(a:Nat):sG [a,a] 2=true:=by unfold sG kx;simp
def aaF{a c:Nat}(h:¬c=a):sG [a,c] 2=false:=by unfold sG kx;simp[h]
def afx{b:Type}:∀{K:L b},N K=1->∃a,K=[a]
 |[a],_=>⟨a,R⟩
def afy{b:Type}:∀{K:L b},N K=2->∃a b,K=[a,b]
 |[a,b],_=>⟨a,b,R⟩
def afz{b:Type}:∀{K:L b},N K=3->∃a b c,K=[a,b,c]
 |[a,b,c],_=>⟨a,b,c,R⟩
def KS{p q:Prop}(h:q)(j:p=q:=by simp(disch:=omega)only[go_sem,c1,lk,dbx,aI,Nat.reduceBEq,pX,pW,fm,cX,fB,ps,eH,im,gd,gL,gK,gA,dY,il,ik,gU,ij,gT,gS,gV,gX,jJ,dk,jK,bB,bD,bR,bK];rfl):p:=j▸h
def KE{q:Prop}(e:q:=by
 refine KS ?_;exact(hM _ _).2 ⟨_,_,dy,E,R⟩):q:=e
def KG{q:Prop}(e:q:=by rcases okk0 with rfl|rfl<;>exact KE):q:=e
def KA{q:Prop}(e:q:=by
 refine KS ?_;refine al (YV (a:=k0) (c:=k1) dbx Y λZ2 E2=>?_);rcases okk0 with rfl|rfl<;>rcases okk1 with rfl|rfl<;>refine KS ?_<;>exact(hM _ _).2 ⟨_,_,dy,(aM E E2),R⟩):q:=e
def KV{q:Prop}(e:q:=by
 refine KS ?_;refine al (YW hb1 Y rz1 okn nm λZ2 E2=>?_);refine KS ?_;exact(hM _ _).2 ⟨_,_,dy,aM E E2,by first|rfl|(show jr _ 0 [k0]=jr (de (1=1/\bQ n nm=1)) 0 [k0];simp)⟩):q:=e
def KP{q:Prop}(e:q:=by
 refine KS ?_;refine al (Nv (a:=k0) (c:=k1) (w:=2) (t:=2) dbx ?_);refine KS ?_;rw[show(if k0=2/\k1=2 then 2 else 0)=(if 2=2/\k0=2/\k1=2 then 2 else 0) by simp];exact k _ E):q:=e
def KQ{q:Prop}(e:q:=by
 refine KS ?_;refine al (Nv (a:=k0) (c:=k1) (w:=2) (t:=1) dbx ?_);refine KS ?_;rw[show(if k0=2/\k1=2 then 1 else 0)=(if 2=2/\k0=2/\k1=2 then 1 else 0) by simp];exact k _ E):q:=e
def KR{q:Prop}(e:q:=by
 refine KS ?_;refine al (Nv (a:=k0) (c:=k1) (w:=1) (t:=1) dbx ?_);refine KS ?_;rw[show(if k0=1/\k1=1 then 1 else 0)=(if 2=2/\k0=1/\k1=1 then 1 else 0) by simp];exact k _ E):q:=e
def ajB{W:Nat}{v P Zz y3 y4 wr:AV}{B:L Nd}{n:Nd}(hb:d.f W=LL [v,n.n,P,Zz,y3,y4,n.a,wr])(c:xL d W v B [n.n,P,Zz,y3,y4,n.a] wr)(rz:dL tt d n [n.n,P,Zz,y3,y4,n.a])(okn:eG n)
  {p nm:S} {s a:Nat} {K:L Nat} (z:ce h d x (gF K)) (V:N K<=1073741824) (o:∀k∈K,cP k) (hw:p=bK\/lP p=some (N K)) (hx:jT B n p nm (N K)=true)
  (k:∀f,ai d.h d f->g (II (iI B n p nm K)) f):∃P f,aq Tryz.prog 182 [.p W 0,.g [p,nm,s,a,y],x] d P f/\g P f:=by
 have r:=c.I;have lk:=λf e w=>bI (e:=f) z.rd (n:=N K) (by rw[aC];exact aC ..) Y e w;refine cf VX Tryz.func182 ?_;let⟨M,hM⟩:=jH λP a0=>∃H u,(P 2=x/\P 7=.l H/\P 8=II u)/\ai d.h d a0/\jr H u K=iI B n p nm K;refine iB (M:=M) 3 _ _ _ ?_ ?_
 .intro P a0 Zz;let⟨H,u,⟨D,I,O⟩,E,P⟩:=(hM _ _).1 Zz;rw[<-P] at k;unfold jr at k;cases H with
  |false=>
   rw[ae R] at k;simp(disch:=omega)only[go_sem,D,I,O,gv];exact k _ E
  |true=>
   rw[ac (by decide)] at k;by_cases b:u=0
   .have F:de (u=0)=true:=aB b;by_cases hl:0<N K
    .rw[ae ⟨b,hl⟩] at k;obtain⟨m,h1,U,rfl,-,i⟩:=z.resolve_left (λl=>by have:=dv List.length l.2;rw[show(gF K).length=N K from aC ..] at this;have:N K=0:=this;omega);have H:N (gF K)=N K:=aC ..;rw[H] at D lk;have P:a0.f m=_:=(E.2 _ U).t i;have Zz:(gF K).getD (N K-1) bp=II (kx K (N K-1)):=by
      unfold gF kx;rw[cA,pF,bM (by omega),cA,bM (by omega)];rfl
     simp(disch:=omega)only[go_sem,D,I,O,F,lk,P,H,Zz,eI];exact k _ E
    .rw[ac (λl=>hl l.2)] at k;simp(disch:=omega)only[go_sem,D,I,O,F,lk,eI];exact k _ E
   .rw[ac (λl=>b l.1)] at k;have F:de (u=0)=false:=aA b;simp(disch:=omega)only[go_sem,D,I,O,F,lk,eI];exact k _ E
 .have E:ai d.h d (d.X (LL [p,nm,s,a,y])):=ap (.refl _ _);have c1:(d.X (LL [p,nm,s,a,y])).f d.h=LL [p,nm,s,a,y]:=ae R;have b:(d.X (LL [p,nm,s,a,y])).h=d.h+1:=R;have hb1:=(E.2 _ r).t hb;have rz1:=ic rz E;simp(disch:=omega)only[go_sem];generalize d.X (LL [.s p.1 p.2,.s nm.1 nm.2,II s,II a,y])=b at*;rcases hw with rfl|ct
  .have dbx:=c1;refine KS ?_;refine al (ajy (op:=bK) (c.ext E) (z.aR E.1 λb h1 U _=>E.2 b U) V (show iP B nm (N K)=true from hx) λZ2 E2=>?_);refine KS ?_;exact k _ (aM E E2)
  rcases GK ct with⟨r,l⟩|⟨r,l⟩|⟨r,l⟩|⟨r,l⟩
  .obtain⟨k0,rfl⟩:=afx r;obtain⟨m,C,q,j,-,i⟩:=z.resolve_left (λl=>by cases l.2);have j:x=.a m 0 1 (.B 1):=j;subst j;have lk:∀(f:HN) (e w:Nat),eF (.a e 1 w) (.a m 0 1 (.B 1)) f=.ok (II 1) f:=lk;have i:d.f m=LL [k0]:=i;have dbx:=(E.2 m q).t i;have okk0:=o k0 dp;simp only[bY,kN,lY] at l;rcases l with rfl|rfl|rfl|rfl
   .exact KG
   .exact KG
   .exact KG
   exact KV
  .obtain⟨k0,k1,rfl⟩:=afy r;obtain⟨m,C,q,j,-,i⟩:=z.resolve_left (λl=>by cases l.2);have j:x=.a m 0 2 (.B 1):=j;subst j;have lk:∀(f:HN) (e w:Nat),eF (.a e 1 w) (.a m 0 2 (.B 1)) f=.ok (II 2) f:=lk;have i:d.f m=LL [k0,k1]:=i;have dbx:=(E.2 m q).t i;have okk0:=o k0 dp;have okk1:=o k1 dp;simp only[bY,kN,lY] at l;rcases l with rfl|rfl|rfl|rfl|rfl|rfl|rfl|rfl|rfl|rfl|rfl|rfl|rfl|rfl|rfl|rfl|rfl
   .refine KS ?_;refine al (YV (a:=k0) (c:=k1) dbx Y λZ2 E2=>?_);have b:=E2.1;have c1:=(E2.2 _ Y).t c1;have db:=(E2.2 _ Y).t hb1;by_cases w:k1=k0
    .subst w;rw[aB R];refine KS ?_;refine al (YW db Y (ic rz1 E2) okn nm λb b=>?_);refine KS ?_;exact(hM _ _).2 ⟨_,_,dy,aM E (aM E2 b),by
      show jr _ 0 [k1,k1]=jr (sG [k1,k1] 2&&de (bQ n nm=1)) 0 [k1,k1];rw[aaG];rfl⟩
    .rw[aA w];refine KS ?_;exact(hM _ _).2 ⟨_,_,dy,aM E E2,by
      show jr _ 0 [k0,k1]=jr (sG [k0,k1] 2&&de (bQ n nm=1)) 0 [k0,k1];rw[aaF w];rfl⟩
   .exact KA
   .exact KA
   iterate 5 exact KP
   .exact KA
   .exact KA
   iterate 4 exact KQ
   all_goals exact KR
  .obtain⟨k0,k1,k2,rfl⟩:=afz r;obtain⟨m,C,q,j,-,i⟩:=z.resolve_left (λl=>by cases l.2);have j:x=.a m 0 3 (.B 1):=j;subst j;have lk:∀(f:HN) (e w:Nat),eF (.a e 1 w) (.a m 0 3 (.B 1)) f=.ok (II 3) f:=lk;have i:d.f m=LL [k0,k1,k2]:=i;have dbx:=(E.2 m q).t i;have okk0:=o k0 dp;have okk1:=o k1 dp;have b:=o k2 dp;rcases okk0 with rfl|rfl<;>rcases okk1 with rfl|rfl<;>rcases b with rfl|rfl<;>(subst l;exact KE)
  .obtain rfl:=ff r;have dbx:=c1;simp only[bY,kN,lY] at l;rcases l with rfl|rfl|rfl
   .exact KE
   .exact KE
   .exact KV
variable {e t:HN}{z:L AV}{n:Nd}
section
def Rv{h:L Nd}:eZ h n []=.inr []:=by unfold eZ;rfl
def Ka{h:L Nd}(k:Tr)(r:L Tr):eZ h n (k::r)=match fM h n k with|.inl p=>.inl p|.inr c=>match eZ h n r with|.inl p=>.inl p|.inr a=>.inr (c::a):=by
 conv=>lhs;unfold eZ
 cases fM h n k with
 |inl p=>rfl
 |inr c=>cases eZ h n r<;>rfl
def J8{h:L Nd}{n:Nd}:∀(l r:L Tr),eZ h n (l++r)=match eZ h n l with|.inl p=>.inl p|.inr a=>match eZ h n r with|.inl p=>.inl p|.inr b=>.inr (a++b)
 |[],r=>by
  rw[dH,Rv];cases eZ h n r<;>rfl
 |k::l,r=>by
  rw[fc,Ka,Ka,J8 l r];cases fM h n k with
  |inl p=>rfl
  |inr c=>
   cases eZ h n l with
   |inl p=>rfl
   |inr a=>cases eZ h n r<;>rfl
def adC{h:L Nd}{k:Tr}:eZ h n [k]=match fM h n k with|.inl p=>.inl p|.inr c=>.inr [c]:=by
 rw[Ka,Rv]
def vY(b:HN)(a:Nat)(v:AV)(z:L AV)(c:AV)(W:L Nat):Prop:=a<b.h/\b.f a=LL (v::(z++[c]))/\ce (a+1) b c (gF W)
def vY.ext{U:HN}{tb:Nat}{v a:AV}{W:L Nat}(h:vY U tb v z a W)(x:ai U.h U e):vY e tb v z a W:=
 ⟨cW h.1 x.1,(x.2 _ h.1).t h.2.1,h.2.2.aR x.1 λc _ a _=>x.2 c a⟩
section
variable {P:Program}{C:Spec}{all:L Oper}{K:FN->HN->Prop}{nx0:Nat}{ks:L DK}{r:L Oper}{j:Nat}{d:Option Nat}{O:FN}{Us:L HN}{rs:L kw}
def acF{w m:Nat}{f:HN}{v:AV}{l:L AV}{c:Cp}(n:ce h f x l)(s:f.f m=LL [v])(i:m<f.h)(g:(N l+1)*w<=140737488355328)(q:h<=f.h)
  (k:∀a,ce h a (.a f.h 0 (N l+1) (.B 1)) (l++[v])->a.h=f.h+1->(∀b,b<f.h->¬ar x b->a.f b=f.f b)->dX P C all K nx0 ks r (j+1) (be d (.a f.h 0 (N l+1) (.B 1)) O) a (a::Us) rs):dE P C all K nx0 ks r j d O f Us rs (gj 1 w x (.a m 0 1 c) f):=by
 let⟨a,e,b,o,p⟩:=si (w:=w) (c:=c) n s i g q;rw[e];exact k a b o p
end
def vY.Jl{U:HN}{b:Nat}{v c:AV}{h:L Nd}{W:L Nat}(T:uK t v h n z)(x:ai t.h t U)(a:vY U b v z c W):xL U b v h z c:=T.Jl x a.2.1 a.1
def ajz{v y1 y2 y3 y4:AV}{h:L Nd}(T:uK t v h n [n.n,y1,y2,y3,y4,n.a]){B:Nat}(hc:t.h<=B):∀(e:Tr),bO e->cC e->dF h n e->∀(f:HN) (w:L AV) (wr:AV) (W:L Nat) (Q:AV->HN->Prop),ai t.h t f->vY f B v [n.n,y1,y2,y3,y4,n.a] wr W->N W<=1099511627776->bn tt t e w->
  (∀k l,fM h n e=.inr k->ai f.h f l->Q (II k) l)->
  (∀p a7 l,fM h n e=.inl p->vY l B v [n.n,y1,y2,y3,y4,n.a] a7 (W++[p])->f.h<=l.h->(∀c,c<f.h->c≠B->¬ar wr c->l.f c=f.f c)->Q (II 0) l)->
  ∃k l,aq Tryz.prog 169 [.p B 0,w] f k l/\Q k l:=by
 refine Tr.E λop V a8 a ks ih=>?_;intro k a6 a3 f w wr W Q x' ta hW r k1 k2;unfold bO at k;unfold cC at a6;unfold dF at a3;let⟨_,w,a2⟩:=k;have a2:=(mw _).1 a2;have b7:=(ux _).1 a6.2;have b6:=(wJ _).1 a3.2;unfold bn at r;obtain⟨y,rfl,-,k,ry,b0⟩:=r;have I:=(kI b0).1;have eE:fM h n (.mk op V a8 a ks)=match eZ h n ks with|.inl p=>.inl p|.inr m=>if iI h n op V m=1\/iI h n op V m=2 then .inr (iI h n op V m) else .inl a:=by
  conv=>lhs;unfold fM
  cases eZ h n ks<;>rfl
 rw[eE] at k1 k2;have k:=λl e w=>bI (e:=l) ry I Y e w;refine cf VU Tryz.func169 ?_;let⟨M,hM⟩:=jH λO o=>∃x K,(O 0=.p B 0/\O 3=.p f.h 0/\O 5=x)/\eZ h n ks=.inr K/\ce (f.h+1) o x (gF K)/\ai f.h f o/\f.h<o.h/\o.f f.h=LL [op,V,a8,a,y];refine iB (M:=M) 3 _ _ _ ?_ ?_
 rotate_left
 .obtain⟨e,z⟩:∃e,e=f.X (LL [op,V,a8,a,y]):=⟨_,R⟩;have E:ai f.h f e:=by rw[z];exact ap (.refl _ _)
  have c1:e.f f.h=LL [op,V,a8,a,y]:=by rw[z];exact ae R
  have n1:e.h=f.h+1:=by rw[z];rfl
  simp(disch:=omega)only[go_sem,sV];rw[<-z];refine S1 k ?_;clear z;let⟨I,hI⟩:=inv λm O o=>∃i x K,m=N ks-i/\i<=N ks/\(O 0=.p B 0/\O 3=.p f.h 0/\O 5=x/\O 11=y/\O 12=II (N ks)/\O 13=II i)/\eZ h n (ks.take i)=.inr K/\ce (f.h+1) o x (gF K)/\ai f.h f o/\f.h<o.h/\o.f f.h=LL [op,V,a8,a,y];refine aT I (N ks) ((hI _ _ _).2 ⟨0,.e,[],R,aJ _,dy,by rw[gO];unfold eZ;rfl,.inl dy,E,Y,c1⟩) ?_;clear c1 E;intro m O o e;let⟨i,x,K,hm,e,⟨p0,p3,p5,a9,a4,a5⟩,eK,rk,E,nz,c1⟩:=(hI _ _ _).1 e;have xz:=aM x' E;by_cases s:i<N ks
  .let⟨b5,ri⟩:=pf b0 i s;obtain⟨bk,off,cap,e,row,rfl,b3,b2,e,a0⟩:=ry.at b5;have b4:o.f bk=_:=(xz.2 bk b2).t b3;let⟨f1,f2,f3,f4,f5,e⟩:=cJ ri;rw[e] at a0 ri;have a1:N K=i:=by rw[(FT _ eK).1,dW];omega
   have D:eZ h n (ks.take (i+1))=match fM h n ks[i] with|.inl p=>.inl p|.inr c=>.inr (K++[c]):=by
    rw[dt s,J8,eK,adC];cases fM h n ks[i]<;>rfl
   obtain⟨e,k⟩:∃e,e=o.X (LL [f1,f2,f3,f4,f5]):=⟨_,R⟩;have m:ai o.h o e:=by rw[k];exact ap (.refl _ _)
   have n1:e.h=o.h+1:=by rw[k];rfl
   refine S6 p0 a9 a4 a5 b4 a0 ?_;rw[<-k];clear k;have b1:=(ta.ext E).ext m;refine al (ih _ (aU s) (a2 _ (aU s)) (b7 _ (aU s)) (b6 _ (aU s)) e _ wr W _ (aM xz m) b1 hW ri (λq b e E2=>?_) (λp a7 b ep t2 n2 w=>?_))
   .have k:q=1\/q=2:=J7 _ e;have n2:=E2.1;have I:de (q=0)=false:=aA Y;have k:=aM m E2;rw[e] at D;let⟨u,e9,e,n9,k9⟩:=si (w:=8) (d:=b.X (LL [q])) (v:=II q) (i:=b.h) (c:=.k 1) (rk.aR (e:=b.X (LL [q])) (by show o.h<=b.h+1;omega) λc z F _=>(ac Y).t (k.2 c F)) (ae R) (bJ _) (by rw[show(gF K).length=N K from aC ..];omega) (by show f.h+1<=b.h+1;omega);have l:u.h=b.h+2:=n9;have y:∀c,ar x c->f.h+1<=c:=λc hc=>(rk.bT hc).1;have l:∀c,c<f.h+1->u.f c=o.f c:=λc z=>(k9 c (by show c<b.h+1;omega) (λg=>om (y c g))).t ((ac Y).t (k.2 c Y));rw[show(gF K).length=N K from aC ..] at e9 e;refine S2 p5 I ?_;rw[e9];refine S1 a5 ?_;have ek:gF K++[II q]=gF (K++[q]):=by unfold gF;rw[cM];rfl
    rw[ek] at e;exact⟨N ks-(i+1),Y,(hI _ _ _).2 ⟨i+1,_,K++[q],R,s,⟨dx p0,dx p3,R,dx a9,dx a4,R⟩,D,e,⟨Y,λc hc=>(l c Y).t (E.2 c hc)⟩,Y,(l _ Y).t c1⟩⟩
   .have I:de (0=0)=true:=R;rw[ep] at D;have e:eZ h n ks=.inl p:=by
     conv=>lhs;rw[<-mH (i+1) ks]
     rw[J8,D]
    rw[e] at k2;refine S0 ?_;exact k2 p a7 _ R t2 Y λc z F h3=>(w c Y F h3).t ((m.2 c Y).t (E.2 c z))
  .obtain rfl:i=N ks:=Y;rw[hU] at eK;refine S2 a4 a5 ?_;exact(hM _ _).2 ⟨x,K,⟨dx p0,dx p3,dx p5⟩,eK,rk,E,nz,c1⟩
 .intro O o hm;let⟨x,K,⟨p0,p3,p5⟩,eK,rk,E,nz,c1⟩:=(hM _ _).1 hm;clear hM hm;rw[eK] at k1 k2;dsimp only at k1 k2;let⟨a1,e⟩:=FT _ eK;have xz:=aM x' E;have b1:=ta.ext E;have i:=ic T.hz xz;refine S4 p0 p3 p5 c1 ?_;refine al (ajB b1.2.1 (vY.Jl T xz b1) i T.ok rk Y e (by rw[a1];exact a6.1) (by rw[a1];exact a3.1) λb E2=>?_);have n2:=E2.1;have t2:=b1.ext E2;have c2:=(E2.2 _ nz).t c1;have EE:=aM E E2;generalize iI h n op V K=q at*;by_cases e:q=1
  .have d1:de (q=1)=true:=aB e;rw[ae (.inl e)] at k1;refine S1 d1 ?_;exact k1 q _ R EE
  have d1:de (q=1)=false:=aA e;by_cases e:q=2
  .have d2:de (q=2)=true:=aB e;rw[ae (.inr e)] at k1;refine S2 d1 d2 ?_;exact k1 q _ R EE
  have d2:de (q=2)=false:=aA e;rw[ac (by rintro(g|g)<;>contradiction)] at k2;have e:b.f B=LL [v,n.n,y1,y2,y3,y4,n.a,wr]:=t2.2.1;refine S6 p0 p3 d1 d2 e c2 ?_;have i:N (gF W)=N W:=aC ..;have wl:∀c,ar wr c->B+1<=c/\c<b.h:=λc hc=>⟨(t2.2.2.bT hc).1,(t2.2.2.bT hc).2.1⟩;have k:=t2.1;refine acF (h:=B+1) (v:=II a) (l:=gF W) (m:=b.h+7) (t2.2.2.aR (by show b.h<=b.h+12;omega) λc z F _=>ac (by show¬c=b.h+7;omega)) (ae R) (by show b.h+7<b.h+12;omega) (by rw[i];omega) (by show B+1<=b.h+12;omega) λu k n9 k9=>?_;have n9:u.h=b.h+12+1:=n9;have i:∀c,c<b.h->¬ar wr c->u.f c=b.f c:=λc z F=>(k9 c (by show c<b.h+12;omega) F).t (ac (by show¬c=b.h+7;omega));have b:=(i B Y (λg=>om (wl _ g))).t e;refine S1 b ?_;have ek:gF W++[II a]=gF (W++[a]):=by unfold gF;rw[cM];rfl
  rw[ek] at k;refine k2 a _ _ R ⟨by show B<u.h;omega,ae R,k.aR (ak _) λc z F _=>ac Y⟩ (by show f.h<=u.h;omega) λc z F h3=>(ac F).t ((i c Y h3).t (EE.2 c z))
end
def ae7(o:Sum Nat Nat):Nat:=match o with|.inl _=>0|.inr k=>k
end
end Go.Proofs.YtehahhggpdhieaaGreatDoor
