/- Lemmas of the walk of EmitKinds are proved. Conditions: none. -/
import Derived.Test.YtehahhggpdhieaaGreatDoorX18
namespace Go.Proofs.YtehahhggpdhieaaGreatDoor
set_option maxRecDepth 100000
set_option maxHeartbeats 32000000
set_option linter.all false
section
variable {a k:Nat}
def acA{f:Nat}{c:UInt8}{r:By}{l:L Wd}(h:xq c=true):gQ (f+1) a (c::r) l=gQ f (a+1) r l:=by
 conv=>lhs;unfold gQ
 rw[ae h]
def acy{f:Nat}{c:UInt8}{r:By}{l:L Wd}(h:¬xq c=true)(g:Bk c r=true):gQ (f+1) a (c::r) l=gQ f (a+fP qx (c::r)) ((c::r).drop (fP qx (c::r))) l:=by
 conv=>lhs;unfold gQ
 rw[ac h,ae g]
def Ar{f:Nat}{c:UInt8}{r:By}{l:L Wd}(h:¬xq c=true)(g:¬Bk c r=true)(e:nf (c::r)=none):gQ (f+1) a (c::r) l=([],7,a):=by
 conv=>lhs;unfold gQ
 rw[ac h,ac g,e]
def acz{f n v:Nat}{c:UInt8}{r:By}{l:L Wd}(h:¬xq c=true)(g:¬Bk c r=true)(e:nf (c::r)=some (k,n,v)):gQ (f+1) a (c::r) l=gQ f (a+n) ((c::r).drop n) (l++[⟨k,sS ((c::r).take n),v,a⟩]):=by
 conv=>lhs;unfold gQ
 rw[ac h,ac g,e]
def acB:OG:=by
 intro U T Q l k;refine c0 Tryz.func89 ?_;by_cases w:16384<N T
 .have l:ix T=([],2,N T):=ae w;rw[l] at k;refine S0 ?_;exact k _ _ (.inl ⟨R,.inl R⟩) (λb g=>g.elim) (.X (ak _))
 have l:ix T=gQ (N T) 0 T []:=ac w;rw[l] at k;have l:∀x y:aZ,(if¬(40:Nat)=0 then x else y)=x:=λ_ _=>ae dc;refine S1 l ?_;have E0:ai U.h U ((U.X (.E false [.i .i64 0,.i .i64 0])).X (.E false [])):=ap (ap (.refl _ _));have c0:((U.X (.E false [.i .i64 0,.i .i64 0])).X (.E false [])).f U.h=.E false [.i .i64 0,.i .i64 0]:=(ac (by show¬U.h=U.h+1;omega)).t (ae R);have o0:aH 4 (U.h+1) ((U.X (.E false [.i .i64 0,.i .i64 0])).X (.E false [])) (.a (U.h+1) 0 0 (.k 0)) 0 []:=aH.af7 (U:=U.X (.E false [.i .i64 0,.i .i64 0]));have l:((U.X (.E false [.i .i64 0,.i .i64 0])).X (.E false [])).h=U.h+2:=R;generalize (U.X (.E false [.i .i64 0,.i .i64 0])).X (.E false [])=l at*;have f:∀U':HN,eF .s (.s (N T) (aY T)) U'=.ok (.i .i64 (N T)) U':=λU'=>by rw[afr,nD,ae (by omega)]
 let⟨I,hI⟩:=inv λm K a4=>∃a ws x,(K 0=.s (N T) (aY T)/\K 3=.p U.h 0/\K 4=x/\K 5=.i .i64 a)/\a<=N T/\N T-a<=m/\aH 4 (U.h+1) a4 x (N ws) (ws.map Wd.cells).flatten/\a4.f U.h=.E false [.i .i64 0,.i .i64 0]/\ai U.h U a4/\
   gQ m a (T.drop a) ws=gQ (N T) 0 T []/\N ws<=a/\U.h+2<=a4.h
 refine aT I (N T) ((hI _ _ _).2 ⟨0,[],_,dy,aJ _,Nat.sub_le _ _,o0,c0,E0,R,aJ _,Y⟩) ?_;intro m K a4 l;let⟨a,ws,x,⟨u,F,H,B⟩,_,w,ox,cx,Ex,wq,wl,nx⟩:=(hI _ _ _).1 l;clear l c0 E0 o0;by_cases l:N T<=a
 .obtain rfl:a=N T:=Y;rw[fQ] at wq;have w1:gQ m (N T) [] ws=(ws++[ww (N T)],0,0):=by cases m<;>rfl
  rw[w1] at wq;rw[<-wq] at k;refine S4 u H B f ?_;have o1:=dK (U':=a4.X (.E false [.i .i64 0,.s 0 0,.i .i64 0,.i .i64 (N T)])) ox (λb _ O=>ac Y) (iC _);refine tm dc o1 (cD.lits (s:=4) (n:=1) R) dc Y (by show U.h+1<=a4.h+1;omega) λV o2 n2 k2=>?_;have n2:V.h=a4.h+1+1:=n2;have k2:∀b,b<a4.h->¬ar x b->V.f b=a4.f b:=λb O hc=>(k2 b (by show b<a4.h+1;omega) hc).t (ac Y);have c2:V.f U.h=_:=(k2 _ Y (λg=>om (cz ox g))).t cx;have o2:aH 4 (U.h+1) V (.a (a4.h+1) 0 (N ws+1) (.B 4)) (N ((ws++[ww (N T)]).map Wd.cells)) ((ws++[ww (N T)]).map Wd.cells).flatten:=by
   rw[cM,iL,oI,oW,ay,aC];exact o2
  refine S2 F c2 ?_;have hr:∀l∈(ws++[ww (N T)]).map Wd.cells,N l=4:=λl hl=>by
   obtain⟨w,_,rfl⟩:=cN.1 hl
   rfl
  have l:=dK (U':=V.put U.h (.E false [.i .i64 0,.i .i64 0])) o2 (λb O _=>ac Y) (ak _);refine k _ _ (oz l hr) (λb g=>?_) ?_
  .have:=cz l (b:=b) g
   exact⟨Y,this.2⟩
  .refine ai.M (e:=V) ⟨om Ex.1,λb O=>(k2 b (om Ex.1) (λg=>om (cz ox g))).t (Ex.2 b O)⟩ (.put (ak _))
 have b7:a<N T:=Y;obtain _|m:=m
 .omega
 have a6:T.drop a=T[a]::T.drop (a+1):=eJ b7;have sa:qC (aY T) a=T[a].toNat:=vF b7;have l:=T[a].toNat_lt;rw[a6] at wq;generalize l:T[a]=c at*;by_cases hw:xq c=true
 .rw[acA hw] at wq;have a7:=eL hw;have done:∀d,d 0=.s (N T) (aY T)->d 3=.p U.h 0->d 4=x->d 5=.i .i64 (a+1)->∃m',m'<m+1/\I m' d a4:=λd r0 r3 r4 r5=>⟨m,bJ _,(hI _ _ _).2 ⟨a+1,ws,x,⟨r0,r3,r4,r5⟩,Y,Y,ox,cx,Ex,wq,Y,nx⟩⟩;rcases a7 with e|e|e|e
  .refine S5 u B f sa e ?_;exact done _ u F H R
  .refine S5 u B f sa e ?_;exact done _ u F H R
  .refine S5 u B f sa e ?_;exact done _ u F H R
  .refine S5 u B f sa e ?_;exact done _ u F H R
 have a7:=EC (NO.2 hw);have w1:c.toNat≠32:=λe=>a7 (.inl e);have l:c.toNat≠9:=λe=>a7 (.inr (.inl e));have l:c.toNat≠10:=λe=>a7 (.inr (.inr (.inl e)));have l:c.toNat≠13:=λe=>a7 (.inr (.inr (.inr e)));by_cases hr:Bk c (T.drop (a+1))=true
 .rw[acy hw hr,<-a6,oH] at wq;let⟨r1,r2⟩:=eL hr;have a1:a+1<N T:=by
   rcases Nat.lt_or_ge (a+1) (N T) with h|h
   .exact h
   .rw[NX h] at r2;cases r2
  have sb:qC (aY T) (a+1)=45:=by
   rw[eJ a1] at r2;rw[vF a1];exact jX r2
  have h:0<fP qx (T.drop a):=by
   rw[a6];exact HO (aB Y)
  have sl:=Bq qx (T.drop a);rw[qH] at sl;refine S6 u B f sa sb r1 ?_;let⟨J,hJ⟩:=inv λm K i=>∃j,m=N T-(a+j)/\a+j<=N T/\(K 0=.s (N T) (aY T)/\K 3=.p U.h 0/\K 4=x/\K 5=.i .i64 (a+j))/\i=a4/\j+fP qx (T.drop (a+j))=fP qx (T.drop a);refine aT J (N T-a) ((hJ _ _ _).2 ⟨0,R,Y,⟨u,F,H,B⟩,R,gg _⟩) ?_;intro m' d i hj;obtain⟨j,b8,b2,⟨p,s,t,q⟩,rfl,a3⟩:=(hJ _ _ _).1 hj;have done:∀d,fP qx (T.drop (a+j))=0->d 0=.s (N T) (aY T)->d 3=.p U.h 0->d 4=x->d 5=.i .i64 (a+j)->∃m',m'<m+1/\I m' d i:=λd hz r0 r3 r4 r5=>by
   have:j=fP qx (T.drop a):=Y
   rw[<-this] at wq;exact⟨m,bJ _,(hI _ _ _).2 ⟨a+j,ws,x,⟨r0,r3,r4,r5⟩,b2,Y,ox,cx,Ex,wq,Y,nx⟩⟩
  by_cases P:a+j<N T
  .have sj:=vF P;by_cases hn:(T[a+j]).toNat=10
   .refine S5 p q f sj hn ?_;exact done _ (Na P (aA (λg=>g hn))) p s t q
   .refine S5 p q f sj hn ?_;have e1:=D4 (a:=qx) P (aB hn);exact⟨N T-(a+(j+1)),Y,(hJ _ _ _).2 ⟨j+1,R,Y,⟨p,s,t,R⟩,R,by rw[<-a3,e1,oK a j 1];omega⟩⟩
  .refine S3 p q f ?_;exact done _ (Nb Y) p s t q
 have c4:∀(c1:c.toNat=45) (h1:a+1<N T),T[a+1].toNat≠45:=λc1 h1 e=>hr (aB ⟨c1,by rw[eJ h1];exact dv some e⟩);let⟨e,b5⟩:=jH λd i=>i=a4/\d 0=.s (N T) (aY T)/\d 3=.p U.h 0/\d 4=x/\d 5=.i .i64 a;refine iB (M:=e) 1 _ _ _ ?_ ?_
 rotate_left
 .refine S3 u B f ?_;exact(b5 _ _).2 ⟨R,u,F,H,B⟩
 clear u F H B K;intro K i h1;obtain⟨rfl,u,F,H,B⟩:=(b5 _ _).1 h1;clear h1;simp(disch:=omega)only[lT,lU];rw[wp_block];let⟨e,a5⟩:=jH λd r=>r=i/\d 0=.s (N T) (aY T)/\d 3=.p U.h 0/\d 4=x/\d 5=.i .i64 a/\d 6=.i .u8 c.toNat;refine iB (M:=e) 3 _ _ _ ?_ ?_
 rotate_left
 .by_cases c1:c.toNat=45
  .by_cases h1:a+1<N T
   .have sb:qC (aY T) (a+1)=T[a+1].toNat:=vF h1
    have:=c4 c1 h1
    refine S6 u B f sa c1 sb ?_;exact(a5 _ _).2 ⟨R,u,F,H,B,by rw[c1];rfl⟩
   .refine S5 u B f sa c1 ?_;exact(a5 _ _).2 ⟨R,u,F,H,B,by rw[c1];rfl⟩
  .refine S3 u B sa ?_;exact(a5 _ _).2 ⟨R,u,F,H,B,R⟩
 clear u F H B K;intro K i h1;obtain⟨rfl,u,F,H,B,p6⟩:=(a5 _ _).1 h1;clear h1;simp(disch:=omega)only[lT,lU];let⟨M2,b6⟩:=jH λd r=>∃c8 kd n a9 ok,(d 0=.s (N T) (aY T)/\d 3=.p U.h 0/\d 4=x/\d 5=.i .i64 a/\d 7=.i .i64 n/\d 8=.p c8 0/\d 9=.l ok)/\(i.h<=c8/\c8<r.h)/\r.f c8=.E false [.i .i64 kd,.s 0 0,.i .i64 a9,.i .i64 a]/\ai i.h i r/\
   (ok=true->nf (c::T.drop (a+1))=some (kd,n,a9))/\(ok=false->nf (c::T.drop (a+1))=none)
 refine iB (M:=M2) 4 _ _ _ ?_ ?_
 .intro d r e;let⟨c8,kd,n,a9,ok,⟨u,F,H,B,p7,p8,h⟩,⟨_,l⟩,d8,E2,ht,hf⟩:=(b6 _ _).1 e;have n2:=E2.1;have b9:r.f U.h=_:=(E2.2 _ Y).t cx;simp(disch:=omega)only[lT,lU,go_sem,h];cases ok with
  |false=>
   rw[Ar hw hr (hf R)] at wq;rw[<-wq] at k;refine S3 F B b9 ?_;exact k _ _ (.inl ⟨R,.inl R⟩) (λb g=>g.elim) ((Ex.M (E2.mono Ex.1)).M (.put (ak _)))
  |true=>
   have e:=ht R;rw[acz hw hr e,<-a6,oH] at wq;let⟨h,q2,q3,q4,q5⟩:=Eg e;have e:N (c::T.drop (a+1))=N T-a:=by rw[<-a6,qH]
   rw[e] at q2;have JA:uu (aY T) a (a+n-a)=aY ((T.drop a).take n):=by rw[xG];exact Bv T a n
   have ln:N ((T.drop a).take n)=n:=by rw[dW,qH];omega
   simp(disch:=omega)only[go_sem,u,H,B,p7,p8,d8,JA,fp,ft,bF];have o1:=dK (U':=(r.put c8 (.E false [.i .i64 kd,.s (a+n-a) (aY ((T.drop a).take n)),.i .i64 a9,.i .i64 a])).X (.E false [.i .i64 kd,.s (a+n-a) (aY ((T.drop a).take n)),.i .i64 a9,.i .i64 a])) ox (λb _ O=>by simp(disch:=omega)only[go_sem];exact E2.2 b O) (by show i.h<=r.h+1;omega);refine tm dc o1 (cD.lits (s:=4) (n:=1) R) dc Y (by show U.h+1<=r.h+1;omega) λV o2 n3 k2=>?_;have n3:V.h=r.h+1+1:=n3;have k2:∀b,b<i.h->¬ar x b->V.f b=i.f b:=λb O hc=>(k2 b (by show b<r.h+1;omega) hc).t (by simp(disch:=omega)only[go_sem];exact E2.2 b O);have c2:V.f U.h=_:=(k2 _ Y (λg=>om (cz ox g))).t cx;have o2:aH 4 (U.h+1) V (.a (r.h+1) 0 (N ws+1) (.B 4)) (N (ws++[(⟨kd,sS ((T.drop a).take n),a9,a⟩:Wd)])) ((ws++[(⟨kd,sS ((T.drop a).take n),a9,a⟩:Wd)]).map Wd.cells).flatten:=by
    rw[cM,iL,oI,oW,ay]
    have:sS ((T.drop a).take n)=(a+n-a,aY ((T.drop a).take n)):=by
     unfold sS;rw[ln,xG]
    rw[this];exact o2
   refine S4 F H B p7 ?_;refine⟨m,bJ _,(hI _ _ _).2 ⟨a+n,_,_,⟨u,F,R,R⟩,Y,Y,o2,c2,?_,wq,?_,Y⟩⟩
   .exact⟨om Ex.1,λb O=>(k2 b (om Ex.1) (λg=>om (cz ox g))).t (Ex.2 b O)⟩
   .rw[ay];simp only[bt,hN];omega
 .have W:c::T.drop (a+1)=T.drop a:=a6.s;have e:∀ok,fP ok (T.drop a)<=N T-a:=λok=>by have:=Bq ok (T.drop a);rw[qH] at this;exact this
  refine S6 u F H B p6 f ?_;have cc:(i.X (.E false [.i .i64 0,.s 0 0,.i .i64 0,.i .i64 a])).f i.h=.E false [.i .i64 0,.s 0 0,.i .i64 0,.i .i64 a]:=ae R;have e:(i.X (.E false [.i .i64 0,.s 0 0,.i .i64 0,.i .i64 a])).h=i.h+1:=R;have Ec:ai i.h i (i.X (.E false [.i .i64 0,.s 0 0,.i .i64 0,.i .i64 a])):=.X (ak _);generalize i.X (.E false [.i .i64 0,.s 0 0,.i .i64 0,.i .i64 a])=a8 at*;have b1:∀(d:FN) (z:HN) (kd n a9:Nat) (ok:Bool),d 0=.s (N T) (aY T)->d 3=.p U.h 0->d 4=x->d 5=.i .i64 a->d 7=.i .i64 n->d 8=.p i.h 0->d 9=.l ok->z.h≥a8.h->
    z.f i.h=.E false [.i .i64 kd,.s 0 0,.i .i64 a9,.i .i64 a]->(∀b,b<i.h->z.f b=i.f b)->(ok=true->nf (c::T.drop (a+1))=some (kd,n,a9))->(ok=false->nf (c::T.drop (a+1))=none)->M2 d z:=
   λd z kd n a9 ok e q3 q4 q5 h k l r r y I w=>(b6 _ _).2 ⟨i.h,kd,n,a9,ok,⟨e,q3,q4,q5,h,k,l⟩,⟨ak _,Y⟩,r,⟨Y,y⟩,I,w⟩
  have ln:∀n,n<=N T-a->N ((T.drop a).take n)=n:=λn hn=>by rw[dW,qH];omega
  have JA:∀n,uu (aY T) a (a+n-a)=aY ((T.drop a).take n):=λn=>by rw[xG];exact Bv T a n
  refine al (To ?_);cases hl:wN c with
  |true=>
   refine S6 u F H B p6 f ?_;let⟨J,hJ⟩:=inv λm K z=>∃j,m=N T-(a+j)/\a+j<=N T/\(K 0=.s (N T) (aY T)/\K 3=.p U.h 0/\K 4=x/\K 5=.i .i64 a/\K 7=.i .i64 j/\K 8=.p i.h 0/\K 9=.l true)/\z=a8/\j+fP mS (T.drop (a+j))=fP mS (T.drop a);refine aT J (N T-a) ((hJ _ _ _).2 ⟨0,R,Y,⟨u,F,H,B,R,R,R⟩,R,gg _⟩) ?_;clear u F H B p6;intro m' d z hj;obtain⟨j,b8,b2,⟨p,s,t,q,D,C,s9⟩,rfl,a3⟩:=(hJ _ _ _).1 hj;have done:fP mS (T.drop (a+j))=0->∀d:FN,d 0=.s (N T) (aY T)->d 3=.p U.h 0->d 4=x->d 5=.i .i64 a->d 7=.i .i64 j->d 8=.p i.h 0->∀(kd:Nat) (o:HN),d 9=.l (de (j<=24))->o.h≥z.h->o.f i.h=.E false [.i .i64 kd,.s 0 0,.i .i64 0,.i .i64 a]->(∀b,b<i.h->o.f b=i.f b)->kd=(if yO (sS ((T.drop a).take j)) then 2 else 1)->M2 d o:=by
    intro hz d r0 r3 r4 r5 r7 r8 kd o r9 rn rc rk e;have e1:j=fP mS (T.drop a):=Y;have ew:nf (c::T.drop (a+1))=if j<=24 then some (kd,j,0) else none:=by
     unfold nf;dsimp only;rw[ae hl,W,<-e1,e]
    refine b1 d o kd j 0 _ r0 r3 r4 r5 r7 r8 r9 rn rc rk (λg=>?_) (λg=>?_)
    .rw[ew,ae (eL g)]
    .rw[ew,ac (EC g)]
   have a0:uu (aY T) a j=aY ((T.drop a).take j):=Bv T a j;have aj:a+j-a=j:=xG a j;have a2:sS ((T.drop a).take j)=(j,aY ((T.drop a).take j)):=by unfold sS;rw[ln j (by omega)]
   by_cases P:a+j<N T
   .have sj:=vF P;have h8:=(T[a+j]).toNat_lt;simp(disch:=omega)only[go_sem,p,s,t,q,D,C,s9,f,sj];refine al (To ?_);cases b3:wN T[a+j] with
    |true=>
     simp(disch:=omega)only[go_sem,p,s,t,q,D,C,s9,f,sj];have e1:=D4 (a:=mS) P (by unfold mS;rw[b3];rfl);exact⟨N T-(a+(j+1)),Y,(hJ _ _ _).2 ⟨j+1,R,Y,⟨p,s,t,q,R,C,s9⟩,R,by rw[<-a3,e1,oK a j 1];omega⟩⟩
    |false=>
     simp(disch:=omega)only[go_sem,p,s,t,q,D,C,s9,f,sj];refine al (JK ?_);cases b0:jD T[a+j] with
     |true=>
      simp(disch:=omega)only[go_sem,p,s,t,q,D,C,s9,f,sj];have e1:=D4 (a:=mS) P (by unfold mS;rw[b3,b0];rfl);exact⟨N T-(a+(j+1)),Y,(hJ _ _ _).2 ⟨j+1,R,Y,⟨p,s,t,q,R,C,s9⟩,R,by rw[<-a3,e1,oK a j 1];omega⟩⟩
     |false=>
      by_cases hu:(T[a+j]).toNat=95
      .simp(disch:=omega)only[go_sem,p,s,t,q,D,C,s9,f,sj,hu];have e1:=D4 (a:=mS) P (by unfold mS;rw[aB hu];simp);exact⟨N T-(a+(j+1)),Y,(hJ _ _ _).2 ⟨j+1,R,Y,⟨p,s,t,q,R,C,s9⟩,R,by rw[<-a3,e1,oK a j 1];omega⟩⟩
      .have ez:=Na (a:=mS) P (by unfold mS;rw[b3,b0,aA hu];rfl);simp(disch:=omega)only[go_sem,p,s,t,q,D,C,s9,f,cc,aj,a0,sj];refine al (SO (j,aY ((T.drop a).take j)) λo x3=>?_);have Z:o.f i.h=_:=(x3.2 _ (by show i.h<z.h;omega)).t (ae R);have k3:∀b,b<i.h->o.f b=i.f b:=λb O=>(x3.2 b (by show b<z.h;omega)).t ((ac Y).t (Ec.2 b O));have n3:z.h<=o.h:=x3.1;cases hk:yO (j,aY ((T.drop a).take j)) with
       |true=>
        by_cases Uu:j<=24
        .simp(disch:=omega)only[go_sem,p,s,t,q,D,C,s9,f,Z];exact done ez _ (dx p) (dx s) (dx t) (dx q) (dx D) (dx C) 2 _ (by exact dv AV.l (aB Uu).s) (dx n3) (by exact ae R) (by exact λb O=>(ac Y).t (k3 b O)) (by rw[a2,hk];rfl)
        .simp(disch:=omega)only[go_sem,p,s,t,q,D,C,s9,f,Z];exact done ez _ (dx p) (dx s) (dx t) (dx q) (dx D) (dx C) 2 _ (by exact dv AV.l (aA Uu).s) (dx n3) (by exact ae R) (by exact λb O=>(ac Y).t (k3 b O)) (by rw[a2,hk];rfl)
       |false=>
        by_cases Uu:j<=24
        .simp(disch:=omega)only[go_sem,p,s,t,q,D,C,s9,f,Z];exact done ez _ (dx p) (dx s) (dx t) (dx q) (dx D) (dx C) 1 _ (by exact dv AV.l (aB Uu).s) (dx n3) (dx Z) (dx k3) (by rw[a2,hk];rfl)
        .simp(disch:=omega)only[go_sem,p,s,t,q,D,C,s9,f,Z];exact done ez _ (dx p) (dx s) (dx t) (dx q) (dx D) (dx C) 1 _ (by exact dv AV.l (aA Uu).s) (dx n3) (dx Z) (dx k3) (by rw[a2,hk];rfl)
   .have ez:=Nb (a:=mS) (l:=T) (n:=a+j) Y;simp(disch:=omega)only[go_sem,p,s,t,q,D,C,s9,f,cc,aj,a0];refine al (SO (j,aY ((T.drop a).take j)) λo x3=>?_);have Z:o.f i.h=_:=(x3.2 _ (by show i.h<z.h;omega)).t (ae R);have k3:∀b,b<i.h->o.f b=i.f b:=λb O=>(x3.2 b (by show b<z.h;omega)).t ((ac Y).t (Ec.2 b O));have n3:z.h<=o.h:=x3.1;cases hk:yO (j,aY ((T.drop a).take j)) with
    |true=>
     by_cases Uu:j<=24
     .simp(disch:=omega)only[go_sem,p,s,t,q,D,C,s9,f,Z];exact done ez _ (dx p) (dx s) (dx t) (dx q) (dx D) (dx C) 2 _ (by exact dv AV.l (aB Uu).s) (dx n3) (by exact ae R) (by exact λb O=>(ac Y).t (k3 b O)) (by rw[a2,hk];rfl)
     .simp(disch:=omega)only[go_sem,p,s,t,q,D,C,s9,f,Z];exact done ez _ (dx p) (dx s) (dx t) (dx q) (dx D) (dx C) 2 _ (by exact dv AV.l (aA Uu).s) (dx n3) (by exact ae R) (by exact λb O=>(ac Y).t (k3 b O)) (by rw[a2,hk];rfl)
    |false=>
     by_cases Uu:j<=24
     .simp(disch:=omega)only[go_sem,p,s,t,q,D,C,s9,f,Z];exact done ez _ (dx p) (dx s) (dx t) (dx q) (dx D) (dx C) 1 _ (by exact dv AV.l (aB Uu).s) (dx n3) (dx Z) (dx k3) (by rw[a2,hk];rfl)
     .simp(disch:=omega)only[go_sem,p,s,t,q,D,C,s9,f,Z];exact done ez _ (dx p) (dx s) (dx t) (dx q) (dx D) (dx C) 1 _ (by exact dv AV.l (aA Uu).s) (dx n3) (dx Z) (dx k3) (by rw[a2,hk];rfl)
  |false=>
   refine S6 u F H B p6 f ?_;refine al (JK ?_);cases hd:jD c with
   |true=>
    refine S6 u F H B p6 f ?_;let⟨J,hJ⟩:=inv λm K z=>∃j,m=N T-(a+j)/\a+j<=N T/\(K 0=.s (N T) (aY T)/\K 3=.p U.h 0/\K 4=x/\K 5=.i .i64 a/\K 7=.i .i64 j/\K 8=.p i.h 0)/\z=a8/\j+fP jD (T.drop (a+j))=fP jD (T.drop a);refine aT J (N T-a) ((hJ _ _ _).2 ⟨0,R,Y,⟨u,F,H,B,R,R⟩,R,gg _⟩) ?_;clear u F H B p6;intro m' d z hj;obtain⟨j,b8,b2,⟨p,s,t,q,D,C⟩,rfl,a3⟩:=(hJ _ _ _).1 hj;have a0:uu (aY T) a j=aY ((T.drop a).take j):=Bv T a j;have aj:a+j-a=j:=xG a j;have lj:N ((T.drop a).take j)=j:=ln j Y;have sl:N ((T.drop a).take j)<=16384:=by rw[lj];omega
    have done:fP jD (T.drop (a+j))=0->∀d:FN,d 0=.s (N T) (aY T)->d 3=.p U.h 0->d 4=x->d 5=.i .i64 a->d 7=.i .i64 j->d 8=.p i.h 0->∀(v:Nat) (o:HN),d 9=.l (qy ((T.drop a).take j))->o.h≥z.h->o.f i.h=.E false [.i .i64 3,.s 0 0,.i .i64 v,.i .i64 a]->(∀b,b<i.h->o.f b=i.f b)->(qy ((T.drop a).take j)=true->v=pB 0 ((T.drop a).take j))->M2 d o:=by
     intro hz d r0 r3 r4 r5 r7 r8 v o r9 rn rc rk e;have e1:j=fP jD (T.drop a):=Y;have ew:nf (c::T.drop (a+1))=if qy ((T.drop a).take j) then some (3,j,pB 0 ((T.drop a).take j)) else none:=by
      unfold nf;dsimp only;rw[ac (by rw[hl];decide),ae hd,W,<-e1]
     refine b1 d o 3 j v _ r0 r3 r4 r5 r7 r8 r9 rn rc rk (λg=>?_) (λg=>?_)
     .rw[ew,ae g,e g]
     .rw[ew,ac (by rw[g];decide)]
    by_cases P:a+j<N T
    .have sj:=vF P;have h8:=(T[a+j]).toNat_lt;refine S8 p s t q D C f sj ?_;refine al (JK ?_);cases b0:jD T[a+j] with
     |true=>
      refine S8 p s t q D C f sj ?_;have e1:=D4 (a:=jD) P b0;exact⟨N T-(a+(j+1)),Y,(hJ _ _ _).2 ⟨j+1,R,Y,⟨p,s,t,q,R,C⟩,R,by rw[<-a3,e1,oK a j 1];omega⟩⟩
     |false=>
      have ez:=Na (a:=jD) P b0;simp(disch:=omega)only[go_sem,p,s,t,q,D,C,f,cc,aj,a0,sj];have h:∀d∈(T.drop a).take j,jD d=true:=by
       have e1:j=fP jD (T.drop a):=Y;rw[e1];exact M9 jD _
      have m:∀(Q:AV->HN->Prop) (e:HN),(∀v,(qy ((T.drop a).take j)=true->v=pB 0 ((T.drop a).take j))->Q (.t [.i .i64 v,.l (qy ((T.drop a).take j))]) e)->∃v U',aq Tryz.prog 127 [.s j (aY ((T.drop a).take j))] e v U'/\Q v U':=λQ e l=>by
       have:=UH (U:=e) (Q:=Q) sl h l
       rw[lj] at this;exact this
      refine al (m _ _ λv k=>?_);refine S8 p s t q D C f cc ?_;exact done ez _ (dx p) (dx s) (dx t) (dx q) (dx D) (dx C) v _ (by rfl) (by exact ak _) (by exact ae R) (by exact λb O=>(ac Y).t ((ac Y).t (Ec.2 b O))) k
    .have ez:=Nb (a:=jD) (l:=T) (n:=a+j) Y;simp(disch:=omega)only[go_sem,p,s,t,q,D,C,f,cc,aj,a0];have h:∀d∈(T.drop a).take j,jD d=true:=by
      have e1:j=fP jD (T.drop a):=Y;rw[e1];exact M9 jD _
     have m:∀(Q:AV->HN->Prop) (e:HN),(∀v,(qy ((T.drop a).take j)=true->v=pB 0 ((T.drop a).take j))->Q (.t [.i .i64 v,.l (qy ((T.drop a).take j))]) e)->∃v U',aq Tryz.prog 127 [.s j (aY ((T.drop a).take j))] e v U'/\Q v U':=λQ e l=>by
      have:=UH (U:=e) (Q:=Q) sl h l
      rw[lj] at this;exact this
     refine al (m _ _ λv k=>?_);refine S8 p s t q D C f cc ?_;exact done ez _ (dx p) (dx s) (dx t) (dx q) (dx D) (dx C) v _ (by rfl) (by exact ak _) (by exact ae R) (by exact λb O=>(ac Y).t ((ac Y).t (Ec.2 b O))) k
   |false=>
    refine S7 u F H B p6 f cc ?_;have e:uu (aY T) a (N T-a)=aY (c::T.drop (a+1)):=by rw[W,Bv];congr 1;exact iM (by rw[qH];omega)
    have d:N T-a=N (c::T.drop (a+1)):=by rw[W,qH]
    rw[e,d];have e:=Ym (c::T.drop (a+1));refine al (aiO (by rw[qH];omega) λv o x3=>?_);have Z:o.f i.h=_:=(x3.2 _ (by show i.h<a8.h;omega)).t (ae R);have k3:∀b,b<i.h->o.f b=i.f b:=λb O=>(x3.2 b (by show b<a8.h;omega)).t ((ac Y).t (Ec.2 b O));have n3:a8.h<=o.h:=x3.1;have b:ur (c::T.drop (a+1))<=16384:=by rw[<-d] at e;omega
    have ew:nf (c::T.drop (a+1))=if ur (c::T.drop (a+1))=0 then none else some (4,ur (c::T.drop (a+1)),0):=by
     unfold nf;dsimp only;rw[ac (by rw[hl];decide),ac (by rw[hd];decide)]
    by_cases b4:ur (c::T.drop (a+1))=0
    .rw[ae b4] at ew;rw[b4];refine S7 u F H B p6 f Z ?_;exact b1 _ o 4 0 0 false (dx u) (dx F) (dx H) (dx B) (by rfl) (by rfl) (by rfl) n3 Z k3 (λg=>by cases g) (λ_=>ew)
    .rw[ac b4] at ew;refine S7 u F H B p6 f Z ?_;exact b1 _ o 4 _ 0 true (dx u) (dx F) (dx H) (dx B) (by rfl) (by rfl) (by rfl) n3 Z k3 (λ_=>ew) (λg=>by cases g)
end
section
open Tryz renaming prog->tz
open Tryz
variable {d:HN}{l:L Nd}
def Mj{F:Nat->Prop}{d:HN}:∀{l:L Nd} {a:L (L AV)} (i:Nat),fZ F d l a->fZ F d (l.take i) (a.take i)
 |[],_,i,h=>by
  have h:_=[]:=h;subst h;rw[xD,xD];rfl
 |k::c,_,0,_=>rfl
 |k::c,_,i+1,⟨l,r,e,a,b⟩=>by
  subst e;exact⟨l,r.take i,R,a,Mj i b⟩
def ajp{F:Nat->Prop}{v:AV}(h:EQ F d v l):∃a,aK 6 d v a/\fZ tt d l a:=by
 let⟨_,a,b,c,_⟩:=h;exact⟨a,b,iJ (λ_ _ _=>R) (ak _) (λ_ _=>trivial) c⟩
def ajq{F:Nat->Prop}{v:AV}(h:EQ F d v l):Ce v:=by
 let⟨_,_,_,_,a⟩:=h;exact a
variable {y:AV}{g:AV->HN->Prop}{m:L (L AV)}{z:L AV}{a s:Nat}{n:Nd}
def zm(h:aK s d y m):cD s d y (N m) m.flatten:=by
 rcases h with⟨rfl,h⟩|⟨b,off,cap,j,row,a,c,e,f,g,i⟩
 .exact .inl ⟨R,R,h⟩
 .exact .inr ⟨b,off,cap,j,row,a,c,e,f,jZ _ g,i⟩
def jy(l:L Vr):N (l.map Vr.cells)=N l:=aC ..
def Ic(r:dL tt d n z)(o:eG n)(k:∀x a,aH 5 d.h a x (N (am n)) ((am n).map Vr.cells).flatten->ai d.h d a->g x a):∃h a,aq tz 61 [z] d h a/\g h a:=by
 obtain⟨b,c,e,f,rfl,-,p,q,s,-⟩:=r;let⟨_,h,i,j,_,a⟩:=o;refine c0 func61 ?_;have a:sV n.n=.s n.n.1 n.n.2:=R;refine S1 a ?_;have a:=h.1;have a:=i.1;have a:=j.1;have E:ai d.h d ((d.X (LL [n.n,b,c,e,f,n.a])).X (LL [])):=ap (ap (.refl _ _));have c0:((d.X (LL [n.n,b,c,e,f,n.a])).X (LL [])).f d.h=LL [n.n,b,c,e,f,n.a]:=(ac (by show¬d.h=d.h+1;omega)).t (ae R);have m:((d.X (LL [n.n,b,c,e,f,n.a])).X (LL [])).f (d.h+1)=LL []:=ae R;have a:((d.X (LL [n.n,b,c,e,f,n.a])).X (LL [])).h=d.h+2:=R;generalize (d.X (LL [n.n,b,c,e,f,n.a])).X (LL [])=l at*;have b:aH 5 (d.h+1) l (.a (d.h+1) 0 0 (.k 0)) 0 []:=⟨R,.inr ⟨d.h+1,ak _,Y,.inl ⟨R,R,_,m⟩⟩⟩;have a:=zm (p.ext (f:=0) E);rw[jy] at a;refine tj dc b a Y Y λa b o2 a=>?_;have h:ai d.h d b:=⟨om a.1,λb c=>(a.2 b Y).t (E.2 b c)⟩;have j:=(a.2 _ (bJ _)).t c0;have e:=a.1;refine S1 j ?_;have q2:=zm (q.ext (f:=0) h);rw[jy] at q2;refine tj dc o2 q2 Y Y λe f l e=>?_;have i:ai d.h d f:=⟨om e.1,λb c=>(e.2 b Y).t (h.2 b c)⟩;have f:=(e.2 _ (bJ _)).t j;have h:=e.1;refine S1 f ?_;have e:=zm (s.ext (f:=0) i);rw[jy] at e;refine tj dc l e Y Y λe e j f=>?_;have h:ai d.h d e:=⟨om f.1,λb c=>(f.2 b Y).t (i.2 b c)⟩;refine S0 ?_;refine k _ _ ?_ h;have c:N (am n)=0+N n.ins+N n.o+N n.ao:=by unfold am;rw[ay,ay];omega
 have a:((am n).map Vr.cells).flatten=[]++(n.ins.map Vr.cells).flatten++(n.o.map Vr.cells).flatten++(n.ao.map Vr.cells).flatten:=by unfold am;simp only[cM,nh,dH,dC]
 rw[c,a];let⟨a,c⟩:=j;refine⟨a,c.imp id λ⟨b,e,a,c⟩=>⟨b,Y,a,c⟩⟩
def vc(r:dL tt d n z)(U:eG n)(s:S)(k:∀a,ai d.h d a->g (.t [.g ((aO n s).getD dm).cells,.l (aO n s).isSome]) a):∃B a,aq tz 62 [z,s] d B a/\g B a:=by
 let⟨_,B⟩:=Cm U;refine c0 func62 ?_;have r':=r;obtain⟨m,p,q,t,rfl,-⟩:=r';have B:sV n.n=.s n.n.1 n.n.2:=R;have E:ai d.h d ((d.X (LL [n.n,m,p,q,t,n.a])).X (LL [.s 0 0,II 0,.s 0 0,false,II 0])):=ap (ap (.refl _ _));have Z:((d.X (LL [n.n,m,p,q,t,n.a])).X (LL [.s 0 0,II 0,.s 0 0,false,II 0])).f (d.h+1)=LL [.s 0 0,II 0,.s 0 0,false,II 0]:=ae R;have nn:((d.X (LL [n.n,m,p,q,t,n.a])).X (LL [.s 0 0,II 0,.s 0 0,false,II 0])).h=d.h+2:=R;refine S1 B ?_;generalize (d.X (LL [n.n,m,p,q,t,n.a])).X (LL [.s 0 0,II 0,.s 0 0,.l false,II 0])=I at*;refine al (Ic (ic r E) U λx b p u=>?_);have m:=u.1;have O:b.f (d.h+1)=_:=(u.2 _ Y).t Z;have m:aH 5 I.h b x (N ((am n).map Vr.cells)) ((am n).map Vr.cells).flatten:=by rw[jy];exact p
 have W:=oz m (λl hl=>by obtain⟨v,_,rfl⟩:=cN.1 hl;rfl);have C:=λa e w=>bI (e:=a) W (jy _) Y e w;refine S0 ?_;have a:aO n s=(am n).find? λv=>decide (v.n=s):=R;rw[a] at k;generalize am n=V at*;let⟨I,y⟩:=inv λm a p=>∃i,m=N V-i/\i<=N V/\(a 1=.s s.1 s.2/\a 4=.p (d.h+1) 0/\a 6=x/\a 7=II i)/\p=b/\(V.drop i).find? (λv=>decide (v.n=s))=V.find? (λv=>decide (v.n=s));refine aT I (N V) ((y _ _ _).2 ⟨0,R,aJ _,dy,R,R⟩) ?_;intro m a p P;obtain⟨i,a,P,⟨D,F,o,H⟩,rfl,c⟩:=(y _ _ _).1 P;have K:=aM E u;by_cases h:i<N V
 .obtain⟨b,off,cap,a,row,rfl,j,a,a,f⟩:=zG W h;rw[eJ h,List.find?_cons] at c;generalize V[i]=w at*;have a:w.cells=[.s w.n.1 w.n.2,II w.z,.s w.p.1 w.p.2,.l w.t,II w.a]:=R;rw[a] at f;have a:=bz w.n s;have b:row.getD (off+i*5) bp=.s w.n.1 w.n.2:=by
   have:=dv (λl:L AV=>l.getD 0 bp) f
   simpa [cA,qG,mG] using this
  by_cases e:w.n=s
  .rw[aB e] at a c;have c:some w=V.find? (λv=>decide (v.n=s)):=c;rw[<-c] at k;simp(disch:=omega)only[go_sem,D,F,o,H,C,j,f,b,a,O,bF];exact k _ (cO K Y)
  .rw[aA e] at a c;have c:(V.drop (i+1)).find? (λv=>decide (v.n=s))=V.find? (λv=>decide (v.n=s)):=c;refine S7 D o H C j b a ?_;exact⟨N V-(i+1),Y,(y _ _ _).2 ⟨i+1,R,h,⟨dx D,dx F,dx o,R⟩,R,c⟩⟩
 .obtain rfl:i=N V:=Y;rw[fQ] at c;have c:none=V.find? (λv=>decide (v.n=s)):=c;rw[<-c] at k;refine S5 F o H C O ?_;exact k _ (cO K Y)
def jS{j e:Nat}{b:Bd}(i:d.f j=LL [b.1,b.2])(c:b.1<9223372036854775808)
  (k:∀f,f.h=d.h->f.f j=LL [II (kV e a b).1,II (kV e a b).2]->(∀c,c≠j->f.f c=d.f c)->g (.t []) f):∃h f,aq tz 60 [.p j 0,e,a] d h f/\g h f:=by
 refine c0 func60 ?_;by_cases h:b.1=0
 .have f:kV e a b=(e,a):=ae h;rw[f] at k;rw[h] at i;refine S1 i ?_;exact k _ R (ae R) λc i=>ac i
 .have f:kV e a b=b:=ac h;rw[f] at k;refine S1 i ?_;exact k _ R i λc _=>R
variable {e:HN}{c:L aS}{h i:Nat}
def iZ(a:HN)(y:AV)(c:L aS):Prop:=(y=.e/\c=[])\/∃b d,b<a.h/\y=.a b 0 (N c) d/\a.f b=LL (c.map cU).flatten
def iZ.ext{U:HN}(h:iZ U y c)(x:ai U.h U e):iZ e y c:=by
 rcases h with h|⟨b,d,a,f,g⟩
 .exact .inl h
 .exact .inr ⟨b,d,cW a x.1,f,(x.2 b a).t g⟩
def iZ.rd{U:HN}(h:iZ U y c):aK 2 U y (c.map cU):=by
 rcases h with⟨rfl,rfl⟩|⟨b,a,b,rfl,d⟩
 .exact .inl ⟨R,.inl R⟩
 .have:=aK.bT (s:=2) (c:=a) _ d b (qB c)
  rw[aC] at this;exact this
def iZ.cells{U:HN}(h:iZ U y c):dZ y=some [y]:=h.rd.cells
def ag1(o:aH 2 h d y (N c) (c.map cU).flatten)(e:c≠[]):iZ d y c:=by
 obtain⟨_,⟨_,q2⟩|⟨b,a,q2,⟨_,a,_⟩|⟨a,f⟩⟩⟩:=o
 .exact absurd (ff q2) e
 .exact absurd (ff a) e
 .exact .inr ⟨b,_,q2,a,f⟩
def Qb(h:iZ d y c)(f:i<N c):∃b a,b<d.h/\y=.a b 0 (N c) a/\d.f b=LL (c.map cU).flatten/\((c.map cU).flatten.drop (i*2)).take 2=[.s (c[i]).1.1 (c[i]).1.2,.l (c[i]).2]/\N (c.map cU).flatten=N c*2/\(c.map cU).flatten.getD (i*2) bp=.s (c[i]).1.1 (c[i]).1.2/\(c.map cU).flatten.getD (i*2+1) bp=.l (c[i]).2:=by
 rcases h with⟨_,rfl⟩|⟨b,a,g,j,k⟩
 .cases f
 .have e:((c.map cU).flatten.drop (i*2)).take 2=[.s (c[i]).1.1 (c[i]).1.2,.l (c[i]).2]:=by
   rw[oV (s:=2) _ i (qB c) (by rw[aC];exact f),kM];rfl
  refine⟨b,a,g,j,k,e,by rw[jZ _ (qB _),aC],?_,?_⟩
  .have:=dv (λl:L AV=>l.getD 0 bp) e
   simpa [cA,qG,mG] using this
  .have:=dv (λl:L AV=>l.getD 1 bp) e
   simpa [cA,qG,mG] using this
def ack(b:N c<=1099511627776)(h:iZ d y c){s:S}{q:Bool}{a:Nat}(i:d.f a=LL [s,q])(f:a<d.h):
  ∃e b,gj 2 24 (.a a 0 1 (.k 1)) y d=.ok e b/\iZ b e ((s,q)::c)/\ai d.h d b/\∀b,ar e b->b=a\/b=d.h:=by
 rcases h with⟨rfl,rfl⟩|⟨b,e,e,rfl,j⟩
 .refine⟨.a a 0 1 (.k 1),d,?_,.inr ⟨a,_,f,R,i⟩,.refl _ _,λb e=>.inl (dx e.s)⟩;rw[Pr];rfl
 .by_cases g:N c=0
  .obtain rfl:c=[]:=ff g;refine⟨.a a 0 1 (.k 1),d,?_,.inr ⟨a,_,f,R,i⟩,.refl _ _,λb e=>.inl (dx e.s)⟩;rw[oR];rfl
  .refine⟨.a d.h 0 (1+N c) (.B 2),d.X (LL ([.s s.1 s.2,.l q]++(c.map cU).flatten)),?_,.inr ⟨d.h,.B 2,bJ _,?_,by exact ae R⟩,ap (.refl _ _),λb e=>.inr (dx e.s)⟩
   .have b:N (c.map cU).flatten=N c*2:=by rw[jZ _ (qB _),aC]
    rw[oR,ac g,j,ui,ae (by rw[b];omega),ng,iM (by rw[b];exact ak _)]
    show(if(1+N c)*24<=140737488355328 then(if N c=0 then aZ.ok _ d else sH a 0 1 2 (N c) 1 (c.map cU).flatten (d.f a) d) else aZ.no)=_
    rw[ae (by omega),ac g];unfold sH;rw[ac (by omega),i]
    rfl
   .show AV.a d.h 0 (1+N c) (.B 2)=.a d.h 0 (N c+1) (.B 2);rw[IA]
def Jn(h:iZ d y c)(b:N c<=9223372036854775807)(a w:Nat):eF (.a a 2 w) y e=.ok (II (N c)) e:=bI (e:=e) h.rd (n:=N c) (by rw[aC]) b a w
@[go_sem] def anH:vd tz 205 false=true:=by kernel_rfl
def ai0{a b:S}{p q:Bool}:oU tz 205 (.g [a,p]) (.g [.s b.1 b.2,.l q])=wc (some (aI a.1 a.2 b.1 b.2)) (wc (some (p==q)) (some true)):=by kernel_rfl
def aiZ(s t:aS):oU tz 205 (.g [s.1,s.2]) (.g [.s t.1.1 t.1.2,.l t.2])=some (de (s=t)):=by
 rw[ai0,bz];let⟨a,p⟩:=s;let⟨b,q⟩:=t;by_cases h:a=b
 .subst h;rw[aB R];cases p<;>cases q<;>simp<;>rfl
 .rw[aA h,aA (λg=>h (by cases g;rfl))];rfl
def D1{z:AV}{b:L aS}(v:iZ d y c)(x:iZ d z b)(a:N c<=1099511627776)(a:N b<=1099511627776)(k:g (.l (de (c=b))) d):∃m a,aq tz 68 [y,z] d m a/\g m a:=by
 refine cf Ws func68 ?_;have h:=λa e w=>Jn (e:=a) v Y e w;have B:=λa e w=>Jn (e:=a) x Y e w;by_cases u:N c=N b
 .refine S2 h B ?_;let⟨I,o⟩:=inv λm a w=>∃i,m=N c-i/\i<=N c/\(a 0=y/\a 1=z/\a 5=II i)/\w=d/\c.take i=b.take i;refine aT I (N c) ((o _ _ _).2 ⟨0,R,aJ _,dy,R,R⟩) ?_;intro m a w t;obtain⟨i,a,t,⟨j,r,s⟩,rfl,p⟩:=(o _ _ _).1 t;by_cases f:i<N c
  .obtain⟨a,a,a,rfl,q2,C,a,-⟩:=Qb v f;obtain⟨a,a,a,rfl,D,F,a,-⟩:=Qb x (i:=i) Y;have l:=aiZ c[i] b[i];have m:c.take (i+1)=c.take i++[c[i]]:=dt f;have a:b.take (i+1)=b.take i++[b[i]]:=dt Y;by_cases e:c[i]=b[i]
   .rw[aB e] at l;simp(disch:=omega)only[go_sem,j,r,s,h,q2,C,D,F,l,eI];exact⟨N c-(i+1),Y,(o _ _ _).2 ⟨i+1,R,f,⟨dx j,dx r,R⟩,R,by rw[m,a,p,e]⟩⟩
   .rw[aA e] at l;have q:c≠b:=λn=>e (by subst n;rfl);rw[aA q] at k;simp(disch:=omega)only[go_sem,j,r,s,h,q2,C,D,F,l,gv];exact k
  .obtain rfl:i=N c:=Y;rw[hU,u,hU] at p;rw[aB p] at k;refine S3 j s h ?_;exact k
 .have q:c≠b:=λn=>u (by rw[n]);rw[aA q] at k;refine S2 h B ?_;exact k
def Dy{s:S}{q:Bool}(e:iZ d y c)(a:N c<=1099511627776)(k:∀b a,iZ a b (cB c s q)->ai d.h d a->g b a):∃b a,aq tz 99 [y,s,q] d b a/\g b a:=by
 refine c0 func99 ?_;refine S0 ?_;have b:aH 2 d.h (d.X (LL [])) (.a d.h 0 0 (.k 0)) 0 []:=⟨R,.inr ⟨d.h,ak _,bJ _,.inl ⟨R,R,_,ae R⟩⟩⟩;have E:ai d.h d (d.X (LL [])):=ap (.refl _ _);have a:=zm (e.ext E).rd;rw[aC] at a;refine tj dc b a Y (by show d.h<=d.h+1;omega) λh a o2 b=>?_;have e:d.h+1<=a.h:=b.1;have e:ai d.h d a:=E.M b;refine S0 ?_;have f:aH 2 d.h (a.X (LL [s,q])) h (0+N c) ([]++(c.map cU).flatten):=dK o2 (λb _ b=>ac Y) (iC _);refine tj dc f (cD.lits (s:=2) (n:=1) R) Y (by show d.h<=a.h+1;omega) λa a a b=>?_;refine S0 ?_;refine k _ _ (ag1 (h:=d.h) ?_ (by unfold cB;simp)) ((ap e).M b);unfold cB;rw[ay,cM,iL,oI,oW];rw[gg,dH] at a;exact a
def Y2{n:Nd}:∀{k:Nat} {s:S} {d c:L aS},jW n k s d=some c->N d<=N c
 |0,_,_,_,h=>by cases h
 |k+1,s,d,c,h=>by
  unfold jW at h;split at h
  .split at h
   .cases h;exact ak _
   .exact bC (iC _) (Y2 h)
  .cases h;exact ak _
def CB(r:dL tt d n z)(ok:eG n)(s:S){k0:Nat}(f:jW n k0 s []=some c)(i:N c<=1073741824)(k:∀y i,iZ i y c->ai d.h d i->g y i):∃y i,aq tz 69 [z,s] d y i/\g y i:=by
 refine c0 func69 ?_;have I:=r;obtain⟨F,H,K,O,rfl,-⟩:=I;have i:sV n.n=.s n.n.1 n.n.2:=R;rw[i] at r;have E:ai d.h d (d.X (LL [n.n,F,H,K,O,n.a])):=ap (.refl _ _);have c0:(d.X (LL [n.n,F,H,K,O,n.a])).f d.h=LL [n.n,F,H,K,O,n.a]:=ae R;have y:(d.X (LL [n.n,F,H,K,O,n.a])).h=d.h+1:=R;refine S2 i c0 ?_;generalize d.X (LL [.s n.n.1 n.n.2,F,H,K,O,II n.a])=i at*;refine al (vc (ic r E) ok s λa x=>?_);have i:=x.1;have V:∀w:Vr,w.cells=[.s w.n.1 w.n.2,II w.z,.s w.p.1 w.p.2,.l w.t,II w.a]:=λ_=>R;rw[V];generalize B:(aO n s).getD dm=w;generalize p:(aO n s).isSome=q;refine S0 ?_;have i:ai a.h a (a.X (LL [w.n,w.z,w.p,w.t,w.a])):=ap (.refl _ _);have D:(a.X (LL [w.n,w.z,w.p,w.t,w.a])).f a.h=LL [w.n,w.z,w.p,w.t,w.a]:=ae R;have d0:=(i.2 _ Y).t ((x.2 _ Y).t c0);have y:(a.X (LL [w.n,w.z,w.p,w.t,w.a])).h=a.h+1:=R;have u:=aM (aM E x) i;generalize a.X (LL [.s w.n.1 w.n.2,II w.z,.s w.p.1 w.p.2,.l w.t,II w.a])=i at*;let⟨I,hI⟩:=inv λm i l=>∃(C:S) (o:L aS) (w:Vr) (q:Bool) (x:AV),(aO n C).getD dm=w/\(aO n C).isSome=q/\(i 2=.p d.h 0/\i 5=x/\i 6=.p a.h 0/\i 7=.l q)/\l.f a.h=LL [w.n,w.z,w.p,w.t,w.a]/\l.f d.h=LL [n.n,F,H,K,O,n.a]/\iZ l x o/\(∀b,ar x b->a.h<b)/\ai d.h d l/\a.h<l.h/\jW n m C o=some c;refine aT I k0 ((hI _ _ _).2 ⟨s,[],w,q,.e,B,p,dy,D,d0,.inl dy,λ_ h=>h.elim,u,Y,f⟩) ?_;clear D d0 u B p;intro m i l i;let⟨C,o,w,q,_,B,p,⟨p2,p5,Z,p7⟩,D,d0,ck,x,u,nz,f⟩:=(hI _ _ _).1 i;obtain⟨m,rfl⟩:∃j,m=j+1:=by
  cases m with
  |zero=>cases f
  |succ j=>exact⟨j,R⟩
 have i:=Y2 f;have a2:jW n (m+1) C o=match aO n C with|some v=>if v.p=(0,0) then some o else jW n m v.p ((v.p,v.t)::o)|none=>some o:=R
 rw[a2] at f;cases hf:aO n C with
 |none=>
  rw[hf] at f p;have p:false=q:=p;subst p;have f:some o=some c:=f;obtain rfl:=jX f;refine S2 p5 p7 ?_;exact k _ _ ck u
 |some v=>
  rw[hf] at f p B;have p:true=q:=p;subst p;have B:v=w:=B;subst B;have f:(if v.p=(0,0) then some o else jW n m v.p ((v.p,v.t)::o))=some c:=f;have eo:aI v.p.1 v.p.2 0 0=de (v.p=(0,0)):=bz v.p (0,0);by_cases t:v.p=(0,0)
  .rw[ae t] at f;obtain rfl:=jX f;rw[aB t] at eo;refine S5 p5 Z p7 D eo ?_;exact k _ _ ck u
  .rw[ac t] at f;rw[aA t] at eo;refine S5 p5 Z p7 D eo ?_;have j:ai l.h l (l.X (LL [v.p,v.t])):=ap (.refl _ _);let⟨x',_,ea,a0,p,i⟩:=ack Y (ck.ext j) (s:=v.p) (q:=v.t) (a:=l.h) (ae R) (bJ _);have P:=aM j p;have j:=P.1;have f3:=(P.2 _ nz).t D;have f0:=(P.2 _ (show d.h<l.h by omega)).t d0;have W:∀b,ar x' b->a.h<b:=λb j=>by
    rcases i b j with e|e
    .omega
    .rw[e];show a.h<l.h+1;omega
   rw[ea];refine S4 p2 Z f3 f0 ?_;refine al (vc (ic r (aM u P)) ok v.p λa3 U=>?_);have e:=U.1;have g3:=(U.2 _ Y).t f3;have g0:=(U.2 _ Y).t f0;rw[V];generalize a1:(aO n v.p).getD dm=w5;generalize i:(aO n v.p).isSome=j;refine S2 Z g3 ?_;have e:=a0.ext U;refine⟨m,bJ _,(hI _ _ _).2 ⟨v.p,(v.p,v.t)::o,w5,j,x',a1,i,⟨dx p2,R,dx Z,R⟩,ae R,(ac Y).t g0,?_,W,cO (aM (aM u P) U) Y,by show a.h<a3.h;omega,f⟩⟩;rcases e with h|⟨b,cp,h1,rfl,h3⟩
   .exact .inl h
   .exact .inr ⟨b,cp,h1,R,(ac (om (W b R))).t h3⟩
end
end Go.Proofs.YtehahhggpdhieaaGreatDoor
