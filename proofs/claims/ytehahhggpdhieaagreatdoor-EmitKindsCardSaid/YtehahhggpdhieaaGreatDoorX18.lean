/- Lemmas of the walk of EmitKinds are proved. Conditions: none. -/
import Derived.Test.YtehahhggpdhieaaGreatDoorX17
namespace Go.Proofs.YtehahhggpdhieaaGreatDoor
set_option maxRecDepth 100000
set_option maxHeartbeats 32000000
set_option linter.all false
section
variable {t:HN}{m:L (L AV)}{l:L Nd}{i:Nat}
def adz{lv:AV}{j:L AV}(C:tC l m lv t j){D:Nat}{n0:Nd}{iy oy:AV}{G:aP->aa->aa}(gG:xN G){x:aP}(hG:∀j,j<i->Cc l lv t D n0 iy oy G j):
  ∀j:Tm,vr (l.take i) j->EI 58 l lv t D n0 iy oy G x j:=by
 refine Tm.E λu o a0 a c I p ih=>?_;intro ok;have j:=ok;unfold vr at j;let⟨e5,e7,⟨e8,e9⟩,g0,e6⟩:=j;have b6:∀k∈p,EI 58 l lv t D n0 iy oy G x k:=λk j=>ih k j ((LU p).1 e6 k j);by_cases w:u=bK
 .subst w;have d:=abr C gG hG ok b6;intro b xb z st ly ey F Q hf hx a5 ht sm k;have a8:=ht;let⟨lo,hi,rt,c6,c5⟩:=a8;unfold dO at rt;obtain⟨cy,ky,b8,a9,rfl,c3,b5,b2,a3⟩:=rt;refine cf Mc Tryz.func58 ?_;have e1:aI bK.1 bK.2 4 1819042147=true:=by rw[show aI bK.1 bK.2 4 1819042147=de (bK=bK) from bz bK bK];rfl
  simp(disch:=omega)only[go_sem,sV,e1];obtain⟨W,v⟩:∃W,W=(b.X (LL [bK,o,a0,a,.e,cy,ky,I])).X (LL [.s 0 0,.s 0 0,II 0,II 0,.e]):=⟨_,R⟩;have EW:ai b.h b W:=by rw[v];exact ap (ap (.refl _ _))
  have nW:W.h=b.h+2:=by rw[v];rfl
  have w1:W.f (b.h+1)=LL [.s 0 0,.s 0 0,II 0,II 0,.e]:=by rw[v];simp(disch:=omega)only[go_sem]
  rw[<-v];clear v;have s1:cS t D b ly ey F W ly ey F:=cS.ext EW;have b9:jB D ey ly F W.h (b.h+1):=hf.fresh Y Y;refine al (d W xb _ st ly ey F _ (hf.X EW) (hx.ext EW) (a5.step s1) (ht.step s1) sm λz' Uu P F2 f h2 s2 r2=>?_);obtain⟨g1,g2,g3,g4,g5,rfl⟩:=cJ r2;have f2:=(b9.1.same s2).t w1;have B:=b9.step s2;refine S1 f2 ?_;have e4:t.h<=b.h+1:=by have:=hf.ext.1;omega
  obtain⟨X,H⟩:∃X,X=f.put (b.h+1) (LL [g1,g2,g3,g4,g5]):=⟨_,R⟩;have kX:∀c,c≠b.h+1->X.f c=f.f c:=λc d=>by rw[H];exact ac d
  have nX:X.h=f.h:=by rw[H];rfl
  rw[<-H];clear H;refine k _ Uu P F2 X (h2.A8 (λc d q=>kX c λe=>?_) Y) ((s1.M s2).fv (λc d=>kX c Y) Y) (gq (F:=λc=>W.h<=c/\km D P Uu f.h c) (U:=f) (λc q d=>kX c (om q.1)) Y (λc q=>⟨om q.1,by rw[nX];exact q.2⟩) _ _ r2);subst e;rcases q with q|q
  .omega
  .exact q B
 .have e1:aI u.1 u.2 4 1819042147=false:=by rw[show aI u.1 u.2 4 1819042147=de (u=bK) from bz u bK];exact aA w
  intro b xb z st ly ey F Q hf hx a5 ht sm k;have H:cV G l x (.mk u o a0 a c I p) st=(.mk u (if o=(0,0) then(0,0) else aW x o) a0 0 (bH G l x p st).1,(bH G l x p st).2):=by
   conv=>lhs;unfold cV
   rw[ac w]
  rw[H] at k sm;have a8:=ht;let⟨lo,hi,rt,c6,c5⟩:=a8;unfold dO at rt;obtain⟨cy,ky,b8,a9,rfl,c3,b5,b2,a3⟩:=rt;have j:dZ ky=some [ky]:=by rcases a3 with⟨rfl,_⟩|⟨_,_,_,_,rfl,_⟩<;>rfl
  have j:=hf.I;have j:=hf.hL;have j:=hf.ext.1;have c8:∀(a7:HN) (e w:Nat),eF (.a e 8 w) ky a7=mr (N p) a7:=λa7 e w=>by
   rcases a3 with⟨rfl,rfl,_⟩|⟨kb,_,_,_,rfl,_⟩
   .rfl
   .show mr (N b8) a7=_;rw[(pQ b2).1]
  clear a3 b2 b5;obtain⟨Z,j⟩:∃Z,Z=(if o=(0,0) then(0,0) else aW x o):=⟨_,R⟩;rw[<-j] at k sm;have c1:∀c,b.h<=c->∀a9,c<a9->jB D ey ly F a9 c:=λc h1 a9 h2=>hf.fresh h1 h2;refine cf Mc Tryz.func58 ?_;let⟨M1,w⟩:=jH λO z=>(O 0=.p D 0/\O 1=.p xb 0/\O 5=.p b.h 0/\O 6=.p (b.h+1) 0/\O 7=.p (b.h+2) 0)/\z.f b.h=LL [sV u,sV o,a0,a,.e,cy,ky,I]/\
   z.f (b.h+1)=LL [.s 0 0,.s 0 0,II 0,II 0,.e]/\z.f (b.h+2)=LL [u,Z,a0,II 0,.e]/\ai b.h b z/\b.h+3<=z.h
  refine iB (M:=M1) 5 _ _ _ ?_ ?_
  rotate_left
  .simp(disch:=omega)only[go_sem,sV,e1,bF];obtain⟨W,v⟩:∃W,W=((((b.X (LL [u,o,a0,a,.e,cy,ky,I])).X (LL [.s 0 0,.s 0 0,II 0,II 0,.e])).X (LL [.s 0 0,.s 0 0,II 0,II 0,.e])).put (b.h+1+1) (LL [u,o,a0,a,.e])).put (b.h+1+1) (LL [u,o,a0,II 0,.e]):=⟨_,R⟩;have EW:ai b.h b W:=by rw[v];exact cO (cO (ap (ap (ap (.refl _ _)))) Y) Y
   have nW:W.h=b.h+3:=by rw[v];rfl
   have w0:W.f b.h=LL [u,o,a0,a,.e,cy,ky,I]:=by rw[v];simp(disch:=omega)only[go_sem]
   have w1:W.f (b.h+1)=LL [.s 0 0,.s 0 0,II 0,II 0,.e]:=by rw[v];simp(disch:=omega)only[go_sem]
   have I:W.f (b.h+1+1)=LL [u,o,a0,II 0,.e]:=by rw[v];simp(disch:=omega)only[go_sem]
   by_cases a:o=(0,0)
   .have e2:aI o.1 o.2 0 0=true:=by rw[show aI o.1 o.2 0 0=de (o=(0,0)) from bz o (0,0)];exact aB a
    rw[ae a,<-a] at j;refine S1 e2 ?_;rw[<-v];exact(w _ _).2 ⟨dy,w0,w1,by rw[j];exact I,EW,Y⟩
   .have e2:aI o.1 o.2 0 0=false:=by rw[show aI o.1 o.2 0 0=de (o=(0,0)) from bz o (0,0)];exact aA a
    rw[ac a] at j;refine S1 e2 ?_;rw[<-v];refine al (wP (hx.ext EW) o e5 ?_);refine S1 I ?_;refine(w _ _).2 ⟨dy,(ac Y).t w0,(ac Y).t w1,by rw[j];exact ae R,cO EW Y,by show b.h+3<=W.h;omega⟩
  .clear e1;intro O z a;let⟨⟨p0,p1,p5,p6,p7⟩,f0,f1,f2,E1,nz⟩:=(w _ _).1 a;simp(disch:=omega)only[lT,lU,go_sem,p5,f0,c8];let⟨I,hI⟩:=inv λa9 O a=>∃i kx n s r F',a9=N p-i/\i<=N p/\(O 0=.p D 0/\O 1=.p xb 0/\O 5=.p b.h 0/\O 6=.p (b.h+1) 0/\O 7=.p (b.h+2) 0/\O 30=ky/\O 31=II (N p)/\O 32=II i)/\
    a.f (b.h+1)=LL [.s 0 0,.s 0 0,II 0,II 0,.e]/\a.f (b.h+2)=LL [u,Z,a0,II 0,kx]/\fK t D lv n0 iy oy (bH G l x (p.take i) st).2 s r F' a/\cS t D b ly ey F a s r F'/\b.h+2<a.h/\
    aH 5 (b.h+3) a kx (N n) n.flatten/\cw (λc=>b.h+2<c/\km D r s a.h c/\¬ar kx c) a (bH G l x (p.take i) st).1 n/\(∀c,(c=b.h+1\/c=b.h+2\/ar kx c)->jB D r s F' a.h c)
   have a:bH G l x [] st=([],st):=Ru st;refine aT I (N p) ((hI _ _ _).2 ⟨0,.e,[],ly,ey,F,R,aJ _,⟨dx p0,dx p1,dx p5,dx p6,dx p7,R,R,R⟩,f1,f2,by rw[gO,a];exact hf.X E1,cS.ext E1,Y,⟨R,.inl dy⟩,by rw[gO,a];unfold cw;rfl,λc q=>?_⟩) ?_
   .rcases q with q|q|q
    .exact c1 c Y _ Y
    .exact c1 c Y _ Y
    .exact q.elim
   clear p0 p1 p5 p6 p7 f0 f1 f2 E1 nz;intro a O g a;let⟨i',kx,n,s,r,F',_,_,⟨p0,p1,p5,p6,p7,c2,b0,b1⟩,f1,f2,a2,S1,j,ox,rx,lb⟩:=(hI _ _ _).1 a;by_cases a4:i'<N p
   .obtain⟨kb,a,rfl,a,a,c7,a,b7,a,tk⟩:=(ht.step S1).mR a4;have a:=tk;let⟨e4,j,w,_,_⟩:=a;let⟨h1,h2,h3,h4,j,o,a,_,z⟩:=qz w;rw[a] at b7 tk;have e1:=JZ (G:=G) (l:=l) (x:=x) p[i'] (p.take i') st;rw[<-dt a4] at e1;simp(disch:=omega)only[go_sem,p0,p1,p7,c2,b0,b1,c7,b7,bF,f2];obtain⟨V,a⟩:∃V,V=(g.X (LL [h1,h2,h3,h4,.e,j,o,.l p[i'].ck.2])).at_ (g.h+1+(1+1+1+1+1+1+1+1+1+1)):=⟨_,R⟩;have j:ai g.h g V:=by
     rw[a];exact⟨by show g.h<=g.h+1+(1+1+1+1+1+1+1+1+1+1);omega,λc d=>ac Y⟩
    have o:V.h=g.h+11:=by rw[a];rfl
    simp(disch:=omega)only[<-a];clear a;have v2:=(j.2 _ Y).t f2;have o:=a2.X j;have b3:cS t D g s r F' V s r F':=cS.ext j;have SV:=S1.M b3;have a:rM (cV G l x p[i'] (bH G l x (p.take i') st).2).2:=by
     refine sm.of ?_;have e2:=J0 (G:=G) (l:=l) (x:=x) (p.drop (i'+1)) (p.take (i'+1)) st;rw[mH] at e2;rw[e2,e1];exact Ax gG _ _
    refine bL (b6 _ (aU a4) V xb _ _ s r F' _ o (hx.aR (a5.same SV) SV.h) (a5.step SV) (tk.step b3) a λz' Uu P F2 f b4 s2 r2=>?_);obtain⟨g1,g2,g3,g4,g5,rfl⟩:=cJ r2;have a:=s2.h;have a6:=b3.M s2;have B:∀c,(c=b.h+1\/c=b.h+2\/ar kx c)->jB D P Uu F2 f.h c/\f.f c=g.f c:=λc q=>by
     have a:=lb c q;exact⟨a.step a6,a.1.same a6⟩
    have z:=(B _ (.inr (.inl R))).2.t f2;refine S0 ?_;obtain⟨a,j⟩:∃a,a=g.h+1+(1+1+1+1+1+1):=⟨_,R⟩;rw[<-j];obtain⟨W,v⟩:∃W,W=(((f.at_ a).X (LL [g1,g2,g3,g4,g5])).at_ f.h):=⟨_,R⟩;have w:∀c,c≠a->W.f c=f.f c:=λc d=>by rw[v];exact ac d
    have I:W.f a=LL [g1,g2,g3,g4,g5]:=by rw[v];exact ae R
    have nW:W.h=f.h:=by rw[v];rfl
    rw[<-v];clear v;have c9:jB D P Uu F2 f.h a:=jB.step s2 (a2.fresh (c:=a) (m:=V.h) Y Y);have j:=(kI rx).1;rw[FP,dW] at j;have y:∀c,ar kx c->b.h+3<=c/\c<g.h:=λc d=>cz ox d;have o:aH 5 (b.h+3) W kx (N n) n.flatten:=kG ox (λc d=>(w c (om (y c d))).t (B c (.inr (.inr d))).2) Y;let⟨j,v,o3,_,F⟩:=oS (s:=5) (w:=72) (m:=1) (k:=[g1,g2,g3,g4,g5]) dc o (y:=.a a 0 1 (.k 1)) (.inr ⟨_,0,_,false,_,R,I,Y,ak _,R,R⟩) dc Y Y;rw[v];have o:∀c,c<f.h->c≠a->¬ar kx c->j.f c=f.f c:=λc h1 v h2=>(F c Y h2).t (w c v);have v:=(o (b.h+2) Y Y (λh=>om (y _ h))).t z;refine S5 p7 b1 v v2 z ?_;obtain⟨X,H⟩:∃X,X=j.put (b.h+2) (LL [u,Z,a0,II 0,.a W.h 0 (N n+1) (.B 5)]):=⟨_,R⟩;have kX:∀c,c≠b.h+2->X.f c=j.f c:=λc d=>by rw[H];exact ac d
    have xX:X.f (b.h+2)=LL [u,Z,a0,II 0,.a W.h 0 (N n+1) (.B 5)]:=by rw[H];exact ae R
    have nX:X.h=j.h:=by rw[H];rfl
    rw[<-H];clear H;have a1:∀c,ar (.a W.h 0 (N n+1) (.B 5)) c->c=W.h:=λc d=>(show W.h=c from d).s;have K:∀c,c<f.h->c≠b.h+2->c≠a->¬ar kx c->X.f c=f.f c:=λc h1 h2 h3 h4=>(kX c h2).t (o c h1 h3 h4);have c4:fK t D lv n0 iy oy _ Uu P F2 X:=b4.A8 (λc h1 q=>K c h1 (λe=>by
     rcases q with q|q
     .omega
     .exact q (e▸(B _ (.inr (.inl R))).1)) (λe=>by
     rcases q with q|q
     .omega
     .exact q (e▸c9)) λd=>by
     rcases q with q|q
     .have:=(y c d).1;omega
     .exact q (B c (.inr (.inr d))).1) Y
    refine⟨λh=>absurd h dc,N p-(i'+1),Y,(hI _ _ _).2 ⟨i'+1,_,n++[[.s g1.1 g1.2,.s g2.1 g2.2,II g3,II g4,g5]],Uu,P,F2,R,a4,⟨dx p0,dx p1,dx p5,dx p6,dx p7,dx c2,dx b0,R⟩,?_,xX,by rw[e1];exact c4,(SV.M s2).fv (λc d=>K c Y Y Y λh=>om ((y c h).1)) Y,Y,?_,?_,λc q=>?_⟩⟩
    .exact(K _ Y Y Y (λh=>om ((y _ h).1))).t ((B _ (.inl R)).2.t f1)
    .rw[ay,su,nh,Ir];exact kG o3 (λc d=>kX c (om (a1 c d))) Y
    .rw[e1];refine zi (sa (U:=g) (λc q d=>?_) Y (λc q=>⟨q.1,⟨om q.2.1.1,(q.2.1.step a6).2⟩,λh=>by have:=a1 c h;have:=q.2.1.1;omega⟩) _ _ rx) (gq (U:=f) (λc q d=>K c d (om q.1) (om q.1) λh=>by have:=(y c h).2;have:=q.1;omega) Y (λc q=>⟨om q.1,⟨om q.2.1,q.2.2⟩,λh=>by have:=a1 c h;have:=q.2.1;omega⟩) _ _ r2);exact(K c Y (om q.1) Y q.2.2).t (q.2.1.same a6)
    .rcases q with q|q|q
     .exact((B c (.inl q)).1).more Y
     .exact((B c (.inr (.inl q))).1).more Y
     .exact b4.fresh (om (a1 c q)) (om (a1 c q))
   .have e:i'=N p:=Y;rw[e,hU] at a2 rx;refine S6 p6 p7 b0 b1 f1 f2 ?_;obtain⟨X,H⟩:∃X,X=g.put (b.h+1) (LL [u,Z,a0,II 0,kx]):=⟨_,R⟩;have kX:∀c,c≠b.h+1->X.f c=g.f c:=λc d=>by rw[H];exact ac d
    have nX:X.h=g.h:=by rw[H];rfl
    rw[<-H];clear H;have y:∀c,ar kx c->b.h+3<=c/\c<g.h:=λc d=>cz ox d;have oX:aH 5 (b.h+3) X kx (N n) n.flatten:=kG ox (λc d=>kX c (om (y c d))) Y;have rX:cw (λc=>b.h<=c/\km D r s X.h c) X (bH G l x p st).1 n:=sa (U:=g) (λc q d=>kX c (om q.1)) Y (λc q=>⟨om q.1,by rw[nX];exact q.2.1⟩) _ _ rx;refine k _ s r F' X (a2.A8 (λc d q=>kX c λe=>?_) Y) (S1.fv (λc d=>kX c Y) Y) ?_
    .subst e;rcases q with q|q
     .omega
     .exact q (lb _ (.inl R))
    .unfold bn;exact⟨kx,R,λc d=>⟨om (y c d),by rw[nX];exact(lb c (.inr (.inr d))).1⟩,n,oz oX (kI rX).2,rX⟩
end
section
variable {t:HN}{m:L (L AV)}{l:L Nd}{i:Nat}
def adn{lv:AV}{j:L AV}(C:tC l m lv t j){y:Nat}{n0:Nd}{iy oy:AV}{G:aP->aa->aa}(gG:xN G)(hG:∀j,j<i->Cc l lv t y n0 iy oy G j):
  Cc l lv t y n0 iy oy (λx st=>iH G l x x.n.r st) i:=by
 intro x I V e2 xb st ly ey F Q hf hx a4 sm k;obtain⟨w,j⟩:∃w,w=l[i]:=⟨_,R⟩;have c8:=λe3 w=>adz C gG (x:=x) hG e3 w;have jG:=C.jG.at_ i I;have a6:=C.jG.ok.2 _ (aU I);rw[<-j] at V jG a6;let⟨y1,y2,y3,y4,hb,rn⟩:=hx.D;have j:=rn;obtain⟨w,q2,w,w,ez,-,w,w,r3,qs,r4,r5⟩:=j;cases ez;have I:=(lS r5).1;have j:=a6.2.2.2.2.1;rw[<-V] at j jG;have j:=λf e w=>bI (e:=f) r4 I Y e w;refine cf Wa Tryz.func30 ?_;refine S2 hb j ?_;have sm:rM (iH G l x x.n.r st):=sm;have k:∀d a u f,fK t y lv n0 iy oy (iH G l x x.n.r st) d a u f->cS t y e2 ly ey F f d a u->Q (.t []) f:=k;let⟨I,hI⟩:=inv λw j p=>∃i r d a u,w=N x.n.r-i/\i<=N x.n.r/\(j 0=.p y 0/\j 1=.p xb 0/\j 12=y4/\j 13=.i .i64 (N x.n.r)/\j 14=.i .i64 i)/\
  fK t y lv n0 iy oy r d a u p/\iH G l x (x.n.r.drop i) r=iH G l x x.n.r st/\cS t y e2 ly ey F p d a u
 refine aT I (N x.n.r) ((hI _ _ _).2 ⟨0,st,ly,ey,F,R,aJ _,dy,hf,R,.refl⟩) ?_;intro w j p j;let⟨i',r,d,a,u,_,w,⟨p0,p1,b9,a7,a8⟩,B,O,S1⟩:=(hI _ _ _).1 j;by_cases v:i'<N x.n.r
 .let⟨e0,c1⟩:=sh r5 i' v;obtain⟨b1,b7,c5,j,c2,rfl,c7,b2,j,n⟩:=r4.at e0;let⟨j,b0⟩:=(B.ext.2 b1 b2).E c7;let⟨⟨c,ec⟩,b8,b3⟩:=jG _ (aU v);have D:=a6.2.2.2.2.2;rw[<-V] at D;have D:=D _ (aU v);obtain⟨q,hq⟩:∃q,q=x.n.r[i']:=⟨_,R⟩;rw[<-hq] at c1 ec b8 b3 D;let⟨j,c6,re⟩:=c1;obtain⟨P,U,g3,g4,g5,rfl⟩:=cJ re;rw[c6] at n;have n:(c2.drop (b7+i'*7)).take 7=[.s q.n.1 q.n.2,.s P.1 P.2,.s U.1 U.2,.i .i64 g3,.i .i64 g4,g5,.i .i64 q.a]:=n;have b4:ki t p xb x:=hx.aR (a4.same S1) S1.h;have j:=(a4.same S1).t hb;have w:=S1.h;have w:=b4.I;refine S7 p1 b9 a7 a8 b0 n j ?_;obtain⟨V,j⟩:∃V,V=(p.X (.E false [.s q.n.1 q.n.2,.s P.1 P.2,.s U.1 U.2,.i .i64 g3,.i .i64 g4,g5,.i .i64 q.a])).at_ (p.h+1+(1+1+1+1+1+1+1+1+1+1+1+1)):=⟨_,R⟩;have n:ai p.h p V:=by
   rw[j];exact⟨by show p.h<=p.h+1+(1+1+1+1+1+1+1+1+1+1+1+1);omega,λc H=>ac Y⟩
  have w:V.h=p.h+13:=by rw[j];rfl
  have v0:V.f p.h=.E false [.s q.n.1 q.n.2,.s P.1 P.2,.s U.1 U.2,.i .i64 g3,.i .i64 g4,g5,.i .i64 q.a]:=by rw[j];exact ae R
  simp(disch:=omega)only[<-j];clear j;obtain⟨s,a9⟩:∃s,s=p.h+1+(1+1+1+1+1+1+1+1+1):=⟨_,R⟩;obtain⟨z,K⟩:∃z:HN,z=⟨V.h,λc=>if c=s then .none else V.f c⟩:=⟨_,R⟩;have b5:∀c,c≠s->z.f c=V.f c:=λc H=>by rw[K];exact ac H
  have c4:z.f s=.none:=by rw[K];exact ae R
  have j:z.h=V.h:=by rw[K]
  have a0:ai p.h p z:=⟨Y,λc H=>(b5 c Y).t (n.2 c H)⟩;have hV:=B.X a0;obtain⟨j,o,c9,K9⟩:∃n f,aq Tryz.prog 55 [.g [.s x.n.n.1 x.n.n.2,y1,y2,y3,.a b1 b7 (N qs) c5,.i .i64 x.n.a],.g [.s q.n.1 q.n.2,.s P.1 P.2,.s U.1 U.2,.i .i64 g3,.i .i64 g4,g5,.i .i64 q.a]] z n f/\∃j,n=.t [.g j,.l true]/\dO z.h f.h f (dr x.n q.n q.e) j/\ai z.h z f:=
   YQ (Xn hV.ext rn) hx.ok ⟨_,R,Mi hV.ext _ _ re⟩ D ec λj f d2 Z=>⟨j,R,d2,Z⟩
  obtain⟨j,rfl,d2,Z⟩:=K9;rw[K] at c9;refine QJ s 9 dc R R R a9 ⟨_,o,c9,?_⟩;have f:=Z.1;obtain⟨h1,h2,h3,h4,a3,a5,rfl,f,f⟩:=qz d2;have f:=(Z.2 p.h Y).t ((b5 _ Y).t v0);simp(disch:=omega)only[go_sem,p0,p1,bF,f,<-a9];obtain⟨W,f⟩:∃W,W=((((o.at_ s).X (.E false [.s 0 0,.s 0 0,.i .i64 0,.i .i64 0,.e,.e,.e,.l false])).at_ o.h).put s (.E false [.s h1.1 h1.2,.s h2.1 h2.2,.i .i64 h3,.i .i64 h4,.e,a3,a5,.l (dr x.n q.n q.e).ck.2])):=⟨_,R⟩;have kW:∀c,c≠s->W.f c=o.f c:=λc H=>by rw[f];exact(ac H).t (ac H)
  have wb:W.f s=.E false [.s h1.1 h1.2,.s h2.1 h2.2,.i .i64 h3,.i .i64 h4,.e,a3,a5,.l (dr x.n q.n q.e).ck.2]:=by rw[f];exact ae R
  have nW:W.h=o.h:=by rw[f];rfl
  rw[<-f];clear f;have f:=hV.X Z;have b6:jB y a d u o.h s:=B.fresh Y Y;have j:=hf.ext.1;have hW:fK t y lv n0 iy oy r d a u W:=f.A8 (λc H q=>kW c λe=>by
   subst e;rcases q with q|q
   .omega
   .exact q b6) Y
  have sW:cS t y p d a u W d a u:=cS.ext ⟨Y,λc H=>(kW c Y).t ((Z.2 c Y).t (a0.2 c H))⟩;have j:o.f s=.none:=(Z.2 s Y).t c4;have tW:vX y a d W (dr x.n q.n q.e) [.s h1.1 h1.2,.s h2.1 h2.2,.i .i64 h3,.i .i64 h4,.e,a3,a5,.l (dr x.n q.n q.e).ck.2]:=by
   refine⟨z.h,o.h,Bj (d:=o) (λ_ _ g=>uQ g (λb _=>?_) Y) Y (λb f _ _=>kW b Y) d2,Y,λc f f=>(B.fresh Y Y).1⟩;by_cases e:b=s
   .rw[e,j];exact .inr ⟨(by intro h;cases h),λ_ _ _ h=>(by cases h)⟩
   .exact .inl (kW b e)
  have b:ki t W xb x:=b4.aR ((kW xb Y).t ((Z.2 xb Y).t (a0.2 xb Y))) Y;have f:=(a4.step S1).step sW;refine bL (wP b q.n b3 ?_);have j:lz (mj (aW x q.n) (cV G l x (dr x.n q.n q.e) r).1 (cV G l x (dr x.n q.n q.e) r).2) (iH G l x x.n.r st):=by
   rw[<-O,eJ v,<-hq];exact JT gG _ _
  have c3:=sm.of (KJ.M j);refine S3 p0 p1 wb ?_;refine bL (c8 _ b8 W xb _ r d a u _ hW b f tW c3 λb e1 b b b h3 s3 r3=>?_);obtain⟨b,b,b,b,b,rfl⟩:=cJ r3;have b:jB y a d u W.h s:=by rw[nW];exact b6
  have f:=(b.1.same s3).t wb;have b:N (cV G l x (dr x.n q.n q.e) r).2.r<=1000000:=(c3).2.2;refine S0 ?_;refine bL (Rg h3 (s:=nA x.ah q.n) r3 (λc g=>g.2) b λb j h4 j=>?_);refine S3 a8 wb f ?_;have S3:=S1.M (sW.M s3);refine⟨λh=>absurd h dc,N x.n.r-(i'+1),Y,(hI _ _ _).2 ⟨i'+1,_,e1,b,_,R,v,⟨dx p0,dx p1,dx b9,dx a7,R⟩,h4,?_,(S3.Pc (λc g=>om g.1)).M j⟩⟩;rw[<-O,eJ v,<-hq]
  rfl
 .have e:i'=N x.n.r:=Y;rw[e,fQ] at O;refine S2 a7 a8 ?_;refine k d a u p ?_ S1;rw[<-O];exact B
def WU{l:L Nd}{m:L (L AV)}{lv:AV}{t:HN}{a:L AV}(C:tC l m lv t a){b:Nat}{e:Nd}{c f:AV}:∀d i,i<d->Cc l lv t b e c f (gJ l d) i
 |0,i,h=>Y
 |d+1,i,h=>adn C (WZ d) λj a=>WU C d j Y
variable {e:HN}{z:L AV}
def yT:fU .i64 18446744073709551615 0=true:=R
structure xL (U:HN) (cb:Nat) (v:AV) (h:List Nd) (z:List AV) (m:AV):Prop where
 D:∃s:S,∃y1 y2 y3 y4 a,z=[.s s.1 s.2,y1,y2,y3,y4,II a]/\U.f cb=LL [v,.s s.1 s.2,y1,y2,y3,y4,II a,m]
 I:cb<U.h
 hv:∃ls,aK 6 U v ls/\fZ tt U h ls
 hl:N h<=64/\∀d∈h,eG d
def xL.ext{U:HN}{b:Nat}{v m:AV}{h:L Nd}(c:xL U b v h z m)(x:ai U.h U e):xL e b v h z m:=by
 let⟨s,k,l,n,o,a,d,f⟩:=c.D;let⟨j,g,i⟩:=c.hv;exact⟨⟨s,k,l,n,o,a,d,(x.2 b c.I).t f⟩,cW c.I x.1,⟨j,g.ext (f:=0) x,iJ (iS x) x.1 (λ_ h=>h) i⟩,c.hl⟩
variable {d:HN}{b:Nat}
def sB{M:Nat×Nat->Option AV}(h:fL d b M)(a:b<d.h)(x:ai d.h d e):fL e b M:=h.eq (x.2 b a)
def lD(P:S->Bool):Nat×Nat->Option AV:=λs=>if P s then some (.l true) else none
def ML{P:S->Bool}(h:fL d b (lD P))(s:S):yQ (some kh) (some (.l false)) (.map b) (.s s.1 s.2) false d=.ok (.l (P s)) d:=by
 rw[h.look s];unfold lD;cases P s<;>rfl
variable {n:Nd}
def aiz{P:S->Bool}(s:S):(λt=>if t=s then some (AV.l true) else lD P t)=lD (λt=>decide (t=s)||P t):=by
 funext t;unfold lD;by_cases h:t=s
 .rw[ae h];show _=if(de (t=s)||P t)=true then _ else _
  rw[aB h];rfl
 .rw[ac h];show _=if(de (t=s)||P t)=true then _ else _
  rw[aA h];rfl
def MM{P:S->Bool}(h:fL d b (lD P))(s:S):∃a,yX (some kh) b (.s s.1 s.2) (.l true) d=.ok bp (d.put b (.mp a))/\fL (d.put b (.mp a)) b (lD λt=>decide (t=s)||P t):=by
 let⟨a,e,c⟩:=h.mE s (.l true);rw[aiz] at c;exact⟨a,e,c⟩
def Yb:fL (d.X (.mp [])) d.h (lD λ_=>false):=fL.X
structure uK (U0:HN) (v:AV) (h:List Nd) (n:Nd) (z:List AV):Prop where
 hv:∃ls,aK 6 U0 v ls/\fZ tt U0 h ls
 hz:dL tt U0 n z
 hl:N h<=64/\∀d∈h,eG d
 ok:eG n
def uK.Jl{U:HN}{v m:AV}{h:L Nd}{a:Nat}(T:uK t v h n z)(x:ai t.h t U)(d:U.f a=LL (v::(z++[m])))(e:a<U.h):xL U a v h z m:=by
 let⟨f,b,c⟩:=T.hv;obtain⟨g,i,j,k,rfl,_⟩:=T.hz;exact⟨⟨n.n,g,i,j,k,n.a,R,d⟩,e,⟨f,b.ext (f:=0) x,iJ (iS x) x.1 (λ_ h=>h) c⟩,T.hl⟩
def Y6:∀(l:By) (v:Nat) (c:UInt8),pB v (l++[c])=10*pB v l+(c.toNat-48)
 |[],v,c=>rfl
 |a::l,v,c=>Y6 l _ c
def Y7:∀(l:By) (v:Nat),(∀c∈l,jD c=true)->pB v l<(v+1)*10^N l
 |[],v,_=>by show v<(v+1)*1;omega
 |a::l,v,h=>by
  have b:=eL (h a gN)
  have:=Y7 l (10*v+(a.toNat-48)) J
  refine cW this ?_;rw[bt,xJ,xI (10^N l) 10,<-IB];exact tu _ Y
def ajb{l:By}(h:i<N l):l.take (i+1)=l.take i++[l[i]]:=dt h
def D4{a:UInt8->Bool}{l:By}{n:Nat}(h:n<N l)(b:a l[n]=true):fP a (l.drop n)=fP a (l.drop (n+1))+1:=by
 rw[eJ h]
 show(if a l[n] then _ else _)=_
 grind
def Na{a:UInt8->Bool}{l:By}{n:Nat}(h:n<N l)(b:a l[n]=false):fP a (l.drop n)=0:=by
 rw[eJ h]
 show(if a l[n] then _ else _)=_
 rw[b];rfl
def Nb{a:UInt8->Bool}{l:By}{n:Nat}(h:N l<=n):fP a (l.drop n)=0:=by
 rw[NX h];rfl
def M9(b:UInt8->Bool):∀(l:By),∀c∈l.take (fP b l),b c=true
 |[],c,h=>J
 |a::l,c,h=>by
  unfold fP at h;by_cases d:b a=true
  .rw[ae d,rG] at h;rcases bY.1 h with rfl|h
   .exact d
   .exact M9 b l c h
  grind
def Po{l:L S}{p:S->Bool}(h:i<N l)(a:p (l.getD i (0,0))=true):l.any p=true:=J
def Pm{l:L S}{p:S->Bool}(h:∀i,i<N l->p (l.getD i (0,0))=false):l.any p=false:=by
 rw[NU];intro x a;obtain A:=gB a;grind
def aaP{l:L Nat}{p:Nat->Bool}(h:i<N l)(a:p (l.getD i 0)=true):l.any p=true:=J
def aaO{l:L Nat}{p:Nat->Bool}(h:∀i,i<N l->p (l.getD i 0)=false):l.any p=false:=by
 rw[NU];intro x a;obtain A:=gB a;grind
def agG:∀i,i<12->qC 19260828887342980396431845672 i=sU.getD i 0:=by decide
def vF{l:By}(h:i<N l):qC (aY l) i=l[i].toNat:=Yq l i h
def Bv(l:By)(i n:Nat):uu (aY l) i n=aY ((l.drop i).take n):=Ys l i n
end
section
open Tryz
section
variable {U:HN}{Q:AV->HN->Prop}
def To{c:UInt8}(k:Q (.l (wN c)) U):∃v a,aq Tryz.prog 124 [.i .u8 c.toNat] U v a/\Q v a:=by
 refine c0 func124 ?_;have a:=c.toNat_lt;by_cases a:97<=c.toNat
 .by_cases b:c.toNat<=122
  .rw[show wN c=true from aB ⟨a,b⟩] at k;simp(disch:=omega)only[go_sem];exact k
  .rw[show wN c=false from aA (λg=>b g.2)] at k;simp(disch:=omega)only[go_sem];exact k
 .rw[show wN c=false from aA (λg=>a g.1)] at k;simp(disch:=omega)only[go_sem];exact k
def JK{c:UInt8}(k:Q (.l (jD c)) U):∃v a,aq Tryz.prog 125 [.i .u8 c.toNat] U v a/\Q v a:=by
 refine c0 func125 ?_;have a:=c.toNat_lt;by_cases a:48<=c.toNat
 .by_cases b:c.toNat<=57
  .rw[show jD c=true from aB ⟨a,b⟩] at k;simp(disch:=omega)only[go_sem];exact k
  .rw[show jD c=false from aA (λg=>b g.2)] at k;simp(disch:=omega)only[go_sem];exact k
 .rw[show jD c=false from aA (λg=>a g.1)] at k;simp(disch:=omega)only[go_sem];exact k
def SO(s:S)(k:∀a,ai U.h U a->Q (.l (yO s)) a):∃v a,aq Tryz.prog 126 [s] U v a/\Q v a:=by
 refine c0 func126 ?_;simp(disch:=omega)only[go_sem];have E0:ai U.h U (U.X (LL (ve.map sV))):=.X (ak _);have c0:(U.X (LL (ve.map sV))).f U.h=LL (ve.map sV):=ae R;have a:N (ve.map sV)=21:=R;let⟨I,d⟩:=inv λm a p=>∃i,m=21-i/\i<=21/\(a 0=.s s.1 s.2/\a 3=.a U.h 0 21 (.k 21)/\a 4=II i)/\p=U.X (LL (ve.map sV))/\∀j,j<i->de (ve.getD j (0,0)=s)=false;refine aT I 21 ((d _ _ _).2 ⟨0,R,aJ _,dy,R,λ_ h=>Y⟩) ?_;intro m a p n;obtain⟨i,a,n,⟨f,c,g⟩,rfl,o⟩:=(d _ _ _).1 n;by_cases b:i<21
 .have l:=xj ve i b;cases e:de (ve.getD i (0,0)=s) with
  |true=>
   simp(disch:=omega)only[go_sem,f,c,g,c0,l,bz,e]
   have:yO s=true:=Po (i:=i) b e
   rw[this] at k;exact k _ E0
  |false=>
   simp(disch:=omega)only[go_sem,f,c,g,c0,l,bz,e];refine⟨21-(i+1),Y,(d _ _ _).2 ⟨i+1,R,Y,⟨f,c,R⟩,R,λj a=>?_⟩⟩;by_cases h:j=i
   .subst h;exact e
   .exact o j Y
 .obtain rfl:i=21:=Y;simp(disch:=omega)only[go_sem,c,g]
  have:yO s=false:=Pm o
  rw[this] at k;exact k _ E0
def aiO{c:UInt8}{r:By}(F:N r<=16384)(k:∀v a,ai U.h U a->Q (.s (ur (c::r)) v) a):∃v a,aq Tryz.prog 128 [.s (N (c::r)) (aY (c::r))] U v a/\Q v a:=by
 refine cf VE func128 ?_;have a:N (c::r)=N r+1:=R;generalize w:aY (c::r)=s at*;rw[a];have E0:ai U.h U (U.X (LL (kZ.map sV))):=.X (ak _);have c0:(U.X (LL (kZ.map sV))).f U.h=LL (kZ.map sV):=ae R;have a:N (kZ.map sV)=4:=R;have t:qC s 0=c.toNat:=by rw[<-w];exact vF (l:=c::r) (i:=0) dp
 let⟨M,C⟩:=jH λa n=>a 0=.s (N r+1) s/\n=U.X (LL (kZ.map sV))/\ur (c::r)=if sU.any (λx=>decide (x=c.toNat)) then 1 else 0
 refine iB (M:=M) 3 _ _ _ ?_ ?_
 .intro a n z;obtain⟨d,rfl,B⟩:=(C _ _).1 z;rw[B] at k;simp(disch:=omega)only[lT,lU,go_sem];let⟨I,l⟩:=inv λm a n=>∃i,m=12-i/\i<=12/\(a 0=.s (N r+1) s/\a 5=.s 12 19260828887342980396431845672/\a 6=II i)/\n=U.X (LL (kZ.map sV))/\∀j,j<i->de (sU.getD j 0=c.toNat)=false;refine aT I 12 ((l _ _ _).2 ⟨0,R,aJ _,⟨d,R,R⟩,R,λ_ h=>Y⟩) ?_;intro m a n o;obtain⟨i,z,o,⟨d,b,p⟩,rfl,y⟩:=(l _ _ _).1 o;by_cases f:i<12
  .have v:=agG i f;cases e:de (sU.getD i 0=c.toNat) with
   |true=>
    have q:=eL e;simp(disch:=omega)only[go_sem,d,b,p,t,v,q];rw[ae (aaP (l:=sU) (p:=λx=>decide (x=c.toNat)) (i:=i) f e)] at k;exact k _ _ E0
   |false=>
    have q:c.toNat≠sU.getD i 0:=λg=>EC e g.s;simp(disch:=omega)only[go_sem,d,b,p,t,v,q];refine⟨12-(i+1),Y,(l _ _ _).2 ⟨i+1,R,Y,⟨d,b,R⟩,R,λj D=>?_⟩⟩;by_cases h:j=i
    .subst h;exact e
    .exact y j Y
  .obtain rfl:i=12:=Y;simp(disch:=omega)only[go_sem,b,p];rw[ac (by rw[aaO (l:=sU) (p:=λx=>decide (x=c.toNat)) y];decide)] at k;exact k _ _ E0
 simp(disch:=omega)only[go_sem];cases r with
 |nil=>
  let⟨I,l⟩:=inv λm a n=>∃i,m=4-i/\i<=4/\(a 0=.s (0+1) s/\a 3=.a U.h 0 4 (.k 4)/\a 4=II i)/\n=U.X (LL (kZ.map sV));refine aT I 4 ((l _ _ _).2 ⟨0,R,aJ _,dy,R⟩) ?_;intro m a n o;obtain⟨i,z,o,⟨d,p,t⟩,rfl⟩:=(l _ _ _).1 o;by_cases f:i<4
  .simp(disch:=omega)only[go_sem,d,p,t];exact⟨4-(i+1),Y,(l _ _ _).2 ⟨i+1,R,Y,⟨d,p,R⟩,R⟩⟩
  .obtain rfl:i=4:=Y;simp(disch:=omega)only[go_sem,p,t];exact(C _ _).2 ⟨d,R,R⟩
 |cons b r=>
  have u:N (b::r)=N r+1:=R;rw[u] at F;have u:uu s 0 2=(sS [c,b]).2:=by rw[<-w,Bv];rfl
  let⟨I,l⟩:=inv λm a n=>∃i,m=4-i/\i<=4/\(a 0=.s (N r+1+1) s/\a 3=.a U.h 0 4 (.k 4)/\a 4=II i)/\n=U.X (LL (kZ.map sV))/\∀j,j<i->de (kZ.getD j (0,0)=sS [c,b])=false;refine aT I 4 ((l _ _ _).2 ⟨0,R,aJ _,dy,R,λ_ h=>Y⟩) ?_;intro m a n o;obtain⟨i,z,o,⟨d,p,t⟩,rfl,y⟩:=(l _ _ _).1 o;by_cases f:i<4
  .have v:=xj kZ i f;have a:aI 2 (sS [c,b]).2 (kZ.getD i (0,0)).1 (kZ.getD i (0,0)).2=de (sS [c,b]=kZ.getD i (0,0)):=bz (sS [c,b]) _;cases e:de (kZ.getD i (0,0)=sS [c,b]) with
   |true=>
    have q:de (sS [c,b]=kZ.getD i (0,0))=true:=aB (eL e).s;simp(disch:=omega)only[go_sem,d,p,t,c0,v,u,a,q];have B:ur (c::b::r)=2:=by
     show(if kZ.any (λx=>decide (x=sS [c,b])) then 2 else _)=2
     rw[ae (Po (l:=kZ) (p:=λx=>decide (x=sS [c,b])) (i:=i) f e)]
    rw[B] at k;have f:(kZ.getD i (0,0)).1=2:=by rw[eL e];rfl
    rw[f];exact k _ _ E0
   |false=>
    have q:de (sS [c,b]=kZ.getD i (0,0))=false:=aA λg=>EC e g.s;simp(disch:=omega)only[go_sem,d,p,t,c0,v,u,a,q];refine⟨4-(i+1),Y,(l _ _ _).2 ⟨i+1,R,Y,⟨d,p,R⟩,R,λj D=>?_⟩⟩;by_cases h:j=i
    .subst h;exact e
    .exact y j Y
  .obtain rfl:i=4:=Y;simp(disch:=omega)only[go_sem,p,t];refine(C _ _).2 ⟨d,R,?_⟩
   show(if kZ.any (λx=>decide (x=sS [c,b])) then 2 else _)=_
   rw[ac (by rw[Pm (l:=kZ) (p:=λx=>decide (x=sS [c,b])) y];decide)]
def UH{s:By}(D:N s<=16384)(z:∀c∈s,jD c=true)(k:∀v,(qy s=true->v=pB 0 s)->Q (.t [v,qy s]) U):∃v j,aq Tryz.prog 127 [.s (N s) (aY s)] U v j/\Q v j:=by
 refine c0 func127 ?_;let⟨M,u⟩:=jH λb x=>b 0=.s (N s) (aY s)/\x=U/\N s<=19/\¬(1<N s/\s.head?=some 48);refine iB (M:=M) 2 _ _ _ ?_ ?_
 .intro b x B;obtain⟨h,rfl,a,C⟩:=(u _ _).1 B;simp(disch:=omega)only[lT,lU,go_sem];have d:∀i,i<=N s->pB 0 (s.take i)<10000000000000000000:=λi f=>by
   have l:=Y7 (s.take i) 0 (λc j=>z c (rE j));rw[dW,xH f] at l;have j:10^i<=10^19:=Ou dc Y;omega
  let⟨I,t⟩:=inv λm b j=>∃i,m=N s-i/\i<=N s/\(b 0=.s (N s) (aY s)/\b 4=.i .u64 (pB 0 (s.take i))/\b 5=II i)/\j=x;refine aT I (N s) ((t _ _ _).2 ⟨0,R,aJ _,⟨h,R,R⟩,R⟩) ?_;intro m b j f;obtain⟨i,B,f,⟨h,o,w⟩,rfl⟩:=(t _ _ _).1 f;by_cases b:i<N s
  .have j:=vF (l:=s) b;have m:=eL (z _ (aU b));have y:=d i f;have m:=d (i+1) b;have m:pB 0 (s.take (i+1))=10*pB 0 (s.take i)+(s[i].toNat-48):=by rw[ajb b,Y6]
   have b:(s[i].toNat+(256-48))%256=s[i].toNat-48:=Y;simp(disch:=omega)only[go_sem,h,o,w,j,b];exact⟨N s-(i+1),Y,(t _ _ _).2 ⟨i+1,R,Y,⟨h,by rw[m];rfl,R⟩,R⟩⟩
  .obtain rfl:i=N s:=Y;have y:=d _ f;rw[hU] at o y;by_cases b:pB 0 s<9223372036854775808
   .have e:qy s=true:=aB ⟨C,a,b⟩;rw[e] at k;simp(disch:=omega)only[go_sem,h,o,w];exact k _ λ_=>R
   .have e:qy s=false:=aA λg=>b g.2.2;rw[e] at k;simp(disch:=omega)only[go_sem,h,o,w];exact k _ λg=>by cases g
 .by_cases l:1<N s
  .obtain⟨c,r,rfl⟩:∃c r,s=c::r:=by
    cases s with
    |nil=>simp at l
    |cons c r=>exact⟨c,r,R⟩
   have p:qC (aY (c::r)) 0=c.toNat:=vF (l:=c::r) (i:=0) dp;generalize b:N (c::r)=n at*;by_cases q:c.toNat=48
   .have b:c=48:=Ow.1 q;have e:qy (c::r)=false:=aA λg=>g.1 ⟨Y,by rw[b];rfl⟩;rw[e] at k;simp(disch:=omega)only[go_sem,p,q];exact k _ λg=>by cases g
   .by_cases a:n<=19
    .simp(disch:=omega)only[go_sem,p];exact(u _ _).2 ⟨R,R,a,λg=>q (by have:=g.2;simp at this;rw[this];rfl)⟩
    .have e:qy (c::r)=false:=aA λg=>a Y;rw[e] at k;simp(disch:=omega)only[go_sem,p];exact k _ λg=>by cases g
  .simp(disch:=omega)only[go_sem];exact(u _ _).2 ⟨R,R,Y,λg=>l g.1⟩
end
end
end Go.Proofs.YtehahhggpdhieaaGreatDoor
