/- Lemmas of the walk of EmitKinds are proved. Conditions: none. -/
import Derived.Test.YtehahhggpdhieaaGreatDoorX34
namespace Go.Proofs.YtehahhggpdhieaaGreatDoor
set_option maxRecDepth 100000
set_option maxHeartbeats 32000000
set_option linter.all false
section
variable {p:ES}{n:Nd}
def Tf:∀(l:L Vr) (i:Nat) (a:ES),dN a (gn l i a) (N l)
 |[],_,a=>.refl a
 |v::l,i,a=>by
  unfold gn;have h:dN a (eE (.o ⟨4,N a.an,i,0⟩) (fx v.z a).2) 1:=⟨rV _ _ (ak _),du _ _,du _ _,rV _ _ (ak _),du _ _,du _ _,du _ _⟩;exact h.M (Tf l (i+1) _) J
def K1:∀(l:L Vr) (i:Nat) (a:ES),(gn l i a).late=a.late/\(gn l i a).f=a.f
 |[],_,a=>dy
 |v::l,i,a=>by
  unfold gn;exact K1 l (i+1) _
def Td(n:Nd):dN hX (eW n) (N (am n)):=by
 have h:dN (gn n.ins 0 hX) (eW n) (N (n.o++n.ao)):=⟨rV _ _ (by rw[aC];exact ak _),du _ _,du _ _,du _ _,du _ _,du _ _,du _ _⟩;exact(Tf n.ins 0 hX).M h (by unfold am;grind)
def Tj(b:S->Nat):∀(l:L Vr) (i:Nat) (a:ES),dN a (gH b l i a) (N l)
 |[],_,a=>.refl a
 |v::l,i,a=>by
  unfold gH;exact(wL _ a (k:=1) (ak _)).M (Tj b l (i+1) _) J
def aci(n:Nat)(a:ES):(iw n a).2.f=a.f:=by
 unfold iw;split<;>rfl
def FM:Nat:=2457600
structure OV (n:Nd) (st:ES):Prop where
 late:N (cF n (aL n) FM 0 [] st).2.late<=FM
 pn:∀x∈(cF n (aL n) FM 0 [] st).2.late,Pn n x.2.2
 ck:∀x∈(cF n (aL n) FM 0 [] st).1,N (iu x.2.2)<=65065
 fi:∀x∈(cF n (aL n) FM 0 [] st).2.f,N x.2<=65065
 rem:dN hX (ig n (aL n) FM st) 700000000000
 out:dN hX (gH (aL n) n.o 0 (ig n (aL n) FM st)) 700000000064
 tg:tF (gH (aL n) n.o 0 (ig n (aL n) FM st)).j
def ah6{o:L S}(h:B7 n o)(f:jQ n (aL n) o (eW n)=some p):OV n p:=by
 have T:=YS h.lc;have k:=Td n;have b:(eW n).late=[]/\(eW n).f=[]:=K1 n.ins 0 hX;have e:iN (Pn n) Cn (eW n):=⟨λx a=>(by rw[b.1] at a;cases a),λx a=>(by rw[b.2] at a;cases a)⟩;let⟨g,i,⟨_,c,j,d⟩,_,l⟩:=Jb T n (aL n) o (eW n) f h.pn e;have e:N o<=8192:=by
  by_cases e:o=[]
  .grind
  .grind
 rw[b.1,dH] at c;rw[b.2,hN] at d;rw[<-c] at j d;let⟨b,_,_,c,d,j⟩:=SW T n (aL n) FM 0 [] p g J Y (by rw[ng];show _<=2457600;omega);rw[ng] at d;have d:=h.all;have d:∀x∈(cF n (aL n) FM 0 [] p).1,N (iu x.2.2)<=65065:=λx a=>WE h.lc J;let⟨g,l⟩:=SN (aL n) (m:=65065) (cF n (aL n) FM 0 [] p).1 (cF n (aL n) FM 0 [] p).2 d;have e:N (cF n (aL n) FM 0 [] p).1<=2457600:=by rw[hN,gg] at c;exact c
 have c:N (cF n (aL n) FM 0 [] p).2.f<=2457600:=Y;have e:dN hX (eD (aL n) (cF n (aL n) FM 0 [] p).1 (cF n (aL n) FM 0 [] p).2) 340000000000:=((k.M i (ak _)).M j (ak _)).M g (by
  have c:FM=2457600:=R;omega)
 have g:dN hX (ig n (aL n) FM p) 700000000000:=by
  unfold ig;dsimp only;split
  .exact e.mono Y
  .have cf:(hY 1 1 (eD (aL n) (cF n (aL n) FM 0 [] p).1 (cF n (aL n) FM 0 [] p).2)).2.f=(cF n (aL n) FM 0 [] p).2.f:=(aci 1 _).t l;have c:=RQ (aL n) (hY 1 1 (eD (aL n) (cF n (aL n) FM 0 [] p).1 (cF n (aL n) FM 0 [] p).2)).1 (m:=65065) (hY 1 1 (eD (aL n) (cF n (aL n) FM 0 [] p).1 (cF n (aL n) FM 0 [] p).2)).2.f (hY 1 1 (eD (aL n) (cF n (aL n) FM 0 [] p).1 (cF n (aL n) FM 0 [] p).2)).2 (λx a=>by rw[cf] at a;exact b.2 x a);rw[cf] at c|-;exact(e.M (Lo 1 1 _) (ak _)).M c Y
 exact⟨by assumption,b.1,d,b.2,g,g.M (Tj (aL n) n.o 0 _) (om h.fo.o),ada h.fo h.ord f FM⟩
variable {g:AV->HN->Prop}{d:HN}{z:L AV}{k:Nat}
def M8{b:ES}(h:dN hX b k)(a:k<=800000000000):qe b:=
 ⟨bC h.V (by show 0+k<=_;omega),bC h.me (by show 0+k<=_;omega),bC h.co (by show 0+k<=_;omega),bC h.cd (by show 0+k<=_;omega),bC h.lo (by show 0+k<=_;omega),bC h.la (by show 0+k<=_;omega),bC h.fi (by show 0+k<=_;omega)⟩
def WQ{t:Tm}(h:Pn n t):PT n t:=⟨h.1,h.2.1,h.2.2.1⟩
def PL{n:Nd}{b:S->Nat}:∀(r:L S) (a:ES) (k:Nat),(∀s∈r,Pn n (dB n s))->dN hX a k->k+2401*N r<=800000000000->ED n b r a
 |[],_,_,_,_,_=>trivial
 |s::r,a,k,c,f,d=>by
  rw[bt] at d;have d:=c s gN;have e:=d.2.2.2.1;have e:=f.M ((DF n b (dB n s) a).mono (j:=2400) Y) (ak _);have f:=e.M (wL (.o ⟨1,b s,(bu n b (dB n s) a).1,0⟩) (bu n b (dB n s) a).2 (k:=1) (ak _)) (ak _);exact⟨WQ d,M8 e Y,λ_=>PL r _ _ (λt a=>c t (li _ a)) f Y⟩
def ah7(h:OV n p):OW n FM p:=
 ⟨M8 h.rem Y,h.late,λx a=>WQ (h.pn x a),λx a=>bC (h.ck x a) Y,λx a=>bC (h.fi x a) Y,M8 h.out Y,λi a b=>by
  obtain⟨k,c,rfl⟩:=gB a;have a:=(h.tg k _ (bM c) b).2;have b:=h.out.cd;have c:N hX.j=0:=R;omega⟩
def ac4{o:L S}(h:B7 n o)(r:dL (λc=>c<d.h) d n z)(k:qm n FM=none->∀a,ai d.h d a->g (.t [.g [.e,.e,.e,.e,.e,.e],II 2]) a)
  (l:∀p,qm n FM=some p->∀b c e f i j a,cD 1 a b (N p.ins) (p.ins.map iv)->cD 1 a c (N p.o) (p.o.map iv)->cD 1 a e (N p.an) (p.an.map iv)->cD 1 a f (N p.y) (p.y.map iv)->cD 1 a i (N p.s) (p.s.map iv)->aK 4 a j (p.j.map aQ.cells)->ai d.h d a->g (.t [.g [b,c,e,f,i,j],II 0]) a):
   ∃b a,aq Tryz.prog 41 [z] d b a/\g b a:=by
 have a:(gR n).getD []=o:=by rw[h.ord];rfl
 have b:=h.all;have b:=h.ol;refine ac1 r h.ok Y h.ck ?_ h.sg (by rw[a];omega) (f:=FM) (λb b=>?_) k l
 .rw[a];exact PL o (eW n) _ h.pn (Td n) Y
 .rw[a] at b;exact ah7 (ah6 h b)
variable {x y:AV}{h i:Nat}
def ce.JL{a:Nat}{l:L AV}(c:ce h d x l)(b:a<=h):ce a d x l:=c.imp id λ⟨b,e,a⟩=>⟨b,Y,a⟩
def XM{w k:Nat}{l m:L AV}(j:ce h d x l)(e:ce k d y m)(a:(N l+N m)*w<=140737488355328)(n:h<=d.h):
  ∃k f,gj 1 w x y d=.ok k f/\ce h f k (l++m)/\d.h<=f.h/\∀b,b<d.h->¬ar x b->f.f b=d.f b:=by
 by_cases i:m=[]
 .subst i;have e:y=.e:=by
   rcases e with⟨g,_⟩|⟨_,_,_,_,g,_⟩
   .exact g
   .exact absurd R g
  subst e;refine⟨x,d,?_,by rw[eB];exact j,ak _,λ_ _ _=>R⟩;rw[Pr];rcases j with⟨rfl,rfl⟩|⟨c,_,_,rfl,_,_⟩
  .rfl
  .have a:(N l+0)*w<=140737488355328:=a;rw[Pq,ae a,ae R]
 .have t:=zP.2 i;obtain⟨c,g,p,rfl,-,r⟩:=e.resolve_left λg=>i g.2;obtain⟨f,e,o,k,k⟩:=oS (s:=1) (w:=w) (f:=h) (m:=N m) (k:=m) (by decide) j.own (.inr ⟨c,0,_,false,_,R,r,p,by omega,by omega,by rw[ng,zW,hU]⟩) t a n;refine⟨_,f,e,.inr ⟨d.h,n,by omega,by rw[ay],by simp[i],?_⟩,by omega,k⟩;obtain⟨_,⟨q,_⟩|⟨b,a,a,⟨q,g,_⟩|⟨q,s⟩⟩⟩:=o
  .cases q
  .omega
  .cases q;exact s
def afT{c:L Tr}(h:i<N c):N (dw (c.take i))+N (eS c[i])<=N (dw c):=by
 have d:∀(a b:L Tr),dw (a++b)=dw a++dw b:=by
  intro a b
  induction a with
  |nil=>rw[dH,show dw []=[] by unfold dw;rfl,dH]
  |cons x a b=>
   rw[fc]
   conv=>lhs;unfold dw
   conv=>rhs;enter [1];unfold dw
   rw[b,dC]
 have e:=dv dw (mH (i+1) c);rw[d,LA h] at e;rw[<-e,ay,ay];omega
def afM:∀(e:Tr),bO e->N (eS e)<=4294967296->∀(l:HN) (d:L AV) (Q:AV->HN->Prop),bn tt l e d->(∀y b,ce l.h b y (ci (eS e))->ai l.h l b->Q y b)->∃a b,aq Tryz.prog 101 [d] l a b/\Q a b:=by
 refine Tr.E λf j g a o B=>?_;intro h c l d Q d k;unfold bO at h;let⟨_,i,s⟩:=h;have s:=(mw _).1 s;unfold bn at d;obtain⟨y,rfl,-,h,O,C⟩:=d;have d:=(kI C).1;have H:=λb e w=>bI (e:=b) O d Y e w;refine c0 Tryz.func101 ?_;obtain⟨d,z⟩:∃d,d=l.X (LL [f,j,g,a,y]):=⟨_,R⟩;have E:ai l.h l d:=by rw[z];exact ap (.refl _ _)
 have v:d.f l.h=LL [f,j,g,a,y]:=by rw[z];exact ae R
 have a:d.h=l.h+1:=by rw[z];rfl
 have i:aI f.1 f.2 3 7496054=de (f=bR):=bz f bR;have r:aI f.1 f.2 4 1852139639=de (f=bB):=bz f bB;have y:aI f.1 f.2 5 435527247213=de (f=bD):=bz f bD;have D:aI f.1 f.2 3 6648432=de (f=eH):=bz f eH;have w:aI f.1 f.2 3 7955046=de (f=dk):=bz f dk;rw[TO] at c k;rw[ay] at c;let⟨K,b⟩:=jH λe u=>∃x,e 1=.p l.h 0/\e 3=x/\ce d.h u x (ci (pO f j))/\ai d.h d u;refine iB (M:=K) 3 _ _ _ ?_ ?_
 rotate_left
 .simp(disch:=omega)only[go_sem,sV];rw[<-z];let⟨n,t,a,c,g⟩:=si (w:=16) (h:=d.h) (d:=d.X (LL [j])) (x:=.e) (l:=[]) (v:=.s j.1 j.2) (i:=d.h) (c:=.k 1) (.inl dy) (ae R) (bJ _) dc (iC _);have h:n.h=d.h+2:=c;have p:ai d.h d n:=⟨Y,λc q=>(g c (BY q) (λh=>h)).t (ac Y)⟩;have m:f=bR\/f=bB\/f=bD->pO f j=[j]:=λg=>ae g;have a:ce d.h n (.a (d.h+1) 0 1 (.B 1)) (ci [j]):=a;by_cases n:f=bR
  .rw[m (.inl n)] at b;rw[aB n] at i;refine S3 v i t ?_;exact(b _ _).2 ⟨_,R,R,a,p⟩
  rw[aA n] at i;by_cases q2:f=bB
  .rw[m (.inr (.inl q2))] at b;rw[aB q2] at r;refine S4 v i r t ?_;exact(b _ _).2 ⟨_,R,R,a,p⟩
  rw[aA q2] at r;by_cases n:f=bD
  .rw[m (.inr (.inr n))] at b;rw[aB n] at y;refine S5 v i r y t ?_;exact(b _ _).2 ⟨_,R,R,a,p⟩
  rw[aA n] at y;have a:pO f j=[]:=ac (by rintro(g|g|g)<;>contradiction);rw[a] at b;refine S4 v i r y ?_;exact(b _ _).2 ⟨_,R,R,.inl dy,.refl _ _⟩
 .intro e u a;let⟨x,p,t,rx,n⟩:=(b _ _).1 a;clear a b z i r y;have z:=n.1;have r:=(n.2 _ (by omega:l.h<d.h)).t v;simp(disch:=omega)only[lT,lU];by_cases b:f=eH
  .rw[aB b] at D;have i:pO f j=[]:=ac (by rw[b];decide);have a:oY f o=[]:=ae b;rw[i,a,show dw []=[] by unfold dw;rfl] at k;refine S3 p r D ?_;exact k _ _ (.inl dy) (aM E n)
  rw[aA b] at D;have a:oY f o=if f=dk then o.take 1 else o:=ac b
  generalize b:oY f o=KS at*;have b:N KS<=N o:=by rw[a];split;exact List.length_take_le' ..;exact ak _
  have K:∀i (h:i<N KS),KS[i]=o[i]'Y:=λi h=>by
   by_cases g:f=dk
   .simp only[a,ae g,Eo]
   .simp only[a,ac g]
  refine S3 p r D ?_;let⟨I,F⟩:=inv λm e b=>∃(i:Nat) (h:AV),m=N o-i/\i<=N KS/\(e 1=.p l.h 0/\e 3=h/\e 4=II i)/\ce d.h b h (ci (pO f j++dw (KS.take i)))/\ai d.h d b;refine aT I (N o) ((F _ _ _).2 ⟨0,x,R,aJ _,⟨dx p,dx t,R⟩,by rw[gO,show dw []=[] by unfold dw;rfl,eB];exact rx,n⟩) ?_;clear p t rx n z r;intro m e u b;let⟨i,x,e,b,⟨p,t,y⟩,rx,n⟩:=(F _ _ _).1 b;have z:=n.1;have r:=(n.2 _ (by omega:l.h<d.h)).t v;by_cases e:i<N KS
  .have h:i<N o:=Y;let⟨z,D⟩:=pf C i h;obtain⟨b,off,cap,l,row,rfl,v,m,l,l⟩:=O.at z;have z:u.f b=_:=(n.2 b Y).t (E.2 b m|>.t v);have I:=rp D (aM E n);have b:=afT e;have C:=LA e;have b:=K i e;let⟨_,f2,f3,f4,f5,m⟩:=cJ D;rw[m] at l I;have m:=s _ (aU h);have B:=B _ (aU h) m;rw[<-b] at B I;by_cases v:f=dk
   .rw[aB v] at w;rw[ae v] at a;have b:i=0:=by rw[a,dW] at e;omega
    have K:de (i=1)=false:=aA Y;simp(disch:=omega)only[go_sem,p,t,y,r,H,w,K,z,l];refine al (B Y u _ _ I λy5 s W h=>?_);have V:=h.1;have b:=aM n h;let⟨x6,Z,O,D,n6,U⟩:=XM (w:=16) (rx.aR (e:=s) V λc _ P _=>h.2 c P) W (by rw[fI,fI,ay];omega) Y;have m:∀c,ar x c->d.h<=c:=λc q=>(rx.bT q).1;rw[show ci (pO f j++dw (List.take i KS))++ci (eS KS[i])=ci (pO f j++dw (List.take (i+1) KS)) by rw[C,<-dC];exact List.map_append.s] at D;refine S2 y O ?_;exact⟨N o-(i+1),Y,(F _ _ _).2 ⟨i+1,_,R,e,⟨dx p,R,R⟩,D,⟨Y,λc q=>(U c Y (λg=>om (m c g))).t (b.2 c q)⟩⟩⟩
   .rw[aA v] at w;refine S8 p t y r H w z l ?_;refine al (B Y u _ _ I λy5 s W h=>?_);have V:=h.1;have b:=aM n h;let⟨x6,Z,O,D,n6,U⟩:=XM (w:=16) (rx.aR (e:=s) V λc _ P _=>h.2 c P) W (by rw[fI,fI,ay];omega) Y;have m:∀c,ar x c->d.h<=c:=λc q=>(rx.bT q).1;rw[show ci (pO f j++dw (List.take i KS))++ci (eS KS[i])=ci (pO f j++dw (List.take (i+1) KS)) by rw[C,<-dC];exact List.map_append.s] at D;refine S2 y O ?_;exact⟨N o-(i+1),Y,(F _ _ _).2 ⟨i+1,_,R,e,⟨dx p,R,R⟩,D,⟨Y,λc q=>(U c Y (λg=>om (m c g))).t (b.2 c q)⟩⟩⟩
  .have b:KS.take i=KS:=iM Y;rw[b] at rx;by_cases b:i<N o
   .have v:f=dk:=by
     by_cases g:f=dk
     .exact g
     .rw[ac g] at a;rw[a] at e;omega
    rw[aB v] at w;rw[ae v] at a;have b:i=1:=by
     have:N KS=min 1 (N o):=by rw[a,dW]
     omega
    have K:de (i=1)=true:=aB b;refine S7 p t y r H w K ?_;exact k _ _ (rx.JL Y) (aM E n)
   .refine S5 p t y r H ?_;exact k _ _ (rx.JL Y) (aM E n)
def adl(r:dL tt d n z)(ok:eG n)(s:S)(I:(n.r.any λq=>decide (q.n=s))=true)(k:∀f nm Uu a,bn tt f (jE n s) Uu->ai d.h d f->g (.t [.g ([sV nm]++Uu++[.i .i64 a]),.l true]) f):∃a f,aq Tryz.prog 65 [.g z,.s s.1 s.2] d a f/\g a f:=by
 obtain⟨m,t,u,v,rfl,-,-,-,-,a,r4,r5⟩:=r;have a:=ok.2.2.2.2.1;have lq:=(lS r5).1;refine c0 Tryz.func65 ?_;have a:sV n.n=.s n.n.1 n.n.2:=R;have ln:=λf e w=>bI (e:=f) r4 lq Y e w;have E:ai d.h d ((d.X (.E false [.s n.n.1 n.n.2,m,t,u,v,.i .i64 n.a])).X (.E false [.s 0 0,.s 0 0,.s 0 0,.i .i64 0,.i .i64 0,.e,.i .i64 0])):=ap (ap (.refl _ _));have c0:((d.X (.E false [.s n.n.1 n.n.2,m,t,u,v,.i .i64 n.a])).X (.E false [.s 0 0,.s 0 0,.s 0 0,.i .i64 0,.i .i64 0,.e,.i .i64 0])).f d.h=.E false [.s n.n.1 n.n.2,m,t,u,v,.i .i64 n.a]:=(ac (by show¬d.h=d.h+1;omega)).t (ae R);have c1:((d.X (.E false [.s n.n.1 n.n.2,m,t,u,v,.i .i64 n.a])).X (.E false [.s 0 0,.s 0 0,.s 0 0,.i .i64 0,.i .i64 0,.e,.i .i64 0])).f (d.h+1)=.E false [.s 0 0,.s 0 0,.s 0 0,.i .i64 0,.i .i64 0,.e,.i .i64 0]:=ae R;refine S1 a ?_;generalize (d.X (.E false [.s n.n.1 n.n.2,m,t,u,v,.i .i64 n.a])).X (.E false [.s 0 0,.s 0 0,.s 0 0,.i .i64 0,.i .i64 0,.e,.i .i64 0])=Z at*;have eE:∀q,n.r.find? (λq=>decide (q.n=s))=some q->jE n s=q.e:=λq h=>by unfold jE;rw[h]
 obtain⟨a,K⟩:∃q,n.r.find? (λq=>decide (q.n=s))=some q:=by
  let⟨q,a,f⟩:=BM.1 I;exact xK.1 (vM.2 ⟨q,a,f⟩)
 generalize hp:(λq:aX=>decide (q.n=s))=p at*;generalize n.r=V at*;let⟨I,B⟩:=inv λm a W=>∃i,m=N V-i/\i<=N V/\(a 1=.s s.1 s.2/\a 2=.p d.h 0/\a 4=.p (d.h+1) 0/\a 6=.i .i64 i)/\W=Z/\(V.drop i).find? p=V.find? p;refine aT I (N V) ((B _ _ _).2 ⟨0,R,aJ _,dy,R,R⟩) ?_;intro m a W hi;obtain⟨i,a,hi,⟨O,P,p4,p6⟩,rfl,j⟩:=(B _ _ _).1 hi;by_cases l:i<N V
 .let⟨F,ri⟩:=sh r5 i l;obtain⟨b,off,cap,a,row,rfl,D,C,a,c⟩:=r4.at F;have o:W.f b=_:=(E.2 _ C).t D;have H:=E.1;rw[eJ l] at j;generalize V[i]=w at*;let⟨Uu,y,re⟩:=ri;obtain⟨x,f2,f3,f4,f5,rfl⟩:=cJ re;rw[y] at c;have c:(row.drop (off+i*7)).take 7=[.s w.n.1 w.n.2,.s x.1 x.2,.s f2.1 f2.2,.i .i64 f3,.i .i64 f4,f5,.i .i64 w.a]:=c;have f:row.getD (off+i*7) bp=.s w.n.1 w.n.2:=(pH c dc).t R;have b:=bz w.n s;have a:p w=de (w.n=s):=by rw[<-hp]
  by_cases e:w.n=s
  .rw[aB e] at b a;rw[En a] at j;have m:=eE w j.s;simp(disch:=omega)only[go_sem,O,P,p4,p6,c0,c1,ln,o,f,b,c,bF];refine k _ w.n [.s x.1 x.2,.s f2.1 f2.2,.i .i64 f3,.i .i64 f4,f5] w.a ?_ (cO E Y);rw[m];refine gq (U:=d) (λc m m=>?_) ?_ (λ_ h=>h) _ _ re
   .exact(ac Y).t (E.2 c m)
   .exact H
  .rw[aA e] at b a;rw[zO (by rw[a];decide)] at j;refine S8 O P p6 c0 ln o f b ?_;exact⟨N V-(i+1),Y,(B _ _ _).2 ⟨i+1,R,l,⟨dx O,dx P,dx p4,R⟩,R,j⟩⟩
 .obtain rfl:i=N V:=Y;rw[fQ,K] at j;cases j
def ade(a:eG n)(s:S):bO (jE n s):=by
 unfold jE;split
 .rename_i q h;exact(a.2.2.2.2.2 q (pY h)).2
 .exact GX
end
section
variable {l:L Nd}{n:Nd}
def jY(a:L S):L S->L S
 |[]=>a
 |m::b=>jY (if a.contains m then a else a++[m]) b
def qT(n:Nd):Nat->Nat->L S->L S
 |0,_,seen=>seen
 |f+1,i,seen=>match seen[i]? with
  |none=>seen
  |some x=>qT n f (i+1) (jY seen (mo n x))
def tK(n:Nd)(s:S):L S:=qT n (N (aE n)+1) 0 (mo n s)
def qR(n:Nd):L aX->Bd->Bd
 |[],b=>b
 |q::r,b=>qR n r (dI ((tK n q.n).contains q.n) 12 q.a b)
def wm:L Nd->Bd->Bd
 |[],b=>b
 |n::r,b=>wm r (qR n n.r b)
def og(l:L Nd):Bd:=wm l (0,0)
def Cj:∀(b a:L S) {z:S},z∈jY a b↔z∈a\/z∈b
 |[],a,z=>by unfold jY;simp
 |m::b,a,z=>by
  unfold jY;rw[Cj b];grind
def Pd:∀(b a:L S),∃r,jY a b=a++r
 |[],a=>⟨[],by unfold jY;simp⟩
 |m::b,a=>by
  unfold jY;obtain A:=Pd b (if a.contains m then a else a++[m]);grind
def EU:∀(b a:L S),a.Nodup->(jY a b).Nodup
 |[],a,h=>A
 |m::b,a,h=>by
  unfold jY;refine EU b _ ?_;grind
def Gz{s z:S}(h:z∈mo n s):z∈aE n:=by
 unfold mo at h;grind
def Tc(a:(aE n).Nodup)(s:S):(mo n s).Nodup:=by
 unfold mo;grind
def Gy{s z:S}(a:s∈aE n):z∈mo n s↔z∈fA n s:=by
 rw[GD];unfold mo;grind
def Qs{n:Nd}{s:S}(p:(aE n).Nodup)(o:s∈aE n):∀(f i:Nat) (a:L S),N (aE n)<f+i->i<=N a->a.Nodup->(∀z∈a,z∈aE n/\jO (fA n) s z)->(∀z∈fA n s,z∈a)->(∀j (l:j<N a),j<i->∀z∈fA n a[j],z∈a)->
  (∀z∈qT n f i a,jO (fA n) s z)/\(∀z∈fA n s,z∈qT n f i a)/\∀y∈qT n f i a,∀z∈fA n y,z∈qT n f i a
 |0,i,a,h,k,d,c,e,g=>by
  have:=wM d λz b=>(c z b).1
  omega
 |f+1,i,a,h,k,d,c,e,g=>by
  unfold qT;by_cases q:i<N a
  .rw[bM q];dsimp only;let⟨r,k⟩:=Pd (mo n a[i]) a;have h:=(c _ (aU q)).1;have m:=(c _ (aU q)).2;refine Qs p o f (i+1) _ Y J (EU _ _ d) (λz b=>?_) J (λj l c z b=>?_)
   .rcases(Cj _ _).1 b with g|g
    .grind
    .exact⟨Gz g,.step m ((Gy h).1 g)⟩
   .by_cases c:j<i
    .grind
    .obtain rfl:j=i:=Y;have c:(jY a (mo n a[j]))[j]=a[j]:=by
      simp only[k,Is q]
     rw[c] at b;exact(Cj _ _).2 (.inr ((Gy h).2 b))
  .rw[rC (by omega)];dsimp only;refine⟨J,e,λy a z b=>?_⟩;obtain A:=gB a;grind
def Qr(a:(aE n).Nodup){s:S}(b:s∈aE n){z:S}:z∈tK n s↔jO (fA n) s z:=by
 let⟨c,d,f⟩:=Qs a b (N (aE n)+1) 0 (mo n s) Y Y (Tc a s) (λz a=>⟨Gz a,.one ((Gy b).1 a)⟩) (λz a=>(Gy b).2 a) Y;refine⟨c z,λg=>?_⟩
 have:∀x z,jO (fA n) x z->x=s->z∈tK n s:=by
  intro x z g
  induction g with
  |one a=>intro e;subst e;exact d _ a
  |step _ a c=>intro e;exact f _ (c e) _ a
 grind
def P6{n:Nd}:∀(a:L aX) (b:Bd),(qR n a b).1=0↔b.1=0/\∀q∈a,q.n∉tK n q.n
 |[],b=>⟨λh=>⟨h,J⟩,λh=>h.1⟩
 |q::r,b=>by
  unfold qR;rw[P6 r];constructor
  .rintro⟨a,b⟩
   let⟨c,d⟩:=tP dc a;refine⟨d,λx hx=>?_⟩;rcases bY.1 hx with rfl|hx
   .intro g;rw[zM.2 g] at c;cases c
   .exact b x hx
  .rintro⟨a,b⟩
   have e:(tK n q.n).contains q.n=false:=by
    cases g:(tK n q.n).contains q.n with
    |false=>rfl
    |true=>grind
   rw[e];exact⟨a,J⟩
def P7:∀(l:L Nd) (b:Bd),(wm l b).1=0↔b.1=0/\∀n∈l,∀q∈n.r,q.n∉tK n q.n
 |[],b=>⟨λh=>⟨h,J⟩,λh=>h.1⟩
 |n::r,b=>by
  unfold wm;rw[P7 r,P6];grind
def abJ(h:∀n∈l,(aE n).Nodup/\∀q∈n.r,q.n∈aE n):(og l).1=0↔Cv l=none:=by
 unfold og;rw[P7,Jj];constructor
 .rintro⟨-,i⟩ n c
  let⟨d,j⟩:=h n c;refine Fl.2 λq e g=>?_;let⟨b,a,f⟩:=Ht (n:=n) (s:=q.n);rw[g] at a;exact i n c q e ((Qr d J).2 J)
 .intro i;refine⟨R,λn c q e g=>?_⟩;let⟨d,j⟩:=h n c;let⟨b,a,f⟩:=Ht (n:=n) (s:=q.n)
  have:=f.2 ((Qr d J).1 g)
  rw[this] at a;exact Fl.1 J q e a
variable {y:AV}{g:AV->HN->Prop}{d:HN}{z:L AV}{c:L aS}{h i:Nat}
def aio{i:AV}{m:L S}(k:ce h d y (ci m))(g:iZ d i c)(o:c≠[]):∀b,ar y b->¬ar i b:=by
 intro b l f;obtain⟨-,-,-,n⟩:=k.bT l;rcases g with⟨rfl,-⟩|⟨j,l,l,rfl,e⟩
 .exact f.elim
 .have f:j=b:=f;subst f;rw[n] at e;injection e with _ e
  match c,o with
  |x::c,_=>
   have e:ci m=.s x.1.1 x.1.2::.l x.2::(c.map cU).flatten:=e
   match m,e with
   |[],e=>cases e
   |[a],e=>injection e with _ e;cases e
   |a::b::m,e=>
    injection e with _ e
    injection e with e _
    cases e
def ad1(h:i<N c):((c.map cU).flatten).getD (i*2) bp=.s c[i].1.1 c[i].1.2:=by
 have b:∀l∈c.map cU,N l=2:=λl a=>by obtain⟨x,_,rfl⟩:=cN.1 a;rfl
 have a:=oV (s:=2) (c.map cU) i b (by rw[aC];exact h)
 have:=uP a 0 dc
 rw[nk,kM] at this;exact this
def Tb(r:dL tt d n z)(ok:eG n)(s:S){q:Nat}(hu:jW n q s []=some (aF n s))(hq:(n.r.any λq=>decide (q.n=s))=true)(b1:N (aF n s)<=1073741824)(q:N (eS (jE n s))<=1000)(k:∀y f,ce d.h f y (ci (mo n s))->ai d.h d f->g y f):∃q f,aq Tryz.prog 73 [z,s] d q f/\g q f:=by
 have r':=r;obtain⟨y1,y2,y3,y4,rfl,-,r1,-⟩:=r';refine c0 Tryz.func73 ?_;obtain⟨u,I⟩:∃u,u=d.X (LL [sV n.n,y1,y2,y3,y4,n.a]):=⟨_,R⟩;have E:ai d.h d u:=by rw[I];exact ap (.refl _ _)
 have c1:u.f d.h=LL [sV n.n,y1,y2,y3,y4,n.a]:=by rw[I];exact ae R
 have q:u.h=d.h+1:=by rw[I];rfl
 refine S0 ?_;rw[<-I];clear I;refine al (adl (ic r E) ok s hq λv nm q a re E2=>?_);have q:=E2.1;obtain⟨f1,f2,f3,f4,f5,rfl⟩:=cJ re;obtain⟨o,q⟩:∃o,o=v.X (LL [nm,f1,f2,f3,f4,f5,a]):=⟨_,R⟩;have E3:ai v.h v o:=by rw[q];exact ap (.refl _ _)
 have c3:o.f v.h=LL [nm,f1,f2,f3,f4,f5,a]:=by rw[q];exact ae R
 have a:o.h=v.h+1:=by rw[q];rfl
 simp(disch:=omega)only[go_sem,sV,fc,dH,bF,<-q,c3];clear q;have a:=gq (iS E3) E3.1 (λ_ h=>h) _ _ re;refine al (afM _ (ade ok s) Y o _ _ a λy4 a r4 a=>?_);have q:=a.1;have W:=aM (aM E2 E3) a;have q:=(W.2 _ (by omega:d.h<u.h)).t c1;have a:sV n.n=.s n.n.1 n.n.2:=R;rw[a] at q c1 r;refine S1 q ?_;refine al (CB (ic r (aM E W)) ok s hu b1 λy5 a9 k5 E5=>?_);have n5:=E5.1;generalize hC:aF n s=C at*;have lc:=λf e w=>Jn (e:=f) k5 Y e w;have a3:=aM W E5;have c5:=(a3.2 _ (by omega:d.h<u.h)).t c1;have r5:=r4.aR n5 λc _ F _=>E5.2 c F;generalize b0:eS (jE n s)=Mn at*;refine S0 ?_;let⟨J,hJ⟩:=inv λm K t=>∃(i:Nat) (y:AV),m=N C-i/\i<=N C/\(K 2=.p d.h 0/\K 7=y/\K 8=y5/\K 9=II i)/\ce o.h t y (ci (Mn++(C.take i).map Prod.fst))/\iZ t y5 C/\(C≠[]->∀b,ar y b->¬ar y5 b)/\(∀b,b<o.h->t.f b=a9.f b)/\a9.h<=t.h;refine aT J (N C) ((hJ _ _ _).2 ⟨0,y4,R,aJ _,dy,by rw[gO,oI,eB];exact r5,k5,λh=>aio r5 k5 h,λ_ _=>R,ak _⟩) ?_;intro m K t hj;let⟨i,y,b3,hi,⟨p2,p7,p8,p9⟩,ry,ky,a,ey,q⟩:=(hJ _ _ _).1 hj;by_cases j:i<N C
 .have a8:C≠[]:=λe=>by rw[e] at j;exact absurd j (nR _)
  have b2:=a a8;obtain⟨kb,cp,k1,rfl,k3⟩:=ky.resolve_left λO=>a8 O.2;have gk:=ad1 j;have k2:=k3;have a:N (C.map cU).flatten=N C*2:=by
   have c2:∀l∈C.map cU,N l=2:=λl hl=>by obtain⟨x,_,rfl⟩:=cN.1 hl;rfl
   have:=jZ (s:=2) (C.map cU) c2
   rw[aC] at this;exact this
  have a:N (ci (Mn++(C.take i).map Prod.fst))=N Mn+i:=by rw[fI,ay,aC,dW];omega
  let⟨Uu,e9,a2,n9,k9⟩:=si (w:=16) (i:=t.h) (c:=.k 1) (v:=.s C[i].1.1 C[i].1.2) (d:=t.X (LL [.s C[i].1.1 C[i].1.2])) (x:=y) (l:=ci (Mn++(C.take i).map Prod.fst)) (ry.aR (iC _) λb _ F _=>ac Y) (ae R) (bJ _) (by rw[a];omega) (by show o.h<=t.h+1;omega);have n9:Uu.h=t.h+1+1:=n9;have a:∀b,b<t.h->¬ar y b->Uu.f b=t.f b:=λb I F=>(k9 b (by show b<t.h+1;omega) F).t (ac Y);refine S7 p7 p8 p9 lc k2 gk e9 ?_;refine⟨N C-(i+1),Y,(hJ _ _ _).2 ⟨i+1,_,R,j,⟨dx p2,R,dx p8,R⟩,?_,?_,λ_ b I F=>?_,λb Z=>?_,Y⟩⟩
  .rw[dt j,cM,<-dC,iL,oI,<-xh];exact a2
  .exact .inr ⟨kb,cp,Y,R,(a kb k1 λh=>b2 kb h R).t k2⟩
  .have I:t.h+1=b:=I;have F:kb=b:=F;omega
  .refine(a b Y λh=>?_).t (ey b Z)
   have:=(ry.bT h).1
   omega
 .obtain rfl:i=N C:=Y;rw[hU] at ry;have cz:=(ey _ (by omega:d.h<o.h)).t c5;have xz:ai d.h d t:=⟨Y,λb Z=>(ey b Y).t ((aM E a3).2 b Z)⟩;refine S5 p2 p8 p9 lc cz ?_;refine al (Ic (ic r xz) ok λx D o Ev=>?_);have nv:=Ev.1;have a:aH 5 t.h D x (N ((am n).map Vr.cells)) ((am n).map Vr.cells).flatten:=by rw[jy];exact o
  have rx:=oz a (λl hl=>by obtain⟨v,_,rfl⟩:=cN.1 hl;rfl);let⟨_,a⟩:=Cm ok;have lx:=λf e w=>bI (e:=f) rx (jy _) Y e w;have a:=ok.2.1.1;have l1:=λf e w=>bI (e:=f) r1 (n:=N n.ins) (jy _) Y e w;have cv:=(Ev.2 _ (by omega:d.h<t.h)).t cz;generalize hM:Mn++C.map Prod.fst=M at*;have rv:=ry.aR nv λc _ F _=>Ev.2 c F;have a:N M<=1000+1073741824:=by rw[<-hM,ay,aC];omega
  have a7:N n.ins<=N (am n):=by unfold am;rw[ay];omega
  have a6:((((am n).take (N (am n))).drop (N n.ins)).map Vr.n).filter (λs=>M.contains s)=mo n s:=by
   have a:((am n).take (N (am n))).drop (N n.ins)=n.o++n.ao:=by
    rw[hU];unfold am;rw[List.drop_left]
   rw[a,<-hM];unfold mo aE;rw[b0,hC]
  simp(disch:=omega)only[go_sem,p2,cv,l1];generalize am n=V at*;let⟨I,hI⟩:=inv λm K a=>∃(i:Nat) (yl:AV),m=N V-i/\N n.ins<=i/\i<=N V/\(K 7=y/\K 10=yl/\K 11=x/\K 12=II i)/\ce D.h a yl (ci ((((V.take i).drop (N n.ins)).map Vr.n).filter λs=>M.contains s))/\(∀b,b<D.h->a.f b=D.f b)/\D.h<=a.h;have a:(((V.take (N n.ins)).drop (N n.ins)).map Vr.n).filter (λs=>M.contains s)=[]:=by
   rw[ZM (by rw[dW];omega)];rfl
  refine aT I (N V-N n.ins) ((hI _ _ _).2 ⟨N n.ins,.e,R,ak _,a7,⟨dx p7,R,R,R⟩,by rw[a];exact .inl dy,λ_ _=>R,ak _⟩) ?_;clear p2 p7 p8 p9 hj hJ;intro m K B hi;let⟨i,yl,b3,_,a,⟨p7,a1,H,P⟩,rl,el,nl⟩:=(hI _ _ _).1 hi;have b4:=rv.aR nl λc _ F _=>el c F;have b5:=rx.ext (f:=0) (e:=B) ⟨nl,el⟩;by_cases j:i<N V
  .obtain⟨a,a,a,a,a,rfl,a5,a,a0⟩:=pV b5 Y;let⟨_,a⟩:=a0 i j;have a4:=(pH a dc).t R;have p:(((V.take (i+1)).drop (N n.ins)).map Vr.n).filter (λs=>M.contains s)=(((V.take i).drop (N n.ins)).map Vr.n).filter (λs=>M.contains s)++if M.contains V[i].n then[V[i].n] else[]:=by
    rw[dt j,NW (by rw[dW];omega),cM,BO,iL,oI];congr 1;by_cases O:M.contains V[i].n=true
    .rw[Ip O,ae O];rfl
    .rw[Io O,ac O];rfl
   have a:N ((((V.take i).drop (N n.ins)).map Vr.n).filter λs=>M.contains s)<=N V:=by
    refine bC (Oc _ _) ?_;rw[aC,qH,dW];omega
   generalize a:(((V.take i).drop (N n.ins)).map Vr.n).filter (λs=>M.contains s)=Ls at*;generalize a:V[i].n=w at*;refine S6 p7 H P lx a5 a4 ?_;refine al (wD b4 Y w ?_);cases O:M.contains w with
   |false=>
    rw[O] at p;refine S1 P ?_;exact⟨N V-(i+1),Y,(hI _ _ _).2 ⟨i+1,yl,R,Y,j,⟨dx p7,dx a1,dx H,R⟩,by rw[p];simpa using rl,el,nl⟩⟩
   |true=>
    rw[O] at p;let⟨Uu,e9,a2,n9,k9⟩:=si (w:=16) (i:=B.h) (c:=.k 1) (v:=.s w.1 w.2) (d:=B.X (LL [w])) (x:=yl) (l:=ci Ls) (rl.aR (iC _) λb _ F _=>ac Y) (ae R) (bJ _) (by rw[fI];omega) (by show D.h<=B.h+1;omega);have n9:Uu.h=B.h+1+1:=n9;refine S6 a1 H P a5 a4 e9 ?_;refine⟨N V-(i+1),Y,(hI _ _ _).2 ⟨i+1,_,R,Y,j,⟨dx p7,R,dx H,R⟩,?_,λb Z=>?_,Y⟩⟩
    .rw[p,ae R,<-xh];exact a2
    .refine((k9 b (by show b<B.h+1;omega) λh=>?_).t (ac Y)).t (el b Z)
     have:=(rl.bT h).1
     omega
  .obtain rfl:i=N V:=Y;rw[a6] at rl;refine S4 a1 H P lx ?_;exact k _ _ (rl.JL Y) ⟨Y,λb Z=>(el b Y).t ((Ev.2 b Y).t (xz.2 b Z))⟩
end
section
variable {x:AV}{t:HN}
def KN{q:Prop}(e:q:=by exact⟨N ks-(i+1),Y,(hI _ _ _).2 ⟨i+1,_,R,hlt,⟨dx p0,dx p2,dx p4,by first|rfl|exact p7,R⟩,X,nz,c1,hbd⟩⟩):q:=e
def KL{q:Prop}(e:q:=by
 cases bad with
 |true=>
  refine S5 p4 p7 p8 c1 l3 ?_;exact KN
 |false=>
  refine S8 p2 p4 p7 p8 c1 l3 hbz hrow ?_;refine al (Lm hm rz ks[i] (hks _ (aU hlt)) Z _ _ (.refl _ _) (gq (iS xz) xz.1 (λ_ h=>h) _ _ ri) λbl Z2 E2=>?_);have n2:=E2.1;refine S1 p8 ?_;exact⟨N ks-(i+1),Y,(hI _ _ _).2 ⟨i+1,bl,R,hlt,⟨dx p0,dx p2,dx p4,R,R⟩,X.of E2,Y,(E2.2 _ nz).trans c1,(E2.2 _ Y).trans hbd⟩⟩):q:=e
def KH{q:Prop}(e:q:=by
 refine S5 p2 p4 p6 c1 l3 ?_;refine al (wD rz hm nm ?_);refine S0 ?_;exact(hM _ _).2 ⟨_,_,⟨dx p0,dx p2,dx p4,R⟩,X,nz,c1,hb',hbd⟩):q:=e
def aeA{D:Nat}{m:L S}(hm:N m<=1099511627776){f:Nat}(P:t.h<=f)(a:f<D):∀(e:Tr),bO e->∀(d:HN) (j:L AV) (b:Bd) (Q:AV->HN->Prop),ai t.h t d->ce D d x (ci m)->f<d.h->cG d f b->b.1<=100->bn tt t e j->
  (∀c n,ax f d c->n.1<=100->cG c f n->Q (.t []) c)->∃a c,aq Tryz.prog 71 [.p f 0,j,x] d a c/\Q a c:=by
 refine Tr.E λg nm v a ks ih=>?_;intro l d j b Q x0 r z W H j k;unfold bO at l;let⟨_,o,hks⟩:=l;have hks:=(mw _).1 hks;unfold bn at j;obtain⟨y,rfl,-,l,O,s⟩:=j;have j:=(kI s).1;have l3:=λc e w=>bI (e:=c) O j Y e w;refine c0 Tryz.func71 ?_;let⟨M,hM⟩:=jH λe Z=>∃o l,(e 0=.p f 0/\e 2=x/\e 4=.p d.h 0/\e 7=.l o)/\ax f d Z/\d.h<Z.h/\Z.f d.h=LL [g,nm,v,a,y]/\l.1<=100/\cG Z f l;refine iB (M:=M) 3 _ _ _ ?_ ?_
 .intro e Z c;let⟨o,l,⟨p0,p2,p4,p7⟩,X,nz,c1,K,hbd⟩:=(hM _ _).1 c;clear hM c;refine S0 ?_;let⟨I,hI⟩:=inv λj e Z=>∃i bad,j=N ks-i/\i<=N ks/\(e 0=.p f 0/\e 2=x/\e 4=.p d.h 0/\e 7=.l bad/\e 8=II i)/\ax f d Z/\d.h<Z.h/\Z.f d.h=LL [g,nm,v,a,y]/\cG Z f l;refine aT I (N ks) ((hI _ _ _).2 ⟨0,o,R,aJ _,⟨dx p0,dx p2,dx p4,dx p7,R⟩,X,nz,c1,hbd⟩) ?_;clear p0 p2 p4 p7 X nz c1 hbd;intro j e Z B;let⟨i,bad,Zz,B,⟨p0,p2,p4,p7,p8⟩,X,nz,c1,hbd⟩:=(hI _ _ _).1 B;have xz:=jF x0 P X;by_cases hlt:i<N ks
  .let⟨q,ri⟩:=pf s i hlt;obtain⟨w,off,cap,ro,row,rfl,p,o,C,hrow⟩:=O.at q;have hbz:Z.f w=_:=(xz.2 w o).t p;let⟨V,f2,f3,f4,f5,F⟩:=cJ ri;rw[F] at hrow ri;have rz:ce D Z x (ci m):=r.aR X.1 λb l u _=>X.2 b u Y;refine S4 p4 p8 c1 l3 ?_;cases aI g.1 g.2 3 6648432 with
   |true=>exact KL
   |false=>
   refine S4 p4 p8 c1 l3 ?_;cases aI g.1 g.2 3 7955046 with
   |true=>exact KL
   |false=>
   refine S4 p4 p8 c1 l3 ?_;cases aI g.1 g.2 5 435527247213 with
   |true=>exact KL
   |false=>
   refine S4 p4 p8 c1 l3 ?_;cases aI g.1 g.2 4 1819042147 with
   |true=>exact KL
   |false=>
   refine S4 p4 p8 c1 l3 ?_;cases aI g.1 g.2 2 15917 with
   |false=>
    refine S4 p4 p8 c1 l3 ?_;exact KN
   |true=>
    by_cases U:i=0
    .have c:de (i=0)=true:=aB U;cases bad with
     |true=>
      refine S5 p4 p7 p8 c1 l3 ?_;exact KN
     |false=>
      simp(disch:=omega)only[go_sem,p2,p4,p7,p8,c1,l3,c,hbz,hrow];refine al (Lm hm rz ks[i] (hks _ (aU hlt)) Z _ _ (.refl _ _) (gq (iS xz) xz.1 (λ_ h=>h) _ _ ri) λbl Z2 E2=>?_);have n2:=E2.1;refine S1 p8 ?_;exact⟨N ks-(i+1),Y,(hI _ _ _).2 ⟨i+1,bl,R,hlt,⟨dx p0,dx p2,dx p4,R,R⟩,X.of E2,Y,(E2.2 _ nz).t c1,(E2.2 _ Y).t hbd⟩⟩
    .have c:de (i=0)=false:=aA U;cases bad<;>refine S6 p4 p7 p8 c1 l3 c ?_<;>exact KN
  .obtain rfl:i=N ks:=Y;cases bad with
   |false=>
    refine S5 p4 p7 p8 c1 l3 ?_;exact k _ _ X K hbd
   |true=>
    refine S6 p0 p4 p7 p8 c1 l3 ?_;refine al (jS hbd Y λZ2 c K U=>?_);refine S0 ?_;exact k _ _ ⟨om X.1,λc l u=>(U c u).t (X.2 c l u)⟩ (by unfold kV;grind) K
 .obtain⟨c,l⟩:∃c,c=d.X (LL [g,nm,v,a,y]):=⟨_,R⟩;have E:ai d.h d c:=by rw[l];exact ap (.refl _ _)
  have c1:c.f d.h=LL [g,nm,v,a,y]:=by rw[l];exact ae R
  have k:c.h=d.h+1:=by rw[l];rfl
  have k:cG c f b:=(E.2 _ z).t W;have X:ax f d c:=CL f E;simp(disch:=omega)only[go_sem,sV];rw[<-l];clear l;let⟨I,hI⟩:=inv λj e Z=>∃i n,j=N ks-i/\i<=N ks/\(e 0=.p f 0/\e 2=x/\e 4=.p d.h 0/\e 6=II i)/\ax f d Z/\d.h<Z.h/\Z.f d.h=LL [g,nm,v,a,y]/\cG Z f n/\n.1<=100;refine aT I (N ks) ((hI _ _ _).2 ⟨0,b,R,aJ _,dy,X,Y,c1,k,H⟩) ?_;clear X c1 k;intro j e Z B;let⟨i,n,Zz,B,⟨p0,p2,p4,p6⟩,X,nz,c1,hbd,hb'⟩:=(hI _ _ _).1 B;have xz:=jF x0 P X;have rz:ce D Z x (ci m):=r.aR X.1 λb l u _=>X.2 b u Y;by_cases hlt:i<N ks
  .let⟨q,ri⟩:=pf s i hlt;obtain⟨w,off,cap,ro,row,rfl,p,o,C,hrow⟩:=O.at q;have hbz:Z.f w=_:=(xz.2 w o).t p;let⟨V,f2,f3,f4,f5,F⟩:=cJ ri;rw[F] at hrow ri;refine S8 p0 p2 p4 p6 c1 l3 hbz hrow ?_;refine al (ih _ (aU hlt) (hks _ (aU hlt)) Z _ n _ xz rz (cW z X.1) hbd hb' ri λZ2 a b c a=>?_);have n2:=b.1;refine S1 p6 ?_;exact⟨N ks-(i+1),Y,(hI _ _ _).2 ⟨i+1,_,R,hlt,⟨dx p0,dx p2,dx p4,R⟩,X.M b,Y,(b.2 _ Y Y).t c1,a,c⟩⟩
  .obtain rfl:i=N ks:=Y;refine S4 p4 p6 c1 l3 ?_;cases aI g.1 g.2 4 1852139639 with
   |true=>exact KH
   |false=>
   refine S4 p4 p6 c1 l3 ?_;cases aI g.1 g.2 5 435527247213 with
   |true=>exact KH
   |false=>
   refine S4 p4 p6 c1 l3 ?_;exact(hM _ _).2 ⟨_,_,⟨dx p0,dx p2,dx p4,R⟩,X,nz,c1,hb',hbd⟩
variable {g:AV->HN->Prop}{d:HN}{m:L (L AV)}{l:L Nd}
attribute [-go_sem] wp_block in
def aeB{v:AV}(ok:ow l)(rv:aK 6 d v m)(rl:fZ tt d l m)
  (k:∀(b:Bd) n,ai d.h d n->b.1<=100->g (.g [b.1,b.2]) n):∃I n,aq Tryz.prog 37 [v] d I n/\g I n:=by
 let⟨I,h3⟩:=ok;let⟨I,h9⟩:=pm rl;refine cf Wg Tryz.func37 ?_;have ln:=λn e w=>bI (e:=n) rv I Y e w;have E0:ai d.h d ((d.X (LL [II 0,II 0])).X (LL [II 0,II 0])):=ap (ap (.refl _ _));have c0:((d.X (LL [II 0,II 0])).X (LL [II 0,II 0])).f d.h=LL [II 0,II 0]:=(ac (by show¬d.h=d.h+1;omega)).t (ae R);have c1:cG ((d.X (LL [II 0,II 0])).X (LL [II 0,II 0])) (d.h+1) (0,0):=ae R;have I:((d.X (LL [II 0,II 0])).X (LL [II 0,II 0])).h=d.h+2:=R;refine S0 ?_;generalize (d.X (LL [II 0,II 0])).X (LL [II 0,II 0])=e8 at*;obtain⟨B,I⟩:∃B,B=d.h+1:=⟨_,R⟩;rw[<-I] at c1|-;let⟨I,hI⟩:=inv λc2 a V=>∃i b,c2=N l-i/\i<=N l/\(a 0=v/\a 2=.p d.h 0/\a 3=.p B 0/\a 4=II i)/\ax B e8 V/\cG V B b/\b.1<=100;refine aT I (N l) ((hI _ _ _).2 ⟨0,(0,0),R,aJ _,dy,.refl _ _,c1,aJ _⟩) ?_;clear c1;intro c2 a V I;let⟨i,b,hm,I,⟨u,z,r,y⟩,X,e0,c6⟩:=(hI _ _ _).1 I;have I:=X.1;have xz:ai d.h d V:=jF E0 Y X;by_cases b9:i<N l
 .let⟨h0,ri⟩:=ph rl i b9;obtain⟨b',off,cap,I,row,rfl,g8,g6,I,b1⟩:=rv.at h0;have g9:V.f b'=_:=(xz.2 b' g6).t g8;have C:=h3 _ (aU b9);generalize I:l[i]=f at*;generalize I:m[i]=zd at*;have h6:=ri;obtain⟨y1,y2,y3,y4,rfl,-,I,r2,r3,I,r4,r5⟩:=h6;have I:sV f.n=.s f.n.1 f.n.2:=R;rw[I] at ri b1;have I:=(lS r5).1;have l4:=λn e w=>bI (e:=n) r4 I (om C.2.2.2.2.1) e w;obtain⟨p,I⟩:∃p,p=V.X (LL [f.n,y1,y2,y3,y4,f.a]):=⟨_,R⟩;have X1:ax B e8 p:=by rw[I];exact X.X
  have cn:p.f V.h=LL [f.n,y1,y2,y3,y4,f.a]:=by rw[I];exact ae R
  have n1:p.h=V.h+1:=by rw[I];rfl
  have e2:cG p B b:=by rw[I];exact(ac Y).t e0
  have x1:ai d.h d p:=jF E0 Y X1;simp(disch:=omega)only[go_sem,wp_block,u,y,ln,g9,b1,bF];rw[<-I];clear I;refine al (afb (ic ri x1) C λx c2 a9 rx I I=>?_);have nv:=I.1;have c5:=(I.2 _ Y).t cn;have e4:cG a9 B b:=(I.2 _ Y).t e2;have xv:ai d.h d a9:=aM x1 I;have XV:=X1.of I;have l1:=λn e w=>bI (e:=n) r2 (n:=N f.o) (jy _) (om C.2.2.1.1) e w;have l2:=λn e w=>bI (e:=n) r3 (n:=N f.ao) (jy _) (om C.2.2.2.1.1) e w;have e:=C.2.2.1.1;have e:=C.2.2.2.1.1;simp(disch:=omega)only[go_sem,wp_block];have e:=C.2.2.2.2.1;have g5:=C.2.2.2.2.2;generalize e:f.r=EQ at*;obtain⟨e,W⟩:∃J:Nat->FN->HN->Prop,∀m' a h,J m' a h↔∃D b6,m'=N EQ-D/\D<=N EQ/\(a 0=.a b' off (N m) cap/\a 2=.p d.h 0/\a 3=.p B 0/\a 4=II i/\a 5=.p V.h 0/\a 6=x/\a 7=II D)/\ax B a9 h/\cG h B b6/\b6.1<=100:=⟨_,λ_ _ _=>gZ⟩;refine aT e (N EQ) ((W _ _ _).2 ⟨0,b,R,aJ _,⟨dx u,dx z,dx r,dx y,R,R,R⟩,.refl _ _,e4,c6⟩) ?_;clear u z r y;intro m' a h e;let⟨D,b6,_,n,⟨u,z,r,y,o,K,O⟩,X6,b0,c9⟩:=(W _ _ _).1 e;have e:=X6.1;have c4:=(X6.2 _ Y Y).t c5;have x6:ai d.h d h:=jF xv Y X6;by_cases a1:D<N EQ
  .let⟨bq,_,_,_,_,ey,g7,e3,e⟩:=At r4 r5 Y;let⟨f1,f2,f3,f4,f5,n,g4,h5⟩:=e D a1;have h4:=g5 _ (aU a1);subst ey;have e9:h.f bq=_:=(x6.2 _ e3).t g7;generalize e:EQ[D]=q at*;obtain⟨e,n⟩:∃e,e=h.X (LL [q.n,f1,f2,f3,f4,f5,q.a]):=⟨_,R⟩;have C:ai h.h h e:=by rw[n];exact ap (.refl _ _)
   have c7:e.f h.h=LL [q.n,f1,f2,f3,f4,f5,q.a]:=by rw[n];exact ae R
   have w:e.h=h.h+1:=by rw[n];rfl
   have I:ce p.h e x (ci c2):=rx.aR Y λc h1 h2 _=>(C.2 c Y).t (X6.2 c h2 Y);have w:cG e B b6:=(C.2 _ Y).t b0;simp(disch:=omega)only[go_sem,wp_block,r,o,K,O,c4,l4,e9,g4,bF];rw[<-n];clear n;refine al (aeA (D:=p.h) (x:=x) (m:=c2) Y (f:=B) (t:=d) Y Y q.e h4.2 e _ b6 _ (aM x6 C) I Y w c9 h5 λe n n b8 Z=>?_);have w:=n.1;have U:ax B a9 e:=(X6.of C).M n;have x8:ai d.h d e:=jF xv Y U;have F:=(U.2 _ Y Y).t c5;have c8:=(n.2 _ Y Y).t c7;have h8:ce p.h e x (ci c2):=rx.aR Y λc h1 h2 _=>U.2 c h2 Y;simp(disch:=omega)only[go_sem,wp_block];obtain⟨n,a5⟩:∃J:Nat->FN->HN->Prop,∀m' a a4,J m' a a4↔∃j t,m'=N f.o-j/\j<=N f.o/\(a 0=.a b' off (N m) cap/\a 2=.p d.h 0/\a 3=.p B 0/\a 4=II i/\a 5=.p V.h 0/\a 6=x/\a 7=II D/\a 8=.p h.h 0/\a 9=.l t/\a 10=II j)/\a4=e:=⟨_,λ_ _ _=>gZ⟩;refine aT n (N f.o) ((a5 _ _ _).2 ⟨0,false,R,aJ _,⟨dx u,dx z,dx r,dx y,dx o,dx K,dx O,R,R,R⟩,R⟩) ?_;clear u z r y o K O;intro m' a P e5;obtain⟨j,t,e,e5,⟨u,z,r,y,o,K,O,p8,p9,a7⟩,rfl⟩:=(a5 _ _ _).1 e5;by_cases H:j<N f.o
   .obtain⟨bo,a2,c3,h7,a3,rfl,b5,a0,s⟩:=pV r2 Y;let⟨g0,b3⟩:=s j H;have b2:P.f bo=_:=(x8.2 _ a0).t b5;have b4:a3.getD (a2+j*5) bp=.s f.o[j].n.1 f.o[j].n.2:=(pH b3 dc).t R;have es:=bz f.o[j].n q.n;cases t with
    |true=>
     simp(disch:=omega)only[go_sem,wp_block,o,p9,a7,F,l1];exact⟨N f.o-(j+1),Y,(a5 _ _ _).2 ⟨j+1,true,R,H,⟨dx u,dx z,dx r,dx y,dx o,dx K,dx O,dx p8,R,R⟩,R⟩⟩
    |false=>
     simp(disch:=omega)only[go_sem,wp_block,o,p8,p9,a7,F,l1,c8,b2,b4,es];exact⟨N f.o-(j+1),Y,(a5 _ _ _).2 ⟨j+1,_,R,H,⟨dx u,dx z,dx r,dx y,dx o,dx K,dx O,dx p8,R,R⟩,R⟩⟩
   .obtain rfl:j=N f.o:=Y;simp(disch:=omega)only[go_sem,wp_block,o,a7,F,l1];obtain⟨e,a6⟩:∃J:Nat->FN->HN->Prop,∀m' a a4,J m' a a4↔∃j t',m'=N f.ao-j/\j<=N f.ao/\(a 0=.a b' off (N m) cap/\a 2=.p d.h 0/\a 3=.p B 0/\a 4=II i/\a 5=.p V.h 0/\a 6=x/\a 7=II D/\a 8=.p h.h 0/\a 9=.l t'/\a 11=II j)/\a4=P:=⟨_,λ_ _ _=>gZ⟩;refine aT e (N f.ao) ((a6 _ _ _).2 ⟨0,t,R,aJ _,⟨dx u,dx z,dx r,dx y,dx o,dx K,dx O,dx p8,dx p9,R⟩,R⟩) ?_;clear u z r y o K O p8 p9 a7;intro m' a P e6;obtain⟨j,t',a,e6,⟨u,z,r,y,o,K,O,p8,p9,a8⟩,rfl⟩:=(a6 _ _ _).1 e6;by_cases H:j<N f.ao
    .obtain⟨bo,a2,c3,h7,a3,rfl,b5,a0,s⟩:=pV r3 Y;let⟨g0,b3⟩:=s j H;have b2:P.f bo=_:=(x8.2 _ a0).t b5;have b4:a3.getD (a2+j*5+2) bp=.s f.ao[j].p.1 f.ao[j].p.2:=(ql b3 2 dc).t R;have es:=bz f.ao[j].p q.n;cases t' with
     |true=>
      simp(disch:=omega)only[go_sem,wp_block,o,p9,a8,F,l2];exact⟨N f.ao-(j+1),Y,(a6 _ _ _).2 ⟨j+1,true,R,H,⟨dx u,dx z,dx r,dx y,dx o,dx K,dx O,dx p8,R,R⟩,R⟩⟩
     |false=>
      simp(disch:=omega)only[go_sem,wp_block,o,p8,p9,a8,F,l2,c8,b2,b4,es];exact⟨N f.ao-(j+1),Y,(a6 _ _ _).2 ⟨j+1,_,R,H,⟨dx u,dx z,dx r,dx y,dx o,dx K,dx O,dx p8,R,R⟩,R⟩⟩
    .obtain rfl:j=N f.ao:=Y;cases t' with
     |false=>
      refine S6 o O p9 a8 F l2 ?_;exact⟨N EQ-(D+1),Y,(W _ _ _).2 ⟨D+1,_,R,a1,⟨dx u,dx z,dx r,dx y,dx o,dx K,R⟩,U,Z,b8⟩⟩
     |true=>
      refine S8 o K p8 p9 a8 F l2 c8 ?_;refine al (wD h8 Y q.n ?_);cases c2.contains q.n with
      |false=>
       refine S1 O ?_;exact⟨N EQ-(D+1),Y,(W _ _ _).2 ⟨D+1,_,R,a1,⟨dx u,dx z,dx r,dx y,dx o,dx K,R⟩,U,Z,b8⟩⟩
      |true=>
       refine S3 r p8 c8 ?_;refine al (jS Z Y λa a a e=>?_);refine S1 O ?_;exact⟨N EQ-(D+1),Y,(W _ _ _).2 ⟨D+1,_,R,a1,⟨dx u,dx z,dx r,dx y,dx o,dx K,R⟩,⟨Y,λc h1 h2=>(e c h2).t (U.2 c h1 h2)⟩,a,sK dc b8⟩⟩
  .obtain rfl:D=N EQ:=Y;refine S5 y o O c4 l4 ?_;exact⟨N l-(i+1),Y,(hI _ _ _).2 ⟨i+1,_,R,b9,⟨dx u,dx z,dx r,R⟩,XV.M X6,b0,c9⟩⟩
 .obtain rfl:i=N l:=Y;have a:V.f B=LL [b.1,b.2]:=e0;have b:=(X.2 _ Y Y).t c0;refine S7 u z r y ln a b ?_;exact k _ _ (cO xz Y) c6
end
end Go.Proofs.YtehahhggpdhieaaGreatDoor
