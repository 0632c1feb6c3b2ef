/- Lemmas of the walk of EmitKinds are proved. Conditions: none. -/
import Derived.Shelf.Strconv.Itoa0
import Derived.Shelf.Strconv.Itoa1
import Derived.Shelf.LaysM
import Derived.Shelf.Strconv.Itoa2
import Derived.Shelf.Strconv.Itoa3
import Derived.Test.YtehahhggpdhieaaGreatDoorProg
import Derived.Lib.ItoaNum
import Derived.MakeChecks
import Derived.Lib.LaidTab
import Derived.LaidSub
import Derived.Test.YtehahhggpdhieaaGreatDoorRows
import Derived.ChangeSame
import Derived.Test.YtehahhggpdhieaaGreatDoorX37
namespace Go.Proofs.YtehahhggpdhieaaGreatDoor
set_option maxRecDepth 100000
set_option maxHeartbeats 32000000
set_option linter.all false
section
variable {p:ES}{c:L aS}{a b k:Nat}{n:Nd}
def jz(a:ES):Prop:=∀c∈a.s,c<9223372036854775808
def jz.same{a b:ES}(h:jz a)(e:b.s=a.s):jz b:=by unfold jz;rw[e];exact h
def acf{n:Nat}(h:jz p)(a:n<9223372036854775808):jz (iw n p).2:=by
 unfold iw;split
 .exact h
 .intro c a;have a:c∈p.s++[n]:=a;rcases bA.1 a with g|g
  .exact h c g
  grind
def Jv{n:Nat}(h:jz p)(a:n<9223372036854775808):jz (hY k n p).2:=(acf h a).same R
def ach{c:S}(h:jz p):jz (pz c a b p).2:=by
 show jz (if(cI c).2.2 then _ else _:Nat×ES).2;split
 .assumption
 assumption
def acg{e:S->Nat}{b a:S}{d:L Nat}(h:jz p):jz (gx e b a c d p).2:=by
 unfold gx;dsimp only;split
 .assumption
 split
 .assumption
 split
 .exact h
 split
 .assumption
 split
 .assumption
 split
 .assumption
 .exact ach h
mutual
def G7(n:Nd)(e:S->Nat):∀(t:Tm) (d:ES),ms t->jz d->jz (bu n e t d).2
 |.mk op i g a c any f,d,b,h=>by
  unfold ms at b;unfold bu;dsimp only;split
  .assumption
  split
  .exact(ahd n e f d b.2 h).same R
  split
  .exact Jv h b.1
  split
  .exact Jv h b.1
  split
  .exact h
  .exact acg (Vq n e f d b.2 h)
def ahd(n:Nd)(d:S->Nat):∀(b:L Tm) (a:ES),qv b->jz a->jz (lQ n d b a).2
 |[],a,_,h=>A
 |k::b,a,c,h=>by
  unfold qv at c;unfold lQ;exact G7 n d k a c.1 h
def Vq(n:Nd)(d:S->Nat):∀(b:L Tm) (a:ES),qv b->jz a->jz (cR n d b a).2
 |[],a,_,h=>A
 |k::b,a,c,h=>by
  unfold qv at c;unfold cR;exact Vq n d b _ c.2 (G7 n d k a c.1 h)
end
def PK(n:Nd)(c:S->Nat):∀(r:L S) (b:ES) {a:ES},jQ n c r b=some a->(∀s∈r,ms (dB n s))->jz b->jz a
 |[],b,a,e,_,h=>by
  obtain rfl:b=a:=jX e;exact h
 |s::r,b,a,e,d,h=>by
  have e:(if 8192<N (eE (.o ⟨1,c s,(bu n c (dB n s) b).1,0⟩) (bu n c (dB n s) b).2).j then none else jQ n c r (eE (.o ⟨1,c s,(bu n c (dB n s) b).1,0⟩) (bu n c (dB n s) b).2))=some a:=e;split at e
  .cases e
  .exact PK n c r _ e J ((G7 n c _ b J h).same R)
def SX{P:Tm->Prop}{C:L aS->Prop}(T:TP P C)(d:∀t,P t->ms t)(n:Nd)(b:S->Nat):∀(f i:Nat) (k:L (Nat×Nat×Tm)) (a:ES),iN P C a->jz a->jz (cF n b f i k a).2
 |0,i,k,a,_,h=>A
 |f+1,i,k,a,c,h=>by
  unfold cF;cases e:a.late[i]? with
  |none=>exact h
  |some x=>
   have e:P x.2.2:=c.1 x J;exact SX T d n b f (i+1) _ _ (DE T n b _ a e c) (G7 n b _ a J h)
def HT(b:S->Nat):∀(c:L aS) (a:ES),(bG b c a).2.s=a.s
 |[],a=>by unfold bG;rfl
 |s::c,a=>by
  unfold bG;split
  .exact HT b c (fx 1 a).2
  .exact HT b c a
def SK(b:S->Nat):∀(l:L (Nat×Nat×Tm)) (a:ES),(eD b l a).s=a.s
 |[],a=>by unfold eD;rfl
 |x::l,a=>by
  unfold eD;exact(SK b l _).t (HT b _ a)
def RO(c:S->Nat)(b:Nat):∀(l:L (Nat×L aS)) (a:ES),(js c b l a).s=a.s
 |[],a=>by unfold js;rfl
 |x::l,a=>by
  unfold js;exact(RO c b l _).t (HT c _ a)
def Vc(b:S->Nat):∀(l:L Vr) (i:Nat) (a:ES),(gH b l i a).s=a.s
 |[],_,a=>rfl
 |v::l,i,a=>by
  unfold gH;exact Vc b l (i+1) _
def Sq:∀(l:L Vr) (i:Nat) (a:ES),(gn l i a).s=a.s
 |[],_,a=>rfl
 |v::l,i,a=>by
  unfold gn;exact Sq l (i+1) _
def adb{P:Tm->Prop}{C:L aS->Prop}(T:TP P C)(h:∀t,P t->ms t){o:L S}(d:jQ n (aL n) o (eW n)=some p)(i:∀s∈o,P (dB n s))(f:Nat):jz (gH (aL n) n.o 0 (ig n (aL n) f p)):=by
 have b:(eW n).late=[]/\(eW n).f=[]:=K1 n.ins 0 hX;have g:iN P C (eW n):=⟨λx a=>(by rw[b.1] at a;cases a),λx a=>(by rw[b.2] at a;cases a)⟩;have c0:jz (eW n):=λc a=>by
  have e:(eW n).s=[]:=Sq n.ins 0 hX;grind
 have a:=(Jb T n (aL n) o (eW n) d i g).1;have b:=PK n (aL n) o (eW n) d J c0;have c:=SX T h n (aL n) f 0 [] p a b;refine jz.same ?_ (Vc (aL n) n.o 0 _);have a:jz (eD (aL n) (cF n (aL n) f 0 [] p).1 (cF n (aL n) f 0 [] p).2):=c.same (SK _ _ _);unfold ig;dsimp only;split
 .exact a
 .exact(Jv a dc).same (RO _ _ _ _)
def ac9{n:Nd}(h:uF n){o:L S}(a:gR n=some o)(e:jQ n (aL n) o (eW n)=some p)(f:Nat):∃W V,bZ n (n.ins.map Vr.z) (n.o.map Vr.z) W V (gH (aL n) n.o 0 (ig n (aL n) f p)):=by
 let⟨l,d2⟩:=FE (O:=n.o.map Vr.z) h;let⟨m,q⟩:=DC a;have r:=wU (names:=aE n) (lean:=fA n) _ _ ((ue _ _).s.t a) (λi a=>(by cases a)) J J;have a:∀v∈n.ins,aL n v.n<N n.ins:=λv g=>by
  let⟨j,b,c⟩:=gB g;have d:j<N (am n):=by unfold am;rw[ay];omega
  have i:(am n)[j]=v:=by
   have:(n.ins++(n.o++n.ao))[j]' A=n.ins[j]:=J
   exact this.t c
  have:=HK h.P j d
  grind
 let⟨d,i,_,k⟩:=Fe h o [] _ (eW n) J m l J a J e;have l:=FV (n:=n) (aL n) o (eW n) e;have a:(am n).map Vr.z<+:p.an:=by have:=l.V;rw[d2] at this;exact this
 have e:qJ n (aL n) d:=λx d=>by
  obtain⟨j,b,rfl,_⟩:=tT d;have hm:(am n)[j]∈n.ins++(n.o++n.ao):=aU b;rcases bA.1 hm with hm|hm
  .grind
  .refine k _ ?_;exact Cl (k:=aE n) J r.2.2.2 (by rw[q];exact ak _) _ (cN.2 ⟨_,hm,R⟩)
 let⟨m,d,k,l⟩:=Mt (σ:=aL n) h.z f i (zv h.P a) e;have d:=a.trans m.V;have a:∀v∈n.o,aO n v.n=some v:=λv g=>by
  let⟨j,b,c⟩:=gB (show v∈am n by unfold am;grind);rw[<-c];exact AA h.P j b
 have b:=G5 (e.mono k) n.o a n.o [] _ R (l.mono (λ_ g=>g) λs g=>absurd g (nR _)) (zv h.P d);grind
def UR{I O c b a:L Nat}{i:aQ}(h:gC I O c b a i){M:Nat}(d:N I<=M)(d:N O<=M)(d:N c<=M)(c:N b<=M)(b:N a<=M):i.o<=20/\i.b<=M/\i.c<=M/\(i.o=19\/i.o=20\/i.a<=M):=by
 cases h with
 |tL a b _=>grind
 |m a b=>grind
 |l a b=>grind
 |aR a b=>grind
 |rU a b=>grind
 |out a b=>grind
 |not a b=>grind
 |n a b=>grind
 |r d q2 a b c=>grind
 |eq a b c=>grind
 |p q a b c=>grind
 |g d q2 a b c=>grind
 |u a=>grind
 |j=>grind
def ac7{o:L S}(h:B7 n o){p:PD}(e:qm n FM=some p):(N p.ins<=64/\∀k∈p.ins,k<=2)/\(N p.o<=64/\∀k∈p.o,k<=2)/\(N p.an<=1024/\∀k∈p.an,k<=2)/\(N p.y<=1024/\∀k∈p.y,k<=2)/\(N p.s<=1024/\∀k∈p.s,k<9223372036854775808)/\
  N p.j<=8192/\∀i∈p.j,i.o<=20/\i.a<=20000/\i.b<=1024/\i.c<=1024:=by
 have c:=h.fo;have K:=c.ins;have O:=c.o;have d:∀{l:L Vr},(∀v∈l,v∈am n)->∀k∈l.map Vr.z,k<=2:=λg k d=>by
  obtain⟨v,b,rfl⟩:=cN.1 d;exact GV (c.z v (g v b))
 unfold qm at e;rw[h.ord] at e;dsimp only[Option.getD_some] at e;cases f:jQ n (aL n) o (eW n) with
 |none=>grind
 |some H=>
  rw[f] at e;dsimp only at e;let⟨W,V,iv⟩:=ac9 c h.ord f FM;have u:=adb (YS h.lc) (λt D=>D.2.2.2.2.2) f h.pn FM;generalize gH (aL n) n.o 0 (ig n (aL n) FM H)=a at e iv u;split at e
  .cases e
  .rename_i P;injection e with e
   subst e;have m:N (a.l++a.j.map (eA (N a.l)))=N a.l+N a.j:=by rw[ay,aC]
   have x:N (n.ins.map Vr.z)<=1024:=by rw[aC];omega
   have y:N (n.o.map Vr.z)<=1024:=by rw[aC];omega
   refine⟨⟨by grind,d λv b=>oJ _ b⟩,⟨by grind,d λv b=>jl _ (oJ _ b)⟩,⟨by grind,λk g=>GV (iv.sk k g)⟩,⟨by grind,λk g=>GV (iv.mq k g)⟩,⟨by grind,u⟩,J,λi r=>?_⟩;have r:i∈a.l++a.j.map (eA (N a.l)):=r;rcases bA.1 r with g|g
   .let⟨I,C⟩:=iv.ld i g;let⟨z,q2,B,F⟩:=UR C (M:=1024) x y Y Y Y;exact⟨z,Y,q2,B⟩
   .obtain⟨j,w,rfl⟩:=cN.1 g;let⟨z,q2,B,F⟩:=UR (iv.ok j w) (M:=1024) x y Y Y Y;unfold eA;split
    .rename_i q;obtain⟨k,s,rfl⟩:=gB w
     have:=(iv.tg k _ (bM s) q).2
     grind
    omega
variable {x y:AV}{d:HN}{i:Nat}
def adP{o:L S}(h:B7 n o){p:PD}(e:qm n FM=some p):EJ p:=by
 let⟨⟨_,b⟩,⟨_,c⟩,⟨_,d⟩,⟨d1,d2⟩,⟨a,f⟩,f1,f2⟩:=ac7 h e;exact⟨⟨Y,λn a=>om (b n a)⟩,⟨Y,λn a=>om (c n a)⟩,⟨Y,λn a=>om (d n a)⟩,⟨Y,λn a=>om (d2 n a)⟩,⟨Y,λn a=>om (f n a)⟩,⟨Y,λi a=>om (f2 i a)⟩⟩
def DO{l:L Nat}(h:cD 1 d y (N l) (l.map iv)):ns .i64 d y l:=by
 have e:(l.map λn=>[AV.i .i64 n]).flatten=l.map iv:=(Kp l).s;rcases h with⟨a,f,c⟩|⟨b,off,cap,k,row,rfl,g,i,a,f,c⟩
 .have:=ff a
  subst this;exact .inl ⟨R,c⟩
 .refine .inr ⟨b,off,cap,k,row,by rw[aC],g,i,by rw[aC];exact a,λx j=>?_,by rw[aC,e];exact c⟩;obtain⟨n,-,rfl⟩:=cN.1 j
  rfl
def aeM{p:PD}{a b c e f g:AV}(h:ON d p a b c e f g):xP d ⟨a,b,c,e,f,g⟩ p:=
 ⟨DO h.1,DO h.2.1,DO h.2.2.1,DO h.2.2.2.1,DO h.2.2.2.2.1,h.2.2.2.2.2⟩
def Xl{l:L Nat}(h:ns .i64 d y l){i:Nat}(m:i<N l):∃b a f g c,y=.a b a (N l) f/\d.f b=.E g c/\b<d.h/\c[a+i]?=some (II l[i]):=by
 let⟨b,a,f,g,c,e,k,n,_,j⟩:=aK.at (i:=i) h (by rw[aC];exact m);rw[aC] at e;refine⟨b,a,f,g,c,e,k,n,?_⟩;rw[kM] at j
 have:=dv (λl=>l[0]?) j
 simp only[qG,mG] at this;rw[ae (by omega),zW,nk] at this;exact this
def Y8{l:L Vr}(h:aK 5 d x (l.map Vr.cells))(m:i<N l):∃b a f g c,x=.a b a (N l) f/\d.f b=.E g c/\b<d.h/\c[a+i*5+1]?=some (II l[i].z):=by
 let⟨b,a,f,g,c,e,j,n,k⟩:=pV h Y;refine⟨b,a,f,g,c,e,j,n,?_⟩
 have:=dv (λl=>l[1]?) (k i m).2
 simp only[qG,mG] at this;rw[ae (by omega)] at this;exact this
def ac6(hk:∀d,aq Tryz.prog 18 [] d (.l true) d)
  {b:L AV} (hI:∀(d:HN) (v:Nat) (Q:AV->HN->Prop),v<=1000001->0<d.h->d.f 0=.E true b->(∀a,ai d.h d a->Q (.s (oT (hZ 20 v)).1 (oT (hZ 20 v)).2) a)->∃v' a,aq Tryz.prog 139 [v] d v' a/\Q v' a)
   (ht:d.f 0=.E true b) (h0:0<d.h) {T:By} (hT:N T<=9223372036854775807):
  ∃v a,aq Tryz.prog 5 [.s (N T) (aY T)] d v a/\v=.l true:=by
 refine cf Wl Tryz.func5 ?_;simp(disch:=omega)only[go_sem];refine al ⟨_,_,hk _,?_⟩;by_cases b:2000<N T
 .simp(disch:=omega)only[go_sem,eI];skip
 simp(disch:=omega)only[go_sem,eI];refine al (XB hT (λn v v b rv rl K=>?_) λb K=>?_)
 .have n1:=K.1;simp(disch:=omega)only[go_sem];refine al (TI hI ((K.2 0 h0).t ht) Y hT (λe c y=>?_) λn hc p he y0 y1 y2 y3 y4 y5 c lp y=>?_)
  · simp(disch:=omega)only[go_sem,eI,gv,bF];skip
  · have b:=y.1;obtain⟨W,eW⟩:∃W,W=c.X (LL [y0,y1,y2,y3,y4,y5]):=⟨_,R⟩;have EW:ai c.h c W:=by rw[eW];exact ap (.refl _ _)
    have b:W.h=c.h+1:=by rw[eW];rfl
    have wb:W.f c.h=LL [y0,y1,y2,y3,y4,y5]:=by rw[eW];exact ae R
    have V:=rv.ext (f:=0) y;have I:fZ tt c (ch T).1 v:=iJ (λb _ v=>y.2 b v) y.1 (λ_ _=>trivial) rl;have ip:=aeM lp;let⟨ll,b⟩:=pm I;have b:=zP.2 n.ne;have b:=n.ok.1;have ln:=λa e w=>bI (e:=a) V ll Y e w;obtain⟨b,b,b,b,b,rfl,a2,b,b,o⟩:=V.at (i:=N (ch T).1-1) Y;let⟨b,v⟩:=ph I (N (ch T).1-1) Y;have b:(ch T).1[N (ch T).1-1]'Y=aD (ch T).1:=by
     have:=vj n.ne
     rw[bM (by omega)] at this;exact jX this
    rw[b] at v;have b:=n.ok.2 _ (qI (vj n.ne));obtain⟨x1,x2,x3,x4,ex,-,r1,r2,-⟩:=v;rw[ex] at o;rw[ll] at ln|-;simp(disch:=omega)only[go_sem,eI,bF];rw[<-eW];simp(disch:=omega)only[go_sem,a2,o,sV,bF];obtain⟨V,I⟩:∃V,V=W.X (LL [.s (aD (ch T).1).n.1 (aD (ch T).1).n.2,x1,x2,x3,x4,II (aD (ch T).1).a]):=⟨_,R⟩;have v:ai W.h W V:=by rw[I];exact ap (.refl _ _)
    have vb:V.f W.h=LL [.s (aD (ch T).1).n.1 (aD (ch T).1).n.2,x1,x2,x3,x4,II (aD (ch T).1).a]:=by rw[I];exact ae R
    have o:V.h=W.h+1:=by rw[I];rfl
    have l:=(v.2 _ Y).t wb;let⟨_,o⟩:=RU n.a n.ok n.ne hc;have O:=adP o he;let⟨a1,r,s,a7,a8,a9⟩:=ac8 o.fo o.ord he;have r:p.ins=(aD (ch T).1).ins.map Vr.z:=r;have s:p.o=(aD (ch T).1).o.map Vr.z:=s;have e1:N p.ins=N (aD (ch T).1).ins:=by rw[r,aC]
    have e2:N p.o=N (aD (ch T).1).o:=by rw[s,aC]
    have f:=(ip.ext EW).ext v;have o:=b.2.1.1;have o:=b.2.2.1.1;have Z:=(r1.ext (f:=0) EW).ext (f:=0) v;have a0:=(r2.ext (f:=0) EW).ext (f:=0) v;have b:=pg f.ins O.ins.1;have o:=pg f.o O.o.1;rw[e1] at b;rw[e2] at o;have l3:=λa e w=>bI (e:=a) Z (jy _) Y e w;have l4:=λa e w=>bI (e:=a) a0 (jy _) Y e w;rw[<-I];simp(disch:=omega)only[go_sem,wb,l,vb,b,o,l3,l4,eI];let⟨I,B⟩:=inv λm x a6=>∃i,m=N (aD (ch T).1).ins-i/\i<=N (aD (ch T).1).ins/\(x 5=.p c.h 0/\x 8=.p W.h 0/\x 9=II i)/\a6=V;refine aT I (N (aD (ch T).1).ins) ((B _ _ _).2 ⟨0,R,aJ _,dy,R⟩) ?_;intro m x a6 hi;obtain⟨i,b,hi,⟨t,u,p9⟩,rfl⟩:=(B _ _ _).1 hi;by_cases j:i<N (aD (ch T).1).ins
    .let⟨c1,d1,f1,g1,h1,q,F,a4,h⟩:=Xl f.ins (i:=i) Y;let⟨c2,d2,f2,g2,h2,z,H,a5,D⟩:=Y8 Z j;have ek:p.ins[i]'Y=(aD (ch T).1).ins[i].z:=by simp only[r,kM]
     rw[ek] at h;have g:=l;have k:=vb;have q:y0=_:=q;have b:=l3;rw[e1] at q;rw[q] at g;rw[z] at k b;simp(disch:=omega)only[go_sem,t,u,p9,g,k,b,F,H,h,D,eI];exact⟨N (aD (ch T).1).ins-(i+1),Y,(B _ _ _).2 ⟨i+1,R,j,⟨dx t,dx u,R⟩,R⟩⟩
    .obtain rfl:i=N (aD (ch T).1).ins:=Y;simp(disch:=omega)only[go_sem,u,p9,vb,l3];let⟨J,C⟩:=inv λm x b=>∃i,m=N (aD (ch T).1).o-i/\i<=N (aD (ch T).1).o/\(x 5=.p c.h 0/\x 8=.p W.h 0/\x 10=II i)/\b=a6;refine aT J (N (aD (ch T).1).o) ((C _ _ _).2 ⟨0,R,aJ _,⟨dx t,dx u,R⟩,R⟩) ?_;clear t u p9;intro b b b P;obtain⟨i,b,P,⟨t,u,U⟩,rfl⟩:=(C _ _ _).1 P;by_cases j:i<N (aD (ch T).1).o
     .let⟨c1,d1,f1,g1,h1,q,F,a4,h⟩:=Xl f.o (i:=i) Y;let⟨c2,d2,f2,g2,h2,z,H,a5,D⟩:=Y8 a0 j;have ek:p.o[i]'Y=(aD (ch T).1).o[i].z:=by simp only[s,kM]
      rw[ek] at h;have g:=l;have k:=vb;have q:y1=_:=q;have b:=l4;rw[e2] at q;rw[q] at g;rw[z] at k b;simp(disch:=omega)only[go_sem,t,u,U,g,k,b,F,H,h,D,eI];exact⟨N (aD (ch T).1).o-(i+1),Y,(C _ _ _).2 ⟨i+1,R,j,⟨dx t,dx u,R⟩,R⟩⟩
     .obtain rfl:i=N (aD (ch T).1).o:=Y;simp(disch:=omega)only[go_sem,t,u,U,l,vb,l4];obtain⟨_,b,a3,rfl,Ec⟩:=ah2 _ _ p f O a1;refine al ⟨_,_,a3,?_⟩;have g:=(Ec.2 _ Y).t l;have h:=pg f.an O.an.1;have b:=pg f.y O.y.1;have j:=λa e w=>bI (e:=a) f.j (aC _) Y e w;simp(disch:=omega)only[go_sem,t,g,h,b,j,gv];skip
 .have n1:=K.1;simp(disch:=omega)only[go_sem];refine al (TI hI ((K.2 0 h0).t ht) Y hT (λe c y=>?_) λn hc p he y0 y1 y2 y3 y4 y5 c lp y=>?_)
  · simp(disch:=omega)only[go_sem,gv,bF];skip
  · simp(disch:=omega)only[go_sem,gv,bF];skip
end
section
open Go.Proofs.Tryz renaming prog->tz
open Go.Proofs.Tryz
section
open Go.Shelf
def Tryz.afe:Go.Shelf.Ren:=⟨λ|129=>194|n=>n,λ|53=>267|3=>3|4=>4|46=>312|5=>5|9=>9|n=>n,λ|n=>n⟩
def Tryz.afd:Go.Proofs.Lays.n129 tz Tryz.afe:={
 mixed:=by kernel_rfl
 f129:=func194.t (dv some (by kernel_rfl))
 t3:=Tryz.underlying3
 a3:=Tryz.isAgg3
 z3:=Tryz.sizeOf3
 v3:=Tryz.zeroValue3
 t4:=Tryz.underlying4
 a4:=Tryz.isAgg4
 z4:=Tryz.sizeOf4
 v4:=Tryz.zeroValue4
 t5:=Tryz.underlying5
 a5:=Tryz.isAgg5
 z5:=Tryz.sizeOf5
 v5:=Tryz.zeroValue5
 t9:=Tryz.underlying9
 a9:=Tryz.isAgg9
 z9:=Tryz.sizeOf9
 v9:=Tryz.zeroValue9
 t46:=Tryz.underlying312
 a46:=Tryz.isAgg312
 z46:=Tryz.sizeOf312
 v46:=Tryz.zeroValue312
 t53:=Tryz.underlying267
 a53:=Tryz.isAgg267
 z53:=Tryz.sizeOf267
 v53:=Tryz.zeroValue267}
def Tryz.bits_Len64(x:Int)(w:World)(a:0<=x)(b:x<=18446744073709551615):
 Calls tz 194 #[.int .u64 x] w λe c=>e=.returned (.int .i64 (Lib.bitLen x.toNat))/\c=w:=Any.bits_Len64 Tryz.afd x w a b
def Tryz.afi:Go.Shelf.Ren:=⟨λ|317=>193|n=>n,λ|3=>3|46=>312|n=>n,λ|n=>n⟩
def Tryz.afh:Go.Proofs.Lays.n317 tz Tryz.afi:={
 mixed:=by kernel_rfl
 f317:=func193.t (dv some (by kernel_rfl))
 t3:=Tryz.underlying3
 a3:=Tryz.isAgg3
 z3:=Tryz.sizeOf3
 v3:=Tryz.zeroValue3
 t46:=Tryz.underlying312
 a46:=Tryz.isAgg312
 z46:=Tryz.sizeOf312
 v46:=Tryz.zeroValue312}
open Go.Lib in
def Tryz.internal_strconv_log10Pow2(x:Nat)(h:x<=64)(w:World):
 Calls tz 193 #[.int .i64 x] w λe a=>e=.returned (.int .i64 (Lib.l10 x))/\a=w:=Any.internal_strconv_log10Pow2 Tryz.afh x h w
def Tryz.afk:Go.Shelf.Ren:=⟨λ|318=>195|n=>n,λ|3=>3|4=>4|n=>n,λ|n=>n⟩
def Tryz.afj:Go.Proofs.Lays.n318 tz Tryz.afk:={
 mixed:=by kernel_rfl
 f318:=func195.t (dv some (by kernel_rfl))
 t3:=Tryz.underlying3
 a3:=Tryz.isAgg3
 z3:=Tryz.sizeOf3
 v3:=Tryz.zeroValue3
 t4:=Tryz.underlying4
 a4:=Tryz.isAgg4
 z4:=Tryz.sizeOf4
 v4:=Tryz.zeroValue4}
open Go.Lib in
def Tryz.internal_strconv_bool2_int(b:Bool)(w:World):
 Calls tz 195 #[.bool b] w λe a=>e=.returned (.int .i64 (if b then 1 else 0))/\a=w:=Any.internal_strconv_bool2_int Tryz.afj b w
def Tryz.afg:Go.Shelf.Ren:=⟨λ|283=>184|n=>n,λ|3=>3|9=>9|4=>4|n=>n,λ|n=>n⟩
def Tryz.aff:Go.Proofs.Lays.n283 tz Tryz.afg:={
 mixed:=by kernel_rfl
 f283:=func184.t (dv some (by kernel_rfl))
 t3:=Tryz.underlying3
 a3:=Tryz.isAgg3
 z3:=Tryz.sizeOf3
 v3:=Tryz.zeroValue3
 t4:=Tryz.underlying4
 a4:=Tryz.isAgg4
 z4:=Tryz.sizeOf4
 v4:=Tryz.zeroValue4
 t9:=Tryz.underlying9
 a9:=Tryz.isAgg9
 z9:=Tryz.sizeOf9
 v9:=Tryz.zeroValue9}
open Go.Lib in
def Tryz.internal_strconv_small(i:Nat)(h:i<100)(w:World):
 Calls tz 184 #[.int .i64 i] w λe a=>e=.returned (.string ⟨(Lib.decDigits i).toArray⟩)/\a=w:=Any.internal_strconv_small Tryz.aff i h w
end
section
def bitLen_le(x:Nat):Lib.bitLen x<=64:=by
 have:∀f x,Lib.bitLenAux f x<=f:=by
  intro f
  induction f with
  |zero=>intro x;simp[Lib.bitLenAux]
  |succ f a=>
   intro x;unfold Lib.bitLenAux;split
   .omega
   .have:=a (x/2);omega
 exact this 64 x
section
variable {H:Ren}{U:HN}{x:Nat}
def Fk{f:FuncId}{a:Func}{b:Array Value}{w:World}(d:tz.funcs[f]?=some a)(c:a.body.isNone=false)(e:(a.name== "runtime.NumGoroutine")=false):(callFunc f b).run tz w=.ok (.enter f b) w:=by
 unfold callFunc;simp only[Sem.run_bind,run_program,Result.andThen_ok,d,e,c,xA,uD,Sem.run_pure]
def leaf{f:FuncId}{a:L AV}{v:AV}(h:∀b w,(callFunc f b).run tz w=.ok (.enter f b) w)(g:∀b H,VL H a b->∃u,VR H v u/\∀w,Calls tz f ⟨b⟩ w λe c=>e=.returned u/\c=w):aq tz f a U v U:=λH w b i _ _ j=>by
 let⟨u,a,d⟩:=g b H j;exact⟨h _ _,(d w).mono λe c q=>⟨u,H,q.1,a,by rw[q.2];exact cu.refl i⟩⟩
def HG{k:IntKind}(h:x<lM k):bg k x=(x:Int):=by
 unfold bg cT;rw[show Nat.ble x.succ (lM k)=true from Oh h];rfl
def K6(h:x<9223372036854775808):VR H (II x) (.int .i64 (x:Int)):=jP.2 ⟨Nat.lt_trans h dc,by rw[HG (k:=.i64) h]⟩
def G1{a:AV}{c:L Value}(h:VL H [a] c):∃u,c=[u]/\VR H a u:=by
 unfold VL at h;obtain⟨u,r,rfl,hu,b⟩:=h;unfold VL at b;subst b;exact⟨u,R,hu⟩
def Sh{u:Value}(h:VR H (II x) u)(a:x<9223372036854775808):u=.int .i64 (x:Int):=by
 obtain⟨_,rfl⟩:=jP.1 h;rw[HG (k:=.i64) a]
def abm(b:x<18446744073709551616):aq tz 194 [.i .u64 x] U (II (Lib.bitLen x)) U:=leaf (λ_ _=>Fk func194 R (by kernel_rfl)) λa H a=>by
 obtain⟨u,rfl,hu⟩:=G1 a;obtain⟨_,rfl⟩:=jP.1 hu;have a:=bitLen_le x;refine⟨_,K6 Y,λw=>?_⟩;rw[HG (k:=.u64) b];exact Tryz.bits_Len64 (x:Int) w Y Y
def abl(b:x<=64):aq tz 193 [x] U (II (Lib.l10 x)) U:=leaf (λ_ _=>Fk func193 R (by kernel_rfl)) λa H a=>by
 obtain⟨u,rfl,hu⟩:=G1 a;obtain rfl:=Sh hu Y;exact⟨_,K6 (by unfold Lib.l10;omega),λw=>Tryz.internal_strconv_log10Pow2 x b w⟩
def PQ{b:Bool}:aq tz 195 [b] U (II (if b then 1 else 0)) U:=leaf (λ_ _=>Fk func195 R (by kernel_rfl)) λa H a=>by
 obtain⟨u,rfl,hu⟩:=G1 a;obtain rfl:=mK.1 hu;refine⟨_,K6 (x:=if b then 1 else 0) (by split<;>omega),λw=>?_⟩
 have:=Tryz.internal_strconv_bool2_int b w
 cases b<;>exact this
def abk(b:x<100):aq tz 184 [x] U (.s (N (Lib.decDigits x)) (aY (Lib.decDigits x))) U:=leaf (λ_ _=>Fk func184 R (by kernel_rfl)) λa H a=>by
 obtain⟨u,rfl,hu⟩:=G1 a;obtain rfl:=Sh hu Y;exact⟨_,mc.2 ⟨_,R,R,R⟩,λw=>Tryz.internal_strconv_small x b w⟩
end
end
variable {g:AV->HN->Prop}{d:HN}{a b i:Nat}
def pS:L AV:=(List.range 20).map λi=>.i .u64 (10^i)
def YE(h:i<20):pS[i]?=some (.i .u64 (10^i)):=by unfold pS;rw[pF,ZQ h];rfl
def Ub{u:Nat}(f:d.f 0=.E true pS)(c:1<=u)(e:u<18446744073709551616):aq tz 185 [.i .u64 u] d (II (Lib.nDigits u)) d:=by
 have:∃v a,aq tz 185 [.i .u64 u] d v a/\v=II (Lib.nDigits u)/\a=d:=by
  refine c0 func185 ?_;let⟨b,g⟩:=Lib.numDigits_eq u c e;have c:=bitLen_le u;simp(disch:=omega)only[go_sem];refine al ⟨_,_,abm e,?_⟩;simp(disch:=omega)only[go_sem];refine al ⟨_,_,abl c,?_⟩;have e:=YE (show Lib.l10 (Lib.bitLen u)<20 by omega);generalize Lib.l10 (Lib.bitLen u)=k at*;have c:10^k<=10^19:=Ou dc g;by_cases c:10^k<=u
  .rw[ae c] at b;simp(disch:=omega)only[go_sem,f,e];refine al ⟨_,_,PQ,?_⟩;rw[<-b];simp(disch:=omega)only[go_sem]
  .rw[ac c] at b;simp(disch:=omega)only[go_sem,f,e];refine al ⟨_,_,PQ,?_⟩;rw[<-b];simp(disch:=omega)only[go_sem]
 obtain⟨v,a,k,rfl,rfl⟩:=this;exact k
def SM:Nat:=9938655150514779720929161263213647789093395803754561035662628441001274968862597953692946393464194303251501229616933063375291039650253924995779037586872666250072396106842829501851083234932712366962979930255066872747696324303968523733872590022915936937156789320557469720923390131174387415513794469201054844961267015441141542819553679203788501627738430154234325528792480477051962324423099068299719245009424585859096469223093538032153047611602695245052081125123941502624659711709950000
@[go_sem] def am8{a:FN}:au a (.const (.string ⟨(([48,48,48,49,48,50,48,51,48,52,48,53,48,54,48,55,48,56,48,57,49,48,49,49,49,50,49,51,49,52,49,53,49,54,49,55,49,56,49,57,50,48,50,49,50,50,50,51,50,52].append [50,53,50,54,50,55,50,56,50,57,51,48,51,49,51,50,51,51,51,52,51,53,51,54,51,55,51,56,51,57,52,48,52,49,52,50,52,51,52,52,52,53,52,54,52,55,52,56,52,57]).append ([53,48,53,49,53,50,53,51,53,52,53,53,53,54,53,55,53,56,53,57,54,48,54,49,54,50,54,51,54,52,54,53,54,54,54,55,54,56,54,57,55,48,55,49,55,50,55,51,55,52].append [55,53,55,54,55,55,55,56,55,57,56,48,56,49,56,50,56,51,56,52,56,53,56,54,56,55,56,56,56,57,57,48,57,49,57,50,57,51,57,52,57,53,57,54,57,55,57,56,57,57])).toArray⟩))=.s 200 SM:=(rfl)
def aiU:∀r,r<100->qC SM (r*2+1)=48+r%10:=by decide+kernel
def aiT:∀r,r<100->qC SM (r*2)=48+r/10:=by decide+kernel
@[go_sem] def anE{r:Nat}(h:r<100):qC SM (r*2+1)=48+r%10:=aiU r h
@[go_sem] def anD{r:Nat}(h:r<100):qC SM (r*2)=48+r/10:=aiT r h
@[go_sem] def ane(c:a<4294967296)(d:b<4294967296):vv .u32 a b=a/b:=by
 unfold vv cT;rw[gP.2 (show Nat.succ a<=lM .u32 from c),gP.2 (show Nat.succ b<=lM .u32 from d)];rfl
@[go_sem] def ang(c:a<4294967296)(d:b<4294967296):vx .u32 a b=a%b:=by
 unfold vx cT;rw[gP.2 (show Nat.succ a<=lM .u32 from c),gP.2 (show Nat.succ b<=lM .u32 from d)];rfl
def Pt(b:L AV)(n u i:Nat)(a:L AV):Prop:=N a=24/\∀j,j<24->a[j]?=if 1+i<=j/\j<1+n then some (.i .u8 (48+u/10^(n-j)%10)) else b[j]?
def gz{b c:L AV}{n u:Nat}(k:Nat)(h:Pt b n u (i-k) c)(d:k+1<=i)(d:i<=n)(d:n<=23)(f:a=48+u/10^(n-i)/10^k%10):Pt b n u (i-(k+1)) (c.set (1+(i-(k+1))) (.i .u8 a)):=by
 let⟨b,d⟩:=h;refine⟨by rw[jk,b],λj b=>?_⟩;rw[N8];by_cases e:1+(i-(k+1))=j
 .rw[ae e,ae (by omega),ae ⟨by omega,by omega⟩,f,Oj,<-Ot,show n-i+k=n-j by omega]
 .rw[ac e,d j b];by_cases q:1+(i-k)<=j/\j<1+n
  .rw[ae q,ae ⟨by omega,q.2⟩]
  .rw[ac q,ac (by omega)]
def w4{a:L AV}{n u:Nat}(h:N a=24):Pt a n u n a:=⟨h,λj b=>by rw[ac (by omega)]⟩
def RW{D n u:Nat}{q:L AV}(l:d.f D=LL q)(o:N q=24)(f:n<=23)(p:u<10^n)(j:u<18446744073709551616)
  (h:∀a c,a.f D=LL c->Pt q n u 0 c->a.h=d.h->(∀b,b≠D->a.f b=d.f b)->g (.t []) a):∃v a,aq tz 186 [.a D 1 n (.k 23),.i .u64 u] d v a/\g v a:=by
 refine cf VY func186 ?_;simp(disch:=omega)only[go_sem];obtain⟨I,B⟩:∃I:Nat->FN->HN->Prop,∀m k e,I m k e↔∃i a c,m=i/\i<=n/\k 0=.a D 1 n (.k 23)/\k 1=.i .u64 a/\k 4=II i/\e.f D=LL c/\Pt q n u i c/\a=u/10^(n-i)/\e.h=d.h/\∀b,b≠D->e.f b=d.f b:=⟨_,λ_ _ _=>gZ⟩;refine aT I n ((B _ _ _).2 ⟨n,u,q,R,ak _,R,R,R,l,w4 o,by rw[rH,Nat.pow_zero,Nat.div_one],R,λ_ _=>R⟩) ?_;intro m k e e;let⟨i,a,_,_,e,v,w,x,s,k,c,l,t⟩:=(B _ _ _).1 e;have m:=k.1;have o:a<10^i:=by
  rw[c];refine Nat.div_lt_of_lt_mul ?_;rw[<-Ot,show n-i+i=n by omega];exact p
 have o:a<18446744073709551616:=Eu (by rw[c];exact Ok _ _) j;by_cases j:8<=i
 .simp(disch:=omega)only[go_sem,v,w,x,s,m];have j:u/10^(n-(i-8))=a/100000000:=by rw[c,show n-(i-8)=n-i+8 by omega,Ot,<-Oj]
  have o:=gz 0 (a:=48+a%100000000%10000%100%10) k Y e f (by rw[<-c];show 48+a%100000000%10000%100%10=48+a/1%10;omega);have p:=gz 1 (a:=48+a%100000000%10000%100/10) o Y e f (by rw[<-c];show 48+a%100000000%10000%100/10=48+a/10%10;omega);have r:=gz 2 (a:=48+a%100000000%10000/100%10) p Y e f (by rw[<-c];show 48+a%100000000%10000/100%10=48+a/100%10;omega);have u:=gz 3 (a:=48+a%100000000%10000/100/10) r Y e f (by rw[<-c];show 48+a%100000000%10000/100/10=48+a/1000%10;omega);have y:=gz 4 (a:=48+a%100000000/10000%100%10) u Y e f (by rw[<-c];show 48+a%100000000/10000%100%10=48+a/10000%10;omega);have z:=gz 5 (a:=48+a%100000000/10000%100/10) y Y e f (by rw[<-c];show 48+a%100000000/10000%100/10=48+a/100000%10;omega);have C:=gz 6 (a:=48+a%100000000/10000/100%10) z Y e f (by rw[<-c];show 48+a%100000000/10000/100%10=48+a/1000000%10;omega);have F:=gz 7 (a:=48+a%100000000/10000/100/10) C Y e f (by rw[<-c];show 48+a%100000000/10000/100/10=48+a/10000000%10;omega);refine⟨i-8,Y,(B _ _ _).2 ⟨i-8,a/100000000,_,R,Y,v,R,R,by show(if D=D then _ else _)=_;rw[ae R],F,j.s,l,λb j=>?_⟩⟩;simp only[kg,ac j];exact t b j
 clear B;by_cases B:i=0
 .subst B;simp(disch:=omega)only[go_sem,w,x];exact h _ _ s k l t
 by_cases B:i=1
 .subst B;simp(disch:=omega)only[go_sem,v,w,x,s,m];have o:=gz (i:=1) 0 (a:=48+a) k Y e f (by rw[<-c];show 48+a=48+a/1%10;omega);refine h _ _ (by show(if D=D then _ else _)=_;rw[ae R]) o l λb j=>?_;simp only[kg,ac j];exact t b j
 by_cases B:i=2
 .subst B;simp(disch:=omega)only[go_sem,v,w,x,s,m];have o:=gz (i:=2) 0 (a:=48+a%100%10) k Y e f (by rw[<-c];show 48+a%100%10=48+a/1%10;omega);have p:=gz (i:=2) 1 (a:=48+a%100/10) o Y e f (by rw[<-c];show 48+a%100/10=48+a/10%10;omega);refine h _ _ (by show(if D=D then _ else _)=_;rw[ae R]) p l λb j=>?_;simp only[kg,ac j];exact t b j
 by_cases B:i=3
 .subst B;simp(disch:=omega)only[go_sem,v,w,x,s,m];have o:=gz (i:=3) 0 (a:=48+a%100%10) k Y e f (by rw[<-c];show 48+a%100%10=48+a/1%10;omega);have p:=gz (i:=3) 1 (a:=48+a%100/10) o Y e f (by rw[<-c];show 48+a%100/10=48+a/10%10;omega);have r:=gz (i:=3) 2 (a:=48+a/100) p Y e f (by rw[<-c];show 48+a/100=48+a/100%10;omega);refine h _ _ (by show(if D=D then _ else _)=_;rw[ae R]) r l λb j=>?_;simp only[kg,ac j];exact t b j
 by_cases B:i=4
 .subst B;simp(disch:=omega)only[go_sem,v,w,x,s,m];have o:=gz (i:=4) 0 (a:=48+a%10000%100%10) k Y e f (by rw[<-c];show 48+a%10000%100%10=48+a/1%10;omega);have p:=gz (i:=4) 1 (a:=48+a%10000%100/10) o Y e f (by rw[<-c];show 48+a%10000%100/10=48+a/10%10;omega);have r:=gz (i:=4) 2 (a:=48+a%10000/100%10) p Y e f (by rw[<-c];show 48+a%10000/100%10=48+a/100%10;omega);have u:=gz (i:=4) 3 (a:=48+a%10000/100/10) r Y e f (by rw[<-c];show 48+a%10000/100/10=48+a/1000%10;omega);refine h _ _ (by show(if D=D then _ else _)=_;rw[ae R]) u l λb j=>?_;simp only[kg,ac j];exact t b j
 by_cases B:i=5
 .subst B;simp(disch:=omega)only[go_sem,v,w,x,s,m];have o:=gz (i:=5) 0 (a:=48+a%10000%100%10) k Y e f (by rw[<-c];show 48+a%10000%100%10=48+a/1%10;omega);have p:=gz (i:=5) 1 (a:=48+a%10000%100/10) o Y e f (by rw[<-c];show 48+a%10000%100/10=48+a/10%10;omega);have r:=gz (i:=5) 2 (a:=48+a%10000/100%10) p Y e f (by rw[<-c];show 48+a%10000/100%10=48+a/100%10;omega);have u:=gz (i:=5) 3 (a:=48+a%10000/100/10) r Y e f (by rw[<-c];show 48+a%10000/100/10=48+a/1000%10;omega);have y:=gz (i:=5) 4 (a:=48+a/10000) u Y e f (by rw[<-c];show 48+a/10000=48+a/10000%10;omega);refine h _ _ (by show(if D=D then _ else _)=_;rw[ae R]) y l λb j=>?_;simp only[kg,ac j];exact t b j
 by_cases B:i=6
 .subst B;simp(disch:=omega)only[go_sem,v,w,x,s,m];have o:=gz (i:=6) 0 (a:=48+a%10000%100%10) k Y e f (by rw[<-c];show 48+a%10000%100%10=48+a/1%10;omega);have p:=gz (i:=6) 1 (a:=48+a%10000%100/10) o Y e f (by rw[<-c];show 48+a%10000%100/10=48+a/10%10;omega);have r:=gz (i:=6) 2 (a:=48+a%10000/100%10) p Y e f (by rw[<-c];show 48+a%10000/100%10=48+a/100%10;omega);have u:=gz (i:=6) 3 (a:=48+a%10000/100/10) r Y e f (by rw[<-c];show 48+a%10000/100/10=48+a/1000%10;omega);have y:=gz (i:=6) 4 (a:=48+a/10000%100%10) u Y e f (by rw[<-c];show 48+a/10000%100%10=48+a/10000%10;omega);have z:=gz (i:=6) 5 (a:=48+a/10000%100/10) y Y e f (by rw[<-c];show 48+a/10000%100/10=48+a/100000%10;omega);refine h _ _ (by show(if D=D then _ else _)=_;rw[ae R]) z l λb j=>?_;simp only[kg,ac j];exact t b j
 by_cases B:i=7
 .subst B;simp(disch:=omega)only[go_sem,v,w,x,s,m];have o:=gz (i:=7) 0 (a:=48+a%10000%100%10) k Y e f (by rw[<-c];show 48+a%10000%100%10=48+a/1%10;omega);have p:=gz (i:=7) 1 (a:=48+a%10000%100/10) o Y e f (by rw[<-c];show 48+a%10000%100/10=48+a/10%10;omega);have r:=gz (i:=7) 2 (a:=48+a%10000/100%10) p Y e f (by rw[<-c];show 48+a%10000/100%10=48+a/100%10;omega);have u:=gz (i:=7) 3 (a:=48+a%10000/100/10) r Y e f (by rw[<-c];show 48+a%10000/100/10=48+a/1000%10;omega);have y:=gz (i:=7) 4 (a:=48+a/10000%100%10) u Y e f (by rw[<-c];show 48+a/10000%100%10=48+a/10000%10;omega);have z:=gz (i:=7) 5 (a:=48+a/10000%100/10) y Y e f (by rw[<-c];show 48+a/10000%100/10=48+a/100000%10;omega);have C:=gz (i:=7) 6 (a:=48+a/10000/100) z Y e f (by rw[<-c];show 48+a/10000/100=48+a/1000000%10;omega);refine h _ _ (by show(if D=D then _ else _)=_;rw[ae R]) C l λb j=>?_;simp only[kg,ac j];exact t b j
 omega
end
section
open Go.Proofs.Tryz renaming prog->tz
open Go.Proofs.Tryz
variable {g:AV->HN->Prop}{d:HN}
def LJ{v:Nat}(h:¬v<9223372036854775808):cT .i64 v=false:=by rw[agi];exact aA h
def acD{v:Nat}(h:¬v<9223372036854775808)(a:v<18446744073709551616):rS .u64 .i64 v=v:=by
 unfold rS;rw[LJ h];have e:bg .i64 v=(v:Int)-18446744073709551616:=ac (by rw[LJ h];decide);show res .u64 (bg .i64 v)=v;rw[e];generalize a:(v:Int)-18446744073709551616=z
 show(z%18446744073709551616).toNat=v
 omega
def tN(d u:Nat):L Nat:=(List.range d).map λt=>48+u/10^(d-1-t)%10
def uU(u:Nat):L Nat:=tN (Lib.nDigits u) u
def sL(v:Nat):L Nat:=if v<9223372036854775808 then uU v else 45::uU (18446744073709551616-v)
def JJ(d u:Nat):N (tN d u)=d:=by unfold tN;simp
def Qy:∀l:L UInt8,aY l=bV (l.map UInt8.toNat)
 |[]=>rfl
 |b::l=>by unfold aY;rw[Qy l];rfl
def QK(u:Nat):(Lib.decDigits u).map UInt8.toNat=uU u:=by
 rw[Lib.decDigits_eq];unfold uU tN;rw[zQ];refine ZX λt _=>?_
 show(Lib.dg u (Lib.nDigits u-1-t)).toNat=_
 unfold Lib.dg
 have:=BZ (u/10^(Lib.nDigits u-1-t)) (show 10>0 by decide)
 rw[Ox];omega
def TU{u:Nat}(b:1<=u)(c:u<18446744073709551616):Lib.nDigits u<=20:=by
 let⟨a,d⟩:=Lib.numDigits_eq u b c;split at a<;>omega
def WR{b a:L AV}{n u:Nat}(h:Pt b n u 0 a)(b:n<=23):(a.drop 1).take n=BE (tN n u):=by
 let⟨b,c⟩:=h;apply N1;intro j;unfold BE;rw[qG,pF];by_cases b:j<n
 .rw[ae b,mG,c _ (by omega),ae ⟨by omega,by omega⟩];unfold tN;rw[pF,ZQ b,show n-(1+j)=n-1-j by omega];rfl
 .rw[ac b,rC (by rw[JJ];omega)];rfl
def adL{v:Nat}(V:d.f 0=.E true pS)(P:0<d.h)(x:v<18446744073709551616)
  (h:∀k,ai d.h d k->g (.s (N (sL v)) (bV (sL v))) k):∃I k,aq tz 177 [v,II 10] d I k/\g I k:=by
 refine c0 Tryz.func177 ?_;by_cases k:v<100
 .simp(disch:=omega)only[go_sem];refine al ⟨_,_,abk k,?_⟩;simp(disch:=omega)only[go_sem];have e:sL v=uU v:=ae Y
  have:=h d (.refl _ _)
  rw[e,<-QK,aC,<-Qy] at this;exact this
 obtain⟨k,i⟩:∃I,I=d.X (LL (List.replicate 24 (AV.i .u8 0))):=⟨_,R⟩;have E0:ai d.h d k:=by rw[i];exact ap (.refl _ _)
 have H:=(E0.2 0 P).t V;have K:k.f d.h=LL (List.replicate 24 (AV.i .u8 0)):=by rw[i];show(if d.h=d.h then _ else _)=_;rw[ae R]
 have I:k.h=d.h+1:=by rw[i];rfl
 by_cases a:v<9223372036854775808
 .have e:sL v=uU v:=ae a;rw[e] at h;unfold uU at h;have U:=TU (show 1<=v by omega) x;have B:=Lib.nDigits_pos v;have n:=Lib.lt_pow_nDigits v;have p:=Ub H (show 1<=v by omega) x;generalize Lib.nDigits v=c at*;have l:1+c-1=c:=Y;rw[JJ] at h;simp(disch:=omega)only[go_sem,<-i];refine al ⟨_,_,p,?_⟩;simp(disch:=omega)only[go_sem,l];refine al (RW K (rD) Y n x λq j y w W D=>?_);have f:=w.1;have s:=WR w (show c<=23 by omega);have m:=Jf (tN c v);simp(disch:=omega)only[go_sem,y,l,s,m];exact h _ ⟨Y,λb m=>(D b Y).t (E0.2 b m)⟩
 .have e:sL v=45::uU (18446744073709551616-v):=ac a;rw[e] at h;unfold uU at h;obtain⟨u,hu⟩:∃u,u=18446744073709551616-v:=⟨_,R⟩;rw[<-hu] at h;have e:1<=u:=Y;have o:u<18446744073709551616:=Y;have U:=TU e o;have B:=Lib.nDigits_pos u;have n:=Lib.lt_pow_nDigits u;have p:=Ub H e o;have F:fU .i64 v 0=true:=by unfold fU;rw[LJ a];rfl
  have z:=acD a x;have C:(18446744073709551616-v)%18446744073709551616=u:=Y;generalize Lib.nDigits u=c at*;have l:1+c-1=c:=Y;rw[bt,JJ,IA c 1] at h;simp(disch:=omega)only[go_sem,<-i,F,z,C];refine al ⟨_,_,p,?_⟩;simp(disch:=omega)only[go_sem,l];refine al (RW K (rD) Y n o λq j y w W D=>?_);have f:=w.1;have O:(q.put d.h (LL (j.set 0 (.i .u8 45)))).f d.h=LL (j.set 0 (.i .u8 45)):=by show(if d.h=d.h then _ else _)=_;rw[ae R]
  have t:((j.set 0 (.i .u8 45)).drop 0).take (1+c)=BE (45::tN c u):=by
   have s:=WR w Y
   match j,f with
   |a::r,_=>
    have s:r.take c=BE (tN c u):=s;rw[zS,ng,IA,rG,s];rfl
  rw[ng] at t;have m:=Jf (45::tN c u);simp(disch:=omega)only[go_sem,y,F,f,O,t,m];exact h _ ⟨by show d.h<=q.h;omega,λb m=>by show(if b=d.h then _ else _)=_;rw[ac (by omega)];exact(D b Y).t (E0.2 b m)⟩
def aeQ{v:Nat}(f:d.f 0=.E true pS)(e:0<d.h)(i:v<18446744073709551616)
  (h:∀a,ai d.h d a->g (.s (N (sL v)) (bV (sL v))) a):∃b a,aq tz 139 [v] d b a/\g b a:=by
 refine c0 func139 ?_;simp(disch:=omega)only[go_sem];have c:∃b a,aq tz 162 [v] d b a/\b=.s (N (sL v)) (bV (sL v))/\ai d.h d a:=by
  refine c0 func162 ?_;simp(disch:=omega)only[go_sem];refine al (adL f e i λa E=>?_);simp(disch:=omega)only[go_sem];exact E
 obtain⟨b,a,k,rfl,E⟩:=c;refine al ⟨_,_,k,?_⟩;simp(disch:=omega)only[go_sem];exact h a E
def QV:∀f v,v<10^(f+1)->(Lib.decDigits v).map UInt8.toNat=hZ (f+1) v
 |f,v,h=>by
  rw[Lib.decDigits];unfold hZ;by_cases a:v<10
  .rw[dif_pos a,ae a]
   show[(UInt8.ofNat (48+v)).toNat]=_
   rw[Ox,Ew (by omega)]
  .rw[dif_neg a,ac a,cM];cases f with
   |zero=>exact absurd (show v<10 by simpa using h) a
   |succ f=>
    rw[QV f (v/10) (by rw[xJ] at h;omega)];show _++[(UInt8.ofNat (48+v%10)).toNat]=_;rw[Ox,Ew (by omega)]
def PP:∀l:L Nat,l.foldr (λb r=>b+256*r) 0=bV l
 |[]=>rfl
 |a::l=>by show a+256*l.foldr _ 0=_;rw[PP l];rfl
def aeP(b:HN)(v:Nat)(Q:AV->HN->Prop)(a:v<=1000001)(d:0<b.h)(e:b.f 0=.E true pS)(h:∀a,ai b.h b a->Q (.s (oT (hZ 20 v)).1 (oT (hZ 20 v)).2) a):
  ∃c a,aq tz 139 [v] b c a/\Q c a:=by
 refine aeQ e d Y λa e=>?_
 have:=h a e
 have a:sL v=hZ 20 v:=by
  unfold sL;rw[ae (by omega),<-QK,QV 19 v (by omega)]
 unfold oT at this;rw[PP] at this;rw[a];exact this
section
open Go.ChangeShapes Go.WideShapes
def aa6(a:HN):aq tz 18 [] a (.l true) a:=blind jG (i:=137) (n:=300) (gf (by kernel_rfl)) (by kernel_rfl)
def R3:0<tz.globals.size:=gf (by kernel_rfl)
def ac5{T:By}(b:N T<=9223372036854775807):∃v a,aq tz 5 [.s (N T) (aY T)] (zx tz pS []) v a/\v=.l true:=
 ac6 aa6 (λe v Q d a c h=>aeP e v Q d a c h) (by unfold zx;dsimp only;rw[ae R]) R3 b
def AO:L (String×DataW Unit):=[("math/bits.deBruijn32tab",Rows.laid_math_bits_deBruijn32tab),("math/bits.deBruijn64tab",Rows.laid_math_bits_deBruijn64tab),("internal/strconv.uint64pow10",Rows.laid_internal_strconv_uint64pow10)]
def ae9:(AO.filter λx=>x.1== "internal/strconv.uint64pow10")=[("internal/strconv.uint64pow10",Lib.tabData .u64 Lib.pow10Tab)]:=by kernel_rfl
def ai8{W:World}(h:laidMetH tz AO W):∃a,∀f,CR f true pS 0 0 a W:=by
 have q:=h.filter λx=>x.1== "internal/strconv.uint64pow10";rw[ae9,Go.MakeChecks.laidMetH_plain _ _ _ (by kernel_rfl)] at q;have a:Lib.TabIs tz W "internal/strconv.uint64pow10" .u64 Lib.pow10Tab:=
  Lib.tabIs_of_head (g:=0) (t:=308) (e:=267) (n:=20) (by kernel_rfl) (by kernel_rfl) Tryz.underlying308 Tryz.underlying267 (by kernel_rfl) (by kernel_rfl) q
 have d:∀i,i<20->W.cell? ⟨0,i,none⟩=some (.int .u64 ((10^i:Nat):Int)):=λi b=>by
  rw[<-Lib.pow10Tab_at i b];exact a.cell (g:=0) (by kernel_rfl) i (by rw[Lib.pow10Tab_length];exact b)
 unfold World.cell? at d;cases e:W.heap[(0:Nat)]? with
 |none=>have:=d 0 dc;rw[show W.heap[(⟨0,0,none⟩:Addr).block]?=none from e] at this;cases this
 |some a=>
  cases a with
  |cells c t a=>
   have d:∀i,i<20->c[i]?=some (Value.int .u64 ((10^i:Nat):Int)):=λi b=>by
    have:=d i b
    rw[show W.heap[(⟨0,i,none⟩:Addr).block]?=some (.cells c t a) from e] at this;exact this
   have g:20<=c.size:=by
    by_cases q:20<=c.size
    .exact q
    .have:=d 19 dc
     rw[Array.getElem?_eq_none (by omega)] at this;cases this
   refine⟨c.size,λf=>⟨c,t,a,e,R,by show 0+N pS<=c.size;rw[show N pS=20 from by unfold pS;simp];omega,λh=>(by cases h),λi a a=>?_⟩⟩;have b:=(xB.1 a).1;have b:i<20:=by
    have b:i<N pS:=b;rw[show N pS=20 from by unfold pS;simp] at b;exact b
   refine⟨_,by rw[gg];exact d i b,?_,R⟩;rw[YE b] at a;cases a;have a:10^i<18446744073709551616:=Eu (Ou dc (show i<=19 by omega)) dc;exact jP.2 ⟨a,(HG (k:=.u64) a).s▸rfl⟩
  |_=>have:=d 0 dc;rw[show W.heap[(⟨0,0,none⟩:Addr).block]?=_ from e] at this;cases this
end
section
open Go.ChangeShapes Go.WideShapes
section
def Kept.E9{w b:World}(h:Kept w b)(a:MemPlace->Prop):w.keptBut b a:=by
 refine⟨h.2.2.2.1,h.2.2.2.2,λi a=>?_⟩;rw[h.2.1 i a];grind
variable {H:Type}{enc:TypeId×Value->H}{P:Program}
def ahw{f:Func}{s:ChangeSpec}{d g c:Bool}{W i:World}{e:Array Value}{v:Value}{j k:L (DataW H)}{a l m:L MemPlace}
  (n:DataW.Whole enc P f.params.toList s.vars d W e.toList j k a)
  (b:∀(b:Nat) (h:Nat->Bool),DataW.TrodAll enc P i b h c f.resultTypes.toList (v.resultList f.resultTypes.size) (s.fn H (j++k)).results [])
  (b:∀h:Nat->Bool,(∀p∈a,h p.block=true)->DataW.TrodAll enc P i 0 h true f.params.toList e.toList (s.fn H (j++k)).args l)
  (b:∀h:Nat->Bool,(∀p∈a,h p.block=true)->DataW.TrodVars enc P i h s.vars (s.fn H (j++k)).vars m)
  (b:a=l++m) (h:Kept W i):s.post enc P f d g c false W e v i:=by
 have b:∀p∈a,de (p.block<W.heap.size)=true:=λp b=>aB (n.lt p b);exact⟨j,k,a,[],l,m,n,J,J,J,h.E9 _,nofun⟩
end
end
end
end Go.Proofs.YtehahhggpdhieaaGreatDoor
