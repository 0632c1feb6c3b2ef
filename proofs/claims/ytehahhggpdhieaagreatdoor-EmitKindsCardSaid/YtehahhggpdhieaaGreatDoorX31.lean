/- Lemmas of the walk of EmitKinds are proved. Conditions: none. -/
import Derived.Test.YtehahhggpdhieaaGreatDoorX30
namespace Go.Proofs.YtehahhggpdhieaaGreatDoor
set_option maxRecDepth 100000
set_option maxHeartbeats 32000000
set_option linter.all false
section
variable {y:AV}{g:AV->HN->Prop}{p:ES}{d e:HN}{z:L AV}{a b f h q:Nat}{o:Nat->Nat}{n:Nd}
def AU(a d b:Nat):Nat->Nat:=λc=>if c=a then 1 else if c=d then 2 else if c=b then 3 else 0
def ba.start{g e:Nat}{l:S}{c h k m:AV}(n:d.f q=LL [l,c,h,k,m,a,.e,.e,.e,.e,.e,.e,.map g,.map e,.e,.e,.e])(j:d.f g=.mp [])(i:d.f e=.mp [])
  (b:f<=g) (b:g<e) (b:e<q) (b:q<d.h) (o:∀b,c≠.l b):ba f q ⟨l,c,h,k,m,a,λ_=>.e,g,e⟩ (AU q g e) [] [] (λ_=>none) hX d:=by
 refine⟨⟨[],[],⟨n,nine .nil .nil .nil .nil .nil .nil .nil .nil .nil,λk _ c h=>h.elim,λ_ _=>.inl R,nine (.inl R) (.inl R) (.inl R) (.inl R) (.inl R) (.inl R) (.inl R) (.inl R) (.inl R),ae R,?_,?_,λc h=>?_,⟨_,j⟩,⟨_,i⟩,o⟩,R,R⟩,⟨[],j,(λ_ h=>by cases h),vV.nil⟩,⟨[],i,(λ_ h=>by cases h),λ_=>R⟩⟩
 .exact(ac (by show¬g=q;omega)).t (ae R)
 .exact(ac (by show¬e=q;omega)).t ((ac (by show¬e=g;omega)).t (ae R))
 .unfold AU at h;by_cases b:c=q
  .omega
  .rw[ac b] at h;by_cases b:c=g
   .omega
   .rw[ac b] at h;by_cases b:c=e
    .omega
    .rw[ac b] at h;exact absurd R h
def rO(o:Nat->Nat)(a:HN)(n:Nd)(M:S->Option AV)(l:L aX):Prop:=∀s,match l.reverse.find? λq=>decide (q.n=s) with
 |some q=>∃z,M s=some (.g z)/\mJ o a (dr n q.n q.e) z
 |none=>M s=none
def Ih:L AV:=[.s 0 0,.s 0 0,II 0,II 0,.e,.e,.e,false]
def rO.nil{U:HN}:rO o U n (λ_=>none) []:=λ_=>R
def rO.snoc{M:S->Option AV}{l:L aX}(h:rO o d n M l)(i:d.h<=e.h)(K:∀c,c<d.h->o c<=12->e.f c=d.f c)(b:∀c,c<d.h->e.f c=d.f c\/eM (d.f c)){q:aX}(r:mJ o e (dr n q.n q.e) z):rO o e n (λs=>if s=q.n then some (.g z) else M s) (l++[q]):=λs=>by
 rw[List.reverse_append,Iy,List.reverse_nil,dH,List.singleton_append,List.find?_cons];by_cases a:q.n=s
 .rw[aB a];exact⟨z,ae a.s,r⟩
 .rw[aA a]
  have:=h s
  revert this;cases l.reverse.find? λq=>decide (q.n=s) with
  |none=>exact λg=>(ac λh=>a h.s).t g
  |some p=>exact λ⟨z,c,f⟩=>⟨z,(ac λh=>a h.s).t c,f.fv i K b λ_ _=>R⟩
def rO.step{a:Nat->Nat}{U:HN}{M:S->Option AV}{l:L aX}(s:bh U o e a)(h:rO o U n M l):rO a e n M l:=λt=>by
 have:=h t
 revert this;cases l.reverse.find? λq=>decide (q.n=t) with
 |none=>exact id
 |some p=>exact λ⟨z,a,b⟩=>⟨z,a,b.step s⟩
def rO.look{M:S->Option AV}(h:rO o d n M n.r)(s:S):∃z,sN false (.g Ih) (M s)=.g z/\mJ o d (dB n s) z:=by
 have:=h s
 unfold dB;revert this;cases n.r.reverse.find? λq=>decide (q.n=s) with
 |none=>exact λg=>⟨Ih,by rw[g];rfl,0,0,by show dO 0 0 d T0 Ih;unfold T0 dO;exact⟨.e,.e,[],0,R,.inl dy,ak _,by unfold eh;exact⟨R,ak _⟩,.inl ⟨R,R,ak _⟩⟩,aJ _,λc _ h=>Y⟩
 |some p=>exact λ⟨z,a,b⟩=>⟨z,by rw[a];rfl,b⟩
def abg(n:Nd)(a:S->Nat)(s:S)(r:L S)(b:ES):jQ n a (s::r) b=if 8192<N (eE (.o ⟨1,a s,(bu n a (dB n s) b).1,0⟩) (bu n a (dB n s) b).2).j then none else jQ n a r (eE (.o ⟨1,a s,(bu n a (dB n s) b).1,0⟩) (bu n a (dB n s) b).2):=R
def ac2{f:Nat}(h:jQ n (aL n) ((gR n).getD []) (eW n)=none):qm n f=none:=by unfold qm;rw[h]
def Vb(a:S->Nat)(v:Vr):∀(l:L Vr) (i:Nat) (b:ES),gH a (l++[v]) i b=eE (.o ⟨5,i+N l,a v.n,0⟩) (gH a l i b)
 |[],i,b=>rfl
 |w::l,i,b=>by
  rw[fc];show gH a (l++[v]) (i+1) _=eE _ (gH a l (i+1) _);rw[Vb a v l,bt,show i+1+N l=i+(N l+1) by omega]
def Va(b:S->Nat):∀(l:L Vr) (i:Nat) (a:ES),N (gH b l i a).j=N a.j+N l
 |[],_,a=>rfl
 |v::l,i,a=>by
  show(gH b l (i+1) (eE _ a)).j.length=_
  rw[Va b l,bt]
  have:N (eE (.o ⟨5,i,b v.n,0⟩) a).j=N a.j+1:=by show(a.j++[_]).length=_;rw[ay];rfl
  omega
def Q5(n:Nd)(a:ES):PD:=⟨n.ins.map Vr.z,n.o.map Vr.z,a.an,a.y,a.s,a.l++a.j.map (eA (N a.l))⟩
def ac3{f:Nat}(h:jQ n (aL n) ((gR n).getD []) (eW n)=some p):qm n f=if 1024<N (gH (aL n) n.o 0 (ig n (aL n) f p)).an\/1024<N (gH (aL n) n.o 0 (ig n (aL n) f p)).y\/1024<N (gH (aL n) n.o 0 (ig n (aL n) f p)).s\/8192<N (gH (aL n) n.o 0 (ig n (aL n) f p)).l+N (gH (aL n) n.o 0 (ig n (aL n) f p)).j then none else some (Q5 n (gH (aL n) n.o 0 (ig n (aL n) f p))):=by
 unfold qm;rw[h]
 show(if _\/_\/_\/8192<N (_++List.map _ _) then none else some _)=_
 rw[ay,aC]
 rfl
def Xm{l:L aQ}(h:aK 4 d y (l.map aQ.cells))(j:d.f b=LL [.e,.e,.e,.e,.e,.e])(n:d.h<=e.h)(k:∀c,c<d.h->c≠b->e.f c=d.f c):aK 4 e y (l.map aQ.cells):=by
 by_cases f:l=[]
 .rcases h with h|⟨g,off,cap,o,row,rfl,a,i,r⟩
  .exact .inl h
  .rw[f];exact .inl ⟨R,.inr ⟨_,_,_,R⟩⟩
 .refine Xs h n λc m i=>k c i λi=>?_;rcases h with⟨h,_⟩|⟨g,off,cap,o,row,rfl,a,o,_,_,o⟩
  .exact f (Od.1 h)
  .obtain rfl:g=c:=m;rw[i,j] at a;injection a with _ a
   obtain⟨i,r,rfl⟩:=zN f
   have:II i.o∈(row.drop off).take (N ((i::r).map aQ.cells)*4):=by rw[o];exact gN
   have:=Iv (rE this)
   rw[<-a] at this;simp at this
def eM.none:eM .none:=⟨(by intro h;cases h),λ_ _ _ h=>(by cases h)⟩
def agR(a:match gR n with|some o=>ce h d y (ci o)|none=>y=.e):ce h d y (ci ((gR n).getD [])):=by
 cases e:gR n with
 |none=>rw[e] at a;exact .inl ⟨a,R⟩
 |some o=>rw[e] at a;exact a
def ED(n:Nd)(a:S->Nat):L S->ES->Prop
 |[],_=>True
 |s::r,b=>PT n (dB n s)/\qe (bu n a (dB n s) b).2/\(¬8192<N (eE (.o ⟨1,a s,(bu n a (dB n s) b).1,0⟩) (bu n a (dB n s) b).2).j->ED n a r (eE (.o ⟨1,a s,(bu n a (dB n s) b).1,0⟩) (bu n a (dB n s) b).2))
def OW(n:Nd)(f:Nat)(a:ES):Prop:=qe (ig n (aL n) f a)/\N (cF n (aL n) f 0 [] a).2.late<=f/\(∀x∈(cF n (aL n) f 0 [] a).2.late,PT n x.2.2)/\(∀x∈(cF n (aL n) f 0 [] a).1,N (iu x.2.2)<=100000)/\(∀x∈(cF n (aL n) f 0 [] a).2.f,N x.2<=100000)/\
 qe (gH (aL n) n.o 0 (ig n (aL n) f a))/\∀i∈(gH (aL n) n.o 0 (ig n (aL n) f a)).j,i.o=19\/i.o=20->i.a<=900000000000
def ac1(r:dL (λc=>c<d.h) d n z)(a8:eG n)(hl:N (am n)<=900000)(m7:∀q∈n.r,∃c,fC n q.e=.inr c)(i7:ED n (aL n) ((gR n).getD []) (eW n))(j1:∀s,aL n s<N (eW n).an)
  (n0:N ((gR n).getD [])<=4294967296) {f:Nat} (e9:∀st,jQ n (aL n) ((gR n).getD []) (eW n)=some st->OW n f st) (k0:qm n f=none->∀h,ai d.h d h->g (.t [.g [.e,.e,.e,.e,.e,.e],II 2]) h)
  (k1:∀p,qm n f=some p->∀o y1 y2 y3 y4 y5 h,cD 1 h o (N p.ins) (p.ins.map iv)->cD 1 h y1 (N p.o) (p.o.map iv)->cD 1 h y2 (N p.an) (p.an.map iv)->cD 1 h y3 (N p.y) (p.y.map iv)->cD 1 h y4 (N p.s) (p.s.map iv)->aK 4 h y5 (p.j.map aQ.cells)->ai d.h d h->g (.t [.g [o,y1,y2,y3,y4,y5],II 0]) h):
   ∃o h,aq Tryz.prog 41 [z] d o h/\g o h:=by
 have r':=r;obtain⟨y1,y2,y3,y4,rfl,⟨f1,f2,f3,f4⟩,r1,r2,r3,-⟩:=r';refine cf Wi Tryz.func41 ?_;simp(disch:=omega)only[go_sem,sV,bF];obtain⟨W,o⟩:∃W,W=(((((d.X (LL [n.n,y1,y2,y3,y4,n.a])).X (LL [.e,.e,.e,.e,.e,.e])).X (.mp [])).X (.mp [])).X (LL [n.n,y1,y2,y3,y4,n.a,.e,.e,.e,.e,.e,.e,.map (d.h+1+1),.map (d.h+1+1+1),.e,.e,.e])):=⟨_,R⟩;have EW:ai d.h d W:=by rw[o];exact ap (ap (ap (ap (ap (.refl _ _)))))
 have p:W.h=d.h+5:=by rw[o];rfl
 have w0:W.f d.h=LL [n.n,y1,y2,y3,y4,n.a]:=by rw[o];simp(disch:=omega)only[go_sem]
 have w1:W.f (d.h+1)=LL [.e,.e,.e,.e,.e,.e]:=by rw[o];simp(disch:=omega)only[go_sem]
 have w2:W.f (d.h+1+1)=.mp []:=by rw[o];simp(disch:=omega)only[go_sem]
 have w3:W.f (d.h+1+1+1)=.mp []:=by rw[o];simp(disch:=omega)only[go_sem]
 have w4:W.f (d.h+1+1+1+1)=LL [n.n,y1,y2,y3,y4,n.a,.e,.e,.e,.e,.e,.e,.map (d.h+1+1),.map (d.h+1+1+1),.e,.e,.e]:=by rw[o];simp(disch:=omega)only[go_sem]
 rw[<-o];clear o;have M0:=ba.start (f:=d.h) w4 w2 w3 (by omega) (by omega) (by omega) (by omega) (λb e=>by rcases r1 with⟨_,q|⟨_,_,_,q⟩⟩|⟨_,_,_,_,_,q,_⟩<;>rw[q] at e<;>cases e);have I:∀c,(c<d.h+2\/d.h+5<=c)->AU (d.h+1+1+1+1) (d.h+1+1) (d.h+1+1+1) c=0:=λc l=>by
  unfold AU;rw[ac (by omega),ac (by omega),ac (by omega)]
 have N0:rK (AU (d.h+1+1+1+1) (d.h+1+1) (d.h+1+1+1)) W ⟨n.n,y1,y2,y3,y4,n.a,λ_=>.e,d.h+1+1,d.h+1+1+1⟩ n:=
  se (λb hb _=>EW.2 b hb) EW.1 (λb hb=>⟨I b (.inl (cW hb (du _ _))),cW hb EW.1⟩) r
 obtain⟨O,o⟩:∃O,O=d.h+1+1+1+1:=⟨_,R⟩;rw[<-o] at M0 N0 I|-;generalize AU O (d.h+1+1) (d.h+1+1+1)=o at*;refine al (acK M0 N0 hl λv1 o1 g0 W o p=>?_);have N1:=N0.step o p;have n1:=o.h;have k0:g0.f d.h=LL [n.n,y1,y2,y3,y4,n.a]:=(o.same _ (by omega) (.inl (I _ (.inl (by omega))))).t w0;have k1:g0.f (d.h+1)=LL [.e,.e,.e,.e,.e,.e]:=(o.same _ (by omega) (.inl (I _ (.inl (by omega))))).t w1;have p0:o1 d.h=0:=(o.C _ (by omega)).t (I _ (.inl (by omega)));have p3:o1 (d.h+1)=0:=(o.C _ (by omega)).t (I _ (.inl (by omega)));have s1:v1.n=n.n:=p.1;have s2:v1.d=y1:=p.2.1;have s3:v1.w=y2:=p.2.2.1;have s4:v1.b=y3:=p.2.2.2.1;have s5:v1.e=y4:=p.2.2.2.2.1;have s6:v1.a=n.a:=p.2.2.2.2.2.1;have e1:∀c,c<d.h->g0.f c=d.f c/\o1 c=0:=λc l=>⟨(o.same c (by omega) (.inl (I c (.inl (by omega))))).t (EW.2 c l),(o.C c (by omega)).t (I c (.inl (by omega)))⟩;have o5:∀b,g0.h<=b->o1 b=0:=λb hb=>W.free hb;clear p o N0 M0 w0 w1 w2 w3 w4 r r1 r2 r3 I;have o:dL tt g0 n [n.n,y1,y2,y3,y4,n.a]:=by have:=N1.tt;rw[s1,s2,s3,s4,s5,s6] at this;exact this
 refine S1 k0 ?_;refine al (agV o a8 λyo u ro E2=>?_);have ro:=agR ro;have p:=E2.1;have M2:=W.X E2;have N2:=N1.step (.ext E2) (.refl v1);have k2:=(E2.2 _ (by omega)).t k0;have j2:=(E2.2 _ (by omega)).t k1;clear W N1 o k0 k1;obtain⟨K,g6⟩:∃K,K=u.h:=⟨_,R⟩;obtain⟨k,Z⟩:∃k,k=u.X (.mp []):=⟨_,R⟩;have o:k.h=K+1:=by rw[Z,g6];rfl
 have E3:ai u.h u k:=by rw[Z];exact ap (.refl _ _)
 have t3:fL k K λ_=>none:=by rw[Z,g6];exact fL.X
 have i9:=(E3.2 _ (by omega)).t k2;have e8:=(E3.2 _ (by omega)).t j2;have j8:ce g0.h k yo (ci ((gR n).getD [])):=by
  rcases ro with i5|⟨b,g1,g2,g3,g4,g5⟩
  · exact .inl i5
  · exact .inr ⟨b,g1,cW g2 E3.1,g3,g4,(E3.2 _ g2).t g5⟩
 obtain⟨o2,o⟩:∃o2:Nat->Nat,o2=λc=>if c=K then 13 else o1 c:=⟨_,R⟩
 have c8:o2 K=13:=by rw[o];exact ae R
 have a7:∀c,c≠K->o2 c=o1 c:=λc l=>by rw[o];exact ac l
 clear o;have M3:ba d.h O v1 o2 (n.ins.map Vr.z) [] (iA (am n) 0 λ_=>none) (eW n) k:=M2.fv E3.1 (λc l _=>E3.2 c l) (λc l=>.inl (E3.2 c l)) (λc l=>a7 c (by omega)) λc l=>by
  by_cases e:c=K
  · omega
  · rw[a7 c e] at l
    have:=M2.vp c l
    omega
 have N3:rK o2 k v1 n:=se (λb _ hn=>E3.2 b hn) E3.1 (λb hb=>⟨by rw[a7 b (by omega)];exact hb.1,by omega⟩) N2;have o:=N3;obtain⟨x1,x2,x3,x4,e4,⟨_,_,_,F4⟩,_,_,_,ls,r4,q4⟩:=o;have e4:v1.e=x4:=by injection e4 with _ e;injection e with _ e;injection e with _ e;injection e with _ e;injection e with e _
 rw[<-e4,s5] at r4 F4;clear e4;have p:=(lS q4).1;have o:=a8.2.2.2.2.1;have o:=λh e w=>bI (e:=h) r4 p (by omega) e w;refine S2 k2 o ?_;rw[<-Z,<-g6];clear Z M2 N2 k2 j2;have kk:∀t,k.h<=t.h->(∀c,c<k.h->c≠K->t.f c=k.f c)->ba d.h O v1 o2 (n.ins.map Vr.z) [] (iA (am n) 0 λ_=>none) (eW n) t/\rK o2 t v1 n:=λt a1 a2=>by
  refine⟨M3.fv a1 (λc l b2=>a2 c l λe=>by rw[e,c8] at b2;omega) (λc l=>?_) (λc l=>R) (λc l=>?_),se (λb hb hn=>a2 b hn λe=>by rw[e,c8] at hb;omega) a1 (λb hb=>⟨hb.1,by omega⟩) N3⟩
  · by_cases e:c=K
    .obtain⟨es,he,_⟩:=t3;rw[e,he];exact .inr .mp
    .exact .inl (a2 c l e)
  · have:=M3.vp c l;omega
 obtain⟨I,hI⟩:=inv λm F t=>∃i M,m=N n.r-i/\i<=N n.r/\(F 1=.p d.h 0/\F 2=.p (d.h+1) 0/\F 4=.p O 0/\F 5=yo/\F 7=.map K/\F 29=y4/\F 30=II (N n.r)/\F 31=II i)/\k.h<=t.h/\(∀c,c<k.h->c≠K->t.f c=k.f c)/\fL t K M/\rO o2 t n M (n.r.take i);refine aT I (N n.r) ((hI _ _ _).2 ⟨0,λ_=>none,R,aJ _,dy,ak _,λ_ _ _=>R,t3,rO.nil⟩) ?_;intro m F t o;obtain⟨i,M,m9,o,⟨p1,p2,U,p5,p7,c9,e0,e3⟩,n4,K4,t4,i0⟩:=(hI _ _ _).1 o;obtain⟨M4,N4⟩:=kk t n4 K4;have h0:=(K4 _ (by omega) (by omega)).t i9;by_cases B:i<N n.r
 .have o:=N4;obtain⟨x1,x2,x3,x4,e4,⟨_,_,_,F4⟩,_,_,_,ls,r4,q4⟩:=o;have e4:v1.e=x4:=by injection e4 with _ e;injection e with _ e;injection e with _ e;injection e with _ e;injection e with e _
  rw[<-e4,s5] at r4 F4;clear e4;obtain⟨p,o⟩:=sh q4 i B;have W:N ls=N n.r:=(lS q4).1;obtain⟨I,o9,I,I,j9,e1,g8,I,I,V⟩:=r4.at p;rw[W] at e1;obtain⟨c,ec⟩:=m7 _ (aU B);have j3:=a8.2.2.2.2.2 _ (aU B);have j0:=dt B;obtain⟨q,p⟩:∃q,q=n.r[i]:=⟨_,R⟩;rw[<-p] at o ec j3 j0;have j5:=o;obtain⟨p,i4,re⟩:=o;obtain⟨g1,g2,g3,g4,g5,rfl⟩:=cJ re;rw[i4] at V;have V:(j9.drop (o9+i*7)).take 7=[.s q.n.1 q.n.2,.s g1.1 g1.2,.s g2.1 g2.2,II g3,II g4,g5,II q.a]:=V;rw[e1] at c9;refine S8 p1 p7 c9 e0 e3 g8 V h0 ?_;obtain⟨V,o⟩:∃V,V=t.X (LL [q.n,g1,g2,g3,g4,g5,q.a]):=⟨_,R⟩;have p:ai t.h t V:=by rw[o];exact ap (.refl _ _)
  have I:V.h=t.h+1:=by rw[o];rfl
  have vb:V.f t.h=LL [q.n,g1,g2,g3,g4,g5,q.a]:=by rw[o];exact ae R
  have W:=(p.2 _ (by omega)).t h0;rw[<-o];clear o;have N5:=(N4.step (.ext p) (.refl v1)).tt;rw[s1,s2,s3,s4,s5,s6] at N5;have o:uf tt V q [q.n,g1,g2,g3,g4,g5,q.a]:=by have:=Hl (F:=λc=>o2 c=0/\c<t.h) (G:=tt) (λb _ hn=>p.2 b hn) p.1 (λ_ _=>trivial) j5;rw[i4] at this;exact this
  refine bL (YQ N5 a8 o j3 ec λz' o V I=>?_);have n5:=I.1;have b9:ai t.h t o:=aM p I;have t5:=t4.eq (b9.2 K (by omega));obtain⟨es,eu,t6⟩:=t5.mE q.n (.g z');have b7:=(I.2 _ (by omega)).t vb;have p:=(I.2 _ (by omega)).t W;have p:mJ o2 o (dr n q.n q.e) z':=⟨_,_,V,ak _,λc a1 a2=>M4.free (by omega)⟩;obtain⟨C,P⟩:∃C,C=o.put K (.mp es):=⟨_,R⟩;have n6:C.h=o.h:=by rw[P];rfl
  have K6:∀c,c≠K->C.f c=o.f c:=λc l=>by rw[P];exact ac l
  rw[<-P] at eu t6;clear P;have i1:=(K6 _ (by omega)).t b7;have k4:mJ o2 C (dr n q.n q.e) z':=by
    obtain⟨I,o,h1,h2,h3⟩:=p;obtain⟨k6,g9,_⟩:=t5;exact⟨I,o,Bj (λ_ _ i5=>uQ i5 (λb hb=>by
     by_cases e:b=K
     .rw[e,g9];exact .inr .mp
     .exact .inl (K6 b e)) (by omega)) (by omega) (λb a1 a2 o=>K6 b λe=>by have:=h3 b a1 a2;rw[e,c8] at this;cases this) h1,by omega,h3⟩
  have o:=i0.snoc (e:=C) (q:=q) (z:=z') (by omega) (λc l b2=>(K6 c λe=>by rw[e,c8] at b2;omega).t (b9.2 c l)) (λc l=>by
    by_cases e:c=K
    .obtain⟨k6,g9,_⟩:=t4;rw[e,g9];exact .inr .mp
    .exact .inl ((K6 c e).t (b9.2 c l))) k4
  rw[<-j0] at o;refine S5 e3 vb b7 i1 eu ?_;refine⟨N n.r-(i+1),by omega,(hI _ _ _).2 ⟨i+1,_,R,B,⟨by exact p1,by exact p2,by exact U,by exact p5,by exact p7,by rw[e1];exact c9,by exact e0,R⟩,by omega,λc a1 a2=>(K6 c a2).t ((b9.2 c (by omega)).t (K4 c a1 a2)),t6,o⟩⟩
 .obtain rfl:i=N n.r:=by omega
  rw[iM (ak _)] at i0;have o0:∀b,g0.h<=b->b<K->o2 b=0:=λb a1 a2=>(a7 b (by omega)).t (o5 b a1);have h8:ce g0.h t yo (ci ((gR n).getD [])):=j8.aR n4 λb _ a1 a2=>K4 b a1 λe=>by
    obtain⟨es,he,_⟩:=t3;rw[e,he] at a2;cases a2
  have m0:∀b,ar yo b->o2 b=0:=λb hb=>by
    obtain⟨a1,a2,-⟩:=ro.bT hb;exact o0 b a1 (by omega)
  have h1:=(K4 _ (by omega) (by omega)).t e8;have e2:∀c,c<d.h->t.f c=d.f c/\o2 c=0:=λc l=>⟨(K4 c (by omega) (by omega)).t ((E3.2 c (by omega)).t ((E2.2 c (by omega)).t (e1 c l).1)),(a7 c (by omega)).t (e1 c l).2⟩;have q0:o2 d.h=0:=(a7 _ (by omega)).t p0;have q1:o2 (d.h+1)=0:=(a7 _ (by omega)).t p3;clear kk K4 M3 N3 t3 ro j8 i9 e8;obtain⟨y,b0⟩:∃y,y=(gR n).getD []:=⟨_,R⟩;rw[<-b0] at h8 i7 n0;have o:∀(h:HN) (e w:Nat),eF (.a e 1 w) yo h=.ok (II (N y)) h:=λh e w=>bI h8.rd (by rw[aC];exact aC _) (by omega) e w;refine S4 p5 e0 e3 o ?_;obtain⟨J,hJ⟩:=inv λm F a0=>∃(i:Nat) (a:cK) (o3:Nat->Nat) (st:ES),m=N y-i/\i<=N y/\(F 1=.p d.h 0/\F 2=.p (d.h+1) 0/\F 4=.p O 0/\F 7=.map K/\F 45=yo/\F 46=II (N y)/\F 47=II i)/\ba d.h O a o3 (n.ins.map Vr.z) [] (iA (am n) 0 λ_=>none) st a0/\bh t o2 a0 o3/\fh v1 a/\jQ n (aL n) (y.drop i) st=jQ n (aL n) y (eW n)/\ED n (aL n) (y.drop i) st/\N (eW n).an<=N st.an;refine aT J (N y) ((hJ _ _ _).2 ⟨0,v1,o2,eW n,R,aJ _,⟨by exact p1,by exact p2,by exact U,by exact p7,R,R,R⟩,M4,.refl,.refl v1,R,i7,ak _⟩) ?_;clear p1 p2 U p5 p7 c9 e0 e3;intro o o u o;obtain⟨j,a,o3,st,m9,hj,⟨p1,p2,U,p7,e5,e6,e7⟩,M5,T5,V5,eb,a5,h5⟩:=(hJ _ _ _).1 o;have n5:=T5.h;have N5:=N4.step T5 V5;have t5:=t4.eq (T5.same K (by omega) (.inr (by omega)));have k3:=i0.step T5;have l0:=(T5.same _ (by omega) (.inl q0)).t h0;have l9:=(T5.same _ (by omega) (.inl q1)).t h1;by_cases B:j<N y
  · obtain⟨b,i3,k8,gb,k9⟩:∃b,yo=.a b 0 (N y) (.B 1)/\b<t.h/\t.f b=LL (ci y)/\o2 b=0:=by
     rcases h8 with⟨_,i5⟩|⟨b,g1,g2,g3,g4,g5⟩
     .have:=dv List.length i5
      rw[fI,hN] at this;omega
     .rw[fI] at g3;exact⟨b,g3,g2,g5,m0 b (by rw[g3];rfl)⟩
    have I:=(T5.same _ k8 (.inl k9)).t gb;have o:(ci y)[j]?=some (.s y[j].1 y[j].2):=by
     unfold ci;rw[pF,bM B];rfl
    rw[i3] at e5;rw[eJ B] at eb a5;obtain⟨s,b⟩:∃s,s=y[j]:=⟨_,R⟩;rw[<-b] at o eb a5;obtain⟨W,h9,a5⟩:=a5;rw[abg] at eb;have i6:u.f O=LL [a.n,a.d,a.w,a.b,a.e,a.a,a.y 0,a.y 1,a.y 2,a.y 3,a.y 4,a.y 5,.map a.m,.map a.c,a.y 6,a.y 7,a.y 8]:=by obtain⟨_,_,HH,_⟩:=M5.W;exact HH.D
    obtain⟨zt,p,p9⟩:=k3.look s;have b8:ai u.h u (u.at_ (u.h+(1+1+1+1+1+1+1+1+1+1+1+1+1+1))):=⟨du _ _,λ_ _=>R⟩;have h4:=λz=>((M5.X b8).mM.look s false z);have b:yQ (some kh) (some (.g [.s 0 0,.s 0 0,II 0,II 0,.e,.e,.e,false])) (.map K) (.s s.1 s.2) false (u.at_ (u.h+(1+1+1+1+1+1+1+1+1+1+1+1+1+1)))=.ok (.g zt) (u.at_ (u.h+(1+1+1+1+1+1+1+1+1+1+1+1+1+1))):=by
     rw[<-p];exact(t5.eq (a:=u.at_ (u.h+(1+1+1+1+1+1+1+1+1+1+1+1+1+1))) R).look s false (.g Ih)
    simp(disch:=omega)only[go_sem,U,p7,e5,e6,e7,I,o,i6,h4,wO,b];obtain⟨Z,o⟩:∃Z,Z=u.at_ (u.h+(1+1+1+1+1+1+1+1+1+1+1+1+1+1)):=⟨_,R⟩;rw[<-o] at b8 h4 b|-;have I:Z.h=u.h+14:=by rw[o];rfl
    clear o;obtain⟨H,eN⟩:∃H,H=u.h+(1+1+1+1+1+1+1+1+1+1+1+1):=⟨_,R⟩;obtain⟨o4,b⟩:∃o4:Nat->Nat,o4=λc=>if c=H then 13 else o3 c:=⟨_,R⟩
    have V:o4 H=13:=by rw[b];exact ae R
    have o:∀c,c≠H->o4 c=o3 c:=λc l=>by rw[b];exact ac l
    clear b;obtain⟨b,p⟩:∃b:HN,b=⟨Z.h,λc=>if c=H then .none else Z.f c⟩:=⟨_,R⟩;have K:b.h=u.h+14:=by rw[p];exact I
    have I:∀c,c<u.h->b.f c=u.f c:=λc l=>by rw[p];exact(ac (by omega)).t (b8.2 c l)
    have fY:b.f H=.none:=by rw[p];exact ae R
    have K:bh u o3 b o4:=⟨by omega,λc l _=>I c l,λc l=>o c (by omega),λc l=>.inl (I c l)⟩;have Z:ba d.h O a o4 (n.ins.map Vr.z) [] (iA (am n) 0 λ_=>none) st b:=M5.fv (by omega) (λc l _=>I c l) (λc l=>.inl (I c l)) (λc l=>o c (by omega)) λc l=>by
     by_cases e:c=H
     .have:=M5.base;omega
     .rw[o c e] at l
      have:=M5.vp c l
      omega
    refine QJ H 12 (by decide) R R R eN ?_;rw[<-p];clear p;refine Vn a8 _ W.1 W.2.1 W.2.2 b a o4 st zt _ Z (N5.step K (.refl a)) (p9.step K) (λs=>cW (j1 s) h5) h9 λv o6 D M6 T6 C=>?_;have n6:=T6.h;have o8:o6 H=13:=(T6.C H (by omega)).t V;have k7:D.f H=.none:=(T6.same H (by omega) (.inr (by omega))).t fY;have c5:bh u o3 D o6:=K.M T6;have b3:D.f O=LL [v.n,v.d,v.w,v.b,v.e,v.a,v.y 0,v.y 1,v.y 2,v.y 3,v.y 4,v.y 5,.map v.m,.map v.c,v.y 6,v.y 7,v.y 8]:=by obtain⟨_,_,HH,_⟩:=M6.W;exact HH.D
    have c7:v.m=a.m:=C.2.2.2.2.2.2.1;rw[c7] at b3;have b5:=λz=>(M6.mM.look s false z);rw[c7] at b5;have b:(bu n (sg (iA (am n) 0 λx=>none)) (dB n s) st).1=(bu n (aL n) (dB n s) st).1:=R;have b6:sg (iA (am n) 0 λx=>none) s=aL n s:=R;rw[b,b6];have M6:ba d.h O v o6 (n.ins.map Vr.z) [] (iA (am n) 0 λ_=>none) (bu n (aL n) (dB n s) st).2 D:=M6;have n9:=(vt n (aL n) (dB n s) st).V;generalize bu n (aL n) (dB n s) st=pp at*;refine S0 ?_;rw[<-eN];obtain⟨X,eX⟩:∃X,X=(((D.at_ H).X (LL [aL n s,pp.1])).at_ D.h):=⟨_,R⟩;have nX:X.h=D.h:=by rw[eX];rfl
    have b:∀c,c≠H->X.f c=D.f c:=λc l=>by rw[eX];exact ac l
    have fX:X.f H=LL [aL n s,pp.1]:=by rw[eX];exact ae R
    rw[<-eX];clear eX;have o:ba d.h O v o6 (n.ins.map Vr.z) [] (iA (am n) 0 λ_=>none) pp.2 X:=M6.fv (by omega) (λc l b2=>b c λe=>by rw[e,o8] at b2;omega) (λc l=>by
     by_cases e:c=H
     .rw[e,k7];exact .inr .none
     .exact .inl (b c e)) (λ_ _=>R) (λc l=>by have:=M6.vp c l;omega)
    have V:bh u o3 X o6:=c5.fv (by omega) (λc l=>b c (by omega)) λ_ _=>R;have b:cD 1 X (.a H 0 2 (.k 2)) (N [aL n s,pp.1]) ([aL n s,pp.1].map iv):=.inr ⟨H,0,_,false,_,R,fX,by omega,ak _,R,R⟩;refine bL (Q4 o (by have:=h9.2.2.2.1;omega) (e:=1) (c:=[aL n s,pp.1]) b (by show 2<=3;decide) λy7 o7 b M7 T7=>?_);have K:b.f O=LL [v.n,v.d,v.w,v.b,v.e,v.a,v.y 0,v.y 1,v.y 2,v.y 3,v.y 4,y7,.map v.m,.map v.c,v.y 6,v.y 7,v.y 8]:=by obtain⟨_,_,HH,_⟩:=M7.W;exact HH.D
    rw[c7] at K;have p:=λz=>(M7.mM.look s false z);rw[show(v.put 5 y7).m=a.m from c7] at p;have W:=(b8.2 _ (by have:=M5.base;omega)).t i6;have u:=h4;have c6:it (n.ins.map Vr.z) [] {pp.2 with j:=pp.2.j++[iR 1 [aL n s,pp.1]]} 5=N pp.2.j+1:=by show(pp.2.j++[_]).length=_;rw[ay];rfl
    have o:=h9.2.2.2.1;have Z:∀e w,eF (.a e 4 w) y7 b=.ok (II (N pp.2.j+1:Nat)) b:=λe w=>by
     obtain⟨o,o,HH,_⟩:=M7.W
     have:=HH.own 5 (by decide)
     rw[c6] at this;exact ze (e:=b) (a:=e) (w:=w) this (by omega)
    have I:bh t o2 b o7:=T5.M (V.M T7);have g7:=(I.same _ (by omega) (.inl q1)).t h1;have V:N (eE (.o ⟨1,aL n s,pp.1,0⟩) pp.2).j=N pp.2.j+1:=c6;have l8:∀c,c<d.h->b.f c=d.f c:=λc l=>(I.same c (by omega) (.inl (e2 c l).2)).t (e2 c l).1;by_cases o:8192<N pp.2.j+1
    .simp(disch:=omega)only[go_sem,p2,U,b3,b5,K,p,W,u,wO,b6,Z,g7,bF];rw[V,ae o,b0] at eb;exact k0 (ac2 eb.s) _ ⟨by show d.h<=b.h;have:=T7.h;omega,λc l=>(ac (by omega)).t (l8 c l)⟩
    .simp(disch:=omega)only[go_sem,U,e7,b3,b5,K,p,W,u,wO,b6,Z];rw[V,ac o] at eb;rw[V] at a5;exact⟨N y-(j+1),by omega,(hJ _ _ _).2 ⟨j+1,v.put 5 y7,o7,eE (.o ⟨1,aL n s,pp.1,0⟩) pp.2,R,B,⟨by exact p1,by exact p2,by exact U,by exact p7,by rw[i3];exact e5,by exact e6,R⟩,M7,I,V5.M (C.M (.put _ _ _)),eb,a5 o,bC h5 n9⟩⟩
  · obtain rfl:j=N y:=by omega
    rw[fQ] at eb;have eb:jQ n (aL n) ((gR n).getD []) (eW n)=some st:=by rw[<-b0];exact eb.s
    obtain⟨j6,b,o,p,u,j7,p6⟩:=e9 st eb;refine S3 U e6 e7 ?_;refine al (ah9 a8 M5 N5 (λs=>cW (j1 s) h5) j6 b o p u λv o6 D M6 T6 C=>?_);have N6:=N5.step T6 C;have c5:bh t o2 D o6:=T5.M T6;have l1:=(c5.same _ (by omega) (.inl q0)).t h0;have i2:=V5.M C;have M6:ba d.h O v o6 (n.ins.map Vr.z) [] (iA (am n) 0 λ_=>none) (ig n (aL n) f st) D:=M6;have b:=N6;obtain⟨x1,x2,x3,x4,ex,_,_,r6,_⟩:=b;have ex:v.w=x2:=by injection ex with _ e;injection e with _ e;injection e with e _
    rw[<-ex,i2.2.2.1,s3] at r6;clear ex;have b:=a8.2.2.1.1;have b:=λh e w=>bI (e:=h) r6 (jy _) (by omega) e w;refine S3 p1 l1 b ?_;have rx:∀k o3,bh D o6 k o3->aK 5 k y2 (n.o.map Vr.cells):=λk o3 T=>by
     obtain⟨x1,x2,x3,x4,ex,_,_,r6,_⟩:=N6.step T (.refl v);have ex:v.w=x2:=by injection ex with _ e;injection e with _ e;injection e with e _
     rw[<-ex,i2.2.2.1,s3] at r6;exact r6
    have b4:=ac3 (f:=f) eb;generalize ig n (aL n) f st=s1 at*;clear e9 M5 N5 T5 V5 N4 t5 k3 l0 l9 r6 T6 C a5;obtain⟨K,hK⟩:=inv λm F a0=>∃(i:Nat) (a:cK) (o3:Nat->Nat),m=N n.o-i/\i<=N n.o/\(F 1=.p d.h 0/\F 2=.p (d.h+1) 0/\F 4=.p O 0/\F 77=y2/\F 78=II (N n.o)/\F 79=II i)/\ba d.h O a o3 (n.ins.map Vr.z) ((n.o.take i).map Vr.z) (iA (am n) 0 λ_=>none) (gH (aL n) (n.o.take i) 0 s1) a0/\bh D o6 a0 o3/\fh v a;refine aT K (N n.o) ((hK _ _ _).2 ⟨0,v,o6,R,aJ _,⟨by exact p1,by exact p2,by exact U,R,R,R⟩,by rw[gO];exact M6,.refl,.refl v⟩) ?_;clear p1 p2 U p7 e5 e6 e7 M6;intro b b k b;obtain⟨i,a,o3,m,b,⟨p1,p2,U,j4,h6,h7⟩,M7,T7,V7⟩:=(hK _ _ _).1 b;have m:=rx _ _ T7;by_cases B:i<N n.o
    .obtain⟨b,b,b,b,b,ex,m6,b,b⟩:=pV m (by omega);obtain⟨m,k5⟩:=b i B;have eo:=Vb (aL n) n.o[i] (n.o.take i) 0 s1;have ek:(n.o.take (i+1)).map Vr.z=(n.o.take i).map Vr.z++[n.o[i].z]:=by rw[dt B,cM];rfl
     rw[<-dt B] at eo;have b:N (n.o.take i)=i:=by rw[dW];omega
     have m8:N ((n.o.take i).map Vr.z)=i:=by rw[aC,b]
     have c6:=Va (aL n) (n.o.take i) 0 s1;rw[b] at c6;rw[b,gg] at eo;generalize gH (aL n) (n.o.take i) 0 s1=p8 at*;generalize b:(n.o.take i).map Vr.z=po at*;generalize b:n.o[i]=w at*;have b:=M7.base;have g8:k.f O=LL [a.n,a.d,a.w,a.b,a.e,a.a,a.y 0,a.y 1,a.y 2,a.y 3,a.y 4,a.y 5,.map a.m,.map a.c,a.y 6,a.y 7,a.y 8]:=by obtain⟨_,_,HH,_⟩:=M7.W;exact HH.D
     obtain⟨V5,b⟩:∃V5,V5=k.X (LL [w.n,w.z,w.p,w.t,w.a]):=⟨_,R⟩;have u:ai k.h k V5:=by rw[b];exact ap (.refl _ _)
     have b7:V5.f k.h=LL [w.n,w.z,w.p,w.t,w.a]:=by rw[b];exact ae R
     have m:V5.h=k.h+1:=by rw[b];rfl
     have F:o3 k.h=0:=M7.free (ak _);have o:=M7.X u;obtain⟨K,V,v,D,I⟩:=o.W;refine S7 U j4 h6 h7 ex m6 k5 ?_;rw[<-b];clear b;refine S2 g8 b7 ?_;obtain⟨H,eN⟩:∃H,H=k.h+1+(1+1+1+1+1+1+1+1):=⟨_,R⟩;obtain⟨X,eX⟩:∃X,X=(((V5.at_ (k.h+1+(1+1+1+1+1+1+1+1))).X (LL [w.z])).at_ (k.h+1+(1+1+1+1+1+1+1+1+1+1+1+1+1+1))):=⟨_,R⟩;have t:ai V5.h V5 X:=by
      rw[eX];refine⟨by rw[m];exact du _ _,λc l=>ac (by show¬c=k.h+1+(1+1+1+1+1+1+1+1);omega)⟩
     have nX:X.h=k.h+15:=by rw[eX];rfl
     have fX:X.f H=LL [w.z]:=by rw[eX,eN];exact ae R
     rw[<-eX,<-eN];clear eX;obtain⟨b,o4,e4,f4,p,y⟩:=o.app v (k:=1) (s:=1) (w:=8) (n:=i) (by decide) R m8 (qp w.z []) t (sX fX (by omega) R) (by omega)
      (pi':=n.ins.map Vr.z) (po':=po++[w.z]) (st':=p8) (l6':=K) (l7':=V) (nine R (yU _ _) R R R R R R R) (nine R (by show(po++[w.z]).length=_;rw[ay];rfl) R R R R R R R) R (λ_ _ s=>D.step s) (λ_ _ s=>I.step s)
     rw[e4];have v:b.f O=LL [a.n,a.d,a.w,a.b,a.e,a.a,a.y 0,a.y 1,a.y 2,a.y 3,a.y 4,a.y 5,.map a.m,.map a.c,a.y 6,a.y 7,a.y 8]:=f4;refine S2 U v ?_;obtain⟨m,t⟩:∃m,m=a.put 1 (.a X.h 0 (i+1) (.B 1)):=⟨_,R⟩;obtain⟨C,P⟩:∃C,C=b.put O (LL [a.n,a.d,a.w,a.b,a.e,a.a,a.y 0,.a X.h 0 (i+1) (.B 1),a.y 2,a.y 3,a.y 4,a.y 5,.map a.m,.map a.c,a.y 6,a.y 7,a.y 8]):=⟨_,R⟩;have o:C=b.put O (LL (a.put 1 (.a X.h 0 (i+1) (.B 1))).cells):=P;rw[<-o,<-t] at p;rw[<-o] at y;rw[<-P];have T6:bh V5 o3 C o4:=y;have s:m.m=a.m:=by rw[t];rfl
     clear o f4 v e4 y;have D:fh a m:=by rw[t];exact .put _ _ _
     have i1:C.f k.h=LL [w.n,w.z,w.p,w.t,w.a]:=(T6.same _ (by omega) (.inl F)).t b7;have o:b.f k.h=LL [w.n,w.z,w.p,w.t,w.a]:=by
      have:=i1
      rw[P] at this;exact(ac (by omega)).s.t this
     have b3:C.f O=LL [m.n,m.d,m.w,m.b,m.e,m.a,m.y 0,m.y 1,m.y 2,m.y 3,m.y 4,m.y 5,.map m.m,.map m.c,m.y 6,m.y 7,m.y 8]:=by obtain⟨_,_,HH,_⟩:=p.W;exact HH.D
     have y:C.h=b.h:=by rw[P];rfl
     clear P;rw[s] at b3;have t:ai C.h C (C.at_ (b.h+(1+1+1+1+1+1+1+1+1+1+1))):=⟨by rw[y];exact du _ _,λ_ _=>R⟩;have k:=λz=>((p.X t).mM.look w.n false z);rw[s] at k;have b6:sg (iA (am n) 0 λx=>none) w.n=aL n w.n:=R;simp(disch:=omega)only[go_sem,o,k,wO,b6,fp,ft,bF];obtain⟨t,v⟩:∃t,t=b.h+(1+1+1+1+1+1+1+1+1):=⟨_,R⟩;obtain⟨o,k⟩:∃o,o=(((C.at_ (b.h+(1+1+1+1+1+1+1+1+1))).X (LL [i,aL n w.n])).at_ (b.h+(1+1+1+1+1+1+1+1+1+1+1))):=⟨_,R⟩;have s:ai C.h C o:=by
      rw[k];exact⟨by rw[y];exact du _ _,λc l=>ac (by show¬c=b.h+(1+1+1+1+1+1+1+1+1);omega)⟩
     have x:o.h=b.h+11:=by rw[k];rfl
     have b:o.f t=LL [i,aL n w.n]:=by rw[k,v];exact ae R
     rw[<-k,<-v];clear k;have k:cD 1 o (.a t 0 2 (.k 2)) (N [i,aL n w.n]) ([i,aL n w.n].map iv):=.inr ⟨t,0,_,false,_,R,b,by omega,ak _,R,R⟩;refine bL (Q4 (p.X s) (e:=5) (c:=[i,aL n w.n]) (by have:=j6.2.2.2.1;omega) k (by show 2<=3;decide) λp o b b k=>?_);refine S1 h7 ?_;refine⟨N n.o-(i+1),by omega,(hK _ _ _).2 ⟨i+1,m.put 5 p,o,R,B,⟨by exact p1,by exact p2,by exact U,by exact j4,by exact h6,R⟩,?_,T7.M ((bh.ext u).M (T6.M ((bh.ext s).M k))),V7.M (D.M (.put _ _ _))⟩⟩;rw[ek,eo];exact b
    .obtain rfl:i=N n.o:=by omega
     rw[iM (ak _)] at M7;have a9:=c5.M T7;have g7:=(a9.same _ (by omega) (.inl q1)).t h1;refine S3 U h6 h7 ?_;refine al (afA M7 j7 p6 λy8 a4 a6 q8 r8 K8 b=>?_);generalize gH (aL n) n.o 0 s1=s2 at*;obtain⟨b,b,b,b,b,-⟩:=j7;have b:=a9.h;have b:a4.f (d.h+1)=_:=(K8 _ (by omega) (.inl ((a9.C _ (by omega)).t q1))).t g7;have a6:a4.f O=LL [a.n,a.d,a.w,a.b,a.e,a.a,a.y 0,a.y 1,a.y 2,a.y 3,a.y 4,y8,.map a.m,.map a.c,a.y 6,a.y 7,a.y 8]:=a6;have i:=M7.base;have g2:=q8 2 (by decide);have g3:=q8 3 (by decide);have g4:=q8 4 (by decide);have i:∀h e w,eF (.a e 1 w) (a.y 2) h=.ok (II (N s2.an)) h:=λh e w=>ze (e:=h) (a:=e) (w:=w) g2 (by show N s2.an<=_;omega);have k:∀h e w,eF (.a e 1 w) (a.y 3) h=.ok (II (N s2.y)) h:=λh e w=>ze (e:=h) (a:=e) (w:=w) g3 (by show N s2.y<=_;omega);have m:∀h e w,eF (.a e 1 w) (a.y 4) h=.ok (II (N s2.s)) h:=λh e w=>ze (e:=h) (a:=e) (w:=w) g4 (by show N s2.s<=_;omega);have o:∀h e w,eF (.a e 4 w) y8 h=.ok (II (N s2.l+N s2.j:Nat)) h:=λh e w=>bI (e:=h) r8 (by rw[aC,ay,aC]) (by omega) e w;have h:∀r1 r2,ai d.h d ((a4.X r1).put (d.h+1) r2):=λr1 r2=>⟨by show d.h<=a4.h+1;omega,λc l=>(ac (by omega)).t ((ac (by omega)).t ((K8 c (by omega) (.inl ((a9.C _ (by omega)).t (e2 c l).2))).t ((a9.same c (by omega) (.inl (e2 c l).2)).t (e2 c l).1)))⟩;by_cases p:1024<N s2.an
     .refine S5 p2 U a6 b i ?_;exact k0 (b4.t (ae (.inl p))) _ (h _ _)
     by_cases p:1024<N s2.y
     .refine S6 p2 U a6 b i k ?_;exact k0 (b4.t (ae (.inr (.inl p)))) _ (h _ _)
     by_cases p:1024<N s2.s
     .refine S7 p2 U a6 b i k m ?_;exact k0 (b4.t (ae (.inr (.inr (.inl p))))) _ (h _ _)
     by_cases p:8192<N s2.l+N s2.j
     .refine S8 p2 U a6 b i k m o ?_;exact k0 (b4.t (ae (.inr (.inr (.inr p))))) _ (h _ _)
     refine S8 p2 U a6 b i k m o ?_;have k:o3 (d.h+1)=0:=(a9.C _ (by omega)).t q1;obtain⟨_,_,HH,_⟩:=M7.W;have kx:∀r1 r2 c,c<a4.h->c≠d.h+1->((a4.X r1).put (d.h+1) r2).f c=a4.f c:=λr1 r2 c h1 h2=>(ac h2).t (ac (by omega));have i:∀r1 r2 j,j<5->cD 1 ((a4.X r1).put (d.h+1) r2) (a.y j) (it (n.ins.map Vr.z) (n.o.map Vr.z) s2 j) (nK (n.ins.map Vr.z) (n.o.map Vr.z) s2 [] [] j):=λr1 r2 j hj=>by
      have q:=q8 j hj;refine(kG q (λc l=>kx r1 r2 c (cz q l).2 λe=>?_) (iC _)).rd
      have:=HH.C j (by omega) c l
      rw[e,k] at this;omega
     exact k1 (Q5 n s2) (b4.t (ac (by omega))) _ _ _ _ _ _ _ (i _ _ 0 (by decide)) (i _ _ 1 (by decide)) (i _ _ 2 (by decide)) (i _ _ 3 (by decide)) (i _ _ 4 (by decide)) (Xm r8 b (iC _) λc h1 h2=>kx _ _ c h1 h2) (h _ _)
end
section
variable {a:Nat}{w:Option dn}
section
mutual
def gu:Tr->Nat
 |.mk _ _ _ _ a=>1+ji a
def ji:List Tr->Nat
 |[]=>0
 |k::a=>gu k+ji a
end
def xn:ji []=0:=by unfold ji;rfl
def sr(k:Tr)(a:List Tr):ji (k::a)=gu k+ji a:=by conv=>lhs;unfold ji
def xm(d c:S)(n a:Nat)(b:List Tr):gu (.mk d c n a b)=1+ji b:=by conv=>lhs;unfold gu
def YC:∀(a b:List Tr),ji (a++b)=ji a+ji b
 |[],b=>by rw[dH,xn];omega
 |x::a,b=>by
  rw[fc,sr,sr,YC a b];omega
def Tp:∀{a b:List Tr},iU a->iU b->iU (a++b)
 |[],b,_,g=>g
 |x::a,b,h,g=>by
  rw[fc];unfold iU at h|-;exact⟨h.1,Tp h.2 g⟩
variable {L:List Wd}{p:PS}
def RF{a:Nat}:(iQ L a p).p=p.p:=by unfold iQ;split<;>rfl
def YF{s:S}:(fJ L s p).p=p.p:=by unfold fJ;split<;>rfl
def zH{s:S}:(aV L s p).p=p.p:=by
 unfold aV;split
 .rfl
 .exact RF
def vm:(aG L p).2.p=p.p:=by
 unfold aG;split
 .rfl
 .exact RF
def L7(h:(bf L p).e=0)(a:p.p<=300):(bf L p).p=p.p+1/\p.p+1<=300:=by
 have a:=L8 h;have h:(rZ L p).e=0:=h;have b:p.p<300:=by
  refine vQ λg=>?_;unfold rZ at h;rw[ae ⟨a,g,by omega⟩] at h;exact absurd h (tR dc)
 refine⟨?_,b⟩
 show(p.p+1)%18446744073709551616=p.p+1
 omega
def JN{s:S}(h:(cZ L s p).e=0)(b:p.p<=300):(cZ L s p).p=p.p+1/\p.p+1<=300:=by
 have a:=L7 (D7 h) b;unfold cZ;rw[YF];exact a
def Rc(q:Nat)(r:Tr×PS):Prop:=jf r.1/\r.2.p<=300/\gu r.1+q<=r.2.p
def qa(a:PS->Tr×PS):Prop:=∀p,(a p).2.e=0->p.p<=300->Rc p.p (a p)
def sv(G:Option dn):Prop:=match G with|none=>True|some F=>qa F.a/\qa F.f/\qa F.B/\qa F.p
def Gj{f:dn->Tr×PS}(a:(gm L w p f).2.e=0):p.e=0/\∃F,w=some F/\gm L w p f=f F:=by
 unfold gm qn at a|-;by_cases b:p.e=0
 .rw[ae b] at a|-;cases w with
  |none=>exact absurd a (tR dc)
  |some F=>grind
 .rw[ac b] at a;cases w with
  |none=>exact absurd a (tR dc)
  |some F=>exact absurd a b
def Da{b c:S}{n:Nat}(h:b=cX->n=0\/n=1):jf (.mk b c n a []):=by unfold jf iU;grind
def Tt{b c:S}{n:Nat}{x:Tr}(h:b≠cX)(d:jf x):jf (.mk b c n a [x]):=by unfold jf iU iU;grind
def Lp{b c:S}{n:Nat}{x y:Tr}(h:b≠cX)(d:jf x)(d:jf y):jf (.mk b c n a [x,y]):=by unfold jf iU iU iU;grind
def afu{b c:S}{n:Nat}{x y z:Tr}(h:b≠cX)(d:jf x)(d:jf y)(d:jf z):jf (.mk b c n a [x,y,z]):=by unfold jf iU iU iU iU;grind
def Fh{c b:S}{n:Nat}:gu (.mk c b n a [])=1:=by rw[xm,xn]
def PR{c b:S}{n:Nat}{x:Tr}:gu (.mk c b n a [x])=1+gu x:=by rw[xm,sr,xn];omega
def Jh{c b:S}{n:Nat}{x y:Tr}:gu (.mk c b n a [x,y])=1+gu x+gu y:=by rw[xm,sr,sr,xn];omega
def abp{c b:S}{n:Nat}{x y z:Tr}:gu (.mk c b n a [x,y,z])=1+gu x+gu y+gu z:=by rw[xm,sr,sr,sr,xn];omega
def Av(g:sv w):qa (dU L w):=λp a b=>by
 obtain⟨_,F,rfl,e⟩:=Gj (f:=λF=>F.a p) a;have a:(gm L (some F) p λF=>F.a p).2.e=0:=a;show Rc p.p (gm L (some F) p λF=>F.a p);rw[e] at a|-;exact g.1 p a b
def Si(g:sv w):qa (qX L w):=λp a b=>by
 obtain⟨_,F,rfl,e⟩:=Gj (f:=λF=>F.p p) a;have a:(gm L (some F) p λF=>F.p p).2.e=0:=a;show Rc p.p (gm L (some F) p λF=>F.p p);rw[e] at a|-;exact g.2.2.2 p a b
def Pv{w:Option dn}(g:sv w)(k:mI w):∀(n:Nat) (l:List Tr) (p:PS) (q:Nat),iU l->ji l+q<=p.p->p.p<=300->(jC L w n l p).2.e=0->iU (jC L w n l p).1/\(jC L w n l p).2.p<=300/\ji (jC L w n l p).1+q<=(jC L w n l p).2.p
 |0,l,p,q,h,j,e,d=>⟨h,e,j⟩
 |n+1,l,p,q,h,j,e,d=>by
  unfold jC at d|-;split at d
  .rename_i m;rw[ae m];have f:(dU L w p).2.e=0->iU (l++[(dU L w p).1])/\(dU L w p).2.p<=300/\ji (l++[(dU L w p).1])+q<=(dU L w p).2.p:=λo=>by
    let⟨a,b,c⟩:=Av g p o e;refine⟨Tp h (by unfold iU iU;exact⟨a,trivial⟩),b,?_⟩;rw[YC]
    have:ji [(dU L w p).1]=gu (dU L w p).1:=by rw[sr,xn];omega
    omega
   split at d
   .rename_i i;rw[ae i];let⟨a,b,c⟩:=f (eL i).1;exact Pv g k n _ _ q a c b d
   grind
  grind
def aic{b:Wd}(g:sv w)(h:mI w)(a:(ii L w b p).2.e=0)(c:p.p<=300):jf (ii L w b p).1/\(ii L w b p).2.p<=300/\gu (ii L w b p).1+p.p<=(ii L w b p).2.p+1:=by
 unfold ii at a|-;by_cases d:p.e=0/\b.k=3
 .rw[ae d] at a|-;exact⟨Da λe=>absurd e dc,c,by rw[Fh];show 1+p.p<=p.p+1;omega⟩
 rw[ac d] at a|-;by_cases q2:aN L uq p=true
 .rw[ae q2] at a|-;exact⟨Da Y,c,by rw[Fh];show 1+p.p<=p.p+1;omega⟩
 rw[ac q2] at a|-;by_cases d:aN L uk p=true
 .rw[ae d] at a|-;exact⟨Da Y,c,by rw[Fh];show 1+p.p<=p.p+1;omega⟩
 rw[ac d] at a|-;by_cases n:aN L jK p=true
 .rw[ae n] at a|-;unfold C0 at a|-;have m:=(va h _ a).1;have k:=(va h _ (jM m)).1;let⟨f,e,d⟩:=Av g _ (jM k) c;let⟨i,j,l⟩:=Av g _ (jM m) (by rw[zH];exact e);let⟨m,o,q⟩:=Av g _ a (by rw[zH];exact j);rw[zH] at l q;have d:_+p.p<=_:=d;refine⟨afu dc f i m,o,?_⟩;dsimp only;rw[abp];omega
 rw[ac n] at a|-;by_cases m:aN L bD p=true
 .rw[ae m] at a|-;unfold Dh at a|-;have k:=(KZ h _ a).1;let⟨f,e,d⟩:=Si g _ k (by rw[vm];exact c);let⟨i,j,l⟩:=Si g _ a e;rw[vm] at d;have d:_+p.p<=_:=d;refine⟨Lp dc f i,j,?_⟩;dsimp only;rw[Jh];omega
 rw[ac m] at a|-;unfold pU at a|-;dsimp only at a|-;by_cases j:aN L iV (aG L p).2=true
 .rw[ae j] at a|-;unfold yq at a|-;by_cases i:aN L gW (bm (aG L p).2)=true
  .rw[ae i] at a|-;refine⟨Da Y,by show(aG L p).2.p<=300;rw[vm];exact c,?_⟩;show gu (.mk bK (aG L p).1 0 b.a [])+p.p<=(aG L p).2.p+1;rw[vm]
   have:gu (.mk bK (aG L p).1 0 b.a [])=1:=by rw[xm,xn]
   omega
  .rw[ac i] at a|-;have i:=jM a;let⟨f,e,d⟩:=Pv g h L.length [] (bm (aG L p).2) p.p (by unfold iU;trivial) (by show ji []+p.p<=(aG L p).2.p;rw[vm,xn];omega) (by show(aG L p).2.p<=300;rw[vm];exact c) i;refine⟨?_,by show(aV L gW _).p<=300;rw[zH];exact e,?_⟩
   .unfold jf;grind
   .show gu (.mk bK (aG L p).1 0 b.a _)+p.p<=(aV L gW _).p+1;rw[zH];rw[xm];omega
 .rw[ac j] at a|-;refine⟨Da Y,by rw[vm];exact c,?_⟩;rw[vm,Fh];omega
def WK(g:sv w)(h:mI w):qa (oB L w):=λp a i=>by
 unfold oB at a|-;by_cases d:aN L iV p=true
 .rw[ae d] at a|-;let⟨b,c,f⟩:=Av g _ (jM a) i;refine⟨b,by show(aV L gW _).p<=300;rw[zH];exact c,by show _<=(aV L gW _).p;rw[zH];exact f⟩
 .rw[ac d] at a|-;have e:=(XL h a).1;by_cases q2:(wd L p).k=1\/(wd L p).k=3\/aN L uq p=true\/aN L uk p=true\/aN L jK p=true\/aN L bD p=true
  .have d:lB L p=bf L p:=ae q2;rw[d] at a e|-;obtain A:=L7 e i;let⟨b,c,f⟩:=aic g h a Y;exact⟨b,c,Y⟩
  .exfalso
   have d:lB L p=p:=ac q2;rw[d] at a e;have b:¬(p.e=0/\(wd L p).k=3):=Y;unfold ii at a;rw[ac b,ac (λh=>q2 (.inr (.inr (.inl h)))),ac (λh=>q2 (.inr (.inr (.inr (.inl h))))),ac (λh=>q2 (.inr (.inr (.inr (.inr (.inl h)))))),ac (λh=>q2 (.inr (.inr (.inr (.inr (.inr h))))))] at a;unfold pU at a;dsimp only at a;have a:(aG L p).2.e≠0:=by
    unfold aG;rw[ac (λh=>q2 (.inl h.2))];exact tR dc
   have b:¬aN L iV (aG L p).2=true:=λh=>a (eL h).1;grind
def YY(g:sv w)(f:mI w):qa (pA L w):=λp a c=>by
 have h:∀b,b≠cX->b≠bK->(nP L w b p).2.e=0->Rc p.p (nP L w b p):=λb i b a=>by
  unfold nP at a|-;by_cases q:(bf L p).e=0
  .rw[ae q] at a|-;obtain A:=L7 q c;obtain⟨_,F,rfl,e⟩:=Gj a;rw[e] at a|-;let⟨d,e,b⟩:=g.2.2.1 (bm (bf L p)) a (by show(bf L p).p<=300;omega);have b:_+(bf L p).p<=_:=b;refine⟨Tt i d,e,?_⟩;dsimp only;rw[PR];omega
  grind
 unfold pA at a|-;by_cases b:aN L fB p=true
 .rw[ae b] at a|-;exact h _ dc dc a
 rw[ac b] at a|-;by_cases q2:aN L gd p=true
 .rw[ae q2] at a|-;exact h _ dc dc a
 rw[ac q2] at a|-;by_cases b:aN L eH p=true
 .rw[ae b] at a|-;exact h _ dc dc a
 rw[ac b] at a|-;exact WK g f p a c
def Zn:∀(n:Nat) (a:Tr) (p:PS) (q:Nat),(p.e=0->Rc q (a,p))->(mZ L n a p).2.e=0->Rc q (mZ L n a p)
 |0,_,_,_,h,b=>h b
 |n+1,a,p,q,h,b=>by
  unfold mZ at b|-;by_cases c:aN L bB p=true
  .rw[ae c] at b|-;have g:p.e=0:=(eL c).1;let⟨e,f,d⟩:=h g;refine Zn n _ _ q (λc=>?_) b;have c:(aG L (fJ L fB (cZ L bB p))).2.e=0:=c;let⟨b,g⟩:=JN (D7 (A0 c)) f;have c:(pE L p).2.p=p.p+1:=by
    show(aG L (fJ L fB (cZ L bB p))).2.p=_
    rw[vm,YF];exact b
   have d:gu a+q<=p.p:=d;refine⟨Tt dc e,J,?_⟩;show gu (.mk bB _ _ _ [a])+q<=(pE L p).2.p;rw[PR];omega
  grind
def Zj(g:sv w)(b:mI w):qa (lW L w):=λp a c=>by
 unfold lW at a|-;exact Zn _ _ _ _ (λh=>YY g b p h c) a
def YT{b s:S}{r:Tr×PS}{f:dn->PS->Tr×PS}{q:Nat}(i:b≠cX)(c:b≠bK)(h:∀F,w=some F->qa (f F))(d:Rc q r)(c:(gm L w (cZ L s r.2) λF=>(.mk b (0,0) 0 a [r.1,(f F (cZ L s r.2)).1],(f F (cZ L s r.2)).2)).2.e=0):Rc q (gm L w (cZ L s r.2) λF=>(.mk b (0,0) 0 a [r.1,(f F (cZ L s r.2)).1],(f F (cZ L s r.2)).2)):=by
 obtain⟨g,F,rfl,e⟩:=Gj c;rw[e] at c|-;obtain A:=JN g d.2.1;let⟨e,g,j⟩:=h F rfl _ c Y;refine⟨Lp i d.1 e,g,?_⟩
 have:=d.2.2
 dsimp only;rw[Jh];omega
def RH(g:sv w)(b:mI w):qa (pK L w):=λp a c=>by
 unfold pK at a|-;dsimp only at a|-;by_cases q:aN L dk (lW L w p).2=true
 .rw[ae q] at a|-;have d:=Zj g b p (eL q).1 c;exact YT (f:=λF=>F.f) dc dc (λF e=>by subst e;exact g.2.1) d a
 .rw[ac q] at a|-;exact Zj g b p a c
def agO:∀k:Nat,∀a∈LX k,a≠cX/\a≠bK
 |0=>by decide
 |1=>by decide
 |2=>by decide
 |3=>by decide
 |n+4=>by
  show∀a∈[gL,gK,gA],a≠cX/\a≠bK
  decide
def XN{f:PS->Tr×PS}{c:List S}{b:Bool}(i:∀g∈c,g≠cX/\g≠bK)(k:qa f)(j:qb f):∀(n:Nat) (a:Tr) (p:PS) (q:Nat),(p.e=0->Rc q (a,p))->(fO L f c b n a p).2.e=0->Rc q (fO L f c b n a p)
 |0,_,_,_,h,d=>h d
 |n+1,a,p,q,h,d=>by
  unfold fO at d|-;cases e:kf L c p with
  |none=>
   grind
  |some g=>
   rw[e] at d;let⟨l,m⟩:=G2 e;let⟨o,o2⟩:=i _ l;let⟨l,r,e⟩:=h m;have e:gu a+q<=p.p:=e;have e:(f (cZ L g p)).2.e=0->Rc q (.mk g (0,0) 0 (wd L p).a [a,(f (cZ L g p)).1],(f (cZ L g p)).2):=λa=>by
    obtain A:=JN (j _ a).1 r;let⟨f,g,h⟩:=k _ a Y;refine⟨Lp o l f,g,?_⟩;dsimp only;rw[Jh];omega
   dsimp only at d|-;cases b with
   |true=>
    grind
   |false=>
    rw[ac to] at d|-;exact XN i k j n _ _ q e d
def Hu{w:Option dn}(g:sv w)(a:mI w):∀n:Nat,qa (bP L w n)
 |0=>λp=>RH g a p
 |n+1=>λp b c=>by
  unfold bP at b|-;exact XN (agO _) (Hu g a n) (Bn a n) _ _ _ _ (λh=>Hu g a n p h c) b
def aa0(g:sv w)(b:mI w):qa (qP L w):=λp a c=>by
 unfold qP at a|-;dsimp only at a|-;by_cases q:aN L jJ (bP L w 5 p).2=true
 .rw[ae q] at a|-;have d:=Hu g b 5 p (eL q).1 c;exact YT (f:=λF=>F.a) dc dc (λF e=>by subst e;exact g.1) d a
 .rw[ac q] at a|-;exact Hu g b 5 p a c
def De:∀m:Nat,sv (pN L m)
 |0=>trivial
 |m+1=>⟨aa0 (De m) (vi m),RH (De m) (vi m),YY (De m) (vi m),WK (De m) (vi m)⟩
def vU(q:aX):Prop:=jf q.e/\gu q.e<=300
def adg(p:PS)(a:(mi L p).2.e=0):vU (mi L p).1:=by
 unfold mi at a|-;dsimp only at a|-;let⟨b,c,d⟩:=Av (De 30) {aV L dY (aG L p).2 with p:=0} (jM a) (aJ _);refine⟨b,?_⟩;have h:=bC (du _ _) (bC d c);exact h
def Q6:∀(n:Nat) (l:List aX) (p:PS),(p.e=0->∀q∈l,vU q)->(iG L n l p).2.e=0->∀q∈(iG L n l p).1,vU q
 |0,l,p,h,a=>h a
 |n+1,l,p,h,a=>by
  unfold iG at a|-;by_cases q:p.e=0/\(wd L p).k=1
  .rw[ae q] at a|-;refine Q6 n _ _ (λc x b=>(bA.1 b).elim J λb=>?_) a;rw[dM.1 b];exact adg p c
  grind
def agm(p:PS)(a:(jg L p).2.e=0):∀q∈(jg L p).1.r,vU q:=by
 rw[LN] at a;exact Q6 (L:=L) L.length [] (aV L pr (jj L (dJ L p).2).2) J (jM (D7 a))
def Uv:∀(n:Nat) (l:List Nd) (p:PS),(p.e=0->∀d∈l,∀q∈d.r,vU q)->(fV L n l p).2.e=0->∀d∈(fV L n l p).1,∀q∈d.r,vU q
 |0,l,p,h,a=>h a
 |n+1,l,p,h,a=>by
  unfold fV at a|-;by_cases q:p.e=0/\(l.length=0\/(wd L p).k≠0)
  .rw[ae q] at a|-;by_cases q2:l.length=32
   .grind
   .rw[ac q2] at a|-;refine Uv n _ _ (λc x b=>(bA.1 b).elim J λb=>?_) a;rw[dM.1 b];exact agm p c
  grind
def Vi(t:By):∀n∈(ch t).1,∀q∈n.r,vU q:=by
 unfold ch;split
 .unfold tn;dsimp only;split
  .rename_i a;exact Uv 34 [] ⟨0,0,0,0,0⟩ J a
  grind
 grind
mutual
def qh:Tr->Nat
 |.mk op _ _ _ a=>(if op=bK then 1 else 0)+qi a
def qi:List Tr->Nat
 |[]=>0
 |k::a=>qh k+qi a
end
def abz:qi []=0:=by unfold qi;rfl
def aby(k:Tr)(a:List Tr):qi (k::a)=qh k+qi a:=by conv=>lhs;unfold qi
def abx(c d:S)(n a:Nat)(b:List Tr):qh (.mk c d n a b)=(if c=bK then 1 else 0)+qi b:=by conv=>lhs;unfold qh
mutual
def P2:∀e:Tr,qh e<=gu e
 |.mk op c n a b=>by
  rw[abx,xm]
  have:=P3 b
  grind
def P3:∀a:List Tr,qi a<=ji a
 |[]=>by rw[abz];omega
 |k::a=>by
  rw[aby,sr];have b:=P2 k;have b:=P3 a;omega
end
mutual
def Lz:∀e:Tr,(eS e).length<=gu e
 |.mk op c n a b=>by
  unfold eS;rw[xm,ay];have a:(if op=bR\/op=bB\/op=bD then[c] else[]:List S).length<=1:=by split<;>simp
  have a:=TQ b;have a:=afR b;grind
def afR:∀a:List Tr,(qu a).length<=ji a
 |[]=>by unfold qu;grind
 |k::a=>by
  unfold qu;rw[sr]
  have:=Lz k
  omega
def TQ:∀a:List Tr,(dw a).length<=ji a
 |[]=>by unfold dw;grind
 |k::a=>by
  unfold dw;rw[sr,ay];have b:=Lz k;have b:=TQ a;omega
end
end
variable {k:Nat}
def lV(l:L Nat):Nat:=l.foldr (λb r=>b+256*r) 0
def Y5(b:Nat)(l:L Nat):lV (b::l)=b+256*lV l:=R
def Y4:∀(a b:L Nat),lV (a++b)=lV a+256^N a*lV b
 |[],b=>by show lV b=0+1*lV b;omega
 |x::a,b=>by
  rw[fc,Y5,Y4 a b,Y5,bt,xJ,Nat.mul_add,<-IB,xI 256 (256^N a),oK]
def Yr(n v w:Nat):xg n v w=v+256^n*w:=by
 show v+Nat.shiftLeft w (8*n)=_;rw[show Nat.shiftLeft w (8*n)=w<<<(8*n) from R,Ov,Ey,xI]
def abF(s:S):nA (0,0) s=s:=by
 show(0+s.1,xg 0 0 s.2)=s
 rw[Yr];simp
def P5(l:L Nat)(s:S):nA (oT l) s=(N l+s.1,lV l+256^N l*s.2):=by
 show(N l+s.1,xg (N l) (lV l) s.2)=_
 rw[Yr]
def aaC(k:Nat):jo k=oT (hZ 20 k++[46]):=by
 unfold jo;rw[P5];show _=(N (hZ 20 k++[46]),lV (hZ 20 k++[46]));rw[Y4,ay];rfl
def FF:∀(f n:Nat),∀d∈hZ f n,48<=d/\d<=57
 |0,_,d,h=>by cases h
 |f+1,n,d,h=>by
  unfold hZ at h;split at h
  .grind
  .rcases bA.1 h with h|h
   .exact FF f _ d h
   grind
def GQ(l:L Nat):Nat:=l.foldl (λa d=>a*10+(d-48)) 0
def agr(l:L Nat)(d:Nat):GQ (l++[d])=GQ l*10+(d-48):=by
 unfold GQ;grind
def LQ:∀(f n:Nat),n<10^f->GQ (hZ f n)=n
 |0,n,h=>by
  have:n=0:=Y
  subst this;rfl
 |f+1,n,h=>by
  unfold hZ;split
  .show 0*10+(48+n-48)=n;omega
  .rw[agr,LQ f (n/10) Y];omega
def WJ:∀(l a:L Nat) (X b:Nat),(∀d∈l,48<=d/\d<=57)->(∀d∈a,48<=d/\d<=57)->lV (l++[46])+256^(N l+1)*X=lV (a++[46])+256^(N a+1)*b->l=a/\X=b
 |[],[],X,b,_,_,h=>J
 |[],d::a,X,b,_,g,h=>by
  have e:=g d J;have h:46+256*X=d+256*lV (a++[46])+256^(N a+1+1)*b:=h;grind
 |d::l,[],X,b,g,_,h=>by
  have e:=g d J;have h:d+256*lV (l++[46])+256^(N l+1+1)*X=46+256*b:=h;grind
 |d::l,c::a,X,b,g,f,h=>by
  have e:=g d J;have e:=f c J;have h:d+256*lV (l++[46])+256^(N l+1+1)*X=c+256*lV (a++[46])+256^(N a+1+1)*b:=h;rw[xJ 256 (N l+1),xJ 256 (N a+1),xI (256^(N l+1)) 256,xI (256^(N a+1)) 256,IB,IB] at h;have e:d=c/\lV (l++[46])+256^(N l+1)*X=lV (a++[46])+256^(N a+1)*b:=by
   generalize 256^(N l+1)*X=Y at h|-;generalize 256^(N a+1)*b=c at h|-;omega
  obtain A:=WJ l a X b J J e.2;grind
def EX(k:Nat)(s:S):nA (jo k) s=(N (hZ 20 k)+1+s.1,lV (hZ 20 k++[46])+256^(N (hZ 20 k)+1)*s.2):=by
 rw[aaC,P5,ay];rfl
def Pe{a:Nat}{s c:S}(e:k<10^20)(b:a<10^20)(h:nA (jo k) s=nA (jo a) c):k=a/\s=c:=by
 rw[EX,EX] at h;injection h with c d
 let⟨c,f⟩:=WJ _ _ _ _ (FF 20 k) (FF 20 a) d;have d:k=a:=by rw[<-LQ 20 k e,<-LQ 20 a b,c]
 grind
def LK(s:S):Prop:=s.2%256<48\/57<s.2%256
def aaB(k:Nat)(s:S):¬LK (nA (jo k) s):=by
 rw[EX];have a:hZ 20 k≠[]:=by
  unfold hZ;split
  .grind
  .exact λh=>List.cons_ne_nil _ _ (NV.1 h).2
 let⟨d,l,e⟩:=zN a;have a:=FF 20 k d (by rw[e];exact gN ..);rw[e]
 rintro h
 have h:(d+256*lV (l++[46])+256^(N l+1+1)*s.2)%256<48\/57<(d+256*lV (l++[46])+256^(N l+1+1)*s.2)%256:=h;grind
def aaE(k:Nat)(s:S):nA (jo k) s≠(0,0):=by
 intro h;rw[EX] at h;grind
end
end Go.Proofs.YtehahhggpdhieaaGreatDoor
