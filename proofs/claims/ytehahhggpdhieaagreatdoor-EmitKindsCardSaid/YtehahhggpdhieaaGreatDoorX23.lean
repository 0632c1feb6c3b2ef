/- Lemmas of the walk of EmitKinds are proved. Conditions: none. -/
import Derived.Test.YtehahhggpdhieaaGreatDoorX22
namespace Go.Proofs.YtehahhggpdhieaaGreatDoor
set_option maxRecDepth 100000
set_option maxHeartbeats 32000000
set_option linter.all false
section
variable {x y:AV}{g:AV->HN->Prop}{d e:HN}{m:L (L AV)}{l:L Nd}{b f h k s:Nat}
def jN(a:Nat)(e:HN)(y:AV)(c:L Vr):Prop:=∃b,a<=b/\b<e.h/\((y=.a b 0 0 (.k 0)/\c=[]/\∃d,e.f b=LL d)\/(c≠[]/\y=.a b 0 (N c) (.B 5)/\e.f b=LL (vcs c)))
def aiE{r:L AV}(l m:L AV)(p:Nat)(h:p+N r<=N l):dz (l++m) p r=dz l p r++m:=by
 rw[D3 (by rw[ay];omega),D3 h,aad (by omega),NW h];simp
def MQ{s p:Nat}{r:L AV}(c:p+N r<=s):∀(a:L (L AV)) (i:Nat),(∀l∈a,N l=s)->(h:i<N a)->dz a.flatten (i*s+p) r=(a.set i (dz a[i] p r)).flatten
 |[],i,_,h=>by simp at h
 |l::a,0,b,_=>by
  rw[lq,gg,ir,aiE l _ p (by rw[b l (by simp)];exact c),zS,ir];rfl
 |l::a,i+1,b,h=>by
  have e:=b l dp;rw[ir,show(i+1)*s+p=N l+(i*s+p) by rw[tv,e];omega,Bo,MQ c a i (λx a=>b x (li _ a)) (by simpa using h),zR,ir];rfl
def aip{a r:L AV}{o p:Nat}(h:(a.drop o).take s=r)(b:p+k<=s):(a.drop (o+p)).take k=(r.drop p).take k:=by
 rw[<-h,Im,vP,oH,xH (by omega)]
def jN.cells{U:HN}{a:L Vr}(h:jN f U y a):dZ y=some [y]:=by
 obtain⟨b,-,-,⟨rfl,-⟩|⟨-,rfl,-⟩⟩:=h<;>rfl
def jN.Ke{f:L Vr}(a:jN h d y f)(k:∀c,h<=c->c<d.h->e.f c=d.f c)(b:d.h<=e.h):jN h e y f:=by
 let⟨b,c,g,a⟩:=a;refine⟨b,c,Y,?_⟩;rw[k b c g];exact a
def jN.mono{c a:Nat}{U:HN}{d:L Vr}(h:jN c U y d)(b:a<=c):jN a U y d:=by
 let⟨b,_,a,h⟩:=h;exact⟨b,Y,a,h⟩
def jN.rd{e:Nat}{U:HN}{a:L Vr}(h:jN e U y a):aK 5 U y (a.map Vr.cells):=by
 obtain⟨b,c,c,⟨rfl,rfl,-⟩|⟨-,rfl,d⟩⟩:=h
 .exact .inl ⟨R,.inr ⟨_,_,_,R⟩⟩
 .have:=aK.bT (s:=5) (c:=.B 5) (a.map Vr.cells) (f:=false) (b:=b) (U:=U) d c (λl b=>by obtain⟨v,_,rfl⟩:=cN.1 b;rfl)
  rw[aC] at this;exact this
def afB{w:Nat}{g:L Vr}{f:L AV}(m:aK 5 d y (g.map Vr.cells))(k:b<d.h)(e:d.f b=LL f)(r:N g*w<=140737488355328):
  ∃i a,gj 5 w (.a b 0 0 (.k 0)) y d=.ok i a/\jN b a i g/\ai b d a:=by
 by_cases j:g=[]
 .subst j;refine⟨.a b 0 0 (.k 0),d,?_,⟨b,ak _,k,.inl ⟨R,R,f,e⟩⟩,.refl _ _⟩;rcases m with⟨-,rfl|⟨l,off,cap,rfl⟩⟩|⟨l,off,cap,l,l,rfl,-⟩
  all_goals (try rw[oR,ae R]);exact(ae dp).t (ae R)
 .have l:aH 5 b d (.a b 0 0 (.k 0)) 0 []:=⟨R,.inr ⟨b,ak _,k,.inl ⟨R,R,f,e⟩⟩⟩;have q:=m.vG;rw[aC] at q;obtain⟨i,a,e,⟨-,o⟩,E⟩:=EZ (w:=w) dc l q (by rw[gg];exact r) Y;have k:=zP.2 j;rw[gg,dH] at o;refine⟨i,a,e,?_,E⟩;rcases o with⟨-,h⟩|⟨c,n,p,⟨-,h,-⟩|⟨rfl,h⟩⟩
  .omega
  .omega
  .exact⟨c,n,p,.inr ⟨j,R,h⟩⟩
def Np{C:FuncId->L AV->HN->AV->HN->Prop}{w:Nat}{h:L Vr}{g:L AV}{e:Option Nat}{i:FN->HN->Prop}{j:FN}(n:aK 5 d y (h.map Vr.cells))(l:b<d.h)(c:d.f b=LL g)(m:N h*w<=140737488355328)
  (k:∀f a,jN b a f h->ai b d a->i (be e f j) a):mY C (gj 5 w (.a b 0 0 (.k 0)) y d) d e i j:=by
 let⟨f,a,e,o,E⟩:=afB (w:=w) n l c m;rw[e];exact k f a o E
def aH.cells{a n:Nat}{U:HN}{l:L AV}(h:aH s a U x n l):dZ x=some [x]:=by
 obtain⟨-,⟨rfl,-⟩|⟨b,-,-,⟨rfl,-⟩|⟨rfl,-⟩⟩⟩:=h<;>rfl
def afJ{lv:AV}(ok:ow l)(B:l≠[])(rv:aK 6 d lv m)(rl:fZ tt d l m)
  (k:∀y1 y2 I w q,dL tt q (aD l) [.s (aD l).n.1 (aD l).n.2,y1,y2,I,w,II (aD l).a]->ai d.h d q->jN d.h q y1 (aD l).ins->jN d.h q y2 (aD l).o->jN d.h q I (aD l).ao->g (.g [.s (aD l).n.1 (aD l).n.2,y1,y2,I,w,II (aD l).a]) q):
  ∃v' q,aq Tryz.prog 29 [lv] d v' q/\g v' q:=by
 let⟨hl,i2⟩:=ok;have ll:=(pm rl).1;have hp:=zP.2 B;have em:aD l=l[N l-1]:=by
  unfold aD;rw[Ob,bM (by omega)];rfl
 let⟨D,ri⟩:=ph rl (N l-1) Y;have r:=i2 _ (aU (show N l-1<N l by omega));rw[<-em] at ri r;generalize aD l=n at*;obtain⟨b,off,cap,ro,row,rfl,h9,i7,i5,p⟩:=rv.at D;obtain⟨y1,y2,I,w,ez,-,r1,r2,r3,i4⟩:=ri;rw[ez] at p;have i1:sV n.n=.s n.n.1 n.n.2:=R;rw[i1] at p;refine cf V9 Tryz.func29 ?_;refine S3 ll h9 p ?_;obtain⟨ha,⟨i9,-⟩,⟨j0,-⟩,⟨j1,-⟩,j2,i3⟩:=r;let⟨m,r4,r5⟩:=i4;let⟨a2,i0⟩:=lS r5;obtain⟨r,h1⟩:∃s,s=(((d.X (LL [.s 0 0,.e,.e,.e,.e,II 0])).X (LL [.s 0 0,.e,.e,.e,.e,II 0])).put (d.h+1) (LL [n.n,y1,y2,I,w,n.a])).X (LL []):=⟨_,R⟩;have j3:r.h=d.h+3:=by rw[h1];rfl
 have b9:r.f (d.h+1+1)=LL []:=by rw[h1];exact ae R
 have b8:r.f (d.h+1)=LL [n.n,y1,y2,I,w,n.a]:=by rw[h1];exact(ac (by show¬d.h+1=d.h+2;omega)).t (ae R)
 have b7:r.f d.h=LL [.s 0 0,.e,.e,.e,.e,II 0]:=by rw[h1];exact(ac (by show¬d.h=d.h+2;omega)).t ((ac Y).t ((ac (by show¬d.h=d.h+1;omega)).t (ae R)))
 have a5:ai d.h d r:=by rw[h1];exact ap (cO (ap (ap (.refl _ _))) Y)
 rw[<-h1];refine Np (r1.ext (f:=d.h) a5) Y b9 Y λO f o1 r=>?_;have j4:=r.1;have g7:=(r.2 _ (by omega:d.h<d.h+1+1)).t b7;have g8:=(r.2 _ (by omega:d.h+1<d.h+1+1)).t b8;have b3:=a5.M (r.mono Y);simp(disch:=omega)only[go_sem,g8,o1.cells,bF];obtain⟨r,h2⟩:∃s,s=(f.put (d.h+1) (LL [n.n,O,y2,I,w,n.a])).X (LL []):=⟨_,R⟩;have j5:r.h=f.h+1:=by rw[h2];rfl
 have c5:r.f f.h=LL []:=by rw[h2];exact ae R
 have c4:r.f (d.h+1)=LL [n.n,O,y2,I,w,n.a]:=by rw[h2];exact(ac (by show¬d.h+1=f.h;omega)).t (ae R)
 have k2:∀c,c<f.h->c≠d.h+1->r.f c=f.f c:=λc K t=>by rw[h2];exact(ac (by show¬c=f.h;omega)).t (ac t)
 have c3:=(k2 _ Y Y).t g7;have a6:ai d.h d r:=by rw[h2];exact ap (cO b3 Y)
 rw[<-h2];refine Np (r2.ext (f:=d.h) a6) Y c5 Y λx2 j o2 e2=>?_;have r:=e2.1;have g9:=(e2.2 _ (by omega:d.h<f.h)).t c3;have r:=(e2.2 _ (by omega:d.h+1<f.h)).t c4;have b4:=a6.M (e2.mono Y);simp(disch:=omega)only[go_sem,r,o2.cells,bF];obtain⟨r,h3⟩:∃s,s=(j.put (d.h+1) (LL [n.n,O,x2,I,w,n.a])).X (LL []):=⟨_,R⟩;have j6:r.h=j.h+1:=by rw[h3];rfl
 have c9:r.f j.h=LL []:=by rw[h3];exact ae R
 have c8:r.f (d.h+1)=LL [n.n,O,x2,I,w,n.a]:=by rw[h3];exact(ac (by show¬d.h+1=j.h;omega)).t (ae R)
 have k3:∀c,c<j.h->c≠d.h+1->r.f c=j.f c:=λc K t=>by rw[h3];exact(ac (by show¬c=j.h;omega)).t (ac t)
 have c7:=(k3 _ Y Y).t g9;have I:ai d.h d r:=by rw[h3];exact ap (cO b4 Y)
 rw[<-h3];refine Np (r3.ext (f:=d.h) I) Y c9 Y λx3 a o3 e3=>?_;have r:=e3.1;have h6:=(e3.2 _ (by omega:d.h<j.h)).t c7;have r:=(e3.2 _ (by omega:d.h+1<j.h)).t c8;have b5:=I.M (e3.mono Y);simp(disch:=omega)only[go_sem,r,o3.cells,bF];obtain⟨r,I⟩:∃s,s=(a.put (d.h+1) (LL [n.n,O,x2,x3,w,n.a])).X (LL []):=⟨_,R⟩;have j7:r.h=a.h+1:=by rw[I];rfl
 have e8:r.f a.h=LL []:=by rw[I];exact ae R
 have e6:r.f (d.h+1)=LL [n.n,O,x2,x3,w,n.a]:=by rw[I];exact(ac (by show¬d.h+1=a.h;omega)).t (ae R)
 have k4:∀c,c<a.h->c≠d.h+1->r.f c=a.f c:=λc K t=>by rw[I];exact(ac (by show¬c=a.h;omega)).t (ac t)
 have e5:=(k4 _ Y Y).t h6;have w:ai d.h d r:=by rw[I];exact ap (cO b5 Y)
 rw[<-I];refine tj (s:=7) dc (⟨R,.inr ⟨_,ak _,Y,.inl ⟨R,R,_,e8⟩⟩⟩:aH 7 a.h r (.a a.h 0 0 (.k 0)) 0 []) ((r4.ext (f:=d.h) w).vG) Y Y λx4 o o4 e4=>?_;have r:=e4.1;have h7:=(e4.2 _ (by omega:d.h<a.h)).t e5;have r:=(e4.2 _ (by omega:d.h+1<a.h)).t e6;have I:=w.M (e4.mono Y);simp(disch:=omega)only[go_sem,r,o4.cells,bF];rw[gg,dH] at o4;obtain⟨H,r⟩:∃s,s=o.put (d.h+1) (LL [n.n,O,x2,x3,x4,n.a]):=⟨_,R⟩;have w:H.h=o.h:=by rw[r];rfl
 have g5:H.f (d.h+1)=LL [n.n,O,x2,x3,x4,n.a]:=by rw[r];exact ae R
 have k5:∀c,c≠d.h+1->H.f c=o.f c:=λc u=>by rw[r];exact ac u
 have g0:=(k5 _ Y).t h7;have E5:ai d.h d H:=by rw[r];exact cO I Y
 rw[<-r];have ln:∀(q:HN) (e w:Nat),eF (.a e 7 w) x4 q=.ok (II (N m)) q:=by
  intro q e w;obtain⟨-,⟨rfl,B⟩|⟨b,-,-,⟨rfl,B,-⟩|⟨rfl,-⟩⟩⟩:=o4
  .rw[B];rfl
  .rw[B];rfl
  .rw[ov,nD,ae (by omega)]
 refine S1 ln ?_;let⟨I,hI⟩:=inv λi6 a9 s=>∃(i:Nat) (v:L (L AV)),i6=N n.r-i/\i<=N n.r/\(a9 2=.p d.h 0/\a9 3=.p (d.h+1) 0/\a9 37=II (N m)/\a9 38=II i)/\(∀c,c<a.h->s.f c=H.f c)/\ai d.h d s/\o.h<=s.h/\N v=N m/\(∀l∈v,N l=7)/\(∀b,x4=.a b 0 (N m) (.B 7)->m≠[]->s.f b=LL v.flatten)/\mU (λc=>o.h<=c) s (n.r.take i) (v.take i)/\v.drop i=m.drop i;refine aT I (N n.r) ((hI _ _ _).2 ⟨0,m,R,aJ _,dy,λ_ _=>R,E5,Y,R,i0,?_,by rw[gO,gO];rfl,R⟩) ?_
 .intro z hb F;obtain⟨-,⟨g6,-⟩|⟨b',g1,g2,⟨g3,g4,-⟩|⟨g3,g4⟩⟩⟩:=o4
  .rw[hb] at g6;cases g6
  .exact absurd (ff g4) F
  .rw[hb] at g3;cases g3;exact(k5 _ Y).t g4
 intro i6 a9 s b;let⟨i,v,_,b,⟨p2,p3,a3,a4⟩,kz,Ez,q,hL,C,hb,rz,hd⟩:=(hI _ _ _).1 b;have b0:=(kz _ Y).t g0;have b1:=(kz _ Y).t g5;by_cases Uu:i<N n.r
 .let⟨D,ri⟩:=sh r5 i Uu;obtain⟨z,g1,g2,g3,g4⟩:∃z,a.h<=z/\z<o.h/\x4=.a z 0 (N m) (.B 7)/\m≠[]:=by
   have F:m≠[]:=λh=>by rw[h] at D;exact absurd D (nR _)
   obtain⟨-,⟨g6,B⟩|⟨b',g1,g2,⟨g3,B,-⟩|⟨g3,g4⟩⟩⟩:=o4
   .exact absurd (ff B) F
   .exact absurd (ff B) F
   .exact⟨b',g1,g2,g3,F⟩
  subst g3;have b:=hb z R g4;have P:i<N v:=Y;have a1:v[i]=m[i]:=by
   have:=dv (λl=>l[0]?) hd
   simpa [mG,bM P,bM D] using this
  have q:=jZ v C;have p:=oV v i C P;rw[a1] at p;let⟨_,eq,r⟩:=ri;let⟨a7,a8,c6,e0,e9,w⟩:=cJ r;rw[w] at eq r;rw[eq] at p a1;have p:=aip (p:=1) (k:=5) p dc;have w:i*7+7<=N v.flatten:=by rw[q];omega
  refine S7 p3 a3 a4 b1 b p a2 ?_;refine bL (QB _ (i3 _ (aU Uu)).2 s _ _ (rp (F:=tt) r Ez) λp y r6 E6=>?_);have n6:=E6.1;have b6:=(E6.2 _ (by omega:d.h+1<s.h)).t b1;have p:z<s.h:=Y;have h8:=(E6.2 _ p).t b;obtain⟨k1,x,V,W,Z,rfl⟩:=cJ r6;have b:=MQ (s:=7) (p:=1) (r:=[k1,x,V,W,Z]) (gf R) v i C P;rw[a1] at b;have p:dz ([sV n.r[i].n]++[.s a7.1 a7.2,.s a8.1 a8.2,II c6,II e0,e9]++[II n.r[i].a]) 1 [.s k1.1 k1.2,.s x.1 x.2,II V,II W,Z]=[sV n.r[i].n]++[.s k1.1 k1.2,.s x.1 x.2,II V,II W,Z]++[II n.r[i].a]:=R;rw[p] at b;obtain⟨a0,e7⟩:∃r,r=[sV n.r[i].n]++[.s k1.1 k1.2,.s x.1 x.2,II V,II W,Z]++[II n.r[i].a]:=⟨_,R⟩;rw[<-e7] at b;refine S6 a4 b1 b6 h8 a2 b ?_;have b:z≠d.h:=Y;refine⟨N n.r-(i+1),Y,(hI _ _ _).2 ⟨i+1,v.set i a0,R,Uu,⟨dx p2,dx p3,dx a3,R⟩,λc u=>?_,?_,?_,by rw[jk];exact hL,?_,?_,?_,?_⟩⟩
  .exact(ac Y).t ((E6.2 _ Y).t (kz c u))
  .exact cO (aM Ez E6) Y
  .show o.h<=y.h;omega
  .intro l hl;rcases ZY hl with h|h
   .exact C l h
   .rw[h,e7];rfl
  .intro b' e _;cases e;exact ae R
  .rw[dt Uu,dt (by rw[jk];exact P),Oa,Iz (ak _)];have e:∀c,c≠z->c<y.h->(y.put z (LL (v.set i a0).flatten)).f c=y.f c:=λc u _=>ac u;refine DP ?_ (pp (U:=s) (e:=y.put z (LL (v.set i a0).flatten)) (F:=λc=>o.h<=c) (λc u b=>(e c (by have u:o.h<=c:=u;omega) Y).t (E6.2 c b)) n6 (λ_ h=>h) rz);exact⟨_,e7,gq (U:=y) (e:=y.put z (LL (v.set i a0).flatten)) (F:=λc=>s.h<=c) (λc u b=>e c (by have u:=u;omega) b) (ak _) (λc u=>by have u:s.h<=c:=u;show o.h<=c;omega) _ _ r6⟩
  .rw[NY (bJ _)]
   have:=dv (List.drop 1) hd
   rw[oH,oH] at this;exact this
 .obtain rfl:i=N n.r:=Y;refine S7 p2 p3 a3 a4 b0 b1 a2 ?_;rw[iM (ak _),iM (by omega)] at rz;obtain⟨b,e⟩:∃b,b=s.put d.h (LL [n.n,O,x2,x3,x4,n.a]):=⟨_,R⟩;have h:b.h=s.h:=by rw[e];rfl
  have kf:∀c,c≠d.h->b.f c=s.f c:=λc u=>by rw[e];exact ac u
  have h:∀c,d.h+1<c->c<a.h->b.f c=a.f c:=λc K t=>(kf c Y).t ((kz c t).t ((k5 c Y).t ((e4.2 c t).t (k4 c t Y))));have a:∀c,d.h+1<c->c<j.h->b.f c=j.f c:=λc K t=>(h c K Y).t ((e3.2 c t).t (k3 c t Y));have i:∀c,d.h+1<c->c<f.h->b.f c=f.f c:=λc K t=>(a c K Y).t ((e2.2 c t).t (k2 c t Y));have f:=o1.Ke (e:=b) (λc K t=>i c Y t) Y;have q2:=o2.Ke (e:=b) (λc K t=>a c Y t) Y;have a:=o3.Ke (e:=b) (λc K t=>h c Y t) Y;rw[<-e];refine k _ _ _ _ _ ⟨O,x2,x3,x4,R,⟨λ_ _=>trivial,λ_ _=>trivial,λ_ _=>trivial,λ_ _=>trivial⟩,f.rd,q2.rd,a.rd,v,?_,?_⟩ (by rw[e];exact cO Ez Y) (f.mono Y) (q2.mono Y) (a.mono Y)
  .obtain⟨-,⟨rfl,B⟩|⟨z,a,a,⟨rfl,B,-⟩|⟨rfl,-⟩⟩⟩:=o4
   .exact .inl ⟨ff Y,.inl R⟩
   .exact .inl ⟨ff Y,.inr ⟨_,_,_,R⟩⟩
   .by_cases B:m=[]
    .subst B;exact .inl ⟨ff (by rw[hL];rfl),.inr ⟨_,_,_,R⟩⟩
    .rw[<-hL];exact aK.bT v (f:=false) ((kf _ Y).t (hb z R B)) Y C
  .exact pp (λc u _=>kf c (by have u:=u;omega)) Y (λ_ _=>trivial) rz
end
section
variable {d e t:HN}{i:Nat}
def Sz(s:S):∀(l:L Nd) (i:Nat),qq s l i=dD (λn:Nd=>decide (n.n=s)) l i
 |[],_=>rfl
 |n::l,i=>by
  unfold qq dD;by_cases h:n.n=s
  .rw[ae h,ae (aB h)]
  .rw[ac h,ac (by rw[aA h];decide)];exact Sz s l (i+1)
def RB{a:Nat}(x:ai t.h t d)(b:t.h<=a)(y:ax a d e):ai t.h t e:=⟨bC x.1 y.1,λb c=>(y.2 b (cW c x.1) Y).t (x.2 b c)⟩
def adD(a:Nat)(x:ai d.h d e):ax a d e:=⟨x.1,λb c _=>x.2 b c⟩
def ints(k:L Nat):L AV:=k.map (AV.i .i64)
def Gr(k:L Nat):N (ints k)=N k:=aC ..
def C5{k:L Nat}(h:i<N k):(ints k).getD i bp=II (k.getD i 0):=by
 unfold ints;rw[cA,pF,cA,bM h];rfl
def ints_set{k:L Nat}{x:Nat}:(ints k).set i (II x)=ints (k.set i x):=by
 unfold ints;rw[Iu]
mutual
def Ji(h:L Nd):∀(e:Tr) (k:L Nat),N (ny h e k)=N k
 |.mk op b _ _ a,k=>by
  unfold ny;rw[PW h a];split
  .split
   .rw[jk]
   .rfl
  .rfl
def PW(h:L Nd):∀(a:L Tr) (k:L Nat),N (mf h a k)=N k
 |[],k=>by unfold mf;rfl
 |e::a,k=>by
  unfold mf;rw[PW h a,Ji h e]
end
def abq{h:L Nd}{a:L Tr}{k:L Nat}(b:i<N a):mf h (a.drop i) k=mf h (a.drop (i+1)) (ny h a[i] k):=by
 rw[eJ b]
 conv=>lhs;unfold mf
def abA{h:L Nd}{hs:L (L AV)}{v:AV}(hn:N h<=64)(rv:aK 6 t v hs)(rl:fZ tt t h hs){l:Nat}{cp:Cp}(a0:t.h<=l):∀(e:Tr),bO e->∀(m:HN) (w:L AV) (k:L Nat) (Q:AV->HN->Prop),ai t.h t m->l<m.h->m.f l=LL (ints k)->N k=N h->bn tt t e w->
  (∀f,ax l m f->f.f l=LL (ints (ny h e k))->Q (.t []) f)->∃v' f,aq Tryz.prog 59 [w,v,.a l 0 (N h) cp] m v' f/\Q v' f:=by
 refine Tr.E λn nm K a o ih=>?_;intro ok m w r Q x0 a8 a1 a7 re k;unfold bO at ok;let⟨_,w,P⟩:=ok;have P:=(mw _).1 P;unfold bn at re;obtain⟨y,rfl,-,w,ry,a3⟩:=re;have a9:=(kI a3).1;have l4:=λf e w=>bI (e:=f) ry a9 Y e w;refine c0 Tryz.func59 ?_;obtain⟨g,x⟩:∃g,g=m.X (LL [n,nm,K,a,y]):=⟨_,R⟩;have E:ai m.h m g:=by rw[x];exact ap (.refl _ _)
 have c1:g.f m.h=LL [n,nm,K,a,y]:=by rw[x];exact ae R
 have e:g.h=m.h+1:=by rw[x];rfl
 have x1:=aM x0 E;have e6:aI n.1 n.2 4 1819042147=de (n=bK):=bz n bK;have O:=(E.2 _ a8).t a1;obtain⟨z,d⟩:∃z,z=(if n=bK then(match qq nm h 0 with|some i=>r.set i ((r.getD i 0+1)%18446744073709551616)|none=>r) else r):=⟨_,R⟩;have e:ny h (.mk n nm K a o) r=mf h o z:=by
  rw[d]
  conv=>lhs;unfold ny
  rfl
 rw[e] at k;have b0:N z=N r:=by
  rw[d];split
  .split
   .rw[jk]
   .rfl
  .rfl
 let⟨K,I⟩:=jH λs B=>(s 1=v/\s 2=.a l 0 (N h) cp/\s 3=.p m.h 0)/\ax l g B/\B.f l=LL (ints z);refine iB (M:=K) 2 _ _ _ ?_ ?_
 rotate_left
 .simp(disch:=omega)only[go_sem,sV];rw[<-x];by_cases q6:n=bK
  .rw[aB q6] at e6;rw[ae q6,Sz] at d;refine S2 c1 e6 ?_;refine al (LP hn (rv.ext (f:=0) x1) (iJ (iS x1) x1.1 (λ_ h=>h) rl) nm λa a=>?_);have X2:=adD l a;have C:=(a.2 _ Y).t O;cases ei:dD (λn:Nd=>decide (n.n=nm)) h 0 with
   |none=>
    rw[ei] at d;have d:z=r:=d;have ee:gE none=18446744073709551615:=R;have yT:fU .i64 18446744073709551615 0=true:=R;simp(disch:=omega)only[go_sem,ee,yT];rw[d] at I;exact(I _ _).2 ⟨dy,X2,C⟩
   |some j=>
    rw[ei] at d;have d:z=r.set j ((r.getD j 0+1)%18446744073709551616):=d;let⟨_,a,_⟩:=pL ei;have a:j<N r:=Y;have ee:gE (some j)=j:=R;have e:=C5 a;have a:=Gr r;refine S4 ee C e a ?_;rw[ints_set,<-d];exact(I _ _).2 ⟨dy,⟨X2.1,λc x H=>(ac H).t (X2.2 c x H)⟩,ae R⟩
  .rw[aA q6] at e6;rw[ac q6] at d;refine S1 e6 ?_;rw[d] at I;exact(I _ _).2 ⟨dy,.refl _ _,O⟩
 .intro s B a;let⟨⟨p1,p2,f⟩,u,p⟩:=(I _ _).1 a;clear a I e6 d a1 O;have e:=u.1;have d:=(u.2 _ (by omega:m.h<g.h) Y).t c1;have xz:=RB x1 a0 u;simp(disch:=omega)only[lT,lU];refine S3 f d l4 ?_;let⟨I,hI⟩:=inv λm s a=>∃(i:Nat) (Z:L Nat),m=N o-i/\i<=N o/\(s 1=v/\s 2=.a l 0 (N h) cp/\s 25=y/\s 26=II (N o)/\s 27=II i)/\ax l g a/\a.f l=LL (ints Z)/\N Z=N h/\mf h (o.drop i) Z=mf h o z;refine aT I (N o) ((hI _ _ _).2 ⟨0,z,R,aJ _,⟨dx p1,dx p2,R,R,R⟩,u,p,b0.t a7,R⟩) ?_;clear p1 p2 f u p e d xz;intro m s B a;let⟨i,Z,d,a,⟨p1,p2,a2,U,V⟩,u,p,D,W⟩:=(hI _ _ _).1 a;have e:=u.1;have xz:=RB x1 a0 u;by_cases q:i<N o
  .let⟨a6,ri⟩:=pf a3 i q;obtain⟨b,off,cap,a,row,rfl,a5,a4,a,F⟩:=ry.at a6;have a:=(xz.2 b a4).t a5;let⟨d,f2,f3,f4,f5,b⟩:=cJ ri;rw[b] at F ri;rw[abq q] at W;refine S7 p1 p2 a2 U V a F ?_;have a:=ap (y:=LL [d,f2,f3,f4,f5]) (.refl B.h B);refine al (ih _ (aU q) (P _ (aU q)) _ _ Z _ (aM xz a) (by show l<B.h+1;omega) ((a.2 _ Y).t p) D ri λb d e=>?_);have f:B.h+1<=b.h:=d.1;refine S1 V ?_;exact⟨N o-(i+1),Y,(hI _ _ _).2 ⟨i+1,_,R,q,⟨dx p1,dx p2,dx a2,dx U,R⟩,⟨Y,λc x H=>(d.2 c (by show c<B.h+1;omega) H).t ((a.2 c Y).t (u.2 c x H))⟩,e,(Ji h _ _).t D,W⟩⟩
  .obtain rfl:i=N o:=Y;rw[fQ] at W;have W:Z=mf h o z:=by rw[<-W];unfold mf;rfl
   rw[<-W] at k;refine S2 U V ?_;exact k _ ⟨Y,λc x H=>(u.2 c Y H).t (E.2 c x)⟩ p
end
section
variable {g:AV->HN->Prop}{d:HN}{m:L (L AV)}{l:L Nd}{a b i j r s:Nat}
def ahU{a:Nat}{c:Cp}(h:aK s d (.a b j r c) m)(f:a<=N m):aK s d (.a b j a c) (m.take a):=by
 have n:∀(m:L (L AV)) (a:Nat),(∀l∈m,N l=s)->a<=N m->m.flatten.take (a*s)=(m.take a).flatten:=by
  intro m
  induction m with
  |nil=>intro a _ _;simp
  |cons l m i=>
   intro a g f;cases a with
   |zero=>simp
   |succ a=>
    have e:=g l gN;rw[rG,ir,ir,List.take_append,iM (by rw[e,tv];omega),<-i a (λx i=>g x (li _ i)) (by simpa using f),e];congr 2;rw[tv];omega
 rcases h with⟨rfl,_⟩|⟨i,i,i,t,row,e,o,p,i,k,q⟩
 .have:a=0:=by simpa using f
  subst this;exact .inl ⟨by simp,.inr ⟨_,_,_,R⟩⟩
 .cases e;have e:N (m.take a)=a:=by rw[dW];omega
  have i:a*s<=N m*s:=tu _ f;refine .inr ⟨b,j,c,t,row,by rw[e],o,p,by rw[e];omega,λl g=>k l (rE g),?_⟩;rw[e,<-n m a k f,<-q,vP,xH i]
def abu{h:L Nd}{l:L aX}{k:L Nat}(a:i<N l):pG h (l.drop i) k=pG h (l.drop (i+1)) (ny h l[i].e k):=by
 rw[eJ a];rfl
def ai7{k b:L Nat}(c:i<N k)(d:i<N b):oG (k.drop i) (b.drop i) a=oG (k.drop (i+1)) (b.drop (i+1)) (min (a+min (k.getD i 0) 1001*b.getD i 0) 1001):=by
 rw[eJ c,eJ d];simp only[cA,bM c,bM d]
 rfl
def Yw:∀(k b:L Nat) (a:Nat),a<=1001->oG k b a<=1001
 |[],_,_,h=>h
 |_::_,[],_,h=>h
 |p::k,e::b,a,_=>Yw k b _ (zV _ _)
def acY(h l:L Nd)(a:L Nat):∀(m:L Nd),jp h (l++m) a=jp (h++l) m (jp h l a):=by
 induction l generalizing h a with
 |nil=>intro m;rw[dH,eB];rfl
 |cons n l b=>
  intro m;show jp (h++[n]) (l++m) (a++[pI h a n])=_;rw[b,dC];rfl
def Q2:∀(l h:L Nd) (a:L Nat),N (jp h l a)=N a+N l
 |[],_,_=>rfl
 |n::l,h,a=>by
  show(jp (h++[n]) l (a++[pI h a n])).length=_
  rw[Q2,ay,bt];simp only[bt,hN];omega
def acZ(a:i<N l):jp [] (l.take (i+1)) []=jp [] (l.take i) []++[pI (l.take i) (jp [] (l.take i) []) l[i]]:=by
 rw[dt a,acY,dH];rfl
def JM:∀(l h:L Nd) (a:L Nat),(∀x∈a,x<=1001)->∀x∈jp h l a,x<=1001
 |[],_,_,g=>g
 |n::l,h,a,g=>JM l (h++[n]) (a++[pI h a n]) λx a=>(bA.1 a).elim (g x) λa=>by
  rw[dM.1 a];exact Yw _ _ _ (zV _ _)
def Qu:∀(l h:L Nd),sJ h l=true->∀i (c:i<N l),∀x∈pG (h++l.take i) l[i].r (List.replicate (N (h++l.take i)) 0),x<=1000000
 |n::l,h,g,0,_=>by
  unfold sJ at g;let⟨a,b⟩:=iY.1 g;rw[gO,eB];exact λx d=>gf (lX.1 a x d)
 |n::l,h,g,i+1,c=>by
  unfold sJ at g;let⟨a,b⟩:=iY.1 g
  have:=Qu l (h++[n]) b i (by simpa using c)
  rw[dC] at this;exact this
attribute [-go_sem] wp_block in
def acq{v:AV}(ok:ow l)(hc:sJ [] l=true)(rv:aK 6 d v m)(rl:fZ tt d l m)
  (k:∀s,ai d.h d s->g (II (kT l)) s):∃n s,aq Tryz.prog 31 [v] d n s/\g n s:=by
 let⟨n,g9⟩:=ok;let⟨n,r⟩:=pm rl;refine cf Wb Tryz.func31 ?_;have ln:=λs e w=>bI (e:=s) rv n Y e w;by_cases r:N l=0
 .have n:kT l=0:=ae r;rw[n] at k;refine S2 ln r ?_;exact k _ (.refl _ _)
 have n:kT l=(jp [] l []).getD (N l-1) 0:=ac r;rw[n] at k;have ez:∀n:Nat,List.replicate n (II 0)=ints (List.replicate n 0):=λn=>by unfold ints;rw[Of]
 have a9:∀(E:L Nat) (i x a:Nat) (r:L Nat),N E=i->(ints (E++a::r)).set i (II x)=ints (E++x::r):=λE i x a r h=>by
  rw[ints_set,<-h,Es _ _ (ak _),rH];rfl
 refine S1 ln ?_;rw[ae ⟨by decide,by omega⟩];obtain⟨n,h1⟩:∃n,n=d.X (LL (List.replicate (N l) (II 0))):=⟨_,R⟩;have E1:ai d.h d n:=by rw[h1];exact ap (.refl _ _)
 have r:n.h=d.h+1:=by rw[h1];rfl
 have r:n.f d.h=LL (ints (jp [] (l.take 0) []++List.replicate (N l-0) 0)):=by rw[h1];exact(ae R).t (by rw[ez];rfl)
 simp(disch:=omega)only[go_sem,wp_block,ln,<-h1];clear h1;let⟨I,hI⟩:=inv λa6 f C=>∃i,a6=N l-i/\i<=N l/\(f 0=v/\f 3=.a d.h 0 (N l) (.k (N l))/\f 17=v/\f 18=II (N l)/\f 19=II i)/\ax d.h n C/\C.f d.h=LL (ints (jp [] (l.take i) []++List.replicate (N l-i) 0));refine aT I (N l) ((hI _ _ _).2 ⟨0,R,aJ _,dy,.refl _ _,r⟩) ?_;clear r;intro a6 f C n;let⟨i,r,n,⟨p0,Z,z,t,u⟩,Xz,hz⟩:=(hI _ _ _).1 n;have n:=Xz.1;have Ez:ai d.h d C:=⟨Y,λc hc=>(Xz.2 c Y Y).t (E1.2 c hc)⟩;have a1:N (jp [] (l.take i) [])=i:=by rw[Q2,dW];simp only[hN];omega
 by_cases a2:i<N l
 .let⟨e9,ri⟩:=ph rl i a2;obtain⟨b',off,F,n,row,rfl,e7,e6,n,B⟩:=rv.at e9;have e8:C.f b'=_:=(Ez.2 b' e6).t e7;have c6:=g9 _ (aU a2);have a4:=Qu l [] hc i a2;rw[dH] at a4;have g8:=acZ a2;have h8:=ahU (a:=i) rv Y;have h7:=Mj i rl;have b3:N (l.take i)=i:=by rw[dW];omega
  rw[b3] at a4;generalize l[i]=a0 at*;generalize m[i]=n at*;have h6:=ri;obtain⟨y1,y2,y3,y4,rfl,-,-,-,-,n,r4,r5⟩:=h6;have n:sV a0.n=.s a0.n.1 a0.n.2:=R;rw[n] at ri B;have r:=(lS r5).1;have n:=c6.2.2.2.2.1;have e5:=c6.2.2.2.2.2;have l4:=λs e w=>bI (e:=s) r4 r Y e w;have e3:=JM (l.take i) [] [] λ_ h=>by cases h
  generalize n:l.take i=h at*;generalize n:jp [] h []=K at*;simp(disch:=omega)only[go_sem,wp_block,z,t,u,e8,B,bF];rw[ae ⟨by decide,by omega⟩];obtain⟨H,n⟩:∃H,H=(C.X (LL [a0.n,y1,y2,y3,y4,a0.a])).X (LL (List.replicate i (II 0))):=⟨_,R⟩;have E2:ai C.h C H:=by rw[n];exact ap (ap (.refl _ _))
  have r:H.h=C.h+2:=by rw[n];rfl
  have d5:H.f C.h=LL [a0.n,y1,y2,y3,y4,a0.a]:=by rw[n];exact(ac (by show¬C.h=C.h+1;omega)).t (ae R)
  have dk:H.f (C.h+1)=LL (ints (List.replicate i 0)):=by rw[n];exact(ae R).t (by rw[ez])
  simp(disch:=omega)only[go_sem,wp_block,l4];rw[<-n];clear n;generalize e4:a0.r=O at*;have sl:∀(s:HN) (e w:Nat),mV (.a e 6 w) (.a b' off (N m) F) none (some (II i)) none s=.ok (.a b' off i F) s:=λs e w=>by
   have b2:cT .i64 i=true:=by simp(disch:=omega)only[go_sem]
   cases F with
   |k c=>rw[aiP,MU,b2,ae R,ae (by omega)]
   |B es=>rw[aiS,MU,b2,ae R,ae (by omega)]
   |s es=>rw[aiR,MU,b2,ae R,ae (by omega)]
  let⟨J,hJ⟩:=inv λa6 f y=>∃(j:Nat) (W:L Nat),a6=N O-j/\j<=N O/\(f 0=.a b' off (N m) F/\f 3=.a d.h 0 (N l) (.k (N l))/\f 4=II i/\f 5=.p C.h 0/\f 6=.a (C.h+1) 0 i (.k i)/\f 17=.a b' off (N m) F/\f 18=II (N l)/\f 19=II i/\f 27=y4/\f 28=II (N O)/\f 29=II j)/\ax (C.h+1) H y/\y.f (C.h+1)=LL (ints W)/\N W=i/\pG h (O.drop j) W=pG h O (List.replicate i 0);refine aT J (N O) ((hJ _ _ _).2 ⟨0,_,R,aJ _,⟨dx p0,dx Z,R,R,R,dx z,dx t,dx u,R,R,R⟩,.refl _ _,dk,rD ..,R⟩) ?_;clear p0 Z z t u dk;intro a6 f o e;let⟨j,W,n,e,⟨p0,Z,p4,p5,p6,z,t,u,b5,a7,a8⟩,X3,h3,b1,eq⟩:=(hJ _ _ _).1 e;have e:=X3.1;have E3:ai d.h d o:=⟨Y,λc hc=>(X3.2 c Y Y).t ((E2.2 c Y).t (Ez.2 c hc))⟩;have e0:=(X3.2 _ (by omega:C.h<H.h) Y).t d5;by_cases a5:j<N O
  .let⟨g0,rj⟩:=sh r5 j a5;obtain⟨b,c5,e,e,c9,rfl,b8,b7,e,D⟩:=r4.at g0;have b9:o.f b=_:=(E3.2 b b7).t b8;have h4:=(e5 _ (aU a5)).2;rw[abu a5] at eq;generalize O[j]=q at*;let⟨b,e2,re⟩:=rj;obtain⟨V,P,g3,g4,g5,rfl⟩:=cJ re;rw[e2] at D;have D:(c9.drop (c5+j*7)).take 7=[.s q.n.1 q.n.2,.s V.1 V.2,.s P.1 P.2,II g3,II g4,g5,II q.a]:=D;have E4:ai o.h o (o.X (LL [q.n,V,P,g3,g4,g5,q.a])):=ap (.refl _ _);have b:(o.X (LL [q.n,V,P,g3,g4,g5,q.a])).f o.h=LL [q.n,V,P,g3,g4,g5,q.a]:=ae R;have b:(o.X (LL [q.n,V,P,g3,g4,g5,q.a])).h=o.h+1:=R;simp(disch:=omega)only[go_sem,wp_block,p0,p4,b5,a7,a8,b9,D,bF];generalize o.X (LL [.s q.n.1 q.n.2,.s V.1 V.2,.s P.1 P.2,II g3,II g4,g5,II q.a])=h9 at*;refine S2 p6 sl ?_;have b:=abA (h:=h) (hs:=m.take i) (t:=d) (v:=.a b' off i F) (l:=C.h+1) (cp:=.k i) Y h8 h7 Y q.e h4 h9 [V,P,g3,g4,g5] W;rw[b3] at b;refine bL (b _ (aM E3 E4) Y ((E4.2 _ Y).t h3) b1 re λb b e=>?_);have n:=b.1;refine S1 a8 ?_;exact⟨N O-(j+1),Y,(hJ _ _ _).2 ⟨j+1,_,R,a5,⟨dx p0,dx Z,dx p4,dx p5,dx p6,dx z,dx t,dx u,dx b5,dx a7,R⟩,⟨Y,λc V P=>(b.2 c Y P).t ((E4.2 c Y).t (X3.2 c V P))⟩,e,(Ji h _ _).t b1,eq⟩⟩
  .obtain rfl:j=N O:=Y;rw[fQ] at eq;have eq:W=pG h O (List.replicate i 0):=eq;rw[<-eq] at a4;have b:o.f d.h=LL (ints (K++List.replicate (N l-i) 0)):=(X3.2 _ Y Y).t ((E2.2 _ Y).t hz);obtain⟨q,e⟩:∃q,N l-i=q+1:=⟨N l-i-1,Y⟩;rw[e,BV] at b;have c2:∀a:Nat,N (ints (K++a::List.replicate q 0))=N l:=λa=>by rw[Gr,ay,bt,rD];omega
   have e:N (ints W)=i:=(Gr _).t b1;have mn:∀x:Nat,x<9223372036854775808->yV (II x) (II 1001)=some (II (min x 1001)):=λx e=>by
    show some (II (if fU .i64 1001 x then 1001 else x))=_;rw[TF (by omega) e];by_cases h1:1001<x
    .rw[aB h1,Nat.min_eq_right (by omega)];rfl
    .rw[aA h1,xH (by omega)];rfl
   have n:=mn (N O) Y;have e:=a9 K i (min (N O) 1001) 0 (List.replicate q 0) a1;have j:=c2 0;simp(disch:=omega)only[go_sem,wp_block,Z,p4,p5,p6,a7,a8,e0,l4,n,b,j,e];have b:pI h K a0=oG W K (min (N O) 1001):=by unfold pI;rw[e4,b3,<-eq]
   have e:∀y:HN,(∀c,c≠d.h->y.f c=o.f c)->y.f (C.h+1)=LL (ints W):=λy j=>(j _ Y).t h3;obtain⟨j,b0⟩:∃J:Nat->FN->HN->Prop,∀a6 f y,J a6 f y↔∃(p:Nat) (a:Nat),a6=i-p/\p<=i/\(f 0=.a b' off (N m) F/\f 3=.a d.h 0 (N l) (.k (N l))/\f 4=II i/\f 17=.a b' off (N m) F/\f 18=II (N l)/\f 19=II i/\f 48=.a (C.h+1) 0 i (.k i)/\f 49=II i/\f 50=II p)/\y.h=o.h/\(∀c,c≠d.h->y.f c=o.f c)/\y.f d.h=LL (ints (K++a::List.replicate q 0))/\a<=1001/\oG (W.drop p) (K.drop p) a=pI h K a0:=⟨_,λ_ _ _=>gZ⟩;refine aT j i ((b0 _ _ _).2 ⟨0,min (N O) 1001,R,aJ _,⟨dx p0,dx Z,dx p4,dx z,dx t,dx u,R,R,R⟩,R,λc a3=>ac a3,ae R,zV _ _,b.s⟩) ?_;clear p0 Z p4 p5 p6 z t u b5 a7 a8;intro a6 f f b;let⟨p,a,_,_,⟨p0,Z,p4,z,t,u,c7,b6,c8⟩,nn,b4,c3,j,U⟩:=(b0 _ _ _).1 b;have g6:=e f b4;by_cases g7:p<i
   .have e:p<N W:=Y;have b:p<N K:=Y;have gk:=C5 e;have f:W.getD p 0<=1000000:=by
     rw[cA,bM e];exact a4 _ (aU e)
    have e1:K.getD p 0<=1001:=by
     rw[cA,bM b];exact e3 _ (aU b)
    have gi:(ints (K++a::List.replicate q 0)).getD i bp=II a:=by
     rw[C5 (by rw[ay,bt];omega),cA,vN (by omega),a1,rH];rfl
    have gp:(ints (K++a::List.replicate q 0)).getD p bp=II (K.getD p 0):=by
     rw[C5 (by rw[ay,bt];omega),cA,tp b,<-cA]
    rw[ai7 e b] at U;generalize W.getD p 0=kp at*;generalize K.getD p 0=ep at*;have f:=mn kp Y;have b:min kp 1001*ep<=1001*1001:=Nat.mul_le_mul (zV _ _) e1;have j:=mn (a+min kp 1001*ep) Y;have b:=a9 K i (min (a+min kp 1001*ep) 1001) a (List.replicate q 0) a1;have e:=c2 a;simp(disch:=omega)only[go_sem,wp_block,Z,p4,c7,b6,c8,g6,gk,c3,e,gi,gp,f,j,b];exact⟨i-(p+1),Y,(b0 _ _ _).2 ⟨p+1,_,R,g7,⟨dx p0,dx Z,dx p4,dx z,dx t,dx u,dx c7,dx b6,R⟩,nn,λc a3=>(ac a3).t (b4 c a3),ae R,zV _ _,U⟩⟩
   .obtain rfl:p=i:=Y;rw[ZM (by omega)] at U;have U:a=pI h K a0:=by rw[<-U];unfold oG;rfl
    refine S3 u b6 c8 ?_;refine⟨N l-(p+1),Y,(hI _ _ _).2 ⟨p+1,R,a2,⟨dx p0,dx Z,dx z,dx t,R⟩,⟨Y,λc V P=>(b4 c P).t ((X3.2 c Y Y).t ((E2.2 c Y).t (Xz.2 c V P)))⟩,?_⟩⟩;rw[g8,<-U,dC,show N l-(p+1)=q by omega];exact c3
 .obtain rfl:i=N l:=Y;rw[rH,hU,aab,eB] at hz;rw[hU] at a1;have a:=C5 (k:=jp [] l []) (i:=N l-1) Y;have b:=(Gr (jp [] l [])).t a1;refine S7 p0 Z t u ln hz a ?_;exact k _ Ez
end
section
variable {g:AV->HN->Prop}{d:HN}{m:L (L AV)}{l:L Nd}
def aal(a:Nat)(e:HN)(y:AV)(c:L Vr):Prop:=∃b,a<=b/\b<e.h/\((y=.a b 0 0 (.k 0)/\c=[]/\∃d,e.f b=LL d)\/(c≠[]/\y=.a b 0 (N c) (.s 5)/\e.f b=LL (vcs c)))
def afI{lv:AV}(t:ow l)(r:l≠[])(w:aK 6 d lv m)(u:fZ tt d l m)
  (k:∀f h i j a,dL tt a (aD l) [.s (aD l).n.1 (aD l).n.2,f,h,i,j,II (aD l).a]->ai d.h d a->jN d.h a f (aD l).ins->jN d.h a h (aD l).o->aal d.h a i (aD l).ao->g (.g [.s (aD l).n.1 (aD l).n.2,f,h,i,j,II (aD l).a]) a):
  ∃b a,aq Tryz.prog 29 [lv] d b a/\g b a:=by
 obtain⟨v,n,c,f,h,i,j,rfl,q,e,o,p,s⟩:=afJ (g:=λv a=>∃f h i j,v=.g [.s (aD l).n.1 (aD l).n.2,f,h,i,j,II (aD l).a]/\dL tt a (aD l) [.s (aD l).n.1 (aD l).n.2,f,h,i,j,II (aD l).a]/\ai d.h d a/\jN d.h a f (aD l).ins/\jN d.h a h (aD l).o/\jN d.h a i (aD l).ao) t r w u λf h i j a a b c r e=>⟨f,h,i,j,R,a,b,c,r,e⟩;obtain⟨b,i,f,⟨rfl,h,a⟩|⟨h,rfl,a⟩⟩:=s
 .exact⟨_,n,c,k _ _ _ _ _ q e o p ⟨b,i,f,.inl ⟨R,h,a⟩⟩⟩
 .refine⟨_,n,c.share (i:=3) R,k _ _ _ _ _ ?_ e o p ⟨b,i,f,.inr ⟨h,R,a⟩⟩⟩;let⟨_,_,_,_,c,e,h,i,_,j⟩:=q;cases c;refine⟨_,_,_,_,R,e,h,i,?_,j⟩
  have:=aK.bT (s:=5) (c:=.s 5) ((aD l).ao.map Vr.cells) (f:=false) (b:=b) (U:=n) a f (λl a=>by obtain⟨v,_,rfl⟩:=cN.1 a;rfl)
  rw[aC] at this;exact this
def adJ{v:AV}(f:ow l)(c:sJ [] l=true)(h:aK 6 d v m)(e:fZ tt d l m)
  (k:∀a,ai d.h d a->g (II (kT l)) a):∃b a,aq Tryz.prog 12 [v] d b a/\g b a:=by
 refine c0 Tryz.func12 ?_;refine S0 ?_;refine al (acq f c h e λa e=>?_);refine S0 ?_;exact k _ e
def adT
   {lv:AV} {B:L AV} (y:l≠[]) (n:sJ [] l=true) (C:tC l m lv d B)
  (K:kT l<=1000->rM (gJ l (N l) ⟨aD l,(0,0),(0,0),false⟩ ⟨0,(aD l).ao,[]⟩))
  (k2:1000<kT l->∀i,ai d.h d i->g (.t [.g [.s 0 0,.e,.e,.e,.e,II 0],II 2]) i)
  (k0:kT l<=1000->∀k f i o p j H Z F,ai d.h d k->d.h<k.h->jN (d.h+1) k o (aD l).ins->jN (d.h+1) k p (aD l).o->
   fK k Z lv (aD l) o p (gJ l (N l) ⟨aD l,(0,0),(0,0),false⟩ ⟨0,(aD l).ao,[]⟩) j H F f->(∀c,c<d.h->f.f c=d.f c)->(∀c,F c->k.h<=c)->(∀c,c≠d.h->i.f c=f.f c)->i.h=f.h->
   (∀c,ar j c->d.h<c)->(∀c,ar H c->k.h<=c)->
   g (.t [.g [.s (aD l).n.1 (aD l).n.2,o,p,j,H,II (aD l).a],II 0]) i):
  ∃k i,aq Tryz.prog 11 [lv] d k i/\g k i:=by
 refine c0 Tryz.func11 ?_;have E0:ai d.h d (d.X (LL [.s 0 0,.e,.e,.e,.e,II 0])):=ap (.refl _ _);refine S0 ?_;refine al (adJ C.jG.ok n (C.rv.ext (f:=d.h) E0) (iJ (iS E0) E0.1 (λ_ h=>h) C.rl) λf i=>?_);have k:=i.1;have w:f.f d.h=LL [.s 0 0,.e,.e,.e,.e,II 0]:=(i.2 _ (bJ _)).t (ae R);have s:ai d.h d f:=aM E0 i;have k:d.h+1<=f.h:=k;have i:kT l<=1001:=by
  unfold kT;split
  .omega
  .rw[cA];cases hx:(jp [] l [])[N l-1]? with
   |none=>exact aJ _
   |some x=>exact JM l [] [] (λ_ h=>(by cases h)) x (qI hx)
 by_cases i:1000<kT l
 .refine S1 w ?_;exact k2 i _ (cO s Y)
 .refine S0 ?_;refine al (afI C.jG.ok y (C.rv.ext (f:=d.h) s) (iJ (iS s) s.1 (λ_ h=>h) C.rl) λo p j z a rn i l1 l2 O=>?_);have k:=i.1;have I:=(i.2 _ (by omega:d.h<f.h)).t w;have r:ai d.h d a:=aM s i;have i:dZ j=some [j]:=by obtain⟨b,-,-,⟨rfl,-⟩|⟨-,rfl,-⟩⟩:=O<;>rfl
  have i:dZ lv=some [lv]:=C.rv.cells;refine S1 i ?_;obtain⟨e,i⟩:∃k,k=(((a.X (LL [.s (aD l).n.1 (aD l).n.2,o,p,j,z,II (aD l).a])).X (LL [lv,.s (aD l).n.1 (aD l).n.2,o,p,j,z,II (aD l).a,II 0])).put (a.h+1) (LL [lv,.s (aD l).n.1 (aD l).n.2,o,p,j,.e,II (aD l).a,II 0])).X (LL [.s (aD l).n.1 (aD l).n.2,o,p,j,z,II (aD l).a,.s 0 0,.s 0 0,II 0,.s 0 0,false,II 0]):=⟨_,R⟩;rw[<-i];have k:e.h=a.h+3:=by rw[i];rfl
  have fx:e.f (a.h+2)=LL [.s (aD l).n.1 (aD l).n.2,o,p,j,z,II (aD l).a,.s 0 0,.s 0 0,II 0,.s 0 0,false,II 0]:=by rw[i];exact ae R
  have ff:e.f (a.h+1)=LL [lv,.s (aD l).n.1 (aD l).n.2,o,p,j,.e,II (aD l).a,II 0]:=by rw[i];exact(ac (by show¬a.h+1=a.h+2;omega)).t (ae R)
  have t:ai a.h a e:=by rw[i];exact ap (cO (ap (ap (.refl _ _))) Y)
  have V:tC l m lv a B:=⟨C.jG,C.rv.ext (f:=d.h) r,iJ (iS r) r.1 (λ_ h=>h) C.rl,(r.2 0 C.h0).t C.tb,by have:=C.h0;have:=r.1;omega,C.itoa⟩;have i:0<N l:=zP.2 y;have U:aD l=l[N l-1]:=by
   unfold aD;rw[Ob,bM (by omega)];rfl
  have P:eG (aD l):=by rw[U];exact C.jG.ok.2 _ (aU _)
  have q:∀c,ar j c->f.h<=c/\c<a.h:=λc n=>by
   obtain⟨b,W,u,⟨rfl,-⟩|⟨-,rfl,-⟩⟩:=O<;>(have n:b=c:=n;omega)
  have lt:uH a.h e j (aD l).ao:=by
   obtain⟨b,W,u,⟨rfl,D,row,v⟩|⟨D,rfl,v⟩⟩:=O
   .exact⟨b,Y,.inl ⟨R,D,u,false,row,(t.2 _ u).t v⟩⟩
   .exact⟨b,Y,.inr ⟨D,.inr (.inl ⟨R,u,(t.2 _ u).t v⟩)⟩⟩
  have f:fK a (a.h+1) lv (aD l) o p ⟨0,(aD l).ao,[]⟩ j .e (λ_=>False) e:=⟨ff,Y,Y,lt,⟨[],aH.nil,R⟩,λ_ h=>h.elim,.inl R,λh=>h,λh=>om (q _ h),λ_ h=>h.elim,.of t⟩;have b:ki a e (a.h+2) ⟨aD l,(0,0),(0,0),false⟩:=⟨Y,P,aJ _,o,p,j,z,fx,rn⟩;refine al (WU V (e:=aD l) (c:=o) (f:=p) (b:=a.h+1) (N l) (N l-1) Y ⟨aD l,(0,0),(0,0),false⟩ Y U e (a.h+2) _ j .e _ _ f b ⟨Y,Y,λh=>h,λh=>om (q _ h)⟩ (K Y) λs j u i b f=>?_);have v:=b.D;have k:i.f d.h=LL [.s 0 0,.e,.e,.e,.e,II 0]:=(f.same _ Y Y (λh=>h) (λh=>om (q _ h))).t ((t.2 _ Y).t I);refine S2 v k ?_;refine k0 Y a i _ o p s j _ u r Y (l1.mono Y) (l2.mono Y) b (λc n=>?_) (λc n=>?_) (λc n=>ac n) R (λc n=>?_) (λc n=>?_)
  .exact(f.same _ Y Y (λh=>h) (λh=>om (q _ h))).t ((t.2 _ Y).t (r.2 _ n))
  .by_cases h:c<e.h
   .exact(f.f c h n).elim
   .omega
  .by_cases h:c<e.h
   .have:=q _ (f.l c h n);omega
   .omega
  .by_cases h:c<e.h
   .exact(f.e c h n).elim
   .omega
variable {y:AV}{e:HN}{b h:Nat}
def aak{g:L Vr}(a:aK 5 d y (g.map Vr.cells))(f:∀c,ar y c->g=[]\/(h<=c/\c<d.h))(k:∀c,h<=c->c<d.h->qd (d.f c) (e.f c))(b:d.h<=e.h):aK 5 e y (g.map Vr.cells):=by
 rcases a with a|⟨b,off,cap,c,row,c,l,i,m⟩
 .exact .inl a
 .rcases f b (by rw[c];rfl) with rfl|⟨i,j⟩
  .exact .inl ⟨R,.inr ⟨b,off,cap,c⟩⟩
  .let⟨f,n⟩:=(k b i j).E l;exact .inr ⟨b,off,cap,f,row,c,n,Y,m⟩
def NB{a:Cp}{e:Bool}{c:L Vr}(f:d.f b=.E e (vcs c))(g:b<d.h):aK 5 d (.a b 0 (N c) a) (c.map Vr.cells):=by
 have:=aK.bT (s:=5) (c:=a) (c.map Vr.cells) (f:=e) (b:=b) (U:=d) f g (λl f=>by obtain⟨v,_,rfl⟩:=cN.1 f;rfl)
 rw[aC] at this;exact this
def jN.Xu{g:L Vr}(a:jN h d y g)(k:∀c,h<=c->c<d.h->qd (d.f c) (e.f c))(i:d.h<=e.h):aK 5 e y (g.map Vr.cells):=
 aak a.rd (λc f=>.inr (by obtain⟨b,j,j,⟨rfl,-⟩|⟨-,rfl,-⟩⟩:=a<;>(have f:b=c:=f;omega))) k i
def ad2
   {lv:AV} {f:L AV} (a:l≠[]) (k:sJ [] l=true) (C:tC l m lv d f)
  (a3:kT l<=1000->rM (gJ l (N l) ⟨aD l,(0,0),(0,0),false⟩ ⟨0,(aD l).ao,[]⟩))
  (k2:1000<kT l->∀f,ai d.h d f->g (.t [.g [.s 0 0,.e,.e,.e,.e,II 0],II 2]) f)
  (k0:kT l<=1000->∀z f,ai d.h d f->dL (λc=>d.h<=c/\c<f.h) f (bN l) z->g (.t [z,II 0]) f):
  ∃v f,aq Tryz.prog 11 [lv] d v f/\g v f:=by
 let⟨v,q,V,h⟩:=adT (g:=λv f=>(1000<kT l/\v=.t [.g [.s 0 0,.e,.e,.e,.e,II 0],II 2]/\ai d.h d f)\/
  (kT l<=1000/\∃i n B D u y z F,v=.t [.g [.s (aD l).n.1 (aD l).n.2,B,D,u,y,II (aD l).a],II 0]/\ai d.h d i/\d.h<i.h/\jN (d.h+1) i B (aD l).ins/\jN (d.h+1) i D (aD l).o/\
   fK i z lv (aD l) B D (gJ l (N l) ⟨aD l,(0,0),(0,0),false⟩ ⟨0,(aD l).ao,[]⟩) u y F n/\(∀c,c<d.h->n.f c=d.f c)/\(∀c,F c->i.h<=c)/\(∀c,c≠d.h->f.f c=n.f c)/\f.h=n.h/\
   (∀c,ar u c->d.h<c)/\(∀c,ar y c->i.h<=c)))
  a k C a3 (λa f e=>.inl ⟨a,R,e⟩) (λa i n f B D u y z F b1 f v b4 b5 b6 Z s U x I=>.inr ⟨a,i,n,B,D,u,y,z,F,R,b1,f,v,b4,b5,b6,Z,s,U,x,I⟩)
 rcases h with⟨a1,rfl,e⟩|⟨a2,i,n,B,D,u,y,z,F,rfl,b1,f,l1,l2,K,b6,Z,s,U,x,I⟩
 .exact⟨_,q,V,k2 a1 _ e⟩
 .have v:=K.ext;have a:=v.1;have O:∀(j:HN) (a:AV),j.h=n.h->(∀c,c<i.h->c≠d.h->j.f c=n.f c)->(∀c,i.h<=c->¬ar u c->j.f c=n.f c)->
    aK 5 j a ((gJ l (N l) ⟨aD l,(0,0),(0,0),false⟩ ⟨0,(aD l).ao,[]⟩).ao.map Vr.cells)->(∀c,ar a c->ar u c)->
    g (.t [.g [.s (aD l).n.1 (aD l).n.2,B,D,a,y,II (aD l).a],II 0]) j:=by
   intro j a e f g2 n g4;have e:∀c,d.h+1<=c->c<i.h->qd (i.f c) (j.f c):=λc P w=>by
    rw[f c w (by omega)];exact v.2 c w
   let⟨W,o,r⟩:=K.own;refine k0 a2 _ _ ⟨om b1.1,λc k=>(f c Y Y).t (b6 c k)⟩ ⟨B,D,a,y,R,⟨λc k=>?_,λc k=>?_,λc k=>?_,λc k=>?_⟩,l1.Xu e Y,l2.Xu e Y,n,W,?_,?_⟩
   .obtain⟨b,q1,q2,⟨rfl,-⟩|⟨-,rfl,-⟩⟩:=l1<;>(have k:b=c:=k;show d.h<=c/\c<j.h;omega)
   .obtain⟨b,q1,q2,⟨rfl,-⟩|⟨-,rfl,-⟩⟩:=l2<;>(have k:b=c:=k;show d.h<=c/\c<j.h;omega)
   .have a:=g4 c k
    have:=x c a
    let⟨b,a0,t⟩:=K.loc
    have:b=c:=by rcases t with⟨rfl,-⟩|⟨-,⟨rfl,-⟩|⟨rfl,-⟩|⟨rfl,-⟩⟩<;>exact a
    show d.h<=c/\c<j.h;omega
   .have:=I c k
    obtain⟨-,⟨rfl,-⟩|⟨b,w1,w2,⟨rfl,-,-⟩|⟨rfl,-⟩⟩⟩:=o
    .exact k.elim
    .have k:b=c:=k;show d.h<=c/\c<j.h;omega
    .have k:b=c:=k;show d.h<=c/\c<j.h;omega
   .have h7:=(lS r).2;obtain⟨-,⟨rfl,h0⟩|⟨b,w1,w2,⟨rfl,h0,-⟩|⟨rfl,w3⟩⟩⟩:=o
    .exact .inl ⟨ff h0,.inl R⟩
    .exact .inl ⟨ff h0,.inr ⟨_,_,_,R⟩⟩
    .exact aK.bT W (f:=false) ((g2 b w1 (K.ne b R)).t w3) Y h7
   .exact pp (λc k _=>g2 c (Z c k) (K.hF c k).2.2.2) Y (λc k=>by have:=Z c k;have:=(K.hF c k).1;show d.h<=c/\c<j.h;omega) r
  have H:aK 5 q u ((gJ l (N l) ⟨aD l,(0,0),(0,0),false⟩ ⟨0,(aD l).ao,[]⟩).ao.map Vr.cells)->g (.t [.g [.s (aD l).n.1 (aD l).n.2,B,D,u,y,II (aD l).a],II 0]) q:=λh=>
   O q u U (λc P w=>s c w) (λc P _=>s c Y) h λ_ h=>h
  let⟨b,a0,t⟩:=K.loc;rcases t with⟨rfl,hv,a,p⟩|⟨hv,⟨rfl,a,p⟩|⟨rfl,a,p⟩|⟨rfl,a,p⟩⟩
  .exact⟨_,q,V,H (.inl ⟨by rw[hv];rfl,.inr ⟨_,_,_,R⟩⟩)⟩
  .have a:=(s b Y).t p;exact⟨_,q,V,H (NB a Y)⟩
  .have a:=(s b (om (x b R))).t p;refine⟨_,q,V.rest (i:=3) R (.inl R),?_⟩;exact O q _ U (λc P w=>s c w) (λc P _=>s c Y) (NB a Y) λ_ h=>h
  .have a:=(s b Y).t p;refine⟨_,_,V.rest (i:=3) R (.inr ⟨_,a,R⟩),?_⟩;refine O _ _ U (λc P w=>(ac Y).t (s c w)) (λc P w=>(ac λh=>w h.s).t (s c Y)) (NB (e:=true) (ae R) (by show b<q.h;omega)) λ_ h=>h
structure aQ where
 o:Nat
 a:Nat
 b:Nat
 c:Nat
def aQ.cells(i:aQ):L AV:=[i.o,i.a,i.b,i.c]
structure PD where
 ins:List Nat
 o:List Nat
 an:List Nat
 y:List Nat
 s:List Nat
 j:List aQ
def tX(k:Nat):Bool:=de (k=1)||de (k=2)
def DG(p:PD):Bool:=de (N p.an<=1024)&&(de (N p.y<=1024)&&(de (N p.s<=1024)&&(p.ins.all tX&&(p.o.all tX&&(p.an.all tX&&(p.y.all tX &&
 (de (N p.ins<=64)&&(de (N p.o<=64)&&de (N p.j<=8192)))))))))
def has(l:L Nat)(n:Nat):Bool:=de (n<N l)
def ru(p:PD)(b a:Nat):Bool:=de (b<a)&&de (a<=N p.j)
def px(p:PD)(a:Nat)(i:aQ):Bool:=
 if i.o=0 then has p.an i.a&&has p.s i.b
 else if i.o=1\/i.o=6\/i.o=7 then has p.an i.a&&has p.an i.b
 else if i.o=2 then has p.an i.a&&has p.y i.b
 else if i.o=3 then has p.y i.a&&has p.an i.b
 else if i.o=4 then has p.an i.a&&has p.ins i.b
 else if i.o=5 then has p.o i.a&&has p.an i.b
 else if i.o=19 then ru p a i.a&&has p.an i.b
 else if i.o=20 then ru p a i.a
 else de (8<=i.o/\i.o<=18)&&(has p.an i.a&&(has p.an i.b&&has p.an i.c))
def kC(p:PD)(k n:Nat):Bool:=de (p.an.getD n 0=k)
def wI(p:PD)(i:aQ):Bool:=
 if i.o=0 then kC p 2 i.a||(de (p.s.getD i.b 0=0)||de (p.s.getD i.b 0=1))
 else if i.o=1 then de (p.an.getD i.a 0=p.an.getD i.b 0)
 else if i.o=2 then de (p.an.getD i.a 0=p.y.getD i.b 0)
 else if i.o=3 then de (p.y.getD i.a 0=p.an.getD i.b 0)
 else if i.o=4 then de (p.an.getD i.a 0=p.ins.getD i.b 0)
 else if i.o=5 then de (p.o.getD i.a 0=p.an.getD i.b 0)
 else if i.o=6 then kC p 1 i.a&&kC p 1 i.b
 else if i.o=7 then kC p 2 i.a&&kC p 2 i.b
 else if 8<=i.o/\i.o<=12 then kC p 2 i.a&&(kC p 2 i.b&&kC p 2 i.c)
 else if i.o=13 then kC p 1 i.a&&de (p.an.getD i.b 0=p.an.getD i.c 0)
 else if i.o=14\/i.o=15 then kC p 1 i.a&&(kC p 2 i.b&&kC p 2 i.c)
 else if 16<=i.o/\i.o<=18 then kC p 1 i.a&&(kC p 1 i.b&&kC p 1 i.c)
 else if i.o=19 then kC p 1 i.b
 else true
def iK(i:aQ):L Nat:=if i.o=0\/i.o=2\/i.o=4\/i.o=20 then[] else if 8<=i.o/\i.o<=18 then[i.b,i.c] else[i.b]
abbrev St:=Option (L Bool×L Bool)
def gy(x:St)(d:L Bool×L Bool):L Bool×L Bool:=match x with
 |none=>d
 |some y=>(List.zipWith and y.1 d.1,List.zipWith and y.2 d.2)
def fR(i:aQ)(d:L Bool×L Bool):L Bool×L Bool:=if i.o=5 then(d.1,d.2.set i.a true) else if i.o=3\/i.o=19\/i.o=20 then d else(d.1.set i.a true,d.2)
def oD(a:Nat->St)(n:Nat)(d:L Bool×L Bool):Nat->St:=λq=>if q=n then some d else a q
def mP(i:aQ)(c:Nat)(b:Nat->St)(d:L Bool×L Bool):Nat->St:=
 let a:=if i.o=19\/i.o=20 then oD b i.a (gy (b i.a) d) else b
 if i.o=20 then a else oD a (c+1) (gy (a (c+1)) d)
def rT:L aQ->Nat->(Nat->St)->Nat ⊕ St
 |[],a,b=>.inr (b a)
 |i::r,a,b=>match b a with
  |none=>rT r (a+1) b
  |some d=>if(iK i).all (λn=>d.1.getD n false) then rT r (a+1) (mP i a b (fR i d)) else .inl a
def yF(f:Nat->aQ->Bool):L aQ->Nat->Option Nat
 |[],_=>none
 |i::r,a=>if f a i then yF f r (a+1) else some a
def zw(p:PD):Nat->St:=λq=>if q=0 then some (List.replicate (N p.an) false,List.replicate (N p.o) false) else none
def C9(p:PD):Nat×Nat:=match rT p.j 0 (zw p) with
 |.inl a=>(a,4)
 |.inr none=>(0,0)
 |.inr (some d)=>if d.2.all id then(0,0) else(N p.j,5)
def Cw(p:PD):Nat×Nat:=if DG p then(match yF (px p) p.j 0 with
 |some a=>(a,2)
 |none=>(match yF (λ_=>wI p) p.j 0 with
  |some a=>(a,3)
  |none=>C9 p)) else(18446744073709551615,1)
end
end Go.Proofs.YtehahhggpdhieaaGreatDoor
