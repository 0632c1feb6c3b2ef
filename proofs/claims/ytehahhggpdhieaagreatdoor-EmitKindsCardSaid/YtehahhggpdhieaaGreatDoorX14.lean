/- Lemmas of the walk of EmitKinds are proved. Conditions: none. -/
import Derived.Test.YtehahhggpdhieaaGreatDoorX13
namespace Go.Proofs.YtehahhggpdhieaaGreatDoor
set_option maxRecDepth 100000
set_option maxHeartbeats 32000000
set_option linter.all false
section
open Tryz renaming prog->tz
open Tryz
variable {y:AV}{g:AV->HN->Prop}{d e:HN}{m:L (L AV)}{z:L AV}{c:L aS}{i:Nat}
def pT(g:HN)(k:Ck)(z:L AV):Prop:=∃(a b:S) (c d:Nat) (f e:AV),z=[.s a.1 a.2,.s b.1 b.2,II c,II d,.e,f,e,.l k.2]/\dS g f k.1/\dZ e=some [e]
def qE(b:HN):L Ck->L (L AV)->Prop
 |[],a=>a=[]
 |k::c,a=>∃l r,a=l::r/\pT b k l/\qE b c r
def pT.ext{U:HN}{k:Ck}(h:pT U k z)(x:ai U.h U e):pT e k z:=by
 let⟨a,b,c,d,f,l,g,i,j⟩:=h;exact⟨a,b,c,d,f,l,g,i.ext x,j⟩
def Nt{d e:HN}(x:ai d.h d e):∀{a:L Ck} {b:L (L AV)},qE d a b->qE e a b
 |[],_,h=>h
 |_::_,_,⟨l,r,a,b,c⟩=>⟨l,r,a,b.ext x,Nt x c⟩
def Eb{d:HN}:∀{a:L Ck} {b:L (L AV)},qE d a b->N b=N a/\∀l∈b,N l=8
 |[],_,h=>by
  have h:_=[]:=h;subst h;exact⟨R,λ_ h=>by cases h⟩
 |k::a,_,⟨l,r,e,f,c⟩=>by
  subst e
  have:=Eb c
  refine⟨by simp[this.1],λx hx=>?_⟩;rcases bY.1 hx with rfl|hx
  .obtain⟨a,b,c,a,a,a,rfl,_⟩:=f
   rfl
  .exact this.2 x hx
def D9{d:HN}:∀{a:L Ck} {b:L (L AV)},qE d a b->∀i (h:i<N a),∃c:i<N b,pT d a[i] b[i]
 |k::a,_,⟨l,r,e,b,c⟩,0,f=>by subst e;exact⟨jm _,b⟩
 |k::a,_,⟨l,r,e,b,c⟩,i+1,f=>by
  subst e;let⟨q,r⟩:=D9 c i (by simpa using f);exact⟨oL q,r⟩
def YR{d:HN}{k:Ck}{z:L AV}(g:pT d k z):∀{a:L Ck} {b:L (L AV)},qE d a b->qE d (a++[k]) (b++[z])
 |[],_,h=>by
  have h:_=[]:=h;subst h;exact⟨z,[],R,g,R⟩
 |_::_,_,⟨l,r,e,a,b⟩=>by
  subst e;exact⟨l,r++[z],R,a,YR g b⟩
def Qd(h:dS d y c)(a:i<N c):∃b,b<d.h/\y=.a b 0 (N c) (.B 2)/\d.f b=LL (c.map cU).flatten/\((c.map cU).flatten.drop (i*2)).take 2=[.s (c[i]).1.1 (c[i]).1.2,.l (c[i]).2]/\N (c.map cU).flatten=N c*2:=by
 rcases h with⟨_,rfl⟩|⟨b,e,f,g⟩
 .cases a
 .refine⟨b,e,f,g,?_,by rw[jZ _ (qB _),aC]⟩;rw[oV (s:=2) _ i (qB c) (by rw[aC];exact a),kM];rfl
def Jp(h:dS d y c)(b:N c<=9223372036854775807)(a w:Nat):eF (.a a 2 w) y e=.ok (II (N c)) e:=bI (e:=e) h.rd (n:=N c) (by rw[aC]) b a w
@[go_sem] def anI:vd tz 250 false=true:=by kernel_rfl
def ai2{a b:S}{p q:Bool}:oU tz 250 (.g [a,p]) (.g [.s b.1 b.2,.l q])=wc (some (aI a.1 a.2 b.1 b.2)) (wc (some (p==q)) (some true)):=by kernel_rfl
def ai1(s t:aS):oU tz 250 (.g [s.1,s.2]) (.g [.s t.1.1 t.1.2,.l t.2])=some (de (s=t)):=by
 rw[ai2,bz];let⟨a,p⟩:=s;let⟨b,q⟩:=t;by_cases h:a=b
 .subst h;rw[aB R];cases p<;>cases q<;>simp<;>rfl
 .rw[aA h,aA (λg=>h (by cases g;rfl))];rfl
def adr{z:AV}{b:L aS}(v:dS d y c)(x:dS d z b)(a:N c<=1099511627776)(a:N b<=1099511627776)(k:g (.l (de (c=b))) d):∃m a,aq tz 172 [y,z] d m a/\g m a:=by
 refine cf VW func172 ?_;have B:=λa e w=>Jp (e:=a) v Y e w;have C:=λa e w=>Jp (e:=a) x Y e w;by_cases u:N c=N b
 .refine S2 B C ?_;let⟨I,o⟩:=inv λm a w=>∃i,m=N c-i/\i<=N c/\(a 0=y/\a 1=z/\a 12=II (N c)/\a 13=II i)/\w=d/\c.take i=b.take i;refine aT I (N c) ((o _ _ _).2 ⟨0,R,aJ _,dy,R,R⟩) ?_;intro m a w t;obtain⟨i,a,t,⟨r,s,f,j⟩,rfl,p⟩:=(o _ _ _).1 t;by_cases h:i<N c
  .obtain⟨a,a,rfl,q2,D,a⟩:=Qd v h;obtain⟨a,a,rfl,F,H,a⟩:=Qd x (i:=i) Y;have l:=ai1 c[i] b[i];have m:c.take (i+1)=c.take i++[c[i]]:=dt h;have a:b.take (i+1)=b.take i++[b[i]]:=dt Y;by_cases e:c[i]=b[i]
   .rw[aB e] at l;simp(disch:=omega)only[go_sem,r,s,f,j,q2,D,F,H,l,eI];exact⟨N c-(i+1),Y,(o _ _ _).2 ⟨i+1,R,h,⟨dx r,dx s,dx f,R⟩,R,by rw[m,a,p,e]⟩⟩
   .rw[aA e] at l;have q:c≠b:=λn=>e (by subst n;rfl);rw[aA q] at k;simp(disch:=omega)only[go_sem,r,s,f,j,q2,D,F,H,l,gv];exact k
  .obtain rfl:i=N c:=Y;rw[hU,u,hU] at p;rw[aB p] at k;refine S2 f j ?_;exact k
 .have q:c≠b:=λn=>u (by rw[n]);rw[aA q] at k;refine S2 B C ?_;exact k
def Ga{c:Ck}{f:L aS}(n:pT d c z)(m:dS d y f)(j:N c.1<=1099511627776)(l:N f<=1099511627776)(k:∀a,ai d.h d a->g (.l (cg c f)) a):∃b a,aq tz 156 [z,y] d b a/\g b a:=by
 obtain⟨a,b,e,d1,h,o,rfl,i,p⟩:=n;refine c0 func156 ?_;have E:ai d.h d (d.X (LL [a,b,e,d1,.e,h,o,c.2])):=ap (.refl _ _);cases a:c.2 with
 |true=>
  have e:cg c f=true:=by unfold cg;rw[a];rfl
  rw[e] at k;rw[a] at E;refine S0 ?_;exact k _ E
 |false=>
  have e:cg c f=de (c.1=f):=by unfold cg;rw[a];rfl
  rw[e] at k;rw[a] at E;refine S0 ?_;refine al (adr (i.ext E) (m.ext E) j l ?_);refine S0 ?_;exact k _ E
def abV(f:dS d y c)(a:N c<=1099511627776)(k:∀a,(a=.e/\c=[]\/∃b e,b<d.h/\e<=N c/\a=.a b 0 (N c) (.k e)/\d.f b=LL (c.map cU).flatten)->g a d):∃e a,aq tz 158 [y] d e a/\g e a:=by
 refine c0 func158 ?_;have e:=λa e w=>Jp (e:=a) f Y e w;rcases f with⟨rfl,rfl⟩|⟨b,h,rfl,i⟩
 .refine S0 ?_;exact k _ (.inl dy)
 .have e:(if N c=0 then aZ.ok (.a b 0 0 (.k 0)) d else aZ.ok (.a b 0 (N c) (.k (N c))) d)=.ok (.a b 0 (N c) (.k (N c))) d:=by
   by_cases a:N c=0
   .rw[ae a,a]
   .rw[ac a]
  refine S1 e ?_;exact k _ (.inr ⟨b,N c,h,ak _,R,i⟩)
def aiY{e:AV}(a:N c<=1099511627776)(h:e=.e/\c=[]\/∃b a,b<d.h/\a<=N c/\e=.a b 0 (N c) (.k a)/\d.f b=LL (c.map cU).flatten){s:S}{q:Bool}{f:Nat}{g:Cp}(i:d.f f=LL [s,q]):
  gj 2 24 e (.a f 0 1 g) d=.ok (.a d.h 0 (N c+1) (.B 2)) (d.X (LL ((c++[(s,q)]).map cU).flatten)):=by
 rw[oR,ac (by decide),i,ui,ae (gf R)];have i:((c++[(s,q)]).map cU).flatten=(c.map cU).flatten++[.s s.1 s.2,.l q]:=by
  rw[cM,iL,oI,oW];rfl
 rw[i];rcases h with⟨rfl,rfl⟩|⟨b,a,i,i,rfl,i⟩
 .rfl
 .show(if(N c+1)*24<=140737488355328 then(if 1=0 then aZ.ok _ d else sH b 0 (N c) 2 1 a [s,q] (d.f b) d) else aZ.no)=_
  rw[ae (by omega),ac (by decide)];unfold sH;rw[ac (by omega),i,ui,ae (by rw[jZ _ (qB c),aC];omega),ng,iM (by rw[jZ _ (qB c),aC];exact ak _)]
  rfl
def zy{s:S}{q:Bool}(f:dS d y c)(j:N c<=1099511627776)(k:∀e a,dS a e (cB c s q)->ai d.h d a->g e a):∃b a,aq tz 136 [y,s,q] d b a/\g b a:=by
 refine c0 func136 ?_;refine S0 ?_;refine al (abV f j λe f=>?_);refine S0 ?_;have E:ai d.h d (d.X (LL [s,q])):=ap (.refl _ _);have i:e=.e/\c=[]\/∃b a,b<(d.X (LL [s,q])).h/\a<=N c/\e=.a b 0 (N c) (.k a)/\(d.X (LL [s,q])).f b=LL (c.map cU).flatten:=by
  rcases f with h|⟨b,a,e,f,l,m⟩
  .exact .inl h
  .exact .inr ⟨b,a,BY e,f,l,(E.2 b e).t m⟩
 have a:=aiY j i (s:=s) (q:=q) (f:=d.h) (g:=.k 1) (ae R);refine S1 a ?_;refine k _ _ (.inr ⟨d.h+1,bJ _,?_,ae R⟩) (ap E);unfold cB;rw[ay];rfl
def Qt:fU .i64 18446744073709551615 0=true:=R
def Ql{a:Type}{l:L a}{v:AV}(D:N m=N l)(t:N l<=4294967296)(y:aK 8 d v m){p:a->Bool}{f:FuncId}{c:L AV}
  (C:Cf d l m p f c) (k:∀a,ai d.h d a->g (II (gE (dD p l 0))) a):∃t a,aq tz 173 [v,.func f [] c] d t a/\g t a:=by
 refine c0 func173 ?_;have t:=λa e w=>bI (e:=a) y D Y e w;refine S1 t ?_;let⟨I,n⟩:=inv λt a s=>∃i,t=N l-i/\i<=N l/\(a 0=v/\a 1=.func f [] c/\a 7=II (N l)/\a 8=II i)/\dD p (l.drop i) i=dD p l 0/\ai d.h d s;refine aT I (N l) ((n _ _ _).2 ⟨0,R,aJ _,dy,R,.refl _ _⟩) ?_;intro t a s a;let⟨i,t,a,⟨u,x,q,r⟩,ex,Ex⟩:=(n _ _ _).1 a;by_cases h:i<N l
 .obtain⟨b,off,cap,a,row,rfl,B,o,a,j⟩:=y.at (i:=i) Y;have a:=(Ex.2 b o).t B;refine S6 u x q r a j ?_;refine al (C s Ex i h Y _ λa z=>?_);rw[yM h] at ex;cases e:p l[i] with
  |true=>
   rw[e,ae R] at ex;rw[<-ex] at k;refine S0 ?_;exact k _ (aM Ex z)
  |false=>
   rw[e,ac (by decide)] at ex;refine S1 r ?_;exact⟨N l-(i+1),Y,(n _ _ _).2 ⟨i+1,R,h,⟨dx u,dx x,dx q,R⟩,ex,aM Ex z⟩⟩
 .obtain rfl:i=N l:=Y;rw[fQ] at ex;rw[<-ex] at k;refine S2 q r ?_;exact k _ Ex
def ajd{a:Type}{l:L a}{v:AV}(h:N m=N l)(i:N l<=4294967296)(j:aK 8 d v m){p:a->Bool}{f:FuncId}{b:L AV}
  (e:Cf d l m p f b) (k:∀a,ai d.h d a->g (.l (l.any p)) a):∃c a,aq tz 175 [v,.func f [] b] d c a/\g c a:=by
 refine c0 func175 ?_;refine S0 ?_;refine al (Ql h i j e λa h=>?_);have a:=AM p l 0;cases e:dD p l 0 with
 |none=>
  rw[e] at a;have a:false=l.any p:=a;rw[<-a] at k;have c:gE none=18446744073709551615:=R;simp(disch:=omega)only[go_sem,c,Qt];exact k _ h
 |some j=>
  rw[e] at a;have a:true=l.any p:=a;rw[<-a] at k;let⟨_,a,_⟩:=pL e;have c:gE (some j)=j:=R;refine S1 c ?_;exact k _ h
def agB{c:Ck}(e:pT d c z)(k:∀a,ai d.h d a->g (.l (!c.2)) a):∃b a,aq tz 174 [z] d b a/\g b a:=by
 obtain⟨a,b,a,d1,a,a,rfl,a,a⟩:=e;refine c0 func174 ?_;cases e:c.2 with
 |true=>
  rw[e] at k;refine S0 ?_;exact k _ (ap (.refl _ _))
 |false=>
  rw[e] at k;refine S0 ?_;exact k _ (ap (.refl _ _))
def agC{c:Ck}{f:L aS}{h:Nat}(i:pT d c z)(p:dS d y f)(m:d.f h=LL [y])(a:h<d.h)(n:N c.1<=1099511627776)(o:N f<=1099511627776)(k:∀a,ai d.h d a->g (.l (!cg c f)) a):∃b a,aq tz 176 [z,.p h 0] d b a/\g b a:=by
 have e:=i;obtain⟨a,b,j,d1,l,q,rfl,r,r⟩:=e;refine c0 func176 ?_;have E:ai d.h d (d.X (LL [a,b,j,d1,.e,l,q,c.2])):=ap (.refl _ _);refine S1 m ?_;refine al (Ga (i.ext E) (p.ext E) n o λa a=>?_);cases e:cg c f with
 |true=>
  rw[e] at k;refine S0 ?_;exact k _ (aM E a)
 |false=>
  rw[e] at k;refine S0 ?_;exact k _ (aM E a)
def M0(a:L Ck):Prop:=N a<=1073741824/\∀k∈a,N k.1<=1099511627776
def agF{a:L Ck}(v:aK 8 d y m)(p:qE d a m)(w:M0 a)(k:∀n b,dS b n (kE a).1.1->ai d.h d b->g (.t [n,.l (kE a).1.2,.l (kE a).2]) b):∃c b,aq tz 157 [y] d c b/\g c b:=by
 let⟨z,b⟩:=Eb p;have b:=w.1;refine cf VP func157 ?_;refine S0 ?_;refine al (Ql (l:=a) (p:=λk=>!k.2) (f:=174) (c:=[]) z Y v ?_ λf x=>?_)
 .intro I l i h C B c;let⟨D,u⟩:=D9 p i h;exact agB (u.ext l) c
 have b:=wG (λk:Ck=>!k.2) a 0;cases e:dD (λk:Ck=>!k.2) a 0 with
 |none=>
  rw[e] at b;have b:none=a.find? (λk:Ck=>!k.2):=b;have q:kE a=(([],true),true):=by unfold kE;rw[<-b]
  rw[q] at k;have r:gE none=18446744073709551615:=R;simp(disch:=omega)only[go_sem,r,Qt];exact k _ _ (.inl dy) x
 |some j=>
  let⟨_,o,_⟩:=pL e;have o:j<N a:=Y;rw[e] at b;have b:a[j-0]?=a.find? (λk:Ck=>!k.2):=b;rw[uC,bM o] at b;have q:kE a=((a[j].1,false),!a.any λc=>!cg c a[j].1):=by unfold kE;rw[<-b]
  rw[q] at k;let⟨t,H⟩:=D9 p j o;obtain⟨b,off,cap,e,row,rfl,s,q,e,e⟩:=v.at t;have t:f.f b=_:=(x.2 b q).t s;have F:=H;let⟨_,_,_,d1,n,_,q,b,s⟩:=F;rw[q] at e;have s:row[off+j*8+5]?=some n:=qD (i:=5) e dc (gf R);have r:gE (some j)=j:=R;have e:=b.cells;have q:ai d.h d (f.X (LL [n])):=ap x;refine S4 r t s e ?_;refine bL (ajd (l:=a) (m:=m) (p:=λc=>!cg c a[j].1) (f:=176) (b:=[.p f.h 0]) z Y (v.ext (f:=0) q) ?_ λn r=>?_)
  .intro I l i h C B c;let⟨D,u⟩:=D9 p i h;have e:=aM q l;exact agC (u.ext e) (b.ext e) ((l.2 _ (bJ _)).t (ae R)) (cW (bJ _) l.1) (w.2 _ (aU h)) (w.2 _ (aU o)) c
  have h:n.f f.h=_:=(r.2 _ (bJ _)).t (ae R);have e:=aM q r;cases f:a.any (λc=>!cg c a[j].1) with
  |true=>
   rw[f] at k;refine S1 h ?_;exact k _ _ (b.ext e) e
  |false=>
   rw[f] at k;refine S1 h ?_;exact k _ _ (b.ext e) e
end
section
variable {y:AV}{g:AV->HN->Prop}{d e:HN}{m:L (L AV)}{c:L aS}{a i:Nat}{n:Nd}
structure Ac (U:HN) (tb:Nat) (n:Nd) (wr:AV):Prop where
 D:∃y1 y2 y3 y4,U.f tb=LL [.s n.n.1 n.n.2,y1,y2,y3,y4,II n.a,wr]/\dL tt U n [.s n.n.1 n.n.2,y1,y2,y3,y4,II n.a]
 I:tb<U.h
 ok:eG n
def Ac.ext{U:HN}{tb:Nat}{a:AV}(h:Ac U tb n a)(x:ai U.h U e):Ac e tb n a:=by
 let⟨c,d,f,g,a,b⟩:=h.D;exact⟨⟨c,d,f,g,(x.2 _ h.I).t a,ic b x⟩,cW h.I x.1,h.ok⟩
def adQ{a:L Ck}(h:N a≠1):AB c a=false:=by
 match a with
 |[]=>rfl
 |[k]=>exact absurd R h
 |_::_::_=>rfl
def adR{d:L aS}{a:L Ck}(h:N a≠2):yG c d a=false:=by
 match a with
 |[]=>rfl
 |[k]=>rfl
 |[k,l]=>exact absurd R h
 |_::_::_::_=>rfl
def Lh{f:L Ck}(p:aK 8 d y m)(l:qE d f m)(k:i<N f):∃b a e g c,y=.a b a (N m) e/\d.f b=.E g c/\b<d.h/\∃h:i<N m,(c.drop (a+i*8)).take 8=m[i]/\a+i*8+8<=N c/\pT d f[i] m[i]:=by
 let⟨h,j⟩:=D9 l i k;let⟨b,a,e,g,c,k,q2,l,n,o⟩:=p.at h;exact⟨b,a,e,g,c,k,q2,l,h,o,n,j⟩
def ag6{tb:Nat}{wr:AV}(tm:Ac d tb n wr){h f:S}{p:Nat}{kd:AV}{j:L Ck}(ry:aK 8 d y m)(rk:qE d j m)(sk:M0 j)
  (k:∀cs c,dS c cs (df n h f p j).1.1->ai d.h d c->g (.t [cs,.l (df n h f p j).1.2,.l (df n h f p j).2]) c):
  ∃v' c,aq Tryz.prog 135 [.p tb 0,.g [h,f,p,a,kd],y] d v' c/\g v' c:=by
 let⟨y1,y2,y3,y4,hb,rn⟩:=tm.D;have a6:=tm.I;have cl:=Ao tm.ok f;let⟨hl,h8⟩:=Eb rk;have hs:=sk.1;have P:aI h.1 h.2 3 7630441=de (h=fm):=bz h fm;have e2:aI h.1 h.2 4 1819242338=de (h=cX):=bz h cX;have e3:aI h.1 h.2 3 7496054=de (h=bR):=bz h bR;have e4:aI h.1 h.2 4 1852139639=de (h=bB):=bz h bB;have e5:aI h.1 h.2 5 435527247213=de (h=bD):=bz h bD;refine cf VH Tryz.func135 ?_;have E:ai d.h d (d.X (LL [h,f,p,a,kd])):=ap (.refl _ _);have c0:(d.X (LL [h,f,p,a,kd])).f d.h=LL [h,f,p,a,kd]:=ae R;have n0:(d.X (LL [h,f,p,a,kd])).h=d.h+1:=R;have b0:=(E.2 _ a6).t hb;by_cases q1:h=fm
 .rw[aB q1] at P;have v:df n h f p j=(([],true),true):=ae (.inl q1);rw[v] at k;refine S1 P ?_;exact k _ _ (.inl dy) E
 rw[aA q1] at P;by_cases q2:h=cX
 .rw[aB q2] at e2;have v:df n h f p j=(([],true),true):=ae (.inr q2);rw[v] at k;refine S2 P e2 ?_;exact k _ _ (.inl dy) E
 rw[aA q2] at e2;have u1:¬(h=fm\/h=cX):=by rintro(b3|b3)<;>contradiction
 refine S2 P e2 ?_;generalize d.X (LL [.s h.1 h.2,.s f.1 f.2,II p,II a,kd])=P at*;by_cases q3:h=bR
 .rw[aB q3] at e3;have v:df n h f p j=((aF n f,false),true):=by unfold df;rw[ac u1,ae q3]
  rw[v] at k;refine S3 e3 b0 c0 ?_;refine bL (Du (ic rn E) tm.ok f λy2 B q u=>?_);refine S0 ?_;exact k _ _ q (aM E u)
 rw[aA q3] at e3;by_cases q4:h=bB
 .rw[aB q4] at e4;have v:df n h f p j=((cB (aF n f) f (de (p=0)),false),AB (aF n f) j):=by unfold df;rw[ac u1,ac q3,ae q4]
  rw[v] at k;refine S4 e3 e4 b0 c0 ?_;refine bL (Du (ic rn E) tm.ok f λy2 B q u=>?_);have c2:=(u.2 _ Y).t c0;have ln:=λc e w=>bI (e:=c) ry hl Y e w;have n2:=u.1;have K:=aM E u;by_cases a0:N j=1
  .obtain⟨b,off,cap,ro,row,rfl,F,l,a8,i,x,r⟩:=Lh ry rk (i:=0) Y;have t:B.f b=_:=((u.2 b Y).t (E.2 b l)).t F;have z:=r;let⟨a1,a2,a3,a4,cs,k4,ez,a7,a9⟩:=z;rw[ez] at i;have Z:=sk.2 _ (aU (show 0<N j by omega));have e0:AB (aF n f) j=cg (j[0]'Y) (aF n f):=by
    match j,a0 with
    |[k],_=>rfl
   have W:N m=1:=Y;rw[lq,nk] at i x;rw[ez] at r;simp(disch:=omega)only[go_sem,W,t,i,lq,nk];refine al (Ga (r.ext K) q Z Y λP x3=>?_);have P:=(x3.2 _ Y).t c2;rw[e0] at k;refine S1 P ?_;have E3:=aM K x3;by_cases P:p=0
   .rw[aB P] at k;refine S1 P ?_;refine al (zy (s:=f) (q.ext x3) Y λy5 C H s=>?_);refine S0 ?_;exact k _ _ H (aM E3 s)
   .rw[aA P] at k;refine S0 ?_;refine al (zy (s:=f) (q.ext x3) Y λy5 C H s=>?_);refine S0 ?_;exact k _ _ H (aM E3 s)
  .rw[adQ a0] at k;by_cases P:p=0
   .rw[aB P] at k;refine S3 c2 ln P ?_;refine al (zy (s:=f) q Y λy5 C H s=>?_);refine S0 ?_;exact k _ _ H (aM K s)
   .rw[aA P] at k;refine S2 c2 ln ?_;refine al (zy (s:=f) q Y λy5 C H s=>?_);refine S0 ?_;exact k _ _ H (aM K s)
 rw[aA q4] at e4;by_cases q5:h=bD
 .rw[aB q5] at e5;have v:df n h f p j=((aF n f,false),yG (cB (aF n f) f false) (cB (aF n f) f true) j):=by unfold df;rw[ac u1,ac q3,ac q4,ae q5]
  rw[v] at k;refine S5 e3 e4 e5 b0 c0 ?_;refine bL (Du (ic rn E) tm.ok f λy2 B q u=>?_);have c2:=(u.2 _ Y).t c0;have ln:=λc e w=>bI (e:=c) ry hl Y e w;have n2:=u.1;have K:=aM E u;refine S1 ln ?_;by_cases U:N j=2
  .let⟨b,off,cap,ro,row,ey,F,l,a8,i,x,r⟩:=Lh ry rk (i:=0) Y;let⟨_,_,_,_,_,a5,I,_,c,o,V,z⟩:=Lh ry rk (i:=1) Y;subst ey;cases a5;rw[F] at I;cases I;have t:B.f b=_:=((u.2 b Y).t (E.2 b l)).t F;have c:=r;have e:=z;let⟨a1,a2,a3,a4,cs,k4,ez,a7,a9⟩:=c;let⟨_,_,_,_,_,_,c,_,l⟩:=e;rw[ez] at i r;rw[c] at o z;have Z:=sk.2 _ (aU (show 0<N j by omega));have b2:=sk.2 _ (aU (show 1<N j by omega));have e0:∀c e,yG c e j=(cg (j[0]'Y) c&&cg (j[1]'Y) e):=λc e=>by
    match j,U with
    |[k,l],_=>rfl
   rw[e0] at k;generalize j[0]'Y=b1 at*;generalize j[1]'Y=c at*;have W:N m=2:=Y;rw[lq,nk] at i x;rw[ID] at o V;simp(disch:=omega)only[go_sem,c2,U,W,t,i,lq,nk];refine bL (zy (s:=f) (q:=false) q Y λy5 C H s=>?_);have c:=s.1;have e:=aM K s;have O:C.f b=_:=(s.2 b Y).t t;have l:=(s.2 _ Y).t c2;refine S0 ?_;have c:N (cB (aF n f) f false)<=1099511627776:=by unfold cB;rw[ay];simp only[bt,hN];omega
   have l7:N (cB (aF n f) f true)<=1099511627776:=by unfold cB;rw[ay];simp only[bt,hN];omega
   refine bL (Ga (r.ext e) H Z c λc x6=>?_);have r:=x6.1;have E6:=aM e x6;have D:c.f b=_:=(x6.2 b Y).t O;have c6:=(x6.2 _ Y).t l;cases ef:cg b1 (cB (aF n f) f false) with
   |false=>
    rw[ef] at k;refine S4 t i O D ?_;exact k _ _ (q.ext (aM s x6)) E6
   |true=>
    rw[ef] at k;simp(disch:=omega)only[go_sem,o,ID,D,c6];refine bL (zy (s:=f) (q:=true) (q.ext (aM s x6)) Y λc l r e=>?_);have c:=e.1;have x:=aM E6 e;have c:l.f b=_:=(e.2 b Y).t D;have l:=(e.2 _ Y).t c6;refine S0 ?_;refine bL (Ga (z.ext x) r b2 l7 λw r=>?_);have z:=aM x r;have l:w.f b=_:=(r.2 b Y).t c;refine S7 t i o O D c l ?_;exact k _ _ (q.ext (aM (aM s x6) (aM e r))) z
  .rw[adR U] at k;refine S0 ?_;exact k _ _ q K
 rw[aA q5] at e5;have v:df n h f p j=kE j:=by unfold df;rw[ac u1,ac q3,ac q4,ac q5]
 rw[v] at k;refine S3 e3 e4 e5 ?_;refine al (agF (ry.ext (f:=0) E) (Nt E rk) sk λcs B q u=>?_);refine S0 ?_;exact k _ _ q (aM E u)
variable {x:AV}{z:L AV}{b h:Nat}
def agE{a:L Ck}{m:Nat}(h:∀k∈a,N k.1<=m):N (kE a).1.1<=m:=by
 unfold kE;split
 .exact aJ _
 .rename_i k e;exact h k (pY e)
def Ve{e c:S}{d:Nat}{b:L Ck}{m:Nat}(a:N (aF n c)<=m)(h:∀k∈b,N k.1<=m+1):N (df n e c d b).1.1<=m+1:=by
 unfold df;split
 .exact aJ _
 split
 .exact Om a
 split
 .show(cB _ _ _).length<=_
  unfold cB;rw[ay];simp only[bt,hN];omega
 split
 .exact Om a
 .exact agE h
mutual
def Rj{n:Nd}(b:∀s,N (aF n s)<=1073741824):∀{e:Tr} {c:Ck},fC n e=.inr c->N c.1<=1073741825
 |.mk op e f a d,c,h=>by
  unfold fC at h;cases g:fF n d with
  |inl p=>rw[g] at h;cases h
  |inr a=>
   rw[g] at h;dsimp only at h;split at h
   .cases h;exact Ve (b e) (Rl b g)
   .cases h
def Rl{n:Nd}(b:∀s,N (aF n s)<=1073741824):∀{c:L Tr} {a:L Ck},fF n c=.inr a->∀k∈a,N k.1<=1073741825
 |[],a,h=>by
  unfold fF at h;cases h;exact λ_ h=>by cases h
 |k::r,a,h=>by
  unfold fF at h;cases g:fC n k with
  |inl p=>rw[g] at h;cases h
  |inr c=>
   rw[g] at h;dsimp only at h;cases a:fF n r with
   |inl p=>rw[a] at h;cases h
   |inr c=>
    rw[a] at h;cases h;intro x hx;rcases bY.1 hx with e|hx
    .rw[e];exact Rj b g
    .exact Rl b a x hx
end
def AE(n:Nd)(a:L Ck)(r:L Tr):Sum Nat (L Ck):=match fF n r with|.inl p=>.inl p|.inr l=>.inr (a++l)
def aeb{b:L Ck}{a:L Tr}(d:i<N a):AE n b (a.drop i)=match fC n a[i] with|.inl p=>.inl p|.inr c=>AE n (b++[c]) (a.drop (i+1)):=by
 rw[eJ d];unfold AE
 conv=>lhs;unfold fF
 cases fC n a[i] with
 |inl p=>rfl
 |inr c=>
  dsimp only;cases fF n (a.drop (i+1)) with
  |inl p=>rfl
  |inr l=>
   dsimp only;rw[dC];rfl
def sD(c:HN)(x:AV):Prop:=∀b,ar x b->∃(a:AV) (s:S) (r:L AV),c.f b=LL (a::.s s.1 s.2::r)
def abR(h:sD d x)(g:dS d y c)(i:ar y b):¬ar x b:=by
 intro k;let⟨a,s,r,e⟩:=h b k;rcases g with⟨rfl,_⟩|⟨j,_,rfl,f⟩
 .exact i
 .obtain rfl:j=b:=i;rw[e] at f;cases c with
  |nil=>cases f
  |cons t c=>
   have f:LL (a::.s s.1 s.2::r)=LL (.s t.1.1 t.1.2::.l t.2::(c.map cU).flatten):=f;cases f
def Fp(g:dS d y c)(h:sD d x)(j:∀b,b<d.h->¬ar x b->e.f b=d.f b)(k:d.h<=e.h):dS e y c:=by
 have a:=λb (f:ar y b)=>abR h g f;rcases g with g|⟨b,f,rfl,i⟩
 .exact .inl g
 .exact .inr ⟨b,cW f k,R,(j b f (a b R)).t i⟩
def Ns{k:Ck}(g:pT d k z)(h:sD d x)(n:∀b,b<d.h->¬ar x b->e.f b=d.f b)(o:d.h<=e.h):pT e k z:=by
 let⟨a,b,c,i,f,p,j,l,m⟩:=g;exact⟨a,b,c,i,f,p,j,Fp l h n o,m⟩
def Nu{d e:HN}{x:AV}(h:sD d x)(a:∀b,b<d.h->¬ar x b->e.f b=d.f b)(b:d.h<=e.h):∀{c:L Ck} {f:L (L AV)},qE d c f->qE e c f
 |[],_,h=>h
 |_::_,_,⟨l,r,c,f,g⟩=>⟨l,r,c,Ns f h a b,Nu h a b g⟩
def agk{c:L Ck}(t:qE e c m)(o:aH 8 h d x (N m) m.flatten)(hx:x=.e\/c≠[]):sD d x:=by
 intro b a;rcases hx with rfl|hx
 .exact a.elim
 .obtain⟨k,c,rfl⟩:=zN hx;let⟨l,r,i,⟨_,f,_,_,c,q2,el,_⟩,_⟩:=t;subst i el;obtain⟨_,⟨rfl,_⟩|⟨g,_,_,⟨rfl,n,_⟩|⟨rfl,j⟩⟩⟩:=o
  .exact a.elim
  .cases n
  .obtain rfl:g=b:=a;exact⟨_,f,_,j⟩
def Ci(a:HN)(c p b:Nat):Prop:=∃d e f g h i w,b<=w/\a.f c=LL [d,e,f,g,h,i,.a w 0 1 (.B 1)]/\a.f w=LL [p]/\w<a.h
def Ci.aR{U:HN}{tb p c a:Nat}(h:Ci U tb p c)(i:a<=c)(k:e.f tb=U.f tb)(g:∀b,c<=b->b<U.h->e.f b=U.f b)(j:U.h<=e.h):Ci e tb p a:=by
 let⟨l,m,n,o,q,r,w,a,d,f,b⟩:=h;exact⟨l,m,n,o,q,r,w,bC i a,k.t d,(g w a b).t f,cW b j⟩
abbrev zT:L AV:=[.s 0 0,.s 0 0,II 0,II 0,.e,.e,.e,false]
abbrev Bd:=Nat×Nat
def kV(e a:Nat)(b:Bd):Bd:=if b.1=0 then(e,a) else b
def dI(c:Bool)(e a:Nat)(b:Bd):Bd:=if c then kV e a b else b
def jT(h:L Nd)(n:Nd)(a b:S)(m:Nat):Bool:=if a=bR\/a=bB\/a=bD then(aO n b).isSome else if a=bK then iP h b m else true
mutual
def rX(h:L Nd)(n:Nd):Tr->Bd->Bd
 |.mk op d _ a c,b=>oZ h n c (dI (!jT h n op d (N c)) 8 a b)
def oZ(h:L Nd)(n:Nd):L Tr->Bd->Bd
 |[],b=>b
 |k::a,b=>oZ h n a (rX h n k b)
end
def qw(v:Vr):L Vr->Bool×Bd->Bool×Bd
 |[],r=>r
 |w::l,r=>qw v l (r.1||de (w.n=v.p),dI (de (w.n=v.n)) 8 v.a r.2)
def vo:L Vr->L Vr->Bd->Bd
 |_,[],b=>b
 |pre,v::r,b=>vo (pre++[v]) r (dI (!(qw v pre (de (v.p=(0,0)),b)).1) 8 v.a (qw v pre (de (v.p=(0,0)),b)).2)
def sR(h:L Nd)(n:Nd):L aX->L aX->Bd->Bd
 |_,[],b=>b
 |pre,q::r,b=>sR h n (pre++[q]) r (rX h n q.e (dI (!(aO n q.n).isSome||n.ins.any (λv=>decide (v.n=q.n))||pre.any (λp=>decide (p.n=q.n))) 8 q.a b))
def ud(n:Nd):L Vr->Bd->Bd
 |[],b=>b
 |v::r,b=>ud n r (dI (!n.r.any λq=>decide (q.n=v.n)) 8 v.a b)
def Dq(h:L Nd)(n:Nd)(b:Bd):Bd:=
 ud n (n.o++n.ao) (sR h n [] n.r (vo [] (am n) (dI ((h.any λd=>decide (d.n=n.n))||de (N n.o=0)) 8 n.a b)))
def wQ(h:L Nd):L Nd->Bd->Bd
 |[],b=>b
 |n::r,b=>wQ (h++[n]) r (Dq h n b)
def nF(l:L Nd):Bd:=wQ [] l (0,0)
def jW(n:Nd):Nat->S->L aS->Option (L aS)
 |0,_,_=>none
 |k+1,s,c=>match aO n s with
  |some v=>if v.p=(0,0) then some c else jW n k v.p ((v.p,v.t)::c)
  |none=>some c
def kF(a:Nat):L Ck->Ck->Bd->Ck×Bd
 |[],k,b=>(k,b)
 |q::r,k,b=>if q.2 then kF a r k b else if k.2 then kF a r (q.1,false) b else kF a r k (dI (!de (k.1=q.1)) 10 a b)
inductive Tm where
 |mk (op nm:S) (N a:Nat) (c:List aS) (any:Bool) (ks:List Tm)
def Tm.ck:Tm->Ck|.mk _ _ _ _ c any _=>(c,any)
mutual
def jL(n:Nd):Tr->Tm
 |.mk op d b a c=>.mk op d b a (df n op d b ((fy n c).map Tm.ck)).1.1 (df n op d b ((fy n c).map Tm.ck)).1.2 (fy n c)
def fy(n:Nd):L Tr->L Tm
 |[]=>[]
 |k::a=>jL n k::fy n a
end
mutual
def nM(n:Nd):Tm->L aS->Tm
 |.mk op b e a c any f,d=>.mk op b e a (if any then d else c) any (kL n op b (if any then d else c) 0 f)
def kL(n:Nd)(b a:S)(c:L aS):Nat->L Tm->L Tm
 |_,[]=>[]
 |i,k::d=>nM n k (if b=bB then aF n a else if b=bD then cB c a (de (0<i)) else c)::kL n b a c (i+1) d
end
def dr(n:Nd)(s:S)(e:Tr):Tm:=nM n (jL n e) (aF n s)
mutual
def Nq{n:Nd}:∀{e:Tr} {c:Ck},fC n e=.inr c->c=(jL n e).ck
 |.mk op e d a b,c,h=>by
  unfold fC at h;cases g:fF n b with
  |inl p=>grind
  |inr a=>
   rw[g] at h;dsimp only at h;split at h
   .cases h;rw[HZ g];unfold jL Tm.ck
    rfl
   .cases h
def HZ{n:Nd}:∀{b:L Tr} {a:L Ck},fF n b=.inr a->a=(fy n b).map Tm.ck
 |[],a,h=>by
  unfold fF at h;cases h;unfold fy;rfl
 |k::r,a,h=>by
  unfold fF at h;cases g:fC n k with
  |inl p=>grind
  |inr c=>
   rw[g] at h;dsimp only at h;cases a:fF n r with
   |inl p=>grind
   |inr b=>
    rw[a] at h;cases h;rw[Nq g,HZ a]
    conv=>rhs;unfold fy
    rfl
end
mutual
def Tm.E{P:Tm->Prop}(h:∀i g f a c b d,(∀k∈d,P k)->P (.mk i g f a c b d)):∀e,P e
 |.mk i g f a c b d=>h i g f a c b d (Tm.M h d)
def Tm.M{P:Tm->Prop}(h:∀g f e a c d b,(∀k∈b,P k)->P (.mk g f e a c d b)):∀(b:L Tm),∀k∈b,P k
 |[],k,hk=>J
 |a::r,k,hk=>by
  rcases bY.1 hk with e|hk
  .rw[e];exact Tm.E h a
  .exact Tm.M h r k hk
end
mutual
def dO(i h:Nat)(d:HN):Tm->L AV->Prop
 |.mk op k j a c any e,z=>∃b f g m,z=[sV op,sV k,II j,II a,.e,b,f,.l any]/\dS d b c/\i<=m/\eh i m d e g/\((f=.e/\e=[]/\m<=h)\/∃b,m<=b/\b<h/\b<d.h/\f=.a b 0 (N g) (.B 8)/\e≠[]/\d.f b=LL g.flatten)
def eh(b a:Nat)(d:HN):L Tm->L (L AV)->Prop
 |[],c=>c=[]/\b<=a
 |k::e,c=>∃l r m,c=l::r/\b<=m/\m<=a/\dO b m d k l/\eh m a d e r
end
def Xv{a:Nat}:∀{t:Tm} {z:L AV},dO h a d t z->N z=8
 |.mk ..,_,a=>by
  unfold dO at a;obtain⟨_,_,_,_,rfl,_⟩:=a
  rfl
def pQ{d:HN}:∀{a:L Tm} {b:L (L AV)} {e c:Nat},eh e c d a b->N b=N a/\(∀l∈b,N l=8)/\e<=c
 |[],_,_,_,h=>by
  unfold eh at h;obtain⟨rfl,h⟩:=h;exact⟨R,λ_ h=>(by cases h),h⟩
 |k::a,_,_,_,h=>by
  unfold eh at h;obtain⟨l,r,m,rfl,a,a,c,e⟩:=h;let⟨a,b,f⟩:=pQ e;exact⟨by rw[bt,bt,a],λx a=>(bY.1 a).elim (λe=>e▸Xv c) (b x),Y⟩
mutual
def Hm{d e:HN}{x:AV}(g:sD d x)(k:∀b,b<d.h->¬ar x b->e.f b=d.f b)(s:d.h<=e.h):∀{t:Tm} {z:L AV} {i f:Nat},(∀b,ar x b->b<i\/f<=b)->dO i f d t z->dO i f e t z
 |.mk op K t a c any I,z,i,f,r,h=>by
  unfold dO at h|-;let⟨u,F,H,m,v,w,y,n,o⟩:=h;have a:m<=f:=by
   rcases o with⟨_,_,h⟩|⟨b,p,q,_⟩
   .exact h
   .omega
  refine⟨u,F,H,m,v,Fp w g k s,y,zn g k s (λb l=>om (r b l)) n,?_⟩;rcases o with h|⟨b,p,q,B,C,D,j⟩
  .exact .inl h
  .exact .inr ⟨b,p,q,Y,C,D,(k b B λl=>by have:=r b l;have:=(pQ n).2.2;omega).t j⟩
def zn{d e:HN}{x:AV}(g:sD d x)(j:∀b,b<d.h->¬ar x b->e.f b=d.f b)(n:d.h<=e.h):∀{f:L Tm} {k:L (L AV)} {c a:Nat},(∀b,ar x b->b<c\/a<=b)->eh c a d f k->eh c a e f k
 |[],_,_,_,_,h=>by unfold eh at h|-;exact h
 |k::f,_,c,a,i,h=>by
  unfold eh at h|-;let⟨l,r,m,a,c,f,k,o⟩:=h;exact⟨l,r,m,a,c,f,Hm g j n (λb a=>om (i b a)) k,zn g j n (λb a=>om (i b a)) o⟩
end
end
section
variable {d e:HN}{z:L AV}{h i:Nat}{n:Nd}
def Ur:sD d .e:=λ_ h=>h.elim
def Bi{t:Tm}{b:Nat}(x:ai d.h d e)(a:dO h b d t z):dO h b e t z:=Hm Ur (λb c _=>x.2 b c) x.1 (λ_ a=>a.elim) a
def Xx{t:L Tm}{z:L (L AV)}{b:Nat}(x:ai d.h d e)(a:eh h b d t z):eh h b e t z:=zn Ur (λb c _=>x.2 b c) x.1 (λ_ a=>a.elim) a
def qz{a:Nat}:∀{t:Tm} {z:L AV},dO h a d t z->pT d t.ck z
 |.mk op j e a c any f,z,b=>by
  unfold dO at b;obtain⟨c,i,f,m,rfl,f,g,g,g⟩:=b;refine⟨op,j,e,a,c,i,R,f,?_⟩;rcases g with⟨rfl,_⟩|⟨b,_,_,_,rfl,_⟩<;>rfl
mutual
def Mm{d:HN}:∀{t:Tm} {z:L AV} {f b e:Nat},b<=f->dO f e d t z->dO b e d t z
 |.mk op k i a c any j,z,f,b,e,g,h=>by
  unfold dO at h|-;let⟨a,i,j,m,e,b,_,c,f⟩:=h;exact⟨a,i,j,m,e,b,Y,XA g c,f⟩
def XA{d:HN}:∀{c:L Tm} {f:L (L AV)} {e a b:Nat},a<=e->eh e b d c f->eh a b d c f
 |[],_,_,_,_,f,h=>by
  unfold eh at h|-;exact⟨h.1,Y⟩
 |k::c,_,e,a,b,f,h=>by
  unfold eh at h|-;let⟨l,r,m,e,_,a,b,c⟩:=h;exact⟨l,r,m,e,Y,a,Mm f b,c⟩
end
def Xw{d:HN}{t:Tm}{z:L AV}{m e a:Nat}:∀{c:L Tm} {f:L (L AV)} {b:Nat},eh b m d c f->m<=e->e<=a->dO e a d t z->eh b a d (c++[t]) (f++[z])
 |[],_,b,h,e,f,g=>by
  unfold eh at h;obtain⟨rfl,h⟩:=h;show eh b a d [t] [z];unfold eh;exact⟨z,[],a,R,Y,ak _,Mm Y g,by unfold eh;exact⟨R,ak _⟩⟩
 |k::c,_,b,h,e,f,g=>by
  unfold eh at h;obtain⟨l,r,q,rfl,a,b,b,c⟩:=h;rw[fc,fc];unfold eh;exact⟨l,r++[z],q,R,a,Y,b,Xw c e f g⟩
def aji{b:L Tr}(h:i<N b):fy n (b.take (i+1))=fy n (b.take i)++[jL n b[i]]:=by
 have c:∀(a:L Tr) (x:Tr),fy n (a++[x])=fy n a++[jL n x]:=by
  intro a x
  induction a with
  |nil=>rw[dH];unfold fy;unfold fy;rfl
  |cons y a d=>
   rw[fc]
   conv=>lhs;unfold fy
   conv=>rhs;enter [1];unfold fy
   rw[d];rfl
 rw[dt h,c]
def ajj{tb:Nat}:∀(e:Tr),bO e->∀(d:HN) (z:L AV) (Q:AV->HN->Prop),Ac d tb n .e->bn tt d e z->
  (∀c,fC n e=.inr c->∀w U',dO d.h U'.h U' (jL n e) w->ai d.h d U'->Q (.t [w,true]) U')->
  (∀p,fC n e=.inl p->∀U',Ci U' tb p d.h->d.h<=U'.h->(∀b,b<d.h->b≠tb->U'.f b=d.f b)->Q (.t [zT,false]) U')->
  ∃w U',aq Tryz.prog 94 [.p tb 0,z] d w U'/\Q w U':=by
 refine Tr.E λt l o a K ih=>?_;intro w d z Q T r k1 k2;unfold bO at w;let⟨_,z,a7⟩:=w;have a7:=(mw _).1 a7;unfold bn at r;obtain⟨y,rfl,-,w,ry,b8⟩:=r;have r:=(kI b8).1;have w:=T.I;have e1:=Ao T.ok;have I:=λU' e w=>bI (e:=U') ry r Y e w;have eE:fC n (.mk t l o a K)=match fF n K with|.inl p=>.inl p|.inr B=>if(df n t l o B).2 then .inr (df n t l o B).1 else .inl a:=by
  conv=>lhs;unfold fC
  cases fF n K<;>rfl
 refine cf WA Tryz.func94 ?_;simp(disch:=omega)only[go_sem,sV,I,bF];let⟨I,hI⟩:=inv λm a6 H=>∃i x B F,m=N K-i/\i<=N K/\(a6 0=.p tb 0/\a6 3=.p d.h 0/\a6 4=.p (d.h+1) 0/\a6 6=.p (d.h+1+1) 0/\a6 17=y/\a6 18=II (N K)/\a6 19=II i)/\
   (H.f d.h=LL [t,l,o,a,y]/\H.f (d.h+1)=LL zT/\H.f (d.h+1+1)=LL [t,l,o,a,.e,.e,x,false])/\
   aH 8 (d.h+3) H x (N F) F.flatten/\qE H B F/\(x=.e\/B≠[])/\ai d.h d H/\d.h+3<=H.h/\AE n B (K.drop i)=fF n K/\N B=i/\(∀k∈B,N k.1<=1073741825)/\∃mm,eh (d.h+3) mm H (fy n (K.take i)) F/\mm<=H.h/\(∀b,ar x b->mm<=b)
 refine aT I (N K) ((hI _ _ _).2 ⟨0,.e,[],[],R,aJ _,dy,⟨by simp(disch:=omega)only[go_sem],by simp(disch:=omega)only[go_sem],by simp(disch:=omega)only[go_sem]⟩,.nil,R,.inl R,?_,?_,?_,R,(λ_ h=>by cases h),d.h+3,by rw[gO];unfold fy eh;exact⟨R,ak _⟩,by show d.h+3<=d.h+1+1+1;omega,λ_ h=>h.elim⟩) ?_
 .first|exact cO (ap (ap (ap (.refl _ _)))) Y|exact cO (cO (ap (ap (ap (.refl _ _)))) Y) Y
 .show d.h+3<=d.h+1+1+1;omega
 .unfold AE;rw[ng];cases fF n K<;>rfl
 intro m a6 H e;let⟨i,x,B,F,_,e,⟨p0,p3,p4,p6,b7,a8,a9⟩,⟨c3,c4,c6⟩,ox,tx,hx,Ex,_,Uu,e2,b4,mm,c2,m,b3⟩:=(hI _ _ _).1 e;by_cases a0:i<N K
 .let⟨e3,ri⟩:=pf b8 i a0;obtain⟨b,off,cap,e,row,rfl,e0,c9,e,a5⟩:=ry.at e3;have e:H.f b=_:=(Ex.2 b c9).t e0;let⟨m,f2,f3,f4,f5,r⟩:=cJ ri;rw[r] at a5 ri;rw[aeb a0] at Uu;refine S6 p0 b7 a8 a9 e a5 ?_;have e:=ap (y:=LL [m,f2,f3,f4,f5]) Ex;have r:=a7 _ (aU a0);have kn:∀c,c<H.h->(H.X (LL [m,f2,f3,f4,f5])).f c=H.f c:=λc w=>ac Y;have w:(H.X (LL [m,f2,f3,f4,f5])).h=H.h+1:=R;refine al (ih _ (aU a0) r _ _ _ (T.ext e) (gq (iS e) e.1 (λ_ h=>h) _ _ ri) (λc e m j dT x3=>?_) (λp ep j w3 n3 k3=>?_))
  .have b2:=Rj e1 e;rw[e] at Uu;have t3:pT j c m:=by rw[Nq e];exact qz dT
   have e4:=t3;obtain⟨O,P,V,W,C,D,rfl,e,e⟩:=e4;have n3:H.h+1<=j.h:=x3.1;have k3:∀b,b<H.h->j.f b=H.f b:=λb s=>(x3.2 b Y).t (kn b s);have kH:∀b,b<j.h->((j.X (LL [O,P,V,W,.e,C,D,c.2])).X (LL [O,P,V,W,.e,C,D,c.2])).f b=j.f b:=λb s=>(ac (by show¬b=j.h+1;omega)).t (ac Y);simp(disch:=omega)only[go_sem,p6,eI,fp,ft,bF,k3 _ (show d.h+1+1<H.h by omega),c6];have e:((j.X (LL [O,P,V,W,.e,C,D,c.2])).X (LL [O,P,V,W,.e,C,D,c.2])).h=j.h+2:=R;have e:aH 8 (d.h+3) ((j.X (LL [O,P,V,W,.e,C,D,c.2])).X (LL [O,P,V,W,.e,C,D,c.2])) x (N F) F.flatten:=dK ox (λb h1 h2=>(kH b Y).t (k3 b h2)) Y;have m:cD 8 ((j.X (LL [O,P,V,W,.e,C,D,c.2])).X (LL [O,P,V,W,.e,C,D,c.2])) (.a (j.h+1) 0 1 (.k 1)) 1 [O,P,V,W,.e,C,D,c.2]:=.inr ⟨j.h+1,0,_,false,_,R,ae R,Y,ak _,R,R⟩;have EH:ai H.h H ((j.X (LL [O,P,V,W,.e,C,D,c.2])).X (LL [O,P,V,W,.e,C,D,c.2])):=⟨Y,λb s=>(kH b Y).t (k3 b s)⟩;have a3:=agk tx e hx;have e7:=Nt EH tx;have e5:pT ((j.X (LL [O,P,V,W,.e,C,D,c.2])).X (LL [O,P,V,W,.e,C,D,c.2])) c [O,P,V,W,.e,C,D,c.2]:=t3.ext (ap (ap (.refl _ _)));have xl:∀b,ar x b->d.h+3<=b/\b<H.h:=λb s=>cz ox s;refine tm dc e m dc (om ((Eb tx).1)) Y λv o9 n9 k9=>?_;have n9:v.h=j.h+3:=n9;have a2:∀b,b<d.h+3->v.f b=H.f b:=λb s=>(k9 b Y (λg=>om (xl _ g))).t ((kH b Y).t (k3 b Y));have e6:v.f (d.h+1+1)=_:=(a2 _ Y).t c6;refine S3 p6 a9 e6 ?_;have Z:sD v (.p (d.h+1+1) 0):=λb s=>by
    obtain rfl:d.h+1+1=b:=s;exact⟨_,l,_,e6⟩
   have m:∀b,b<v.h->¬ar (.p (d.h+1+1) 0) b->(v.put (d.h+1+1) (LL [t,l,o,a,.e,.e,.a (j.h+1+1) 0 (N F+1) (.B 8),false])).f b=v.f b:=λb _ s=>ac (λg=>s g.s);have Uu:AE n (B++[c]) (K.drop (i+1))=fF n K:=Uu;have e:∀b,ar (.p (d.h+1+1) 0) b->b<d.h+3:=λb s=>by have s:d.h+1+1=b:=s;omega
   have c5:=zn Z m (ak _) (λb s=>.inl (e b s)) (zn a3 k9 Y (λb s=>.inr (b3 b s)) (Xx EH c2));have c1:=Hm Z m (ak _) (λb s=>.inl (by have:=e b s;show b<H.h+1;omega)) (Hm a3 k9 Y (λb s=>.inl (by have:=(xl b s).2;show b<H.h+1;omega)) (Bi ⟨Y,λb s=>kH b s⟩ dT));refine⟨N K-(i+1),Y,(hI _ _ _).2 ⟨i+1,_,B++[c],F++[[.s O.1 O.2,.s P.1 P.2,II V,II W,.e,C,D,.l c.2]],R,a0,⟨dx p0,dx p3,dx p4,dx p6,dx b7,dx a8,R⟩,⟨(ac Y).t ((a2 _ Y).t c3),(ac Y).t ((a2 _ Y).t c4),ae R⟩,?_,?_,.inr dp,?_,?_,Uu,?_,?_,j.h,?_,?_,?_⟩⟩
   .have c:=dK (U':=(v.put (d.h+1+1) (LL [t,l,o,a,.e,.e,.a (j.h+1+1) 0 (N F+1) (.B 8),false]))) o9 (λb s _=>ac Y) (ak _);rw[ay,oW];exact c
   .exact YR (Ns (Ns e5 a3 k9 Y) Z m (ak _)) (Nu Z m (ak _) (Nu a3 k9 Y e7))
   .exact⟨by show d.h<=v.h;omega,λb s=>(ac Y).t ((a2 b Y).t (Ex.2 b s))⟩
   .show d.h+3<=v.h;omega
   .rw[ay,e2];rfl
   .intro k hk;rcases bA.1 hk with hk|hk
    .exact b4 k hk
    .rw[dM.1 hk];exact b2
   .rw[aji a0];exact Xw c5 Y Y c1
   .show j.h<=v.h;omega
   .intro b s;have s:j.h+1+1=b:=s;omega
  .rw[ep] at Uu;have Uu:.inl p=fF n K:=Uu;rw[<-Uu] at eE;have eE:fC n (.mk t l o a K)=.inl p:=eE;have d4:j.f (d.h+1)=_:=(k3 _ Y Y).t ((kn _ Y).t c4);have c:Ci j tb p (H.h+1):=w3;refine S2 p4 d4 ?_;refine k2 p eE _ (c.aR Y ?_ (λb h1 h2=>(ac Y).t (ac Y)) (by show j.h<=j.h+1;omega)) (by show d.h<=j.h+1;omega) λb h1 h2=>?_
   .exact(ac Y).t (ac Y)
   .exact(ac Y).t ((ac Y).t ((k3 b Y h2).t ((kn b Y).t (Ex.2 b h1))))
 .obtain rfl:i=N K:=Y;rw[fQ] at Uu;have Uu:.inr (B++[])=fF n K:=Uu;rw[eB] at Uu;rw[<-Uu] at eE;have eE:fC n (.mk t l o a K)=if(df n t l o B).2 then .inr (df n t l o B).1 else .inl a:=eE
  refine S7 p0 p3 p6 a8 a9 c3 c6 ?_;have c:M0 B:=⟨Y,λk hk=>om (b4 k hk)⟩;refine al (ag6 (T.ext Ex) (h:=t) (f:=l) (p:=o) (a:=a) (kd:=y) (oz ox (Eb tx).2) tx c λu f b0 x4=>?_);have c:=x4.1;have b1:=b0.cells;have d3:=(x4.2 _ Y).t c3;have d4:=(x4.2 _ Y).t c4;have d6:=(x4.2 _ Y).t c6;have E4:=aM Ex x4;obtain⟨c,t2,t3,t4,b5,-⟩:=(T.ext E4).D;cases eo:(df n t l o B).2 with
  |true=>
   rw[eo,ae R] at eE;refine S5 p4 p6 d4 d6 b1 ?_;have Z:sD f (.p (d.h+1+1) 0):=λb s=>by
    obtain rfl:d.h+1+1=b:=s;exact⟨_,l,_,d6⟩
   have b9:dS ((f.put (d.h+1+1) (LL [t,l,o,a,.e,u,x,false])).put (d.h+1+1) (LL [t,l,o,a,.e,u,x,.l (df n t l o B).1.2])) u (df n t l o B).1.1:=Fp b0 Z (λb _ s=>(ac (λg=>s g.s)).t (ac (λg=>s g.s))) (ak _);have b6:sD ((f.put (d.h+1+1) (LL [t,l,o,a,.e,u,x,false])).put (d.h+1+1) (LL [t,l,o,a,.e,u,x,.l (df n t l o B).1.2])) (.p (d.h+1) 0):=λb s=>by
    obtain rfl:d.h+1=b:=s;exact⟨_,(0,0),_,(ac Y).t ((ac Y).t d4)⟩
   have c:dS (((f.put (d.h+1+1) (LL [t,l,o,a,.e,u,x,false])).put (d.h+1+1) (LL [t,l,o,a,.e,u,x,.l (df n t l o B).1.2])).put (d.h+1) (LL [t,l,o,a,.e,u,x,.l (df n t l o B).1.2])) u (df n t l o B).1.1:=Fp b9 b6 (λb _ s=>ac (λg=>s g.s)) (ak _);rw[hU] at c2;have a1:B=(fy n K).map Tm.ck:=HZ Uu.s;have i:eh (d.h+3) mm ((f.put (d.h+1+1) (LL [t,l,o,a,.e,u,x,false])).put (d.h+1+1) (LL [t,l,o,a,.e,u,x,.l (df n t l o B).1.2])) (fy n K) F:=by
    refine zn (d:=f) Z (λb _ s=>?_) ?_ (λb s=>?_) (Xx x4 c2)
    .exact(ac (λg=>s g.s)).t (ac (λg=>s g.s))
    .exact ak _
    .have s:d.h+1+1=b:=s;exact .inl Y
   have e:eh (d.h+3) mm (((f.put (d.h+1+1) (LL [t,l,o,a,.e,u,x,false])).put (d.h+1+1) (LL [t,l,o,a,.e,u,x,.l (df n t l o B).1.2])).put (d.h+1) (LL [t,l,o,a,.e,u,x,.l (df n t l o B).1.2])) (fy n K) F:=by
    refine zn b6 (λb _ s=>?_) ?_ (λb s=>?_) i
    .exact ac (λg=>s g.s)
    .exact ak _
    .have s:d.h+1=b:=s;exact .inl Y
   have i:=(pQ e).2.2;refine k1 _ eE _ _ ?_ (cO (cO (cO E4 Y) Y) Y);have i:jL n (.mk t l o a K)=.mk t l o a (df n t l o B).1.1 (df n t l o B).1.2 (fy n K):=by
    conv=>lhs;unfold jL
    rw[<-a1]
   rw[i];unfold dO;refine⟨u,x,F,mm,R,c,Y,XA Y e,?_⟩;have c:=(pQ e).1;obtain⟨_,⟨rfl,h0⟩|⟨b,c,c7,⟨rfl,h0,_⟩|⟨rfl,c8⟩⟩⟩:=ox
   .exact .inl ⟨R,ff Y,by show mm<=f.h;omega⟩
   .rcases hx with h|h
    .cases h
    .exact absurd (ff (by rw[a1,aC];omega)) h
   .rcases hx with h|h
    .cases h
    .refine .inr ⟨b,b3 b R,by show b<f.h;omega,by show b<f.h;omega,R,λg=>h (by rw[a1,g];rfl),?_⟩;exact(ac Y).t ((ac Y).t ((ac Y).t ((x4.2 b c7).t c8)))
  |false=>
   rw[eo,ac (by decide)] at eE;refine S7 p0 p3 p6 d3 d6 b1 b5 ?_;have kA:∀b,b<f.h->b≠d.h+1+1->((((((f.put (d.h+1+1) (LL [t,l,o,a,.e,u,x,false])).put (d.h+1+1) (LL [t,l,o,a,.e,u,x,.l (df n t l o B).1.2])).at_ (f.h+7)).X (LL [a]))).at_ (f.h+12)).f b=f.f b:=λb h1 h2=>(ac (by show¬b=f.h+7;omega)).t ((ac h2).t (ac h2));have wA:((((((f.put (d.h+1+1) (LL [t,l,o,a,.e,u,x,false])).put (d.h+1+1) (LL [t,l,o,a,.e,u,x,.l (df n t l o B).1.2])).at_ (f.h+7)).X (LL [a]))).at_ (f.h+12)).f (f.h+7)=LL [a]:=ae R;have c:((((((f.put (d.h+1+1) (LL [t,l,o,a,.e,u,x,false])).put (d.h+1+1) (LL [t,l,o,a,.e,u,x,.l (df n t l o B).1.2])).at_ (f.h+7)).X (LL [a]))).at_ (f.h+12)).h=f.h+12:=R;generalize (((((f.put (d.h+1+1) (LL [t,l,o,a,.e,u,x,false])).put (d.h+1+1) (LL [t,l,o,a,.e,u,x,.l (df n t l o B).1.2])).at_ (f.h+7)).X (LL [a]))).at_ (f.h+12)=a4 at*;refine CE (s:=1) (f:=0) (n:=0) (m:=1) (l:=[]) dc .nil (.inr ⟨f.h+7,0,.k 1,false,[a],R,wA,Y,ak _,R,R⟩) dc dc (aJ _) λv o9 n9 k9=>?_;have c:a4.f tb=_:=(kA _ Y Y).t b5;have e:v.f tb=_:=(k9 _ Y (λg=>g)).t c;have c:v.f (d.h+1)=_:=(k9 _ Y (λg=>g)).t ((kA _ Y Y).t d4);refine S3 p4 e c ?_;have f9:v.f a4.h=LL [a]:=by
    obtain⟨_,⟨q,_⟩|⟨c,_,_,⟨q,h0,_⟩|⟨q,q2⟩⟩⟩:=o9
    .cases q
    .cases h0
    .cases q;exact q2
   refine k2 a eE _ ⟨_,_,_,_,_,_,a4.h,Y,(ac Y).t (ae R),(ac Y).t ((ac Y).t f9),by show a4.h<v.h;omega⟩ (by show d.h<=v.h;omega) λb h1 h2=>?_;exact(ac Y).t ((ac h2).t ((k9 _ Y (λg=>g)).t ((kA _ Y Y).t (E4.2 b h1))))
end
end Go.Proofs.YtehahhggpdhieaaGreatDoor
