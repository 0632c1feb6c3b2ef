/- Lemmas of the walk of EmitKinds are proved. Conditions: none. -/
import Derived.Test.YtehahhggpdhieaaGreatDoorX35
namespace Go.Proofs.YtehahhggpdhieaaGreatDoor
set_option maxRecDepth 100000
set_option maxHeartbeats 32000000
set_option linter.all false
section
variable {g:AV->HN->Prop}{d:HN}{m:L (L AV)}{l:L Nd}{i:Nat}{n:Nd}
def aau(a b:L S)(m:S):jY a (b++[m])=if(jY a b).contains m then jY a b else jY a b++[m]:=by
 induction b generalizing a with
 |nil=>unfold jY jY jY;rfl
 |cons a b c=>
  rw[fc]
  conv=>lhs;unfold jY
  rw[c]
  conv=>rhs;unfold jY
def aat{a b:L S}(e:a.Nodup)(c:∀z∈a,z∈aE n)(d:∀z∈b,z∈aE n):N (jY a b)<=N (aE n):=
 wM (EU b a e) λz a=>((Cj _ _).1 a).elim (c z) (d z)
def aca{f:Nat}{a:L S}(h:i<N a):qT n (f+1) i a=qT n f (i+1) (jY a (mo n a[i])):=by
 conv=>lhs;unfold qT
 rw[bM h]
def ab9{f:Nat}{a:L S}(h:N a<=i):qT n f i a=a:=by
 cases f with
 |zero=>rfl
 |succ f=>
  unfold qT;rw[rC h]
def abH{a:L aX}{b:Bd}(h:i<N a):qR n (a.drop i) b=qR n (a.drop (i+1)) (dI ((tK n a[i].n).contains a[i].n) 12 a[i].a b):=by
 rw[eJ h]
 conv=>lhs;unfold qR
def abI{b:Bd}(h:i<N l):wm (l.drop i) b=wm (l.drop (i+1)) (qR l[i] l[i].r b):=by
 rw[eJ h]
 conv=>lhs;unfold wm
structure OE (n:Nd):Prop where
 P:(aE n).Nodup
 own:∀s∈aE n,(n.r.any λq=>decide (q.n=s))=true
 r:∀q∈n.r,q.n∈aE n
 up:∀s,jW n (N (am n)+1) s []=some (aF n s)
 mn:∀s,N (eS (jE n s))<=1000
 ck:∀s,N (aF n s)<=1073741824
 Kg:N (aE n)<=2000000
attribute [-go_sem] wp_block in
def abK{v:AV}(ok:ow l)(h3:∀n∈l,OE n)(rv:aK 6 d v m)(rl:fZ tt d l m)
  (k:∀r,ai d.h d r->g (.g [II (og l).1,II (og l).2]) r):∃n r,aq Tryz.prog 38 [v] d n r/\g n r:=by
 let⟨n,h5⟩:=ok;let⟨n,I⟩:=pm rl;refine cf Wh Tryz.func38 ?_;have ln:=λr e w=>bI (e:=r) rv n Y e w;have E0:ai d.h d ((d.X (LL [II 0,II 0])).X (LL [II 0,II 0])):=ap (ap (.refl _ _));have c0:((d.X (LL [II 0,II 0])).X (LL [II 0,II 0])).f d.h=LL [II 0,II 0]:=(ac (by show¬d.h=d.h+1;omega)).t (ae R);have c1:cG ((d.X (LL [II 0,II 0])).X (LL [II 0,II 0])) (d.h+1) (0,0):=ae R;have n:((d.X (LL [II 0,II 0])).X (LL [II 0,II 0])).h=d.h+2:=R;refine S0 ?_;generalize (d.X (LL [II 0,II 0])).X (LL [II 0,II 0])=c7 at*;obtain⟨U,n⟩:∃U,U=d.h+1:=⟨_,R⟩;rw[<-n] at c1|-;let⟨I,hI⟩:=inv λn f V=>∃i b,n=N l-i/\i<=N l/\(f 0=v/\f 2=.p d.h 0/\f 3=.p U 0/\f 4=II i)/\ax U c7 V/\cG V U b/\b.1<=100/\wm (l.drop i) b=og l;refine aT I (N l) ((hI _ _ _).2 ⟨0,(0,0),R,aJ _,dy,.refl _ _,c1,aJ _,R⟩) ?_;clear c1;intro n f V n;let⟨i,b,I,n,⟨u,H,B,C⟩,X,e2,g5,en⟩:=(hI _ _ _).1 n;have n:=X.1;have xz:ai d.h d V:=jF E0 Y X;by_cases a1:i<N l
 .let⟨h4,ri⟩:=ph rl i a1;obtain⟨b',off,cap,n,row,rfl,g9,g7,n,b4⟩:=rv.at h4;have h0:V.f b'=_:=(xz.2 b' g7).t g9;have a9:=h5 _ (aU a1);have W:=h3 _ (aU a1);rw[abI a1] at en;generalize n:l[i]=o at*;generalize hz:m[i]=n at*;have h6:=ri;obtain⟨y1,y2,y3,y4,rfl,-,n,n,n,n,r4,r5⟩:=h6;have n:sV o.n=.s o.n.1 o.n.2:=R;rw[n] at ri b4;have I:=(lS r5).1;have n:=a9.2.2.2.2.1;have l4:=λr e w=>bI (e:=r) r4 I (om a9.2.2.2.2.1) e w;obtain⟨y,n⟩:∃y,y=V.X (LL [o.n,y1,y2,y3,y4,o.a]):=⟨_,R⟩;have X1:ax U c7 y:=by rw[n];exact X.X
  have cn:y.f V.h=LL [o.n,y1,y2,y3,y4,o.a]:=by rw[n];exact ae R
  have I:y.h=V.h+1:=by rw[n];rfl
  have e3:cG y U b:=by rw[n];exact(ac Y).t e2
  simp(disch:=omega)only[go_sem,wp_block,u,C,ln,h0,b4,bF];rw[<-n];clear n;generalize g4:o.r=D at*;let⟨J,hJ⟩:=inv λn f h=>∃t b6,n=N D-t/\t<=N D/\(f 0=.a b' off (N m) cap/\f 2=.p d.h 0/\f 3=.p U 0/\f 4=II i/\f 5=.p V.h 0/\f 6=II t)/\ax U y h/\cG h U b6/\b6.1<=100/\qR o (D.drop t) b6=qR o D b;refine aT J (N D) ((hJ _ _ _).2 ⟨0,b,R,aJ _,⟨dx u,dx H,dx B,dx C,R,R⟩,.refl _ _,e3,g5,R⟩) ?_;clear u H B C;intro n f h n;let⟨t,b6,_,I,⟨u,H,B,C,K,O⟩,X6,b2,c3,s⟩:=(hJ _ _ _).1 n;have n:=X6.1;have b8:=(X6.2 _ (by omega:V.h<y.h) Y).t cn;have x6:ai d.h d h:=jF E0 Y (X1.M X6);by_cases a0:t<N D
  .obtain⟨bq,b5,n,n,b7,rfl,g8,e4,c4⟩:=At r4 r5 Y;let⟨_,f2,f3,f4,f5,_,n,y⟩:=c4 t a0;have qo:=W.r _ (by rw[g4];exact aU a0);rw[abH a0] at s;have c8:h.f bq=_:=(x6.2 _ e4).t g8;have g0:b7.getD (b5+t*7) bp=.s D[t].n.1 D[t].n.2:=(pH n dc).t R;have g6:b7.getD (b5+t*7+6) bp=II D[t].a:=(uP n 6 dc).t R;generalize D[t]=q at*;simp(disch:=omega)only[go_sem,wp_block,K,O,b8,l4,c8,g0];refine bL (Tb (ic ri x6) a9 q.n (W.up q.n) (W.own _ qo) (W.ck _) (W.mn _) λyl n n I=>?_);have n7:=I.1;simp(disch:=omega)only[go_sem,wp_block];let⟨S1,c2⟩:=inv λm9 f P=>∃(j:Nat) (a:L S) (y:AV),m9=N (aE o)+1-j/\j<=N (aE o)+1/\(f 0=.a b' off (N m) cap/\f 2=.p d.h 0/\f 3=.p U 0/\f 4=II i/\f 5=.p V.h 0/\f 6=II t/\f 7=y/\f 8=II j)/\ce h.h P y (ci a)/\h.h<=P.h/\(∀c,c<h.h->P.f c=h.f c)/\a.Nodup/\(∀z∈a,z∈aE o)/\qT o (N (aE o)+1-j) j a=tK o q.n;refine aT S1 (N (aE o)+1) ((c2 _ _ _).2 ⟨0,mo o q.n,yl,R,aJ _,⟨dx u,dx H,dx B,dx C,dx K,dx O,R,R⟩,n,n7,λc Z=>I.2 c Z,Tc W.P _,λz hz=>Gz hz,R⟩) ?_;clear u H B C K O n;intro m9 f P n;let⟨j,a,_,_,_,⟨u,H,B,C,K,O,p7,p8⟩,ry,y,k9,c5,b0,a3⟩:=(c2 _ _ _).1 n;have sl:=wM c5 b0;have n:=W.Kg;have ly:=λr e w=>bI (e:=r) ry.rd (n:=N a) (by rw[aC];exact fI a) Y e w;have b9:=(k9 _ (by omega:V.h<h.h)).t b8;have c9:=(k9 _ (by omega:bq<h.h)).t c8;have x9:ai d.h d P:=⟨Y,λc Z=>(k9 c (om x6.1)).t (x6.2 c Z)⟩;by_cases a7:j<N a
   .obtain⟨yb,h8,h9,rfl,i0,g3⟩:=ry.resolve_left λa4=>by
     have:=dv List.length a4.2
     rw[fI] at this
     have:N a=0:=this
     omega
    have sg:=xi a7;have c6:=fI a;have so:=b0 _ (aU a7);obtain⟨f9,n⟩:∃f9,N (aE o)+1-j=f9+1:=⟨N (aE o)-j,Y⟩;rw[n,aca a7] at a3;generalize n:a[j]=x at*;simp(disch:=omega)only[go_sem,wp_block,K,p7,p8,b9,g3,sg,c6];refine bL (Tb (ic ri x9) a9 x (W.up x) (W.own _ so) (W.ck _) (W.mn _) λym i2 rm Em=>?_);have n:=Em.1;have i1:=(Em.2 _ h9).t g3;have n:N (mo o x)<=N (aE o):=Oc _ _;have lm:=λr e w=>bI (e:=r) rm.rd (n:=N (mo o x)) (by rw[aC];exact fI _) Y e w;simp(disch:=omega)only[go_sem,wp_block];have e5:∀z∈mo o x,z∈aE o:=λz hz=>Gz hz;generalize mo o x=M at*;let⟨S2,a5⟩:=inv λe f p=>∃(F:Nat) (ya:AV),e=N M-F/\F<=N M/\(f 0=.a b' off (N m) cap/\f 2=.p d.h 0/\f 3=.p U 0/\f 4=II i/\f 5=.p V.h 0/\f 6=II t/\f 7=ya/\f 8=II j/\f 9=ym/\f 10=II F)/\ce h.h p ya (ci (jY a (M.take F)))/\ce P.h p ym (ci M)/\(∀c,ar ya c->¬ar ym c)/\i2.h<=p.h/\(∀c,c<h.h->p.f c=h.f c);refine aT S2 (N M) ((a5 _ _ _).2 ⟨0,.a yb 0 (N a) (.B 1),R,aJ _,⟨dx u,dx H,dx B,dx C,dx K,dx O,by exact p7.t (by rw[c6]),dx p8,R,R⟩,by rw[gO];exact .inr ⟨yb,h8,Y,by show AV.a yb 0 (N a) (.B 1)=.a yb 0 (N (ci a)) (.B 1);rw[c6],i0,i1⟩,rm,λc h1 h2=>?_,ak _,λc Z=>(Em.2 c Y).t (k9 c Z)⟩) ?_
    .have h1:yb=c:=h1
     have:=(rm.bT h2).1
     omega
    clear u H B C K O p7 p8;intro e f p e;let⟨F,ya,_,f,⟨u,H,B,C,K,O,p7,p8,p9,b1⟩,ra,h7,e0,na,ka⟩:=(a5 _ _ _).1 e;by_cases a6:F<N M
    .obtain⟨a2,e6,e7,rfl,e8,a8⟩:=h7.resolve_left λa4=>by
      have:=dv List.length a4.2
      rw[fI] at this
      have:N M=0:=this
      omega
     have g1:=xi a6;have g2:=fI M;have es:=aau a (M.take F) M[F];rw[<-dt a6] at es;have e:N (jY a (M.take F))<=N (aE o):=aat c5 b0 λz hz=>e5 z (rE hz);generalize e:jY a (M.take F)=Ls at*;generalize M[F]=w at*;simp(disch:=omega)only[go_sem,wp_block,p7,p9,b1,a8,g1,g2];refine al (wD ra Y w ?_);cases a4:Ls.contains w with
     |true=>
      rw[a4,ae R] at es;simp(disch:=omega)only[go_sem,b1];exact⟨N M-(F+1),Y,(a5 _ _ _).2 ⟨F+1,ya,R,a6,⟨dx u,dx H,dx B,dx C,dx K,dx O,dx p7,dx p8,dx p9,R⟩,by rw[es];exact ra,.inr ⟨a2,e6,e7,R,e8,a8⟩,e0,na,ka⟩⟩
     |false=>
      rw[a4,ac to] at es;let⟨e,n,x,f,r⟩:=si (w:=16) (i:=p.h) (c:=.k 1) (v:=.s w.1 w.2) (d:=p.X (LL [w])) (x:=ya) (l:=ci Ls) (ra.aR (iC _) λb _ h2 _=>ac Y) (ae R) (bJ _) (by rw[fI];omega) (by show h.h<=p.h+1;omega);have f:e.h=p.h+1+1:=f;have f:∀c,c<p.h->¬ar ya c->e.f c=p.f c:=λc h1 h2=>(r c (by show c<p.h+1;omega) h2).t (ac Y);refine S7 p7 p9 b1 a8 g1 g2 n ?_;refine⟨N M-(F+1),Y,(a5 _ _ _).2 ⟨F+1,_,R,a6,⟨dx u,dx H,dx B,dx C,dx K,dx O,R,dx p8,dx p9,R⟩,by rw[es,<-xh];exact x,.inr ⟨a2,e6,Y,R,e8,(f a2 e7 λh=>e0 a2 h R).t a8⟩,λc h1 h2=>?_,Y,λc Z=>(f c Y λh=>?_).t (ka c Z)⟩⟩
      .have h1:p.h+1=c:=h1;have h2:a2=c:=h2;omega
      .have:=(ra.bT h).1
       omega
    .obtain rfl:F=N M:=Y;rw[hU] at ra;refine S4 p8 p9 b1 lm ?_;exact⟨N (aE o)+1-(j+1),Y,(c2 _ _ _).2 ⟨j+1,_,ya,R,Y,⟨dx u,dx H,dx B,dx C,dx K,dx O,dx p7,R⟩,ra,Y,ka,EU M a c5,λz hz=>((Cj _ _).1 hz).elim (b0 z) (e5 z),by rw[show(aE o).length+1-(j+1)=f9 by omega];exact a3⟩⟩
   .rw[ab9 (by omega)] at a3;have b3:cG P U b6:=(k9 _ Y).t b2;rw[a3] at ry ly a7 sl;refine S8 K O p7 p8 ly b9 c9 g0 ?_;refine al (wD ry Y q.n ?_);cases a4:(tK o q.n).contains q.n with
    |false=>
     rw[a4] at s;simp(disch:=omega)only[go_sem,O];exact⟨N D-(t+1),Y,(hJ _ _ _).2 ⟨t+1,b6,R,a0,⟨dx u,dx H,dx B,dx C,dx K,R⟩,⟨Y,λc Z _=>(k9 c Y).t (X6.2 c Z Y)⟩,b3,c3,s⟩⟩
    |true=>
     rw[a4] at s;have s:qR o (D.drop (t+1)) (kV 12 q.a b6)=qR o D b:=s;refine S6 B K O b9 c9 g6 ?_;refine al (jS b3 Y λa a cf e=>?_);simp(disch:=omega)only[go_sem,O];refine⟨N D-(t+1),Y,(hJ _ _ _).2 ⟨t+1,kV 12 q.a b6,R,a0,⟨dx u,dx H,dx B,dx C,dx K,R⟩,⟨Y,λc Z a=>(e c a).t ((k9 c Y).t (X6.2 c Z a))⟩,cf,sK dc c3,s⟩⟩
  .obtain rfl:t=N D:=Y;rw[fQ] at s;have s:b6=qR o D b:=s;rw[<-s] at en;refine S5 C K O b8 l4 ?_;exact⟨N l-(i+1),Y,(hI _ _ _).2 ⟨i+1,b6,R,a1,⟨dx u,dx H,dx B,R⟩,X1.M X6,b2,c3,en⟩⟩
 .obtain rfl:i=N l:=Y;rw[fQ] at en;have en:b=og l:=en;have c:=(X.2 _ (by omega:d.h<c7.h) Y).t c0;have a:V.f U=LL [b.1,b.2]:=e2;refine S7 u H B C ln c a ?_;rw[<-en] at k;exact k _ (cO xz Y)
section
variable {L:List Wd}{p:PS}
def agn(a:Good L)(p:PS):(jg L p).1.r.length<=16385:=by
 rw[GN];obtain A:=JS a L.length [] (aV L pr (jj L (dJ L p).2).2) J
 have:=a.2.1
 grind
def Uw(b:Good L):∀(n:Nat) (l:List Nd) (p:PS),(∀d∈l,d.r.length<=16385)->(∀d∈(fV L n l p).1,d.r.length<=16385)
 |0,l,p,h=>h
 |n+1,l,p,h=>by
  unfold fV;split
  .split
   .exact h
   .exact Uw b n (l++[(jg L p).1]) (jg L p).2 λq a=>(bA.1 a).elim (h q) λa=>by rw[dM.1 a];exact agn b p
  .exact h
def ag7(t:By):∀d∈(ch t).1,d.r.length<=16385:=by
 unfold ch;split
 .rename_i h;have a:=Jz h;unfold tn;dsimp only;have b:=Uw a 34 [] ⟨0,0,0,0,0⟩ J;grind
 grind
def ag2(h:(aE n).Nodup/\(∀q∈n.r,q.n∈aE n)/\∀s∈aE n,∃q∈n.r,q.n=s):(aE n).length<=n.r.length:=by
 have:=wM (k:=n.r.map aX.n) h.1 J
 grind
end
structure IP (l:List Nd):Prop where
 n:(nF l).1=0
 t:(lG l).1=0
 c:(lL l).1=0
 u:(og l).1=0
structure EP (l:List Nd):Prop where
 ok:ow l
 made:∀n∈l,Made n
 Kg:∀n∈l,N n.r<=2000000
 mn:∀n∈l,∀q∈n.r,N (eS q.e)<=1000
def UI(n:Nd):∀(k:Nat) (s:S),N (fW n k s)<=k
 |0,_=>by unfold fW;exact ak _
 |k+1,s=>by
  unfold fW;split
  .split
   .exact aJ _
   .have:=UI n k
    rw[bt];exact IE (this _)
  .exact aJ _
def abY(n:Nd)(s:S):N (aF n s)<=N n.ao:=by
 unfold aF;rw[Ep];exact UI n _ s
def EP.nL(T:EP l)(h:(nF l).1=0):∀n∈l,OE n:=λn a=>by
 let⟨d,o2,f⟩:=Ds l [] (0,0) h n a;have c:=T.ok.2 n a;refine⟨d,λs g=>?_,o2,T9 h T.made n a,λs=>?_,λs=>bC (abY n s) c.2.2.2.1.1,bC (ag2 ⟨d,o2,f⟩) (T.Kg n a)⟩
 .let⟨q,b,e⟩:=f s g;exact BM.2 ⟨q,b,aB e⟩
 .unfold jE;split
  .rename_i q b;exact T.mn n a q (pY b)
  .show(eS E0).length<=1000
   have:eS E0=[]:=by unfold E0 eS dw;rw[ac (by decide),ac (by decide),ac (by decide)];rfl
   rw[this];exact aJ _
def ajo{v:AV}(T:EP l)(sl:Ce v)(D:aK 6 d v m)(F:fZ tt d l m)(k:∀e a f,ai d.h d f->(e=0->IP l)->g (.g [.i .i64 e,.i .i64 a]) f):∃v' f,aq Tryz.prog 14 [v] d v' f/\g v' f:=by
 refine c0 Tryz.func14 ?_;have x:ai d.h d (d.X (.E false [.i .i64 0,.i .i64 0])):=ap (.refl _ _);have c1:(d.X (.E false [.i .i64 0,.i .i64 0])).f d.h=.E false [.i .i64 0,.i .i64 0]:=ae R;have f:(d.X (.E false [.i .i64 0,.i .i64 0])).h=d.h+1:=R;refine S0 ?_;generalize d.X (.E false [.i .i64 0,.i .i64 0])=W at*;refine al (af0 T.ok sl (D.ext (f:=0) x) (iJ (iS x) x.1 (λ_ h=>h) F) λw f=>?_);have n2:=f.1;have d2:=(f.2 _ (by omega:d.h<W.h)).t c1;have P:=aM x f;generalize hb:w.h=c at*;obtain⟨f,x⟩:∃f,f=(w.X (.E false [.i .i64 0,.i .i64 0])).put c (.E false [.i .i64 (nF l).1,.i .i64 (nF l).2]):=⟨_,R⟩;have Z:f.f c=.E false [.i .i64 (nF l).1,.i .i64 (nF l).2]:=by rw[x];exact ae R
 have y:ai d.h d f:=by rw[x];exact cO (ap P) Y
 have P:f.h=c+1:=by rw[x];show w.h+1=_;rw[hb]
 have d3:f.f d.h=.E false [.i .i64 0,.i .i64 0]:=by rw[x];exact(ac Y).t ((ac Y).t d2)
 refine S1 hb ?_;rw[<-x];clear x;have r:∀(e a:Nat) (w:HN),(e=0->IP l)->ai d.h d w->g (.g [.i .i64 e,.i .i64 a]) (w.put d.h (.E false [.i .i64 e,.i .i64 a])):=λe a w e a=>k _ _ _ (cO a Y) e;by_cases j:(nF l).1=0
 .have i:de ((nF l).1=0)=true:=aB j;refine S1 i ?_;refine al (ajC T.ok T.made (af2 j) (D.ext (f:=0) y) (iJ (iS y) y.1 (λ_ h=>h) F) λo a=>?_);have e:=a.1;have w:=(a.2 _ (by omega:c<f.h)).t Z;have x:=(a.2 _ (by omega:d.h<f.h)).t d3;have e:=aM y a;have c5:(o.put c (.E false [.i .i64 (lG l).1,.i .i64 (lG l).2])).f c=.E false [.i .i64 (lG l).1,.i .i64 (lG l).2]:=ae R;have d5:(o.put c (.E false [.i .i64 (lG l).1,.i .i64 (lG l).2])).f d.h=.E false [.i .i64 0,.i .i64 0]:=(ac Y).t x;have z:ai d.h d (o.put c (.E false [.i .i64 (lG l).1,.i .i64 (lG l).2])):=cO e Y;have a:(o.put c (.E false [.i .i64 (lG l).1,.i .i64 (lG l).2])).h=o.h:=R;refine S1 w ?_;generalize o.put c (.E false [.i .i64 (lG l).1,.i .i64 (lG l).2])=H at*;by_cases t:(lG l).1=0
  .have i:de ((lG l).1=0)=true:=aB t;refine S1 i ?_;refine al (ab8 T.ok T.made (T9 j T.made) (D.ext (f:=0) z) (iJ (iS z) z.1 (λ_ h=>h) F) λp a=>?_);have e:=a.1;have f:=(a.2 _ (by omega:c<H.h)).t c5;have o:=(a.2 _ (by omega:d.h<H.h)).t d5;have e:=aM z a;have c7:(p.put c (.E false [.i .i64 (lL l).1,.i .i64 (lL l).2])).f c=.E false [.i .i64 (lL l).1,.i .i64 (lL l).2]:=ae R;have d7:(p.put c (.E false [.i .i64 (lL l).1,.i .i64 (lL l).2])).f d.h=.E false [.i .i64 0,.i .i64 0]:=(ac Y).t o;have B:ai d.h d (p.put c (.E false [.i .i64 (lL l).1,.i .i64 (lL l).2])):=cO e Y;have a:(p.put c (.E false [.i .i64 (lL l).1,.i .i64 (lL l).2])).h=p.h:=R;refine S1 f ?_;generalize p.put c (.E false [.i .i64 (lL l).1,.i .i64 (lL l).2])=I at*;by_cases s:(lL l).1=0
   .have i:de ((lL l).1=0)=true:=aB s;refine S1 i ?_;refine al (aeB T.ok (D.ext (f:=0) B) (iJ (iS B) B.1 (λ_ h=>h) F) λb q a _=>?_);have e:=a.1;have f:=(a.2 _ (by omega:c<I.h)).t c7;have o:=(a.2 _ (by omega:d.h<I.h)).t d7;have e:=aM B a;have c9:(q.put c (.E false [.i .i64 b.1,.i .i64 b.2])).f c=.E false [.i .i64 b.1,.i .i64 b.2]:=ae R;have d9:(q.put c (.E false [.i .i64 b.1,.i .i64 b.2])).f d.h=.E false [.i .i64 0,.i .i64 0]:=(ac Y).t o;have C:ai d.h d (q.put c (.E false [.i .i64 b.1,.i .i64 b.2])):=cO e Y;have a:(q.put c (.E false [.i .i64 b.1,.i .i64 b.2])).h=q.h:=R;refine S1 f ?_;generalize q.put c (.E false [.i .i64 b.1,.i .i64 b.2])=K at*;by_cases u:b.1=0
    .have i:de (b.1=0)=true:=aB u;refine S1 i ?_;refine al (abK T.ok (T.nL j) (D.ext (f:=0) C) (iJ (iS C) C.1 (λ_ h=>h) F) λn a=>?_);have f:=(a.2 _ (by omega:c<K.h)).t c9;have e:=(a.2 _ (by omega:d.h<K.h)).t d9;have o:=aM C a;have U:(n.put c (.E false [.i .i64 (og l).1,.i .i64 (og l).2])).f c=.E false [.i .i64 (og l).1,.i .i64 (og l).2]:=ae R;have V:(n.put c (.E false [.i .i64 (og l).1,.i .i64 (og l).2])).f d.h=.E false [.i .i64 0,.i .i64 0]:=(ac Y).t e;have O:ai d.h d (n.put c (.E false [.i .i64 (og l).1,.i .i64 (og l).2])):=cO o Y;refine S2 f e ?_;generalize n.put c (.E false [.i .i64 (og l).1,.i .i64 (og l).2])=a at*
     try simp(disch:=omega)only[go_sem,U,V,fp,ft,bF]
     exact r _ _ _ (λh=>⟨j,t,s,h⟩) O
    .have i:de (b.1=0)=false:=aA u;refine S3 c9 d9 i ?_;exact r _ _ _ (λh=>absurd h u) C
   .have i:de ((lL l).1=0)=false:=aA s;refine S3 c7 d7 i ?_;exact r _ _ _ (λh=>absurd h s) B
  .have i:de ((lG l).1=0)=false:=aA t;refine S3 c5 d5 i ?_;exact r _ _ _ (λh=>absurd h t) z
 .have i:de ((nF l).1=0)=false:=aA j;refine S3 Z d3 i ?_;exact r _ _ _ (λh=>absurd h j) y
end
section
open Tryz
variable {g:AV->HN->Prop}{d:HN}
structure EM (l:List Nd):Prop where
 a:oO l
 ok:ow l
 ne:l≠[]
def Ux{a:L Wd}:∀(n:Nat) (l:L Nd) (p:PS),N l<=N (fV a n l p).1
 |0,l,p=>ak _
 |n+1,l,p=>by
  unfold fV;split
  .split
   .exact ak _
   .refine bC ?_ (Ux n _ _);rw[ay];exact du _ _
  .exact ak _
def ag9{t:By}(h:(ch t).2.1=0):(ch t).1≠[]:=by
 unfold ch at h|-;split at h
 .rename_i g;rw[ae g];unfold tn at h|-;dsimp only at h|-;split at h
  .rename_i a;rw[ae a];have e:fV (ix t).1 34 [] ⟨0,0,0,0,0⟩=fV (ix t).1 33 [(jg (ix t).1 ⟨0,0,0,0,0⟩).1] (jg (ix t).1 ⟨0,0,0,0,0⟩).2:=by
    show fV (ix t).1 (33+1) [] ⟨0,0,0,0,0⟩=_
    conv=>lhs;unfold fV
    rw[ae ⟨R,.inl R⟩,ac (by decide)]
    rfl
   have:=Ux (a:=(ix t).1) 33 [(jg (ix t).1 ⟨0,0,0,0,0⟩).1] (jg (ix t).1 ⟨0,0,0,0,0⟩).2
   rw[<-e] at this;intro b;rw[b] at this;exact absurd this (Nat.not_succ_le_zero 0)
  .rename_i a;exact absurd h a
 .rename_i g;exact absurd h g
def ajn(t:By):EP (ch t).1:=⟨Vk t,Vj t,λn a=>bC (ag7 t n a) dc,λn a q b=>bC (Lz q.e) (bC (Vi t n a q b).2 dc)⟩
def ahS{t:By}(f:(ch t).2.1=0)(h:IP (ch t).1):EM (ch t).1:=by
 let⟨c,b,a,e⟩:=h;have d:=Vj t;refine⟨⟨d,ag8 t,Vi t,aha t,c,b,?_,?_⟩,Vk t,ag9 f⟩
 .unfold lL at a;rw[Qq _ λn b q f=>Zc _ ((d n b).r q f)] at a;exact RG dc a
 .exact(abJ λn b=>by
   obtain⟨a,o2,-⟩:=Ds _ [] (0,0) c n b;exact⟨a,o2⟩).1 e
def abM{T:By}(V:N T<=9223372036854775807)
  (Z:EM (ch T).1->∀a v l c,aK 6 c v l->fZ tt c (ch T).1 l->ai d.h d c->g (.t [v,.g [.i .i64 0,.i .i64 a]]) c)
  (H:∀e a c,e≠0->ai d.h d c->g (.t [.e,.g [.i .i64 e,.i .i64 a]]) c):∃v c,aq Tryz.prog 25 [.s (N T) (aY T)] d v c/\g v c:=by
 refine cf V5 func25 ?_;have K:ai d.h d (d.X (.E false [.i .i64 0,.i .i64 0])):=ap (.refl _ _);have U:(d.X (.E false [.i .i64 0,.i .i64 0])).f d.h=.E false [.i .i64 0,.i .i64 0]:=ae R;have a:(d.X (.E false [.i .i64 0,.i .i64 0])).h=d.h+1:=R;refine S0 ?_;generalize d.X (.E false [.i .i64 0,.i .i64 0])=q at*;refine al (ahb (acB) V λv b a h=>?_);let⟨l,r1,r2⟩:=ajp a;have sl:=ajq a;have P:=ajn T;have y:=ahS (t:=T);obtain⟨W,x,q1,q2,-⟩:=a;generalize (ch T).1=l at*;generalize (ch T).2.1=r at*;generalize (ch T).2.2=I at*;have a:=h.1;have a:=(h.2 _ (by omega:d.h<q.h)).t U;have p:=aM K h;obtain⟨f,n⟩:∃f,f=b.X (.E false [.i .i64 r,.i .i64 I]):=⟨_,R⟩;have m:ai b.h b f:=by rw[n];exact ap (.refl _ _)
 have t:f.f b.h=.E false [.i .i64 r,.i .i64 I]:=by rw[n];exact ae R
 have c:f.h=b.h+1:=by rw[n];rfl
 have D:=(m.2 _ (by omega:d.h<b.h)).t a;have z:=aM p m;by_cases k:r=0
 .subst k;simp(disch:=omega)only[go_sem,bF,<-n,t];clear n;have a:=r1.ext (f:=0) m;have c:=iJ (iS m) m.1 (λ_ h=>h) r2;refine al (ajo P sl a c λo j i a u=>?_);have c:=a.1;have B:=(a.2 _ (by omega:b.h<f.h)).t t;have c:=(a.2 _ (by omega:d.h<f.h)).t D;have s:=aM m a;have C:(i.put b.h (.E false [.i .i64 o,.i .i64 j])).f b.h=.E false [.i .i64 o,.i .i64 j]:=ae R;have F:(i.put b.h (.E false [.i .i64 o,.i .i64 j])).f d.h=.E false [.i .i64 0,.i .i64 0]:=(ac Y).t c;have O:ai d.h d (i.put b.h (.E false [.i .i64 o,.i .i64 j])):=cO (aM z a) Y;by_cases w:o=0
  .subst w;refine S3 B C F ?_;have a:((i.put b.h (.E false [.i .i64 0,.i .i64 j])).put d.h (.E false [.i .i64 0,.i .i64 j])).h=i.h:=R;have e:∀c,c<b.h->c≠d.h->((i.put b.h (.E false [.i .i64 0,.i .i64 j])).put d.h (.E false [.i .i64 0,.i .i64 j])).f c=b.f c:=λc f h=>(ac h).t ((ac Y).t (s.2 c f));have KF:uG (kJ q.h b.h) b ((i.put b.h (.E false [.i .i64 0,.i .i64 j])).put d.h (.E false [.i .i64 0,.i .i64 j])):=λc b f=>e c f (om b.1);refine Z (y R (u R)) _ v x _ (q1.aR W KF ?_) (iJ KF ?_ (λ_ _=>trivial) q2) ⟨?_,λc b=>(e c Y Y).t (p.2 c b)⟩
   .rw[a];omega
   .rw[a];omega
   .rw[a];omega
  .have a:de (o=0)=false:=aA w;refine S4 B C F a ?_;exact H _ _ _ w (cO O Y)
 .have a:de (r=0)=false:=aA k;simp(disch:=omega)only[go_sem,bF,<-n,t,D,a];exact H _ _ _ k (cO z Y)
def XB{T:By}(b:N T<=9223372036854775807)
  (l:EM (ch T).1->∀v f a,aK 6 a v f->fZ tt a (ch T).1 f->ai d.h d a->g (.t [v,true]) a)
  (m:∀a,ai d.h d a->g (.t [.e,false]) a):∃v a,aq Tryz.prog 8 [.s (N T) (aY T)] d v a/\g v a:=by
 refine cf Wy func8 ?_;refine S0 ?_;refine al (abM b (λo h v f b n q2 i=>?_) λe a b k i=>?_)
 .have j:(b.X (LL [II 0,h])).f b.h=LL [II 0,h]:=ae R;have c:ai b.h b (b.X (LL [II 0,h])):=ap (.refl _ _);refine S1 j ?_;exact l o v f _ (n.ext (f:=0) c) (iJ (iS c) c.1 (λ_ h=>h) q2) (aM i c)
 .have j:(b.X (LL [e,a])).f b.h=LL [e,a]:=ae R;have c:ai b.h b (b.X (LL [e,a])):=ap (.refl _ _);have a:de (e=0)=false:=aA k;refine S2 j a ?_;exact m _ (aM i c)
variable {n:Nd}
def RM(h:vT n){s:S}(f:(aO n s).isSome=true):s.1<=24:=by
 let⟨v,a⟩:=xK.1 f;have e:v.n=s:=by have:=uB a;exact eL this
 rw[<-e];exact(h.1 v (pY a)).2.2
def ajk{h:L Nd}(l:vT n)(a:N n.ao<=64):∀t:Tm,dF h n (bw t)->bO (bw t)->eU 16384 (bw t)->mX n t->lJ n t->vr h t:=by
 refine Tm.E λa a a a c a d o=>?_;intro b f g i j;unfold bw at b f g;unfold dF at b;unfold bO at f;unfold eU at g;unfold mX at i;unfold lJ at j;have m:=xr d;unfold vr;refine⟨Y,Y,⟨om (WP i.1),λt a=>bC (RM l (j.1 t a).1) Y⟩,λe=>?_,(LU d).2 λk c=>?_⟩
 .subst e
  have:=b.1
  rw[m] at this;exact this
 .obtain⟨m,e,rfl⟩:=gB c;have a:bw d[m]∈cL d:=by rw[zI];exact ni c
  exact o _ c ((wJ _).1 b.2 _ a) ((mw _).1 f.2.2 _ a) ((LI _).1 g.2 _ a) (xp i.2.2.2.2 m e).2 (Jm j.2 _ c)
def aed{l:L Nd}(h:oO l)(ok:ow l):OJ l where
 ok:=ok
 at_:=λi hi q hq=>by
  have e:l[i]?=some l[i]:=bM hi;have hm:=aU hi;have g:=h.GJ e;have fn:=h.Az _ hm;have ll:l[i].ao.length<=64:=by
   have:=fn.2
   unfold am at this;rw[ay,ay] at this;omega
  obtain⟨c,c1,-⟩:=JR (Ju h.Qp l[i] hm) q hq;have t:=g.tg q hq;have okq:=(ok.2 _ hm).2.2.2.2.2 q hq;refine⟨⟨c,c1⟩,ajk fn ll _ t.T (by rw[jV];exact okq.2) (by rw[jV];exact h.nb _ hm q hq) t.td t.ck,?_⟩;have hs:=g.ok.own.mem_iff.1 (ni hq);let⟨v,hv,ev⟩:=cN.1 hs
  have:=(fn.1 v (by unfold am;exact jl _ hv)).2.2
  rw[ev] at this;omega
 vs:=λi hi=>by
  have e:l[i]?=some l[i]:=bM hi;have hm:=aU hi;have g:=h.GJ e;have fn:=h.Az _ hm;refine⟨g.ok.ne,λv hv=>⟨om ((fn.1 v hv).2.2),?_⟩⟩;rcases Gp g.ok.hu hv with e0|e0
  .rw[e0];exact aJ _
  .have:=RM fn e0;omega
variable {y:AV}{e:HN}{l:L Nd}{b:Nat}
def aiV(h:oO l)(e:l≠[])(d:kT l<=1000):rM (gJ l (N l) ⟨aD l,(0,0),(0,0),false⟩ ⟨0,(aD l).ao,[]⟩):=by
 let⟨a,b,c⟩:=h.small e d;have a:(gJ l (N l) ⟨aD l,(0,0),(0,0),false⟩ ⟨0,(aD l).ao,[]⟩).p<=1000:=a;have b:N (gJ l (N l) ⟨aD l,(0,0),(0,0),false⟩ ⟨0,(aD l).ao,[]⟩).r<=65000:=b;have c:N (gJ l (N l) ⟨aD l,(0,0),(0,0),false⟩ ⟨0,(aD l).ao,[]⟩).ao<=65064:=c;exact⟨Y,Y,Y⟩
def ON(a:HN)(p:PD)(b c d e f g:AV):Prop:=cD 1 a b (N p.ins) (p.ins.map iv)/\cD 1 a c (N p.o) (p.o.map iv)/\cD 1 a d (N p.an) (p.an.map iv)/\cD 1 a e (N p.y) (p.y.map iv)/\cD 1 a f (N p.s) (p.s.map iv)/\aK 4 a g (p.j.map aQ.cells)
def DL{l:L Nat}(h:cD 1 d y (N l) (l.map iv))(i:d.f b=LL [.e,.e,.e,.e,.e,.e])(n:d.h<=e.h)(k:∀c,c<d.h->c≠b->e.f c=d.f c):cD 1 e y (N l) (l.map iv):=by
 rcases h with h|⟨c,off,cap,q,row,rfl,a,j,o,p,g⟩
 .exact .inl h
 .by_cases f:c=b
  .subst f;rw[i] at a;injection a with i m
   cases l with
   |nil=>exact .inl ⟨R,R,.inr ⟨_,_,_,R⟩⟩
   |cons i r=>
    exfalso
    have:iv i∈(row.drop off).take (N (i::r)*1):=by rw[g];exact gN
    have:=Iv (rE this)
    rw[<-m] at this;simp[iv] at this
  .exact .inr ⟨c,off,cap,q,row,R,(k c j f).t a,cW j n,o,p,g⟩
def TI
  {n:L AV} (Z:∀(d:HN) (v:Nat) (r:AV->HN->Prop),v<=1000001->0<d.h->d.f 0=.E true n->(∀a,ai d.h d a->r (.s (oT (hZ 20 v)).1 (oT (hZ 20 v)).2) a)->∃e a,aq Tryz.prog 139 [.i .i64 v] d e a/\r e a)
   (ht:d.f 0=.E true n) (W:0<d.h) {T:By} (C:N T<=9223372036854775807) {r:AV->HN->Prop}
  (w:∀e a,ai d.h d a->r (.t [.g [.e,.e,.e,.e,.e,.e],.l false,.i .i64 e]) a)
  (k1:EM (ch T).1->kT (ch T).1<=1000->∀p,qm (bN (ch T).1) FM=some p->∀B D F H I K a,ON a p B D F H I K->ai d.h d a->r (.t [.g [B,D,F,H,I,K],.l true,.i .i64 0]) a):
  ∃v a,aq Tryz.prog 19 [.s (N T) (aY T)] d v a/\r v a:=by
 refine c0 func19 ?_;refine S0 ?_;obtain⟨V,a⟩:∃V,V=d.X (.E false [.e,.e,.e,.e,.e,.e]):=⟨_,R⟩;have O:ai d.h d V:=by rw[a];exact ap (.refl _ _)
 have e:V.h=d.h+1:=by rw[a];rfl
 have U:V.f d.h=.E false [.e,.e,.e,.e,.e,.e]:=by rw[a];exact ae R
 rw[<-a];clear a;refine al (XB C (λi v a t e a k=>?_) λt k=>?_)
 .have n1:=k.1;refine S0 ?_;refine al (aa8 i.ok e a λx q m ox s u=>?_);have a:=u.1;refine S0 ?_;have l6:=(pm s).2;have rx:aK 6 q x m:=by
    obtain⟨-,⟨rfl,g⟩|⟨b,a,z,⟨rfl,g,-⟩|⟨rfl,g⟩⟩⟩:=ox
    .exact .inl ⟨ff g,.inl R⟩
    .exact .inl ⟨ff g,.inr ⟨_,_,_,R⟩⟩
    .exact aK.bT m (f:=false) g z l6
  have j:ai d.h d q:=aM (aM O k) u;have C:tC (ch T).1 m x q n:=⟨aed i.a i.ok,rx,s,(j.2 0 W).t ht,Y,Z⟩;have a:=(u.2 _ Y).t ((k.2 _ Y).t U);refine al (ad2 i.ne i.a.cY C (λf=>aiV i.a i.ne f) (λf h l=>?_) λf z h l P=>?_)
  · have e:=l.1;have o:=(l.2 _ Y).t a;refine S1 o ?_;exact w 2 _ ⟨by show d.h<=h.h+1;omega,λc f=>(ac Y).t ((ac Y).t ((l.2 c Y).t (j.2 c f)))⟩
  · have e:=l.1;have o:=(l.2 _ Y).t a;have y:=P;obtain⟨z1,z2,z3,z4,rfl,-⟩:=y;simp(disch:=omega)only[go_sem,sV,bF];obtain⟨W,e⟩:∃W,W=h.X (.E false [.s (bN (ch T).1).n.1 (bN (ch T).1).n.2,z1,z2,z3,z4,.i .i64 (bN (ch T).1).a]):=⟨_,R⟩;have a:ai h.h h W:=by rw[e];exact ap (.refl _ _)
    have m:W.h=h.h+1:=by rw[e];rfl
    rw[<-e];clear e;have h:=(a.2 _ Y).t o;have m:ai d.h d W:=⟨Y,λc f=>(a.2 c Y).t ((l.2 c Y).t (j.2 c f))⟩;let⟨o,j⟩:=RU i.a i.ok i.ne f;have e:dL (λc=>c<W.h) W (bN (ch T).1) _:=se (λb _ l=>a.2 b l) a.1 (λb a=>om a.2) P;refine al (ac4 j e (λl e j=>?_) λp l B D F H I K e n o q s u v j=>?_)
    .have b:=j.1;have a:=(j.2 _ Y).t h;refine S1 a ?_;exact w 2 _ ⟨by show d.h<=e.h+1;omega,λc f=>(ac Y).t ((ac Y).t ((j.2 c Y).t (m.2 c f)))⟩
    .have b:=j.1;have a:=(j.2 _ Y).t h;refine S1 a ?_;have kx:∀b h c,c<e.h->c≠d.h->((e.X b).put d.h h).f c=e.f c:=λb h c h b=>(ac b).t (ac Y);exact k1 i f p l _ _ _ _ _ _ _ ⟨DL n a (iC _) λc h b=>kx _ _ c h b,DL o a (iC _) λc h b=>kx _ _ c h b,DL q a (iC _) λc h b=>kx _ _ c h b,DL s a (iC _) λc h b=>kx _ _ c h b,DL u a (iC _) λc h b=>kx _ _ c h b,Xm v a (iC _) λc h b=>kx _ _ c h b⟩ ⟨by show d.h<=e.h+1;omega,λc f=>(ac Y).t ((ac Y).t ((j.2 c Y).t (m.2 c f)))⟩
 .have n1:=k.1;have a:=(k.2 _ Y).t U;refine S1 a ?_;exact w 0 _ ⟨by show d.h<=t.h;omega,λc f=>(ac Y).t ((k.2 c Y).t (O.2 c f))⟩
end
section
open Tryz renaming prog->tz
open Tryz
variable {y:AV}{g:AV->HN->Prop}{d e:HN}{a b:Nat}
def Lr{n:Nat}(h:9223372036854775807<n):fU .i64 n 0=true:=by
 have a:cT .i64 n=false:=by
  cases b:cT .i64 n with
  |false=>rfl
  |true=>exact absurd (gP.1 b) (by show¬Nat.succ n<=9223372036854775808;omega)
 have b:cT .i64 0=true:=R;unfold fU;rw[a,b];rfl
def TG{n:Nat}(b:a<=9223372036854775807)(h:9223372036854775807<n):fU .i64 a n=false:=by
 have b:cT .i64 n=false:=by
  cases c:cT .i64 n with
  |false=>rfl
  |true=>exact absurd (gP.1 c) (by show¬Nat.succ n<=9223372036854775808;omega)
 have c:cT .i64 a=true:=gP.2 (show Nat.succ a<=9223372036854775808 by omega);unfold fU;rw[b,c];rfl
structure PV where
 z:AV
 a:AV
 b:AV
 c:AV
 d:AV
 e:AV
abbrev PV.cells(z:PV):L AV:=[z.z,z.a,z.b,z.c,z.d,z.e]
def OU(a:HN)(y:AV)(l:L aQ):Prop:=aK 4 a y (l.map aQ.cells)
structure xP (U:HN) (z:PV) (p:PD):Prop where
 ins:ns .i64 U z.z p.ins
 o:ns .i64 U z.a p.o
 an:ns .i64 U z.b p.an
 y:ns .i64 U z.c p.y
 s:ns .i64 U z.d p.s
 j:OU U z.e p.j
structure EJ (p:PD):Prop where
 ins:N p.ins<=1099511627776/\∀n∈p.ins,n<18446744073709551616
 o:N p.o<=1099511627776/\∀n∈p.o,n<18446744073709551616
 an:N p.an<=1099511627776/\∀n∈p.an,n<18446744073709551616
 y:N p.y<=1099511627776/\∀n∈p.y,n<18446744073709551616
 s:N p.s<=1099511627776/\∀n∈p.s,n<18446744073709551616
 j:N p.j<=1099511627776/\∀i∈p.j,i.o<18446744073709551616/\i.a<18446744073709551616/\i.b<18446744073709551616/\i.c<18446744073709551616
def vw{k:IntKind}{l:L Nat}(h:ns k d y l)(a:ai d.h d e):ns k e y l:=aK.ext (f:=d.h) h a
def xP.ext{U a:HN}{z:PV}{p:PD}(h:xP U z p)(e:ai U.h U a):xP a z p:=
 ⟨vw h.ins e,vw h.o e,vw h.an e,vw h.y e,vw h.s e,aK.ext (f:=U.h) h.j e⟩
def pg{k:IntKind}{l:L Nat}(h:ns k d y l)(a:N l<=1099511627776):∀e b a,eF (.a e 1 b) y a=.ok (II (N l)) a:=λe b a=>by
 have:=aK.len (a:=e) (f:=b) (e:=a) h (by simp;omega)
 simpa using this
def Xd{l:L aQ}(h:OU d y l)(a:N l<=1099511627776):∀e b a,eF (.a e 4 b) y a=.ok (II (N l)) a:=λe b a=>by
 have:=aK.len (a:=e) (f:=b) (e:=a) h (by simp;omega)
 simpa using this
def Kp{k:IntKind}:∀l:L Nat,l.map (AV.i k)=(l.map λn=>[AV.i k n]).flatten
 |[]=>rfl
 |x::l=>by rw[iL,iL,ir,<-Kp l];rfl
def ahQ{k:IntKind}{a:Cp}{c:Bool}(l:L Nat)(e:d.f b=.E c (l.map (.i k)))(f:b<d.h):ns k d (.a b 0 (N l) a) l:=by
 refine .inr ⟨b,0,a,c,_,by rw[aC],e,f,by simp,by simp,?_⟩;rw[ng,iM (by simp)];exact Kp l
def aaN{a b:Bool}(h:(a&&b)=true):a=true/\b=true:=iY.1 h
@[go_sem] def akW:vd tz 108 true=true:=by kernel_rfl
@[go_sem] def akL{o n:Nat}{c:Cp}:oU tz 108 (.a b o n c) .e=some false:=by kernel_rfl
@[go_sem] def akK:oU tz 108 .e .e=some true:=by kernel_rfl
def W7{x y:BN}:(d.put b x).put b y=d.put b y:=by
 show HN.mk _ _=HN.mk _ _;congr 1;funext c
 show(if c=b then _ else if c=b then _ else _)=(if c=b then _ else _)
 split<;>rfl
def ahL{y:BN}(h:d.f b=y):d.put b y=d:=by
 cases d with
 |mk a f=>
  show HN.mk _ _=HN.mk _ _;congr 1;funext c
  show(if c=b then _ else _)=_
  split
  .rename_i e;rw[e];exact h.s
  .rfl
def YK{p:PD}{k:Nat}{i:aQ}(h:px p k i=true):i.o<=20/\(∀n∈iK i,n<N p.an)/\(i.o≠3->i.o≠5->i.o<=18->i.a<N p.an)/\(i.o=5->i.a<N p.o)/\(i.o=19\/i.o=20->k<i.a/\i.a<=N p.j):=by
 let⟨d,a,b,c⟩:=i;unfold px at h;unfold iK;dsimp only at h|-;unfold ru has at h;by_cases e:d=0
 .subst e;simp at h|-;omega
 by_cases a:d=1
 .subst a;simp at h|-;omega
 by_cases f:d=2
 .subst f;simp at h|-;omega
 by_cases g:d=3
 .subst g;simp at h|-;omega
 by_cases j:d=4
 .subst j;simp at h|-;omega
 by_cases c:d=5
 .subst c;simp at h|-;omega
 by_cases a:d=6
 .subst a;simp at h|-;omega
 by_cases a:d=7
 .subst a;simp at h|-;omega
 by_cases a:d=19
 .subst a;simp at h|-;omega
 by_cases b:d=20
 .subst b;simp at h|-;omega
 rw[ac e,ac (by omega),ac f,ac g,ac j,ac c,ac a,ac b] at h;simp only[ss,IF] at h;rw[ac (by omega),ae (by omega)];refine⟨Y,?_,λ_ _ _=>h.2.1,λe=>absurd e c,λe=>Y⟩;intro n a;simp at a;rcases a with rfl|rfl
 .exact h.2.2.1
 .exact h.2.2.2
def XD(i:aQ):N (iK i)<=1099511627776:=by
 unfold iK;by_cases h:i.o=0\/i.o=2\/i.o=4\/i.o=20
 .rw[ae h];simp
 .rw[ac h];by_cases k:8<=i.o/\i.o<=18
  .rw[ae k];simp
  .rw[ac k];simp
def Ko{f:Nat->aQ->Bool}:∀{l:L aQ} {k:Nat},yF f l k=none->∀j (h:j<N l),f (k+j) l[j]=true
 |[],_,_,j,h=>absurd h (nR j)
 |i::l,k,e,j,h=>by
  unfold yF at e;cases a:f k i with
  |false=>rw[a] at e;simp at e
  |true=>
   rw[a,ae R] at e;cases j with
   |zero=>exact a
   |succ j=>
    have:=Ko e j (by simpa using h)
    rw[show k+(j+1)=k+1+j by omega];exact this
attribute [go_sem] agL
def agj(n:Nat):cT .i64 n=de (n<=9223372036854775807):=by
 rw[rB,IF];constructor
 .intro h;have:=gP.1 h;have a:lM .i64=9223372036854775808:=R;omega
 .intro h;exact gP.2 (show Nat.succ n<=9223372036854775808 by omega)
def ahR{k:IntKind}:ns k d .e []:=.inl ⟨R,.inl R⟩
@[go_sem] def amT{a:FN}:au a (.const (.string {data:=#[99,111,110,115,116]}))=.s 5 500152823651:=(rfl)
@[go_sem] def amU{a:FN}:au a (.const (.string {data:=#[109,111,118,101]}))=.s 4 1702260589:=(rfl)
@[go_sem] def am1{a:FN}:au a (.const (.string {data:=#[108,111,97,100]}))=.s 4 1684107116:=(rfl)
@[go_sem] def am3{a:FN}:au a (.const (.string {data:=#[107,101,101,112]}))=.s 4 1885693291:=(rfl)
@[go_sem] def am4{a:FN}:au a (.const (.string {data:=#[105,110]}))=.s 2 28265:=(rfl)
@[go_sem] def am5{a:FN}:au a (.const (.string {data:=#[111,117,116]}))=.s 3 7632239:=(rfl)
@[go_sem] def am6{a:FN}:au a (.const (.string {data:=#[97,100,100]}))=.s 3 6579297:=(rfl)
@[go_sem] def am7{a:FN}:au a (.const (.string {data:=#[115,117,98]}))=.s 3 6452595:=(rfl)
@[go_sem] def amV{a:FN}:au a (.const (.string {data:=#[109,117,108]}))=.s 3 7107949:=(rfl)
@[go_sem] def amW{a:FN}:au a (.const (.string {data:=#[100,105,118]}))=.s 3 7760228:=(rfl)
@[go_sem] def amX{a:FN}:au a (.const (.string {data:=#[101,113]}))=.s 2 29029:=(rfl)
@[go_sem] def amY{a:FN}:au a (.const (.string {data:=#[108,116]}))=.s 2 29804:=(rfl)
@[go_sem] def amZ{a:FN}:au a (.const (.string {data:=#[108,101]}))=.s 2 25964:=(rfl)
@[go_sem] def am0{a:FN}:au a (.const (.string {data:=#[117,110,108,101,115,115]}))=.s 6 126939460038261:=(rfl)
@[go_sem] def am2{a:FN}:au a (.const (.string {data:=#[106,117,109,112]}))=.s 4 1886221674:=(rfl)
def UX:L AV:=[.s 5 500152823651,.s 4 1702260589,.s 4 1684107116,.s 4 1885693291,.s 2 28265,.s 3 7632239,.s 3 7630702,.s 3 6776174,.s 3 6579297,.s 3 6452595,.s 3 7107949,.s 3 7760228,.s 3 6582125,.s 2 29029,.s 2 29804,.s 2 25964,.s 3 6581857,.s 2 29295,.s 3 7499640,.s 6 126939460038261,.s 4 1886221674]
def agI:∀a:Nat,a<21->∃n w,UX[a]?=some (.s (n+1) w)
 |0,_=>⟨_,_,R⟩
 |1,_=>⟨_,_,R⟩
 |2,_=>⟨_,_,R⟩
 |3,_=>⟨_,_,R⟩
 |4,_=>⟨_,_,R⟩
 |5,_=>⟨_,_,R⟩
 |6,_=>⟨_,_,R⟩
 |7,_=>⟨_,_,R⟩
 |8,_=>⟨_,_,R⟩
 |9,_=>⟨_,_,R⟩
 |10,_=>⟨_,_,R⟩
 |11,_=>⟨_,_,R⟩
 |12,_=>⟨_,_,R⟩
 |13,_=>⟨_,_,R⟩
 |14,_=>⟨_,_,R⟩
 |15,_=>⟨_,_,R⟩
 |16,_=>⟨_,_,R⟩
 |17,_=>⟨_,_,R⟩
 |18,_=>⟨_,_,R⟩
 |19,_=>⟨_,_,R⟩
 |20,_=>⟨_,_,R⟩
 |n+21,h=>absurd h Y
def yL(b:HN)(l:L Nat)(n:Nat)(a:n<18446744073709551616)(a:N l<=1099511627776):aq tz 81 [n,N l] b (.l (has l n)) b:=by
 have:∃v a,aq tz 81 [n,N l] b v a/\v=.l (has l n)/\a=b:=by
  refine c0 func81 ?_;unfold has;by_cases d:9223372036854775807<n
  .have c:=Lr d;rw[aA (by omega)];simp(disch:=omega)only[go_sem,c,eI]
  by_cases c:n<N l
  .rw[aB c];simp(disch:=omega)only[go_sem,gv]
  .rw[aA c];simp(disch:=omega)only[go_sem,gv]
 obtain⟨v,a,k,rfl,rfl⟩:=this;exact k
def aia{z:AV}:List.replicate 21 z=[z,z,z,z,z,z,z,z,z,z,z,z,z,z,z,z,z,z,z,z,z]:=R
def aiq(b:HN):∃v a,aq tz 121 [] b v a/\(∃y,v=.t [.a b.h 0 21 (.k 21),y])/\ai b.h b a/\a.f b.h=LL UX/\b.h<a.h:=by
 refine c0 func121 ?_;simp(disch:=omega)only[go_sem,aia];refine⟨⟨_,R⟩,ap (ap (.refl _ _)),R,by show b.h<b.h+1+1;omega⟩
def abT{b:Nat}(a:b<18446744073709551616)(h:∀n w a,ai d.h d a->(n=0↔¬b<21)->(n=0->w=0)->g (.s n w) a):∃v a,aq tz 80 [b] d v a/\g v a:=by
 refine c0 func80 ?_;refine S0 ?_;obtain⟨v,a,k,⟨y,rfl⟩,E,f,a⟩:=aiq d;refine al ⟨_,_,k,?_⟩;by_cases c:9223372036854775807<b
 .have a:=Lr c;refine S1 a ?_;exact h _ _ _ E Y λ_=>R
 by_cases a:b<21
 .let⟨n,w,e⟩:=agI b a;refine S2 f e ?_;exact h _ _ _ E Y λe=>Y
 .refine S0 ?_;exact h _ _ _ E Y λ_=>R
def mA(i:aQ):L Nat:=if i.o=1\/i.o=3\/i.o=5\/i.o=6\/i.o=7\/i.o=19 then[i.b] else if 8<=i.o/\i.o<=18 then[i.b,i.c] else[]
def ahY{i:aQ}(h:i.o<=20):mA i=iK i:=by
 unfold mA iK;by_cases a:i.o=1\/i.o=3\/i.o=5\/i.o=6\/i.o=7\/i.o=19
 .rw[ae a,ac (by omega),ac (by omega)]
 .rw[ac a];by_cases a:8<=i.o/\i.o<=18
  .rw[ae a,ac (by omega),ae a]
  .rw[ac a,ae (by omega)]
def XC{i:aQ}(k:i.o<18446744073709551616)(h:∀v a,ai d.h d a->ns .i64 a v (mA i)->g v a):∃v a,aq tz 44 [i.cells] d v a/\g v a:=by
 refine c0 func44 ?_;let⟨f,a,b,c⟩:=i;have e:aQ.cells ⟨f,a,b,c⟩=[II f,II a,II b,II c]:=R;have n:ai d.h d (d.X (LL [f,a,b,c])):=ap (.refl _ _);have j:∀l:L Nat,l=[b]\/l=[b,c]->mA ⟨f,a,b,c⟩=l->g (.a (d.h+1) 0 (N l) (.k (N l))) ((d.X (LL [f,a,b,c])).X (LL (l.map (.i .i64)))):=λl _ m=>by
  refine h _ _ (ap n) ?_;rw[m];exact ahQ l (by show(if d.h+1=d.h+1 then _ else _)=_;rw[ae R]) (bJ _)
 dsimp only at k;by_cases l:f=1
 .subst l;refine S1 e ?_;exact j [b] (.inl R) R
 by_cases k:f=3
 .subst k;refine S1 e ?_;exact j [b] (.inl R) R
 by_cases k:f=5
 .subst k;refine S1 e ?_;exact j [b] (.inl R) R
 by_cases k:f=6
 .subst k;refine S1 e ?_;exact j [b] (.inl R) R
 by_cases k:f=7
 .subst k;refine S1 e ?_;exact j [b] (.inl R) R
 by_cases k:f=19
 .subst k;refine S1 e ?_;exact j [b] (.inl R) R
 have k:mA ⟨f,a,b,c⟩=if 8<=f/\f<=18 then[b,c] else[]:=by unfold mA;rw[ac (by dsimp only;omega)]
 by_cases m:8<=f/\f<=18
 .rw[ae m] at k;let⟨_,o⟩:=m;refine S1 e ?_;exact j [b,c] (.inr R) k
 .rw[ac m] at k;have j:g .e (d.X (LL [f,a,b,c])):=h _ _ n (by rw[k];exact ahR);by_cases a:9223372036854775807<f
  .have a:fU .i64 f 8=true:=by
    have l:cT .i64 f=false:=by rw[agj];exact aA Y
    have b:cT .i64 8=true:=R;unfold fU;rw[l,b];rfl
   refine S2 e a ?_;exact j
  by_cases a:f<8
  .refine S1 e ?_;exact j
  .refine S1 e ?_;exact j
def Eh(i:aQ):Nat:=if i.o=3\/i.o=5\/19<=i.o then 18446744073709551615 else i.a
def ajX{i:aQ}(j:i.o<=20)(h:g (II (Eh i)) (d.X (LL i.cells))):∃v a,aq tz 45 [i.cells] d v a/\g v a:=by
 refine c0 func45 ?_;let⟨f,a,b,c⟩:=i;have e:aQ.cells ⟨f,a,b,c⟩=[II f,II a,II b,II c]:=R;dsimp only at j;unfold Eh at h;dsimp only at h;by_cases a:f=3
 .subst a;rw[ae (by omega)] at h;refine S1 e ?_;exact h
 by_cases a:f=5
 .subst a;rw[ae (by omega)] at h;refine S1 e ?_;exact h
 by_cases a:19<=f
 .rw[ae (by omega)] at h;refine S1 e ?_;exact h
 .rw[ac (by omega)] at h;refine S1 e ?_;exact h
end
end Go.Proofs.YtehahhggpdhieaaGreatDoor
