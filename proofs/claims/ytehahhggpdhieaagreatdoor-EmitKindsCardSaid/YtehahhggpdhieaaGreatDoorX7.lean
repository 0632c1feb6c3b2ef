/- Lemmas of the walk of EmitKinds are proved. Conditions: none. -/
import Derived.ChangeSlices
import Derived.WideKeyArgs
import Derived.Deep.Matrix
import Derived.Test.YtehahhggpdhieaaGreatDoorX6
namespace Go.Proofs.YtehahhggpdhieaaGreatDoor
set_option maxRecDepth 100000
set_option maxHeartbeats 32000000
set_option linter.all false
section
variable {x y:AV}{e:HN}{m:L (L AV)}{a b f i k s:Nat}
section
def BE(l:L Nat):L AV:=l.map (.i .u8)
def ar(x:AV)(b:Nat):Prop:=match x with|.a c _ _ _=>c=b|.p c _=>c=b|_=>False
def ai(a:Nat)(U c:HN):Prop:=U.h<=c.h/\∀b,b<a->c.f b=U.f b
def ai.refl(a:Nat)(U:HN):ai a U U:=⟨ak _,λ_ _=>R⟩
def ai.M{U a:HN}(h:ai f U e)(c:ai f e a):ai f U a:=⟨bC h.1 c.1,λb a=>(c.2 b a).t (h.2 b a)⟩
def ai.mono{a:Nat}{U:HN}(h:ai f U e)(b:a<=f):ai a U e:=⟨h.1,λb a=>h.2 b Y⟩
def ai.X{U:HN}{y:BN}(a:f<=U.h):ai f U (U.X y):=⟨iC _,λb a=>by show(if b=U.h then _ else _)=_;grind⟩
def ai.put{c:Nat}{U:HN}{y:BN}(a:f<=c):ai f U (U.put c y):=⟨ak _,λb a=>by show(if b=c then _ else _)=_;grind⟩
def ai.at_{U:HN}(h:ai f U e)(a:U.h<=k):ai f U (e.at_ k):=⟨a,h.2⟩
def aK(s:Nat)(U:HN)(y:AV)(f:L (L AV)):Prop:=(f=[]/\(y=.e\/∃b a c,y=.a b a 0 c))\/
 ∃b a c g e,y=.a b a (N f) c/\U.f b=.E g e/\b<U.h/\a+N f*s<=N e/\(∀l∈f,N l=s)/\(e.drop a).take (N f*s)=f.flatten
def aK.ext{f:Nat}{U:HN}(h:aK s U y m)(a:ai U.h U e):aK s e y m:=by
 rcases h with h|⟨b,off,cap,l,row,c,g,i,k⟩
 .exact .inl h
 .exact .inr ⟨b,off,cap,l,row,c,by rw[a.2 b i];exact g,om a.1,k⟩
def aK.len{a f:Nat}{U:HN}(h:aK s U y m)(c:N m<=9223372036854775807):eF (.a a s f) y e=.ok (.i .i64 (N m)) e:=by
 rcases h with⟨rfl,rfl|⟨b,off,cap,rfl⟩⟩|⟨b,off,cap,b,row,rfl,_⟩
 .rfl
 .rfl
 .rw[ov,nD,ae c]
def oV{s:Nat}:∀(a:L (L AV)) (i:Nat),(∀l∈a,N l=s)->(h:i<N a)->(a.flatten.drop (i*s)).take s=a[i]
 |[],i,_,h=>J
 |l::a,0,b,_=>J
 |l::a,i+1,b,h=>by
  have:=oV a i (λx c=>b x (li _ c)) J
  have e:(l++a.flatten).drop s=a.flatten:=by
   have:=b l dp
   subst this;exact J
  rw[ir,tv,IA,<-oH,e];exact this
def aK.at{U:HN}(h:aK s U y m)(f:i<N m):
  ∃b a e k c,y=.a b a (N m) e/\U.f b=.E k c/\b<U.h/\a+i*s+s<=N c/\(c.drop (a+i*s)).take s=m[i]:=by
 rcases h with⟨rfl,_⟩|⟨b,a,e,k,c,l,n,o,g,p,q⟩
 .simp at f
 .have g:=tu s f;rw[tv] at g;refine⟨b,a,e,k,c,l,n,o,Y,?_⟩
  have:=oV m i p f
  rw[<-q,Im,vP,oH] at this;grind
def ns(k:IntKind)(U:HN)(y:AV)(l:L Nat):Prop:=aK 1 U y (l.map λn=>[.i k n])
def ns.at{k:IntKind}{U:HN}{l:L Nat}(h:ns k U y l){i:Nat}(a:i<N l):
  ∃b a e f c,y=.a b a (N l) e/\U.f b=.E f c/\b<U.h/\c[a+i]?=some (.i k l[i]):=by
 let⟨b,a,e,f,c,g,n,o,p,m⟩:=aK.at h (i:=i) J;rw[aC] at g;refine⟨b,a,e,f,c,g,n,o,?_⟩;rw[zW] at p m;have b:a+i<N c:=Y;rw[eJ b,kM,rG,gO] at m;grind
section
variable {P:Program}{C:Spec}{PT:bW}{K:jn}{O:FN}{U:HN}
def TE{b:Code}(m:Nat)(h:sP (dQ P C PT b) m K O U):dQ P C PT (.loop b) K O U:=⟨m,h⟩
@[go_sem] def als{b:Code}{m:Nat}:sP (dQ P C PT b) (no_index (m+1)) K O U=dQ P C PT b (vB (sP (dQ P C PT b) m K) K) O U:=(rfl)
end
def ap{U:HN}{y:BN}(h:ai U.h U e):ai U.h U (e.X y):=h.M (.X h.1)
def cO{U:HN}{c:Nat}{y:BN}(h:ai U.h U e)(a:U.h<=c:=by first|omega|(simp only[Ud,W6,I7];omega)):ai U.h U (e.put c y):=h.M (.put a)
def aM{U a:HN}(h:ai U.h U e)(b:ai e.h e a):ai U.h U a:=h.M (b.mono h.1)
def RA{U:HN}(h:ai U.h U e)(a:U.h<=k:=by first|omega|(simp only[Ud,W6,I7];omega)):ai U.h U (e.at_ k):=h.at_ a
def aK.cells{U:HN}(h:aK s U y m):dZ y=some [y]:=by
 rcases h with⟨_,rfl|⟨b,off,cap,rfl⟩⟩|⟨b,off,cap,a,row,rfl,_⟩<;>rfl
@[go_sem] def anl{z:AV}:List.replicate 4 z=[z,z,z,z]:=(rfl)
@[go_sem] def agL{O:FN}:au O (.const (.int .i64 (-1)))=.i .i64 18446744073709551615:=UY R R
@[go_sem] def anS{w:Bool}:BG bp w=false:=(rfl)
def Bo{r:L AV}:∀(l m:L AV) (i:Nat),dz (l++m) (N l+i) r=l++dz m i r
 |[],m,i=>J
 |x::l,m,i=>by rw[fc,bt,show N l+1+i=N l+i+1 by omega,MO,Bo l m i,fc]
def D2:∀(l r m:L AV),N l=N r->dz (l++m) 0 r=r++m
 |[],[],m,_=>rfl
 |x::l,y::r,m,h=>by rw[fc,aiF,D2 l r m J,fc]
def MP{s:Nat}{r:L AV}(c:N r=s):∀(a:L (L AV)) (i:Nat),(∀l∈a,N l=s)->i<N a->dz a.flatten (i*s) r=(a.set i r).flatten
 |[],i,_,h=>J
 |l::a,0,b,_=>by rw[lq,ir,D2 l r _ J,zS,ir]
 |l::a,i+1,b,h=>by
  have e:=b l dp;rw[ir,show(i+1)*s=N l+i*s by rw[tv,e];omega,Bo,MP c a i J J,zR,ir]
def jZ{s:Nat}:∀(a:L (L AV)),(∀l∈a,N l=s)->N a.flatten=N a*s
 |[],_=>by simp
 |l::a,h=>by rw[ir,ay,jZ a (λx a=>h x (li _ a)),h l (by simp),bt,tv];omega
def aK.bT{U:HN}{c:Cp}{f:Bool}(a:L (L AV))(g:U.f b=.E f a.flatten)(h:b<U.h)(e:∀l∈a,N l=s):aK s U (.a b 0 (N a) c) a:=
 .inr ⟨b,0,c,f,_,R,g,h,by rw[jZ a e];omega,e,by rw[ng,iM (by rw[jZ a e];omega)]⟩
def GP(h:b<a):(a<=b)=False:=J
def cD(s:Nat)(U:HN)(y:AV)(n:Nat)(l:L AV):Prop:=(n=0/\l=[]/\(y=.e\/∃b a c,y=.a b a 0 c))\/
 ∃b a c f e,y=.a b a n c/\U.f b=.E f e/\b<U.h/\a+n*s<=N e/\N l=n*s/\(e.drop a).take (n*s)=l
def aH(s a:Nat)(U:HN)(x:AV)(n:Nat)(l:L AV):Prop:=N l=n*s/\((x=.e/\n=0)\/∃b,a<=b/\b<U.h/\((x=.a b 0 0 (.k 0)/\n=0/\∃c,U.f b=.E false c)\/(x=.a b 0 n (.B s)/\U.f b=.E false l)))
def aH.ext{n:Nat}{U a:HN}{l:L AV}(h:aH s f U x n l)(e:ai U.h U a):aH s f a x n l:=by
 obtain⟨c,h|⟨b,g,i,k⟩⟩:=h
 .exact⟨c,.inl h⟩
 .refine⟨c,.inr ⟨b,g,om e.1,?_⟩⟩;rw[e.2 b i];exact k
def aH.rd{n:Nat}{U:HN}{l:L AV}(h:aH s f U x n l):cD s U x n l:=by
 obtain⟨a,⟨rfl,rfl⟩|⟨b,c,c,⟨rfl,rfl,_⟩|⟨rfl,e⟩⟩⟩:=h
 .exact .inl ⟨R,ff Y,.inl R⟩
 .exact .inl ⟨R,ff Y,.inr ⟨_,_,_,R⟩⟩
 .exact .inr ⟨b,0,_,false,l,R,e,c,Y,a,by rw[ng,iM (by omega)]⟩
def aH.nil{U:HN}:aH s f U .e 0 []:=⟨by simp,.inl dy⟩
def aH.af7{U:HN}{a:L AV}:aH s U.h (U.X (.E false a)) (.a U.h 0 0 (.k 0)) 0 []:=⟨by simp,.inr ⟨U.h,Y,bJ _,.inl ⟨R,R,a,by show(if U.h=U.h then _ else _)=_;grind⟩⟩⟩
def aH.mono{a n:Nat}{U:HN}{l:L AV}(h:aH s f U x n l)(b:a<=f):aH s a U x n l:=by
 obtain⟨a,h|⟨b,c,c⟩⟩:=h
 .exact⟨a,.inl h⟩
 .exact⟨a,.inr ⟨b,Y,c⟩⟩
def I6{w n m:Nat}{U:HN}{l a:List AV}(u:0<s)(i:aH s f U x n l)(t:a.length=m*s)(c:(n+m)*w<=140737488355328)(h:f<=U.h):
  ∃p g,lI s w x m a U=.ok p g/\aH s f g p (n+m) (l++a)/\ai f U g:=by
 let⟨q,i⟩:=i;by_cases e:m=0
 .subst e;obtain rfl:a=[]:=J;refine⟨x,U,?_,⟨by rw[eB];exact q,by rw[eB];exact i⟩,.refl _ _⟩;rcases i with⟨rfl,rfl⟩|⟨b,_,_,⟨rfl,rfl,_⟩|⟨rfl,_⟩⟩
  .rfl
  .show(if(0+0)*w<=_ then _ else _)=_
   grind
  .show(if(n+0)*w<=_ then _ else _)=_
   grind
 .rcases i with⟨rfl,rfl⟩|⟨b,k,g,⟨rfl,rfl,row,o⟩|⟨rfl,o⟩⟩
  .obtain rfl:l=[]:=ff Y;rw[gg] at c;refine⟨.a U.h 0 m (.B s),U.X (.E false a),?_,⟨by grind,.inr ⟨U.h,h,bJ _,.inr ⟨by grind,?_⟩⟩⟩,.X h⟩
   .show(if m=0 then _ else if m*w<=_ then _ else _)=_
    grind
   .show(if U.h=U.h then _ else _)=_;grind
  .obtain rfl:l=[]:=J;refine⟨.a U.h 0 (0+m) (.B s),U.X (.E false a),?_,⟨by grind,.inr ⟨U.h,h,bJ _,.inr ⟨rfl,?_⟩⟩⟩,.X h⟩
   .show(if(0+m)*w<=_ then(if m=0 then _ else sH b 0 0 s m 0 a (U.f b) U) else _)=_
    rw[ae c,ac e,EY Y,o,ui,ae (by omega)];simp[xZ]
   .show(if U.h=U.h then _ else _)=_;grind
  .refine⟨.a U.h 0 (n+m) (.B s),(U.put b .none).X (.E false (l++a)),?_,⟨by grind,.inr ⟨U.h,h,bJ _,.inr ⟨rfl,?_⟩⟩⟩,ai.M (.put k) (.X A)⟩
   .show(if(n+m)*w<=_ then(if m=0 then _ else if s=s then we b 0 n s m a (U.f b) U else _) else _)=_
    have b:0<m*s:=IC Y u;rw[ae c,ac e,ae rfl,o,I4,ac (by omega),ae ⟨by omega,t⟩]
    rfl
   .show(if U.h=U.h then _ else _)=_;grind
def EZ{w n m:Nat}{U:HN}{l k:L AV}(i:0<s)(o:aH s f U x n l)(b:cD s U y m k)(c:(n+m)*w<=140737488355328)(h:f<=U.h):
  ∃g a,gj s w x y U=.ok g a/\aH s f a g (n+m) (l++k)/\ai f U a:=by
 rcases b with⟨rfl,rfl,rfl|⟨b,off,cap,rfl⟩⟩|⟨b,off,cap,b,row,rfl,b,_,p,q,t⟩
 .exact I6 i o dp c h
 .let⟨g,a,e,r⟩:=I6 (a:=[]) i o dp c h;exact⟨g,a,A,r⟩
 .let⟨g,a,e,r⟩:=I6 i o q c h;refine⟨g,a,?_,r⟩;rw[oR];by_cases a:m=0
  .subst a
   assumption
  .rw[ac a,b,ui,ae p,t];exact e
section
variable {P:Program}{C:Spec}{all:L Oper}{K:FN->HN->Prop}{nx0:Nat}{ks:L DK}{r:L Oper}{j:Nat}{d:Option Nat}{O:FN}{Us:L HN}{rs:L kw}
def Fz{w n m:Nat}{U:HN}{l k:L AV}(i:0<s)(p:aH s f U x n l)(q:cD s U y m k)(b:(n+m)*w<=140737488355328)(g:f<=U.h)
  (h:∀c a,aH s f a c (n+m) (l++k)->ai f U a->dX P C all K nx0 ks r (j+1) (be d c O) a (a::Us) rs):dE P C all K nx0 ks r j d O U Us rs (gj s w x y U):=by
 let⟨c,a,e,o,E⟩:=EZ (w:=w) i p q b g;rw[e];exact h c a o E
def tj{w n m:Nat}{U:HN}{l k:L AV}{e:FN->HN->Prop}(i:0<s)(p:aH s f U x n l)(q:cD s U y m k)(b:(n+m)*w<=140737488355328)(g:f<=U.h)
  (h:∀c a,aH s f a c (n+m) (l++k)->ai f U a->e (be d c O) a):mY C (gj s w x y U) U d e O:=by
 let⟨c,a,e,o,E⟩:=EZ (w:=w) i p q b g;rw[e];exact h c a o E
end
def aK.vG{U:HN}(h:aK s U y m):cD s U y (N m) m.flatten:=by
 rcases h with⟨rfl,h⟩|⟨b,off,cap,k,row,a,c,e,f,g,i⟩
 .exact .inl ⟨R,R,h⟩
 .exact .inr ⟨b,off,cap,k,row,a,c,e,f,jZ m g,i⟩
def ns.vG{k:IntKind}{U:HN}{l:L Nat}(h:ns k U y l):cD 1 U y (N l) (l.map (.i k)):=by
 have:=aK.vG h
 rw[aC] at this;have e:∀l:L Nat,(l.map λn=>[AV.i k n]).flatten=l.map (.i k):=λl=>by
  induction l with
  |nil=>rfl
  |cons x l a=>grind
 grind
def cD.len{n a w:Nat}{U:HN}{l:L AV}(h:cD s U y n l)(c:n<=9223372036854775807):eF (.a a s w) y e=.ok (.i .i64 n) e:=by
 rcases h with⟨rfl,_,rfl|⟨b,off,cap,rfl⟩⟩|⟨b,off,cap,b,row,rfl,_⟩
 .rfl
 .rfl
 .rw[ov,nD,ae c]
def cD.zk{n:Nat}{U:HN}{l:L AV}(h:cD 1 U y n l)(a:i<n):∃b a e f c,y=.a b a n e/\U.f b=.E f c/\b<U.h/\∃h:i<N l,c[a+i]?=some l[i]:=by
 rcases h with⟨rfl,_⟩|⟨b,a,e,f,c,g,k,m,o,p,q⟩
 .omega
 .rw[zW] at o p q;refine⟨b,a,e,f,c,g,k,m,Y,?_⟩;grind
def oS{w n m:Nat}{U:HN}{l k:List AV}(W:0<s)(z:aH s f U x n l)(hy:cD s U y m k)(V:0<m)(g:(n+m)*w<=140737488355328)(v:f<=U.h):
  ∃a,gj s w x y U=.ok (.a U.h 0 (n+m) (.B s)) a/\aH s f a (.a U.h 0 (n+m) (.B s)) (n+m) (l++k)/\a.h=U.h+1/\∀b,b<U.h->¬ar x b->a.f b=U.f b:=by
 obtain⟨b,a,o,B,i,rfl,D,h2,F,u,I⟩:∃b a o B i,y=.a b a m o/\U.f b=.E B i/\b<U.h/\a+m*s<=i.length/\k.length=m*s/\(i.drop a).take (m*s)=k:=by
  rcases hy with⟨h,_⟩|h
  .omega
  .exact h
 have a:=IC V W;rw[oR,ac (by omega),D,ui,ae F,I,aaT];have t:∀(a:HN),a.h=U.h->(∀b,b<U.h->¬ar x b->a.f b=U.f b)->aH s f (a.X (.E false (l++k))) (.a U.h 0 (n+m) (.B s)) (n+m) (l++k)/\(a.X (.E false (l++k))).h=U.h+1/\∀b,b<U.h->¬ar x b->(a.X (.E false (l++k))).f b=U.f b:=λa h h=>
  ⟨⟨by rw[ay,z.1,u,xE],.inr ⟨U.h,v,by show U.h<a.h+1;omega,.inr ⟨rfl,by show(if U.h=a.h then _ else _)=_;grind⟩⟩⟩,by show a.h+1=_;omega,λb v p=>by show(if b=a.h then _ else _)=_;grind⟩
 obtain⟨a,⟨rfl,rfl⟩|⟨c,a,a,⟨rfl,rfl,a,q⟩|⟨rfl,q⟩⟩⟩:=z
 .obtain rfl:l=[]:=ff Y;rw[gg] at g;have e:lI s w .e m k U=.ok (.a U.h 0 (0+m) (.B s)) (U.X (.E false ([]++k))):=by
   show(if m=0 then _ else if m*w<=_ then _ else _)=_
   rw[ac (by omega),ae g,gg];rfl
  grind
 .obtain rfl:l=[]:=J;have e:lI s w (.a c 0 0 (.k 0)) m k U=.ok (.a U.h 0 (0+m) (.B s)) (U.X (.E false ([]++k))):=by
   show(if(0+m)*w<=_ then(if m=0 then _ else sH c 0 0 s m 0 k (U.f c) U) else _)=_
   rw[ae g,ac (by omega),EY Y,q,ui,ae (by omega)];simp[xZ]
  grind
 .have e:lI s w (.a c 0 n (.B s)) m k U=.ok (.a U.h 0 (n+m) (.B s)) ((U.put c .none).X (.E false (l++k))):=by
   show(if(n+m)*w<=_ then(if m=0 then _ else if s=s then we c 0 n s m k (U.f c) U else _) else _)=_
   rw[ae g,ac (by omega),ae rfl,q,I4,ac (by omega),ae ⟨by omega,u⟩]
   rfl
  exact⟨_,e,t (U.put c .none) rfl λb _ p=>by show(if b=c then _ else _)=_;rw[ac (λq=>p q.s)]⟩
structure iO (T:Nat->Nat) (lo:Nat) (U:HN) (t s:Nat) (x:AV) (n:Nat) (l:List AV):Prop where
 own:aH s lo U x n l
 C:∀b,ar x b->T b=t
section
variable {P:Program}{C:Spec}{d:Option Nat}{O:FN}
end
def cD.lits{n:Nat}{U:HN}{a:L AV}{c:Cp}(h:N a=n*s):cD s (U.X (.E false a)) (.a U.h 0 n c) n a:=.inr ⟨U.h,0,c,false,a,R,by show(if U.h=U.h then _ else _)=_;grind,bJ _,Y,h,J⟩
def bV:L Nat->Nat
 |[]=>0
 |a::l=>a+256*bV l
def Jf:∀l:L Nat,yp (BE l)=some (bV l)
 |[]=>rfl
 |a::l=>by
  show(match yp (BE l) with|some m=>some (a+256*m)|none=>none)=_
  rw[Jf l];rfl
section
variable {P:Program}{O:FN}{U:HN}
@[go_sem] def al8{t:TypeId}{x h m:Operand}{a:Option Operand}:bE P (.slice t x a (some h) (some m)) O U=mV (av P t) (au O x) (pP O a) (some (au O h)) (some (au O m)) U:=(rfl)
@[go_sem] def anB{e y:Nat}{c:IntKind}{f b:Option AV}:mV (.a e s y) .e f b (some (.i c a)) U=if cT c a then(if a=0 then mO f b 0 0 λ_ _=>.ok .e U else .no) else .no:=(rfl)
@[go_sem] def anC{e y f c g:Nat}{i:IntKind}{k h:Option AV}:mV (.a e s y) (.a b f c (.B g)) k h (some (.i i a)) U=if g=s then(if cT i a then(if a<=c then mO k h c a λl c=>sq b f l c a s U else .no) else .no) else .no:=(rfl)
@[go_sem] def al1{t:TypeId}:bE P (.makeMap t none) O U=.ok (.map U.h) (U.X (.mp [])):=(rfl)
@[go_sem] def alZ{t:TypeId}{x k:Operand}{a:Bool}:bE P (.lookup t x k a) O U=yS P (av P t) (au O x) (au O k) a U:=(rfl)
@[go_sem] def al3{t:TypeId}{m k v:Operand}:bE P (.mapUpdate t m k v) O U=AY P (av P t) (au O m) (au O k) (au O v) U:=(rfl)
noncomputable def yQ(q:Option (AV->AV->Option Bool))(z:Option AV)(x k:AV)(a:Bool)(U:HN):aZ:=match q,z with|some q,some z=>yR q a z k (JW x U) U|_,_=>.no
noncomputable def yX(q:Option (AV->AV->Option Bool))(b:Nat)(k v:AV)(U:HN):aZ:=match q with|some q=>AX q b k v (uZ (U.f b)) U|none=>.no
@[go_sem] def alo{b a:Nat}{k:AV}{c:Bool}:yS P (.map b a) x k c U=yQ (wH (av P b)) (cr P a) x k c U:=(rfl)
@[go_sem] def alC{c a:Nat}{k v:AV}:AY P (.map c a) (.map b) k v U=yX (wH (av P c)) b k v U:=(rfl)
@[go_sem] def alm:wH .s=some kh:=(rfl)
def vV(a:L (AV×AV))(M:Nat×Nat->Option AV):Prop:=∀s:Nat×Nat,ml kh (.s s.1 s.2) a=some (M s)
def vV.nil:vV [] λ_=>none:=λ_=>R
def zh(s t:Nat×Nat):kh (.s s.1 s.2) (.s t.1 t.2)=some (aI s.1 s.2 t.1 t.2):=R
def Bw(s t:Nat×Nat):aI s.1 s.2 t.1 t.2=de (s=t):=by
 let⟨a,b⟩:=s;let⟨c,d⟩:=t;rw[rB,aai,Prod.mk.injEq];simp only[aI,ss,zX]
def xQ(a:L (AV×AV)):Prop:=∀e∈a,∃s:Nat×Nat,e.1=.s s.1 s.2
def xQ.put{b a:L (AV×AV)}{k:Nat×Nat}{v:AV}(h:xQ b)(e:oC kh (.s k.1 k.2) v b=some a):xQ a:=by
 induction b generalizing a with
 |nil=>cases e;exact λx a=>⟨k,by rw[dM.1 a]⟩
 |cons x r f=>
  let⟨t,c⟩:=h x J;unfold oC at e;rw[c,zh] at e;cases a:aI k.1 k.2 t.1 t.2 with
  |true=>
   rw[a] at e;cases e;intro y hy;rcases bY.1 hy with rfl|hy
   .exact⟨k,R⟩
   .exact h y J
  |false=>
   rw[a] at e;dsimp only at e;cases a:oC kh (.s k.1 k.2) v r with
   |none=>grind
   |some g=>
    rw[a] at e;cases e;intro y hy;rcases bY.1 hy with rfl|hy
    .exact⟨t,c⟩
    .exact f (λz c=>h z J) a y hy
def vV.put{b:L (AV×AV)}{M:Nat×Nat->Option AV}(f:xQ b)(h:vV b M)(k:Nat×Nat)(v:AV):∃a,oC kh (.s k.1 k.2) v b=some a/\xQ a/\vV a λs=>if s=k then some v else M s:=by
 have l:∀(b:L (AV×AV)),xQ b->∃a,oC kh (.s k.1 k.2) v b=some a/\∀s:Nat×Nat,∀o,ml kh (.s s.1 s.2) b=some o->ml kh (.s s.1 s.2) a=some (if s=k then some v else o):=by
  intro b
  induction b with
  |nil=>
   refine λ_=>⟨_,R,λs o c=>?_⟩;cases c;unfold ml;rw[zh,Bw];by_cases e:s=k
   .grind
   .rw[ac e,aA e];rfl
  |cons x r n=>
   intro f;let⟨t,i⟩:=f x J;let⟨p,g,m⟩:=n λz n=>f z J;by_cases e:k=t
   .refine⟨(.s k.1 k.2,v)::r,by unfold oC;rw[i,zh,Bw,aB e],λs o c=>?_⟩;unfold ml at c|-;rw[i,zh,Bw] at c;rw[zh,Bw];grind
   .refine⟨x::p,by unfold oC;rw[i,zh,Bw,aA e,g],λs o c=>?_⟩;unfold ml at c|-;rw[i,zh,Bw] at c|-;grind
 let⟨a,g,m⟩:=l b f;exact⟨a,g,f.put g,λs=>m s _ (h s)⟩
def fL(U:HN)(b:Nat)(M:Nat×Nat->Option AV):Prop:=∃a,U.f b=.mp a/\xQ a/\vV a M
def fL.X:fL (U.X (.mp [])) U.h λ_=>none:=⟨[],by show(if U.h=U.h then _ else _)=_;grind,(λ_ h=>by cases h),vV.nil⟩
def fL.eq{a:HN}{b:Nat}{M:Nat×Nat->Option AV}(h:fL U b M)(e:a.f b=U.f b):fL a b M:=by
 let⟨c,f,g⟩:=h;exact⟨c,e.t f,g⟩
def fL.look{M:Nat×Nat->Option AV}(h:fL U b M)(s:Nat×Nat)(a:Bool)(z:AV):yQ (some kh) (some z) (.map b) (.s s.1 s.2) a U=.ok (sN a z (M s)) U:=by
 let⟨c,e,_,f⟩:=h;show yR kh a z (.s s.1 s.2) (uZ (U.f b)) U=_;rw[e];show AQ a z (ml kh (.s s.1 s.2) c) U=_;rw[f s];rfl
def fL.mE{M:Nat×Nat->Option AV}(h:fL U b M)(s:Nat×Nat)(v:AV):∃c,yX (some kh) b (.s s.1 s.2) v U=.ok bp (U.put b (.mp c))/\fL (U.put b (.mp c)) b λt=>if t=s then some v else M t:=by
 let⟨c,i,k,l⟩:=h;let⟨a,e,f,g⟩:=l.put k s v;refine⟨a,?_,a,by show(if b=b then _ else _)=_;grind,f,g⟩;show AX kh b _ v (uZ (U.f b)) U=_;rw[i];show Dj b (oC kh (.s s.1 s.2) v c) U=_;rw[e];rfl
@[go_sem] def alp{v z:AV}:sN false z (some v)=v:=(rfl)
end
end
end
section
variable {x:AV}{b i j r s:Nat}
section
variable {P:Program}{f:FuncId}{args:L AV}{U U1 U2:HN}{v v':AV}
def Kept(w a:World):Prop:=w.heap.size<=a.heap.size/\(∀B,B<w.heap.size->a.heap[B]?=w.heap[B]?)/\EO w a
noncomputable def zx(P:Program)(a:L AV)(c:L (L AV)):HN:=⟨P.globals.size+N c,λb=>if b=0 then .E true a else if P.globals.size<=b then(match c[b-P.globals.size]? with|some l=>.E true l|none=>.none) else .none⟩
def Ho(P:Program)(a:Nat)(c:L (Nat×Nat×Nat)):Ren:=λb=>if b<P.globals.size then some (b,0,a) else c[b-P.globals.size]?
def afc(F:0<P.globals.size){q:L Value}{j:L (L AV)}{c:L AV}{m:Nat}{n:L (Nat×Nat×Nat)}(hl:N n=N j)(e:aq P f args (zx P c j) v U1){w:World}(k:∀r,CR r true c 0 0 m w)
  (z:∀(i:Nat) (l:L AV) (x:Nat×Nat×Nat),j[i]?=some l->n[i]?=some x->∀r,CR r true l x.1 x.2.1 x.2.2 w) (K:VL (Ho P m n) args q):Calls P f ⟨q⟩ w λe t=>∃u d,e=.returned u/\VR d v u/\Kept w t:=by
 have s:∀b,¬wl ((zx P c j).f b):=λb h=>by
  unfold zx at h;dsimp only at h;split at h
  .exact h
  .split at h
   .split at h<;>exact h
   .exact h
 refine(e (Ho P m n) w q ⟨λb B o V a=>?_,λb W _ _ _ _ _ _ _ h=>absurd h (s b)⟩ (λg D=>⟨m,ae D⟩) ⟨λb a=>?_,λb a=>?_⟩ K).2.mono λe' t ⟨u,d,C,hu,p⟩=>⟨u,d,C,hu,p.size,λB y=>p.aR B y λ⟨b,_,_,_,h⟩=>s b h,p.K⟩
 .unfold zx;dsimp only;unfold Ho at a;split
  .rename_i h;subst h;rw[ae F] at a;cases a;exact k _
  .split
   .rename_i h;rw[ac (On.2 h)] at a;split
    .rename_i l I;exact z _ _ _ I a _
    .trivial
   .trivial
 .have a:P.globals.size+N j<=b:=a;unfold Ho;rw[ac Y,rC Y]
 .have a:P.globals.size+N j<=b:=a;unfold zx;dsimp only;rw[ac Y,ae Y,rC Y]
def aq.view(c:aq P f args U v U1)(h:∀{b a:Ren} {w d:World} {u:Value},cu b a U U1 w d->VR a v u->VR a v' u/\cu b a U U2 w d):aq P f args U v' U2:=λb w m k i j l=>by
 let⟨e,g⟩:=c b w m k i j l;exact⟨e,g.mono λe d ⟨u,a,b,hu,g⟩=>let q:=h g hu;⟨u,a,b,q.1,q.2⟩⟩
def VR.cell{c:Ren}{d:L AV}{u:Value}{a l:AV}(h:VR c (.g d) u)(p:d[i]?=some a)(k:∀u,VR c a u->VR c l u):VR c (.g (d.set i l)) u:=by
 obtain⟨q,rfl,e,m⟩:=rP.1 h;refine rP.2 ⟨q,R,VL.iff.2 ⟨by rw[jk];exact e.len,λj x b=>?_⟩,m⟩;rw[N8] at b;split at b
 .rename_i g;subst g;split at b<;>cases b;let⟨u,n,o⟩:=e.get p;exact⟨u,n,k u o⟩
 .exact e.get b
def VR.cap{a:Ren}{u:Value}:VR a (.a b j r (.B s)) u↔VR a (.a b j r (.s s)) u:=by
 rw[iE,iE];rfl
def aq.share{a:L AV}(c:aq P f args U (.g a) U1)(d:a[i]?=some (.a b j r (.B s))):aq P f args U (.g (a.set i (.a b j r (.s s)))) U1:=c.view λe a=>⟨a.cell d λ_=>VR.cap.1,e⟩
def aq.rest{a:L AV}(c:aq P f args U (.t [.g a,x]) U1)(e:a[i]?=some (.a b j r (.s s)))(h:U2=U1\/∃l,U1.f b=.gM l/\U2=U1.put b (.E true l)):aq P f args U (.t [.g (a.set i (.a b j r (.B s))),x]) U2:=c.view λ{a a w a u} a d=>by
 obtain⟨m,rfl,g⟩:=Ad.1 d;unfold VL at g;obtain⟨d,d,rfl,d,k⟩:=g;refine⟨Ad.2 ⟨_,R,VL.cons (d.cell e λ_=>VR.cap.2) k⟩,?_⟩;rcases h with rfl|⟨l,l,rfl⟩
 .exact a
 .obtain⟨m,rfl,k,_⟩:=rP.1 d;let⟨z,_,d⟩:=k.get e;let⟨B,o,_,_,_,e,_⟩:=iE.1 d;exact a.M (.calm a.hr e (.inr l))
open Go.ChangeShapes Go.WideShapes in
def ajr{c:Type}{a:TypeId×Value->c}{w:World}(j:laidOutB P=true){t:TypeId}(k:P.readableRec t=true)(b:t<P.types.size){e:World}{i:Nat->Bool}{v:Value}{d:DataW c}{c:L MemPlace}(h:DataW.Trod a P w 0 (λ_=>true) true t v d c)(g:Kept w e)
  (l:∀p∈c,i p.block=true):DataW.Trod a P e 0 i true t v d c:=by
 refine Go.WideElems.Trod_stays j k b h (λp d=>?_) l;let⟨n,b⟩:=h;have c:=DataW.trod_lt n _ _ _ b p d;cases p with
 |cell b off=>
  show e.cell? ⟨b,off,none⟩=w.cell? ⟨b,off,none⟩;unfold World.cell?;dsimp only;rw[g.2.1 b c]
 |map b=>exact g.2.1 b c
end
variable {d:HN}
section
section
variable {P:Program}
def Jg:Cp->Cp->Bool
 |.k a,.k b=>a==b
 |.B a,.B b=>a==b
 |.s a,.s b=>a==b
 |_,_=>false
def HC:AV->AV->Bool
 |.l a,.l b=>a==b
 |.i k a,.i c b=>iT k c&&a==b
 |.s a b,.s c d=>a==c&&b==d
 |.r,.r=>true
 |.p a b,.p c d=>a==c&&b==d
 |.e,.e=>true
 |.d,.d=>true
 |.c,.c=>true
 |.map a,.map b=>a==b
 |.a a b c d,.a e f g h=>a==e&&b==f&&c==g&&Jg d h
 |_,_=>false
def AN:L AV->L AV->Bool
 |[],[]=>true
 |a::l,b::m=>HC a b&&AN l m
 |_,_=>false
def Ib:AV->AV->Bool
 |.g l,.g m=>AN l m
 |.t l,.t m=>AN l m
 |.func f a b,.func g c d=>f==g&&(AN a c&&AN b d)
 |a,b=>HC a b
theorem abo{a b:Cp}(h:Jg a b=true):a=b:=by cases a<;>cases b<;>simp_all [Jg]
theorem XY{a b:AV}(h:HC a b=true):a=b:=by
 cases a<;>cases b<;>simp only[HC,ss,zX,ou,reduceCtorEq,xA] at h<;>simp_all
 .exact abo h.2
theorem C8:∀{l m:L AV},AN l m=true->l=m
 |[],[],_=>rfl
 |a::l,b::m,h=>by
  let⟨a,b⟩:=iY.1 h;rw[XY a,C8 b]
theorem ajH{a b:AV}(h:Ib a b=true):a=b:=by
 unfold Ib at h;split at h
 .rw[C8 h]
 .rw[C8 h]
 .let⟨d,c⟩:=iY.1 h;let⟨c,e⟩:=iY.1 c;rw[C8 c,C8 e,zX.1 d]
 .exact XY h
abbrev IH:=FuncId->L AV->HN->Option (AV×HN)
abbrev EN:=FN->HN->Option (Ex×FN×HN)
section
variable (P)(C:IH)
def xR(r:aZ)(a:HN):Option (AV×HN):=match r with|.no=>none|.ok v U'=>some (v,U')|.call f args=>C f args a
def GW(r:aZ)(a:HN):Option (AV×HN):=match r with|.ok v U'=>some (v,U')|_=>none
def Ei(a:L Oper):L Oper->FN->HN->Option (FN×HN)
 |[],b,c=>some (b,c)
 |o::r,b,c=>match lg a o.guard b with
  |true=>(match xR C (bE P o.op b c) c with|some (v,U')=>Ei a r (be o.dst v b) U'|none=>none)
  |false=>Ei a r (be o.dst bp b) c
def MJ(r:kw):L HN->Nat->Bool
 |[],_=>true
 |U::a,k=>(!(Nat.ble r.lo k&&Nat.ble k r.h)||(match bE P r.o r.O U with|.ok v _=>Ib v r.v|_=>false))&&MJ r a (k-1)
def MI(a:L HN)(k:Nat):L kw->Bool
 |[]=>true
 |r::b=>MJ P r a k&&MI a k b
def vJ(b:L Oper)(c:Nat):L DK->L Oper->Nat->FN->HN->L HN->L kw->Option (FN×HN)
 |[],[],_,e,d,a,f=>if MI P a (N a-1) f then some (e,d) else none
 |k::g,o::r,j,e,d,a,f=>match lg b o.guard e with
  |true=>(match k with
   |.alloc=>(match GW (bE P o.op e (d.at_ (c+j))) d with|some (v,U')=>vJ b c g r (j+1) (be o.dst v e) (U'.at_ d.h) a f|none=>none)
   |.az=>(match xR C (bE P o.op e d) d with|some (v,U')=>vJ b c g r (j+1) (be o.dst v e) U' (U'::a) f|none=>none)
   |.p=>(match GW (bE P o.op e d) d with|some (v,U')=>vJ b c g r (j+1) (be o.dst v e) U' a f|none=>none)
   |.read i h=>(match GW (bE P o.op e d) d with|some (v,U')=>vJ b c g r (j+1) (be o.dst v e) U' a (⟨o.op,e,v,i,h⟩::f)|none=>none))
  |false=>vJ b c g r (j+1) (be o.dst bp e) d (yy k d a) f
 |_,_,_,_,_,_,_=>none
def GO(r:Option (FN×HN)):Option (Ex×FN×HN):=match r with|some (b,a)=>some (.normal,b,a)|none=>none
def GC(w:EN):Nat->EN
 |0=>λ_ _=>none
 |m+1=>λb a=>match w b a with|some (.normal,a,U')=>GC w m a U'|r=>r
def xC(PT:bW)(n:Nat):Code->EN
 |.skip=>λe d=>some (.normal,e,d)
 |.region _ ops false=>λe d=>GO (Ei P C ops.toList ops.toList e d)
 |.region id ops true=>λe d=>GO (vJ P C ops.toList d.h (PT id) ops.toList 0 e (d.at_ (if nu (PT id) then d.h+N ops.toList else d.h)) [d.at_ (if nu (PT id) then d.h+N ops.toList else d.h)] [])
 |.seq a b=>λe d=>match xC PT n a e d with|some (.normal,f,U')=>xC PT n b f U'|r=>r
 |.cond c a b=>λe d=>match au e c with|.l true=>xC PT n a e d|.l false=>xC PT n b e d|_=>none
 |.block i b=>λe d=>match xC PT n b e d with|some (.exit j,f,U')=>if j=i then some (.normal,f,U') else some (.exit j,f,U')|r=>r
 |.loop b=>GC (xC PT n b) n
 |.exit i=>λe d=>some (.exit i,e,d)
 |.ret=>λe d=>some (.ret,e,d)
 |_=>λ_ _=>none
end
def QX(P:Program)(a:L Oper)(b:L Nat):L Oper->Nat->L DK
 |[],_=>[]
 |o::r,j=>uV P a b j o::QX P a b r (j+1)
def wX(P:Program):Code->L (Nat×L DK)
 |.region id ops true=>[(id,QX P ops.toList (kR ops.toList) ops.toList 0)]
 |.seq a b=>wX P a++wX P b
 |.cond _ a b=>wX P a++wX P b
 |.block _ b=>wX P b
 |.loop b=>wX P b
 |_=>[]
def Kz(l:L (Nat×L DK))(i:Nat):L DK:=match l with|[]=>[]|a::r=>if a.1=i then a.2 else Kz r i
def xF(P:Program):Nat->IH
 |0=>λ_ _ _=>none
 |n+1=>λf a b=>match P.funcs[f]? with
  |some fn=>(match fn.body with
   |some c=>if CO P (Kz (wX P c)) fn&&Nat.ble (N a) fn.ntmps then
    (match xC P (xF P n) (Kz (wX P c)) n c (ye a) b with
     |some (.exit _,_,_)=>none
     |some (_,a,U')=>(match lC P fn.results.toList a U' with|some l=>some (vy l,U')|none=>none)
     |none=>none) else none
   |none=>none)
  |none=>none
variable {C:IH}(hc:∀f args U v U',C f args U=some (v,U')->aq P f args U v U')
include hc
omit hc in
theorem Zv{S:Spec}(hc:∀f a d v U',C f a d=some (v,U')->S f a d v U'){r:aZ}{U':HN}{v:AV}{b:Option Nat}{k:FN->HN->Prop}{e:FN}(h:xR C r d=some (v,U'))(c:k (be b v e) U'):mY S r d b k e:=by
 cases r with
 |no=>cases h
 |ok g b=>cases h;exact c
 |call f a=>exact⟨v,U',hc _ _ _ _ _ h,c⟩
theorem NK{a:L Oper}{b:FN}{U':HN}{K:FN->HN->Prop}(f:K b U'):∀{l:L Oper} {d:FN} {c:HN},Ei P C a l d c=some (b,U')->wpOps P (aq P) a l K d c
 |[],d,c,h=>by cases h;exact f
 |o::r,d,c,h=>by
  unfold Ei at h;unfold wpOps;split at h
  .rename_i g;split at h
   .rename_i v i e;rw[g];exact Zv hc e (NK f h)
   .cases h
  .rename_i g;rw[g];exact NK f h
omit hc in
theorem X0{r:kw}:∀{c:L HN} {k:Nat},MJ P r c k=true->tf P r c k
 |[],_,_=>trivial
 |U::c,k,h=>by
  let⟨d,f⟩:=iY.1 h;refine⟨λa b=>?_,X0 f⟩;rw[gP.2 a,gP.2 b] at d;have d:(match bE P r.o r.O U with|.ok v _=>Ib v r.v|_=>false)=true:=d;split at d
  .rename_i v _ e;rw[e];exact ajH d
  .cases d
omit hc in
theorem Ya{a:L HN}{k:Nat}:∀{b:L kw},MI P a k b=true->zo P a k b
 |[],_=>trivial
 |_::_,h=>⟨X0 (iY.1 h).1,Ya (iY.1 h).2⟩
omit hc in
theorem LR{r:aZ}{U':HN}{v:AV}(h:GW r d=some (v,U')):r=.ok v U':=by cases r<;>cases h<;>rfl
theorem BK{c:L Oper}{d:Nat}{f:FN}{U':HN}{K:FN->HN->Prop}(b:K f U'):∀{q:L DK} {l:L Oper} {j:Nat} {m:FN} {i:HN} {a:L HN} {g:L kw},vJ P C c d q l j m i a g=some (f,U')->dX P (aq P) c K d q l j m i a g
 |[],[],j,m,i,a,g,h=>by
  unfold vJ at h;split at h
  .rename_i s;cases h;exact⟨Ya s,b⟩
  .cases h
 |[],_::_,_,_,_,_,_,h=>by cases h
 |_::_,[],_,_,_,_,_,h=>by cases h
 |k::q,o::r,j,m,i,a,g,h=>by
  unfold vJ at h;unfold dX;split at h
  .rename_i p;rw[p];cases k<;>dsimp only at h|-<;>split at h<;>first|cases h;done|skip
   all_goals rename_i v t e
   .rw[LR e];exact BK b h
   .exact Zv (λ_ _ _ _ _ h=>.inl (hc _ _ _ _ _ h)) e (BK b h)
   .rw[LR e];exact BK b h
   .rw[LR e];exact BK b h
  .rename_i p;rw[p];exact BK b h
omit hc in
theorem UD{r:Option (FN×HN)}{e:Ex}{a:FN}(h:GO r=some (e,a,d)):e=.normal/\r=some (a,d):=by
 unfold GO at h;split at h<;>cases h;exact dy
variable {PT:bW}{n:Nat}
theorem TC{b:Code}{w:EN}(g:∀{d c e a U'},w d c=some (e,a,U')->∀K:jn,K e a U'->dQ P (aq P) PT b K d c){e:Ex}{a:FN}{U':HN}{K:jn}(f:K e a U'):∀{m:Nat} {d:FN} {c:HN},GC w m d c=some (e,a,U')->sP (dQ P (aq P) PT b) m K d c
 |0,_,_,h=>by cases h
 |m+1,d,c,h=>by
  unfold GC at h;split at h
  .rename_i q;exact g q _ (TC g f h)
  .rename_i q;refine g h _ ?_;cases e with
   |normal=>exact(q _ _ h).elim
   |exit i=>exact f
   |ret=>exact f
theorem ajY:∀(c:Code) {l:FN} {k:HN} {e:Ex} {g:FN} {U':HN},xC P C PT n c l k=some (e,g,U')->∀K:jn,K e g U'->dQ P (aq P) PT c K l k:=by
 intro c
 induction c with
 |skip=>intro l k e g U' h K f;cases h;exact f
 |region id ops d=>
  intro l k e g U' h K f;cases d
  .obtain⟨rfl,t⟩:=UD h;exact NK hc f t
  .obtain⟨rfl,t⟩:=UD h;exact BK hc f t
 |seq a b m o=>
  intro l k e g U' h K f;unfold xC at h;split at h
  .rename_i q;exact m q _ (o h K f)
  .rename_i q;refine m h _ ?_;cases e with
   |normal=>exact(q _ _ h).elim
   |exit i=>exact f
   |ret=>exact f
 |cond c a b m o=>
  intro l k e g U' h K f;unfold xC at h;unfold dQ tM;split at h
  .rename_i q;rw[q];exact m h K f
  .rename_i q;rw[q];exact o h K f
  .cases h
 |block i b s=>
  intro l k e g U' h K f;unfold xC at h;split at h
  .rename_i j r p q;refine s q _ ?_
   show(if j=i then K .normal r p else K (.exit j) r p)
   split at h<;>cases h
   .rw[ae (by assumption)];exact f
   .rw[ac (by assumption)];exact f
  .rename_i q;refine s h _ ?_;cases e with
   |normal=>exact f
   |exit i=>exact(q _ _ _ h).elim
   |ret=>exact f
 |loop b s=>intro l k e g U' h K f;exact⟨n,TC hc (λh K f=>s h K f) f h⟩
 |exit i=>intro l k e g U' h K f;cases h;exact f
 |ret=>intro l k e g U' h K f;cases h;exact f
 |_=>intro l k e g U' h;cases h
omit hc in
theorem Zu(g:P.follows .mixedOrders=true):∀(n:Nat) (f:FuncId) (a:L AV) (d:HN) (v:AV) (U':HN),xF P n f a d=some (v,U')->aq P f a d v U'
 |0,_,_,_,_,_,h=>by cases h
 |n+1,f,a,d,v,U',h=>by
  unfold xF at h;split at h
  .rename_i t k;split at h
   .rename_i c j;split at h
    .rename_i o;let⟨m,o2⟩:=iY.1 o;obtain⟨_,_,c,rfl,rfl⟩:=P1 (g:=λr b=>r=v/\b=U') g k j m o2 (by
      split at h
      .cases h
      .rename_i e s b p q2;refine ajY (Zu g n) _ q2 _ ?_;split at h
       .rename_i l q;cases h;cases e with
        |exit i=>exact(p i R).elim
        |_=>unfold Mv Bm;dsimp only;rw[q];exact dy
       .cases h
      .cases h)
     exact c
    .cases h
   .cases h
  .cases h
end
theorem blind{P:Program}(D:P.follows .mixedOrders=true){i n:Nat}(t:P.globals.size<=i){f:FuncId}(h:(match xF P n f [] ⟨i,λ_=>.none⟩ with|some (.l true,_)=>true|_=>false)=true):aq P f [] d (.l true) d:=λs w I m z W p=>by
 split at h
 .rename_i U' e;have c:=Zu D n f _ _ _ _ e (λb=>if b<i then s b else none) w I ⟨λ_ _ _ _ _=>trivial,λ_ _ _ _ _ _ _ _ _ h=>h.elim⟩ (λg a=>let ⟨M,q⟩:=z g a;⟨M,(ae (cW a t)).t q⟩) ⟨λb x=>ac (On.2 x),λ_ _=>R⟩ (by unfold VL at p|-;exact p);refine⟨c.1,c.2.mono λe K ⟨u,V,y,hu,k⟩=>⟨u,s,y,mK.2 (mK.1 hu),?_⟩⟩;have r:∀B,B<w.heap.size->K.heap[B]?=w.heap[B]?:=λB j=>k.aR B j λ⟨_,_,_,_,q⟩=>q;refine{le:=λ_ _ h=>h,hr:=⟨λb B o M e=>?_,m.inj⟩,kJ:=λb B o M e h=>.inr ⟨b,o,M,e,h⟩,ro:=λb B o M e l h=>.inl ⟨e,l,h⟩,size:=k.size,aR:=λB j _=>r B j,K:=k.K,X:=λ_ _ h=>.inl h,h:=ak _,F:=id,dd:=λ_ _ h=>h,um:=λ_ _ _=>rfl};have q:=m.bT b B o M e;cases F:d.f b with
  |none=>trivial
  |_=>rw[F] at q;exact q.mono (λ_ _ h=>h) (r B (q.lt trivial))
 .cases h
end
def Ix(a b:Prop):Prop:=a↔b
def inv(J:Nat->FN->HN->Prop):∃I:Nat->FN->HN->Prop,∀m b a,Ix (I m b a) (J m b a):=⟨J,λ_ _ _=>gZ⟩
def jH(J:FN->HN->Prop):∃I:FN->HN->Prop,∀b a,Ix (I b a) (J b a):=⟨J,λ_ _=>gZ⟩
def SME{p q:Prop}(h:p)(e:q=p:=by simp(disch:=omega)only[go_sem,sV,fp,ft,bF,eI,gv, *];rfl):q:=e▸h
end
section
def S0{p q:Prop}(h:q)(j:p=q:=by simp(disch:=omega)only[go_sem,fp,ft,bF,eI,gv];rfl):p:=j▸h
def S1{a p q:Prop}(x:a)(h:q)(j:a->p=q:=by intro x;simp(disch:=omega)only[go_sem,fp,ft,bF,eI,gv,x];rfl):p:=j x▸h
def S2{a b p q:Prop}(x:a)(y:b)(h:q)(j:a->b->p=q:=by intro x y;simp(disch:=omega)only[go_sem,fp,ft,bF,eI,gv,x,y];rfl):p:=j x y▸h
def S3{a b c p q:Prop}(x:a)(y:b)(z:c)(h:q)(j:a->b->c->p=q:=by intro x y z;simp(disch:=omega)only[go_sem,fp,ft,bF,eI,gv,x,y,z];rfl):p:=j x y z▸h
def S4{a b c d p q:Prop}(x:a)(y:b)(z:c)(u:d)(h:q)(j:a->b->c->d->p=q:=by intro x y z u;simp(disch:=omega)only[go_sem,fp,ft,bF,eI,gv,x,y,z,u];rfl):p:=j x y z u▸h
def S5{a b c d e p q:Prop}(x:a)(y:b)(z:c)(u:d)(v:e)(h:q)(j:a->b->c->d->e->p=q:=by intro x y z u v;simp(disch:=omega)only[go_sem,fp,ft,bF,eI,gv,x,y,z,u,v];rfl):p:=j x y z u v▸h
def S6{a b c d e f p q:Prop}(x:a)(y:b)(z:c)(u:d)(v:e)(w:f)(h:q)(j:a->b->c->d->e->f->p=q:=by intro x y z u v w;simp(disch:=omega)only[go_sem,fp,ft,bF,eI,gv,x,y,z,u,v,w];rfl):p:=j x y z u v w▸h
def S7{a b c d e f g p q:Prop}(x:a)(y:b)(z:c)(u:d)(v:e)(w:f)(s:g)(h:q)(j:a->b->c->d->e->f->g->p=q:=by intro x y z u v w s;simp(disch:=omega)only[go_sem,fp,ft,bF,eI,gv,x,y,z,u,v,w,s];rfl):p:=j x y z u v w s▸h
def S8{a b c d e f g k p q:Prop}(x:a)(y:b)(z:c)(u:d)(v:e)(w:f)(s:g)(t:k)(h:q)(j:a->b->c->d->e->f->g->k->p=q:=by intro x y z u v w s t;simp(disch:=omega)only[go_sem,fp,ft,bF,eI,gv,x,y,z,u,v,w,s,t];rfl):p:=j x y z u v w s t▸h
def S9{a b c d e f g k i p q:Prop}(x:a)(y:b)(z:c)(u:d)(v:e)(w:f)(s:g)(t:k)(m:i)(h:q)(j:a->b->c->d->e->f->g->k->i->p=q:=by intro x y z u v w s t m;simp(disch:=omega)only[go_sem,fp,ft,bF,eI,gv,x,y,z,u,v,w,s,t,m];rfl):p:=j x y z u v w s t m▸h
def yH{a b c d e f g k i l p q:Prop}(x:a)(y:b)(z:c)(u:d)(v:e)(w:f)(s:g)(t:k)(m:i)(n:l)(h:q)(j:a->b->c->d->e->f->g->k->i->l->p=q:=by intro x y z u v w s t m n;simp(disch:=omega)only[go_sem,fp,ft,bF,eI,gv,x,y,z,u,v,w,s,t,m,n];rfl):p:=j x y z u v w s t m n▸h
def S11{a b c d e f g k i l r p q:Prop}(x:a)(y:b)(z:c)(u:d)(v:e)(w:f)(s:g)(t:k)(m:i)(n:l)(o:r)(h:q)(j:a->b->c->d->e->f->g->k->i->l->r->p=q:=by intro x y z u v w s t m n o;simp(disch:=omega)only[go_sem,fp,ft,bF,eI,gv,x,y,z,u,v,w,s,t,m,n,o];rfl):p:=j x y z u v w s t m n o▸h
def S12{a b c d e f g k i l B C p q:Prop}(x:a)(y:b)(z:c)(u:d)(v:e)(w:f)(s:g)(t:k)(m:i)(n:l)(o:B)(r:C)(h:q)(j:a->b->c->d->e->f->g->k->i->l->B->C->p=q:=by intro x y z u v w s t m n o r;simp(disch:=omega)only[go_sem,fp,ft,bF,eI,gv,x,y,z,u,v,w,s,t,m,n,o,r];rfl):p:=j x y z u v w s t m n o r▸h
end
end Go.Proofs.YtehahhggpdhieaaGreatDoor
