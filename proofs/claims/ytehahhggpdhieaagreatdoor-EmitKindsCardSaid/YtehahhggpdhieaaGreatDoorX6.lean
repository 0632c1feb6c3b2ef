/- Lemmas of the walk of EmitKinds are proved. Conditions: none. -/
import Derived.Test.YtehahhggpdhieaaGreatDoorX5
namespace Go.Proofs.YtehahhggpdhieaaGreatDoor
set_option maxRecDepth 100000
set_option maxHeartbeats 32000000
set_option linter.all false
section
variable {h i s:Nat}
section
section
variable {P:Program}{C:Spec}{PT:bW}{O:FN}{U:HN}{K:jn}
noncomputable def Kj(O:FN)(e:Nat->Option (Nat×Nat))(r:L (Nat×Operand))(c:L AV)(p:Option (Nat×Nat))(l:Option (L AV)):Option (L AV):=match p,l with
 |some (o,s),some l=>if N l=s/\o+s<=N c then qW O e r (dz c o l) else none
 |_,_=>none
noncomputable def PH(n s:Nat)(O:FN)(c:L (Nat×Operand))(z:Option AV)(U:HN):aZ:=match z with|some z=>th n (qW O (λi=>some (i*s,s)) c (jU n (jc z))) U|none=>.no
noncomputable def Ly(y a c:Nat)(z:Option AV)(e f:Bool)(U:HN):aZ:=match z with
 |some z=>if e then(if f then(if a<=c/\y≠0/\c*y<=140737488355328 then .ok (.a U.h 0 a (.k c)) (U.X (.E false (jU c (jc z)))) else .no) else .no) else .no
 |none=>.no
noncomputable def I5(s y:Nat)(x z:AV)(w:Option AV)(U:HN):aZ:=match w with|some _=>gj s y x z U|none=>.no
@[go_sem] def al5:(∀x,bE P (.move x) O U=.ok (au O x) U)/\(∀x,bE P (.assign x) O U=.ok (au O x) U)/\(∀c a b,bE P (.pick c a b) O U=wW (au O c) (au O a) (au O b) U):=by and_intros<;>intros<;>rfl
@[go_sem] def alJ{t:TypeId}:bE P (.alloc t) O U=sQ ((cr P t).map jc) U:=(rfl)
@[go_sem] def alM{t:TypeId}{x:Operand}:bE P (.box t x) O U=sQ (dZ (au O x)) U:=(rfl)
@[go_sem] def alN{t:TypeId}{c:L (Nat×Operand)}:bE P (.build t ⟨c⟩) O U=wg (av P t) (cr P t) O c U:=(rfl)
@[go_sem] def alO{t:TypeId}{n:Nat}{c:L (Nat×Operand)}:bE P (.buildSlice t n ⟨c⟩) O U=wi P (av P t) n O c U:=(rfl)
@[go_sem] def alY{t:TypeId}{x:Operand}:bE P (.load t x) O U=sM (bS P t) (au O x) U:=(rfl)
@[go_sem] def al9{t:TypeId}{x v:Operand}:bE P (.store t x v) O U=Bs (bS P t) (au O x) (au O v) U:=(rfl)
@[go_sem] def al6{x:Operand}:bE P (.nilCheck x) O U=y0 (au O x) U:=(rfl)
@[go_sem] def alL{op:BinOp}{t:TypeId}{x y:Operand}{c:TypeId}:bE P (.binOp op t x y c) O U=ia (uN P op t (AL x||AL y) (au O x) (au O y)) U:=(rfl)
@[go_sem] def ama{op:UnOp}{t:TypeId}{x:Operand}:bE P (.unOp op t x) O U=ia (BF op (au O x)) U:=(rfl)
@[go_sem] def alR{s d:TypeId}{x:Operand}(h:@Ne Nat s d):bE P (.convert s d x) O U=oh P (av P s) (av P d) (au O x) U:=by show(if s=d then _ else _)=_;rw[ac h]
@[go_sem] def al0{e:Fn}{a c:L Operand}:bE P (.makeFunc e ⟨a⟩ ⟨c⟩) O U=yW e (a.map (au O)) (c.map (au O)) U:=(rfl)
@[go_sem] def al2{t:TypeId}{l c:Operand}:bE P (.makeSlice t l c) O U=vk P (av P t) (au O l) (au O c) U:=(rfl)
@[go_sem] def al7{t:TypeId}{x:Operand}{e c:Option Operand}:bE P (.slice t x e c none) O U=mV (av P t) (au O x) (pP O e) (pP O c) none U:=by cases c<;>rfl
@[go_sem] def alU{t:TypeId}{x:Operand}{f:Nat}:bE P (.fieldAddr t x f) O U=yI (qV (av P t) f) (au O x) U:=(rfl)
@[go_sem] def alT{t:TypeId}{x:Operand}{f:Nat}:bE P (.field t x f) O U=yJ (qV (av P t) f) (au O x) U:=(rfl)
@[go_sem] def alW{t:TypeId}{x i:Operand}:bE P (.indexAddr t x i) O U=wE (av P t) (au O x) (au O i) U:=(rfl)
@[go_sem] def alV{t:TypeId}{x i:Operand}:bE P (.index t x i) O U=yN (av P t) (au O x) (au O i) U:=(rfl)
@[go_sem] def alS:(∀x i,bE P (.extract x i) O U=yA (au O x) i U)/\(∀f as c,bE P (.call ⟨.value f,⟨as⟩,c⟩) O U=AC (au O f) (as.map (au O))):=by and_intros<;>intros<;>rfl
@[go_sem] def alX{x:Operand}{t:TypeId}{c:L TypeId}:bE P (.call ⟨.builtin .len,⟨[x]⟩,⟨t::c⟩⟩) O U=eF (av P t) (au O x) U:=(rfl)
@[go_sem] def alP{x:Operand}{t:TypeId}{c:L TypeId}:bE P (.call ⟨.builtin .cap,⟨[x]⟩,⟨t::c⟩⟩) O U=yt (av P t) (au O x) U:=(rfl)
@[go_sem] def alK{x y:Operand}{t c:TypeId}{e:L TypeId}:bE P (.call ⟨.builtin .append,⟨[x,y]⟩,⟨t::c::e⟩⟩) O U=yc P (av P t) (av P c) (au O x) (au O y) U:=(rfl)
noncomputable def Qf(o:Option AV)(s b e c:Nat)(U:HN):aZ:=match o with|some z=>if c=0 then .ok bp U else Am s b e c (jU c (jc z)) (U.f b) U|none=>.no
@[go_sem] def alQ{x:Operand}{t:TypeId}{c:L TypeId}:bE P (.call ⟨.builtin .clear,⟨[x]⟩,⟨t::c⟩⟩) O U=An P (av P t) (au O x) U:=(rfl)
@[go_sem] def aki{h w b e c:Nat}{f:Cp}:An P (.a h s w) (.a b e c f) U=Qf (cr P h) s b e c U:=(rfl)
@[go_sem] def akj{z:AV}{b e c:Nat}:Qf (some z) s b e c U=if c=0 then .ok bp U else Am s b e c (jU c (jc z)) (U.f b) U:=(rfl)
@[go_sem] def al4{x y:Operand}{t c:TypeId}{e:L TypeId}:bE P (.call ⟨.builtin .min,⟨[x,y]⟩,⟨t::c::e⟩⟩) O U=ia (yV (au O x) (au O y)) U:=(rfl)
@[go_sem] def amb:(([]:L Operand).map (au O)=[])/\(∀x l,(x::l).map (au O)=au O x::l.map (au O))/\(pP O none=none)/\(∀x,pP O (some x)=some (au O x)):=by and_intros<;>intros<;>rfl
@[go_sem] def akR:(∀f a c e,AC (.func f a c) e=.call f (a++(e++c)))/\(∀b,dZ (.l b)=some [.l b])/\(∀b,jc (.l b)=[.l b])/\(∀k n,dZ (.i k n)=some [.i k n])/\(∀k n,jc (.i k n)=[.i k n])/\(∀n v,dZ (.s n v)=some [.s n v])/\(∀n v,jc (.s n v)=[.s n v])/\(jc (.r)=[.r])/\(∀b o,dZ (.p b o)=some [.p b o])/\(dZ (.e)=some [.e])/\(jc (.e)=[.e])/\(∀b o n c,dZ (.a b o n c)=some [.a b o n c])/\(∀b,dZ (.map b)=some [.map b])/\(jc (.c)=[.c])/\(∀l,dZ (.g l)=some l)/\(∀l,jc (.g l)=l)/\(∀l i,dz l i []=l):=by and_intros<;>intros<;>rfl
@[go_sem] def alH{v:AV}:ia (some v) U=.ok v U:=(rfl)
@[go_sem] def zs{l:L AV}{a:AV}:dz l i [a]=l.set i a:=(rfl)
@[go_sem] def alD:(∀l,sQ (some l) U=.ok (.p U.h 0) (U.X (.E false l)))/\(∀s y e b c,sM (some (s,y,e)) (.p b c) U=yP e s c (U.f b) U)/\(∀s c f l,yP false s c (.E f l) U=ia l[c]? U)/\(∀s c f l,yP true s c (.E f l) U=if c+s<=N l then .ok (.g ((l.drop c).take s)) U else .no)/\(∀s y e b c v,Bs (some (s,y,e)) (.p b c) v U=HQ s b c (dZ v) (U.f b) U)/\(∀s b c e l,HQ s b c (some e) (.E false l) U=if N e=s/\c+s<=N l then .ok bp (U.put b (.E false (dz l c e))) else .no)/\(∀b o,y0 (.p b o) U=.ok (.p b o) U)/\(∀f e,yJ (some f) (.g e) U=ia (rY f.g f.size e f.o) U)/\(∀f h o s e b c,yI (some ⟨f,h,o,s,e⟩) (.p b c) U=if s=0 then .no else .ok (.p b (c+o)) U):=by and_intros<;>intros<;>rfl
@[go_sem] def akM:(∀c f,qV (.t c) f=c[f]?)/\(∀s e c,rY false s e c=e[c]?):=by and_intros<;>intros<;>rfl
@[go_sem] def aex{c:IntKind}{a:Nat}{k:Nat->aZ}:mm (.i c a) k=if cT c a then k a else .no:=(rfl)
@[go_sem] def akZ:(∀e s y b c h i f a,wE (.a e s y) (.a b c h i) (.i f a) U=if cT f a then(if a<h then .ok (.p b (c+a*s)) U else .no) else .no)/\(∀n e s b c h f a,wE (.y n e s h) (.p b c) (.i f a) U=if cT f a then(if a<n then .ok (.p b (c+a*s)) U else .no) else .no)/\(∀n v f a,yN .s (.s n v) (.i f a) U=if cT f a then(if a<n then .ok (.i .u8 (qC v a)) U else .no) else .no)/\(∀l i,yA (.t l) i U=ia l[i]? U)/\(∀l,xY (some l) U=.ok (.g l) U)/\(∀n l,th n (some l) U=.ok (.a U.h 0 n (.k n)) (U.X (.E false l))):=by and_intros<;>intros<;>rfl
@[go_sem] def akb{c:L FD}{z:AV}{e:L (Nat×Operand)}:wg (.t c) (some z) O e U=xY (qW O (fieldPlace c) e (jc z)) U:=(rfl)
@[go_sem] def akQ{e:Nat->Option (Nat×Nat)}{c:L AV}:qW O e [] c=some c:=(rfl)
@[go_sem] def akP{c:Nat->Option (Nat×Nat)}{x:Operand}{r:L (Nat×Operand)}{e:L AV}:qW O c ((i,x)::r) e=Kj O c r e (c i) (dZ (au O x)):=by show(match c i,dZ (au O x) with|some (o,s),some l=>_|_,_=>_)=_;unfold Kj;rfl
@[go_sem] def akO{e:Nat->Option (Nat×Nat)}{o:Nat}{l:L AV}{r:L (Nat×Operand)}{c:L AV}:Kj O e r c (some (o,s)) (some l)=if N l=s/\o+s<=N c then qW O e r (dz c o l) else none:=(rfl)
@[go_sem] def akN{c:L FD}:fieldPlace c i=(c[i]?).map λf=>(f.o,f.size):=by unfold fieldPlace;cases c[i]?<;>rfl
@[go_sem] def akc{c y:Nat}:wi P (.a c s y) 0 O [] U=.ok (.a U.h 0 0 (.k 0)) (U.X (.E false [])):=by show(if 0*s=0 then _ else _)=_;rw[ae (lq s)];rfl
@[go_sem] def akd{c y n:Nat}{p:Nat×Operand}{e:L (Nat×Operand)}:wi P (.a c s y) n O (p::e) U=if n*s=0 then .no else if n*s<=16777216 then PH n s O (p::e) (cr P c) U else .no:=(rfl)
@[go_sem] def ake{n:Nat}{c:L (Nat×Operand)}{z:AV}:PH n s O c (some z) U=th n (qW O (λi=>some (i*s,s)) c (jU n (jc z))) U:=(rfl)
@[go_sem] def ani{n:Nat}{z:AV}:jU n [z]=List.replicate n z:=by unfold jU;induction n with|zero=>rfl|succ n c=>grind
@[go_sem] def alw{f y:Nat}{h e:IntKind}{a c:Nat}:vk P (.a f s y) (.i h a) (.i e c) U=Ly y a c (cr P f) (cT h a) (cT e c) U:=by show(match cr P f with|some z=>_|none=>_)=_;unfold Ly;cases cr P f<;>rfl
@[go_sem] def alx:(∀y a c z,Ly y a c (some z) true true U=if a<=c/\y≠0/\c*y<=140737488355328 then .ok (.a U.h 0 a (.k c)) (U.X (.E false (jU c (jc z)))) else .no)/\(∀b e l f c s,sq b e l f c s U=if c=l then .ok (.a b e 0 (.k 0)) U else .ok (.a b (e+l*s) (f-l) (.k (c-l))) U)/\(∀n v h c,mV .s (.s n v) h c none U=mO h c n n λl f=>.ok (.s (f-l) (uu v l (f-l))) U)/\(∀e s y h c,mV (.a e s y) .e h c none U=mO h c 0 0 λ_ _=>.ok .e U):=by and_intros<;>intros<;>rfl
@[go_sem] def akf:(∀d k,tH none d k=k d)/\(∀c a d k,tH (some (.i c a)) d k=if cT c a then k a else .no)/\(∀h f c e k,mO h f c e k=tH h 0 λl=>tH f c λc=>if l<=c/\c<=e then k l c else .no):=by and_intros<;>intros<;>rfl
@[go_sem] def aiP{e y b h f c:Nat}{m i:Option AV}:mV (.a e s y) (.a b h f (.k c)) m i none U=sn m i b h f (.k c) U (mO m i f c λl f=>sq b h l f c s U):=(rfl)
@[go_sem] def anz{x:AV}{h:Option AV}{b f e:Nat}{c:Cp}{r:aZ}:sn (some x) h b f e c U r=r:=by cases h<;>rfl
@[go_sem] def MU{h:IntKind}{a b f e:Nat}{c:Cp}{r:aZ}:sn none (some (.i h a)) b f e c U r=if cT h a then(if a<=e then .ok (.a b f a c) U else r) else .no:=(rfl)
@[go_sem] def aiS{e y b f c h:Nat}{m i:Option AV}:mV (.a e s y) (.a b f c (.B h)) m i none U=sn m i b f c (.B h) U (if h=s then mO m i c c λl c=>.ok (.a b (f+l*s) (c-l) (.B s)) U else .no):=(rfl)
@[go_sem] def aiR{e y b f c h:Nat}{l i:Option AV}:mV (.a e s y) (.a b f c (.s h)) l i none U=sn l i b f c (.s h) U .no:=(rfl)
@[go_sem] def anA{n e b c:Nat}{i:Bool}{h f:Option AV}:mV (.y n e s i) (.p b c) h f none U=mO h f n n λl f=>sq b c l f n s U:=(rfl)
@[go_sem] def afr{n v:Nat}:eF .s (.s n v) U=mr n U:=(rfl)
@[go_sem] def aln{e y:Nat}:eF (.a e s y) .e U=.ok (.i .i64 0) U:=(rfl)
@[go_sem] def ov{e y b o n:Nat}{c:Cp}:eF (.a e s y) (.a b o n c) U=mr n U:=(rfl)
@[go_sem] def nD{n:Nat}:mr n U=if n<=9223372036854775807 then .ok (.i .i64 n) U else .no:=(rfl)
@[go_sem] def ui{e:Bool}{l:L AV}{c n:Nat}:pq (.E e l) c n=if c+n<=N l then some ((l.drop c).take n) else none:=(rfl)
@[go_sem] def aaR{y b f e c n:Nat}{h:L AV}:lI s y (.a b f e (.k c)) n h U=if(e+n)*y<=140737488355328 then(if n=0 then .ok (.a b f e (.k c)) U else sH b f e s n c h (U.f b) U) else .no:=(rfl)
@[go_sem] def Pq{y b e c h n:Nat}{f:L AV}:lI s y (.a b e c (.B h)) n f U=if(c+n)*y<=140737488355328 then(if n=0 then .ok (.a b e c (.B h)) U else if h=s then we b e c s n f (U.f b) U else .no) else .no:=(rfl)
@[go_sem] def Pp{y b e c h n:Nat}{f:L AV}:lI s y (.a b e c (.s h)) n f U=if(c+n)*y<=140737488355328 then(if n=0 then .ok (.a b e c (.s h)) U else if h=s then Af b e c s n f (U.f b) U else .no) else .no:=(rfl)
def aaU{b f c n:Nat}{l e:L AV}:Af b f c s n e (.E false l) U=if f=0/\c*s=N l/\N e=n*s then .ok (.a U.h 0 (c+n) (.s s)) ((U.put b (.E true l)).X (.gM (l++e))) else .no:=R
def aaV{b f c n:Nat}{l e:L AV}:Af b f c s n e (.gM l) U=if f=0/\c*s=N l/\N e=n*s then .ok (.a U.h 0 (c+n) (.s s)) ((U.put b .none).X (.gM (l++e))) else .no:=R
def EY{b i e n c:Nat}{f:L AV}{x:BN}(h:c<e+n):sH b i e s n c f x U=xZ (e+n) s (pq x i (e*s)) f U:=ac Y
@[go_sem] def aaS{m:Nat}{e c:L AV}:xZ m s (some e) c U=.ok (.a U.h 0 m (.B s)) (U.X (.E false (e++c))):=(rfl)
@[go_sem] def I4{b e c n:Nat}{l f:L AV}:we b e c s n f (.E false l) U=if e+c*s+n*s<=N l then .ok (.a b e (c+n) (.B s)) (U.put b (.E false (dz l (e+c*s) f))) else if e+c*s=N l/\N f=n*s then .ok (.a U.h 0 (c+n) (.B s)) ((U.put b .none).X (.E false (l.drop e++f))) else if e+c*s<=N l/\N f=n*s then .ok (.a U.h 0 (c+n) (.B s)) ((U.put b .none).X (.E false ((l.drop e).take (c*s)++f))) else .no:=(rfl)
@[go_sem] def aaT{y n:Nat}{x:AV}{l:L AV}:Cq s y x n (some l) U=lI s y x n l U:=(rfl)
def oR{y b e c:Nat}{x:AV}{f:Cp}:gj s y x (.a b e c f) U=if c=0 then lI s y x 0 [] U else Cq s y x c (pq (U.f b) e (c*s)) U:=R
def Pr{y:Nat}{x:AV}:gj s y x .e U=lI s y x 0 [] U:=R
@[go_sem] def aj2{c y e f h:Nat}{x z:AV}:yc P (.a c s y) (.a e f h) x z U=if s*y=0 then .no else I5 s y x z (cr P c) U:=by show(if s*y=0 then aZ.no else _)=_;unfold I5;rfl
@[go_sem] def aj3:(∀s y x z w,I5 s y x z (some w) U=gj s y x z U)/\(∀n l,Bx n (some l) U=zD n (yp l) U)/\(∀n m,zD n (some m) U=.ok (.s n m) U)/\(∀a b,wW (.l true) a b U=.ok a U)/\(∀a b,wW (.l false) a b U=.ok b U)/\(∀f a c,yW (.func f) a c U=.ok (.func f a c) U):=by and_intros<;>intros<;>rfl
@[go_sem] def ako:(∀k c e a,oh P (.i e) (.i c) (.i k a) U=.ok (.i c (rS c k a)) U)/\(∀e s y b o l c,oh P (.a e s y) .s (.a b o l c) U=if wF (av P e) then Bx l (pq (U.f b) o l) U else .no):=by and_intros<;>intros<;>rfl
@[go_sem] def alb:wF (.i .u8)=true:=(rfl)
@[go_sem] def aj7{op:BinOp}{t:TypeId}{e:Bool}{k c:IntKind}{a b:Nat}:uN P op t e (.i k a) (.i c b)=oi op k a c b:=(rfl)
@[go_sem] def aka{op:BinOp}{t:TypeId}{c:Bool}{n v m w:Nat}:uN P op t c (.s n v) (.s m w)=zC op n v m w:=(rfl)
@[go_sem] def aj8{op:BinOp}{t:TypeId}{c:Bool}{y:AV}:uN P op t c (.e) y=pJ P op t c (.e) y:=(rfl)
@[go_sem] def aj9{op:BinOp}{t:TypeId}{e:Bool}{b o n:Nat}{c:Cp}{y:AV}:uN P op t e (.a b o n c) y=pJ P op t e (.a b o n c) y:=(rfl)
@[go_sem] def aj6{op:BinOp}{t:TypeId}{c:Bool}{l:L AV}{y:AV}:uN P op t c (.g l) y=pJ P op t c (.g l) y:=(rfl)
@[go_sem] def ak0{k:IntKind}{a b:Nat}:oi .add k a k b=some (.i k ((a+b)%br k)):=by show(if iT k k then _ else _)=_;rw[(ou k k).2 R];rfl
@[go_sem] def ala{k:IntKind}{a b:Nat}:oi .sub k a k b=some (.i k ((a+(br k-b))%br k)):=by show(if iT k k then _ else _)=_;rw[(ou k k).2 R];rfl
@[go_sem] def ak6{k:IntKind}{a b:Nat}:oi .mul k a k b=some (.i k ((a*b)%br k)):=by show(if iT k k then _ else _)=_;rw[(ou k k).2 R];rfl
@[go_sem] def ak8{k:IntKind}{a b:Nat}:oi .quo k a k b=if b=0 then none else some (.i k (vv k a b)):=by show(if iT k k then _ else _)=_;rw[(ou k k).2 R];rfl
@[go_sem] def ak9{k:IntKind}{a b:Nat}:oi .rem k a k b=if b=0 then none else some (.i k (vx k a b)):=by show(if iT k k then _ else _)=_;rw[(ou k k).2 R];rfl
@[go_sem] def ak1{k:IntKind}{a b:Nat}:oi .eql k a k b=some (.l (de (a=b))):=by show(if iT k k then _ else _)=_;rw[(ou k k).2 R];rfl
@[go_sem] def ak7{k:IntKind}{a b:Nat}:oi .neq k a k b=some (.l (!de (a=b))):=by show(if iT k k then _ else _)=_;rw[(ou k k).2 R];rfl
@[go_sem] def ak5{k:IntKind}{a b:Nat}:oi .lss k a k b=some (.l (fU k a b)):=by show(if iT k k then _ else _)=_;rw[(ou k k).2 R];rfl
@[go_sem] def ak4{k:IntKind}{a b:Nat}:oi .leq k a k b=some (.l (!fU k b a)):=by show(if iT k k then _ else _)=_;rw[(ou k k).2 R];rfl
@[go_sem] def ak3{k:IntKind}{a b:Nat}:oi .gtr k a k b=some (.l (fU k b a)):=by show(if iT k k then _ else _)=_;rw[(ou k k).2 R];rfl
@[go_sem] def ak2{k:IntKind}{a b:Nat}:oi .geq k a k b=some (.l (!fU k a b)):=by show(if iT k k then _ else _)=_;rw[(ou k k).2 R];rfl
@[go_sem] def anP:(∀b,BF .not (.l b)=some (.l (!b)))/\(∀k a,BF .neg (.i k a)=some (.i k ((br k-a)%br k)))/\(∀n v m w,zC .eql n v m w=some (.l (aI n v m w)))/\(∀n v m w,zC .neq n v m w=some (.l (!aI n v m w)))/\(∀n v m w,zC .add n v m w=if n+m<=9223372036854775807 then some (.s (n+m) (xg n v w)) else none):=by and_intros<;>intros<;>rfl
@[go_sem] def akI{t:TypeId}{c:Bool}{x y:AV}:pJ P .eql t c x y=if vd P t c then Ah false (oU P t x y) else none:=(rfl)
@[go_sem] def akJ{t:TypeId}{c:Bool}{x y:AV}:pJ P .neq t c x y=if vd P t c then Ah true (oU P t x y) else none:=(rfl)
@[go_sem] def akg:(∀b,Ah false (some b)=some (.l b))/\(∀b,Ah true (some b)=some (.l (!b)))/\(br .i64=18446744073709551616):=by and_intros<;>intros<;>rfl
@[go_sem] def agi{a:Nat}:cT .i64 a=de (a<9223372036854775808):=by unfold cT;rw[rB,gP];simp[lM];omega
@[go_sem] def alz:(br .u8=256)/\(br .u32=4294967296):=by and_intros<;>intros<;>rfl
@[go_sem] def alF{a:Nat}:cT .u32 a=de (a<4294967296):=by unfold cT;rw[rB,gP];simp[lM];omega
@[go_sem] def aly:br .u64=18446744073709551616:=(rfl)
@[go_sem] def akS{α:Type}{x d:α}{l:L α}:(x::l).getD 0 d=x:=(rfl)
@[go_sem] def akT{α:Type}{x d:α}{l:L α}:(x::l).getD (i+1) d=l.getD i d:=(rfl)
@[go_sem] def wp_skip:dQ P C PT .skip K O U=K .normal O U:=(rfl)
@[go_sem] def wp_region{id:Nat}{c:L Oper}:dQ P C PT (.region id ⟨c⟩ false) K O U=wpOps P C c c (K .normal) O U:=(rfl)
@[go_sem] def anZ{id:Nat}{c:L Oper}:dQ P C PT (.region id ⟨c⟩ true) K O U=Bt P C (PT id) c (K .normal) O U:=(rfl)
@[go_sem] def wp_seq{a b:Code}:dQ P C PT (.seq a b) K O U=dQ P C PT a (vB (dQ P C PT b K) K) O U:=(rfl)
@[go_sem] def wp_cond{c:Operand}{a b:Code}:dQ P C PT (.cond c a b) K O U=tM (au O c) (dQ P C PT a K) (dQ P C PT b K) O U:=(rfl)
@[go_sem] def wp_block{b:Code}:dQ P C PT (.block i b) K O U=dQ P C PT b (Ct i K) O U:=(rfl)
@[go_sem] def wp_exit:dQ P C PT (.exit i) K O U=K (.exit i) O U:=(rfl)
@[go_sem] def wp_ret:dQ P C PT .ret K O U=K .ret O U:=(rfl)
@[go_sem] def anu:(∀w,vB w K .normal O U=w O U)/\(∀w i,vB w K (.exit i) O U=K (.exit i) O U)/\(∀w,vB w K .ret O U=K .ret O U)/\(∀i,Ct i K .normal O U=K .normal O U)/\(∀i j,Ct i K (.exit j) O U=if j=i then K .normal O U else K (.exit j) O U)/\(∀i,Ct i K .ret O U=K .ret O U)/\(∀I m,Hq I m K .normal O U=∃c,c<m/\I c O U)/\(∀I m i,Hq I m K (.exit i) O U=K (.exit i) O U)/\(∀I m,Hq I m K .ret O U=K .ret O U):=by and_intros<;>intros<;>rfl
@[go_sem] def akk:(∀a b,tM (.l true) a b O U=a O U)/\(∀a b,tM (.l false) a b O U=b O U):=by and_intros<;>intros<;>rfl
@[go_sem] def anY{all:L Oper}{K:FN->HN->Prop}:wpOps P C all [] K O U=K O U:=(rfl)
@[go_sem] def wpOps_cons{all r:L Oper}{K:FN->HN->Prop}{d:Option Nat}{op:Op}{t:TypeId}{pos:String}{af:Array Edge}:
 wpOps P C all (⟨d,op,t,pos,af,none⟩::r) K O U=mY C (bE P op O U) U d (wpOps P C all r K) O:=R
def ajW{all r:L Oper}{K:FN->HN->Prop}{d:Option Nat}{op:Op}{t:TypeId}{pos:String}{af:Array Edge}{g:Nat×Bool}(h:lg all (some g) O=true):
  wpOps P C all (⟨d,op,t,pos,af,some g⟩::r) K O U=mY C (bE P op O U) U d (wpOps P C all r K) O:=by
 show(match lg all (some g) O with|true=>_|false=>_)=_;rw[h]
def ajV{all r:L Oper}{K:FN->HN->Prop}{d:Option Nat}{op:Op}{t:TypeId}{pos:String}{af:Array Edge}{g:Nat×Bool}(h:lg all (some g) O=false):
  wpOps P C all (⟨d,op,t,pos,af,some g⟩::r) K O U=wpOps P C all r K (be d bp O) U:=by
 show(match lg all (some g) O with|true=>_|false=>_)=_;rw[h]
@[go_sem] def anO{d:Option Nat}{k:FN->HN->Prop}{v:AV}{U':HN}:mY C (.ok v U') U d k O=k (be d v O) U':=(rfl)
@[go_sem] def anc:(∀v,be none v O=O)/\(∀d v,be (some d) v O=mE O d v)/\(∀d t v,mE O d v t=if t=d then v else O t)/\(∀t,au O (.tmp t)=O t)/\(∀f,au O (.func f)=.func f [] [])/\(∀g,au O (.global g)=.p g 0)/\(au O (.const (.slice none 0 0))=.e)/\(au O (.const (.pointer none))=.r)/\(∀b,au O (.const (.bool b))=.l b):=by and_intros<;>intros<;>rfl
def UY{k:IntKind}{z:Int}{n:Nat}(h:res k z=n)(c:bg k n=z):au O (.const (.int k z))=.i k n:=by
 show JC (if bg k (res k z)=z then _ else _)=_;rw[h,ae c];rfl
def aek(k:IntKind):lM k<=br k:=by cases k<;>decide
def G3{k:IntKind}{n:Nat}(h:n<lM k):au O (.const (.int k (n:Int)))=.i k n:=by
 have c:=aek k;refine UY ?_ ?_
 .show Nat.mod n (br k)=n;exact Ew Y
 .unfold bg cT;rw[gP.2 A];rfl
@[go_sem] def amd{n:Nat}(h:(OfNat.ofNat n:Nat)<9223372036854775808):au O (.const (.int .i64 (no_index (OfNat.ofNat n))))=.i .i64 (OfNat.ofNat n):=G3 h
@[go_sem] def anb{n:Nat}(h:(OfNat.ofNat n:Nat)<256):au O (.const (.int .u8 (no_index (OfNat.ofNat n))))=.i .u8 (OfNat.ofNat n):=G3 h
@[go_sem] def am9{n:Nat}(h:(OfNat.ofNat n:Nat)<4294967296):au O (.const (.int .u32 (no_index (OfNat.ofNat n))))=.i .u32 (OfNat.ofNat n):=G3 h
@[go_sem] def ana{n:Nat}(h:(OfNat.ofNat n:Nat)<18446744073709551616):au O (.const (.int .u64 (no_index (OfNat.ofNat n))))=.i .u64 (OfNat.ofNat n):=G3 h
@[go_sem] def akn:(∀t,AL (.tmp t)=false)/\(∀v,AL (.const v)=true)/\(∀l t,ye l t=l.getD t bp):=by and_intros<;>intros<;>rfl
@[go_sem] def anp:(∀rs Q,Bm P rs Q .normal O U=sZ (lC P rs O U) Q U)/\(∀rs Q,Bm P rs Q .ret O U=sZ (lC P rs O U) Q U)/\(lC P [] O U=some []):=by and_intros<;>intros<;>rfl
noncomputable def CC(v:AV)(o:Option (L AV)):Option (L AV):=match o with|some l=>some (v::l)|none=>none
noncomputable def Jx(x:aZ)(o:Option (L AV)):Option (L AV):=match x with|.ok v _=>CC v o|_=>none
@[go_sem] def ano{t:Nat}{r:L ResultVar}:lC P (.tmp t::r) O U=CC (O t) (lC P r O U):=by show(match lC P r O U with|some l=>_|none=>_)=_;cases lC P r O U<;>rfl
@[go_sem] def ann{a:Nat}{t:TypeId}{r:L ResultVar}:lC P (.cell a t::r) O U=Jx (sM (bS P t) (O a) U) (lC P r O U):=by
 show(match sM (bS P t) (O a) U,lC P r O U with|.ok v _,some l=>some (v::l)|_,_=>none)=_
 unfold Jx CC;grind
@[go_sem] def akl:(∀v l,CC v (some l)=some (v::l))/\(vy []=.t [])/\(∀a,vy [a]=a)/\(∀a b l,vy (a::b::l)=.t (a::b::l)):=by and_intros<;>intros<;>rfl
@[go_sem] def akm:(∀v o,Jx (.ok v U) o=CC v o)/\(∀Q l,sZ (some l) Q U=Q (vy l) U):=by and_intros<;>intros<;>rfl
def al{f:FuncId}{as:L AV}{d:Option Nat}{k:FN->HN->Prop}(h:∃v U',C f as U v U'/\k (be d v O) U'):mY C (.call f as) U d k O:=h
@[go_sem] def Ud{U:HN}{y:BN}:(U.X y).h=U.h+1:=(rfl)
@[go_sem] def W6{U:HN}{b:Nat}{y:BN}:(U.put b y).h=U.h:=(rfl)
attribute [go_sem] yZ kg
@[go_sem] def aj5{U:HN}{n:Nat}:(U.at_ n).f=U.f:=(rfl)
@[go_sem] def I7{U:HN}{n:Nat}:(U.at_ n).h=n:=(rfl)
end
section
variable {P:Program}{C:Spec}{all:L Oper}{K:FN->HN->Prop}{nx0:Nat}{ks:L DK}{r:L Oper}{j:Nat}{d:Option Nat}{op:Op}{t:TypeId}{pos:String}{af:Array Edge}{O:FN}{U U':HN}{Us:L HN}{rs:L kw}{v:AV}
noncomputable def dA(P:Program)(C:Spec)(all:L Oper)(K:FN->HN->Prop)(nx0:Nat)(ks:L DK)(r:L Oper)(j:Nat)(d:Option Nat)(O:FN)(U:HN)(Us:L HN)(rs:L kw)(x:aZ):Prop:=match x with|.ok v U'=>dX P C all K nx0 ks r (j+1) (be d v O) (U'.at_ U.h) Us rs|_=>False
noncomputable def dP(P:Program)(C:Spec)(all:L Oper)(K:FN->HN->Prop)(nx0:Nat)(ks:L DK)(r:L Oper)(j:Nat)(d:Option Nat)(O:FN)(Us:L HN)(rs:L kw)(x:aZ):Prop:=match x with|.ok v U'=>dX P C all K nx0 ks r (j+1) (be d v O) U' Us rs|_=>False
noncomputable def dR(P:Program)(C:Spec)(all:L Oper)(K:FN->HN->Prop)(nx0:Nat)(ks:L DK)(r:L Oper)(j:Nat)(d:Option Nat)(O:FN)(Us:L HN)(rs:L kw)(op:Op)(e c:Nat)(x:aZ):Prop:=match x with|.ok v U'=>dX P C all K nx0 ks r (j+1) (be d v O) U' Us (⟨op,O,v,e,c⟩::rs)|_=>False
noncomputable def dE(P:Program)(C:Spec)(all:L Oper)(K:FN->HN->Prop)(nx0:Nat)(ks:L DK)(r:L Oper)(j:Nat)(d:Option Nat)(O:FN)(U:HN)(Us:L HN)(rs:L kw)(x:aZ):Prop:=match x with
 |.no=>False
 |.ok v U'=>dX P C all K nx0 ks r (j+1) (be d v O) U' (U'::Us) rs
 |.call f as=>∃v U',Sd P all nx0 j C f as U v U'/\dX P C all K nx0 ks r (j+1) (be d v O) U' (U'::Us) rs
noncomputable def HR(P:Program)(C:Spec)(e:L DK)(c:L Oper)(K:FN->HN->Prop)(O:FN)(U:HN)(b:Bool):Prop:=match b with
 |true=>dX P C c K U.h e c 0 O (U.at_ (U.h+N c)) [U.at_ (U.h+N c)] []
 |false=>dX P C c K U.h e c 0 O U [U] []
@[go_sem] def anG{c:L DK}{e:L Oper}:Bt P C c e K O U=HR P C c e K O U (nu c):=by unfold Bt HR;cases nu c<;>rfl
@[go_sem] def anF:(∀e c,HR P C e c K O U true=dX P C c K U.h e c 0 O (U.at_ (U.h+N c)) [U.at_ (U.h+N c)] [])/\(∀e c,HR P C e c K O U false=dX P C c K U.h e c 0 O U [U] []):=by and_intros<;>intros<;>rfl
@[go_sem] def aj1:(nu []=false)/\(∀l,nu (.alloc::l)=true)/\(∀l,nu (.az::l)=nu l)/\(∀l,nu (.p::l)=nu l)/\(∀a b l,nu (.read a b::l)=nu l):=by and_intros<;>intros<;>rfl
@[go_sem] def akB:(dX P C all K nx0 (.alloc::ks) (⟨d,op,t,pos,af,none⟩::r) j O U Us rs=dA P C all K nx0 ks r j d O U Us rs (bE P op O (U.at_ (nx0+j))))/\(dX P C all K nx0 (.az::ks) (⟨d,op,t,pos,af,none⟩::r) j O U Us rs=dE P C all K nx0 ks r j d O U Us rs (bE P op O U))/\(dX P C all K nx0 (.p::ks) (⟨d,op,t,pos,af,none⟩::r) j O U Us rs=dP P C all K nx0 ks r j d O Us rs (bE P op O U))/\(∀e c,dX P C all K nx0 (.read e c::ks) (⟨d,op,t,pos,af,none⟩::r) j O U Us rs=dR P C all K nx0 ks r j d O Us rs op e c (bE P op O U)):=by and_intros<;>intros<;>rfl
@[go_sem] def akC:dX P C all K nx0 [] [] j O U Us rs=(zo P Us (N Us-1) rs/\K O U):=(rfl)
def acV{k:DK}{g:Nat×Bool}(h:lg all (some g) O=true):dX P C all K nx0 (k::ks) (⟨d,op,t,pos,af,some g⟩::r) j O U Us rs=dX P C all K nx0 (k::ks) (⟨d,op,t,pos,af,none⟩::r) j O U Us rs:=by
 unfold dX;simp only[h];rfl
def acU{k:DK}{g:Nat×Bool}(h:lg all (some g) O=false):dX P C all K nx0 (k::ks) (⟨d,op,t,pos,af,some g⟩::r) j O U Us rs=dX P C all K nx0 ks r (j+1) (be d bp O) U (yy k U Us) rs:=by
 conv=>lhs;unfold dX
 rw[h]
@[go_sem] def akt:(dA P C all K nx0 ks r j d O U Us rs (.ok v U')=dX P C all K nx0 ks r (j+1) (be d v O) (U'.at_ U.h) Us rs)/\(dE P C all K nx0 ks r j d O U Us rs (.ok v U')=dX P C all K nx0 ks r (j+1) (be d v O) U' (U'::Us) rs):=by and_intros<;>intros<;>rfl
@[go_sem] def aku:dP P C all K nx0 ks r j d O Us rs (.ok v U')=dX P C all K nx0 ks r (j+1) (be d v O) U' Us rs:=(rfl)
@[go_sem] def akv{c:Nat}:dR P C all K nx0 ks r j d O Us rs op h c (.ok v U')=dX P C all K nx0 ks r (j+1) (be d v O) U' Us (⟨op,O,v,h,c⟩::rs):=(rfl)
def bL{f:FuncId}{as:L AV}(h:∃v U',C f as U v U'/\dX P C all K nx0 ks r (j+1) (be d v O) U' (U'::Us) rs):dE P C all K nx0 ks r j d O U Us rs (.call f as):=let ⟨v,U',c,q⟩:=h;⟨v,U',.inl c,q⟩
def QJ{f:FuncId}{as:L AV}(b i:Nat){o:Oper}(e:j<i)(l:all[i]?=some o)(m:cls P o.op=.alloc)(n:o.guard=none)(p:b=nx0+i)(h:∃v U',C f as ⟨U.h,λc=>if c=b then .none else U.f c⟩ v U'/\dX P C all K nx0 ks r (j+1) (be d v O) U' (U'::Us) rs):dE P C all K nx0 ks r j d O U Us rs (.call f as):=let ⟨v,U',c,q⟩:=h;⟨v,U',.inr ⟨i,o,e,l,m,n,p▸c⟩,q⟩
@[go_sem] def ant{k:Nat}:zo P Us k []=True:=(rfl)
@[go_sem] def ans{k:Nat}{s:kw}:zo P Us k (s::rs)=(tf P s Us k/\zo P Us k rs):=(rfl)
@[go_sem] def anr{k:Nat}{s:kw}:tf P s [] k=True:=(rfl)
@[go_sem] def anq{k c:Nat}:tf P ⟨op,O,v,h,c⟩ (U::Us) k=((h<=k->k<=c->A5 (bE P op O U) v)/\tf P ⟨op,O,v,h,c⟩ Us (k-1)):=(rfl)
@[go_sem] def alI{c:AV}:A5 (.ok c U) v=(c=v):=(rfl)
@[go_sem] def aj4{a b:Nat}:(U.at_ a).at_ b=U.at_ b:=(rfl)
attribute [go_sem] yy
end
section
variable {P:Program}{C:Spec}{all r:L Oper}{K:FN->HN->Prop}{d:Option Nat}{op:Op}{t:TypeId}{pos:String}{af:Array Edge}{O:FN}{U:HN}{g:Nat×Bool}{nx0 j:Nat}{k:DK}{ks:L DK}{Us:L HN}{rs:L kw}
noncomputable def Ig(P:Program)(C:Spec)(all:L Oper)(d:Option Nat)(op:Op)(r:L Oper)(K:FN->HN->Prop)(O:FN)(U:HN)(b:Bool):Prop:=match b with
 |true=>mY C (bE P op O U) U d (wpOps P C all r K) O
 |false=>wpOps P C all r K (be d bp O) U
@[go_sem] def anX:wpOps P C all (⟨d,op,t,pos,af,some g⟩::r) K O U=Ig P C all d op r K O U (lg all (some g) O):=by
 unfold Ig;cases h:lg all (some g) O
 .exact ajV h
 .exact ajW h
@[go_sem] def anW:(Ig P C all d op r K O U true=mY C (bE P op O U) U d (wpOps P C all r K) O)/\(Ig P C all d op r K O U false=wpOps P C all r K (be d bp O) U):=by and_intros<;>intros<;>rfl
noncomputable def FH(P:Program)(C:Spec)(all:L Oper)(K:FN->HN->Prop)(nx0:Nat)(k:DK)(ks:L DK)(o:Oper)(r:L Oper)(j:Nat)(O:FN)(U:HN)(Us:L HN)(rs:L kw)(b:Bool):Prop:=match b with
 |true=>dX P C all K nx0 (k::ks) (o::r) j O U Us rs
 |false=>dX P C all K nx0 ks r (j+1) (be o.dst bp O) U (yy k U Us) rs
@[go_sem] def akD:dX P C all K nx0 (k::ks) (⟨d,op,t,pos,af,some g⟩::r) j O U Us rs=FH P C all K nx0 k ks ⟨d,op,t,pos,af,none⟩ r j O U Us rs (lg all (some g) O):=by
 unfold FH;cases h:lg all (some g) O
 .exact acU h
 .exact acV h
@[go_sem] def akA:(∀o,FH P C all K nx0 k ks o r j O U Us rs true=dX P C all K nx0 (k::ks) (o::r) j O U Us rs)/\(∀o,FH P C all K nx0 k ks o r j O U Us rs false=dX P C all K nx0 ks r (j+1) (be o.dst bp O) U (yy k U Us) rs):=by and_intros<;>intros<;>rfl
noncomputable def Ze(d:Option Nat)(w:Bool)(O:FN):Bool:=match d with|some d=>asBool (O d) (λb=>b==w)|none=>false
noncomputable def BG(v:AV)(w:Bool):Bool:=asBool v (λb=>b==w)
@[go_sem] def anT{w:Bool}:lg all (some (i,w)) O=Ze (yx all i) w O:=(rfl)
@[go_sem] def anQ{w:Bool}:Ze (some i) w O=BG (O i) w:=(rfl)
@[go_sem] def anR:(BG (.l true) true=true)/\(BG (.l true) false=false)/\(BG (.l false) true=false)/\(BG (.l false) false=true):=by and_intros<;>intros<;>rfl
@[go_sem] def akH{c:Option (Nat×Bool)}:yx (⟨d,op,t,pos,af,c⟩::r) (no_index 0)=d:=(rfl)
@[go_sem] def akG{o:Oper}{n:Nat}:yx (o::r) (no_index (n+1))=yx r n:=(rfl)
end
section
variable {α:Type}{a b:Nat}{x y:α}
@[go_sem ↓] def alh(h:a<=b):(if a<=b then x else y)=x:=J
@[go_sem] def ali(h:a<=b):(if a<=b then x else y)=x:=J
@[go_sem ↓] def alj(h:a<b):(if a<b then x else y)=x:=J
@[go_sem ↓] def alf(h:a=b):(if a=b then x else y)=x:=J
@[go_sem ↓] def ald(h:a≠b):(if a=b then x else y)=y:=J
@[go_sem] def ale(h:a≠b):(if a=b then x else y)=y:=J
@[go_sem ↓] def alc{c d:Nat}(h:a<=b)(e:c<=d):(if a<=b/\c<=d then x else y)=x:=J
@[go_sem ↓] def alg{c d:Nat}(h:a=b)(e:c<=d):(if a=b/\c<=d then x else y)=x:=J
@[go_sem] def akz(h:a<b):de (a<b)=true:=J
@[go_sem] def aky(h:b<=a):de (a<b)=false:=J
@[go_sem] def akx(h:a=b):de (a=b)=true:=J
@[go_sem] def akw(h:a≠b):de (a=b)=false:=J
def Lt{k:IntKind}(c:a<lM k)(c:b<lM k):fU k a b=de (a<b):=by
 unfold fU cT;rw[gP.2 A,gP.2 A];show Nat.blt a b=_;rw[rB,IF];exact gP
@[go_sem] def TF(c:a<9223372036854775808)(e:b<9223372036854775808):fU .i64 a b=de (a<b):=Lt c e
@[go_sem] def alt(c:a<18446744073709551616)(e:b<18446744073709551616):fU .u64 a b=de (a<b):=Lt c e
@[go_sem] def alu(c:a<256)(e:b<256):fU .u8 a b=de (a<b):=Lt c e
@[go_sem] def TT(h:a<18446744073709551616):a%18446744073709551616=a:=Y
@[go_sem] def alA(h:a<4294967296):a%4294967296=a:=Y
@[go_sem] def alB(h:a<256):a%256=a:=Y
@[go_sem] def anK(h:b<=a)(c:a<18446744073709551616):(a+(18446744073709551616-b))%18446744073709551616=a-b:=Y
@[go_sem] def akp{c:IntKind}(h:a<9223372036854775808):rS c .i64 a=a%br c:=by unfold rS cT;rw[gP.2 A];rfl
@[go_sem] def akr{c:IntKind}(h:a<18446744073709551616):rS c .u64 a=a%br c:=by unfold rS cT;rw[gP.2 A];rfl
@[go_sem] def akq{c:IntKind}(h:a<4294967296):rS c .u32 a=a%br c:=by unfold rS cT;rw[gP.2 A];rfl
@[go_sem] def aks{c:IntKind}(h:a<256):rS c .u8 a=a%br c:=by unfold rS cT;rw[gP.2 A];rfl
@[go_sem] def anf(c:a<18446744073709551616)(c:b<18446744073709551616):vv .u64 a b=a/b:=by
 unfold vv cT;rw[gP.2 A,gP.2 A];rfl
@[go_sem] def anh(c:a<18446744073709551616)(c:b<18446744073709551616):vx .u64 a b=a%b:=by
 unfold vx cT;rw[gP.2 A,gP.2 A];rfl
@[go_sem] def alG{l:L AV}{U:HN}(h:i<N l):ia l[i]? U=.ok (l.getD i bp) U:=by rw[cA,bM h];rfl
@[go_sem] def anL{l:L AV}{n:Nat}(h:N l<=n):l.take n=l:=iM h
@[go_sem] def akE{l:L AV}:l.drop 0=l:=(rfl)
@[go_sem] def anx{l r:L AV}(h:N r=N l):dz l 0 r=r:=by
 apply N1;intro i;rw[HD _ _ _ _ Y];split
 .rfl
 .rw[rC Y,rC Y]
@[go_sem] def akV{α:Type}{a:α}{l:L α}:(a::l)[(no_index 0:Nat)]?=some a:=(rfl)
@[go_sem] def akU{α:Type}{a:α}{l:L α}{n:Nat}:(a::l)[(no_index (n+1))]?=l[n]?:=(rfl)
@[go_sem] def alv{α c:Type}{f:α->c}{a:α}:Option.map f (some a)=some (f a):=(rfl)
def MO{x:AV}:∀(r l:L AV) (i:Nat),dz (x::l) (i+1) r=x::dz l i r
 |[],_,_=>rfl
 |a::r,l,i=>MO r (l.set i a) (i+1)
@[go_sem] def aiF{x a:AV}{r l:L AV}:dz (x::l) 0 (a::r)=a::dz l 0 r:=MO r l 0
@[go_sem] def anm{n:Nat}{z:AV}:N (List.replicate n z)=n:=J
@[go_sem] def anj{z:AV}:List.replicate 1 z=[z]:=(rfl)
@[go_sem] def anM{α:Type}{x:α}{l:L α}{n:Nat}:(x::l).take (no_index (n+1))=x::l.take n:=(rfl)
@[go_sem] def anN{α:Type}{l:L α}:l.take (no_index 0)=[]:=(rfl)
@[go_sem] def akF{α:Type}{x:α}{l:L α}{n:Nat}:(x::l).drop (no_index (n+1))=l.drop n:=(rfl)
@[go_sem] def anw{α:Type}{x y:α}{l:L α}:(x::l).set (no_index 0) y=y::l:=(rfl)
@[go_sem] def anv{α:Type}{x y:α}{l:L α}{n:Nat}:(x::l).set (no_index (n+1)) y=x::l.set n y:=(rfl)
attribute [go_sem] ay jk eI gv xA NP Bool.or_true Em Bool.true_or xy El pX pW vR uD ite_true ite_false eq_self gg nk zW ID lq Nat.mul_zero uC bt hN dH eB fc B0 EA and_self false_and and_false ne_eq Oz not_true_eq_false EB forall_const true_implies Oy List.drop_nil xD decide_true decide_false ak aJ rH
end
end
end
end Go.Proofs.YtehahhggpdhieaaGreatDoor
