/- Lemmas of the walk of EmitKinds are proved. Conditions: none. -/
import Derived.Laws.Entries
import Derived.Laws.Strings
import Derived.Laws.StructEq
import Derived.ChangeKeysEq
import Derived.Test.YtehahhggpdhieaaGreatDoorX0
namespace Go.Proofs.YtehahhggpdhieaaGreatDoor
set_option maxRecDepth 100000
set_option maxHeartbeats 32000000
set_option linter.all false
section
variable {i:Nat}
section
abbrev Ren:=Nat->Option (Nat×Nat×Nat)
def Ren.le(H H':Ren):Prop:=∀b x,H b=some x->H' b=some x
def IJ(a:Cp)(first c N:Nat):Prop:=match a with
 |.k d=>c=d
 |.B s=>first+c*s=N
 |.s s=>first+c*s=N
mutual
def VR(H:Ren):AV->Value->Prop
 |.l b,v=>v=.bool b
 |.i k n,v=>n<br k/\v=.int k (bg k n)
 |.s n s,v=>∃a:ByteArray,v=.string a/\a.data.toList.length=n/\aY a.data.toList=s
 |.r,v=>v=.pointer none
 |.p b off,v=>∃B o N,H b=some (B,o,N)/\v=.pointer (some ⟨B,o+off,none⟩)
 |.e,v=>v=.slice none 0 0
 |.a b off len cap,v=>∃B o N c a,H b=some (B,o,N)/\v=.slice (some a) len c/\len<=c/\(a=⟨B,o+off,none⟩\/c=0)/\IJ cap (o+off) c N
 |.func f x y,v=>∃a b,v=.func (.func f) ⟨a⟩ ⟨b⟩/\VL H x a/\VL H y b
 |.d,v=>v=.nilFunc
 |.h,v=>v=.nilIface
 |.g c,v=>∃a:List Value,v=.agg ⟨a⟩/\VL H c a/\∀u∈a,u.oneCell'=true
 |.t c,v=>∃a:List Value,v=.tuple ⟨a⟩/\VL H c a
 |.map b,v=>∃B,H b=some (B,0,0)/\v=.map (some B)
 |.c,v=>v=.map none
def VL(H:Ren):List AV->List Value->Prop
 |[],c=>c=[]
 |a::as,c=>∃u r,c=u::r/\VR H a u/\VL H as r
end
variable {H H' H'':Ren}{w w' w'':World}
mutual
def VR.mono(h:H.le H'):∀{a:AV} {v:Value},VR H a v->VR H' a v
 |.l _,_,e|.i _ _,_,e|.s _ _,_,e|.r,_,e|.e,_,e|.d,_,e|.h,_,e|.c,_,e=>by unfold VR at*;exact e
 |.p _ _,_,e|.a _ _ _ _,_,e|.map _,_,e=>by unfold VR at*;unfold Ren.le at h;grind
 |.func _ _ _,_,e=>by
  unfold VR at*;let⟨a,b,c,d,g⟩:=e;exact⟨a,b,c,VL.mono h d,VL.mono h g⟩
 |.g _,_,e=>by
  unfold VR at*;let⟨a,c,d,g⟩:=e;exact⟨a,c,VL.mono h d,g⟩
 |.t _,_,e=>by
  unfold VR at*;let⟨a,c,d⟩:=e;exact⟨a,c,VL.mono h d⟩
def VL.mono(h:H.le H'):∀{as:List AV} {c:List Value},VL H as c->VL H' as c
 |[],c,e=>by unfold VL at*;exact e
 |a::as,c,e=>by
  unfold VL at*;let⟨u,r,a,c,d⟩:=e;exact⟨u,r,a,VR.mono h c,VL.mono h d⟩
end
def VL.iff:∀{as:List AV} {c:List Value},VL H as c↔c.length=as.length/\∀(i:Nat) (a:AV),as[i]?=some a->∃u,c[i]?=some u/\VR H a u
 |[],c=>by unfold VL;grind
 |x::as,c=>by
  unfold VL;constructor
  .rintro⟨u,r,rfl,d,d⟩
   have:=VL.iff.1 d
   exact⟨by grind,λi a h=>by cases i<;>grind⟩
  .rintro⟨d,d⟩
   cases c with
   |nil=>grind
   |cons u r=>
    let⟨v,_,c⟩:=d 0 x rfl;exact⟨u,r,rfl,by grind,VL.iff.2 ⟨by grind,λi a h=>by have:=d (i+1) a;grind⟩⟩
def VL.len{as:List AV}{a:List Value}(h:VL H as a):a.length=as.length:=(VL.iff.1 h).1
def VL.get{as:List AV}{c:List Value}(h:VL H as c){a:AV}(e:as[i]?=some a):∃u,c[i]?=some u/\VR H a u:=(VL.iff.1 h).2 i a e
def VL.nil:VL H [] []:=by unfold VL;rfl
def VL.cons{a:AV}{u:Value}{as:List AV}{c:List Value}(h:VR H a u)(d:VL H as c):VL H (a::as) (u::c):=by unfold VL;exact⟨u,c,rfl,h,d⟩
def VL.append{as a:List AV}{c d:List Value}(h:VL H as c)(e:VL H a d):VL H (as++a) (c++d):=by
 rw[VL.iff] at*;grind
def VL.take{as:List AV}{a:List Value}(n:Nat)(h:VL H as a):VL H (as.take n) (a.take n):=by
 rw[VL.iff] at*;grind
def VL.drop{as:List AV}{a:List Value}(n:Nat)(h:VL H as a):VL H (as.drop n) (a.drop n):=by
 rw[VL.iff] at*;grind
def VL.map{a:Type}{f:a->AV}{g:a->Value}:∀{l:List a},(∀x∈l,VR H (f x) (g x))->VL H (l.map f) (l.map g)
 |[],_=>VL.nil
 |x::l,h=>VL.cons (h x dp) (VL.map λy a=>h y (by simp[a]))
def vZ:VR H bp undef:=by unfold bp undef VR;exact⟨[],rfl,VL.nil⟩
def wl(b:BN):Prop:=match b with|.E false _=>True|.mp _=>True|.gM _=>True|_=>False
def qF(b:BN):Prop:=match b with|.E false _=>True|.mp _=>True|_=>False
def lv(b:BN):Prop:=match b with|.none=>False|_=>True
def xd(x y:BN)(o c:Nat):Prop:=match x,y with|.gM l,.E true a=>c+a.length<=o+l.length|_,_=>False
def qF.wl{b:BN}(h:qF b):wl b:=by unfold YtehahhggpdhieaaGreatDoor.wl;unfold qF at h;split at h<;>simp_all
def wl.lv{b:BN}(h:wl b):lv b:=by unfold YtehahhggpdhieaaGreatDoor.wl at h;unfold YtehahhggpdhieaaGreatDoor.lv;split at h<;>simp_all
def HI{x y:BN}{o a:Nat}(g:xd x y o a):¬qF x/\¬wl y:=by unfold xd at g;unfold qF wl;split at g<;>simp_all
def Lu{b:BN}(h:¬lv b):b=.none:=by unfold lv at h;split at h<;>simp_all
def CR(H:Ren)(d:Bool)(l:List AV)(B o N:Nat)(w:World):Prop:=∃(c:Array Value) (e:TypeId) (a:Nat×Nat),w.heap[B]?=some (.cells c e a)/\c.size=N/\o+l.length<=N/\(d=false->a.1=a.2\/N<=a.1)/\
 ∀i a,l[i]?=some a->∃u,c[o+i]?=some u/\VR H a u/\u.oneCell'=true
def BR(H:Ren)(x:BN)(B o N:Nat)(w:World):Prop:=match x with
 |.none=>True
 |.E a l=>CR H a l B o N w
 |.gM l=>CR H false l B o N w
 |.mp es=>∃(l:Array MapEntry) (t:Nat),w.heap[B]?=some (.map l t)/\VL H (es.map (·.1)) (l.toList.map (·.key))/\VL H (es.map (·.2)) (l.toList.map (·.val))
def CR.mono(h:H.le H'){r:Bool}{l:List AV}{B o N:Nat}(n:w'.heap[B]?=w.heap[B]?)(m:CR H r l B o N w):CR H' r l B o N w':=by
 let⟨c,e,a,d,g,i,j,k⟩:=m;exact⟨c,e,a,n▸d,g,i,j,λi a c=>let ⟨u,x,y,z⟩:=k i a c;⟨u,x,y.mono h,z⟩⟩
def BR.mono(h:H.le H'){x:BN}{B o N:Nat}(c:w'.heap[B]?=w.heap[B]?)(a:BR H x B o N w):BR H' x B o N w':=by
 cases x with
 |none=>trivial
 |E r l=>exact CR.mono h c a
 |gM l=>exact CR.mono h c a
 |mp es=>
  let⟨l,k,d,e,g⟩:=a;exact⟨l,k,c▸d,e.mono h,g.mono h⟩
def BR.lt{x:BN}{B o N:Nat}(d:BR H x B o N w)(a:lv x):B<w.heap.size:=by
 cases x with
 |none=>exact a.elim
 |E r l=>let⟨c,e,g,a,_⟩:=d;exact(mF.1 a).1
 |gM l=>let⟨c,e,g,a,_⟩:=d;exact(mF.1 a).1
 |mp es=>let⟨l,k,a,_⟩:=d;exact(mF.1 a).1
structure HF (H:Ren) (f:Nat->BN) (w:World):Prop where
 bT:∀b B o N,H b=some (B,o,N)->BR H (f b) B o N w
 inj:∀b b' B o N o' N',H b=some (B,o,N)->H b'=some (B,o',N')->wl (f b)->lv (f b')->b=b'\/xd (f b) (f b') o o'
def EO(w w':World):Prop:=w'.tape=w.tape/\w'.os=w.os/\w'.output=w.output
def Clean(U:HN):Prop:=∀b,U.h<=b->U.f b=.none
def xW(H:Ren)(f:Nat->BN)(B:Nat):Prop:=∃b o N,H b=some (B,o,N)/\wl (f b)
structure SF (H H':Ren) (f f':Nat->BN) (w w':World):Prop where
 le:H.le H'
 hr:HF H' f' w'
 kJ:∀b B o N,H' b=some (B,o,N)->wl (f' b)->w.heap.size<=B\/xW H f B
 ro:∀b B o N,H' b=some (B,o,N)->lv (f' b)->¬wl (f' b)->(H b=some (B,o,N)/\lv (f b)/\¬wl (f b))\/w.heap.size<=B\/xW H f B
 size:w.heap.size<=w'.heap.size
 aR:∀B,B<w.heap.size->¬xW H f B->w'.heap[B]?=w.heap[B]?
 K:EO w w'
structure cu (H H':Ren) (U U':HN) (w w':World):Prop extends SF H H' U.f U'.f w w' where
 X:∀b x,H' b=some x->H b=some x\/(U.h<=b/\b<U'.h)
 h:U.h<=U'.h
 F:Clean U->Clean U'
 dd:∀b,b<U.h->U.f b=.none->U'.f b=.none
 um:∀b,b<U.h->H b=none->U'.f b=U.f b
variable {f f' f'':Nat->BN}{U U' U'':HN}
def SF.drawn(hr:HF H f w)(hh:w'.heap=w.heap)(hs:EO w w'):SF H H f f w w' where
 le:=λ_ _ h=>h
 hr:=⟨λb B o N e=>(hr.bT b B o N e).mono (λ_ _ h=>h) (by rw[hh]),hr.inj⟩
 kJ:=λb B o N e h=>.inr ⟨b,o,N,e,h⟩
 ro:=J
 size:=J
 aR:=J
 K:=hs
def cu.refl(hr:HF H U.f w):cu H H U U w w where
 toSF:=.drawn hr rfl ⟨rfl,rfl,rfl⟩
 X:=J
 h:=Y
 F:=id
 dd:=J
 um:=J
def SF.M(s:SF H H' f f' w w')(t:SF H' H'' f' f'' w' w''):SF H H'' f f'' w w'' where
 le:=λb x h=>t.le b x (s.le b x h)
 hr:=t.hr
 kJ:=λb B o N e hw=>by
  have:=s.size
  rcases t.kJ b B o N e hw with h1|⟨b0,o0,N0,e0,hw0⟩
  .exact .inl Y
  .exact s.kJ _ _ _ _ e0 hw0
 ro:=λb B o N e hl hw=>by
  have:=s.size
  rcases t.ro b B o N e hl hw with⟨e1,l1,w1⟩|h1|⟨b0,o0,N0,e0,hw0⟩
  .exact s.ro b B o N e1 l1 w1
  .exact .inr (.inl Y)
  .exact .inr (s.kJ _ _ _ _ e0 hw0)
 size:=bC s.size t.size
 aR:=λB hB hn=>by
  have hs:=s.size;rw[t.aR B Y,s.aR B hB hn]
  rintro⟨b,o,N,e,hw⟩
  rcases s.kJ b B o N e hw with h1|h1
  .omega
  .exact hn h1
 K:=⟨t.K.1.t s.K.1,t.K.2.1.t s.K.2.1,t.K.2.2.t s.K.2.2⟩
def cu.M(s:cu H H' U U' w w')(t:cu H' H'' U' U'' w' w''):cu H H'' U U'' w w'' where
 toSF:=s.toSF.M t.toSF
 X:=λb x e=>by
  have:=s.h
  have:=t.h
  have:=s.X b x
  have:=t.X b x e
  grind
 h:=bC s.h t.h
 F:=λc=>t.F (s.F c)
 dd:=λb hb e=>t.dd b (cW hb s.h) (s.dd b hb e)
 um:=λb hb e=>by
  have h1:H' b=none:=by
   cases hq:H' b with
   |none=>rfl
   |some x=>have:=s.X b x hq;grind
  rw[t.um b (cW hb s.h) h1,s.um b hb e]
def Ren.add(H:Ren)(b:Nat)(x:Nat×Nat×Nat):Ren:=λa=>if a=b then some x else H a
def Ren.wK{b:Nat}(x:Nat×Nat×Nat)(h:H b=none):H.le (H.add b x):=λa y e=>by unfold Ren.add;grind
def cu.mE(T:Nat->Prop)(B:Nat)(z:HF H U.f w)(D:H.le H')(s:w.heap.size<=B\/xW H U.f B)(d:∀b x,H' b=some x->¬T b->H b=some x/\U'.f b=U.f b)
  (g:∀b a o N,H' b=some (a,o,N)->T b->lv (U'.f b)->a=B/\BR H' (U'.f b) B o N w')
  (v:∀b c o N m n,H' b=some (B,o,N)->H' c=some (B,m,n)->wl (U'.f b)->lv (U'.f c)->T b\/T c->b=c\/xd (U'.f b) (U'.f c) o m)
  (p:∀b o N,H b=some (B,o,N)->¬T b->lv (U.f b)->BR H' (U.f b) B o N w')
  (i:w.heap.size<=w'.heap.size) (C:∀a,a≠B->a<w.heap.size->w'.heap[a]?=w.heap[a]?) (I:EO w w') (u:∀b x,H' b=some x->H b=some x\/(U.h<=b/\b<U'.h)) (q:U.h<=U'.h) (h:Clean U->Clean U')
  (j:∀b,b<U.h->U.f b=.none->U'.f b=.none) (t:∀b,b<U.h->H b=none->U'.f b=U.f b):cu H H' U U' w w':=by
 refine⟨⟨D,⟨λb a o N e=>?_,λb c a o N m n e r l k=>?_⟩,λb a o N e l=>?_,λb a o N e l k=>?_,i,λa i F=>C a (λe=>?_) i,I⟩,u,q,h,j,t⟩
 .by_cases t:T b
  .by_cases l:lv (U'.f b)
   .obtain⟨rfl,h⟩:=g b a o N e t l;exact h
   .rw[Lu l];trivial
  .let⟨i,j⟩:=d b _ e t;have h:=z.bT b a o N i;rw[j];by_cases l:lv (U.f b)
   .by_cases q:a=B
    .subst q;exact p b o N i t l
    .exact h.mono D (C a q (h.lt l))
   .rw[Lu l];trivial
 .by_cases t:T b\/T c
  .have q:a=B:=by
    rcases t with t|t
    .exact(g b a o N e t l.lv).1
    .exact(g c a m n r t k).1
   subst q;exact v b c o N m n e r l k t
  .let⟨i,j⟩:=d b _ e λh=>t (.inl h);let⟨p,q⟩:=d c _ r λh=>t (.inr h);rw[j] at l|-;rw[q] at k|-;exact z.inj b c a o N m n i p l k
 .by_cases t:T b
  .rw[(g b a o N e t l.lv).1];exact s
  .let⟨i,j⟩:=d b _ e t;exact .inr ⟨b,o,N,i,j▸l⟩
 .by_cases t:T b
  .rw[(g b a o N e t l).1];exact .inr s
  .let⟨i,j⟩:=d b _ e t;rw[j] at l k;exact .inl ⟨i,l,k⟩
 .subst e;rcases s with h|h
  .omega
  .exact F h
section
variable {b B o N:Nat}{x y:BN}{obj:Obj}
def kg{U:HN}{b c:Nat}{y:BN}:(U.put b y).f c=if c=b then y else U.f c:=rfl
def yZ{U:HN}{c:Nat}{y:BN}:(U.X y).f c=if c=U.h then y else U.f c:=rfl
def wh{w:World}{B:Nat}{obj:Obj}:∀a,a≠B->a<w.heap.size->(w.heap.setIfInBounds B obj)[a]?=w.heap[a]?:=J
def sF{b:Nat}{x:Nat×Nat×Nat}:H.add b x b=some x:=ae rfl
def uL{b c:Nat}{x:Nat×Nat×Nat}(h:c≠b):H.add b x c=H c:=ac h
def BR.at(e:H b=some (B,o,N)){a g c:Nat}(d:H b=some (a,g,c))(h:BR H x B o N w):a=B/\BR H x B g c w:=by rw[e] at d;cases d;exact⟨rfl,h⟩
def cu.push(c:HF H U.f w)(h:H U.h=none)(j:BR (H.add U.h (w.heap.size,o,N)) x w.heap.size o N {w with heap:=w.heap.push obj}):
  cu H (H.add U.h (w.heap.size,o,N)) U (U.X x) w {w with heap:=w.heap.push obj}:=by
 have g:∀b d a,H b=some (w.heap.size,d,a)->lv (U.f b)->False:=λb d a e l=>by have:=(c.bT b _ _ _ e).lt l;omega
 refine .mE (·=U.h) w.heap.size c (Ren.wK _ h) (.inl (ak _)) (λb x e t=>?_) (λb c o N e t l=>?_) (λb i o N d a e c l c t=>?_) (λb o N e _ l=>(g b o N e l).elim) dp J ⟨rfl,rfl,rfl⟩ (λb x e=>?_) (iC _) (λc b h=>?_) (λb h e=>?_) λb h e=>?_
 .rw[uL t] at e;exact⟨e,ac t⟩
 .subst t;rw[yZ,ae rfl];exact j.at sF e
 .have:=g b o N;have:=g i d a;have:=l.lv;simp only[yZ] at*;unfold Ren.add at*;grind
 .by_cases t:b=U.h
  .subst t;exact .inr ⟨ak _,bJ _⟩
  .rw[uL t] at e;exact .inl e
 .have h:U.h+1<=b:=h;rw[yZ,ac Y];exact c b Y
 .rw[yZ,ac Y];exact e
 .rw[yZ,ac Y]
def HF.one(i:HF H U.f w)(h:H b=some (B,o,N))(d:qF (U.f b)){c g a:Nat}(e:H c=some (B,g,a))(l:lv (U.f c)):c=b:=by
 rcases i.inj b c B o N g a h e d.wl l with h|h
 .exact h.s
 .exact absurd d (HI h).1
def NF{y:BN}(h:wl y):y≠.none:=λe=>by rw[e] at h;exact h
def cu.write(g:HF H U.f w)(a:H b=some (B,o,N))(d:qF (U.f b))(q:BR H x B o N {w with heap:=w.heap.setIfInBounds B obj}):cu H H U (U.put b x) w {w with heap:=w.heap.setIfInBounds B obj}:=by
 have k:=NF d.wl;refine .mE (·=b) B g (λ_ _ h=>h) (.inr ⟨b,o,N,a,d.wl⟩) (λc x e t=>⟨e,ac t⟩) (λc i o N e t l=>?_) (λc n o N m i e p l j t=>?_) (λc m i e h l=>absurd (g.one a d e l) h) dp wh ⟨rfl,rfl,rfl⟩ J (ak _) (λc j h=>?_) (λc h e=>?_) λc h e=>ac (by rintro rfl;rw[a] at e;cases e)
 .subst t;rw[kg,ae rfl];exact q.at a e
 .have:=@HF.one _ _ _ _ _ _ _ g a d c o N e;have:=@HF.one _ _ _ _ _ _ _ g a d n m i p;have:=l.lv;simp only[kg] at*;grind
 .rw[kg,ac (λe=>k (by rw[<-e];exact c j h))];exact c j h
 .rw[kg,ac (λq=>k (by rw[<-q];exact e))];exact e
def cu.drop(a:HF H U.f w){z:Nat×Nat×Nat}(i:H b=some z):cu H H U (U.put b .none) w w:=by
 refine .mE (·=b) w.heap.size a (λ_ _ h=>h) (.inl (ak _)) (λc x e t=>⟨e,ac t⟩) (λc d o N e t l=>?_) (λc d o N d d e d l d t=>?_) (λc o N e _ l=>?_) (ak _) J ⟨rfl,rfl,rfl⟩ J (ak _) (λc g h=>?_) (λc h e=>?_) λc h e=>?_
 .rw[kg,ae t] at l;exact l.elim
 .rcases t with t|t
  .rw[kg,ae t] at l;exact l.elim
  .rw[kg,ae t] at d;exact d.elim
 .exact a.bT _ _ _ _ e
 .rw[kg];split;rfl;exact c g h
 .rw[kg];split;rfl;exact e
 .rw[kg,ac (by rintro rfl;rw[i] at e;cases e)]
def cu.kill(p:HF H U.f w)(i:H b=some (B,o,N))(r:qF (U.f b))(n:H U.h=none){o2:Nat}(z:BR (H.add U.h (B,o2,N)) x B o2 N {w with heap:=w.heap.setIfInBounds B obj}):
  cu H (H.add U.h (B,o2,N)) U ((U.put b .none).X x) w {w with heap:=w.heap.setIfInBounds B obj}:=by
 have j:b≠U.h:=by rintro rfl;rw[n] at i;cases i
 have g:∀c,((U.put b .none).X x).f c=if c=U.h then x else if c=b then .none else U.f c:=λc=>rfl
 have s:∀{c a d},H c=some (B,a,d)->lv (U.f c)->c=b:=p.one i r;refine .mE (λc=>c=b\/c=U.h) B p (Ren.wK _ n) (.inr ⟨b,o,N,i,r.wl⟩) (λc x e t=>?_) (λc D o N e t l=>?_) (λc F o _ a _ e u l C t=>?_) (λc a d e h l=>absurd (.inl (s e l)) h) dp wh ⟨rfl,rfl,rfl⟩ (λc x e=>?_) (iC _) (λc m h=>?_) (λc h e=>?_) λc h e=>?_
 .rw[uL (λq=>t (.inr q))] at e;rw[g,ac (λq=>t (.inr q)),ac (λq=>t (.inl q))];exact⟨e,rfl⟩
 .rw[g] at l|-;rcases t with rfl|rfl
  .rw[ac j,ae rfl] at l;exact l.elim
  .rw[ae rfl];exact z.at sF e
 .have k:∀{c a d},H.add U.h (B,o2,N) c=some (B,a,d)->lv (((U.put b .none).X x).f c)->c=U.h:=λ{c a d} e q=>by
   rw[g] at q;by_cases h:c=U.h
   .exact h
   .rw[uL h] at e;rw[ac h] at q;split at q
    .exact q.elim
    .rename_i v;exact absurd (s e q) v
  exact .inl ((k e l.lv).t (k u C).s)
 .by_cases t:c=U.h
  .subst t;exact .inr ⟨ak _,bJ _⟩
  .rw[uL t] at e;exact .inl e
 .have h:U.h+1<=m:=h;rw[g,ac Y];split;rfl;exact c m Y
 .rw[g,ac Y];split;rfl;exact e
 .rw[g,ac Y,ac (by rintro rfl;rw[i] at e;cases e)]
def MK(x:BN)(l:List AV)(y:BN):Prop:=(x=.E false l/\y=.E true l)\/(x=.gM l/\y=.none)
def CR.part{r:Bool}{l:List AV}(t:H.le H'){c d:Array Value}{e:TypeId}{g:Nat×Nat}{m:Nat}(k:w.heap[B]?=some (.cells c e g))(a:w'.heap[B]?=some (.cells d e g))(v:d.size=c.size)(s:∀j,j<m->d[j]?=c[j]?)(i:o+l.length<=m)
  (h:CR H r l B o N w):CR H' true l B o N w':=by
 let⟨_,_,_,i,_,j,_,q⟩:=h;rw[k] at i;cases i;refine⟨d,e,g,a,Y,j,nofun,λi a j=>?_⟩;let⟨u,k,n,p⟩:=q i a j
 have:=(xB.1 j).1
 exact⟨u,by rw[s _ Y];exact k,n.mono t,p⟩
def cu.ab{l i:List AV}{c u:Array Value}{e:TypeId}{v:Nat×Nat}(D:HF H U.f w)(n:H b=some (B,o,N))(m:MK (U.f b) l y)(a:H U.h=none)(I:w.heap[B]?=some (.cells c e v))(hs:u.size=c.size)(hk:∀j,j<o+l.length->u[j]?=c[j]?)
  (q:l.length<=i.length) (hb:CR (H.add U.h (B,o,N)) false i B o N {w with heap:=w.heap.setIfInBounds B (.cells u e v)}):
  cu H (H.add U.h (B,o,N)) U ((U.put b y).X (.gM i)) w {w with heap:=w.heap.setIfInBounds B (.cells u e v)}:=by
 have t:wl (U.f b):=by rcases m with⟨h,_⟩|⟨h,_⟩<;>rw[h]<;>trivial
 have W:=NF t;have d:=(mF.1 I).1;have z:(w.heap.setIfInBounds B (.cells u e v))[B]?=some (.cells u e v):=J;have d:b≠U.h:=by rintro rfl;rw[a] at n;cases n
 have K:=Ren.wK (B,o,N) a;have g:∀c,((U.put b y).X (.gM i)).f c=if c=U.h then .gM i else if c=b then y else U.f c:=λc=>rfl
 have p:∀{c j r},H c=some (B,j,r)->c≠b->lv (U.f c)->∃s,U.f c=.E true s/\j+s.length<=o+l.length:=λ{c j r} a k q=>by
  rcases D.inj b c _ _ _ _ _ n a t q with q|q
  .exact absurd q.s k
  .rcases m with⟨h,_⟩|⟨h,_⟩<;>rw[h] at q<;>unfold xd at q<;>split at q<;>simp_all
 have yl:lv y->y=.E true l/\U.f b=.E false l:=λq=>by
  rcases m with h|h
  .exact⟨h.2,h.1⟩
  .rw[h.2] at q;exact q.elim
 refine .mE (λc=>c=b\/c=U.h) B D K (.inr ⟨b,o,N,n,t⟩) (λc x e t=>?_) (λc k j r a t q=>?_) (λc k k k o2 k e1 e2 P q2 t=>?_) (λc j r a t q=>?_) dp wh ⟨rfl,rfl,rfl⟩ (λc x e=>?_) (iC _) (λV F h=>?_) (λc h e=>?_) λc h e=>?_
 .rw[uL (λq=>t (.inr q))] at e;rw[g,ac (λq=>t (.inr q)),ac (λq=>t (.inl q))];exact⟨e,rfl⟩
 .rw[g] at q|-;rcases t with rfl|rfl
  .rw[ac d,ae rfl] at q|-;rw[uL d,n] at a;cases a;let⟨d,m⟩:=yl q;have C:=D.bT _ _ _ _ n;rw[m] at C;rw[d];exact⟨rfl,CR.part K I z hs hk (ak _) C⟩
  .rw[ae rfl];exact BR.at (x:=.gM i) sF a hb
 .have k:∀{c j r},H.add U.h (B,o,N) c=some (B,j,r)->lv (((U.put b y).X (.gM i)).f c)->(c=U.h/\((U.put b y).X (.gM i)).f c=.gM i/\j=o)\/∃s,((U.put b y).X (.gM i)).f c=.E true s/\j+s.length<=o+l.length:=λ{c j r} a q=>by
   rw[g] at q|-;by_cases d:c=U.h
   .subst d;rw[sF] at a;cases a;exact .inl ⟨rfl,ae rfl,rfl⟩
   .rw[uL d] at a;rw[ac d] at q|-;by_cases m:c=b
    .subst m;rw[ae rfl] at q|-;rw[n] at a;cases a;exact .inr ⟨l,(yl q).1,ak _⟩
    .rw[ac m] at q|-;exact .inr (p a m q)
  rcases k e1 P.lv with⟨d,m,C⟩|⟨s,d,_⟩
  .rcases k e2 q2 with⟨j,_⟩|⟨k,j,r⟩
   .exact .inl (d.t j.s)
   .refine .inr ?_;rw[m,j,C];show o2+k.length<=o+i.length;omega
  .rw[d] at P;exact P.elim
 .let⟨s,d,m⟩:=p a (λq=>t (.inl q)) q
  have:=D.bT _ _ _ _ a
  rw[d] at this|-;exact CR.part K I z hs hk m this
 .by_cases t:c=U.h
  .subst t;exact .inr ⟨ak _,bJ _⟩
  .rw[uL t] at e;exact .inl e
 .have h:U.h+1<=F:=h;rw[g,ac Y,ac (by rintro rfl;exact W (V F Y))];exact V F Y
 .rw[g,ac Y,ac (by rintro rfl;exact W e)];exact e
 .rw[g,ac Y,ac (by rintro rfl;rw[n] at e;cases e)]
def HF.calm{l:List AV}(a:HF H U.f w)(n:U.f b=.E false l\/U.f b=.gM l):HF H (U.put b (.E true l)).f w:=by
 have p:wl (U.f b):=by rcases n with h|h<;>rw[h]<;>trivial
 refine⟨λc B o N e=>?_,λc k B o N r j e m q i=>?_⟩
 .rw[kg];split
  .rename_i h;subst h
   have:=a.bT _ _ _ _ e
   rcases n with h|h<;>rw[h] at this<;>let⟨s,t,d,h1,u,v,_,z⟩:=this<;>exact⟨s,t,d,h1,u,v,nofun,z⟩
  .exact a.bT _ _ _ _ e
 .rw[kg] at q i|-;split at q
  .exact q.elim
  .rename_i h;rw[ac h,kg];split at i
   .rename_i g;subst g;rcases a.inj c k B o N r j e m q p.lv with h1|h1
    .exact absurd h1 h
    .exact absurd p (HI h1).2
   .rename_i g;rw[ac g];exact a.inj c k B o N r j e m q i
def cu.calm{l:List AV}(d:HF H U.f w)(a:H b=some (B,o,N))(k:U.f b=.E false l\/U.f b=.gM l):cu H H U (U.put b (.E true l)) w w:=by
 have m:wl (U.f b):=by rcases k with h|h<;>rw[h]<;>trivial
 have j:=NF m;have i:=d.calm k;refine .mE (·=b) B d (λ_ _ h=>h) (.inr ⟨b,o,N,a,m⟩) (λc x e t=>⟨e,ac t⟩) (λc k o N e t l=>?_) (λc m o N q k e n l p _=>i.inj c m B o N q k e n l p) (λc o N e _ _=>d.bT _ _ _ _ e) (ak _) J ⟨rfl,rfl,rfl⟩ J (ak _) (λc g h=>?_) (λc h e=>?_) λc h e=>ac (by rintro rfl;rw[a] at e;cases e)
 .have:=i.bT _ _ _ _ e
  subst t;rw[a] at e;cases e;exact⟨rfl,this⟩
 .rw[kg,ac (λe=>j (by rw[<-e];exact c g h))];exact c g h
 .rw[kg,ac (λq=>j (by rw[<-q];exact e))];exact e
def cu.aix{l:List AV}(c:HF H U.f w)(a:H b=some (B,o,N))(d:MK (U.f b) l y):cu H H U (U.put b y) w w:=by
 rcases d with⟨d,q2⟩|⟨d,q2⟩<;>rw[q2]
 .exact .calm c a (.inl d)
 .exact .drop c a
end
end
end
section
variable {x:AV}{b k s:Nat}
section
variable {H H':Ren}{P:Program}{w:World}{t:TypeId}
def tJ{u:Value}{l:L AV}(a:VR H x u)(b:dZ x=some l):VL H l u.cells.toList/\∀y∈u.cells.toList,y.oneCell'=true:=by
 have c:∀{y:AV} {z:Value},VR H y z->VL H [y] [z]:=λh=>VL.cons h VL.nil;cases x with
 |g d=>
  unfold VR at a;obtain⟨e,rfl,e,f⟩:=a;cases b;exact⟨e,f⟩
 |t d=>cases b
 |_=>
  cases b;have b:=a;unfold VR at b
  have:u.cells.toList=[u]/\u.oneCell'=true:=by grind[Value.cells,Value.oneCell']
  rw[this.1];exact⟨c a,by simp[this.2]⟩
def abL{l:L AV}(h:dZ x=some l):jc x=l:=by cases x<;>cases h<;>rfl
def QF{v:Value}(h:Fx v=some x):VR H x v/\v.oneCell'=true:=by
 unfold Fx at h;split at h<;>first|(cases h;exact⟨by unfold VR;rfl,R⟩)|skip
 .split at h<;>cases h;rename_i k n e;exact⟨by unfold VR;exact⟨DW k n,by rw[e]⟩,R⟩
 .cases h;exact⟨by unfold VR;exact⟨_,R,R,R⟩,R⟩
 .cases h
def QH:∀{l:L Value} {b:L AV},Fy l=some b->VL H b l/\∀u∈l,u.oneCell'=true
 |[],b,h=>by cases h;exact⟨VL.nil,by simp⟩
 |v::l,b,h=>by
  unfold Fy at h;split at h<;>cases h;rename_i a r c d;have p:=QF (H:=H) c;have q:=QH d;exact⟨VL.cons p.1 q.1,λu e=>by grind⟩
def QG{v:Value}(h:cv v=some x):VR H x v:=by
 unfold cv at h;split at h
 .split at h<;>cases h;rename_i a
  have:=QH (H:=H) a
  unfold VR;exact⟨_,R,this⟩
 .cases h;exact vZ
 .exact(QF h).1
structure FR (H:Ren) (n:Nat) (O:FN) (a:Act):Prop where
 size:a.tmps.size=n
 at_:∀t,VR H (O t) (a.tmps.getD t undef)
 defers:a.defers=[]
def FR.mono{n:Nat}{c:FN}{a:Act}(h:H.le H')(b:FR H n c a):FR H' n c a:=⟨b.size,λt=>(b.at_ t).mono h,b.defers⟩
def W5{a:Act}{d:Nat}{u:Value}(h:d<a.tmps.size):(a.put (some d) u).tmps.getD d undef=u:=by simp[Act.put,h]
def Mf{a:Act}{d:Option Nat}{t:Nat}{u:Value}(h:d≠some t):(a.put d u).tmps.getD t undef=a.tmps.getD t undef:=by
 cases d with
 |none=>rfl
 |some d=>simp[Act.put,Zy (λe=>h (dv some e))]
def FR.put{n:Nat}{e:FN}{a:Act}{b:Option Nat}{v:AV}{u:Value}(c:FR H n e a)(g:VR H v u)(f:∀d,b=some d->d<n):FR H n (be b v e) (a.put b u):=by
 cases b with
 |none=>exact c
 |some d=>
  have f:=f d R;have b:=c.size;refine⟨by simp[Act.put,b],λt=>?_,c.defers⟩;by_cases h:t=d
  .subst h;rw[W5 Y];show VR H (if t=t then v else e t) u;rw[ae R];exact g
  .rw[Mf (by grind)];show VR H (if t=d then v else e t) _;rw[ac h];exact c.at_ t
def GR(P:Program)(H:Ren):Prop:=∀g,g<P.globals.size->∃a,H g=some (g,0,a)
def GR.mono(h:H.le H')(b:GR P H):GR P H':=λg c=>let ⟨a,e⟩:=b g c;⟨a,h _ _ e⟩
def UZ{d:FN}{a:Act}(h:GR P H){x:Operand}(c:∀t,x=.tmp t->VR H (d t) (a.tmps.getD t undef))(b:Gk P x=true):VR H (au d x) (a.eval x):=by
 cases x with
 |tmp t=>exact c t R
 |const v=>
  have b:(match cv v with|some _=>true|none=>false)=true:=b;show VR H (JC (cv v)) v;cases c:cv v with
  |none=>rw[c] at b;cases b
  |some y=>exact QG c
 |global g=>
  let⟨c,e⟩:=h g (gP.1 b);show VR H (.p g 0) _;unfold VR;exact⟨g,0,c,e,R⟩
 |func f=>
  show VR H (.func f [] []) _;unfold VR;exact⟨[],[],R,VL.nil,VL.nil⟩
def uw{a:Bool}(h:bS P t=some (s,b,a)):∃i d,P.info? t=some i/\P.underlying t=some d/\i.size=s/\i.bytes=b/\K7 d=a:=by
 unfold bS at h;grind
def nO{e:Nat}(h:av P t=.a e s b):P.underlying t=some (.slice e)/\∃a,bS P e=some (s,b,a):=by
 unfold av at h;grind
def BB{n e:Nat}{a:Bool}(h:av P t=.y n e s a):P.underlying t=some (.array n e)/\∃b,bS P e=some (s,b,a):=by
 unfold av at h;grind
def HY{a:L FD}(h:av P t=.t a):∃f:Array Field,P.underlying t=some (.struct f)/\tS P f.toList=some a:=by
 unfold av at h;grind
def BC{k:IntKind}(h:av P t=.i k):P.underlying t=some (.int k):=by
 unfold av at h;grind
def ti(h:av P t=.s):P.underlying t=some .string:=by
 unfold av at h;grind
def YG(h:av P t=.l):P.underlying t=some .bool:=by
 unfold av at h;grind
def ajf(h:av P t=.p):∃e,P.underlying t=some (.pointer e):=by
 unfold av at h;grind
def aje(h:av P t=.func):∃a b c,P.underlying t=some (.func a b c):=by
 unfold av at h;grind
def YH{e:Nat}(h:av P t=.map k e):P.underlying t=some (.map k e):=by
 unfold av at h;grind
def FY:∀{l:L Field} {a:L FD},tS P l=some a->∀(i:Nat) (d:FD),a[i]?=some d->
  ∃f b,l[i]?=some f/\bS P f.type=some (d.size,b,d.g)/\d.o=f.offset/\d.ty=f.type/\d.b=(f.name== "_")
 |[],a,h,i,d,c=>by unfold tS at h;grind
 |f::l,a,h,i,d,c=>by
  unfold tS at h;split at h<;>cases h;rename_i x j e g;cases i with
  |zero=>
   cases c;unfold Kf at e;grind
  |succ i=>exact FY g i d c
def vA{i:TypeInfo}(h:P.info? t=some i):(typeInfo t).run P w=.ok i w:=by simp[typeInfo,h]
def kK{a:Bool}(h:bS P t=some (s,b,a)):(sizeOf t).run P w=.ok s w:=by
 let⟨i,_,c,_,d,_⟩:=uw h;simp[sizeOf,vA c,d]
def MF{a:Bool}(h:bS P t=some (s,b,a)):(isAgg t).run P w=.ok a w:=by
 let⟨i,d,_,c,_,_,e⟩:=uw h;subst e;cases d<;>simp[isAgg,run_underlying c,K7]
def zK{z:AV}(h:cr P t=some z):∃u,(∀w,(zeroValue t).run P w=.ok u w)/\(∀H,VR H z u)/\dZ z=some (jc z)/\∃i,P.info? t=some i/\i.zero=some u/\u.cells.size=i.size/\N (jc z)=i.size:=by
 unfold cr at h
 repeat' split at h
 all_goals cases h
 rename_i i b _ u c _ _ l e f a;rw[abL a];have d:=λH:Ren=>QG (H:=H) f
 have:=(tJ (d λ_=>none) a).1.len
 exact⟨u,λw=>by simp[zeroValue,vA b,c],d,a,i,b,c,by simpa [e] using this,e⟩
end
variable {a j r:Nat}
section
def acc(l m:L UInt8):aY (l++m)=aY l+256^N l*aY m:=by
 induction l with
 |nil=>simp[aY]
 |cons b l a=>simp only[fc,aY,a,bt,xJ];grind
def Qx:∀{l m:L UInt8},N l=N m->aY l=aY m->l=m
 |[],[],_,_=>rfl
 |b::l,c::m,h,e=>by
  unfold aY at e;have a:=b.toNat_lt;have a:=c.toNat_lt;rw[Qx (by simpa using h) (show aY l=aY m by omega),Ow.1 (show b.toNat=c.toNat by omega)]
def Qw(i:Nat):∀l:L UInt8,aY (l.drop i)=aY l/256^i:=by
 induction i with
 |zero=>simp
 |succ i c=>
  intro l;cases l with
  |nil=>simp[aY]
  |cons b l=>
   have:=b.toNat_lt
   have a:(b.toNat+256*aY l)/256=aY l:=Y;rw[List.drop_succ_cons,c,aY,xJ,xI (256^i) 256,<-Oj,a]
def acd(n:Nat):∀l:L UInt8,aY (l.take n)=aY l%256^n:=by
 induction n with
 |zero=>simp[aY,Nat.mod_one]
 |succ n a=>
  intro l;cases l with
  |nil=>simp[aY]
  |cons b l=>
   have:=b.toNat_lt
   rw[rG,aY,aY,a,xJ,xI (256^n) 256,Nat.mod_mul];grind
def Yq(l:L UInt8)(i:Nat)(h:i<N l):qC (aY l) i=l[i].toNat:=by
 show(aY l>>>(8*i))%256=_
 rw[aaf,Ey,<-Qw,eJ h,aY]
 have:=l[i].toNat_lt
 omega
def Ys(l:L UInt8)(i n:Nat):uu (aY l) i n=aY ((l.drop i).take n):=by
 show(aY l>>>(8*i))%(1<<<(8*n))=_
 rw[aaf,Ov,ID,Ey,Ey,acd,Qw]
def ai3(l m:L UInt8):xg (N l) (aY l) (aY m)=aY (l++m):=by
 show aY l+aY m<<<(8*N l)=_;rw[acc,Ov,Ey,xI]
def Nj(l m:L UInt8):aI (N l) (aY l) (N m) (aY m)=(l==m):=by
 rw[rB];simp only[aI,ss,zX];exact⟨λh=>Qx h.1 h.2,λh=>by rw[h];exact dy⟩
def Yt:∀l m:L UInt8,strLt (N l) (aY l) (N m) (aY m)=Op.bytesLess l m
 |[],[]=>rfl
 |[],_::_=>rfl
 |_::_,[]=>rfl
 |b::l,c::m=>by
  have a:=b.toNat_lt;have a:=c.toNat_lt;have a:=Yt l m;simp only[bt,aY,strLt,Op.bytesLess,show(b.toNat+256*aY l)%256=b.toNat by omega,show(c.toNat+256*aY m)%256=c.toNat by omega,show(b.toNat+256*aY l)/256=aY l by omega,
   show(c.toNat+256*aY m)/256=aY m by omega,BW,a,Ow]
  rw[rB];simp[Oi,UInt8.lt_iff_toNat_lt];grind
variable {H:Ren}{P:Program}{w:World}{t:TypeId}
def gD(P:Program)(H:Ren)(w:World)(s:Sem Value)(v:AV):Prop:=∃u,s.run P w=.ok u w/\VR H v u
def jP{k:IntKind}{n:Nat}{u:Value}:VR H (.i k n) u↔n<br k/\u=.int k (bg k n):=by unfold VR;exact gZ
def mK{b:Bool}{u:Value}:VR H (.l b) u↔u=.bool b:=by unfold VR;exact gZ
def mc{n:Nat}{u:Value}:VR H (.s n s) u↔∃a:ByteArray,u=.string a/\N a.data.toList=n/\aY a.data.toList=s:=by unfold VR;exact gZ
def rP{b:L AV}{u:Value}:VR H (.g b) u↔∃a:L Value,u=.agg ⟨a⟩/\VL H b a/\∀u∈a,u.oneCell'=true:=by unfold VR;exact gZ
def Ad{a:L AV}{u:Value}:VR H (.t a) u↔∃b:L Value,u=.tuple ⟨b⟩/\VL H a b:=by unfold VR;exact gZ
def sE{u:Value}:VR H (.p b j) u↔∃B o a,H b=some (B,o,a)/\u=.pointer (some ⟨B,o+j,none⟩):=by unfold VR;exact gZ
def iE{d:Cp}{u:Value}:VR H (.a b j r d) u↔∃B o e c a,H b=some (B,o,e)/\u=.slice (some a) r c/\r<=c/\(a=⟨B,o+j,none⟩\/c=0)/\IJ d (o+j) c e:=by unfold VR;exact gZ
def qN{u:Value}:VR H .e u↔u=.slice none 0 0:=by unfold VR;exact gZ
def IR{f:FuncId}{a b:L AV}{u:Value}:VR H (.func f a b) u↔∃c d,u=.func (.func f) ⟨c⟩ ⟨d⟩/\VL H a c/\VL H b d:=by unfold VR;exact gZ
def OY{u:Value}:VR H (.map b) u↔∃B,H b=some (B,0,0)/\u=.map (some B):=by unfold VR;exact gZ
def aeK{l:BinOp}{k j:IntKind}(d:a<br k)(f:b<br j){z:AV}(e:oi l k a j b=some z):gD P H w (binOp l t (.int k (bg k a)) (.int j (bg j b))) z:=by
 have g:∀{r:Nat} {z:Int},(k.wrap z=bg k r/\r<br k)->VR H (.i k r) (.int k (k.wrap z)):=λh=>jP.2 ⟨h.2,by rw[h.1]⟩;have o:∀{r:Nat} {z:Int},(z=bg k r/\r<br k)->VR H (.i k r) (.int k z):=λh=>jP.2 ⟨h.2,by rw[h.1]⟩;have i:∀{b c:Bool},b=c->VR H (.l c) (.bool b):=λh=>mK.2 (by rw[h]);by_cases m:l=.shl\/l=.shr
 .rcases m with rfl|rfl<;>unfold oi at e<;>dsimp only at e<;>split at e<;>cases e<;>rename_i s<;>rw[qA s]<;>have n:¬((b:Int)<0):=Y<;>rw[abc]
  .exact⟨_,by simp[binOp,Op.shift,n],g (aiL d _)⟩
  .exact⟨_,by simp[binOp,Op.shift,n],o (aiM d _)⟩
 obtain rfl:k=j:=by
  unfold oi at e;cases l<;>dsimp only at e<;>first|(exact absurd (.inl R) m)|(exact absurd (.inr R) m)|(split at e<;>rename_i h<;>first|exact(ou k j).1 h|cases e)
 have u:=(ou k k).2 R;have p:b≠0->¬bg k b=0:=λh q=>h (Yk k f (GH k) (by rw[q];cases k<;>rfl));unfold oi at e;cases l<;>dsimp only at e<;>first|(exact absurd (.inl R) m)|(exact absurd (.inr R) m)|skip
 all_goals rw[ae u] at e
 case add=>cases e;exact⟨_,by simp[binOp,Op.intArith],g (aaw d f)⟩
 case sub=>cases e;exact⟨_,by simp[binOp,Op.intArith],g (ai6 d f)⟩
 case mul=>cases e;exact⟨_,by simp[binOp,Op.intArith],g (afV d f)⟩
 case quo=>split at e<;>cases e;rename_i h;exact⟨_,by simp[binOp,Op.intDiv,p h],g (ahM d f)⟩
 case rem=>split at e<;>cases e;rename_i h;exact⟨_,by simp[binOp,Op.intDiv,p h],o (ah8 d f)⟩
 case and=>cases e;exact⟨_,by simp[binOp,Op.intBits],g (Ja d f (λx y=>x &&& y) _ λ_ _ _=>BitVec.toNat_and ..)⟩
 case or=>cases e;exact⟨_,by simp[binOp,Op.intBits],g (Ja d f (λx y=>x|||y) _ λ_ _ _=>BitVec.toNat_or ..)⟩
 case xor=>cases e;exact⟨_,by simp[binOp,Op.intBits],g (Ja d f (λx y=>x ^^^ y) _ λ_ _ _=>BitVec.toNat_xor ..)⟩
 case andNot=>cases e;exact⟨_,by simp[binOp,Op.intBits],g (aaM d f)⟩
 case eql=>cases e;exact⟨_,by simp[binOp,Op.intCmp],i (FK d f)⟩
 case neq=>cases e;exact⟨.bool (!(bg k a==bg k b)),by simp[binOp,Op.intCmp];rfl,i (by rw[FK d f])⟩
 case lss=>cases e;exact⟨_,by simp[binOp,Op.intCmp],i (Dd d f)⟩
 case gtr=>cases e;exact⟨_,by simp[binOp,Op.intCmp],i (Dd f d)⟩
 case leq=>cases e;exact⟨_,by simp[binOp,Op.intCmp];rfl,i (by rw[<-Dd f d,<-decide_not];congr 1;grind)⟩
 case geq=>cases e;exact⟨_,by simp[binOp,Op.intCmp];rfl,i (by rw[<-Dd d f,<-decide_not];congr 1;grind)⟩
def ai4{f:BinOp}(a b:ByteArray){z:AV}(e:zC f (N a.data.toList) (aY a.data.toList) (N b.data.toList) (aY b.data.toList)=some z):gD P H w (binOp f t (.string a) (.string b)) z:=by
 have c:=ByteArray.toList_eq a;have d:=ByteArray.toList_eq b;cases f<;>simp only[zC,Nj,Yt,<-c,<-d,reduceCtorEq] at e
 case add=>
  split at e<;>cases e;have g:¬(((a.size+b.size:Nat):Int)>IntKind.i64.max):=by
   have h:a.size=N a.data.toList:=by simp
   have h:b.size=N b.data.toList:=by simp
   rw[show IntKind.i64.max=9223372036854775807 from R];grind
  refine⟨.string (a++b),by simp only[binOp,Op.stringOp];rw[Sem.run_ite,ac g];rfl,mc.2 ⟨a++b,R,?_,?_⟩⟩
  .simp[c,d,ZC]
  .rw[c,d,ai3];simp[ZC]
 all_goals (cases e;exact⟨.bool _,by simp only[binOp,Op.stringOp];rfl,mK.2 R⟩)
def Hb{g:L AV}{c:L Value}{a:Bool}(e:bS P t=some (s,b,a))(f:VL H g c)(i:∀u∈c,u.oneCell'=true)(d:rY a s g j=some x):gD P H w (part t ⟨c⟩ j) x:=by
 unfold gD part;unfold rY at d;simp only[Sem.run_bind,MF e,Result.andThen_ok];cases a with
 |true=>
  cases d;refine⟨.agg ⟨(c.drop j).take s⟩,?_,rP.2 ⟨_,R,(f.drop j).take s,λu h=>i u (Iv (rE h))⟩⟩;simp only[vR,Sem.run_bind,kK e,Result.andThen_ok,Sem.run_pure];grind
 |false=>
  let⟨u,hu,e⟩:=f.get d;refine⟨u,?_,e⟩
  have:(⟨c⟩:Array Value)[j]?=some u:=by simpa using hu
  simp only[xA,uD,this,Sem.run_pure]
end
end
section
variable {x y:AV}{b j s:Nat}
section
variable {P:Program}{H:Ren}{w:World}{t:TypeId}
def Cd(P:Program)(H:Ren)(w:World)(D:Nat)(t:TypeId)(q:Q):Prop:=∀{x y:AV} {u v:Value} {b:Bool},VR H x u->VR H y v->q x y=some b->(Op.equalIn D t u v).run P w=.ok b w
theorem Pk{a r:Option Bool}{b:Bool}(e:wc a r=some b):∃c,a=some c/\(if c then r=some b else b=false):=by unfold wc at e;split at e<;>simp_all
theorem ags{x y:Option AV}{q:Q}{b:Bool}(e:o2 x y q=some b):∃a c,x=some a/\y=some c/\q a c=some b:=by unfold o2 at e;split at e<;>simp_all
theorem W8{g:L AV->L AV->Option Bool}{b:Bool}(e:q2 g x y=some b):∃xs ys,x=.g xs/\y=.g ys/\g xs ys=some b:=by unfold q2 at e;split at e<;>simp_all
theorem P8{e:Nat}{a:Bool}(h:bS P e=some (s,b,a)):P.cellsOf e=s:=by
 let⟨i,_,c,_,d,_⟩:=uw h;simp[Program.cellsOf,c,d]
section
variable {xs ys:L AV}{us vs:L Value}(hx:VL H xs us)(hy:VL H ys vs)(ox:∀u∈us,u.oneCell'=true)(oy:∀u∈vs,u.oneCell'=true)
include hx hy ox oy
theorem PM{D e c:Nat}{a b:Bool}{q:Q}(d:bS P e=some (s,c,a))(k:Cd P H w D e q)(h:o2 (rY a s xs j) (rY a s ys j) q=some b):
  ∃u v,(part e ⟨us⟩ j).run P w=.ok u w/\(part e ⟨vs⟩ j).run P w=.ok v w/\(Op.equalIn D e u v).run P w=.ok b w:=by
 let⟨x,y,f,g,i⟩:=ags h;let⟨u,hu,l⟩:=Hb (P:=P) (w:=w) d hx ox f;let⟨v,f,m⟩:=Hb (P:=P) (w:=w) d hy oy g;exact⟨u,v,hu,f,k l m i⟩
theorem ac0{D e c:Nat}{a:Bool}{q:Q}(f:bS P e=some (s,c,a))(j:Cd P H w D e q):∀(n i:Nat) (b:Bool),Mg q a s xs ys n i=some b->(Op.eqItems D e (P.cellsOf e) ⟨us⟩ ⟨vs⟩ (List.range' i n)).run P w=.ok b w:=by
 intro n
 induction n with
 |zero=>intro i b h;cases h;simp[Op.eqItems]
 |succ n k=>
  intro i b h;let⟨c,g,d⟩:=Pk h;let⟨u,v,h,l,m⟩:=PM hx hy ox oy f j g;rw[List.range'_succ,P8 f];simp only[Op.eqItems,Sem.run_bind,h,l,m,Result.andThen_ok];cases c with
  |true=>rw[<-P8 f];simpa using k (i+1) b d
  |false=>simp at d;simp[d]
theorem Ki{D:Nat}{s:TypeId->Q}(n:∀t,Cd P H w D t (s t)):∀(l:L Field) (j:L FD) (b:Bool),tS P l=some j->DJ s j xs ys=some b->(Op.eqFields D ⟨us⟩ ⟨vs⟩ l).run P w=.ok b w
 |[],j,b,h,e=>by cases h;cases e;simp[Op.eqFields]
 |f::l,j,b,h,e=>by
  have y:=FY h 0;unfold tS at h;split at h<;>cases h;rename_i d p I q;let⟨F,c,x,o,g,i,a⟩:=y d R;cases x;unfold DJ at e;unfold Op.eqFields;by_cases k:f.name= "_"
  .rw[a,ae (by simp[k])] at e;simpa [k] using Ki n l p b q e
  .rw[a,ac (by simp[k])] at e;let⟨c,r,m⟩:=Pk e;rw[g,i] at r;let⟨u,v,z,B,C⟩:=PM hx hy ox oy o (n _) r;simp only[k,ne_eq,Oz,vR,Sem.run_bind,z,B,C,Result.andThen_ok];cases c with
   |true=>simpa using Ki n l p b q m
   |false=>simp at m;simp[m]
end
theorem aba(a b:ByteArray):(a==b)=(a.data.toList==b.data.toList):=by rw[beq_toListBytes,ByteArray.toList_eq,ByteArray.toList_eq]
theorem V2{q:Prop}(e:q:=by unfold VR at hx hy;(first|subst hx|obtain⟨_,_,_,_,rfl⟩:=hx|obtain⟨_,_,_,_,_,_,rfl,_⟩:=hx|obtain⟨_,_,rfl,_⟩:=hx);(first|subst hy|obtain⟨_,_,_,_,rfl⟩:=hy|obtain⟨_,_,_,_,_,_,rfl,_⟩:=hy|obtain⟨_,_,rfl,_⟩:=hy);simp[Op.equalIn,run_underlying hu]):q:=e
theorem ads:∀(d D:Nat) (t:TypeId),d<=D->Cd P H w D t (wx P d t):=by
 intro d
 induction d with
 |zero=>intro D t _ x y u v b _ _ e;cases e
 |succ d o=>
  intro D t hD x y u v b hx hy e;obtain⟨D,rfl⟩:∃F,D=F+1:=⟨D-1,Y⟩;have o:∀t,Cd P H w D t (wx P d t):=λt=>o D t Y;unfold wx at e;cases g:av P t<;>rw[g] at e<;>dsimp only at e
  case y n z s a=>
   let⟨hu,c,B⟩:=BB g;obtain⟨xs,ys,rfl,rfl,e⟩:=W8 e;obtain⟨us,rfl,h,j⟩:=rP.1 hx;obtain⟨vs,rfl,k,m⟩:=rP.1 hy;let⟨i,dd,W,_⟩:=uw B;rw[run_equalIn_array w D _ _ hu W,aaa];exact ac0 h k j m B (o z) n 0 b e
  case t I=>
   let⟨f,hu,q⟩:=HY g;split at e
   .cases e
   rename_i r;obtain⟨xs,ys,rfl,rfl,e⟩:=W8 e;obtain⟨us,rfl,h,j⟩:=rP.1 hx;obtain⟨vs,rfl,k,m⟩:=rP.1 hy;have C:P.fieldsOf t=f:=by simp[Program.fieldsOf,hu]
   rw[run_equalIn_struct w D t _ _ (by rw[C];exact hu) (by simpa using r),C];exact Ki h k j m o f.toList I b q e
  case l=>
   unfold Hi at e;split at e<;>cases e;obtain rfl:=mK.1 hx;obtain rfl:=mK.1 hy;simp[Op.equalIn,run_underlying (YG g)]
  case i=>
   unfold lR at e;split at e
   .split at e<;>cases e;rename_i hk;obtain rfl:=(ou ..).1 hk;obtain⟨K,rfl⟩:=jP.1 hx;obtain⟨V,rfl⟩:=jP.1 hy;simp[Op.equalIn,run_underlying (BC g),FK K V]
   .cases e
  case s=>
   unfold kh at e;split at e<;>cases e;obtain⟨s1,rfl,rfl,rfl⟩:=mc.1 hx;obtain⟨s2,rfl,rfl,rfl⟩:=mc.1 hy;rw[Nj,<-aba];simp[Op.equalIn,run_underlying (ti g)]
  case p=>
   let⟨z,hu⟩:=ajf g;unfold Xb at e;split at e<;>cases e<;>exact V2
  case a=>
   have hu:=(nO g).1;unfold Xc at e;split at e<;>cases e<;>exact V2
  case func=>
   let⟨_,_,_,hu⟩:=aje g;unfold W9 at e;split at e<;>cases e<;>exact V2
  all_goals cases e
theorem PG{u v:Value}{b:Bool}(hu:(∀k n,u≠.int k n)/\(∀s,u≠.string s)/\(∀k n,u≠.float k n)/\(∀k n m,u≠.complex k n m))(e:(Op.equal t u v).run P w=.ok b w):(binOp .eql t u v).run P w=.ok (.bool b) w/\(binOp .neq t u v).run P w=.ok (.bool (!b)) w:=by
 have a:binOp .eql t u v=(do pure (.bool (<-Op.equal t u v))):=by cases u<;>first|grind|(cases v<;>rfl)
 have c:binOp .neq t u v=(do pure (.bool (!(<-Op.equal t u v)))):=by cases u<;>first|grind|(cases v<;>rfl)
 rw[a,c];simp[e]
theorem adk{g:BinOp}{r:Bool}{z:AV}{u v:Value}(hx:VR H x u)(hy:VR H y v)(hu:(∀k n,u≠.int k n)/\(∀s,u≠.string s)/\(∀k n,u≠.float k n)/\(∀k n m,u≠.complex k n m))(o o2:Operand)
  (e:pJ P g t r x y=some z):gD P H w (do eqGuard g t o o2 u v;binOp g t u v) z:=by
 unfold pJ at e;split at e
 case isFalse=>cases e
 rename_i h;have j:∀{b},oU P t x y=some b->(eqGuard g t o o2 u v).run P w=.ok () w/\(Op.equal t u v).run P w=.ok b w:=λ{b} d=>by
  refine⟨?_,by unfold Op.equal;exact ads 20 _ t dc hx hy d⟩;by_cases p:∃a c,u=.agg a/\v=.agg c
  .obtain⟨a,c,rfl,rfl⟩:=p;refine run_eqGuard_agg w g t o o2 a c ?_;have i:∃l,x=.g l:=by cases x<;>unfold VR at hx<;>grind
   obtain⟨l,rfl⟩:=i;unfold oU wx at d;unfold vd at h;cases f:av P t<;>rw[f] at d h<;>first|(simpa using h)|cases d
  .by_cases q:u=.nilIface/\v=.nilIface
   .obtain⟨rfl,rfl⟩:=q;have i:x=.h:=by cases x<;>unfold VR at hx<;>grind
    subst i;unfold oU wx at d;cases f:av P t<;>rw[f] at d<;>dsimp only at d<;>first|cases d|(split at d<;>cases d)
   .cases g<;>first|rfl|(cases u<;>first|rfl|(cases v<;>first|rfl|grind))
 cases g<;>first|cases e|skip
 all_goals
  dsimp only at e;cases d:oU P t x y<;>rw[d] at e<;>cases e;have k:=j d;refine⟨_,by rw[Sem.run_bind,k.1,Result.andThen_ok];first|exact(PG hu k.2).1|exact(PG hu k.2).2,mK.2 rfl⟩
theorem abb{c:BinOp}{a:Bool}{z:AV}{u v:Value}(hx:VR H x u)(hy:VR H y v)(d o2:Operand)(e:uN P c t a x y=some z):gD P H w (do eqGuard c t d o2 u v;binOp c t u v) z:=by
 unfold uN at e;split at e
 .obtain⟨a,rfl⟩:=jP.1 hx;obtain⟨b,rfl⟩:=jP.1 hy;let⟨r,q2,f⟩:=aeK (P:=P) (H:=H) (w:=w) (t:=t) a b e;exact⟨r,by rw[show eqGuard c t d o2 (.int _ _) (.int _ _)=pure () by cases c<;>rfl];simpa using q2,f⟩
 .obtain⟨a,rfl,rfl,rfl⟩:=mc.1 hx;obtain⟨b,rfl,rfl,rfl⟩:=mc.1 hy;let⟨r,q2,f⟩:=ai4 (P:=P) (H:=H) (w:=w) (t:=t) a b e;exact⟨r,by rw[show eqGuard c t d o2 (.string _) (.string _)=pure () by cases c<;>rfl];simpa using q2,f⟩
 case h_11=>cases e
 all_goals
  refine adk hx hy ?_ d o2 e;unfold VR at hx;grind
theorem ajE{b:UnOp}{z:AV}{u:Value}(hx:VR H x u)(e:BF b x=some z):gD P H w (Op.unary b u) z:=by
 unfold BF at e;split at e<;>cases e
 .obtain⟨a,rfl⟩:=jP.1 hx;have h:=af6 a;exact⟨_,by simp only[Op.unary,Op.intArith];rfl,jP.2 ⟨h.2,by rw[<-h.1]⟩⟩
 .obtain⟨a,rfl⟩:=jP.1 hx;have h:=ajZ a;exact⟨_,by simp only[Op.unary,Op.intBits];rfl,jP.2 ⟨h.2,by rw[<-h.1]⟩⟩
 .obtain rfl:=mK.1 hx;exact⟨_,rfl,mK.2 rfl⟩
end
end
end Go.Proofs.YtehahhggpdhieaaGreatDoor
