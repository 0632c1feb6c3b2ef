/- Lemmas of the walk of EmitKinds are proved. Conditions: none. -/
import Derived.Laws.Cells
import Derived.Lib.Strings
import Derived.Laws.IdiomStrings
import Derived.Laws.BytesString
import Derived.Great.BuildSlice
import Derived.Laws.MakeOwn
import Derived.Test.YtehahhggpdhieaaGreatDoorX1
namespace Go.Proofs.YtehahhggpdhieaaGreatDoor
set_option maxRecDepth 100000
set_option maxHeartbeats 32000000
set_option linter.all false
section
variable {x y:AV}{b i j:Nat}
section
variable {P:Program}{H:Ren}{U U':HN}{w:World}{t:TypeId}{v:AV}
def nt(P:Program)(H:Ren)(U:HN)(w:World)(s:Sem Value)(v:AV)(U':HN):Prop:=∃u a b,s.run P w=.ok u b/\VR a v u/\cu H a U U' w b
def gD.vH{s:Sem Value}(c:HF H U.f w)(h:gD P H w s v):nt P H U w s v U:=let ⟨u,a,b⟩:=h;⟨u,H,w,a,b,cu.refl c⟩
def HE:∀(r l:L AV) (i:Nat),N (dz l i r)=N l
 |[],l,i=>rfl
 |a::r,l,i=>by unfold dz;rw[HE r];simp
def HD:∀(r l:L AV) (i j:Nat),i+N r<=N l->(dz l i r)[j]?=if i<=j/\j<i+N r then r[j-i]? else l[j]?
 |[],l,i,j,_=>by unfold dz;rw[ac (by simp)]
 |a::r,l,i,j,h=>by
  unfold dz;simp only[bt] at h;rw[HD r _ _ _ (by simp;omega)];grind
def Addr.qO(B o n:Nat):(⟨B,o,none⟩:Addr).add n=⟨B,o+n,none⟩:=by
 unfold Addr.add;grind
def Jk{B:Nat}{c:Array Value}{e:TypeId}{a:Nat×Nat}(b:w.heap[B]?=some (.cells c e a)):w.cell? ⟨B,i,none⟩=c[i]?:=by simp[World.cell?,b]
def Tu{B o k n:Nat}{r:Bool}{l:L AV}{a:Addr}(h:CR H r l B o k w)(b:j+n<=N l)(c:a=⟨B,o+j,none⟩\/n=0):
  ∃b:L Value,(∀d:World,d.heap=w.heap->(loadCells a n).run P d=.ok ⟨b⟩ d)/\VL H ((l.drop j).take n) b/\(∀u∈b,u.oneCell'=true)/\N b=n:=by
 rcases c with rfl|rfl
 .let⟨c,e,_,f,_,_,b,p⟩:=h;have q:∀d:World,d.heap=w.heap->∀b,b<n->d.cell? ((⟨B,o+j,none⟩:Addr).add b)=some (c.getD (o+j+b) undef):=λd e b i=>by
   rw[Addr.qO,Jk (e▸f),NN,Ej Y];rfl
  have g:∀b,b<n->∃a,l[j+b]?=some a/\VR H a (c.getD (o+j+b) undef)/\(c.getD (o+j+b) undef).oneCell'=true:=λb i=>by
   let⟨u,f,i,m⟩:=p (j+b) (l[j+b]' Y) (bM Y);rw[<-oK] at f
   have:c.getD (o+j+b) undef=u:=by simp[f]
   rw[this];exact⟨_,bM Y,i,m⟩
  refine⟨_,λd e=>run_loadCells d _ n _ (q d e),VL.iff.2 ⟨by simp;omega,λi a b=>?_⟩,?_,by simp⟩
  .have:=g i
   grind
  .grind
 .exact⟨[],λ_ _=>by simp[loadCells,loadCellsFrom],by simpa using VL.nil,by simp,R⟩
noncomputable def oF(c:Array Value)(i:Nat)(a:L Value):Array Value:=⟨c.toList.take i++a++c.toList.drop (i+N a)⟩
def Br(c:Array Value)(i:Nat)(a:L Value)(h:i+N a<=c.size):(oF c i a).size=c.size:=by simp[oF];omega
def vD(c:Array Value)(i:Nat)(a:L Value)(h:i+N a<=c.size)(j:Nat):(oF c i a)[j]?=if i<=j/\j<i+N a then a[j-i]? else c[j]?:=by
 unfold oF;grind
def Yh{a:Type}{h:Array a}{B:Nat}{x:a}(e:h[B]?=some x):h.setIfInBounds B x=h:=by
 apply BL;grind
def HA(B:Nat)(e:TypeId)(b:Nat×Nat):∀(d:L Value) (a i:Nat) (c:Array Value) (w:World),w.heap[B]?=some (.cells c e b)->a+i+N d<=c.size->
  (∀j,j<c.size->¬(b.1<=j/\j<b.2))->(∀u∈d,u.oneCell'=true)->(storeCells ⟨B,a,none⟩ d i).run P w=.ok () {w with heap:=w.heap.setIfInBounds B (.cells (oF c (a+i) d) e b)}
 |[],a,i,c,w,f,_,_,_=>by
  rw[show oF c (a+i) []=c by simp[oF],Yh f];simp[storeCells]
 |v::d,a,i,c,w,f,h,l,g=>by
  have k:=(mF.1 f).1;have g:a+i<c.size:=by simp at h;omega
  have m:w.cell? ((⟨B,a,none⟩:Addr).add i)=some c[a+i]:=by rw[Addr.qO,Jk f];simp[g]
  have n:w.frozen? ((⟨B,a,none⟩:Addr).add i)=false:=by
   rw[Addr.qO]
   have:=l (a+i) g
   simp only[World.frozen?,f];grind
  have f:w.setCell ((⟨B,a,none⟩:Addr).add i) v={w with heap:=w.heap.setIfInBounds B (.cells (c.setIfInBounds (a+i) v) e b)}:=by
   rw[Addr.qO];simp only[World.setCell];congr 1;apply BL;intro j;rw[Zw];grind
  have g:=run_store P w ((⟨B,a,none⟩:Addr).add i) v .plain J;rw[m] at g;simp only[n,xA,uD] at g;have l:=HA B e b d a (i+1) (c.setIfInBounds (a+i) v) {w with heap:=w.heap.setIfInBounds B (.cells (c.setIfInBounds (a+i) v) e b)} J J J J;unfold storeCells;simp only[Sem.run_bind,g,Result.andThen_ok,f];rw[l];congr 2;apply BL;intro j;by_cases a:B=j
  .subst a;rw[xx (by simpa using k),xx k];congr 2;apply BL;intro m;rw[vD _ _ _ J,vD _ _ _ (by simpa using h)];grind
  grind
def CR.set{B o g:Nat}{l r:L AV}{f:L Value}{c:Array Value}{e:TypeId}{d:Nat×Nat}(b:w.heap[B]?=some (.cells c e d))(h:CR H false l B o g w)(s:j+N r<=N l)(m:VL H r f)(x:∀u∈f,u.oneCell'=true):
  CR H false (dz l j r) B o g {w with heap:=w.heap.setIfInBounds B (.cells (oF c (o+j) f) e d)}:=by
 let⟨_,_,_,a,i,k,n,p⟩:=h;rw[b] at a;cases a;have q:=(mF.1 b).1;have a:=m.len;refine⟨_,e,d,xx q,by rw[Br _ _ _ Y];exact i,by rw[HE];exact k,n,λi a b=>?_⟩;rw[HD _ _ _ _ s] at b;rw[vD _ _ _ Y];split at b
 .let⟨u,k,n⟩:=m.get b;exact⟨u,by rw[ae Y,show o+i-(o+j)=i-j by omega];exact k,n,x u (qI k)⟩
 .rw[ac Y];exact p i a b
def HU{B o i:Nat}{l r:L AV}{h:L Value}{a:Addr}(q:HF H U.f w)(n:H b=some (B,o,i))(m:U.f b=.E false l)(C:j+N r<=N l)(s:VL H r h)(p:∀u∈h,u.oneCell'=true)(z:a=⟨B,o+j,none⟩\/r=[]):
  ∃c,(storeCells a h).run P w=.ok () c/\cu H H U (U.put b (.E false (dz l j r))) w c:=by
 have f:=q.bT b B o i n;rw[m] at f;have f:CR H false l B o i w:=f;let⟨c,e,u,k,x,_,y,d⟩:=id f;have g:=s.len;have d:=cu.write q n (by rw[m];trivial) (x:=.E false (dz l j r)) (f.set k C s p);rcases z with rfl|rfl
 .have:=HA (P:=P) B e u h (o+j) 0 c w k Y (λe e f=>by have:=y R;rw[x] at e;omega) p
  exact⟨_,by simpa using this,d⟩
 .obtain rfl:=ff g;rw[show oF c (o+j) []=c by simp[oF],Yh k] at d;exact⟨_,by simp[storeCells],d⟩
def LF{x:BN}{l:L AV}{c b:L Value}{e:TypeId}{d:Nat×Nat}(k:HF H U.f w)(f:H U.h=none)(g:VL H l c)(j:∀u∈c,u.oneCell'=true)(h:d.1=d.2\/N c+N b<=d.1)(m:x=.E false l\/x=.gM l):
  cu H (H.add U.h (w.heap.size,0,N c+N b)) U (U.X x) w {w with heap:=w.heap.push (.cells ⟨c++b⟩ e d)}:=by
 have a:=g.len
 have:CR (H.add U.h (w.heap.size,0,N c+N b)) false l w.heap.size 0 (N c+N b) {w with heap:=w.heap.push (.cells ⟨c++b⟩ e d)}:=by
  refine⟨⟨c++b⟩,e,d,by simp,by simp,Y,λ_=>h,λi a i=>?_⟩;let⟨u,a,h⟩:=g.get i;exact⟨u,by grind,h.mono (Ren.wK _ f),j u (qI a)⟩
 exact cu.push k f (by rcases m with rfl|rfl<;>exact this)
def Dm{l:L AV}{a:L Value}{e:TypeId}(d:HF H U.f w)(b:H U.h=none)(f:VL H l a)(c:∀u∈a,u.oneCell'=true):
  cu H (H.add U.h (w.heap.size,0,N a)) U (U.X (.E false l)) w {w with heap:=w.heap.push (.cells ⟨a⟩ e)}:=by
 have:=LF (b:=[]) (e:=e) (d:=(0,0)) d b f c (.inl R) (.inl R)
 simpa using this
def XT{e:TypeId}{a:Array Value}:(newRow e a).run P w=.ok ⟨w.heap.size,0,none⟩ {w with heap:=w.heap.push (.cells a e)}:=by simp[newRow]
def OZ{a:Nat}(B:Nat):VR (H.add b (B,0,a)) (.p b 0) (.pointer (some ⟨B,0,none⟩)):=sE.2 ⟨B,0,a,sF,R⟩
def aaL(g:HF H U.f w)(f:H U.h=none)(e:sQ ((cr P t).map jc) U=.ok v U'):nt P H U w (Instr.alloc t true (.tuple #[])) v U':=by
 cases a:cr P t with
 |none=>rw[a] at e;cases e
 |some z=>
  rw[a] at e;cases e;let⟨u,b,c,d,_⟩:=zK a;have q:=tJ (c H) d;refine⟨_,_,_,?_,OZ w.heap.size,Dm (e:=t) g f q.1 q.2⟩;simp[Instr.alloc,b,newVar,XT]
def abj{u:Value}(c:HF H U.f w)(b:H U.h=none)(d:VR H x u)(e:sQ (dZ x) U=.ok v U'):nt P H U w (Instr.box t u) v U':=by
 cases a:dZ x with
 |none=>rw[a] at e;cases e
 |some l=>
  rw[a] at e;cases e;have q:=tJ d a;refine⟨_,_,_,?_,OZ w.heap.size,Dm (e:=t) c b q.1 q.2⟩;simp[Instr.box,newVar,XT]
def Ta{u:Value}(K:HF H U.f w)(W:VR H x u)(e:sM (bS P t) x U=.ok v U'):U'=U/\gD P H w (Instr.loadAt t u) v:=by
 unfold sM at e;split at e
 case h_2=>cases e
 rename_i s y h b d k;obtain⟨B,o,m,F,rfl⟩:=sE.1 W;have f:=K.bT b B o m F;unfold yP at e;split at e
 case h_2=>cases e
 rename_i ro l D;rw[D] at f;have f:CR H ro l B o m w:=f;have g:∀{u:Value},(loadVar t ⟨B,o+d,none⟩).run P w=.ok u w->(Instr.loadAt t (.pointer (some ⟨B,o+d,none⟩))).run P w=.ok u w:=λV=>by simp[Instr.loadAt,Instr.sureAddr,V]
 cases h with
 |true=>
  dsimp only at e;split at e<;>cases e;rename_i I;let⟨n,i,r,z,_⟩:=Tu (P:=P) f I (.inl R);refine⟨R,.agg ⟨n⟩,g ?_,rP.2 ⟨n,R,r,z⟩⟩;simp[loadVar,MF k,kK k,i w R]
 |false=>
  let⟨c,ty,fz,i,_,_,_,C⟩:=f;have e:Gx l[d]? U=.ok v U':=e;cases j:l[d]? with
  |none=>rw[j] at e;cases e
  |some a=>
   rw[j] at e;cases e;let⟨u,p,q,_⟩:=C d _ j;refine⟨R,u,g ?_,q⟩
   have:w.cell? ⟨B,o+d,none⟩=some u:=by rw[Jk i];exact p
   simp[loadVar,MF k,this]
def aiX{u g:Value}(n:HF H U.f w)(z:VR H x u)(C:VR H y g)(e:Bs (bS P t) x y U=.ok v U'):v=bp/\∃c,(Instr.storeAt t u g).run P w=.ok () c/\cu H H U U' w c:=by
 unfold Bs at e;split at e
 case h_2=>cases e
 rename_i s _ h b a p;obtain⟨B,o,D,m,rfl⟩:=sE.1 z;cases d:dZ y with
 |none=>rw[d] at e;cases e
 |some r=>
  rw[d] at e;have q:=tJ C d;have e:HP s b a r (U.f b) U=.ok v U':=e;unfold HP at e;split at e
  case h_2=>cases e
  rename_i l k;split at e<;>cases e;rename_i F;let⟨c,i,j⟩:=HU (P:=P) (r:=r) (j:=a) n m k Y q.1 q.2 (.inl R);refine⟨R,c,?_,j⟩;have f:g.cells.size=s:=by have:=q.1.len;simp at this;omega
  simp[Instr.storeAt,Instr.sureAddr,storeVar,kK p,f,i]
def ad4{u:Value}{f:Nat}(r:VR H x u)(e:yI (qV (av P t) f) x U=.ok v U'):U'=U/\gD P H w (Instr.fieldAt t u f) v:=by
 unfold yI at e;split at e
 case h_2=>cases e
 rename_i j b i a;split at e<;>cases e;rename_i s;unfold qV at a;split at a
 case h_2=>cases a
 rename_i y h;let⟨F,hu,d⟩:=HY h;let⟨g,c,l,m,n,_,_⟩:=FY d f j a;obtain⟨B,o,k,p,rfl⟩:=sE.1 r;refine⟨R,.pointer (some ⟨B,o+(i+j.o),none⟩),?_,sE.2 ⟨B,o,k,p,R⟩⟩;have q:F[f]?=some g:=by simpa using l
 simp[Instr.fieldAt,run_underlying hu,q,Instr.sureAddr,Go.fieldPlace,kK m,s,Addr.qO,n,oK]
def ad5{u:Value}{f:Nat}(n:VR H x u)(e:yJ (qV (av P t) f) x U=.ok v U'):U'=U/\gD P H w (Instr.field t u f) v:=by
 unfold yJ at e;split at e
 case h_2=>cases e
 rename_i i s a;unfold qV at a;split at a
 case h_2=>cases a
 rename_i y d;let⟨F,hu,b⟩:=HY d;let⟨g,c,j,k,l,_,_⟩:=FY b f i a;obtain⟨z,rfl,p,q2⟩:=rP.1 n;unfold ia at e;split at e<;>cases e;rename_i o;let⟨r,h,q⟩:=Hb (P:=P) (w:=w) k p q2 o;have m:F[f]?=some g:=by simpa using j
 rw[l] at h;exact⟨R,r,by simp[Instr.field,run_underlying hu,m,Go.asAgg,h],q⟩
def tV{i:AV}{u:Value}{k:Nat->aZ}(a:VR H i u)(e:mm i k=.ok v U'):∃(b:IntKind) (n:Nat),u=.int b (n:Int)/\k n=.ok v U':=by
 unfold mm at e;split at e
 case h_2=>cases e
 split at e
 case isFalse=>cases e
 rename_i h;obtain⟨_,rfl⟩:=jP.1 a;exact⟨_,_,by rw[qA h],e⟩
def aew{i:AV}{u C:Value}(z:VR H x u)(y:VR H i C)(e:wE (av P t) x i U=.ok v U'):U'=U/\gD P H w (Instr.indexAt t u C) v:=by
 unfold wE at e;split at e
 case h_3=>cases e
 .rename_i K s g b d r I a;let⟨q,D,p⟩:=nO a;obtain⟨W,n,rfl,e⟩:=tV y e;split at e<;>cases e;rename_i h;obtain⟨B,o,f,c,ad,k,rfl,V,j,_⟩:=iE.1 z;obtain rfl:=j.resolve_right Y;refine⟨R,.pointer (some ⟨B,o+(d+n*s),none⟩),?_,sE.2 ⟨B,o,f,k,R⟩⟩;have l:(0:Int)<=n/\(n:Int)<r:=Y;simp[Instr.indexAt,asIntOf,run_underlying q,l.1,h,kK p,Addr.qO,oK]
 .rename_i m K s D b d a;let⟨q,F,p⟩:=BB a;obtain⟨W,n,rfl,e⟩:=tV y e;split at e<;>cases e;rename_i h;obtain⟨B,o,f,k,rfl⟩:=sE.1 z;refine⟨R,.pointer (some ⟨B,o+(d+n*s),none⟩),?_,sE.2 ⟨B,o,f,k,R⟩⟩;have l:(0:Int)<=n/\(n:Int)<m:=Y;simp[Instr.indexAt,asIntOf,run_underlying q,Instr.sureAddr,l.1,h,kK p,Addr.qO,oK]
def aeV{i:AV}{u o:Value}(k:VR H x u)(j:VR H i o)(e:yN (av P t) x i U=.ok v U'):U'=U/\gD P H w (Instr.index t u o) v:=by
 unfold yN at e;split at e
 case h_3=>cases e
 .rename_i b;obtain⟨z,n,rfl,e⟩:=tV j e;obtain⟨s,rfl,rfl,rfl⟩:=mc.1 k;split at e<;>cases e;rename_i a;have d:=(s.data.toList[n]' a).toNat_lt;refine⟨R,.int .u8 ((s.data.toList[n]' a).toNat:Int),?_,by rw[Yq _ _ a];exact jP.2 ⟨d,by rw[Lq d]⟩⟩;have f:n<s.size:=by simpa using a
  have g:=ByteArray.getElem?_lt' s n f;rw[show s[n]=s.data.toList[n]' a by simp[ByteArray.getElem_eq_getElem_data]] at g;simp[Instr.index,asIntOf,run_underlying (ti b),g]
 .rename_i m I s F l b;let⟨q,c,h⟩:=BB b;obtain⟨z,n,rfl,e⟩:=tV j e;split at e
  case isFalse=>cases e
  rename_i a;unfold ia at e;split at e<;>cases e;rename_i y;obtain⟨K,rfl,B,q2⟩:=rP.1 k;let⟨r,C,D⟩:=Hb (P:=P) (w:=w) h B q2 y;have p:(0:Int)<=n:=Y;exact⟨R,r,by simp[Instr.index,asIntOf,run_underlying q,p,a,kK h,C],D⟩
def adx{u:Value}(b:VR H x u)(e:yA x i U=.ok v U'):U'=U/\gD P H w (Instr.extract u i) v:=by
 unfold yA at e;split at e
 case h_2=>cases e
 obtain⟨f,rfl,d⟩:=Ad.1 b;unfold ia at e;split at e<;>cases e;rename_i c;let⟨r,hu,a⟩:=d.get c
 have:(⟨f⟩:Array Value)[i]?=some r:=by simpa using hu
 exact⟨R,r,by simp[Instr.extract,this],a⟩
end
end
section
variable {x:AV}{b j r s:Nat}
section
variable {P:Program}{H:Ren}{U U':HN}{w:World}{t:TypeId}{v:AV}
def BU(u:Option Value)(d n:Nat):Prop:=match u with|none=>n=d|some x=>∃a,x=.int a (n:Int)
def OR(H:Ren)(o:Option AV)(u:Option Value):Prop:=match o,u with|none,none=>True|some x,some y=>VR H x y|_,_=>False
def OR.no{u:Option Value}(h:OR H none u):u=none:=by cases u<;>first|rfl|exact h.elim
def OR.so{u:Option Value}(h:OR H (some x) u):∃y,u=some y/\VR H x y:=by
 cases u with
 |none=>exact h.elim
 |some y=>exact⟨y,R,h⟩
def PJ{o:Option AV}{u:Option Value}{d:Nat}{k:Nat->aZ}(a:OR H o u)(e:tH o d k=.ok v U'):∃n,BU u d n/\k n=.ok v U':=by
 cases o with
 |none=>rw[a.no];exact⟨d,R,e⟩
 |some x=>
  obtain⟨y,rfl,b⟩:=a.so;obtain⟨c,n,rfl,e⟩:=tV b e;exact⟨n,⟨c,R⟩,e⟩
def wj{f c:Option AV}{g d:Option Value}{b:Nat}{k:Nat->Nat->aZ}(m:OR H f g)(n:OR H c d)(e:mO f c r b k=.ok v U'):∃l a,BU g 0 l/\BU d r a/\l<=a/\a<=b/\k l a=.ok v U':=by
 let⟨l,i,e⟩:=PJ m e;let⟨a,j,e⟩:=PJ n e;split at e
 .rename_i h;exact⟨l,a,i,j,h.1,h.2,e⟩
 .cases e
def vz{u:Value}{c:IntKind}{n y:Nat}{a:BoundsCode}(b:u=.int c (n:Int))(d:n<=y):(Instr.sliceBound u y a).run P w=.ok n w:=by
 subst b
 have:(0:Int)<=n/\(n:Int)<=y:=Y
 simp[Instr.sliceBound,asIntOf,this]
def Hy{j:Bool}{b l e m:Nat}{k f h:Option Value}(c:BU k 0 l)(a:BU f r e)(g:BU h b m)(i:l<=e)(d:e<=m)(n:m<=b)(o:f=none->h=none):
  (Instr.sliceBounds j r b k f h).run P w=.ok (l,e,m) w:=by
 cases h<;>cases f<;>cases k<;>(try cases o R)<;>obtain⟨_,c⟩:=c<;>obtain⟨_,a⟩:=a<;>obtain⟨_,g⟩:=g<;>first
  |(simp[Instr.sliceBounds,vz c i,vz a d,vz g n];done)
  |(simp[Instr.sliceBounds,vz a d,vz g n];done)
  |(simp[Instr.sliceBounds,vz c i,vz a d];done)
  |(simp[Instr.sliceBounds,vz a d];done)
  |(simp[Instr.sliceBounds,vz c i];done)
  |(simp[Instr.sliceBounds];done)
def HM{l a c B o d:Nat}{f:Addr}(h:H b=some (B,o,d))(g:f=⟨B,o+j,none⟩\/c=0)(k:l<=a)(m:a<=c)(e:sq b j l a c s U=.ok v U'):
  U'=U/\VR H v (.slice (some (if c=l then f else f.add (l*s))) (a-l) (c-l)):=by
 unfold sq at e;split at e<;>cases e
 .rename_i i;exact⟨R,iE.2 ⟨B,o,d,c-l,_,h,by rw[show a-l=0 by omega],Y,.inr Y,show c-l=0 by omega⟩⟩
 .rename_i i;exact⟨R,iE.2 ⟨B,o,d,c-l,_,h,R,Y,.inl (by rw[ac i,g.resolve_right Y,Addr.qO,oK]),R⟩⟩
def aiQ{u:Value}{lo hi mx:Option AV}{lu hu mu:Option Value}(hx:VR H x u)(K:OR H lo lu)(I:OR H hi hu)(a2:OR H mx mu)(a6:hu=none->mu=none)
  (e:mV (av P t) x lo hi mx U=.ok v U'):U'=U/\gD P H w (Instr.sliceAt t u lu hu mu) v:=by
 have sl:∀{b j V g B o a3 c:Nat} {cap:Cp} {ad:Addr} {el d:Nat} (td:av P t=.a el g d) (W:H b=some (B,o,a3)) (i:V<=c) (f:ad=⟨B,o+j,none⟩\/c=0),u=.slice (some ad) V c->
   (∀{l hh m},BU lu 0 l->BU hu V hh->BU mu c m->l<=hh->hh<=m->m<=c->VR H v (.slice (some (if m=l then ad else ad.add (l*g))) (hh-l) (m-l))->gD P H w (Instr.sliceAt t u lu hu mu) v):=by
  rintro b j V g B o a3 c cap ad el d td W i f rfl l hh m D F b3 q z h3 h4
  let⟨a1,ag,C⟩:=nO td;have p:=Hy (P:=P) (w:=w) (j:=true) D F b3 q z h3 a6;exact⟨_,by by_cases b0:m=l<;>simp[Instr.sliceAt,Instr.slice,run_underlying a1,p,kK C,b0],h4⟩
 have hd:∀{b j V:Nat} {cap:Cp} {r:aZ} {el g d:Nat},av P t=.a el g d->x=.a b j V cap->mx=none->sn lo hi b j V cap U r=.ok v U'->(U'=U/\gD P H w (Instr.sliceAt t u lu hu mu) v)\/r=.ok v U':=by
  rintro b j V cap r el g d td rfl rfl e
  unfold sn at e;split at e
  case h_2=>exact .inr e
  rename_i y;obtain⟨y',rfl,hy⟩:=I.so;obtain⟨kd,m,rfl,e⟩:=tV hy e;split at e
  case isFalse=>exact .inr e
  rename_i hm;cases e;obtain rfl:=K.no;obtain rfl:=a2.no;obtain⟨B,o,a3,c,ad,W,rfl,i,f,a0⟩:=iE.1 hx;refine .inl ⟨R,sl (cap:=cap) td W i f R (l:=0) (hh:=m) (m:=c) R ⟨kd,R⟩ R (aJ _) (bC hm i) (ak _) (iE.2 ⟨B,o,a3,c,_,W,R,Y,?_,a0⟩)⟩;by_cases a4:c=0
  .exact .inr a4
  .rw[ac a4,f.resolve_right a4,Addr.qO,lq];exact .inl R
 have a5:∀{y:AV} {k:Nat->aZ} {c:Nat},mx=some y->mm y k=.ok v U'->∃m,BU mu c m/\k m=.ok v U':=by
  rintro y k c rfl e
  obtain⟨y',rfl,hy⟩:=a2.so;obtain⟨kd,m,rfl,e⟩:=tV hy e;exact⟨m,⟨kd,R⟩,e⟩
 have a8:∀{el g d l hh:Nat},av P t=.a el g d->u=.slice none 0 0->v=.e->BU lu 0 l->BU hu 0 hh->BU mu 0 0->l<=hh->hh<=0->gD P H w (Instr.sliceAt t u lu hu mu) v:=by
  rintro el g d l hh td rfl rfl D F b3 q z
  let⟨a1,ag,C⟩:=nO td;obtain rfl:l=0:=Y;obtain rfl:hh=0:=Y;have p:=Hy (P:=P) (w:=w) (j:=true) D F b3 q z (ak _) a6;exact⟨_,by simp[Instr.sliceAt,Instr.slice,run_underlying a1,p,kK C],qN.2 R⟩
 have a7:∀{ad:Addr} {B o j c m:Nat},(ad=⟨B,o+j,none⟩\/c=0)->m<=c->(ad=⟨B,o+j,none⟩\/m=0):=λq z=>q.imp_right Y;unfold mV at e;split at e
 case h_10=>cases e
 .rename_i n s a;obtain rfl:=a2.no;let⟨l,hh,D,F,q,z,e⟩:=wj K I e;cases e;obtain⟨bs,rfl,rfl,rfl⟩:=mc.1 hx;have p:=Hy (P:=P) (w:=w) (j:=false) (h:=none) D F R q z (ak _) λ_=>R;have b4:N bs.data.toList=bs.size:=R;rw[b4] at p z;have hc:(bs.extract l hh).data.toList=(bs.data.toList.drop l).take (hh-l):=by simp[ZD]
  refine⟨R,.string (bs.extract l hh),by simp[Instr.sliceAt,Instr.slice,run_underlying (ti a),p],mc.2 ⟨_,R,?_,?_⟩⟩
  .rw[hc];simp;omega
  .rw[hc,<-Ys]
 .rename_i a;obtain rfl:=a2.no;let⟨l,hh,D,F,q,z,e⟩:=wj K I e;cases e;exact⟨R,a8 a (qN.1 hx) R D F R q z⟩
 .rename_i a;let⟨m,b3,e⟩:=a5 (c:=0) R e;split at e
  case isFalse=>cases e
  rename_i hm;subst hm;let⟨l,hh,D,F,q,z,e⟩:=wj K I e;cases e;exact⟨R,a8 a (qN.1 hx) R D F b3 q z⟩
 .rename_i a;rcases hd a R R e with h|e
  .exact h
  obtain rfl:=a2.no;obtain⟨B,o,a3,c,ad,W,rfl,i,f,rfl⟩:=iE.1 hx;let⟨l,hh,D,F,q,z,e⟩:=wj K I e;obtain⟨rfl,hv⟩:=HM W f q z e;exact⟨R,sl (cap:=.k 0) a W i f R D F R q z (ak _) hv⟩
 .rename_i a;obtain⟨B,o,a3,c,ad,W,rfl,i,f,rfl⟩:=iE.1 hx;let⟨m,b3,e⟩:=a5 (c:=c) R e;split at e
  case isFalse=>cases e
  rename_i hm;let⟨l,hh,D,F,q,z,e⟩:=wj K I e;obtain⟨rfl,hv⟩:=HM W (a7 f hm) q z e;exact⟨R,sl (cap:=.k 0) a W i f R D F b3 q z hm hv⟩
 .rename_i s _ b j V es a;rcases hd a R R e with h|e
  .exact h
  split at e
  case isFalse=>cases e
  rename_i hs;subst hs;obtain rfl:=a2.no;obtain⟨B,o,a3,c,ad,W,rfl,i,f,a0⟩:=iE.1 hx;have a0:o+j+c*es=a3:=a0;let⟨l,hh,D,F,q,z,e⟩:=wj K I e;cases e;refine⟨R,sl (cap:=.k 0) a W i f R D F R q (bC z i) (ak _) (iE.2 ⟨B,o,a3,c-l,_,W,R,Y,?_,?_⟩)⟩
  .by_cases a9:c=l
   .exact .inr Y
   .rw[ac a9,f.resolve_right Y,Addr.qO,oK];exact .inl R
  .show o+(j+l*es)+(c-l)*es=a3
   have:l*es+(c-l)*es=c*es:=by rw[<-xE];congr 1;omega
   omega
 .rename_i a;obtain⟨B,o,a3,c,ad,W,rfl,i,f,a0⟩:=iE.1 hx;split at e
  case isFalse=>cases e
  rename_i hs;subst hs;let⟨m,b3,e⟩:=a5 (c:=c) R e;split at e
  case isFalse=>cases e
  rename_i hm;have hm:=bC hm i;let⟨l,hh,D,F,q,z,e⟩:=wj K I e;obtain⟨rfl,hv⟩:=HM W (a7 f hm) q z e;exact⟨R,sl (cap:=.k 0) a W i f R D F b3 q z hm hv⟩
 .rename_i n el g ag b j a;obtain rfl:=a2.no;let⟨a1,b5,C⟩:=BB a;obtain⟨B,o,a3,W,rfl⟩:=sE.1 hx;let⟨l,hh,D,F,q,z,e⟩:=wj K I e;obtain⟨rfl,hv⟩:=HM (f:=⟨B,o+j,none⟩) W (.inl R) q z e;have p:=Hy (P:=P) (w:=w) (j:=false) D F (h:=none) R q z (ak _) λ_=>R;exact⟨R,_,by simp[Instr.sliceAt,Instr.sureAddr,run_underlying a1,p,kK C],hv⟩
 .rename_i a;rcases hd a R R e with h|e
  .exact h
  .cases e
end
end
section
variable {b j r:Nat}
section
variable {P:Program}{H:Ren}{U U':HN}{w:World}{t:TypeId}{v:AV}
def nJ(n:Nat)(us:Array Value):L Value:=(List.range (n*us.size)).map (us[· % us.size]!)
def Bl(n:Nat)(us:Array Value):(Array.range (n*us.size)).map (us[· % us.size]!)=⟨nJ n us⟩:=by unfold nJ;grind
def DU(l:L AV):∀n,N (jU n l)=n*N l
 |0=>by simp[jU]
 |n+1=>by have:=DU l n;unfold jU at*;rw[BV,ir,ay,this,tv];omega
def XK(l:L AV):∀n i,i<n*N l->(jU n l)[i]?=l[i%N l]?
 |0,i,h=>Y
 |n+1,i,h=>by
  have b:=XK l n (i-N l);rw[tv] at h;unfold jU at*;rw[BV,ir];by_cases a:i<N l
  .rw[tp a,Ew a]
  .rw[vN Y,b Y,Nat.mod_eq_sub_mod (a:=i) Y]
def ER{l:List AV}{us:Array Value}(h:VL H l us.toList)(f:∀u∈us.toList,u.oneCell'=true)(n:Nat):VL H (jU n l) (nJ n us)/\∀u∈nJ n us,u.oneCell'=true:=by
 unfold nJ;have b:us.size=l.length:=by have:=h.len;simpa using this
 have g:∀i,i<n*us.size->us.toList[i%us.size]?=some us[i%us.size]!:=λi c=>by
  have a:0<us.size:=Oq λd=>by rw[d] at c;omega
  have:=BZ i a
  simp[this]
 refine⟨VL.iff.2 ⟨by rw[DU];simp[b],λi a c=>?_⟩,λu j=>?_⟩
 .have a:i<n*l.length:=by have:=(xB.1 c).1;rwa [DU] at this
  rw[XK l n i a,<-b] at c;let⟨u,d,e⟩:=h.get c;rw[g i (b▸a)] at d;exact⟨u,by simp[b▸a,jX d],e⟩
 .obtain⟨i,c,rfl⟩:=cN.1 j;exact f _ (qI (g i (BS.1 c)))
def RY(a:Nat):∀(l:L Value) (k:Nat) (b:Array Value),a+k+N l<=b.size->(l.zipIdx k).foldl (λb (x:Value×Nat)=>b.setIfInBounds (a+x.2) x.1) b=oF b (a+k) l
 |[],k,b,_=>by simp[oF]
 |v::l,k,b,h=>by
  simp at h;rw[List.zipIdx_cons,N7,RY a l (k+1) _ J];apply BL;intro m;rw[vD _ _ _ J,vD _ _ _ (by simp;omega)];grind
def aiW{c l:L AV}{us:Array Value}{g:L Value}(e:VL H c us.toList)(f:VL H l g)(h:j+N l<=N c):VL H (dz c j l) (oF us j g).toList:=by
 have d:=e.len;have k:=f.len;simp only[ZA] at d;refine VL.iff.2 ⟨by rw[HE,<-d];exact Br _ _ _ Y,λi a b=>?_⟩;rw[HD _ _ _ _ h] at b;rw[zL,vD _ _ _ Y,k];split at b<;>rename_i q
 .rw[ae q];exact f.get b
 .have:=e.get b
  rw[ac q]
  rwa [zL] at this
def Kk{z:FN}{f:Operand->Value}{d:Nat->Option (Nat×Nat)}:∀(a:L (Nat×Operand)) (h:L AV) (us:Array Value) {g:L AV},VL H h us.toList->(∀u∈us.toList,u.oneCell'=true)->
  (∀p∈a,VR H (au z p.2) (f p.2))->qW z d a h=some g->∃c,Instr.fill d us (a.map λp=>(p.1,f p.2))=some c/\VL H g c.toList/\(∀u∈c.toList,u.oneCell'=true)/\c.size=us.size
 |[],h,us,g,k,j,_,e=>by cases e;exact⟨us,R,k,j,R⟩
 |p::a,h,us,g,k,j,s,e=>by
  unfold qW at e;split at e
  case h_2=>cases e
  rename_i b i l n C;split at e
  case isFalse=>cases e
  rename_i V;have q:=tJ (s p dp) C;have o:(f p.2).cells.size=i:=by have:=q.1.len;simp at this;omega
  have r:us.size=N h:=by have:=k.len;simpa using this
  have m:∀u∈(oF us b (f p.2).cells.toList).toList,u.oneCell'=true:=λu hu=>by
   unfold oF at hu;simp only[bA] at hu;rcases hu with(hu|hu)|hu
   .exact j u (rE hu)
   .exact q.2 u hu
   .exact j u (Iv hu)
  let⟨c,r1,F,I,K⟩:=Kk a _ _ (aiW k q.1 (show b+N l<=N h by omega)) m (λx D=>s x (by simp[D])) e;refine⟨c,?_,F,I,by rw[K,Br _ _ _ (by simp;omega)]⟩;rw[iL];unfold Instr.fill;rw[n];have B:((de ((f p.2).cells.size≠i))||de (b+(f p.2).cells.size>us.size))=false:=by rw[o,r];simp;omega
  have W:(f p.2).cells.zipIdx.foldl (λh (x:Value×Nat)=>h.setIfInBounds (b+x.2) x.1) us=oF us b (f p.2).cells.toList:=by
   rw[<-Array.foldl_toList,show(f p.2).cells.zipIdx.toList=(f p.2).cells.toList.zipIdx 0 by simp];exact RY b _ 0 us (by simp;omega)
  grind
def Ma{b:Operand->Value}(a:Array (Nat×Operand)):(a.map λ(i,x)=>(i,b x)).toList=a.toList.map λp=>(p.1,b p.2):=by simp
def WD:∀{l:L Field} {c:L FD},tS P l=some c->l.mapM (λf=>(P.info? f.type).map λi=>(f.offset,i.size))=some (c.map λd=>(d.o,d.size))
 |[],c,h=>by cases h;rfl
 |f::l,c,h=>by
  unfold tS at h;split at h<;>cases h;rename_i x n e k;unfold Kf at e;split at e<;>cases e;rename_i s b a m;let⟨i,d,g,_,j,_⟩:=uw m;simp[g,WD k,j]
def adM(a:L FD):fieldPlace a=λi=>((a.map λd=>(d.o,d.size)).toArray)[i]?:=by
 funext i;unfold fieldPlace;simp only[ZT,pF];cases a[i]?<;>rfl
def abd{m:FN}{h:Operand->Value}{a:Array (Nat×Operand)}(D:∀p∈a.toList,VR H (au m p.2) (h p.2))(e:wg (av P t) (cr P t) m a.toList U=.ok v U'):
  U'=U/\gD P H w (Instr.build t (a.map λ(i,x)=>(i,h x))) v:=by
 unfold wg at e;split at e
 case h_3=>cases e
 all_goals
  rename_i z d I;let⟨u,_,s,B,i,j,k,_⟩:=zK I;have q:=tJ (s H) B;unfold xY at e;split at e<;>cases e;rename_i W C;let⟨f,l,K,V,r4⟩:=Kk _ _ u.cells q.1 q.2 D C;refine⟨R,.agg f,run_build w t _ _ ?_,rP.2 ⟨f.toList,R,K,V⟩⟩;unfold Program.built
 .let⟨b,n,c⟩:=BB d;let⟨ie,a0,o,_,r,_⟩:=uw c;rw[j,b];simp only[k,o];rw[Ma,r];exact l
 .let⟨F,b,g⟩:=HY d;rw[j,b];simp only[k,WD g];rw[Ma,<-adM];exact l
def IT{B a c:Nat}(h:r<=c):VR (H.add b (B,0,a)) (.a b 0 r (.k c)) (.slice (some ⟨B,0,none⟩) r c):=iE.2 ⟨B,0,a,c,_,sF,R,h,.inl R,R⟩
def abe{I:FN}{g:Operand->Value}{a:Array (Nat×Operand)}(C:HF H U.f w)(B:H U.h=none)(hp:∀p∈a.toList,VR H (au I p.2) (g p.2))(e:wi P (av P t) r I a.toList U=.ok v U'):
  nt P H U w (Instr.buildSlice t r (a.map λ(i,x)=>(i,g x))) v U':=by
 unfold wi at e;split at e
 case h_2=>cases e
 rename_i f F K k;let⟨c,ag,b⟩:=nO k;split at e
 .rename_i l;split at e<;>cases e;rename_i j;obtain rfl:a=#[]:=by simpa using j
  refine⟨_,_,_,?_,IT (ak _),Dm (e:=f) (a:=[]) C B VL.nil dp⟩;have V:(Array.map (λ_=>(default:Value)) (Array.range 0))=⟨[]⟩:=by simp[Array.range]
  simp[Instr.buildSlice,run_underlying c,kK b,l,Instr.fill,newRow];rw[V]
 .rename_i l;split at e
  case isFalse=>cases e
  rename_i hb;split at e
  case h_2=>cases e
  rename_i z m;let⟨u,_,W,h3,i,s,h5,h6,_⟩:=zK m;have q:=tJ (W H) h3;let⟨ie,a0,o,_,h,_⟩:=uw b;rw[s] at o;cases o;have D:=ER q.1 q.2 r;unfold th at e;split at e<;>cases e;rename_i hf;let⟨n,r1,r2,r3,r4⟩:=Kk _ _ ⟨nJ r u.cells⟩ D.1 D.2 hp hf;have d:=run_buildSlice w t f r (a.map λ(i,x)=>(i,g x)) n i u c s h5 (by rw[h];exact On.2 hb) (by rw[h];exact l) (by rw[Ma,<-r1,<-Bl,h6,h]);exact⟨_,_,_,d,IT (ak _),Dm (e:=f) C B r2 r3⟩
def Uq{n:Nat}(h:n<=9223372036854775807):cT .i64 n=true:=sT.2 (show n<9223372036854775808 by omega)
def afP{l c:AV}{I F:Value}(hr:HF H U.f w)(hn:H U.h=none)(hl:VR H l I)(hc:VR H c F)(e:vk P (av P t) l c U=.ok v U'):nt P H U w (Instr.makeSlice t I F) v U':=by
 unfold vk at e;split at e
 case h_2=>cases e
 rename_i r D h m;let⟨g,ag,d⟩:=nO m;split at e
 case h_2=>cases e
 rename_i z n;let⟨u,_,K,V,i,B,W,h6,_⟩:=zK n;have q:=tJ (K H) V;obtain⟨kl,ln,rfl,o⟩:=tV hl e;obtain⟨kc,f,rfl,p⟩:=tV hc o;clear e o;split at p<;>cases p;rename_i hh;let⟨k,j,b⟩:=hh;have a0:=bC (Ol f (Oq j)) b;let⟨ie,a1,s,_,g3,g4,_⟩:=uw d;rw[B] at s;cases s;have C:=ER q.1 q.2 f;refine⟨_,_,_,?_,IT k,Dm (e:=r) hr hn C.1 C.2⟩;have a:=run_make (P:=P) w t r i u g B W kl kc (ln:Int) (f:Int) Y Y J Y;simp only[Int.toNat_natCast] at a;rw[a,show madeCells u.cells (f*i.size)=⟨nJ f u.cells⟩ by rw[<-Bl,<-h6];rfl]
 rfl
def afO{b:FN}{a:Operand->Value}{c:Fn}{x y:Array Operand}(d:∀z∈x.toList,VR H (au b z) (a z))(f:∀z∈y.toList,VR H (au b z) (a z))(e:yW c (x.toList.map (au b)) (y.toList.map (au b)) U=.ok v U'):
  U'=U/\gD P H w (Instr.makeFunc c (x.map a) (y.map a)) v:=by
 unfold yW at e;split at e<;>cases e;exact⟨R,_,R,IR.2 ⟨(x.map a).toList,(y.map a).toList,R,by rw[Ek];exact VL.map d,by rw[Ek];exact VL.map f⟩⟩
variable {ts:Array TypeId}{ty:TypeId}{us:Array Value}{x y:AV}{u u':Value}
def IS{n:Nat}(h:n<=9223372036854775807):VR H (.i .i64 n) (goInt n):=jP.2 ⟨show n<18446744073709551616 by omega,by rw[qA (Uq h)];rfl⟩
def Tl{n:Nat}(e:mr n U=.ok v U'):U'=U/\VR H v (goInt n):=by
 unfold mr at e;split at e<;>cases e;rename_i h;exact⟨R,IS h⟩
def afs(b:ts[0]?=some t)(d:us[0]?=some u)(f:VR H x u)(e:eF (av P t) x U=.ok v U'):U'=U/\gD P H w (Builtin.len_ ts ty us) v:=by
 unfold eF at e;split at e
 case h_5=>cases e
 all_goals
  rename_i a;obtain⟨rfl,h⟩:=Tl (H:=H) e
 .obtain⟨g,rfl,rfl,rfl⟩:=mc.1 f;exact⟨rfl,goInt g.size,by simp[Builtin.len_,b,d,run_underlying (ti a)],h⟩
 .obtain rfl:=qN.1 f;exact⟨rfl,goInt 0,by simp[Builtin.len_,b,d,run_underlying (nO a).1],h⟩
 .obtain⟨B,o,i,c,j,k,rfl,_⟩:=iE.1 f;exact⟨rfl,_,by simp[Builtin.len_,b,d,run_underlying (nO a).1],h⟩
 .exact⟨rfl,_,by simp[Builtin.len_,b,d,run_underlying (BB a).1],h⟩
def abE(b:ts[0]?=some t)(d:us[0]?=some u)(f:VR H x u)(e:yt (av P t) x U=.ok v U'):U'=U/\gD P H w (Builtin.cap_ ts ty us) v:=by
 unfold yt at e;split at e
 case h_3=>cases e
 all_goals
  rename_i a;obtain⟨rfl,h⟩:=Tl (H:=H) e
 .obtain rfl:=qN.1 f;exact⟨rfl,goInt 0,by simp[Builtin.cap_,b,d,run_underlying (nO a).1],h⟩
 .obtain⟨B,o,g,c,i,j,rfl,_,_,rfl⟩:=iE.1 f;exact⟨rfl,_,by simp[Builtin.cap_,b,d,run_underlying (nO a).1],h⟩
def afN(g:us.toList=[u,u'])(i:VR H x u)(j:VR H y u')(e:ia (yV x y) U=.ok v U'):U'=U/\gD P H w (Builtin.min_ ts ty us) v:=by
 unfold ia yV at e;split at e<;>cases e;rename_i e;split at e
 case h_2=>cases e
 rename_i k a l b;split at e<;>cases e;rename_i c;obtain rfl:=(ou k l).1 c;obtain⟨d,rfl⟩:=jP.1 i;obtain⟨f,rfl⟩:=jP.1 j;refine⟨R,.int k (if bg k b<bg k a then bg k b else bg k a),by simp[Builtin.min_,g,Builtin.min2],?_⟩;rw[<-Dd f d];by_cases h:bg k b<bg k a<;>simp only[h,vR,uD,decide_true,decide_false,xA]<;>exact jP.2 ⟨by assumption,R⟩
end
end
section
variable {x:AV}{b j r:Nat}
section
variable {P:Program}{H:Ren}{U U':HN}{w:World}{t:TypeId}{v:AV}
def Ia{e:TypeId}(h:wF (av P e)=true):P.underlying e=some (.int .u8):=by
 unfold wF at h;split at h
 .exact BC (by assumption)
 .cases h
def Je:∀(n:Nat) (l:L UInt8),n<=N l->wk n (aY l)=(l.take n).map (λb=>AV.i .u8 b.toNat)
 |0,_,_=>rfl
 |n+1,[],h=>by simp at h
 |n+1,b::l,h=>by
  have a:=b.toNat_lt;rw[wk,aY,show(b.toNat+256*aY l)%256=b.toNat by omega,show(b.toNat+256*aY l)/256=aY l by omega,Je n l (by simpa using h)]
  rfl
def PN(l:L UInt8):wk (N l) (aY l)=l.map (λb=>AV.i .u8 b.toNat):=by rw[Je _ _ (ak _),hU]
def IQ(H:Ren)(l:L UInt8):VL H (l.map (λb=>AV.i .u8 b.toNat)) (l.map λb=>Value.int .u8 b.toNat):=VL.map λb _=>jP.2 ⟨b.toNat_lt,by rw[Lq b.toNat_lt]⟩
def LW(l:L UInt8):∀u∈l.map λb=>Value.int .u8 b.toNat,u.oneCell'=true:=λu a=>by obtain⟨b,_,rfl⟩:=cN.1 a;rfl
def PO:∀{l:L AV} {d:L Value} {n:Nat},VL H l d->yp l=some n->∃a:L UInt8,d=(a.map λb=>Value.int .u8 b.toNat)/\n=aY a/\N a=N l
 |[],d,n,h,e=>by unfold VL at h;cases e;exact⟨[],h,R,R⟩
 |x::l,d,n,h,e=>by
  unfold yp at e;split at e
  case h_1=>rename_i q;cases q
  case h_3=>cases e
  rename_i q;cases q;split at e<;>cases e;rename_i m j;unfold VL at h;obtain⟨u,r,rfl,f,g⟩:=h;obtain⟨c,rfl⟩:=jP.1 f;obtain⟨a,rfl,rfl,i⟩:=PO g j;rename_i k _;have c:k<256:=c;refine⟨UInt8.ofNat k::a,?_,?_,by simp[i]⟩
  .rw[Lq c,iL,aag c]
  .rw[aY,aag c]
def WT:∀(c a:L UInt8),(c.foldl (λ(s:ByteArray) b=>s.push b) ⟨⟨a⟩⟩)=⟨⟨a++c⟩⟩
 |[],a=>by simp
 |b::c,a=>by
  rw[N7,show(⟨⟨a⟩⟩:ByteArray).push b=⟨⟨a++[b]⟩⟩ by simp[ByteArray.push],WT c (a++[b])];simp
def aiu{a:L UInt8}{f:Addr}{c:Nat}(d:(loadCells f r).run P w=.ok ⟨a.map λb=>Value.int .u8 b.toNat⟩ w):(Conv.bytesToString (.slice (some f) r c)).run P w=.ok (.string ⟨⟨a⟩⟩) w:=by
 simp only[Conv.bytesToString,Sem.run_bind,d,Result.andThen_ok];rw[<-Array.forIn_toList];have e:∀(a:L UInt8) (d:ByteArray),(forIn (a.map λb=>Value.int .u8 b.toNat) d (λc s=>(match c with
   |.int .u8 n=>pure (ForInStep.yield (s.push (UInt8.ofNat n.toNat)))
   |_=>stuck "bytesToString: byte expected":Sem (ForInStep ByteArray)))).run P w=.ok (a.foldl (λs b=>s.push b) d) w:=by
  intro a
  induction a with
  |nil=>intro d;simp
  |cons b a g=>
   intro d;simp only[iL,List.forIn_cons,Sem.run_bind,Sem.run_pure,Result.andThen_ok];rw[show UInt8.ofNat (Int.toNat (b.toNat:Int))=b by simp];exact g _
 have d:=e a ByteArray.empty;rw[show a.foldl (λ(s:ByteArray) b=>s.push b) ByteArray.empty=⟨⟨a⟩⟩ from WT a []] at d;have b:∀{s:Sem ByteArray},s.run P w=.ok ⟨⟨a⟩⟩ w->(s.run P w).andThen (λe g=>(pure (.string e):Sem Value).run P g)=.ok (.string ⟨⟨a⟩⟩) w:=by
  intro s e;rw[e];rfl
 exact b d
def Hw{x:BN}{n:Nat}{l:L AV}(e:pq x j n=some l):∃a r,x=.E a r/\j+n<=N r/\l=(r.drop j).take n:=by
 unfold pq at e;split at e
 .split at e<;>cases e;exact⟨_,_,R,by assumption,R⟩
 .cases e
def MC{x:BN}{B o d n:Nat}{l:L AV}{a:Addr}(g:BR H x B o d w)(e:pq x j n=some l)(f:a=⟨B,o+j,none⟩\/n=0):∃b:L Value,(∀c:World,c.heap=w.heap->(loadCells a n).run P c=.ok ⟨b⟩ c)/\VL H l b/\(∀u∈b,u.oneCell'=true)/\N b=n:=by
 obtain⟨b,r,rfl,b,rfl⟩:=Hw e;exact Tu g b f
def cu.drew(a:HF H U.f w):cu H H U U w w.drew:=⟨.drawn a R dy,J,Y,id,J,J⟩
def afL{B o g:Nat}{l:L AV}(q:HF H U.f w)(p:H b=some (B,o,g))(i:U.f b=.E false l):∃r,(markStringish ⟨B,o+j,none⟩).run P w=.ok () r/\cu H H U U w r:=by
 have m:=q.bT b B o g p;rw[i] at m;let⟨a,e,f,n,s,u,x,y⟩:=m;have z:=(mF.1 n).1
 let d:Nat×Nat:=if f.1==f.2 then(a.size,a.size+1) else(min f.1 a.size,max f.2 (a.size+1))
 have C:g<=d.1:=by
  show g<=(if f.1==f.2 then(a.size,a.size+1) else(min f.1 a.size,max f.2 (a.size+1))).1;split
  .simp;omega
  .have:=x R;grind
 refine⟨{w with heap:=w.heap.setIfInBounds B (.cells a e d)},?_,?_⟩
 .have k:w.shape? B=some (e,a.size):=by simp[World.shape?,n]
  simp only[markStringish,Sem.run_bind,run_shape,k,Result.andThen_ok,run_freeze];congr 1;simp only[World.freeze,Nat.succ_ne_zero,uD];congr 1;apply BL;intro F;rw[Zw];grind
 .have D:=cu.write (obj:=.cells a e d) q p (by rw[i];trivial) (x:=.E false l) ⟨a,e,d,xx z,s,u,λ_=>.inr C,y⟩
  have:U.put b (.E false l)=U:=by
   unfold HN.put;congr 1;funext c;split
   .rename_i h;rw[h,i]
   .rfl
  rwa [this] at D
def acC{p i:TypeId}{x:AV}{u:Value}(q:HF H U.f w)(hn:H U.h=none)(y:VR H x u)(e:oh P (av P p) (av P i) x U=.ok v U'):nt P H U w (convert p i u) v U':=by
 unfold oh at e;split at e
 case h_6=>cases e
 .rename_i k' k0 k n j m;cases e;obtain⟨V,rfl⟩:=jP.1 y;have h:=acm V k';exact gD.vH q ⟨_,by simp[convert,run_underlying (BC m),run_underlying (BC j),Conv.intToInt];rfl,jP.2 ⟨h.2,by rw[h.1];rfl⟩⟩
 .rename_i j m;cases e;obtain⟨b,rfl,h⟩:=mc.1 y;exact gD.vH q ⟨.string b,by simp[convert,run_underlying (ti m),run_underlying (ti j)],y⟩
 .rename_i d _ _ j m;split at e<;>cases e;rename_i z;obtain rfl:=qN.1 y;exact gD.vH q ⟨.string ByteArray.empty,by simp[convert,run_underlying (nO m).1,run_underlying (ti j),run_underlying (Ia z),Conv.bytesToString],mc.2 ⟨ByteArray.empty,R,R,R⟩⟩
 .rename_i d _ _ b o l c j m;split at e
  case isFalse=>cases e
  rename_i z;obtain⟨B,o',a2,cp,ad,F,rfl,a0,D,_⟩:=iE.1 y;unfold Bx at e;split at e
  case h_2=>cases e
  rename_i r f;let⟨us,h1,h2,_,h4⟩:=MC (P:=P) (q.bT _ _ _ _ F) f (D.imp_right Y);unfold zD at e;split at e<;>cases e;rename_i I;obtain⟨a,rfl,rfl,h5⟩:=PO h2 I;refine gD.vH q ⟨.string ⟨⟨a⟩⟩,?_,mc.2 ⟨⟨⟨a⟩⟩,R,by simpa using h4,R⟩⟩;rw[run_convert_bytes_string w p i d _ _ _ (nO m).1 (Ia z) (ti j)];exact aiu (h1 w R)
 .rename_i d _ _ n s j m;split at e<;>cases e;rename_i z;obtain⟨a,rfl,rfl,rfl⟩:=mc.1 y;have C:=run_bytes_of_string (P:=P) w p i d a (ti m) (nO j).1 (Ia z);have K:=grownCap_ge w a.size 0 d;have a1:N a.data.toList=a.size:=R;have f:bytesRow a (grownCap w a.size 0 d)=⟨(a.data.toList.map λb=>Value.int .u8 b.toNat)++List.replicate (grownCap w a.size 0 d-a.size) (.int .u8 0)⟩:=by
   unfold bytesRow;apply NM;simp
  have g:(N (a.data.toList.map λb=>Value.int .u8 b.toNat)+N (List.replicate (grownCap w a.size 0 d-a.size) (Value.int .u8 0)))=grownCap w a.size 0 d:=by
   simp only[aC,rD];omega
  have W:=LF (e:=d) (x:=.E false (wk (N a.data.toList) (aY a.data.toList))) (b:=List.replicate (grownCap w a.size 0 d-a.size) (.int .u8 0)) (d:=(grownCap w a.size 0 d,grownCap w a.size 0 d+1)) (cu.drew q).hr hn (by rw[PN];exact IQ H a.data.toList) (LW _) (.inr (BX g)) (.inl R);rw[g] at W;refine⟨.slice (some ⟨w.heap.size,0,none⟩) a.size (grownCap w a.size 0 d),_,_,?_,iE.2 ⟨_,_,_,_,_,sF,R,K,.inl R,?_⟩,(cu.drew q).M W⟩
  .rw[C,f,show(⟨(a.data.toList.map λb=>Value.int .u8 b.toNat)++List.replicate (grownCap w a.size 0 d-a.size) (.int .u8 0)⟩:Array Value).size=grownCap w a.size 0 d by rw[<-g];simp]
   rfl
  .show 0+0+_*1=_;omega
def acn{f d:TypeId}{u:Value}(n:HF H U.f w)(C:H U.h=none)(k:VR H x u)(e:(if f=d then yv P (av P d) x U (oh P (av P f) (av P d) x U) else oh P (av P f) (av P d) x U)=.ok v U'):nt P H U w (convert f d u) v U':=by
 have a:=@acC P H U U' w v f d x u n C k;split at e
 case isFalse=>exact a e
 rename_i i;subst i;unfold yv at e;split at e
 case h_2=>exact a e
 rename_i V _ _ b o l c j;split at e
 case isFalse=>exact a e
 rename_i r;split at e
 .cases e
 rename_i y;unfold Hs at e;split at e<;>cases e;rename_i s;obtain⟨B,W,F,K,I,h,rfl,z,g,m⟩:=iE.1 k;obtain rfl:=g.resolve_right Y;let⟨D,p,q⟩:=afL (P:=P) (j:=o) n h s;exact⟨_,H,D,by simp[convert,run_underlying (nO j).1,run_underlying (Ia r),p],k,q⟩
end
end
end Go.Proofs.YtehahhggpdhieaaGreatDoor
