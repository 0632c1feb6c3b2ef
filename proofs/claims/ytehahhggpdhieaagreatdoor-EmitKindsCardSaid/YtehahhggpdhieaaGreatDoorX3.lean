/- Lemmas of the walk of EmitKinds are proved. Conditions: none. -/
import Derived.MapKept
import Derived.Tactics
import Derived.Test.YtehahhggpdhieaaGreatDoorX2
namespace Go.Proofs.YtehahhggpdhieaaGreatDoor
set_option maxRecDepth 100000
set_option maxHeartbeats 32000000
set_option linter.all false
section
variable {b j r:Nat}
section
variable {P:Program}{H:Ren}{U U':HN}{w:World}{v:AV}{ts:Array TypeId}{ty t el:TypeId}{us:Array Value}{x y:AV}{u u':Value}{size bytes:Nat}{ag:Bool}{i:TypeInfo}{zu:Value}
def wrap_small{n:Nat}(h:n<=9223372036854775807):IntKind.i64.wrap (n:Int)=n:=by
 rw[(Dl .i64 (show n<br .i64 by show n<18446744073709551616;omega)).1,qA (Uq h)]
def Src(P:Program)(w:World)(ts:Array TypeId)(zu:Value)(size:Nat)(u':Value)(n:Nat)(c:L Value):Prop:=
 (∃a d,ts[1]?=some a/\P.underlying a=some d/\(d=.string\/∃e,d=.slice e)/\(Builtin.lenOf u').run P w=.ok n w/\∀b:World,b.heap=w.heap->(Builtin.firstCells size n u').run P b=.ok ⟨c⟩ b)\/
 (∃a k b,ts[1]?=some a/\P.underlying a=some (.int k)/\u'=.int b (n:Int)/\c=nJ n zu.cells)
structure Ap (P:Program) (ts:Array TypeId) (us:Array Value) (t el:TypeId) (size bytes:Nat) (ag:Bool) (i:TypeInfo) (zu u u':Value):Prop where
 akY:P.underlying t=some (.slice el)
 akX:bS P el=some (size,bytes,ag)
 h1:P.info? el=some i
 h2:i.zero=some zu
 ht:ts[0]?=some t
 hu:us[0]?=some u
 hu':us[1]?=some u'
 hb0:bytes≠0
 di:size≠0
 nH:zu.cells.size=size
 ed:∀z∈zu.cells.toList,z.oneCell'=true
 hby:i.bytes=bytes
def Hx{m:Addr}{c n:Nat}{D:L Value}{F:World}(A:Ap P ts us t el size bytes ag i zu (.slice (some m) r c) u')(S:Src P w ts zu size u' n D)(B:n*bytes<=140737488355328)(b:r+n<=c)(g:(storeCells (m.add (r*size)) D).run P w=.ok () F):
  (Builtin.append_ ts ty us).run P w=.ok (.slice (some m) (r+n) c) F:=by
 let⟨f,a,o,I,p,hu,h,_,_,q,d,s⟩:=A;rcases S with⟨k,d,d,j,e,z,l⟩|⟨k,k,k,d,j,rfl,rfl⟩
 .have l:=l w R;rcases e with rfl|⟨e,rfl⟩<;>simp[Builtin.append_,p,hu,h,d,run_underlying f,run_underlying j,kK a,z,l,b,g]
 .have e:=bC (Ol n Y) B;have z:=wrap_small (n:=n) Y;have B:¬((n:Int)<0):=Y;have C:¬(281474976710656<(n:Int)*(bytes:Int)):=by rw[<-NQ];omega
  by_cases e:n*size=0
  .have k:nJ n zu.cells=[]:=by unfold nJ;rw[q,e];rfl
   rw[k] at g;simp[Builtin.append_,p,hu,h,d,run_underlying f,run_underlying j,kK a,asInt,asIntOf,z,vA o,s,B,C,b,e,g]
  .have k:Builtin.zeroCells zu.cells n=⟨nJ n zu.cells⟩:=Bl n zu.cells;have l:(zeroValue el).run P w=.ok zu w:=by simp[zeroValue,vA o,I]
   simp[Builtin.append_,p,hu,h,d,run_underlying f,run_underlying j,kK a,asInt,asIntOf,z,vA o,s,B,C,b,e,l,k,g]
def air{m:L Value}(A:Ap P ts us t el size bytes ag i zu (.slice none 0 0) u')(S:Src P w ts zu size u' 0 m):(Builtin.append_ ts ty us).run P w=.ok (.slice none 0 0) w:=by
 let⟨b,a,l,_,h,hu,c,_,_,_,_,d⟩:=A;rcases S with⟨k,d,d,f,e,j,g⟩|⟨k,k,k,d,f,rfl,rfl⟩
 .have g:=g w R;rcases e with rfl|⟨e,rfl⟩<;>simp[Builtin.append_,h,hu,c,d,run_underlying b,run_underlying f,kK a,j,g]
 .have e:=wrap_small (n:=0) Y;simp at e;simp[Builtin.append_,h,hu,c,d,run_underlying b,run_underlying f,kK a,asInt,asIntOf,e,vA l]
def run_append_grow{g:Option Addr}{c n:Nat}{V j:L Value}(A:Ap P ts us t el size bytes ag i zu (.slice g r c) u')(S:Src P w ts zu size u' n V)(D:(r+n)*bytes<=140737488355328)
  (d:∀a:World,a.heap=w.heap->(Builtin.firstCells size r (.slice g r c)).run P a=.ok ⟨j⟩ a) (a:c<r+n) (hz:n≠0):
  (Builtin.append_ ts ty us).run P w=.ok (.slice (some ⟨w.heap.size,0,none⟩) (r+n) (grownCap w (r+n) c el)) {w.drew with heap:=w.drew.heap.push (.cells ⟨(j++V)++nJ (grownCap w (r+n) c el-(r+n)) zu.cells⟩ el)}:=by
 let⟨h,f,C,e,K,hu,q,o,F,_,b,I⟩:=A;have p:¬(r+n<=c):=Y;have b:r+n<=140737488355328:=bC (Ol _ Y) D;have m:¬(9223372036854775807<((r:Int)+(n:Int))):=Y;have l:¬(281474976710656<Builtin.nextslicecap (r+n) c*bytes):=by have:=growslice_fits a D;omega
 have b:=d w.drew R;have a:Builtin.zeroCells zu.cells (grownCap w (r+n) c el-(r+n))=⟨nJ (grownCap w (r+n) c el-(r+n)) zu.cells⟩:=Bl _ _;have s:∀w,(zeroValue el).run P w=.ok zu w:=λw=>by simp[zeroValue,vA C,e]
 unfold grownCap at a;rcases S with⟨k,d,d,z,e,W,B⟩|⟨k,k,k,d,z,rfl,rfl⟩
 .have B:=B w.drew R;rcases e with rfl|⟨e,rfl⟩<;>(
   simp[Builtin.append_,K,hu,q,d,run_underlying h,run_underlying z,kK f,vA C,I,W,B,p,m,l,b,Question.forced,s,a,newRow,grownCap,o]
   rfl)
 .have B:=wrap_small (n:=n) Y;have W:¬((n:Int)<0):=Y;have e:n*bytes<=140737488355328:=bC (tu _ Y) D;have D:¬(281474976710656<(n:Int)*(bytes:Int)):=by rw[<-NQ];omega
  have e:¬n*size=0:=Nat.mul_ne_zero hz F;have k:Builtin.zeroCells zu.cells n=⟨nJ n zu.cells⟩:=Bl n zu.cells;simp[Builtin.append_,K,hu,q,d,run_underlying h,run_underlying z,kK f,asInt,asIntOf,B,vA C,I,W,D,p,m,l,b,Question.forced,s,a,newRow,grownCap,o,e,k]
  rfl
def F1{m:Nat}{g:Cp}{f:Nat->BN}{l:L AV}(q:HF H f w)(k:VR H (.a b j r g) u)(e:pq (f b) j (m*size)=some l)(a:m<=r):
  ∃a:L Value,VL H l a/\(∀z∈a,z.oneCell'=true)/\∀d:World,d.heap=w.heap->(Builtin.firstCells size m u).run P d=.ok ⟨a⟩ d:=by
 obtain⟨B,o,c,c,c,p,rfl,c,c,h⟩:=iE.1 k;let⟨a,k,n,o,h⟩:=MC (P:=P) (q.bT _ _ _ _ p) e (c.imp_right λh=>by rw[show m=0 by omega,lq]);exact⟨a,n,o,λd a=>k d a⟩
def Gn{b:Bool}{x:BN}{d:Option Addr}{c n:Nat}{j l:L AV}{a k:L Value}(A:Ap P ts us t el size bytes ag i zu (.slice d r c) u')(S:Src P w ts zu size u' n k)(o:HF H U.f w)(B:H U.h=none)
  (q:(r+n)*bytes<=140737488355328) (p:VL H l k) (e:∀z∈k,z.oneCell'=true) (s:N l=n*size) (h:VL H j a) (e:∀z∈a,z.oneCell'=true) (m:N j=r*size)
  (f:∀e:World,e.heap=w.heap->(Builtin.firstCells size r (.slice d r c)).run P e=.ok ⟨a⟩ e) (e:c<r+n) (C:n≠0) (z:x=if b then .gM (j++l) else .E false (j++l)):
  nt P H U w (Builtin.append_ ts ty us) (.a U.h 0 (r+n) (if b then .s size else .B size)) (U.X x):=by
 have g:=run_append_grow (ty:=ty) A S q f e C;have e:=grownCap_ge w (r+n) c el;have f:=LF (x:=x) (e:=el) (d:=(0,0)) (b:=nJ (grownCap w (r+n) c el-(r+n)) zu.cells) (cu.drew o).hr B (h.append p) (by grind) (.inl R) (by cases b<;>simp[z]);refine⟨_,_,_,g,iE.2 ⟨w.heap.size,0,_,grownCap w (r+n) c el,⟨w.heap.size,0,none⟩,sF,R,e,.inl R,?_⟩,(cu.drew o).M f⟩;have e:=h.len;have f:=p.len
 have:0+0+grownCap w (r+n) c el*size=N (a++k)+N (nJ (grownCap w (r+n) c el-(r+n)) zu.cells):=by
  unfold nJ;rw[ay,aC,List.length_range,A.nH,e,f,s,m,<-xE,<-xE,show r+n+(grownCap w (r+n) c el-(r+n))=grownCap w (r+n) c el by omega];omega
 cases b<;>exact this
def Co{n:Nat}{l:L AV}{vs:L Value}(A:Ap P ts us t el size bytes ag i zu u u')(S:Src P w ts zu size u' n vs)(K:HF H U.f w)(hn:H U.h=none)(hx:VR H x u)(hv:VL H l vs)(ho:∀z∈vs,z.oneCell'=true)(hl:N l=n*size)
  (e:lI size bytes x n l U=.ok v U'):nt P H U w (Builtin.append_ ts ty us) v U':=by
 have hs:=Oq A.di;have b7:n=0->vs=[]:=λh=>ff (by rw[hv.len,hl,h,lq]);unfold lI at e;split at e
 case h_3=>cases e
 .obtain rfl:=qN.1 hx;split at e
  .rename_i h0;subst h0;cases e;exact gD.vH K ⟨_,air A S,hx⟩
  .rename_i h0;split at e<;>cases e
   have:=Gn (b:=false) (ty:=ty) (j:=[]) (a:=[]) A S K hn (by rw[gg];assumption) hv ho hl VL.nil dp dp (λw' _=>by simp[Builtin.firstCells]) Y h0 R
   rw[gg] at this;exact this
 .rename_i b g d b5;split at e
  case isFalse=>cases e
  rename_i I;have C:n*bytes<=140737488355328:=bC (tu _ Y) I;obtain⟨B,o,a3,c,ad,he,rfl,b9,a5,p⟩:=iE.1 hx;have D:=K.bT _ _ _ _ he;split at e
  .rename_i h0;subst h0;cases e;obtain rfl:=b7 R;exact gD.vH K ⟨_,Hx A S C Y (by simp[storeCells]),hx⟩
  rename_i h0;have qn:∀{V:Cp} {r:L AV},d+n<=c->IJ V (o+g) c a3->U.f b=.E false r->g+d*size+n*size<=N r->nt P H U w (Builtin.append_ ts ty us) (.a b g (d+n) V) (U.put b (.E false (dz r (g+d*size) l))):=λ{V r} m a6 hb b8=>by
   obtain rfl:=a5.resolve_right Y;let⟨w',k1,k2⟩:=HU (P:=P) (j:=g+d*size) (r:=l) K he hb Y hv ho (.inl R);exact⟨_,H,w',Hx A S C m (by rw[Addr.qO,oK];exact k1),iE.2 ⟨B,o,a3,c,_,he,R,m,.inl R,a6⟩,k2⟩
  have b6:∀{k:Nat},k*size<=c*size->k<=c:=λh=>Nat.le_of_mul_le_mul_right h hs;cases b5 with
  |k c'=>
   obtain rfl:c=c':=p;dsimp only at e;unfold sH at e;split at e
   .split at e
    case h_2=>cases e
    split at e<;>cases e;exact qn (by assumption) R (by assumption) (by assumption)
   .rename_i hf;unfold xZ at e;split at e<;>cases e;rename_i c1 F;let⟨a2,q1,q2,q3⟩:=F1 (P:=P) (size:=size) K hx F (ak _);obtain⟨_,r,_,h3,rfl⟩:=Hw F;exact Gn (b:=false) A S K hn I hv ho hl q1 q2 (by simp;omega) q3 Y h0 R
  |B es=>
   dsimp only at e;split at e
   case isFalse=>cases e
   rename_i a7;subst a7;have p:o+g+c*es=a3:=p;unfold we at e;split at e
   case h_2=>cases e
   rename_i r hb;split at e
   .rename_i hf;cases e;rw[hb] at D;let⟨_,_,_,_,_,h3,_⟩:=D;exact qn (b6 (by rw[xE];omega)) p hb hf
   .rename_i hf;have mv:∀{b0:L AV},b0=(r.drop g).take (d*es)->g+d*es<=N r->nt P H U w (Builtin.append_ ts ty us) (.a U.h 0 (d+n) (.B es)) ((U.put b .none).X (.E false (b0++l))):=by
     rintro b0 rfl b2
     have F:pq (U.f b) g (d*es)=some ((r.drop g).take (d*es)):=by rw[hb];exact ae b2
     have a8:N ((r.drop g).take (d*es))=d*es:=by simp;omega
     let⟨a2,q1,q2,q3⟩:=F1 (P:=P) (size:=es) K hx F (ak _);by_cases m:d+n<=c
     .obtain rfl:=a5.resolve_right Y;rw[hb] at D;let⟨cc,te,fz,l1,l2,l3,l4,l5⟩:=D;have a9:=hv.len;have a1:(d+n)*es<=c*es:=tu _ m;have f:o+g+d*es+N vs<=cc.size:=by rw[a9,hl,l2];rw[xE] at a1;omega
      have a4:=(mF.1 l1).1;have a0:=HA (P:=P) B te fz vs (o+g+d*es) 0 cc w l1 (by simpa using f) (λj hj hh=>by have:=l4 R;rw[l2] at hj;omega) ho;rw[nk] at a0;refine⟨_,_,_,Hx A S C m (by rw[Addr.qO];exact a0),iE.2 ⟨B,o+g,a3,c,_,sF,R,m,.inl R,p⟩,cu.kill K he (by rw[hb];trivial) hn ?_⟩;refine⟨_,te,fz,xx a4,by rw[Br _ _ _ f];exact l2,by rw[ay,a8,hl];rw[xE] at a1;omega,l4,λi a W=>?_⟩;rw[vD _ _ _ f];by_cases b3:i<d*es
      .rw[tp Y,List.getElem?_take_of_lt b3,mG] at W;let⟨z,z1,z2,z3⟩:=l5 _ a W;exact⟨z,by rw[ac Y,oK];exact z1,z2.mono (Ren.wK _ hn),z3⟩
      .rw[vN Y,a8] at W;let⟨z,z1,z2⟩:=hv.get W
       have:=(xB.1 W).1
       exact⟨z,by rw[ae Y,show o+g+i-(o+g+d*es)=i-d*es by omega];exact z1,z2.mono (Ren.wK _ hn),ho z (qI z1)⟩
     .have sd:=cu.drop K he;let⟨u1,b1,w1,k1,k2,k3⟩:=Gn (b:=false) (ty:=ty) (U:=U.put b .none) A S sd.hr hn I hv ho hl q1 q2 a8 q3 Y h0 R;exact⟨u1,b1,w1,k1,k2,sd.M k3⟩
    split at e
    .rename_i hh;cases e;exact mv (by rw[iM];simp;omega) (BX hh.1)
    .split at e<;>cases e;rename_i hh;exact mv R hh.1
  |s es=>
   dsimp only at e;split at e
   case isFalse=>cases e
   rename_i a7;subst a7;have p:o+g+c*es=a3:=p;obtain⟨r,y,hq,h1,rfl,rfl,rfl⟩:∃r y,MK (U.f b) r y/\d*es=N r/\g=0/\v=.a U.h 0 (d+n) (.s es)/\U'=(U.put b y).X (.gM (r++l)):=by
    unfold Af at e;split at e
    case h_3=>cases e
    all_goals
     split at e<;>cases e;rename_i hb hh
    .exact⟨_,_,.inl ⟨hb,R⟩,hh.2.1,hh.1,R,R⟩
    .exact⟨_,_,.inr ⟨hb,R⟩,hh.2.1,hh.1,R,R⟩
   have b4:U.f b=.E false r\/U.f b=.gM r:=hq.imp And.left And.left;have F:pq ((U.put b (.E true r)).f b) 0 (d*es)=some r:=by
    rw[kg,ae R,h1]
    show(if 0+N r<=N r then some ((r.drop 0).take (N r)) else none)=_
    rw[ae Y,ng,hU]
   let⟨a2,q1,q2,q3⟩:=F1 (P:=P) (size:=es) (K.calm b4) hx F (ak _);have hc:CR H false r B o a3 w:=by rcases b4 with q|q<;>rw[q] at D<;>exact D
   let⟨cc,te,fz,l1,l2,l3,l4,l5⟩:=hc;by_cases m:d+n<=c
   .obtain rfl:=a5.resolve_right Y;have a9:=hv.len;have a1:(d+n)*es<=c*es:=tu _ m;rw[xE] at a1;have f:o+0+d*es+N vs<=cc.size:=by rw[a9,hl,l2];omega
    have a4:=(mF.1 l1).1;have a0:=HA (P:=P) B te fz vs (o+0+d*es) 0 cc w l1 (by simpa using f) (λj hj hh=>by have:=l4 R;rw[l2] at hj;omega) ho;rw[nk] at a0;refine⟨_,_,_,Hx A S C m (by rw[Addr.qO];exact a0),iE.2 ⟨B,o,a3,c,_,sF,R,m,.inl R,p⟩,cu.ab K he hq hn l1 (Br _ _ _ f) (λj hj=>by rw[vD _ _ _ f,ac Y]) dp ?_⟩;refine⟨_,te,fz,xx a4,by rw[Br _ _ _ f];exact l2,by rw[ay,hl];omega,l4,λi a W=>?_⟩;rw[vD _ _ _ f];by_cases b3:i<d*es
    .rw[tp Y] at W;let⟨z,z1,z2,z3⟩:=l5 _ a W;exact⟨z,by rw[ac Y];exact z1,z2.mono (Ren.wK _ hn),z3⟩
    .rw[vN Y] at W;let⟨z,z1,z2⟩:=hv.get W
     have:=(xB.1 W).1
     exact⟨z,by rw[ae Y,show o+i-(o+0+d*es)=i-N r by omega];exact z1,z2.mono (Ren.wK _ hn),ho z (qI z1)⟩
   .have sd:=cu.aix K he hq;let⟨u1,b1,w1,k1,k2,k3⟩:=Gn (b:=true) (ty:=ty) (U:=U.put b y) A S sd.hr hn I hv ho hl q1 q2 h1.s q3 Y h0 R;exact⟨u1,b1,w1,k1,k2,sd.M k3⟩
end
end
section
variable {b j r:Nat}
section
variable {P:Program}{H:Ren}{U U':HN}{w:World}{v:AV}{ts:Array TypeId}{ty t t2:TypeId}{us:Array Value}{x y k:AV}{u u' ku vu:Value}
def MD(c:ByteArray)(a n:Nat):(Builtin.firstCells a n (.string c)).run P w=.ok ⟨(c.data.toList.take n).map λb=>Value.int .u8 b.toNat⟩ w:=by
 simp only[Builtin.firstCells,Sem.run_pure];congr 1;apply NM;simp[ZD]
def aaW(F:HF H U.f w)(V:H U.h=none)(ht:ts[0]?=some t)(l:ts[1]?=some t2)(hu:us[0]?=some u)(a1:us[1]?=some u')(hx:VR H x u)(hy:VR H y u')(e:yc P (av P t) (av P t2) x y U=.ok v U'):nt P H U w (Builtin.append_ ts ty us) v U':=by
 have A:∀{s size a:Nat} {z:AV},av P t=.a s size a->size*a≠0->cr P s=some z->∃K i I,Ap P ts us t s size a K i I u u'/\VL H (jc z) I.cells.toList/\(jc z).length=size:=by
  intro s size a z g f D;let⟨W,K,j⟩:=nO g;let⟨I,_,h2,h3,i,h4,h5,h6,h7⟩:=zK D;have q:=tJ (h2 H) h3;let⟨ie,a4,g1,_,g3,g4,_⟩:=uw j;rw[h4] at g1;cases g1;exact⟨K,i,I,⟨W,j,h4,h5,ht,hu,a1,λh=>f (by rw[h,Nat.mul_zero]),λh=>f (by rw[h,lq]),h6.t g3,q.2,g4⟩,q.1,h7.t g3⟩
 have a0:∀{s size a:Nat} {z:AV} {d:TypeDesc},av P t=.a s size a->size*a≠0->cr P s=some z->P.underlying t2=some d->(d=.string\/∃e,d=.slice e)->gj size a x y U=.ok v U'->nt P H U w (Builtin.append_ ts ty us) v U':=by
  clear e;intro s size a z d g f D hd p e;let⟨K,i,I,A,_⟩:=A g f D;unfold gj at e;split at e
  case h_4=>cases e
  .split at e
   case isFalse=>cases e
   rename_i h1;subst h1;obtain⟨bs,rfl,rfl,rfl⟩:=mc.1 hy;rw[PN] at e;exact Co A (vs:=bs.data.toList.map λb=>Value.int .u8 b.toNat) (.inl ⟨t2,d,l,hd,p,by simp[Builtin.lenOf],λw' _=>by rw[MD,hU]⟩) F V hx (IQ H _) (LW _) dp e
  .obtain rfl:=qN.1 hy;exact Co A (vs:=[]) (.inl ⟨t2,d,l,hd,p,by simp[Builtin.lenOf],λw' _=>by simp[Builtin.firstCells]⟩) F V hx VL.nil dp dp e
  .obtain⟨B,o,a3,c,ad,he,rfl,_⟩:=iE.1 hy;split at e
   .rename_i h0;subst h0;exact Co A (n:=0) (vs:=[]) (.inl ⟨t2,d,l,hd,p,by simp[Builtin.lenOf],λw' _=>by simp[Builtin.firstCells,loadCells,loadCellsFrom]⟩) F V hx VL.nil dp dp e
   .unfold Cq at e;split at e
    case h_2=>cases e
    rename_i C;let⟨a2,r1,r2,r4⟩:=F1 (P:=P) (size:=size) F hy C (ak _);obtain⟨_,r,_,h3,rfl⟩:=Hw C;exact Co A (.inl ⟨t2,d,l,hd,p,by simp[Builtin.lenOf],r4⟩) F V hx r1 r2 (by simp;omega) e
 unfold yc at e;split at e
 case h_4=>cases e
 all_goals
  rename_i g m;split at e
  .cases e
  rename_i f;split at e
  case h_2=>cases e
  rename_i D
 .let⟨K,i,I,A,q,q2⟩:=A g f D;obtain⟨kd,n,rfl,e⟩:=tV hy e;split at e
  case isFalse=>cases e
  have hv:=ER q A.ed n;exact Co A (.inr ⟨t2,_,kd,l,BC m,rfl,rfl⟩) F V hx hv.1 hv.2 (by rw[DU,q2]) e
 .exact a0 g f D (ti m) (.inl rfl) e
 .exact a0 g f D (nO m).1 (.inr ⟨_,rfl⟩) e
def QE{a n:Nat}{g:Cp}{l:L AV}{m:L Value}(hr:HF H U.f w)(hx:VR H (.a b j r g) u)(hv:VL H l m)(W:∀z∈m,z.oneCell'=true)(V:n<=r)(s:N l=n*a)(e:CD a b j n (some l) (U.f b) U=.ok v U'):
  VR H v (goInt n)/\∃c f d,u=.slice (some c) r f/\(storeCells c m).run P w=.ok () d/\cu H H U U' w d:=by
 unfold CD at e;split at e
 case h_2=>cases e
 rename_i hq F;cases hq;split at e<;>cases e;rename_i q;obtain⟨B,o,a0,f,c,I,rfl,K,i,p⟩:=iE.1 hx;let⟨d,C,D⟩:=HU (P:=P) (r:=l) (j:=j) hr I F (by rw[s];exact q.1) hv W (i.imp_right λh=>ff (by rw[s,show n=0 by omega,lq]));exact⟨IS q.2,c,f,d,R,C,D⟩
def acv(I:HF H U.f w)(m:ts[0]?=some t)(n:us[0]?=some u)(f:us[1]?=some u')(p:VR H x u)(q:VR H y u')(e:Fu (av P t) x y U=.ok v U'):nt P H U w (Builtin.copy_ ts ty us) v U':=by
 have a1:∀{z:Addr},(loadCells z 0).run P w=.ok #[] w:=by simp[loadCells,loadCellsFrom]
 unfold Fu at e;split at e
 case h_7=>cases e
 all_goals
  rename_i a0;let⟨b,ag,a⟩:=nO a0
 .obtain⟨j,rfl,rfl,rfl⟩:=mc.1 q;split at e
  case isFalse=>cases e
  rename_i h1;subst h1;rw[Je _ _ (Nat.min_le_left ..)] at e;obtain⟨D,z,c,w',rfl,K,k2⟩:=QE (P:=P) I p (IQ H _) (LW _) (zV ..) dp e;rename_i g _;have hf:=MD (P:=P) (w:=w) j 1 (min j.size g);refine⟨_,H,w',?_,D,k2⟩;rw[show j.data.toList.length=j.size from rfl] at K|-;simp only[Builtin.copy_,m,n,f,Sem.run_bind,run_underlying b,Result.andThen_ok,Builtin.lenOf,Sem.run_pure,kK a,hf,K]
 .obtain⟨B',o',N',c',a4,W,rfl,a2,C,V⟩:=iE.1 q;rename_i s _ _ _ g _ b' F i _;cases d:pq (U.f b') F (min i g*s) with
  |none=>rw[d] at e;cases e
  |some l=>
  rw[d] at e;let⟨vs,g1,g2,g3,g4⟩:=MC (P:=P) (I.bT _ _ _ _ W) d (C.imp_right λh=>by rw[show min i g=0 by omega,lq]);obtain⟨_,r,_,h3,rfl⟩:=Hw d;obtain⟨D,z,c,w',rfl,K,k2⟩:=QE (P:=P) I p g2 g3 (zV ..) (by simp;omega) e;refine⟨_,H,w',?_,D,k2⟩;simp[Builtin.copy_,m,n,f,run_underlying b,Builtin.lenOf,kK a,Builtin.firstCells,g1 w rfl,K]
 all_goals
  obtain⟨rfl,D⟩:=(show U=U'/\VR H v (goInt 0) by cases e;exact⟨rfl,IS (aJ _)⟩);refine gD.vH I ⟨goInt 0,?_,D⟩
 .obtain rfl:=qN.1 q;obtain⟨B,o,a3,c,z,hb,rfl,_⟩:=iE.1 p;simp[Builtin.copy_,m,n,f,run_underlying b,Builtin.lenOf,kK a,Builtin.firstCells,storeCells]
 .obtain⟨j,rfl,rfl,rfl⟩:=mc.1 q;obtain rfl:=qN.1 p
  have:=λs=>MD (P:=P) (w:=w) j s 0
  simp[Builtin.copy_,m,n,f,run_underlying b,Builtin.lenOf,kK a,this]
 .obtain rfl:=qN.1 q;obtain rfl:=qN.1 p;simp[Builtin.copy_,m,n,f,run_underlying b,Builtin.lenOf,kK a,Builtin.firstCells]
 .obtain⟨B,o,a3,c,z,hb,rfl,_⟩:=iE.1 q;obtain rfl:=qN.1 p;simp[Builtin.copy_,m,n,f,run_underlying b,Builtin.lenOf,kK a,Builtin.firstCells,a1]
def abU(r:HF H U.f w)(z:ts[0]?=some t)(C:us[0]?=some u)(hx:VR H x u)(e:An P (av P t) x U=.ok v U'):nt P H U w (Builtin.clear_ ts ty us) v U':=by
 unfold An at e;split at e
 case h_2=>cases e
 rename_i el s F b a1 a cp g;let⟨c,ag,d⟩:=nO g;split at e
 case h_2=>cases e
 rename_i h;let⟨j,K,V,W,i,h4,h5,h6,h7⟩:=zK h;have q:=tJ (V H) W;let⟨ie,a3,l,_,I,_⟩:=uw d;rw[h4] at l;cases l;obtain⟨B,o,a2,c',ad,he,rfl,a0,f,p⟩:=iE.1 hx;split at e
 .rename_i n;subst n;cases e;exact gD.vH r ⟨.tuple #[],by simp[Builtin.clear_,z,C,run_underlying c],vZ⟩
 rename_i n;unfold Am at e;split at e
 case h_2=>cases e
 rename_i hb;split at e<;>cases e;rename_i hf;have D:=ER q.1 q.2 a;let⟨w',k1,k2⟩:=HU (P:=P) (r:=jU a _) r he hb (by rw[DU,h7,I];exact hf) D.1 D.2 (.inl (f.resolve_right Y));refine⟨.tuple #[],H,w',?_,vZ,k2⟩;have h:Builtin.zeroCells j.cells a=⟨nJ a j.cells⟩:=Bl a j.cells;obtain⟨m,rfl⟩:∃m,a=m+1:=⟨a-1,Y⟩;simp[Builtin.clear_,z,C,run_underlying c,K,h,k1]
end
section
variable {P:Program}{H:Ren}{U U':HN}{w:World}{v:AV}{t kt:TypeId}{x y k:AV}{u u' ku vu:Value}
def OL(d:TypeDesc):Prop:=match d with|.bool=>True|.int _=>True|.string=>True|_=>False
theorem DZ{d:TypeDesc}(c:P.underlying kt=some d)(hk:OL d)(a:Bool)(n:Nat)(u:Value):(Instr.checkKey a (n+1) kt u).run P w=.ok () w:=by
 unfold Instr.checkKey;simp only[Sem.run_bind,run_underlying c,Result.andThen_ok];cases d<;>first|exact hk.elim|(cases u<;>simp)
theorem SP{q:Q}(g:wH (av P kt)=some q):∃d,P.underlying kt=some d/\OL d/\∀{x y:AV} {b:Bool} {H:Ren} {u u':Value},q x y=some b->VR H x u->VR H y u'->Instr.sameNow d u u'=some b:=by
 unfold wH at g;split at g<;>cases g<;>rename_i a
 .refine⟨_,YG a,trivial,λ{x y b H u u'} e c f=>?_⟩;unfold Hi at e;split at e<;>cases e;obtain rfl:=mK.1 c;obtain rfl:=mK.1 f;simp[Instr.sameNow]
 .refine⟨_,BC a,trivial,λ{x y b H u u'} e c f=>?_⟩;unfold lR at e;split at e
  case h_2=>cases e
  split at e<;>cases e;rename_i hk;obtain rfl:=(ou ..).1 hk;obtain⟨l,rfl⟩:=jP.1 c;obtain⟨m,rfl⟩:=jP.1 f;rw[<-FK l m];simp[Instr.sameNow]
 .refine⟨_,ti a,trivial,λ{x y b H u u'} e c f=>?_⟩;unfold kh at e;split at e<;>cases e;obtain⟨i,rfl,rfl,rfl⟩:=mc.1 c;obtain⟨j,rfl,rfl,rfl⟩:=mc.1 f;simp only[Instr.sameNow];rw[Nj];congr 1;rw[rB,MapKept.bytes_beq];simp only[zX];exact⟨λh=>by rw[h],λh=>by cases i;cases j;simp at h;rw[h]⟩
def MR(H:Ren)(a:L (AV×AV))(l:L MapEntry):Prop:=VL H (a.map (·.1)) (l.map (·.key))/\VL H (a.map (·.2)) (l.map (·.val))
theorem OO{e:AV×AV}{f:L (AV×AV)}{l:L MapEntry}(h:MR H (e::f) l):∃m r,l=m::r/\VR H e.1 m.key/\VR H e.2 m.val/\MR H f r:=by
 let⟨a,c⟩:=h;cases l with
 |nil=>have:=a.len;simp at this
 |cons m r=>
  simp only[iL] at a c;unfold VL at a c;let⟨u,_,n,g,i⟩:=a;let⟨u',_,o,a,j⟩:=c;cases n;cases o;exact⟨m,r,R,g,a,i,j⟩
theorem OP{l:L MapEntry}(h:MR H [] l):l=[]:=by
 have:=h.1.len
 simpa using this
theorem MR.cons{e:AV×AV}{a:L (AV×AV)}{m:MapEntry}{l:L MapEntry}(c:VR H e.1 m.key)(f:VR H e.2 m.val)(h:MR H a l):MR H (e::a) (m::l):=⟨VL.cons c h.1,VL.cons f h.2⟩
section
variable {d:TypeDesc}{q:Q}(hs:∀{x y:AV}{b:Bool}{H:Ren}{u u':Value},q x y=some b->VR H x u->VR H y u'->Instr.sameNow d u u'=some b)(hk:VR H k ku)
include hs hk
theorem RX{o:Option AV}:∀(a:L (AV×AV)) (l:L MapEntry) (i:Nat),MR H a l->ml q k a=some o->match o with
  |some x=>∃j m,Instr.findNow d ku l i=some (some (j,m))/\VR H x m
  |none=>Instr.findNow d ku l i=some none
 |[],l,i,c,e=>by obtain rfl:=OP c;cases e;rfl
 |p::a,l,i,c,e=>by
  obtain⟨m,r,rfl,g,h,n⟩:=OO c;unfold ml at e;split at e
  .rename_i f;cases e;exact⟨i,m.val,by simp[Instr.findNow,hs f hk g],h⟩
  .rename_i f
   have:=RX a r (i+1) n e
   simpa [Instr.findNow,hs f hk g] using this
  .cases e
theorem WV(o:VR H y vu):∀(f:L (AV×AV)) (l:L MapEntry) (i:Nat) {a:L (AV×AV)},MR H f l->oC q k y f=some a->
  (∃j m,l[j]?=some m/\Instr.findNow d ku l i=some (some (i+j,m.val))/\Instr.sameNow d ku m.key=some true/\MR H a (l.modify j λe=>{e with key:=ku,val:=vu}))\/
  (Instr.findNow d ku l i=some none/\∀m:MapEntry,m.key=ku->m.val=vu->MR H a (l++[m]))
 |[],l,i,a,g,e=>by
  obtain rfl:=OP g;cases e;exact .inr ⟨R,λm C D=>MR.cons (C▸hk) (D▸o) ⟨VL.nil,VL.nil⟩⟩
 |p::f,l,i,a,g,e=>by
  obtain⟨m,r,rfl,c,z,B⟩:=OO g;unfold oC at e;split at e
  .rename_i n;have h:=hs n hk c;cases e;exact .inl ⟨0,m,R,by simp[Instr.findNow,h],h,by rw[List.modify_zero_cons];exact MR.cons hk o B⟩
  .rename_i n;have h:=hs n hk c;split at e<;>cases e;rename_i F;rcases WV o f r (i+1) B F with⟨j,s,f1,f2,f3,f4⟩|⟨f1,f2⟩
   .exact .inl ⟨j+1,s,f1,by simp[Instr.findNow,h,f2];omega,f3,by rw[List.modify_succ_cons];exact MR.cons c z f4⟩
   .exact .inr ⟨by simp[Instr.findNow,h,f1],λs I q2=>MR.cons c z (f2 s I q2)⟩
  .cases e
end
theorem HF.map(h:HF H U.f w){b:Nat}{es:L (AV×AV)}(i:VR H (.map b) u)(a:uZ (U.f b)=some es):∃(B:Nat) (l:Array MapEntry) (c:Nat),H b=some (B,0,0)/\u=.map (some B)/\U.f b=.mp es/\w.heap[B]?=some (.map l c)/\MR H es l.toList:=by
 unfold uZ at a;split at a<;>cases a;rename_i a;obtain⟨B,e,rfl⟩:=OY.1 i
 have:=h.bT b B 0 0 e
 rw[a] at this;let⟨l,c,f,g⟩:=this;exact⟨B,l,c,e,R,a,f,g⟩
theorem Hz{B:Nat}{a:Array MapEntry}{c:Nat}(e:w.heap[B]?=some (.map a c)):(getObj B).run P w=.ok (.map a c) w:=by simp[getObj,Sem.run,e]
theorem afv{p:Bool}(hr:HF H U.f w)(n:VR H x u)(hk:VR H k ku)(e:yS P (av P t) x k p U=.ok v U'):U'=U/\gD P H w (Instr.lookup t u ku p) v:=by
 unfold yS at e;split at e
 case h_2=>cases e
 rename_i a0 el s;have f:=YH s;split at e
 case h_2=>cases e
 rename_i q z hq hz;let⟨d,i,h,hs⟩:=SP hq;let⟨zu,F,I,_⟩:=zK hz;unfold yR at e;split at e
 case h_2=>cases e
 rename_i W a;unfold AQ at e;split at e<;>cases e;rename_i o K;have g:∀{r:AV} {C:Value} {b:Bool},VR H r C->VR H (if p then .t [r,.l b] else r) (if p=true then .tuple #[C,.bool b] else C):=λV=>by
  cases p with
  |true=>exact Ad.2 ⟨[_,.bool _],rfl,.cons V (.cons (mK.2 rfl) .nil)⟩
  |false=>exact V
 refine⟨rfl,?_⟩;unfold JW at a;split at a
 case h_3=>cases a
 .obtain⟨B,l,c,he,rfl,hb,D,g2⟩:=hr.map n a
  have:=RX hs hk W l.toList 0 g2 K
  cases o with
  |some r=>
   let⟨j,m,f1,f2⟩:=this;exact⟨_,by simp[Instr.lookup,run_underlying f,Hz D,DZ i h,Instr.findKey,run_underlying i,f1],g f2⟩
  |none=>exact⟨_,by simp[Instr.lookup,run_underlying f,Hz D,DZ i h,Instr.findKey,run_underlying i,this,F],g (I H)⟩
 .cases a;cases K;have n:u=.map none:=by unfold VR at n;exact n
  subst n;exact⟨_,by simp[Instr.lookup,run_underlying f,DZ i h,Instr.findKey,run_underlying i,Instr.findNow,F],g (I H)⟩
theorem aiv{d:TypeDesc}{n:Nat}(hs:Instr.sameNow d u u'=some true):Instr.sameBits n u' u=true:=by
 cases d<;>cases u<;>cases u'<;>simp_all [Instr.sameNow,Instr.sameBits];rename_i a b;have c:=(MapKept.bytes_beq a b).1 (by assumption);grind
theorem afU(n:HF H U.f w)(hx:VR H x u)(hk:VR H k ku)(W:VR H y vu)(e:AY P (av P t) x k y U=.ok v U'):v=bp/\∃z,(Instr.mapUpdate t u ku vu).run P w=.ok () z/\cu H H U U' w z:=by
 unfold AY at e;split at e
 case h_2=>cases e
 rename_i a0 el b o;have a:=YH o;split at e
 case h_2=>cases e
 rename_i q V;let⟨d,h,g,hs⟩:=SP V;unfold AX at e;split at e
 case h_2=>cases e
 rename_i C i;unfold Dj at e;split at e<;>cases e;rename_i D K;obtain⟨B,l,c,s,rfl,r,f,F⟩:=n.map hx i;have p:=(mF.1 f).1;refine⟨R,?_⟩;rcases WV hs hk W C l.toList 0 F K with⟨j,m,f1,f2,f3,f4⟩|⟨f1,f2⟩
 .refine⟨{w with heap:=w.heap.setIfInBounds B (.map (l.modify j λe=>{e with key:=ku,val:=vu}) c)},?_,cu.write n s (by rw[r];trivial) ⟨_,c,xx p,?_⟩⟩
  .have I:l[j]?=some m:=by simpa using f1
   simp[Instr.mapUpdate,run_underlying a,Hz f,DZ h g,Instr.findKey,run_underlying h,f2,I,Instr.keyThatStays,aiv f3,MapKept.run_setObj_map _ f]
  .rw[Array.toList_modify];exact f4
 .refine⟨{w with heap:=w.heap.setIfInBounds B (.map (l.push {key:=ku,val:=vu,born:=c}) (c+1))},?_,cu.write n s (by rw[r];trivial) ⟨_,c+1,xx p,?_⟩⟩
  .simp[Instr.mapUpdate,run_underlying a,Hz f,DZ h g,Instr.findKey,run_underlying h,f1,MapKept.run_setObj_map _ f]
  .rw[Array.toList_push];exact f2 _ R R
end
end
section
section
variable {P:Program}{H H':Ren}{U U':HN}{w w':World}{v:AV}{O:FN}{a:Act}{t:TypeId}
def xS(P:Program)(H:Ren)(U:HN)(w:World)(s:Sem Next)(v:AV)(U':HN):Prop:=∃b u H' w',s.run P w=.ok b w'/\(b=.value u\/(b=.skip/\u=undef))/\VR H' v u/\cu H H' U U' w w'
def nt.lA{s:Sem Value}(x:nt P H U w s v U'):xS P H U w (do pure (.value (<-s))) v U':=by
 let⟨u,H',w',b,c,d⟩:=x;exact⟨.value u,u,H',w',by simp[b],.inl R,c,d⟩
def xS.of{s:Sem Value}(b:HF H U.f w)(x:U'=U/\gD P H w s v):xS P H U w (do pure (.value (<-s))) v U':=by obtain⟨rfl,x⟩:=x;exact(x.vH b).lA
def xS.val{u:Value}(b:HF H U.f w)(c:VR H v u):xS P H U w (pure (.value u)) v U:=⟨.value u,u,H,w,R,.inl R,c,cu.refl b⟩
def UN{s:Sem Value}{o:Option AV}(b:HF H U.f w)(x:∀z,o=some z->gD P H w s z)(e:ia o U=.ok v U'):xS P H U w (do pure (.value (<-s))) v U':=by
 unfold ia at e;split at e<;>cases e;exact .of b ⟨R,x _ R⟩
def agK{o:Oper}(g:HF H U.f w)(u:H U.h=none)(d:∀x∈o.op.operands.toList,VR H (au O x) (a.eval x))(e:bE P o.op O U=.ok v U'):xS P H U w (execOp a.eval o) v U':=by
 unfold execOp;cases a0:o.op<;>rw[a0] at e d<;>first|(cases e;done)|skip
 all_goals simp only[Op.operands] at d
 case move x=>cases e;exact .val g (d x dp)
 case assign x=>cases e;exact .val g (d x dp)
 case pick c x y=>
  have e:wW _ _ _ U=.ok v U':=e;have hc:=d c dp;unfold wW at e;split at e<;>cases e<;>rename_i F<;>rw[F] at hc
  .exact⟨_,_,H,w,by simp[mK.1 hc,Go.asBool],.inl R,d x dp,cu.refl g⟩
  .exact⟨_,_,H,w,by simp[mK.1 hc,Go.asBool],.inl R,d y dp,cu.refl g⟩
 case alloc t=>exact(aaL g u e).lA
 case box t x=>exact(abj g u (d x dp) e).lA
 case load t x=>exact .of g (Ta g (d x dp) e)
 case store t x y=>
  obtain⟨rfl,w',i,n⟩:=aiX (P:=P) g (d x dp) (d y dp) e;exact⟨.skip,undef,H,w',by simp[i],.inr dy,vZ,n⟩
 case convert src dst x=>exact(acn g u (d x dp) e).lA
 case makeSlice t l c=>exact(afP g u (d l dp) (d c dp) e).lA
 case fieldAddr s x f=>exact .of g (ad4 (d x dp) e)
 case field s x f=>exact .of g (ad5 (d x dp) e)
 case indexAddr s x f=>exact .of g (aew (d x dp) (d f dp) e)
 case index s x f=>exact .of g (aeV (d x dp) (d f dp) e)
 case extract x f=>exact .of g (adx (d x dp) e)
 case makeMap t r=>
  cases r with
  |some x=>cases e
  |none=>
   cases e;exact nt.lA ⟨.map (some w.heap.size),_,_,by simp[Instr.makeMap],OY.2 ⟨w.heap.size,sF,R⟩,cu.push (x:=.mp []) (obj:=.map #[] 0) (o:=0) (N:=0) g u ⟨#[],0,by simp,VL.nil,VL.nil⟩⟩
 case lookup t x k ok=>exact .of g (afv g (d x dp) (d k dp) e)
 case mapUpdate t m k x=>
  obtain⟨rfl,w',i,n⟩:=afU (P:=P) g (d m dp) (d k dp) (d x dp) e;exact⟨.skip,undef,H,w',by simp[i],.inr dy,vZ,n⟩
 case build t parts=>exact .of g (abd (λp hp=>d p.2 (by simp;grind)) e)
 case buildSlice t l parts=>exact(abe g u (λp hp=>d p.2 (by simp;grind)) e).lA
 case makeFunc f x y=>exact .of g (afO (λp hp=>d p (by simp;grind)) (λp hp=>d p (by simp;grind)) e)
 case unOp op t x=>exact UN g (λz h=>ajE (d x dp) h) e
 case binOp op t x y cf=>exact UN g (λz h=>abb (d x dp) (d y dp) x y h) e
 case slice t x lo W mx=>
  have e:(if LM W mx then .no else mV (av P t) (au O x) (pP O lo) (pP O W) (pP O mx) U)=.ok v U':=e;split at e
  .cases e
  rename_i a1;have C:∀q:Option Operand,(∀y,q=some y->VR H (au O y) (a.eval y))->OR H (pP O q) (q.map a.eval):=λq F=>by
   cases q with
   |none=>trivial
   |some y=>exact F y R
  exact .of g (aiQ (d x dp) (C lo λy I=>d y (by simp[I])) (C W λy I=>d y (by simp[I])) (C mx λy I=>d y (by simp[I])) (λh=>by cases W<;>cases mx<;>simp_all [LM]) e)
 case nilCheck x=>
  have hx:=d x dp;have e:y0 _ U=.ok v U':=e;unfold y0 at e;split at e<;>cases e<;>rename_i F<;>have j:=hx<;>rw[F] at j
  .let⟨B,o',N,he,hu⟩:=sE.1 j;exact⟨.value (a.eval x),a.eval x,H,w,by simp[hu],.inl R,j,cu.refl g⟩
  .let⟨p',q',hu,_⟩:=IR.1 j;exact⟨.value (a.eval x),a.eval x,H,w,by simp[hu],.inl R,j,cu.refl g⟩
 case call c=>
  have e:yr P c O U=.ok v U':=e;unfold yr at e;split at e
  case h_3=>cases e
  .unfold AC at e;split at e<;>cases e
  rename_i b D;have d:∀x∈c.args.toList,VR H (au O x) (a.eval x):=λx hx=>d x (by simpa [Call.operands,D] using hx);simp only[resolve,D,invoke];have K:∀{x r},c.args.toList=x::r->(c.args.map a.eval)[0]?=some (a.eval x):=λh=>by rw[<-zL,Ek,h];rfl
  have i2:∀{x y r},c.args.toList=x::y::r->(c.args.map a.eval)[1]?=some (a.eval y):=λh=>by rw[<-zL,Ek,h];rfl
  have V:∀{t r},c.argTypes.toList=t::r->c.argTypes[0]?=some t:=λh=>by rw[<-zL,h];rfl
  have j2:∀{t t2 r},c.argTypes.toList=t::t2::r->c.argTypes[1]?=some t2:=λh=>by rw[<-zL,h];rfl
  unfold Cs at e;split at e
  case h_7=>cases e
  all_goals rename_i i n
  .exact .of g (afs (V n) (K i) (d _ (by simp[i])) e)
  .exact .of g (abE (V n) (K i) (d _ (by simp[i])) e)
  .exact(aaW g u (V n) (j2 n) (K i) (i2 i) (d _ (by simp[i])) (d _ (by simp[i])) e).lA
  .exact(acv g (V n) (K i) (i2 i) (d _ (by simp[i])) (d _ (by simp[i])) e).lA
  .exact .of g (afN (by rw[Ek,i];rfl) (d _ (by simp[i])) (d _ (by simp[i])) e)
  .exact(abU g (V n) (K i) (d _ (by simp[i])) e).lA
def NC{q:Prop}(e:q:=by repeat' (first|(cases e;done)|split at e|unfold wW at e|unfold sQ at e|unfold wg at e|unfold xY at e|unfold wi at e|unfold th at e|unfold sM at e|unfold yP at e|unfold Gx at e|unfold ia at e|unfold Bs at e|unfold HQ at e|unfold HP at e|unfold y0 at e|unfold yv at e|unfold Hs at e|unfold oh at e|unfold Bx at e|unfold zD at e|unfold yW at e|unfold vk at e|unfold mm at e|unfold mV at e|unfold mO at e|unfold tH at e|unfold sn at e|unfold sq at e|unfold yI at e|unfold yJ at e|unfold wE at e|unfold yN at e|unfold yA at e|unfold TN at e|unfold yS at e|unfold yR at e|unfold AQ at e|unfold AY at e|unfold AX at e|unfold Dj at e|unfold eF at e|unfold mr at e|unfold yt at e|unfold yc at e|unfold gj at e|unfold Cq at e|unfold lI at e|unfold sH at e|unfold we at e|unfold Af at e|unfold xZ at e|unfold Fu at e|unfold CD at e|unfold An at e|unfold Am at e|(dsimp only at e))):q:=e
def agJ{b:Op}{f:FuncId}{as:L AV}(e:bE P b O U=.call f as):∃c g,b=.call c/\c.callee=.value g/\AC (au O g) (c.args.toList.map (au O))=.call f as:=by
 cases b<;>(try (cases e;done))<;>unfold bE at e<;>dsimp only at e
 case call c=>
  unfold yr at e;split at e
  .exact⟨c,_,R,by assumption,e⟩
  .exfalso
   unfold Cs at e;split at e<;>exact NC
  .cases e
 all_goals (exfalso;exact NC)
structure sy (H:Ren) (U:HN):Prop where
 none:∀b,U.h<=b->H b=.none
 F:Clean U
def sy.step(c:sy H U)(st:cu H H' U U' w w'):sy H' U':=by
 refine⟨λb d=>?_,st.F c.F⟩;cases f:H' b with
 |none=>rfl
 |some x=>have:=st.X b x f;have:=c.none b (bC st.h d);grind
def aq(P:Program):Spec:=λf b U v U'=>∀(H:Ren) (w:World) (c:L Value),HF H U.f w->GR P H->sy H U->VL H b c->
 (callFunc f ⟨c⟩).run P w=.ok (.enter f ⟨c⟩) w/\Calls P f ⟨c⟩ w λe w'=>∃u H',e=.returned u/\VR H' v u/\cu H H' U U' w w'
def EG(P:Program)(r:aZ)(U:HN)(v:AV)(U':HN):Prop:=r=.ok v U'\/∃f b,r=.call f b/\aq P f b U v U'
def ajg{r:aZ}{d:Option Nat}{k:FN->HN->Prop}(h:mY (aq P) r U d k O):∃v U',EG P r U v U'/\k (be d v O) U':=by
 unfold mY at h;split at h
 .exact h.elim
 .exact⟨_,_,.inl R,h⟩
 .let⟨v,U',b,c⟩:=h;exact⟨v,U',.inr ⟨_,_,R,b⟩,c⟩
def DB{o:Oper}{K:Act->World->Prop}{Q:Exit->Act->World->Prop}(I:HF H U.f w)(hn:H U.h=none)(r:(∃f b,bE P o.op O U=.call f b)->sy H U)(V:GR P H)(d:∀x∈o.op.operands.toList,VR H (au O x) (a.eval x))(e:EG P (bE P o.op O U) U v U')
  (k:∀u H' w',VR H' v u->cu H H' U U' w w'->K (a.put o.dst u) w'):o.wp P a w K Q:=by
 unfold Oper.wp;rcases e with e|⟨f,b,e,c⟩
 .let⟨nx,u,H',w',p,q,D,F⟩:=agK I hn d e;rw[p];rcases q with rfl|⟨rfl,rfl⟩
  .exact k _ _ _ D F
  .exact k _ _ _ D F
 .have r:=r ⟨f,b,e⟩;let⟨l,g,i,h,e⟩:=agJ e;rw[i] at d;simp only[Op.operands,Call.operands,h] at d;have C:=d g dp;unfold AC at e;split at e<;>cases e;rename_i x y hq;rw[hq] at C;let⟨m,n,s,hp,B⟩:=IR.1 C;let⟨p,q⟩:=c H w (m++(l.args.toList.map a.eval++n)) I V r (hp.append ((VL.map λz hz=>d z (by simp;grind)).append B));have j:(execOp a.eval o).run P w=.ok (.enter f ⟨m++(l.args.toList.map a.eval++n)⟩) w:=by
   rw[<-p];unfold execOp;rw[i,show(⟨m++(l.args.toList.map a.eval++n)⟩:Array Value)=⟨m⟩++l.args.map a.eval++⟨n⟩ by apply NM;simp];simp[resolve,h,s,Deferred.ofValue,invoke]
  rw[j,Oper.upon_enter];refine q.mono λen w' W=>?_;obtain⟨u,H',rfl,k1,k2⟩:=W;exact k u H' w' k1 k2
end
end
end Go.Proofs.YtehahhggpdhieaaGreatDoor
