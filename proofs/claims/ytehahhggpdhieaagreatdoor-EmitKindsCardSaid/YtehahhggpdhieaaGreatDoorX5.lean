/- Lemmas of the walk of EmitKinds are proved. Conditions: none. -/
import Derived.Test.YtehahhggpdhieaaGreatDoorX4
namespace Go.Proofs.YtehahhggpdhieaaGreatDoor
set_option maxRecDepth 100000
set_option maxHeartbeats 32000000
set_option linter.all false
section
section
variable {P:Program}
section
variable {R:Dr P}{H0 H:Ren}{U0:HN}{w0 w:World}{S:Nat->Prop}{p j:Nat}{a:Act}{o:Oper}(B:rI R H0 U0)(I:Inv R H0 U0 w0 S p H a w)(T:OX R.o S j o)
theorem countP_le{b:Type}{f g:b->Bool}:∀l:List b,(∀x∈l,f x=true->g x=true)->(l.filter f).length<=(l.filter g).length
 |[],_=>ak _
 |x::l,h=>by
  have d:=countP_le l λy b=>h y (by simp[b]);have c:=h x dp;rw[BP,BP];cases b:f x with
  |true=>rw[c b];simpa using d
  |false=>cases g x<;>simp<;>omega
theorem QC{b:Type}{f g:b->Bool}:∀l:List b,(∀x∈l,f x=true->g x=true)->(∃x∈l,g x=true/\f x=false)->(l.filter f).length<(l.filter g).length
 |[],_,⟨x,h,_⟩=>by simp at h
 |x::l,h,⟨y,hy,b,c⟩=>by
  have d:=λy hy=>h y (li x hy);rw[BP,BP];rcases bY.1 hy with rfl|hy
  .rw[b,c]
   have:=countP_le l d
   simp;omega
  .have e:=QC l d ⟨y,hy,b,c⟩;have c:=h x dp;cases b:f x with
   |true=>rw[c b];simpa using e
   |false=>cases g x<;>simp<;>omega
theorem QD{g:Oper->Bool}:∀(l:List Oper) (s p:Nat),((l.zipIdx s).filter λ(x:Oper×Nat)=>g x.1&&decide (x.2<s+p)).length=((l.take p).filter g).length
 |[],s,p=>by simp
 |o::l,s,0=>by
  have:∀x∈(o::l).zipIdx s,s<=x.2:=λx b=>by have:=List.mem_zipIdx b;omega
  rw[ZN.2 (λx b=>by have:=this x b;simp;omega)];rfl
 |o::l,s,p+1=>by
  have b:=QD (g:=g) l (s+1) p;rw[show s+1+p=s+(p+1) by omega] at b;rw[List.zipIdx_cons,rG,BP,BP];cases c:g o<;>simp[c,b]
include B I T in
theorem afF:yz P R.o.toList (kR R.o.toList) j<=R.cY p/\R.cY p<=As P R.o.toList (kR R.o.toList) j:=by
 have d:=QD (g:=dV P) R.o.toList 0 p;have b:∀x∈R.o.toList.zipIdx,R.o[x.2]?=some x.1:=λx c=>by have:=List.mem_zipIdx' c;simp[this]
 unfold Dr.cY;rw[<-d];refine⟨countP_le _ λx c h=>?_,countP_le _ λx c h=>?_⟩<;>let⟨d,e⟩:=iY.1 h<;>rw[ss]<;>refine⟨d,?_⟩
 .have:=(I.tO x.2 x.1 (b x c) d).2 (Fc I.wo j o T.ho T.IZ x.2 e)
  simpa using this
 .have f:=(I.tO x.2 x.1 (b x c) d).1 (by simpa using e);cases d:((kR R.o.toList).getD x.2 0).testBit j with
  |false=>rfl
  |true=>exact absurd (Fc I.wo x.2 x.1 (b x c) (I.wo x.2 x.1 (b x c) f) j d) T.nS
include I in
theorem abD(b:j<=R.o.size)(b:yz P R.o.toList (kR R.o.toList) j<=R.cY p)(b:R.cY p<=As P R.o.toList (kR R.o.toList) j)(cm:calm P R.o.toList (kR R.o.toList) j=true):p<=j/\∀i o,p<=i->i<j->R.o[i]?=some o->dV P o=false:=by
 unfold calm at cm;rcases Bool.or_eq_true_iff.1 cm with cm|cm
 .let⟨b,c⟩:=iY.1 cm;have c:=beq_true.1 (iY.1 c).1;have b:=beq_true.1 b;have e:R.cY p=R.cY j:=by unfold Dr.cY at*;omega
  have b:∀q d,R.cY q<=R.cY (q+d):=λq d=>by
   unfold Dr.cY;rw[List.take_add,BO,ay];omega
  have e:∀q x,R.o[q]?=some x->dV P x=true->R.cY (q+1)=R.cY q+1:=λq x c h=>by
   unfold Dr.cY;rw[Og,show R.o.toList[q]?=some x by simpa using c];simp[BO,h]
  refine⟨?_,λi x d d c=>?_⟩
  .rcases I.base with h|⟨q,x,h,c,d⟩
   .omega
   .by_cases f:q<j
    .omega
    .have:=b j (q-j);rw[show j+(q-j)=q by omega] at this
     have:=e q x c d
     rw[<-h] at this;omega
  .cases f:dV P x with
   |false=>rfl
   |true=>
    have:=e i x c f
    have e:=b p (i-p);rw[show p+(i-p)=i by omega] at e;have e:=b (i+1) (j-(i+1));rw[show i+1+(j-(i+1))=j by omega] at e;omega
 .have e:=(iY.1 cm).1;have b:∀i x,R.o[i]?=some x->dV P x=false:=λi x c=>by
   cases f:dV P x with
   |false=>rfl
   |true=>rw[BM.2 ⟨x,by simpa using ZB c,f⟩] at e;cases e
  refine⟨?_,λi x _ _ c=>b i x c⟩;rcases I.base with h|⟨q,x,h,c,d⟩
  .omega
  .rw[b q x c] at d;cases d
include B I T in
theorem ajv{K:Act->World->Prop}{Q:Exit->Act->World->Prop}(k:∀p' m a' w',Inv R H0 U0 w0 (λi=>S i\/i=j) p' m a' w'->K a' w'):wpOp P R.o Q j K a w:=by
 have a8:=(mF.1 T.ho).1;have hg:=B.gr.mono I.sf.le;have tl:=B.told j o T.ho;have RR:∀x∈o.op.operands.toList,VR H (au (R.F j) x) (a.eval x):=λx hx=>UZ hg (λt e=>looks B I T (by unfold Oper.looksAt;exact oJ _ (List.mem_filterMap.2 ⟨.tmp t,e▸hx,rfl⟩))) (tl.jG x hx);have a6:=Zf (O:=R.F j) R.o o λg x d h hd=>looks B I T (by unfold Oper.looksAt;refine jl _ ?_;rw[h];simp[hd]);have r:Sub H ⟨(R.h p).h,λ_=>.none⟩ (R.G p):=λ_ _ _=>.inl rfl;have a1:∀b:Nat,(⟨(R.h p).h,λ_=>.none⟩:HN).f b=.none:=λ_=>rfl;have a2:∀{U:HN},∀{v a4},bE P o.op (R.F j) U=.ok v a4->(∃f D,bE P o.op (R.F j) U=.call f D)->sy H U:=λh ⟨f,as,h'⟩=>by rw[h] at h';cases h'
 refine NH T.ho (λhw=>?_) (λhw=>?_)<;>rw[<-a6] at hw
 .rcases tl.If with⟨_,l⟩|⟨W,_⟩
  case inr=>rw[hw] at W;cases W
  unfold Dr.Fact at l;cases s:cls P o.op with
  |p=>
   rw[s] at l;have l:bE P o.op (R.F j) (R.h j)=.ok (R.V j) (R.h (j+1)):=l;let⟨q,hq⟩:=WS (O:=R.F j) s;have e:bE P o.op (R.F j) ⟨(R.h p).h,λ_=>.none⟩=.ok (R.V j) ⟨(R.h p).h,λ_=>.none⟩:=by
    rw[hq] at l|-;cases q with
    |none=>cases l
    |some v=>rw[<-(aZ.ok.inj l).1];rfl
   refine DB (HF.sub I.sf.hr r) (Gc B I (ak _)) (a2 e) hg RR (.inl e) λu m w' V C=>?_;have n:∀b x,m b=some x->H b=some x:=λb x e=>(C.X b x e).resolve_right Y;exact k p m _ w' (I.plain B T (by unfold dV;rw[s];rfl) r (.inl a1) C (λb x e=>ae ⟨⟨x,n b x e⟩,rfl⟩) (λb x e=>.inl (n b x e)) V)
  |read=>
   rw[s] at l;have lh:=afF B I T;obtain⟨g,a5,sub,a3,q⟩:∃g:HN,g.h=(R.h p).h/\Sub H g (R.G p)/\(∀b x,H b=some x->g.f b=.none->lv (R.G p b)->qF (R.G p b))/\bE P o.op (R.F j) g=.ok (R.V j) g:=by
    rcases l.2 with cm|h
    .let⟨pj,a0⟩:=abD I Y lh.1 lh.2 cm;let⟨h1,_,_,h4,h5⟩:=Ak B I pj Y a0;refine⟨R.h j,h1,h4,h5,?_⟩
     have:=Mp s l.1
     rw[this] at l;exact l.1
    .let⟨h1,_,_,h4,h5⟩:=Ak B I (ak p) I.Bc λi o h h'=>Y;refine⟨R.h p,rfl,h4,h5,?_⟩
     have:=h p I.base lh.1 lh.2
     unfold A5 at this;split at this
     .rename_i v a4 e
      have:=Mp s e
      subst this;rw[e];subst this;rfl
     .exact this.elim
   refine DB (HF.sub I.sf.hr sub) (Gc B I (BX a5.s)) (a2 q) hg RR (.inl q) λu m w' V C=>?_;have n:∀b x,m b=some x->H b=some x:=λb x e=>(C.X b x e).resolve_right Y;refine k p m _ w' (I.plain B T (by unfold dV;rw[s];rfl) sub (.inr a3) C (λb x e=>?_) (λb x e=>.inl (n b x e)) V);unfold xt;split
   .rfl
   .rename_i c;exact(sub b x (n b x e)).resolve_left λh=>c ⟨⟨x,n b x e⟩,h⟩
  |alloc=>
   have aw:R.M j:=⟨o,T.ho,s,hw⟩;let⟨x,vf,hx,hV,hR,_,hH⟩:=Dr.alloc B.told aw;have q:=hR ⟨R.a+j,λ_=>.none⟩ o T.ho;have F:=I.B j o T.ho s T.nS;refine DB (HF.sub I.sf.hr (U:=⟨R.a+j,λ_=>.none⟩) λ_ _ _=>.inl rfl) F (a2 q) hg RR (.inl q) λu m w' V C=>?_;rw[<-hV] at V;have n:∀b y,m b=some y->H b=some y\/b=R.a+j:=λb y e=>(C.X b y e).imp_right λh=>by
    have h2:b<R.a+j+1:=h.2;have h1:R.a+j<=b:=h.1;omega
   refine k p m _ w' (I.plain B T (by unfold dV;rw[s];rfl) (d:=⟨R.a+j,λ_=>.none⟩) (λ_ _ _=>.inl rfl) (.inl λ_=>rfl) C (λb y e=>?_) (λb y e=>(n b y e).imp_right λh=>⟨h,aw⟩) V);rcases n b y e with h|h
   .exact ae ⟨⟨y,h⟩,rfl⟩
   .subst h;unfold xt;rw[ac (λh=>by let⟨⟨z,hz⟩,_⟩:=h;rw[F] at hz;cases hz),yZ,ae rfl];have e1:(R.h (j+1)).f (R.a+j)=x:=by rw[hH,ae rfl]
    by_cases pj:p<=j
    .rw[Dr.X pj aw,e1]
    .rw[Dr.E λi e h=>by omega,I.late j Y aw T.nS,e1]
  |az=>
   rw[s] at l;have hE:dV P o=true:=by unfold dV;rw[s];rfl
   let⟨pj,a0,_⟩:=JO B I T hE;let⟨h1,h2,h4,sub,a3⟩:=Ak B I pj Y a0;have cl:Clean (R.h j):=λb hb=>by
    have ro:∀i,b=R.a+i->¬R.M i:=λi e ⟨y,hy,a7,_⟩=>by have:=B.room i y hy a7;have:=I.h;omega
    rw[h2 b λi e _=>ro i e,Dr.E λi e _=>ro i e];exact I.F b Y
   have fr:sy H (R.h j):=⟨λb hb=>Gc B I Y,cl⟩;have l:EG P (bE P o.op (R.F j) (R.h j)) (R.h j) (R.V j) (R.h (j+1)):=by
    rcases l with h|⟨i,x,f,D,q1,q2,q3,q4,q5,c⟩
    .exact h
    .refine .inr ⟨f,D,q5,?_⟩;have e:(⟨(R.h j).h,λc=>if c=R.a+i then .none else(R.h j).f c⟩:HN)=R.h j:=by
      have:=h4 i Y ⟨x,by simpa using q2,q3,by rw[q4];rfl⟩
      show HN.mk _ _=HN.mk (R.h j).h (R.h j).f;congr 1;funext c;split
      .rename_i h;rw[h,this]
      .rfl
     exact e▸c
   exact DB (HF.sub I.sf.hr sub) (fr.none _ (ak _)) (λ_=>fr) hg RR l λu m w' V C=>k (j+1) m _ w' (I.az B T hE C V)
 .rcases tl.If with⟨W,_⟩|⟨_,hV,hH⟩
  case inl=>rw[hw] at W;cases W
  have V:VR H (R.V j) undef:=by rw[hV];exact vZ
  cases hE:dV P o with
  |false=>exact k p H _ w (I.plain B T hE r (.inl a1) (cu.refl (HF.sub I.sf.hr r)) (λb x e=>ae ⟨⟨x,e⟩,rfl⟩) (λb x e=>.inl e) V)
  |true=>
   let⟨pj,a0,_⟩:=JO B I T hE;let⟨_,_,_,sub,_⟩:=Ak B I pj Y a0;have C:=cu.refl (HF.sub I.sf.hr sub);exact k (j+1) H _ w (I.az B T hE (by rw[hH];exact C) V)
end
section
variable {R:Dr P}{H0:Ren}{U0:HN}{w0:World}(B:rI R H0 U0)
include B in
theorem aaQ{Q:Exit->Act->World->Prop}(c:∀p H a w,Inv R H0 U0 w0 (λi=>i<R.o.size) p H a w->Q .normal a w):∀(d:Nat) (b:Array Bool) (p:Nat) (H:Ren) (a:Act) (w:World),b.size=R.o.size->((List.range R.o.size).filter λi=>!b.getD i false).length<=d->
  Inv R H0 U0 w0 (λi=>b.getD i false=true) p H a w->wpAny P .any R.o Q d b a w:=by
 have f:∀(b:Array Bool) (i:Nat),b.size=R.o.size->i<R.o.size->b.getD i true=b.getD i false:=J;have e:∀(b:Array Bool) (i:Nat),b.getD i false=true->i<b.size:=J;have done:∀(b:Array Bool) p H a w,b.size=R.o.size->(∀i,i<R.o.size->b.getD i false=true)->Inv R H0 U0 w0 (λi=>b.getD i false=true) p H a w->Q .normal a w:=by
  intro b p H a w g r I
  have:(λi=>b.getD i false=true)=λi=>i<R.o.size:=by funext i;exact propext ⟨λh=>g▸e _ _ h,r i⟩
  rw[this] at I;exact c p H a w I
 have t:∀(b:Array Bool),b.size=R.o.size->∀i,i<R.o.size->b.getD i false=false->∃i,i∈Region.ready .any R.o b:=by
  intro b l i
  induction i using Nat.strongRecOn with
  |_ i s=>
   intro m e;by_cases c:∃q,q<i/\b.getD q false=false
   .let⟨q,g,r⟩:=c;exact s q g Y r
   .obtain⟨o,n⟩:∃o,R.o[i]?=some o:=⟨_,Ej m⟩;refine⟨i,mem_ready.2 ⟨by rw[f b i l m];exact e,o,n,λe u k=>?_⟩⟩
    have:=ah3 B.Mq n u k
    cases k:b.getD e.on false with
    |true=>rfl
    |false=>exact absurd ⟨e.on,this,k⟩ c
 intro d
 induction d with
 |zero=>
  intro b p H a w l e I;have c:∀i,i<R.o.size->b.getD i false=true:=λi m=>by
   cases k:b.getD i false with
   |true=>rfl
   |false=>
    have u:=ff (Nat.le_zero.1 e)
    have:i∈((List.range R.o.size).filter λi=>!b.getD i false):=vO.2 ⟨BS.2 m,by rw[k];rfl⟩
    rw[u] at this;cases this
  refine⟨?_,done b p H a w l c I⟩;rw[List.eq_nil_iff_forall_not_mem];intro i m;let⟨g,o,n,_⟩:=mem_ready.1 m
  have:=(mF.1 n).1
  rw[f b i l this,c i this] at g;cases g
 |succ d s=>
  intro b p H a w l e I;refine⟨λd=>?_,λj c=>?_⟩
  .refine done b p H a w l (λi m=>?_) I;cases k:b.getD i false with
   |true=>rfl
   |false=>let⟨q,k⟩:=t b l i m k;rw[d] at k;cases k
  .let⟨g,o,n,r⟩:=mem_ready.1 c;have e:=(mF.1 n).1;rw[f b j l e] at g;refine ajv B I ⟨n,by rw[g];exact to,r⟩ λq f n r m=>?_;have c:∀i,(b.setIfInBounds j true).getD i false=true↔(b.getD i false=true\/i=j):=λi=>by
    by_cases d:i=j
    .subst d;simp[show i<b.size by omega]
    .simp[Zy (Ne.symm d),d]
   refine s _ q f n r (by simpa using l) ?_ (by rw[show(λi=>(b.setIfInBounds j true).getD i false=true)=λi=>b.getD i false=true\/i=j from funext λi=>propext (c i)];exact m);have d:=QC (f:=λi=>!(b.setIfInBounds j true).getD i false) (g:=λi=>!b.getD i false) (List.range R.o.size)
    (λi _ h=>by have:=c i;cases k:b.getD i false<;>simp_all) ⟨j,BS.2 e,by rw[g];rfl,by rw[(c j).2 (.inr rfl)];rfl⟩
   omega
end
theorem acW(W:P.follows .mixedOrders=true):OI P:=by
 intro n id c b K d g i e f x H a w hr q r C Q k;have D:nu b=c.toList.any (AK P):=by
  have:∀(l:List Oper) (b:List DK) (j:Nat),Bb P c.toList (kR c.toList) b l j=true->nu b=l.any (AK P):=by
   intro l
   induction l with
   |nil=>intro b j h;cases b<;>first|rfl|cases h
   |cons o l d=>
    intro b j h;cases b with
    |nil=>cases h
    |cons k b=>
     let⟨l,m⟩:=iY.1 h;rw[QW l,vL,<-d b _ m];unfold uV AK;cases cls P o.op<;>first|rfl|(dsimp only;split<;>rfl)
  exact this _ _ _ f
 unfold Bt at x;generalize y:(if nu b=true then g.h+c.toList.length else g.h)=u at x;have nN:g.h<=u:=by rw[<-y];split<;>omega
 let⟨F,d,V,_,f0,m,hK,K,k2,_,b⟩:=QZ _ _ _ _ _ _ _ i f x;have f:c.toList.length=c.size:=by simp
 rw[f] at hK
 let R:Dr P:=⟨n,c,g.h,F,d,V⟩
 have B:rI R H g:=by
  refine⟨λi o l=>?_,e,r,q,rfl,by show g.h<=(d 0).h;rw[m];exact nN,λi o l v=>?_⟩
  .have:=b i o (by simpa using l)
   rw[gg] at this;let⟨b,t2,t3,t4⟩:=this;refine⟨b,t2,t3,t4.imp_left λ⟨b,h⟩=>⟨b,?_⟩⟩;unfold Dr.Fact;cases v:cls P o.op<;>rw[v] at h<;>first|exact h|skip
   refine⟨h.1,h.2.imp_right λh p b s t=>?_⟩;refine XZ h (R.cY p) (d p) ?_ s t;rcases b with rfl|⟨q,n,rfl,b,z⟩
   .exact K _ _ (by simp[Dr.cY,m])
   .have:=k2 q n (by simpa using b) z
    have e:R.cY (q+1)=1+R.cY q:=by
     unfold Dr.cY;rw[Og,show R.o.toList[q]?=some n by simpa using b];simp[BO,z];omega
    rw[e];exact this
  .show g.h+i<(d 0).h;have s:i<c.size:=(mF.1 l).1;rw[m];show g.h+i<u;rw[<-y,D,ae (BM.2 ⟨o,by simpa using ZB l,by unfold AK;rw[v];rfl⟩),f];omega
 have n:∀b,(d 0).f b=g.f b:=λb=>by rw[m];rfl
 refine wp_region_any W (aaQ (R:=R) (w0:=w) B ?_ c.size (Array.replicate c.size false) 0 H a _ (by simp[R]) (bC (Oc _ _) (by simp[R])) ?_)
 .intro p K a' w' I;have f:∀i o,p<=i->i<c.size->c[i]?=some o->dV P o=false:=λi o s t l=>by
   cases s:dV P o with
   |false=>rfl
   |true=>have:=(I.tO i o l s).2 t;omega
  let⟨u,t,_⟩:=Ak B I I.Bc (ak _) f;have u:(d c.size).h=(d p).h:=u;have t:∀b,(d c.size).f b=R.G p b:=λb=>t b λi _ h ⟨y,D,_⟩=>by have:=(mF.1 D).1;have h:=h;omega
  have s:∀b,(∀i,b=g.h+i->¬R.M i)->(d c.size).f b=(d p).f b:=λb h=>(t b).t (Dr.E λi e _=>h i e);have f:g.h<=(d 0).h:=B.n0;have f:(d 0).h<=(d p).h:=I.h;have W:∀b,b<g.h->(d c.size).f b=(d p).f b:=λb f=>s b λi e=>Y;refine k .normal (F c.size) (d c.size) K a' w' ⟨rfl,hK⟩ ⟨I.sf.congr λb x _=>(t b).s,λb x q=>by rw[u];exact I.yw b x q,Y,λ_ b f=>?_,λb f h=>(W b f).t (I.dd b f h),λb f h=>(W b f).t (I.um b f h)⟩ ⟨I.E6,λt=>?_,I.IY⟩
  .rw[s b λi e ⟨y,D,h,_⟩=>by have:g.h+i<(d 0).h:=B.room i y D h;omega];exact I.F b (bC (BX u.s) f)
  .exact I.an B (ak _) (λi o g _ _=>g) (λi o g _ _=>g)
 .have g:∀i,¬((Array.replicate c.size false).getD i false=true):=λi=>by
   simp only[NN,Zx];split<;>simp
  refine⟨aJ _,.inl rfl,λi o l z=>⟨λq=>Y,λq=>absurd q (g i)⟩,λj o l q=>absurd q (g j),?_,λb x q=>.inl q,λi o l v _=>r.none _ (du _ _),ak _,?_,λb _ q=>(n b).t q,λb _ _=>n b,λi _ _=>(n _).t (r.F _ (du _ _)),λi q=>absurd q (nR i),
   λt i o q=>absurd q (g i),λt _=>?_,C.size,C.defers⟩
  .refine(SF.drawn (w':={w with drawn:=w.drawn+1}) hr rfl ⟨rfl,rfl,rfl⟩).congr λb x q=>?_;rw[Dr.E λi e _ _=>?_]
   .exact(n b).s
   .rw[r.none b (by rw[e];exact du _ _)] at q;cases q
  .intro b f;have f:(d 0).h<=b:=f;rw[m] at f;exact(n b).t (r.F b (bC nN f))
  .show VR H (F 0 t) _;rw[f0];exact C.at_ t
end
end
section
variable {g:AV->HN->Prop}
section
section
variable {P:Program}{C:Spec}{PT:bW}{O:FN}{U:HN}
def YJ{r:aZ}{d:Option Nat}{k:FN->HN->Prop}(w:mY C r U d k O):∃v a,k (be d v O) a/\∀b,b (be d v O) a->mY C r U d b O:=by
 unfold mY at w|-;split at w
 .exact w.elim
 .exact⟨_,_,w,λ_ h=>h⟩
 .let⟨v,a,b,c⟩:=w;exact⟨v,a,c,λ_ h=>⟨v,a,b,h⟩⟩
def NI{c:L Oper}{K:FN->HN->Prop}:∀(l:L Oper) (O:FN) (U:HN),wpOps P C c l K O U->∃b a,K b a/\∀d,d b a->wpOps P C c l d O U
 |[],O,U,w=>⟨O,U,w,λ_ h=>h⟩
 |o::l,O,U,w=>by
  unfold wpOps at w|-;split at w
  .let⟨v,c,w,q⟩:=YJ w;let⟨b,a,w,c⟩:=NI l _ _ w;exact⟨b,a,w,λd h=>q _ (c d h)⟩
  .exact NI l _ _ w
def FI{e:L Oper}{K:FN->HN->Prop}{f:Nat}:∀(l:L Oper) (b:L DK) (j:Nat) (O:FN) (U:HN) (d:L HN) (g:L kw),dX P C e K f b l j O U d g->∃c a,K c a/\∀i,i c a->dX P C e i f b l j O U d g
 |[],[],j,O,U,d,g,w=>⟨O,U,w.2,λ_ h=>⟨w.1,h⟩⟩
 |[],_::_,_,_,_,_,_,w=>w.elim
 |_::_,[],_,_,_,_,_,w=>w.elim
 |o::l,k::b,j,O,U,d,g,w=>by
  unfold dX at w|-;split at w
  .cases k with
   |az=>
    let⟨v,k,w,q⟩:=YJ (k:=λc a=>dX P C e K f b l (j+1) c a (a::d) g) w;let⟨c,a,w,b⟩:=FI l _ _ _ _ _ _ w;exact⟨c,a,w,λi h=>q _ (b i h)⟩
   |_=>
    dsimp only at w|-;split at w
    .exact FI l _ _ _ _ _ _ w
    .exact w.elim
  .exact FI l _ _ _ _ _ _ w
def xu:∀(c:Code) {K:jn} (O:FN) (U:HN),dQ P C PT c K O U->∃e f d,K e f d/\∀l:jn,l e f d->dQ P C PT c l O U
 |.skip,K,O,U,w=>⟨.normal,O,U,w,λ_ h=>h⟩
 |.exit i,K,O,U,w=>⟨.exit i,O,U,w,λ_ h=>h⟩
 |.ret,K,O,U,w=>⟨.ret,O,U,w,λ_ h=>h⟩
 |.rangeFunc _ _ _ _,_,_,_,w=>w.elim
 |.scope _,_,_,_,w=>w.elim
 |.label _,_,_,_,w=>w.elim
 |.goto _,_,_,_,w=>w.elim
 |.refuse _,_,_,_,w=>w.elim
 |.region id ops false,K,O,U,w=>let ⟨f,d,h,q⟩:=NI _ O U w;⟨.normal,f,d,h,λl=>q (l .normal)⟩
 |.region id ops true,K,O,U,w=>let ⟨f,d,h,q⟩:=FI _ _ _ _ _ _ _ w;⟨.normal,f,d,h,λl=>q (l .normal)⟩
 |.seq a b,K,O,U,w=>by
  let⟨e,k,g,h,q⟩:=xu a O U w;cases e with
  |normal=>
   let⟨e,f,d,h,o⟩:=xu b k g h;exact⟨e,f,d,h,λl h=>q _ (o l h)⟩
  |exit i=>exact⟨_,k,g,h,λl h=>q _ h⟩
  |ret=>exact⟨_,k,g,h,λl h=>q _ h⟩
 |.cond c a b,K,O,U,w=>by
  have w:tM (au O c) (dQ P C PT a K) (dQ P C PT b K) O U:=w
  show∃e f d,K e f d/\∀l:jn,l e f d->tM (au O c) (dQ P C PT a l) (dQ P C PT b l) O U
  unfold tM at w|-;split at w
  .exact xu a O U w
  .exact xu b O U w
  .exact w.elim
 |.block i b,K,O,U,w=>by
  let⟨e,k,g,h,q⟩:=xu b O U w;cases e with
  |normal=>exact⟨_,k,g,h,λl h=>q _ h⟩
  |ret=>exact⟨_,k,g,h,λl h=>q _ h⟩
  |exit j=>
   have h:if j=i then K .normal k g else K (.exit j) k g:=h
   split at h<;>rename_i p
   .exact⟨.normal,k,g,h,λl h=>q _ (show if j=i then _ else _ by rw[ae p];exact h)⟩
   .exact⟨.exit j,k,g,h,λl h=>q _ (show if j=i then _ else _ by rw[ac p];exact h)⟩
 |.loop b,K,O,U,w=>by
  let⟨m,w⟩:=w;have n:∀(m:Nat) (O:FN) (U:HN),sP (dQ P C PT b) m K O U->∃e f d,K e f d/\∀l:jn,l e f d->sP (dQ P C PT b) m l O U:=by
   intro m
   induction m with
   |zero=>exact λ_ _ w=>w.elim
   |succ m r=>
    intro O U w;let⟨e,k,g,h,q⟩:=xu b O U w;cases e with
    |normal=>
     let⟨e,f,d,h,o⟩:=r k g h;exact⟨e,f,d,h,λl h=>q _ (o l h)⟩
    |exit i=>exact⟨_,k,g,h,λl h=>q _ h⟩
    |ret=>exact⟨_,k,g,h,λl h=>q _ h⟩
  let⟨e,f,d,h,q⟩:=n m O U w;exact⟨e,f,d,h,λl h=>⟨m,q l h⟩⟩
def NG(c:Code)(K a:jn)(f:∀e O U,K e O U->a e O U)(O:FN)(U:HN)(w:dQ P C PT c K O U):dQ P C PT c a O U:=let ⟨e,d,b,h,q⟩:=xu c O U w;q a (f e d b h)
def TB{w:jn->FN->HN->Prop}(b:∀K a:jn,(∀e O U,K e O U->a e O U)->∀O U,w K O U->w a O U){K:jn}:∀(m a:Nat) (O:FN) (U:HN),m<=a->sP w m K O U->sP w a K O U
 |0,_,_,_,_,x=>x.elim
 |m+1,0,_,_,h,_=>Y
 |m+1,a+1,O,U,h,x=>b _ _ (λe O U x=>by cases e with
  |normal=>exact TB b m a O U Y x
  |exit i=>exact x
  |ret=>exact x) O U x
def Hq(I:Nat->FN->HN->Prop)(m:Nat)(K:jn):jn:=λe O U=>match e with|.normal=>∃a,a<m/\I a O U|.exit i=>K (.exit i) O U|.ret=>K .ret O U
def aT{b:Code}{K:jn}(I:Nat->FN->HN->Prop)(m:Nat)(g:I m O U)(a:∀m O U,I m O U->dQ P C PT b (Hq I m K) O U):dQ P C PT (.loop b) K O U:=by
 have c:∀m O U,I m O U->sP (dQ P C PT b) (m+1) K O U:=by
  intro m
  induction m using Nat.strongRecOn with
  |_ m i=>
   intro O U d;refine NG b _ _ (λe O U x=>?_) O U (a m O U d);cases e with
   |normal=>
    let⟨e,d,a⟩:=x;exact TB (λK f h=>NG b K f h) (e+1) m O U d (i e d O U a)
   |exit i=>exact x
   |ret=>exact x
 exact⟨m+1,c m O U g⟩
end
section
def ye(l:L AV):FN:=λt=>l.getD t bp
def lC(P:Program):L ResultVar->FN->HN->Option (L AV)
 |[],_,_=>some []
 |.tmp t::r,O,U=>match lC P r O U with|some l=>some (O t::l)|none=>none
 |.cell a t::r,O,U=>match sM (bS P t) (O a) U,lC P r O U with|.ok v _,some l=>some (v::l)|_,_=>none
def vy(l:L AV):AV:=match l with|[]=>.t []|[a]=>a|l=>.t l
def sZ(o:Option (L AV))(Q:AV->HN->Prop)(U:HN):Prop:=match o with|some l=>Q (vy l) U|none=>False
def Bm(P:Program)(a:L ResultVar)(Q:AV->HN->Prop):jn:=λe O U=>match e with|.exit _=>False|.normal=>sZ (lC P a O U) Q U|.ret=>sZ (lC P a O U) Q U
def Mv(P:Program)(a:Func)(Q:AV->HN->Prop):jn:=Bm P a.results.toList Q
def CO(P:Program)(PT:bW)(a:Func):Bool:=match a.body with
 |some c=>!(a.name== "runtime.NumGoroutine")&&wS P a.ntmps PT c
 |none=>false
end
section
variable {P:Program}{PT:bW}
def DV(b:Array Value):ResultVar->Sem Value
 |.tmp t=>pure (b.getD t undef)
 |.cell a t=>do loadVar t (<-asAddr (b.getD a undef))
def Mu{o:Ren}{w:World}{O:FN}{U:HN}{n:Nat}{a:Act}(m:HF o U.f w)(f:FR o n O a):∀{h:L ResultVar} {l:L AV},lC P h O U=some l->∃i,VL o l i/\(h.mapM (DV a.tmps)).run P w=.ok i w
 |[],l,e=>by cases e;exact⟨[],VL.nil,by simp⟩
 |.tmp t::h,l,e=>by
  unfold lC at e;split at e<;>cases e;rename_i e;let⟨i,d,k⟩:=Mu m f e;exact⟨_,VL.cons (f.at_ t) d,by simp[DV,k]⟩
 |.cell j t::h,l,e=>by
  unfold lC at e;split at e<;>cases e;rename_i v z _ g e;let⟨i,r,s⟩:=Mu m f e;let⟨_,u,d,k⟩:=Ta m (f.at_ j) g;have q:=f.at_ j;obtain⟨b,c,x⟩:∃b c,O j=.p b c:=by
   unfold sM at g;split at g
   .exact⟨_,_,by assumption⟩
   .cases g
  rw[x] at q;let⟨B,y,D,_,p⟩:=sE.1 q;rw[p] at d;refine⟨_,VL.cons k r,?_⟩;have d:(loadVar t ⟨B,y+c,none⟩).run P w=.ok u w:=by simpa [Instr.loadAt,Instr.sureAddr] using d
  simp[DV,p,asAddr,d,s]
def aib{j:Func}{m:Ren}{w:World}{O:FN}{U:HN}{n:Nat}{a:Act}(t:HF m U.f w)(k:FR m n O a)(h:sZ (lC P j.results.toList O U) g U):∃v u,g v U/\(results j a.tmps).run P w=.ok u w/\VR m v u:=by
 unfold sZ at h;split at h
 case h_2=>exact h.elim
 rename_i l e;let⟨i,c,p⟩:=Mu t k e;have d:(results j a.tmps).run P w=.ok (if z:i.toArray.size=1 then i.toArray[0] else .tuple i.toArray) w:=by
  have s:∀f:ResultVar->Sem Value,(∀x,f x=DV a.tmps x)->(j.results.mapM f).run P w=.ok i.toArray w:=by
   intro f k;obtain rfl:f=DV a.tmps:=funext k;rw[Array.mapM_eq_mapM_toList];simp[p]
  unfold results;simp only[Sem.run_bind];rw[s _ (by intro x;cases x<;>rfl)]
  rfl
 refine⟨_,_,h,d,?_⟩;have b:=c.len
 match l,c,b with
 |[],c,b=>obtain rfl:=ff b;exact Ad.2 ⟨[],R,VL.nil⟩
 |[x],c,b=>unfold VL at c;obtain⟨u,r,rfl,q,o⟩:=c;unfold VL at o;subst o;exact q
 |x::y::l,c,b=>rw[dif_neg (by simp[b])];exact Ad.2 ⟨i,R,c⟩
def P1(V:P.follows .mixedOrders=true){f:FuncId}{h:Func}{c:Code}{b:List AV}{U:HN}(x:P.funcs[f]?=some h)(o:h.body=some c)(r:CO P PT h=true)(t:Nat.ble b.length h.ntmps=true)
  (w:dQ P (aq P) PT c (Mv P h g) (ye b) U):∃v a,aq P f b U v a/\g v a:=by
 unfold CO at r;rw[o] at r;let⟨o3,o4⟩:=iY.1 r;let⟨e,j,a,d,q⟩:=xu c _ _ w;have i:=gP.1 t;have res:∃l,lC P h.results.toList j a=some l/\g (vy l) a/\(e=.normal\/e=.ret):=by
  cases e with
  |exit i=>exact(show False from d).elim
  |normal=>
   have d:sZ (lC P h.results.toList j a) g a:=d;unfold sZ at d;split at d
   .exact⟨_,by assumption,d,.inl rfl⟩
   .exact d.elim
  |ret=>
   have d:sZ (lC P h.results.toList j a) g a:=d;unfold sZ at d;split at d
   .exact⟨_,by assumption,d,.inr rfl⟩
   .exact d.elim
 let⟨l,y,i,I⟩:=res;refine⟨vy l,a,λF w d hr K W z=>⟨?_,?_⟩,i⟩
 .unfold callFunc;simp only[Sem.run_bind,run_program,Result.andThen_ok,x,show(h.name== "runtime.NumGoroutine")=false by simpa using o3,o,Option.isNone_some,xA,uD,Sem.run_pure]
 have p:FR F h.ntmps (ye b) {tmps:=⟨d⟩++Array.replicate (h.ntmps-(⟨d⟩:Array Value).size) undef,defers:=[]}:=by
  have y:=z.len;refine⟨by simp;omega,λt=>?_,rfl⟩;unfold ye;rw[cA,NN,Array.getElem?_append,List.size_toArray];by_cases i:t<b.length
  .let⟨u,hu,b⟩:=z.get (bM i);rw[bM i,ae (show t<d.length by omega),ZT,hu];exact b
  .rw[rC Y,ac (show¬t<d.length by omega),Zx];split<;>exact vZ
 refine calls_of_wp x o (zJ (acW V) c (λc b m=>c=e/\b=j/\m=a) _ _ o4 (q _ ⟨rfl,rfl,rfl⟩) F _ w hr K W p ?_)
 rintro _ _ _ n a a ⟨rfl,rfl,rfl⟩ s k
 have:=aib (P:=P) (j:=h) (g:=λv m=>v=vy l) s.hr k (by rw[y];rfl)
 obtain⟨v,u,rfl,B,D⟩:=this;rcases I with rfl|rfl
 .exact⟨k.defers,u,B,u,n,rfl,D,s⟩
 .exact⟨k.defers,u,B,u,n,rfl,D,s⟩
end
end
end
end Go.Proofs.YtehahhggpdhieaaGreatDoor
