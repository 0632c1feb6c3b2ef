/- Lemmas of the walk of EmitKinds are proved. Conditions: none. -/
import Derived.Test.YtehahhggpdhieaaGreatDoorX3
namespace Go.Proofs.YtehahhggpdhieaaGreatDoor
set_option maxRecDepth 100000
set_option maxHeartbeats 32000000
set_option linter.all false
section
variable {x:AV}{e:HN}{i:Nat}
section
variable {P:Program}{H:Ren}{U:HN}{w:World}{O:FN}{a:Act}{n:Nat}
def ajl(e:Ex):Exit:=match e with|.normal=>.normal|.exit id=>.exit id|.ret=>.ret
def acX(b:Array Oper)(j:Nat):yx b.toList j=(b[j]?).bind (·.dst):=by
 unfold yx;rw[<-zL];cases b.toList[j]?<;>rfl
def aap{b:Bool}(h:VR H x (.bool b)):x=.l b:=by cases x<;>unfold VR at h<;>grind
def Zf(c:Array Oper)(o:Oper)(f:∀j w d,o.guard=some (j,w)->(c[j]?).bind (·.dst)=some d->VR H (O d) (a.tmps.getD d undef)):lg c.toList o.guard O=Region.wanted o (yielded c a.tmps):=by
 unfold Region.wanted lg;cases h:o.guard with
 |none=>rfl
 |some g=>
  let⟨j,w⟩:=g;dsimp only;rw[acX];unfold yielded;cases b:(c[j]?).bind (·.dst) with
  |none=>grind
  |some d=>
   have e:=f j w d h b;simp only[b,Option.bind_some];cases h:a.tmps[d]? with
   |none=>
    rw[show a.tmps.getD d undef=undef by simp[h]] at e;cases f:O d with
    |l b=>rw[f,mK] at e;cases e
    |_=>rfl
   |some u=>
    rw[show a.tmps.getD d undef=u by simp[h]] at e;cases u with
    |bool b=>rw[aap e];exact rB.2 (by simp[asBool])
    |_=>cases f:O d with
     |l b=>rw[f,mK] at e;cases e
     |_=>rfl
def NH{Q:Exit->Act->World->Prop}{b:Array Oper}{o:Oper}{K:Act->World->Prop}(e:b[i]?=some o)(c:Region.wanted o (yielded b a.tmps)=true->o.wp P a w K Q)(d:Region.wanted o (yielded b a.tmps)=false->K (a.put o.dst undef) w):wpOp P b Q i K a w:=by
 unfold wpOp;rw[e];dsimp only;split
 .exact .inl (c (by assumption))
 .rename_i h;exact d (NO.2 h)
def ws{d:Option Nat}(h:Q0 n d=true):∀t,d=some t->t<n:=by
 rintro t rfl
 exact gP.1 h
def Ab(P:Program)(n:Nat)(K:Ex->FN->HN->Prop)(H:Ren)(U:HN)(w:World)(Q:Exit->Act->World->Prop):Prop:=∀e d b c f g,K e d b->cu H c U b w g->FR c n d f->Q (ajl e) f g
def Ab.step{K:Ex->FN->HN->Prop}{b:Ren}{c:World}{Q:Exit->Act->World->Prop}(k:Ab P n K H U w Q)(st:cu H b U e w c):Ab P n K b e c Q:=λi d e b g c h s f=>k i d e b g c h (st.M s) f
def NJ(b:Array Oper){K:FN->HN->Prop}{Q:Exit->Act->World->Prop}:∀(l:L Oper) (c:Nat) (O:FN) (U:HN),(∀j,l[j]?=b[c+j]?)->l.all (G4 P n)=true->wpOps P (aq P) b.toList l K O U->
  ∀(H:Ren) (a:Act) (w:World),HF H U.f w->GR P H->sy H U->FR H n O a->Ab P n (λe O U=>e=.normal/\K O U) H U w Q->Go.wpOps P b Q (List.range' c (N l)) a w
 |[],c,O,U,_,_,x,H,a,w,q,g,m,f,k=>k .normal O U H a w ⟨R,x⟩ (cu.refl q) f
 |o::l,c,O,U,B,ok,x,H,a,w,q,g,m,f,k=>by
  have C:b[c]?=some o:=by have:=B 0;simpa using this.s
  have i:∀j,l[j]?=b[c+1+j]?:=λj=>by have:=B (j+1);grind
  rw[uA,ss] at ok;let⟨D,F⟩:=iY.1 ok.1;have y:=ws F;have V:=Zf (O:=O) b o λj w d _ _=>f.at_ d;rw[bt,List.range'_succ,wpOps_cons];unfold wpOps at x;split at x<;>rename_i r<;>rw[V] at r
  .refine NH C (λ_=>?_) (λh=>by rw[r] at h;cases h);let⟨v,a0,d,x⟩:=ajg x;refine DB q (m.none _ (ak _)) (λ_=>m) g (λz W=>UZ g (λt h=>by subst h;exact f.at_ t) (lX.1 D z W)) d λu s w' I p=>?_;exact NJ b l (c+1) _ _ i ok.2 x s _ w' p.hr (g.mono p.le) (m.step p) ((f.mono p.le).put I y) (k.step p)
  .exact NH C (λh=>by rw[r] at h;cases h) λ_=>NJ b l (c+1) _ _ i ok.2 x H _ w q g m (f.put vZ y) k
def xO(P:Program)(c:Code)(Q:Exit->Act->World->Prop)(a:Act)(w:World):Prop:=
 ∀(b:Frame) (k:L Item) (f:L Frame),∃e d g,Q e d g/\Arrives P (lone (b.at a (.code c::.inLoop c::k)) f w) b k f e d g
def xO.step{c:Code}{Q:Exit->Act->World->Prop}(h:c.wp P (Exit.then (xO P c Q) Q) a w):xO P c Q a w:=by
 intro b k p;let⟨e,d,f,i,m⟩:=h b (.inLoop c::k) p;cases e with
 |normal=>
  let⟨l,j,o,g,e⟩:=i b k p;exact⟨l,j,o,g,.of_steps (Steps.trans m (.one step_inLoop)) e⟩
 |exit id=>exact⟨_,d,f,i,A⟩
 |goto l=>exact⟨_,d,f,i,A⟩
 |ret=>exact⟨_,d,f,i,A⟩
 |panic b=>exact⟨_,d,f,i,A⟩
 |outgrown=>exact⟨_,d,f,i,A⟩
def xO.loop{c:Code}{Q:Exit->Act->World->Prop}(h:xO P c Q a w):(Code.loop c).wp P Q a w:=λb k f=>let ⟨e,d,g,q,r⟩:=h b k f;⟨e,d,g,q,.of_steps (.one step_loop) r⟩
def OI(P:Program):Prop:=∀{n:Nat} {id:Nat} {ops:Array Oper} {b:L DK} {K:FN->HN->Prop} {O:FN} {U:HN},ops.toList.all (G4 P n)=true->DS P ops=true->Bb P ops.toList (kR ops.toList) b ops.toList 0=true->
 Bt P (aq P) b ops.toList K O U->∀(H:Ren) (a:Act) (w:World),HF H U.f w->GR P H->sy H U->FR H n O a->∀{Q},Ab P n (λe O U=>e=.normal/\K O U) H U w Q->(Code.region id ops true).wp P Q a w
def zJ(D:OI P){PT:bW}:∀(c:Code) (K:jn) (O:FN) (U:HN),wS P n PT c=true->dQ P (aq P) PT c K O U->∀(H:Ren) (a:Act) (w:World),HF H U.f w->GR P H->sy H U->FR H n O a->∀{Q},Ab P n K H U w Q->c.wp P Q a w
 |.skip,K,O,U,_,x,H,a,w,q,s,u,p,_,k=>wp_skip (k .normal _ _ _ _ _ x (cu.refl q) p)
 |.exit i,K,O,U,_,x,H,a,w,q,s,u,p,_,k=>wp_exit (k (.exit i) _ _ _ _ _ x (cu.refl q) p)
 |.ret,K,O,U,_,x,H,a,w,q,s,u,p,_,k=>wp_ret (k .ret _ _ _ _ _ x (cu.refl q) p)
 |.region id ops false,K,O,U,ok,x,H,a,w,q,s,u,p,Q,k=>by
  refine wp_region ?_;rw[aaa];exact NJ ops ops.toList 0 O U (by simp) (iY.1 ok).1 x H a w q s u p λe o l y z B h=>k e o l y z B (h.1▸h.2)
 |.region id ops true,K,O,U,ok,x,H,a,w,q,s,u,p,Q,k=>by
  obtain⟨C,o2⟩:=iY.1 ok;obtain⟨o2,o3⟩:=iY.1 o2;exact D C o2 o3 x H a w q s u p λe o l y z B h=>k e o l y z B (h.1▸h.2)
 |.seq b c,K,O,U,ok,x,H,a,w,q,s,u,p,Q,k=>by
  obtain⟨C,o2⟩:=iY.1 ok;refine wp_seq (zJ D b _ O U C x H a w q s u p λe o l y z B h r d=>?_);cases e with
  |normal=>exact zJ D c K o l o2 h y z B r.hr (s.mono r.le) (u.step r) d (k.step r)
  |exit id=>exact k _ _ _ _ _ _ h r d
  |ret=>exact k _ _ _ _ _ _ h r d
 |.cond t b c,K,O,U,ok,x,H,a,w,q,s,u,p,Q,k=>by
  obtain⟨W,ok⟩:=iY.1 ok;obtain⟨C,o2⟩:=iY.1 ok;have F:∀b,au O t=.l b->a.eval t=.bool b:=λb h=>by
   cases t with
   |tmp t=>have:=p.at_ t;rw[show O t=.l b from h,mK] at this;exact this
   |const v=>cases v<;>first|(cases W;done)|(cases h;rfl)
   |global g=>cases h
   |func f=>cases h
  have x:tM (au O t) (dQ P (aq P) PT b K) (dQ P (aq P) PT c K) O U:=x;unfold tM at x;split at x
  .rename_i h;exact wp_cond_true (F _ h) (zJ D b K O U C x H a w q s u p k)
  .rename_i h;exact wp_cond_false (F _ h) (zJ D c K O U o2 x H a w q s u p k)
  .exact x.elim
 |.block i b,K,O,U,ok,x,H,a,w,q,s,u,p,Q,k=>by
  refine wp_block (zJ D b _ O U ok x H a w q s u p λe o l y z B h r d=>?_);cases e with
  |normal=>exact k .normal _ _ _ _ _ h r d
  |exit j=>
   have h:if j=i then K .normal o l else K (.exit j) o l:=h
   show Exit.inBlock i Q (.exit j) z B;rw[Exit.inBlock];split<;>rename_i I<;>simp only[I,vR,uD] at h
   .exact k .normal _ _ _ _ _ h r d
   .exact k (.exit j) _ _ _ _ _ h r d
  |ret=>exact k .ret _ _ _ _ _ h r d
 |.loop b,K,O,U,ok,x,H,a,w,q,s,u,p,Q,k=>by
  obtain⟨m,x⟩:=x;refine xO.loop ?_
  induction m generalizing O U H a w with
  |zero=>exact x.elim
  |succ m V=>
   refine xO.step (zJ D b _ O U ok x H a w q s u p λe o l y z B h r d=>?_);cases e with
   |normal=>exact V o l y z B r.hr (s.mono r.le) (u.step r) d (k.step r) h
   |exit id=>exact k _ _ _ _ _ _ h r d
   |ret=>exact k _ _ _ _ _ _ h r d
 |.rangeFunc ..,_,_,_,_,x,_,_,_,_,_,_,_,_,_=>x.elim
 |.scope _,_,_,_,_,x,_,_,_,_,_,_,_,_,_=>x.elim
 |.label _,_,_,_,_,x,_,_,_,_,_,_,_,_,_=>x.elim
 |.goto _,_,_,_,_,x,_,_,_,_,_,_,_,_,_=>x.elim
 |.refuse _,_,_,_,_,x,_,_,_,_,_,_,_,_,_=>x.elim
end
variable {b j:Nat}
section
variable {P:Program}{O:FN}{U U':HN}{v:AV}
def fg(r:HN->aZ):Prop:=∃o,∀U,r U=ia o U
def lH(r:HN->aZ):Prop:=(∀U v U',r U≠.ok v U')\/∃x,qF x/\∃a:Nat->AV,∀U,r U=.ok (a U.h) (U.X x)
section
variable {r s:HN->aZ}{c:Prop} [Decidable c] {i:AV}{k:Nat->HN->aZ}
def fg.ok{v:AV}:fg λU=>.ok v U:=⟨some v,λ_=>R⟩
def fg.no:fg λ_=>.no:=⟨none,λ_=>R⟩
def fg.ia{o:Option AV}:fg λU=>ia o U:=⟨o,λ_=>R⟩
def fg.ite(h:fg r)(g:fg s):fg λU=>if c then r U else s U:=by split<;>assumption
def fg.idx(h:∀n,fg (k n)):fg λU=>mm i λn=>k n U:=by
 cases i<;>first|exact .no|skip
 exact fg.ite (h _) .no
def fg.PI{o:Option AV}{d:Nat}(h:∀n,fg (k n)):fg λU=>tH o d λn=>k n U:=by
 cases o
 .exact h d
 .exact .idx h
def fg.yj{e d:Option AV}{b a:Nat}{k:Nat->Nat->HN->aZ}(h:∀n m,fg (k n m)):fg λU=>mO e d b a λn m=>k n m U:=.PI (k:=λn U=>tH d b λm=>if n<=m/\m<=a then k n m U else .no) λn=>.PI (k:=λm U=>if n<=m/\m<=a then k n m U else .no) λm=>.ite (h n m) .no
def fg.HL{l a c s:Nat}:fg λU=>sq b j l a c s U:=.ite .ok .ok
def fg.MT{f e:Option AV}{d:Nat}{a:Cp}(h:fg r):fg λU=>sn f e b j d a U (r U):=by
 cases f<;>cases e<;>first|exact h|exact fg.idx (k:=λm U=>if m<=d then .ok (.a b j m a) U else r U) λm=>.ite .ok h
def fg.len{n:Nat}:fg λU=>mr n U:=.ite .ok .no
def fg.cap{a:TD}:fg λU=>yt a x U:=by
 cases a<;>first|exact .no|skip
 cases x<;>first|exact .no|exact .len|skip
 rename_i c;cases c<;>first|exact .no|exact .len
def lH.no:lH λ_=>.no:=.inl nofun
def lH.ite(h:lH r)(g:lH s):lH λU=>if c then r U else s U:=by split<;>assumption
def lH.idx(h:∀n,lH (k n)):lH λU=>mm i λn=>k n U:=by
 cases i<;>first|exact .no|skip
 exact lH.ite (h _) .no
def lH.X{l:L AV}{a:Nat->AV}:lH λU=>.ok (a U.h) (U.X (.E false l)):=.inr ⟨.E false l,trivial,a,λ_=>R⟩
def lH.th{a:Nat}{o:Option (L AV)}:lH λU=>th a o U:=by cases o<;>first|exact .no|exact .X (a:=λb=>.a b 0 a (.k a))
def lH.sQ{o:Option (L AV)}:lH λU=>sQ o U:=by cases o<;>first|exact .no|exact .X (a:=λb=>.p b 0)
end
def WS{n:Op}(e:cls P n=.p):fg (bE P n O):=by
 cases n<;>first|exact .no|(exfalso;revert e;simp[cls];done)|exact .ok|exact .ia|skip
 case pick c a b=>show fg λU=>wW (au O c) (au O a) (au O b) U;generalize au O c=x;cases x<;>first|exact .no|(rename_i b;cases b<;>exact .ok)
 case build t q=>show fg λU=>wg (av P t) (cr P t) O q.toList U;cases av P t<;>cases cr P t<;>first|exact .no|(unfold wg xY;dsimp only;split<;>first|exact .ok|exact .no)
 case nilCheck x=>show fg λU=>y0 (au O x) U;cases au O x<;>first|exact .no|exact .ok
 case makeFunc f a c=>show fg λU=>yW f (a.toList.map (au O)) (c.toList.map (au O)) U;cases f<;>first|exact .no|exact .ok
 case fieldAddr t x f=>show fg λU=>yI (qV (av P t) f) (au O x) U;cases qV (av P t) f<;>cases au O x<;>first|exact .no|exact .ite .no .ok
 case field t x f=>show fg λU=>yJ (qV (av P t) f) (au O x) U;cases qV (av P t) f<;>cases au O x<;>first|exact .no|exact .ia
 case indexAddr t x i=>show fg λU=>wE (av P t) (au O x) (au O i) U;cases av P t<;>cases au O x<;>first|exact .no|exact .idx λ_=>.ite .ok .no
 case index t x i=>show fg λU=>yN (av P t) (au O x) (au O i) U;cases av P t<;>cases au O x<;>first|exact .no|exact .idx λ_=>.ite .ok .no|exact .idx λ_=>.ite .ia .no
 case extract x i=>show fg λU=>yA (au O x) i U;cases au O x<;>first|exact .no|exact .ia
 case slice t x m l g=>
  refine .ite .no ?_;generalize pP O m=m;generalize pP O l=l;generalize pP O g=g;generalize av P t=o;generalize au O x=x;show fg λU=>mV o x m l g U;unfold mV;cases g<;>cases o<;>cases x<;>(try dsimp only)<;>first|exact .no|exact .yj λ_ _=>.ok|exact .yj λ_ _=>.HL|exact .idx λ_=>.ite (.yj λ_ _=>.ok) .no|skip
  all_goals
   rename_i h;cases h<;>first|exact .MT (.yj λ_ _=>.HL)|exact .MT (.ite (.yj λ_ _=>.ok) .no)|exact .MT .no|exact .no|exact .idx λ_=>.ite (.yj λ_ _=>.HL) .no|exact .ite (.idx λ_=>.ite (.yj λ_ _=>.HL) .no) .no
 case convert s d x=>
  show fg λU=>if s=d then yv P (av P d) (au O x) U (oh P (av P s) (av P d) (au O x) U) else oh P (av P s) (av P d) (au O x) U
  unfold cls at e;dsimp only at e
  have:fg λU=>oh P (av P s) (av P d) (au O x) U:=by cases j:av P d<;>rw[j] at e<;>first|exact .no|(cases e;done)|(exfalso;revert e;dsimp only;split<;>exact nofun)|(cases av P s<;>cases au O x<;>first|exact .no|exact .ok)
  refine .ite ?_ this;cases j:av P d<;>rw[j] at e this<;>first|exact this|(exfalso;revert e;dsimp only;split<;>exact nofun)
 case call c=>
  show fg λU=>yr P c O U;unfold cls at e;unfold yr;dsimp only at e|-;split at e<;>first|(cases e;done)|skip
  all_goals
   rename_i p;simp only[p];unfold Cs;split<;>first|exact .no|exact .ia|exact .cap|contradiction
def aaK{e:Op}(a:cls P e=.alloc):lH (bE P e O):=by
 cases e<;>first|(exfalso;revert a;simp[cls];done)|exact .sQ|skip
 case buildSlice t n g=>
  show lH λU=>wi P (av P t) n O g.toList U;cases av P t<;>first|exact .no|skip
  refine .ite ?_ (.ite ?_ .no)
  .cases g.toList<;>first|exact .th|exact .no
  .cases cr P _<;>first|exact .no|exact .th
 case makeMap t r=>cases r<;>first|exact .no|exact .inr ⟨.mp [],trivial,λb=>.map b,λ_=>rfl⟩
 case makeSlice t l c=>
  show lH λU=>vk P (av P t) (au O l) (au O c) U;cases av P t<;>first|exact .no|skip
  rename_i f s b;show lH λU=>vk P (.a f s b) (au O l) (au O c) U;unfold vk;dsimp only;cases cr P f<;>first|exact .no|exact .idx λl=>.idx λc=>.ite (.X (a:=λb=>.a b 0 l (.k c))) .no
 case convert s d x=>
  unfold cls at a;dsimp only at a;show lH λU=>if s=d then yv P (av P d) (au O x) U (oh P (av P s) (av P d) (au O x) U) else oh P (av P s) (av P d) (au O x) U
  cases j:av P d<;>rw[j] at a<;>(try dsimp only at a)<;>first|(cases a;done)|skip
  split at a
  .cases a
  rename_i h;simp only[ac h];cases av P s<;>cases au O x<;>first|exact .no|exact .ite (.X (a:=λb=>.a b 0 _ (.B 1))) .no
 case call c=>
  unfold cls at a;dsimp only at a;split at a<;>cases a
def Mp{j:Op}(f:cls P j=.read)(e:bE P j O U=.ok v U'):U'=U:=by
 cases j<;>first|(exfalso;revert f;simp[cls];done)|skip
 case load t x=>unfold bE sM at e;dsimp only at e;split at e<;>first|(cases e;done)|skip;unfold yP at e;split at e<;>first|(cases e;done)|skip;split at e<;>first|(split at e<;>cases e;rfl)|(unfold Gx ia at e;split at e<;>cases e;rfl)
 case lookup t x k ok=>
  unfold bE yS at e;dsimp only at e;split at e<;>first|(cases e;done)|skip
  split at e<;>first|(cases e;done)|skip
  unfold yR at e;split at e<;>first|(cases e;done)|skip
  unfold AQ at e;split at e<;>cases e
  rfl
 case convert s d x=>
  have g:oh P (av P s) (av P d) (au O x) U=.ok v U'->(∀e a b,av P d=.a e a b->s=d)->U'=U:=λe h=>by
   unfold oh at e;split at e<;>first|(cases e;done)|(cases e;rfl)|skip
   .split at e<;>cases e;rfl
   .split at e<;>first|(cases e;done)|skip
    unfold Bx at e;split at e<;>first|(cases e;done)|skip
    unfold zD at e;split at e<;>cases e
    rfl
   .rename_i l m _
    have:=h _ _ _ l
    subst this;rw[l] at m;cases m
  unfold cls at f;dsimp only at f;have g:=λq=>g q λe a b h=>by rw[h] at f;dsimp only at f;split at f<;>first|assumption|cases f
  unfold bE at e;dsimp only at e;split at e
  .unfold yv at e;split at e<;>first|exact g e|skip
   split at e<;>first|exact g e|skip
   split at e<;>first|(cases e;done)|skip
   unfold Hs at e;split at e<;>cases e
   rfl
  .exact g e
 case call c=>
  unfold cls at f;dsimp only at f;split at f<;>first|(cases f;done)|skip
  rename_i n;unfold bE yr at e;simp only[n] at e;unfold Cs at e;split at e<;>first|(cases e;done)|contradiction|skip
  unfold eF mr at e;split at e<;>first|(cases e;done)|(split at e<;>cases e;rfl)
end
end
section
variable {i:Nat}
section
section
variable {H H':Ren}{f g f':Nat->BN}{U U':HN}{w w':World}
open Classical in
noncomputable def xt(H:Ren)(f:Nat->BN)(U U':HN)(b:Nat):BN:=if(∃x,H b=some x)/\U.f b=.none then f b else U'.f b
def Sub(H:Ren)(U:HN)(f:Nat->BN):Prop:=∀b x,H b=some x->U.f b=.none\/U.f b=f b
theorem Sub.eq{b:Nat}{x:Nat×Nat×Nat}(s:Sub H U f)(e:H b=some x)(l:lv (U.f b)):U.f b=f b:=(s b x e).resolve_left λq=>by rw[q] at l;exact l
theorem HF.sub(h:HF H f w)(s:Sub H U f):HF H U.f w:=by
 refine⟨λb B o a e=>?_,λb j B o a k i e d l c=>?_⟩
 .rcases s b _ e with q|q
  .rw[q];trivial
  .rw[q];exact h.bT b B o a e
 .have q:=s.eq e l.lv;have m:=s.eq d c;rw[q] at l|-;rw[m] at c|-;exact h.inj b j B o a k i e d l c
theorem SF.congr(s:SF H H' f f' w w')(q:∀b x,H' b=some x->f' b=g b):SF H H' f g w w' where
 le:=s.le
 hr:=⟨λb B o N e=>by rw[<-q b _ e];exact s.hr.bT b B o N e,λb b' B o N o' N' e e' l l'=>by rw[<-q b _ e] at l|-;rw[<-q b' _ e'] at l'|-;exact s.hr.inj b b' B o N o' N' e e' l l'⟩
 kJ:=λb B o N e hw=>s.kJ b B o N e (by rw[q b _ e];exact hw)
 ro:=λb B o N e hl hw=>s.ro b B o N e (by rw[q b _ e];exact hl) (by rw[q b _ e];exact hw)
 size:=s.size
 aR:=s.aR
 K:=s.K
theorem SF.frame(I:HF H f w)(s:Sub H U f)(u:(∀b,U.f b=.none)\/∀b x,H b=some x->U.f b=.none->lv (f b)->qF (f b))(r:cu H H' U U' w w'):SF H H' f (xt H f U U') w w':=by
 have k:∀b,((∃x,H b=some x)/\U.f b=.none)->xt H f U U' b=f b:=λb c=>ae c;have m:∀b,¬((∃x,H b=some x)/\U.f b=.none)->xt H f U U' b=U'.f b:=λb c=>ac c;have C:∀b,U.f b=.none->¬lv (U.f b):=λb h l=>by rw[h] at l;exact l
 have F:∀B,xW H U.f B->xW H f B:=λB ⟨b,o,a,e,h⟩=>⟨b,o,a,e,s.eq e h.lv▸h⟩;have j:∀b B o a,H b=some (B,o,a)->U.f b=.none->lv (f b)->¬xW H U.f B:=by
  rintro b B o a e t v ⟨n,y,p,z,d⟩
  have h1:=s.eq z d.lv;rcases u with q|q
  .exact C _ (q n) d.lv
  .rcases I.inj n b B y p o a z e (h1▸d) v with h|h
   .subst h;exact C _ t d.lv
   .exact(HI h).2 (q b _ e t v).wl
 have D:∀b B o a,H b=some (B,o,a)->U.f b=.none->wl (f b)->∀n y p,H n=some (B,y,p)->¬lv (U.f n):=by
  intro b B o a e t i n y p z d;have h1:=s.eq z d;rcases u with q|q
  .exact C _ (q n) d
  .rcases I.inj b n B o a y p e z i (h1▸d) with h|h
   .subst h;exact C _ t d
   .exact(HI h).1 (q b _ e t i.lv)
 have get:∀b x y,H b=some x->H' b=some y->x=y:=λb x y e u=>jX ((r.le b x e).s.t u);have V:∀b d B o a p n,((∃x,H b=some x)/\U.f b=.none)->H' b=some (B,o,a)->H' d=some (B,p,n)->lv (f b)->wl (U'.f d)->False:=by
  intro b d B o a p n ⟨⟨x,ex⟩,t⟩ e u l i;obtain rfl:=get b x _ ex e;have K:=(I.bT b B o a ex).lt l;rcases r.kJ d B p n u i with h1|h1
  .omega
  .exact j b B o a ex t l h1
 have W:∀b d B o a p n,((∃x,H b=some x)/\U.f b=.none)->H' b=some (B,o,a)->H' d=some (B,p,n)->wl (f b)->lv (U'.f d)->False:=by
  intro b d B o a p n c e u l C;by_cases i:wl (U'.f d)
  .exact V b d B o a p n c e u l.lv i
  .let⟨⟨x,ex⟩,t⟩:=c;obtain rfl:=get b x _ ex e;have K:=(I.bT b B o a ex).lt l.lv;rcases r.ro d B p n u C i with⟨z,K,_⟩|h1|h1
   .exact D b B o a ex t l _ _ _ z K
   .omega
   .exact j b B o a ex t l.lv h1
 refine⟨r.le,⟨λb B o a e=>?_,λb d B o a p n e u l C=>?_⟩,λb B o a e i=>?_,λb B o a e v i=>?_,r.size,λB D hn=>r.aR B D λh=>hn (F B h),r.K⟩
 .by_cases c:(∃x,H b=some x)/\U.f b=.none
  .rw[k b c];let⟨⟨x,ex⟩,t⟩:=c;obtain rfl:=get b x _ ex e;by_cases v:lv (f b)
   .have h:=I.bT b B o a ex;exact h.mono r.le (r.aR B (h.lt v) (j b B o a ex t v))
   .rw[Lu v];trivial
  .rw[m b c];exact r.hr.bT b B o a e
 .by_cases c:(∃x,H b=some x)/\U.f b=.none<;>by_cases h:(∃x,H d=some x)/\U.f d=.none
  .rw[k b c] at l|-;rw[k d h] at C|-;let⟨⟨x,ex⟩,_⟩:=c;let⟨⟨y,j⟩,_⟩:=h;obtain rfl:=get b x _ ex e;obtain rfl:=get d y _ j u;exact I.inj b d B o a p n ex j l C
  .rw[k b c] at l;rw[m d h] at C;exact(W b d B o a p n c e u l C).elim
  .rw[m b c] at l;rw[k d h] at C;exact(V d b B p n o a h u e C l).elim
  .rw[m b c] at l|-;rw[m d h] at C|-;exact r.hr.inj b d B o a p n e u l C
 .by_cases c:(∃x,H b=some x)/\U.f b=.none
  .rw[k b c] at i;let⟨⟨x,ex⟩,_⟩:=c;obtain rfl:=get b x _ ex e;exact .inr ⟨b,o,a,ex,i⟩
  .rw[m b c] at i;exact(r.kJ b B o a e i).imp_right (F B)
 .by_cases c:(∃x,H b=some x)/\U.f b=.none
  .rw[k b c] at v i;let⟨⟨x,ex⟩,_⟩:=c;obtain rfl:=get b x _ ex e;exact .inl ⟨ex,v,i⟩
  .rw[m b c] at v i;rcases r.ro b B o a e v i with⟨z,K,a⟩|h1|h1
   .have q:=s.eq z K;rw[q] at K a;exact .inl ⟨z,K,a⟩
   .exact .inr (.inl h1)
   .exact .inr (.inr (F B h1))
end
section
variable {P:Program}{ops:Array Oper}
theorem ad6{a:Type}(n:Nat)(k:Nat->a):RZ n k=k n:=by cases n<;>rfl
theorem aa9(look:Nat->Nat)(o:Oper)(i:Nat)(h:(Cr look o).testBit i=true):∃e∈o.after,Region.binds .any e=true/\(i=e.on\/(look e.on).testBit i=true):=by
 have c:∀(l:List Edge) (s:Nat),(l.foldl (λs e=>if Region.binds .any e then s|||2^e.on|||look e.on else s) s).testBit i=true->s.testBit i=true\/∃e∈l,Region.binds .any e=true/\(i=e.on\/(look e.on).testBit i=true):=by
  intro l
  induction l with
  |nil=>grind
  |cons e l m=>
   intro s h;rw[N7] at h;rcases m _ h with h1|⟨j,b,a⟩
   .split at h1
    .rename_i d;rw[Nat.testBit_or,Nat.testBit_or,Ij,Ij,Nat.testBit_two_pow] at h1;simp only[IF] at h1;rcases h1 with(h1|h1)|h1
     .exact .inl h1
     .exact .inr ⟨e,by simp,d,.inl h1.s⟩
     .exact .inr ⟨e,by simp,d,.inr h1⟩
    .exact .inl h1
   .exact .inr ⟨j,by simp[b],a⟩
 rcases c o.after.toList 0 h with h1|⟨e,k,a⟩
 .simp at h1
 .exact⟨e,by simpa using k,a⟩
theorem PC:∀(b:List Oper) (j:Nat) (a:List Nat),a.length=j->(∀i,i<j->(yh b j a).getD i 0=a.getD (j-1-i) 0)/\
  ∀q o,b[q]?=some o->(yh b j a).getD (j+q) 0=Cr (λi=>if i<j+q then(yh b j a).getD i 0 else 0) o
 |[],j,a,c=>by
  refine⟨λi d=>?_,J⟩;show a.reverse.getD i 0=_;grind
 |o::b,j,a,c=>by
  rw[show yh (o::b) j a=yh b (j+1) (Cr (λi=>if i<j then a.getD (j-1-i) 0 else 0) o::a) from ad6 _ _];have h:=PC b (j+1) (Cr (λi=>if i<j then a.getD (j-1-i) 0 else 0) o::a) (by simp[c]);grind
def Fb(ops:Array Oper)(j i:Nat):Bool:=((kR ops.toList).getD j 0).testBit i
theorem Fc{S:Nat->Prop}(c:∀j o,ops[j]?=some o->S j->∀e∈o.after,Region.binds .any e=true->S e.on):∀(j:Nat) (o:Oper),ops[j]?=some o->(∀e∈o.after,Region.binds .any e=true->S e.on)->∀i,Fb ops j i=true->S i:=by
 intro j
 induction j using Nat.strongRecOn with
 |_ j q=>
  intro o m d i h
  have:=(PC ops.toList 0 [] rfl).2 j o (by simpa using m)
  rw[gg] at this;unfold Fb kR at h;rw[this] at h;obtain⟨e,l,k,h1|h1⟩:=aa9 _ _ _ h
  .exact h1▸d e l k
  .split at h1
   .rename_i n;have p:=(mF.1 m).1;obtain⟨b,a⟩:∃b,ops[e.on]?=some b:=⟨_,Ej Y⟩;exact q e.on n b a (c e.on b a (d e l k)) i h1
   .simp at h1
theorem ah3(h:DS P ops=true){j:Nat}{o:Oper}(a:ops[j]?=some o){e:Edge}(c:e∈o.after)(b:Region.binds .any e=true):e.on<j:=by
 have:=lX.1 h j (BS.2 (mF.1 a).1)
 rw[a] at this
 have:=lX.1 (iY.1 this).1 e (by simpa using c)
 rw[b] at this;exact gP.1 this
theorem XE(h:DS P ops=true){j:Nat}{x o:Oper}(b:i<j)(c:ops[i]?=some x)(a:ops[j]?=some o):Fb ops j i=true\/(x.apart ops o=true/\(dV P o=true->dV P x=false)):=by
 have:=lX.1 h j (BS.2 (mF.1 a).1)
 rw[a] at this
 have:=lX.1 (iY.1 this).2 i (BS.2 b)
 rw[c] at this
 have:L4 P ops (kR ops.toList) i j x o=true:=this
 unfold L4 at this;unfold Fb;simp only[Ij,ss,Bool.not_eq_true',Bool.and_eq_false_iff] at this;grind
end
def IK(P:Program)(b:List Oper)(d j:Nat)(r:aZ)(U:HN)(v:AV)(U':HN):Prop:=EG P r U v U'\/∃i x f a,j<i/\b[i]?=some x/\cls P x.op=.alloc/\x.guard=none/\r=.call f a/\aq P f a ⟨U.h,λc=>if c=d+i then .none else U.f c⟩ v U'
structure Dr (P:Program) where
 n:Nat
 o:Array Oper
 a:Nat
 F:Nat->FN
 h:Nat->HN
 V:Nat->AV
namespace Dr
variable {P:Program}(R:Dr P)
def M(i:Nat):Prop:=∃o,R.o[i]?=some o/\cls P o.op=.alloc/\lg R.o.toList o.guard (R.F i)=true
def IG(p:Nat):Prop:=p=0\/∃q o,p=q+1/\R.o[q]?=some o/\dV P o=true
def cY(p:Nat):Nat:=((R.o.toList.take p).filter (dV P)).length
def Fact(i:Nat)(o:Oper):Prop:=match cls P o.op with
 |.alloc=>∃a,bE P o.op (R.F i) ((R.h i).at_ (R.a+i))=.ok (R.V i) a/\R.h (i+1)=a.at_ (R.h i).h
 |.az=>IK P R.o.toList R.a i (bE P o.op (R.F i) (R.h i)) (R.h i) (R.V i) (R.h (i+1))
 |.read=>bE P o.op (R.F i) (R.h i)=.ok (R.V i) (R.h (i+1))/\(calm P R.o.toList (kR R.o.toList) i=true\/∀p,R.IG p->yz P R.o.toList (kR R.o.toList) i<=R.cY p->R.cY p<=As P R.o.toList (kR R.o.toList) i->A5 (bE P o.op (R.F i) (R.h p)) (R.V i))
 |.p=>bE P o.op (R.F i) (R.h i)=.ok (R.V i) (R.h (i+1))
structure T (i:Nat) (o:Oper):Prop where
 dst:∀d,o.dst=some d->d<R.n
 jG:∀x∈o.op.operands.toList,Gk P x=true
 put:R.F (i+1)=be o.dst (R.V i) (R.F i)
 If:(lg R.o.toList o.guard (R.F i)=true/\R.Fact i o)\/(lg R.o.toList o.guard (R.F i)=false/\R.V i=bp/\R.h (i+1)=R.h i)
end Dr
end
end
section
variable {b i:Nat}
section
variable {P:Program}
theorem XZ{r:kw}:∀{a:List HN},tf P r a (a.length-1)->∀(q:Nat) (g:HN),a.reverse[q]?=some g->r.lo<=q->q<=r.h->A5 (bE P r.o r.O g) r.v
 |[],_,q,g,b,_,_=>by simp at b
 |U::a,x,q,g,b,d,e=>by
  let⟨f,h⟩:=x;simp only[bt,BW] at f h;rw[Iy] at b;by_cases c:q<a.length
  .rw[tp (by simpa using c)] at b;exact XZ h q g b d e
  .have c:=(xB.1 b).1;obtain rfl:q=a.length:=by simp at c;omega
   rw[vN (by simp)] at b;simp at b;exact b▸f d e
theorem QW{a b:DK}(h:FG a b=true):a=b:=by
 unfold FG at h;split at h<;>first|rfl|(cases h;done)|skip
 let⟨c,d⟩:=iY.1 h;rw[beq_true.1 c,beq_true.1 d]
def Cg(P:Program)(n:Nat)(a:List Oper)(f:Nat)(g:List HN)(j:Nat)(o:Oper)(c:FN)(e:HN)(v:AV)(h:FN)(b:HN):Prop:=
 (∀d,o.dst=some d->d<n)/\(∀x∈o.op.operands.toList,Gk P x=true)/\h=be o.dst v c/\((lg a o.guard c=true/\match cls P o.op with
  |.alloc=>∃d,bE P o.op c (e.at_ (f+j))=.ok v d/\b=d.at_ e.h
  |.az=>IK P a f j (bE P o.op c e) e v b
  |.read=>bE P o.op c e=.ok v b/\(calm P a (kR a) j=true\/tf P ⟨o.op,c,v,yz P a (kR a) j,As P a (kR a) j⟩ g (g.length-1))
  |.p=>bE P o.op c e=.ok v b)\/(lg a o.guard c=false/\v=bp/\b=e))
theorem QZ{n:Nat}{f:List Oper}{K:FN->HN->Prop}{s:Nat}:∀(l:List Oper) (m:List DK) (j:Nat) (u:FN) (w:HN) (b:List HN) (z:List kw),l.all (G4 P n)=true->Bb P f (kR f) m l j=true->dX P (aq P) f K s m l j u w b z->
  ∃(F:Nat->FN) (C:Nat->HN) (V:Nat->AV) (a:List HN),F 0=u/\C 0=w/\K (F l.length) (C l.length)/\(∀(q:Nat) (r:HN),b.reverse[q]?=some r->a.reverse[q]?=some r)/\
   (∀(i:Nat) (o:Oper),l[i]?=some o->dV P o=true->a.reverse[b.length+((l.take i).filter (dV P)).length]?=some (C (i+1)))/\(∀r∈z,tf P r a (a.length-1))/\
   ∀(i:Nat) (o:Oper),l[i]?=some o->Cg P n f s a (j+i) o (F i) (C i) (V i) (F (i+1)) (C (i+1))
 |[],[],j,u,w,b,z,_,_,x=>by
  obtain⟨x1,x2⟩:=x;refine⟨λ_=>u,λ_=>w,λ_=>bp,b,rfl,rfl,x2,λ_ _ h=>h,by simp,?_,by simp⟩;clear x2
  induction z with
  |nil=>simp
  |cons r z ih=>exact λy hy=>(bY.1 hy).elim (λh=>h▸x1.1) (ih x1.2 y)
 |[],_::_,_,_,_,_,_,_,_,x=>x.elim
 |_::_,[],_,_,_,_,_,_,_,x=>x.elim
 |o::l,k::m,j,u,w,b,z,ok,pk,x=>by
  rw[uA,ss] at ok;obtain⟨W,g2⟩:=iY.1 ok.1;obtain⟨B,p2⟩:=iY.1 (show(FG k (uV P f (kR f) j o)&&Bb P f (kR f) m l (j+1))=true from pk);have B:=QW B;obtain⟨v,t,D,hv,a1,x⟩:∃v t D,(∀a,(∀r∈D,tf P r a (a.length-1))->Cg P n f s a j o u w v (be o.dst v u) t)/\(∀r∈z,r∈D)/\dX P (aq P) f K s m l (j+1) (be o.dst v u) t (if dV P o=true then t::b else b) D:=by
   have mk:∀{v t},(∀a:List HN,((lg f o.guard u=true/\_)\/_))->∀a,Cg P n f s a j o u w v (be o.dst v u) t:=λh a=>⟨ws g2,lX.1 W,rfl,h a⟩;unfold dX at x;split at x
   .rename_i hw;unfold dV Cg;cases hc:cls P o.op with
    |alloc=>
     obtain rfl:k=.alloc:=by rw[B];unfold uV;rw[hc]
     dsimp only at x;split at x
     .rename_i v g e;exact⟨v,_,z,λa _=>⟨ws g2,lX.1 W,rfl,.inl ⟨hw,g,e,rfl⟩⟩,λ_ h=>h,x⟩
     .exact x.elim
    |az=>
     obtain rfl:k=.az:=by rw[B];unfold uV;rw[hc]
     obtain⟨v,g,d,x⟩:∃v g,IK P f s j (bE P o.op u w) w v g/\dX P (aq P) f K s m l (j+1) (be o.dst v u) g (g::b) z:=by
      dsimp only at x;unfold mY at x;split at x
      .exact x.elim
      .rename_i e;exact⟨_,_,.inl (.inl e),x⟩
      .rename_i e;obtain⟨v,g,c|⟨i,y,c1,c2,c3,c4,c⟩,x⟩:=x
       .exact⟨v,g,.inl (.inr ⟨_,_,e,c⟩),x⟩
       .exact⟨v,g,.inr ⟨i,y,_,_,c1,c2,c3,c4,e,c⟩,x⟩
     exact⟨v,g,z,λa _=>⟨ws g2,lX.1 W,rfl,.inl ⟨hw,d⟩⟩,λ_ h=>h,x⟩
    |p=>
     obtain rfl:k=.p:=by rw[B];unfold uV;rw[hc]
     dsimp only at x;split at x
     .rename_i v g e;exact⟨v,g,z,λa _=>⟨ws g2,lX.1 W,rfl,.inl ⟨hw,e⟩⟩,λ_ h=>h,x⟩
     .exact x.elim
    |read=>
     unfold uV at B;rw[hc] at B;dsimp only at B;split at B<;>rename_i a0<;>subst B<;>dsimp only at x<;>split at x<;>first|exact x.elim|(rename_i v g e)
     .exact⟨v,g,z,λa _=>⟨ws g2,lX.1 W,rfl,.inl ⟨hw,e,.inl a0⟩⟩,λ_ h=>h,x⟩
     .exact⟨v,g,_,λa h=>⟨ws g2,lX.1 W,rfl,.inl ⟨hw,e,.inr (h _ (by simp))⟩⟩,λr h=>by simp[h],x⟩
   .rename_i hw;refine⟨bp,w,z,λa _=>⟨ws g2,lX.1 W,rfl,.inr ⟨hw,rfl,rfl⟩⟩,λ_ h=>h,?_⟩
    have:yy k w b=if dV P o=true then w::b else b:=by
     rw[B];unfold uV dV;cases cls P o.op<;>first|rfl|(dsimp only;split<;>rfl)
    rwa [this] at x
  obtain⟨F,C,V,a,f0,g0,hK,k1,k2,k3,k4⟩:=QZ l m (j+1) _ _ _ _ ok.2 p2 x;refine⟨λi=>Nat.casesOn i u λi=>F i,λi=>Nat.casesOn i w λi=>C i,λi=>Nat.casesOn i v λi=>V i,a,rfl,rfl,hK,λq r I=>k1 q r ?_,λi o' ho hE=>?_,λr hr=>k3 r (a1 r hr),λi o' ho=>?_⟩
  .split
   .have:=(xB.1 I).1
    rw[Iy,tp this];exact I
   .exact I
  .cases i with
   |zero=>
    obtain rfl:o=o':=by simpa using ho
    rw[ae hE] at k1;refine k1 _ _ ?_
    show(t::b).reverse[b.length+0]?=some (C 0)
    rw[g0,Iy,nk,vN (by simp)];simp
   |succ i=>
    have:=k2 i o' (by simpa using ho) hE
    rw[rG];by_cases I:dV P o=true
    .rw[Ip I,bt];rw[ae I,bt] at this;rw[show b.length+((List.filter (dV P) (List.take i l)).length+1)=b.length+1+(List.filter (dV P) (List.take i l)).length by omega];exact this
    .rw[Io I]
     rwa [ac I] at this
  .cases i with
   |zero=>
    obtain rfl:o=o':=by simpa using ho
    show Cg P n f s a (j+0) o u w v (F 0) (C 0);rw[f0,g0];exact hv a k3
   |succ i=>
    have:=k4 i o' (by simpa using ho)
    rw[show j+1+i=j+(i+1) by omega] at this;exact this
namespace Dr
variable {R:Dr P}(K:∀i o,R.o[i]?=some o->R.T i o)
noncomputable def G(R:Dr P)(p b:Nat):BN:=open Classical in if R.a+p<=b/\R.M (b-R.a) then(R.h (b-R.a+1)).f b else(R.h p).f b
theorem X{p:Nat}(h:p<=i)(a:R.M i):R.G p (R.a+i)=(R.h (i+1)).f (R.a+i):=by
 unfold G;rw[xG,ae ⟨Y,a⟩]
theorem E{p:Nat}(h:∀i,b=R.a+i->p<=i->¬R.M i):R.G p b=(R.h p).f b:=ac λ⟨c,a⟩=>h (b-R.a) Y Y a
include K
theorem alloc(a:R.M i):∃(x:BN) (c:Nat->AV),qF x/\R.V i=c (R.a+i)/\(∀d,∀o,R.o[i]?=some o->bE P o.op (R.F i) d=.ok (c d.h) (d.X x))/\(R.h (i+1)).h=(R.h i).h/\∀b,(R.h (i+1)).f b=if b=R.a+i then x else(R.h i).f b:=by
 let⟨o,g,f,j⟩:=a
 rcases(K i o g).If with⟨_,h⟩|⟨h,_⟩
 .unfold Fact at h;rw[f] at h;let⟨_,e,h⟩:=h;rcases aaK (O:=R.F i) f with q|⟨x,k,c,q⟩
  .exact absurd e (q _ _ _)
  .rw[q] at e;obtain⟨f,rfl⟩:=aZ.ok.inj e;refine⟨x,c,k,f.s,λd c c=>by rw[g] at c;cases c;exact q d,by rw[h];rfl,λb=>by rw[h];rfl⟩
 .rw[j] at h;cases h
theorem PF{p:Nat}:∀(d:Nat),p+d<=R.o.size->(∀i o,p<=i->i<p+d->R.o[i]?=some o->dV P o=false)->(R.h (p+d)).h=(R.h p).h/\
  (∀b,(∀i,b=R.a+i->p+d<=i->¬R.M i)->(R.h (p+d)).f b=R.G p b)/\∀i,p+d<=i->R.M i->(R.h (p+d)).f (R.a+i)=(R.h p).f (R.a+i)
 |0,_,_=>⟨rfl,λb h=>(E h).s,λ_ _ _=>rfl⟩
 |d+1,a,e=>by
  let⟨l,m,n⟩:=PF d Y λi o a b c=>e i o a Y c;obtain⟨o,k⟩:∃o,R.o[p+d]?=some o:=⟨_,Ej Y⟩;have g:=e (p+d) o Y Y k;rw[<-oK];by_cases a:R.M (p+d)
  .let⟨x,_,_,_,_,c,f1⟩:=alloc K a;refine⟨c.t l,λb j=>?_,λi s c=>by rw[f1,ac Y];exact n i Y c⟩;by_cases e:b=R.a+(p+d)
   .subst e;exact(X Y a).s
   .rw[f1,ac e];exact m b λi f r=>j i f Y
  .have:R.h (p+d+1)=R.h (p+d):=by
    rcases(K _ o k).If with⟨t,h⟩|⟨_,_,h⟩
    .unfold Fact at h;unfold dV at g;cases e:cls P o.op<;>rw[e] at h g
     .let⟨_,q⟩:=WS (O:=R.F (p+d)) e;have h:bE P o.op _ _=_:=h;rw[q] at h;unfold ia at h;split at h
      .exact(aZ.ok.inj h).2.s
      .cases h
     .exact absurd ⟨o,k,e,t⟩ a
     .exact Mp e h.1
     .cases g
    .exact h
   rw[this];exact⟨l,λb j=>m b λi f r c=>if h:i=p+d then a (h▸c) else j i f Y c,λi s c=>n i Y c⟩
end Dr
end
end
section
variable {d e:HN}{b i:Nat}
section
variable {P:Program}
structure rI (R:Dr P) (H0:Ren) (U0:HN):Prop where
 told:∀i o,R.o[i]?=some o->R.T i o
 Mq:DS P R.o=true
 fresh:sy H0 U0
 gr:GR P H0
 e0:U0.h=R.a
 n0:R.a<=(R.h 0).h
 room:∀i o,R.o[i]?=some o->cls P o.op=.alloc->R.a+i<(R.h 0).h
structure Inv (R:Dr P) (H0:Ren) (U0:HN) (w0:World) (S:Nat->Prop) (p:Nat) (H:Ren) (a:Act) (w:World):Prop where
 Bc:p<=R.o.size
 base:R.IG p
 tO:∀i o,R.o[i]?=some o->dV P o=true->(i<p↔S i)
 wo:∀j o,R.o[j]?=some o->S j->∀e∈o.after,Region.binds .any e=true->S e.on
 sf:SF H0 H U0.f (R.G p) w0 w
 yw:∀b x,H b=some x->H0 b=some x\/(R.a<=b/\b<(R.h p).h)
 B:∀i o,R.o[i]?=some o->cls P o.op=.alloc->¬S i->H (R.a+i)=none
 h:(R.h 0).h<=(R.h p).h
 F:Clean (R.h p)
 dd:∀b,b<R.a->U0.f b=.none->(R.h p).f b=.none
 um:∀b,b<R.a->H0 b=none->(R.h p).f b=U0.f b
 DY:∀i,p<=i->R.M i->(R.h p).f (R.a+i)=.none
 late:∀i,i<p->R.M i->¬S i->(R.h p).f (R.a+i)=(R.h (i+1)).f (R.a+i)
 Ks:∀t i o,S i->R.o[i]?=some o->o.dst=some t->(∀i' o',S i'->R.o[i']?=some o'->o'.dst=some t->i'<=i)->VR H (R.V i) (a.tmps.getD t undef)
 Kr:∀t,(∀i o,S i->R.o[i]?=some o->o.dst≠some t)->VR H (R.F 0 t) (a.tmps.getD t undef)
 E6:a.tmps.size=R.n
 IY:a.defers=[]
theorem Rh{p:Nat->Prop}:∀j:Nat,(∃i,i<j/\p i)->∃i,i<j/\p i/\∀b,b<j->p b->b<=i
 |0,⟨i,h,_⟩=>absurd h (nR i)
 |j+1,⟨i,h,c⟩=>by
  by_cases q:p j
  .exact⟨j,bJ j,q,λb h _=>Nat.le_of_lt_succ h⟩
  .have:i≠j:=λe=>q (e▸c)
   let⟨i,_,d,f⟩:=Rh j ⟨i,Y,c⟩;exact⟨i,Y,d,λb h c=>f b (by have:b≠j:=λe=>q (e▸c);omega) c⟩
section
variable {R:Dr P}{H0 H:Ren}{U0:HN}{w0 w:World}{S:Nat->Prop}{p j:Nat}{a:Act}{o:Oper}(B:rI R H0 U0)
include B in
theorem rI.slot(t:Nat):∀j,j<=R.o.size->(∀i o,i<j->R.o[i]?=some o->o.dst=some t->(∀k c,k<j->R.o[k]?=some c->c.dst=some t->k<=i)->R.F j t=R.V i)/\((∀i o,i<j->R.o[i]?=some o->o.dst≠some t)->R.F j t=R.F 0 t)
 |0,_=>⟨λi _ h=>absurd h (nR i),λ_=>rfl⟩
 |j+1,b=>by
  let⟨u,v⟩:=rI.slot t j Y;obtain⟨o,m⟩:∃o,R.o[j]?=some o:=⟨_,Ej Y⟩;rw[(B.told j o m).put];cases n:o.dst with
  |none=>
   have s:∀i c,R.o[i]?=some c->c.dst=some t->i≠j:=λi c h l e=>by subst e;rw[m] at h;cases h;rw[n] at l;cases l
   exact⟨λi c q g f b=>u i c (om (s i c g f)) g f λk x h=>b k x Y,λh=>v λi x q=>h i x Y⟩
  |some d=>
   by_cases e:t=d
   .subst e;have r:be (some t) (R.V j) (R.F j) t=R.V j:=ae rfl;rw[r];exact⟨λi c q g f b=>by have:=b j o Y m n;rw[show i=j by omega],λh=>absurd n (h j o Y m)⟩
   .have r:be (some d) (R.V j) (R.F j) t=R.F j t:=ac e;have s:∀i c,R.o[i]?=some c->c.dst=some t->i≠j:=λi c h l d=>by subst d;rw[m] at h;cases h;rw[n] at l;cases l;exact e rfl
    rw[r];exact⟨λi c q g f b=>u i c (om (s i c g f)) g f λk x h=>b k x Y,λh=>v λi x q=>h i x Y⟩
include B in
theorem Inv.an(I:Inv R H0 U0 w0 S p H a w){t:Nat}(q:j<=R.o.size)(r:∀i o,i<j->R.o[i]?=some o->o.dst=some t->S i)(n:∀i o,S i->R.o[i]?=some o->o.dst=some t->i<j):VR H (R.F j t) (a.tmps.getD t undef):=by
 by_cases c:∃i,i<j/\∃o,R.o[i]?=some o/\o.dst=some t
 .let⟨i,h,⟨o,g,e⟩,f⟩:=Rh j c;rw[(B.slot t j q).1 i o h g e λk l m d b=>f k m ⟨l,d,b⟩];exact I.Ks t i o (r i o h g e) g e λk l m d b=>f k (n k l m d b) ⟨l,d,b⟩
 .rw[(B.slot t j q).2 λi o h g e=>c ⟨i,h,o,g,e⟩];exact I.Kr t λi o m g e=>c ⟨i,n i o m g e,o,g,e⟩
structure OX (ops:Array Oper) (S:Nat->Prop) (j:Nat) (o:Oper):Prop where
 ho:ops[j]?=some o
 nS:¬S j
 IZ:∀e∈o.after,Region.binds .any e=true->S e.on
variable (I:Inv R H0 U0 w0 S p H a w)(T:OX R.o S j o)
include B I T in
theorem lower{x:Oper}(b:i<j)(c:R.o[i]?=some x):S i\/(x.apart R.o o=true/\(dV P o=true->dV P x=false)):=(XE B.Mq b c T.ho).imp_left λh=>Fc I.wo j o T.ho T.IZ i h
include B I T in
theorem upper{y:Oper}(d:j<i)(b:R.o[i]?=some y)(c:S i):o.apart R.o y=true/\(dV P y=true->dV P o=false):=
 (XE B.Mq d T.ho b).resolve_left λh=>T.nS (Fc I.wo i y b (I.wo i y b c) j h)
include B I T in
theorem looks{t:Nat}(f:t∈o.looksAt R.o):VR H (R.F j t) (a.tmps.getD t undef):=by
 have b:=(mF.1 T.ho).1;refine I.an B Y (λi x c e b=>?_) (λi y d g b=>?_)
 .rcases lower B I T c e with h|⟨h,_⟩
  .exact h
  .exact absurd f ((Oper.apart_spec h).1 t b)
 .have e:i≠j:=λe=>T.nS (e▸d);by_cases c:i<j
  .exact c
  .exact absurd f ((Oper.apart_spec (upper B I T Y g d).1).2.2 t b)
include B I in
theorem Gc(c:(R.h p).h<=b):H b=none:=by
 cases c:H b with
 |none=>rfl
 |some x=>
  have d:=B.n0;have d:=I.h;have d:=B.e0;rcases I.yw b x c with h|h
  .rw[B.fresh.none b Y] at h;cases h
  .omega
include B I T in
theorem Inv.next{p':Nat}{H':Ren}{w':World}{u:Value}(Bc:p'<=R.o.size)(base:R.IG p')(tO:∀i o,R.o[i]?=some o->dV P o=true->(i<p'↔(S i\/i=j)))(sf:SF H H' (R.G p) (R.G p') w w')
  (yw:∀b x,H' b=some x->H b=some x\/(R.a<=b/\b<(R.h p').h)) (un:∀i o,R.o[i]?=some o->cls P o.op=.alloc->¬(S i\/i=j)->H' (R.a+i)=none)
  (nx:(R.h p).h<=(R.h p').h) (clean:Clean (R.h p')) (dd:∀b,b<R.a->(R.h p).f b=.none->(R.h p').f b=.none) (um:∀b,b<R.a->H b=none->(R.h p').f b=(R.h p).f b)
  (DY:∀i,p'<=i->R.M i->(R.h p').f (R.a+i)=.none) (late:∀i,i<p'->R.M i->¬(S i\/i=j)->(R.h p').f (R.a+i)=(R.h (i+1)).f (R.a+i)) (hv:VR H' (R.V j) u):Inv R H0 U0 w0 (λi=>S i\/i=j) p' H' (a.put o.dst u) w' where
 Bc:=Bc
 base:=base
 tO:=tO
 wo:=λi x hx hS e he hb=>by
  rcases hS with hS|rfl
  .exact .inl (I.wo i x hx hS e he hb)
  .rw[T.ho] at hx;cases hx;exact .inl (T.IZ e he hb)
 sf:=I.sf.M sf
 yw:=λb x e=>by
  rcases yw b x e with h|h
  .exact(I.yw b x h).imp_right λh=>⟨h.1,cW h.2 nx⟩
  .exact .inr h
 B:=un
 h:=bC I.h nx
 F:=clean
 dd:=λb h1 h3=>dd b h1 (I.dd b h1 h3)
 um:=λb h1 h3=>by
  have:H b=none:=by
   cases hq:H b with
   |none=>rfl
   |some x=>have:=I.yw b x hq;grind
  rw[um b h1 this,I.um b h1 h3]
 DY:=DY
 late:=late
 Ks:=λt i x hS hx hd hmax=>by
  by_cases hij:i=j
  .subst hij;rw[T.ho] at hx;cases hx;rw[hd,W5 (by rw[I.E6];exact(B.told i o T.ho).dst t hd)];exact hv
  .have hS:=hS.resolve_right hij;have hod:o.dst≠some t:=λhod=>by
    have h1:=hmax j o (.inr rfl) T.ho hod;exact(Oper.apart_spec (upper B I T Y hx hS).1).2.1 t hod hd
   rw[Mf hod];exact(I.Ks t i x hS hx hd λi' o' h=>hmax i' o' (.inl h)).mono sf.le
 Kr:=λt hno=>by
  rw[Mf (hno j o (.inr rfl) T.ho)];exact(I.Kr t λi o h=>hno i o (.inl h)).mono sf.le
 E6:=by
  have:=I.E6
  cases o.dst<;>simp[Act.put,this]
 IY:=by
  have:=I.IY
  cases o.dst<;>simp[Act.put,this]
include B I T in
theorem Inv.plain{c:Ren}{q:World}{u:Value}(r:dV P o=false)(n:Sub H d (R.G p))(m:(∀b,d.f b=.none)\/∀b x,H b=some x->d.f b=.none->lv (R.G p b)->qF (R.G p b))(v:cu H c d e w q)
  (l:∀b x,c b=some x->xt H (R.G p) d e b=R.G p b) (k:∀b x,c b=some x->H b=some x\/(b=R.a+j/\R.M j)) (t:VR c (R.V j) u):Inv R H0 U0 w0 (λi=>S i\/i=j) p c (a.put o.dst u) q:=by
 refine Inv.next B I T I.Bc I.base (λi x g f=>⟨λh=>.inl ((I.tO i x g f).1 h),λh=>?_⟩) ((SF.frame I.sf.hr n m v).congr l) (λb x l=>(k b x l).imp_right λh=>?_) (λi x g s m=>?_) (ak _) I.F (λ_ _ h=>h) (λ_ _ _=>rfl) I.DY (λi b l n=>I.late i b l λh=>n (.inl h)) t
 .rcases h with h|rfl
  .exact(I.tO _ x g f).2 h
  .rw[T.ho] at g;cases g;rw[r] at f;cases f
 .let⟨h,f,b,l,_⟩:=h
  have:=B.room _ _ b l
  have:=I.h
  omega
 .cases b:c (R.a+i) with
  |none=>rfl
  |some y=>
   rcases k _ _ b with h|⟨h,_⟩
   .rw[I.B i x g s λh=>m (.inl h)] at h;cases h
   .exact absurd (.inr Y) m
include B I in
theorem Ak(b:p<=j)(g:j<=R.o.size)(c:∀i o,p<=i->i<j->R.o[i]?=some o->dV P o=false):(R.h j).h=(R.h p).h/\(∀b,(∀i,b=R.a+i->j<=i->¬R.M i)->(R.h j).f b=R.G p b)/\(∀i,j<=i->R.M i->(R.h j).f (R.a+i)=.none)/\Sub H (R.h j) (R.G p)/\
  ∀b x,H b=some x->(R.h j).f b=.none->lv (R.G p b)->qF (R.G p b):=by
 obtain⟨d,rfl⟩:∃d,j=p+d:=⟨j-p,Y⟩;let⟨e,f,h⟩:=Dr.PF B.told d g c;have g:∀i,p+d<=i->R.M i->(R.h (p+d)).f (R.a+i)=.none:=λi k c=>(h i k c).t (I.DY i Y c);refine⟨e,f,g,λb x _=>?_,λb x _ l k=>?_⟩<;>by_cases c:∃i,b=R.a+i/\p+d<=i/\R.M i
 .obtain⟨i,rfl,e,d⟩:=c;exact .inl (g i e d)
 .exact .inr (f b λi g q2 h=>c ⟨i,g,q2,h⟩)
 .obtain⟨i,rfl,e,d⟩:=c;let⟨x,_,m,_,_,_,e⟩:=Dr.alloc B.told d;rw[Dr.X Y d,e,ae rfl];exact m
 .rw[<-f b λi g q2 h=>c ⟨i,g,q2,h⟩,l] at k;exact k.elim
include B I T in
theorem JO(g:dV P o=true):p<=j/\(∀i o,p<=i->i<j->R.o[i]?=some o->dV P o=false)/\∀i o,R.o[i]?=some o->dV P o=true->(i<j+1↔(S i\/i=j)):=by
 have f:∀i x,R.o[i]?=some x->dV P x=true->S i->i<j:=λi x b h c=>by
  have d:i≠j:=λe=>T.nS (e▸c);by_cases q:i<j
  .exact q
  .have:=(upper B I T Y b c).2 h;rw[g] at this;cases this
 have d:∀i x,i<j->R.o[i]?=some x->dV P x=true->S i:=λi x f b h=>by
  rcases lower B I T f b with c|⟨_,c⟩
  .exact c
  .rw[c g] at h;cases h
 refine⟨?_,λi x c g b=>?_,λi x b c=>⟨λh=>?_,λh=>?_⟩⟩
 .rcases I.base with h|⟨q,x,h,b,c⟩
  .omega
  .have:=f q x b c ((I.tO q x b c).1 Y);omega
 .cases e:dV P x with
  |false=>rfl
  |true=>have:=(I.tO i x b e).2 (d i x g b e);omega
 .by_cases q:i=j
  .exact .inr q
  .exact .inl (d i x Y b c)
 .rcases h with h|h
  .have:=f i x b c h;omega
  .omega
include B I T in
theorem Inv.az{l:Ren}{w':World}{u:Value}(r:dV P o=true)(m:cu H l (R.h j) (R.h (j+1)) w w')(hv:VR l (R.V j) u):Inv R H0 U0 w0 (λi=>S i\/i=j) (j+1) l (a.put o.dst u) w':=by
 have W:=(mF.1 T.ho).1;let⟨pj,a1,q⟩:=JO B I T r;let⟨h1,D,h4,sub,a0⟩:=Ak B I pj Y a1;have nj:¬R.M j:=λ⟨x,t,F,_⟩=>by rw[T.ho] at t;cases t;unfold dV at r;rw[F] at r;cases r
 have n0:=B.n0;have a4:=I.h;have a3:=m.h;have e0:=B.e0;have C:∀i o,R.o[i]?=some o->cls P o.op=.alloc->R.a+i<(R.h j).h:=λi o h h'=>by have:=B.room i o h h';omega
 have v:∀b x,l b=some x->b<(R.h j).h->H b=some x:=λb x e n=>(m.X b x e).resolve_right Y;have b0:∀b,b<R.a->(R.h j).f b=(R.h p).f b:=λb n=>(D b λi e=>Y).t (Dr.E λi e=>Y);refine Inv.next B I T W (.inr ⟨j,o,rfl,T.ho,r⟩) q ((SF.frame I.sf.hr sub (.inr a0) m).congr λb x e=>?_) (λb x e=>(m.X b x e).imp_right Y) (λi x t F s=>?_) Y (m.F λb n=>?_) (λb n h=>m.dd b Y ((b0 b n).t h)) (λb n h=>(m.um b Y h).t (b0 b n))
  (λi hi V=>?_) (λi hi V s=>?_) hv
 .by_cases c:∃i,b=R.a+i/\j+1<=i/\R.M i
  .obtain⟨i,rfl,c1,c2⟩:=c;let⟨y,g,f,k⟩:=c2;rw[Dr.X c1 ⟨y,g,f,k⟩]
   have:=v _ _ e (C i y g f)
   rw[xt,ae ⟨⟨x,this⟩,h4 i Y ⟨y,g,f,k⟩⟩];exact Dr.X Y ⟨y,g,f,k⟩
  .have no:∀i,b=R.a+i->j<=i->¬R.M i:=λi q1 q2 K=>c ⟨i,q1,by have:i≠j:=λe=>nj (e▸K);omega,K⟩;rw[Dr.E λi q1 q2 K=>c ⟨i,q1,q2,K⟩,xt];split
   .rename_i d;let⟨⟨y,g⟩,hd⟩:=d;rw[<-D b no,hd];refine(m.dd b ?_ hd).s;by_cases n:b<(R.h j).h
    .exact n
    .rw[Gc B I Y] at g;cases g
   .rfl
 .cases hq:l (R.a+i) with
  |none=>rfl
  |some z=>
   have:=v _ z hq (C i x t F)
   rw[I.B i x t F λh=>s (.inl h)] at this;cases this
 .have ro:∀i,b=R.a+i->¬R.M i:=λi e ⟨y,g,f,_⟩=>by have:=C i y g f;omega
  rw[D b λi e _=>ro i e,Dr.E λi e _=>ro i e];exact I.F b Y
 .let⟨y,g,f,k⟩:=V;exact m.dd _ (C i y g f) (h4 i Y ⟨y,g,f,k⟩)
 .have a2:i<j:=by have:i≠j:=λe=>s (.inr e);omega
  let⟨y,g,f,k⟩:=V;rw[m.um _ (C i y g f) (I.B i y g f λh=>s (.inl h)),D _ λi' e h=>by omega];by_cases hp:p<=i
  .exact Dr.X hp ⟨y,g,f,k⟩
  .rw[Dr.E λi' e h=>by omega];exact I.late i Y ⟨y,g,f,k⟩ λh=>s (.inl h)
end
end
end
end Go.Proofs.YtehahhggpdhieaaGreatDoor
