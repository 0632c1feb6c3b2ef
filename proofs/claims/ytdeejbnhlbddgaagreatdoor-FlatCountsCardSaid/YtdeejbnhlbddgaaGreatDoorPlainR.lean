/- What is proved: nothing; the document's checks of names, of clocks as plain functions. what holds of nodes of which the document's check of names tells no fault. the document's clock of a name is the program's, where no fault of names is told. the document's clocks of expressions, by the program's, and their first fault. the document's clocks and their first fault are the program's, where operators have the kids they want. in what is read operators have the kids that they want, inputs and outputs hang on nothing, each declaration has a kind. the document's kinds of expressions, by the program's, and their first fault. nothing; who leans on whom, an order, rings, as plain functions. an order is found just if nothing leans on itself; what an order is; a search by work and seen finds just that. of nodes without a fault of names: an order is found just if no equation's name leans on itself. the document's check of what is late, as plain functions; its names are as many as equations at most. nothing; how many equations a program has, those of all calls counted; on whom a name leans, as the document counts. nothing; a row of nodes that call the one ahead so often, as text; what is asked of it. Conditions: as each theorem says. -/
import Derived.Test.YtdeejbnhlbddgaaGreatDoorPlain
set_option linter.unusedVariables false
set_option linter.unusedSimpArgs false
set_option linter.unusedSectionVars false
namespace Go.Plain
open Go.Eng
set_option autoImplicit false
abbrev Bd:=Nat×Nat
def failB (e a:Nat) (b:Bd):Bd:=if b.1=0 then(e,a) else b
def failIf (c:Bool) (e a:Nat) (b:Bd):Bd:=if c then failB e a b else b
def okExprR (h:List Nd) (n:Nd) (op nm:S) (m:Nat):Bool:=if op=sVar∨op=sWhen∨op=sMerge then(findV n nm).isSome else if op=sCall then callOk h nm m else true
mutual
def nmE (h:List Nd) (n:Nd):Tr→Bd→Bd
 |.mk op nm _ a ks,b=>nmEs h n ks (failIf (!okExprR h n op nm ks.length) 8 a b)
def nmEs (h:List Nd) (n:Nd):List Tr→Bd→Bd
 | [],b=>b
 |k::ks,b=>nmEs h n ks (nmE h n k b)
end
def nmPair (v:Vr):List Vr→Bool×Bd→Bool×Bd
 | [],r=>r
 |w::l,r=>nmPair v l (r.1||decide (w.nm=v.on),failIf (decide (w.nm=v.nm)) 8 v.a r.2)
def nmVars:List Vr→List Vr→Bd→Bd
 |_,[],b=>b
 |pre,v::r,b=>nmVars (pre++[v]) r (failIf (!(nmPair v pre (decide (v.on=(0,0)),b)).1) 8 v.a (nmPair v pre (decide (v.on=(0,0)),b)).2)
def nmEqs (h:List Nd) (n:Nd):List Eqn→List Eqn→Bd→Bd
 |_,[],b=>b
 |pre,q::r,b=>nmEqs h n (pre++[q]) r (nmE h n q.e (failIf (!(findV n q.nm).isSome||n.ins.any (fun v=>decide (v.nm=q.nm))||pre.any (fun p=>decide (p.nm=q.nm))) 8 q.a b))
def nmOwn (n:Nd):List Vr→Bd→Bd
 | [],b=>b
 |v::r,b=>nmOwn n r (failIf (!n.eqs.any fun q=>decide (q.nm=v.nm)) 8 v.a b)
def nmNodeR (h:List Nd) (n:Nd) (b:Bd):Bd :=
 nmOwn n (n.outs++n.locs) (nmEqs h n [] n.eqs (nmVars [] (allOf n) (failIf ((h.any fun d=>decide (d.nm=n.nm))||decide (n.outs.length=0)) 8 n.a b)))
def nmNodesR (h:List Nd):List Nd→Bd→Bd
 | [],b=>b
 |n::r,b=>nmNodesR (h++[n]) r (nmNodeR h n b)
def namesR (l:List Nd):Bd:=nmNodesR [] l (0,0)
def upL (n:Nd):Nat→S→List Stp→Option (List Stp)
 |0,_,_=>none
 |k+1,s,c=>match findV n s with
  |some v=>if v.on=(0,0) then some c else upL n k v.on ((v.on,v.nt)::c)
  |none=>some c
def oneR (a:Nat):List Ck→Ck→Bd→Ck×Bd
 | [],k,b=>(k,b)
 |q::r,k,b=>if q.2 then oneR a r k b else if k.2 then oneR a r (q.1,false) b else oneR a r k (failIf (!decide (k.1=q.1)) 10 a b)
end Go.Plain
namespace Go.Plain
open Go.Eng
set_option autoImplicit false
theorem failB_0 {e a:Nat} {b:Bd} (he:e≠0):(failB e a b).1≠0:=by
 unfold failB
 split
 ·exact he
 ·assumption
theorem failIf_0 {c:Bool} {e a:Nat} {b:Bd} (he:e≠0) (h:(failIf c e a b).1=0):c=false∧b.1=0:=by
 unfold failIf at h
 cases c with
 |true=>exact absurd h (failB_0 he)
 |false=>exact⟨rfl,h⟩
mutual
def knownE (h:List Nd) (n:Nd):Tr→Prop
 |.mk op nm _ _ ks=>okExprR h n op nm ks.length=true∧knownEs h n ks
def knownEs (h:List Nd) (n:Nd):List Tr→Prop
 | []=>True
 |k::ks=>knownE h n k∧knownEs h n ks
end
mutual
theorem nmE_0 {h:List Nd} {n:Nd}:∀(e:Tr) (b:Bd),(nmE h n e b).1=0→b.1=0∧knownE h n e
 |.mk op nm _ a ks,b,hb=>by
  unfold nmE at hb
  obtain⟨h1,h2⟩:=nmEs_0 ks _ hb
  obtain⟨h3,h4⟩:=failIf_0 (by decide) h1
  unfold knownE
  exact⟨h4,by simpa using h3,h2⟩
theorem nmEs_0 {h:List Nd} {n:Nd}:∀(ks:List Tr) (b:Bd),(nmEs h n ks b).1=0→b.1=0∧knownEs h n ks
 | [],b,hb=>by
  unfold nmEs at hb
  unfold knownEs
  exact⟨hb,trivial⟩
 |k::r,b,hb=>by
  unfold nmEs at hb
  obtain⟨h1,h2⟩:=nmEs_0 r _ hb
  obtain⟨h3,h4⟩:=nmE_0 k _ h1
  unfold knownEs
  exact⟨h3,h4,h2⟩
end
theorem nmPair_0 {v:Vr}:∀(l:List Vr) (r:Bool×Bd),(nmPair v l r).2.1=0→r.2.1=0∧∀w∈l,w.nm≠v.nm
 | [],r,h=>⟨h,fun _ h=>by cases h⟩
 |w::l,r,h=>by
  obtain⟨h1,h2⟩:=nmPair_0 l _ h
  obtain⟨h3,h4⟩:=failIf_0 (by decide) h1
  refine⟨h4,fun x hx=>?_⟩
  rcases List.mem_cons.1 hx with rfl|hx
  ·exact of_decide_eq_false h3
  ·exact h2 x hx
theorem nmPair_1 {v:Vr}:∀(l:List Vr) (r:Bool×Bd),(nmPair v l r).1=(r.1||l.any fun w=>decide (w.nm=v.on))
 | [],r=>by simp [nmPair]
 |w::l,r=>by
  show(nmPair v l _).1=_
  rw[nmPair_1 l,List.any_cons,Bool.or_assoc]
def hung:List Vr→List Vr→Prop
 |_,[]=>True
 |pre,v::r=>((v.on=(0,0)∨∃w∈pre,w.nm=v.on)∧∀w∈pre,w.nm≠v.nm)∧hung (pre++[v]) r
theorem nmVars_0:∀(l pre:List Vr) (b:Bd),(nmVars pre l b).1=0→b.1=0∧hung pre l
 | [],_,b,h=>⟨h,trivial⟩
 |v::r,pre,b,h=>by
  obtain⟨h1,h2⟩:=nmVars_0 r _ _ h
  obtain⟨h3,h4⟩:=failIf_0 (by decide) h1
  obtain⟨h5,h6⟩:=nmPair_0 _ _ h4
  refine⟨h5,⟨?_,h6⟩,h2⟩
  rw[nmPair_1]at h3
  have h3:¬v.on=(0,0)→∃x,x∈pre∧x.nm=v.on:=by simpa using h3
  by_cases e:v.on=(0,0)
  ·exact .inl e
  ·exact .inr (h3 e)
theorem nmEqs_0 {h:List Nd} {n:Nd}:∀(l pre:List Eqn) (b:Bd),(nmEqs h n pre l b).1=0→b.1=0∧∀q∈l,knownE h n q.e∧(findV n q.nm).isSome=true
 | [],_,b,hb=>⟨hb,fun _ h=>by cases h⟩
 |q::r,pre,b,hb=>by
  obtain⟨h1,h2⟩:=nmEqs_0 r _ _ hb
  obtain⟨h3,h4⟩:=nmE_0 _ _ h1
  obtain⟨h5,h6⟩:=failIf_0 (by decide) h3
  refine⟨h6,fun x hx=>?_⟩
  rcases List.mem_cons.1 hx with rfl|hx
  ·refine⟨h4,?_⟩
   have h5:((!(findV n x.nm).isSome||n.ins.any (fun v=>decide (v.nm=x.nm)))||pre.any (fun p=>decide (p.nm=x.nm)))=false:=h5
   cases e:(findV n x.nm).isSome with
   |true=>rfl
   |false=>rw[e]at h5;cases h5
  ·exact h2 x hx
theorem nmOwn_0 {n:Nd}:∀(l:List Vr) (b:Bd),(nmOwn n l b).1=0→b.1=0
 | [],b,hb=>hb
 |v::r,b,hb=>(failIf_0 (by decide) (nmOwn_0 r _ hb)).2
structure NmOk (h:List Nd) (n:Nd):Prop where
 outs:n.outs.length≠0
 vars:hung [] (allOf n)
 eqs:∀q∈n.eqs,knownE h n q.e∧(findV n q.nm).isSome=true
theorem nmNodeR_0 {h:List Nd} {n:Nd} {b:Bd} (hb:(nmNodeR h n b).1=0):b.1=0∧NmOk h n:=by
 obtain⟨h2,h3⟩:=nmEqs_0 _ _ _ (nmOwn_0 _ _ hb)
 obtain⟨h4,h5⟩:=nmVars_0 _ _ _ h2
 obtain⟨h6,h7⟩:=failIf_0 (by decide) h4
 refine⟨h7,fun g=>?_,h5,h3⟩
 rw[g]at h6
 simp at h6
theorem nmNodesR_0:∀(l h:List Nd) (b:Bd),(nmNodesR h l b).1=0→b.1=0∧∀i (hi:i<l.length),NmOk (h++l.take i) l[i]
 | [],h,b,hb=>⟨hb,fun i hi=>by cases hi⟩
 |n::r,h,b,hb=>by
  obtain⟨h1,h2⟩:=nmNodesR_0 r _ _ hb
  obtain⟨h3,h4⟩:=nmNodeR_0 h1
  refine⟨h3,fun i hi=>?_⟩
  cases i with
  |zero=>simpa using h4
  |succ i =>
   have:=h2 i (by simpa using hi)
   simpa using this
theorem namesR_0 {l:List Nd} (h:(namesR l).1=0) {i:Nat} (hi:i<l.length):NmOk (l.take i) l[i]:=by
 have:=(nmNodesR_0 l [] (0,0) h).2 i hi
 simpa using this
end Go.Plain
namespace Go.Plain
open Go.Eng
set_option autoImplicit false
theorem hung_at:∀{l pre:List Vr},hung pre l→∀i (hi:i<l.length),l[i].on=(0,0)∨∃w∈pre++l.take i,w.nm=l[i].on
 |v::r,pre,h,0,_=>by simpa using h.1.1
 |v::r,pre,h,i+1,hi=>by
  have:=hung_at h.2 i (by simpa using hi)
  simpa using this
theorem find_first {α:Type} {P:α→Bool}:∀{l:List α} {m:Nat},(∃w∈l.take m,P w=true)→∃i,i<m∧∃hi:i<l.length,l.find? P=some l[i]
 | [],m,⟨w,hw,_⟩=>by simp at hw
 |a::l,0,⟨w,hw,_⟩=>by simp at hw
 |a::l,m+1,⟨w,hw,hp⟩=>by
  by_cases e:P a=true
  ·exact⟨0,Nat.succ_pos _,Nat.succ_pos _,List.find?_cons_of_pos e⟩
  ·have hw:w∈l.take m:=by
    rcases List.mem_cons.1 hw with rfl|h
    ·exact absurd hp e
    ·exact h
   obtain⟨i,h1,h2,h3⟩:=find_first ⟨w,hw,hp⟩
   exact⟨i+1,Nat.succ_lt_succ h1,Nat.succ_lt_succ h2,by rw[List.find?_cons_of_neg e,h3];rfl⟩
theorem up_chain {n:Nd} (hh:hung [] (allOf n)) (hio:∀v∈n.ins++n.outs,v.on=(0,0)):∀(p:Nat) (hp:p<(allOf n).length) (s:S),findV n s=some (allOf n)[p]→∀(j k:Nat) (c:List Stp),(n.ins.length+n.outs.length≤p→p+1≤j+(n.ins.length+n.outs.length))→p+1≤k→upL n k s c=some ((ofL n j s).reverse++c):=by
 intro p
 induction p using Nat.strongRecOn with
 |ind p ih =>
  intro hp s hf j k c hj hk
  obtain⟨k,rfl⟩:∃k',k=k'+1:=⟨k-1,by omega⟩
  unfold upL
  rw[hf]
  dsimp only
  by_cases e:(allOf n)[p].on=(0,0)
  ·rw[if_pos e]
   cases j with
   |zero=>rfl
   |succ j =>
    unfold ofL
    rw[hf]
    dsimp only
    rw[if_pos e];rfl
  ·rw[if_neg e]
   have hge:n.ins.length+n.outs.length≤p:=by
    refine Nat.le_of_not_lt fun hlt=>e ?_
    refine hio _ ?_
    have:(allOf n)[p]=(n.ins++n.outs)[p]'(by rw[List.length_append];exact hlt):=by
     unfold allOf
     simp only[←List.append_assoc]
     rw[List.getElem_append_left]
    rw[this]
    exact List.getElem_mem _
   obtain⟨j,rfl⟩:∃j',j=j'+1:=⟨j-1,by have:=hj hge;omega⟩
   rcases hung_at hh p hp with h|⟨w,hw,ew⟩
   ·exact absurd h e
   ·obtain⟨i,hi,hil,hfi⟩:=find_first (P:=fun v:Vr=>decide (v.nm=(allOf n)[p].on)) (l:=allOf n) (m:=p) ⟨w,by simpa using hw,decide_eq_true ew⟩
    rw[ih i hi hil _ hfi j k _ (fun h=>by have:=hj hge;omega) (by omega)]
    conv=>rhs;unfold ofL
    rw[hf]
    dsimp only
    rw[if_neg e,List.reverse_cons,List.append_assoc];rfl
theorem up_clk {n:Nd} (hh:hung [] (allOf n)) (hio:∀v∈n.ins++n.outs,v.on=(0,0)) (s:S):upL n ((allOf n).length+1) s []=some (clkOf n s):=by
 cases hf:findV n s with
 |none =>
  unfold upL clkOf
  rw[hf]
  cases n.locs.length with
  |zero=>rfl
  |succ m =>
   unfold ofL
   rw[hf];rfl
 |some v =>
  have hf':(allOf n).find? (fun v=>decide (v.nm=s))=some v:=hf
  obtain⟨i,hi,hil,hfi⟩:=find_first (P:=fun v:Vr=>decide (v.nm=s)) (l:=allOf n) (m:=(allOf n).length) ⟨v,by rw[List.take_length];exact List.mem_of_find?_eq_some hf',by have:=List.find?_some hf';exact this⟩
  have hl:(allOf n).length=n.ins.length+n.outs.length+n.locs.length:=by unfold allOf;simp only[List.length_append];omega
  rw[up_chain hh hio i hil s hfi n.locs.length _ [] (fun h=>by omega) (by omega),List.append_nil]
  rfl
end Go.Plain
namespace Go.Plain
open Go.Eng
set_option autoImplicit false
def missR (k:Ck) (c:List Stp):Bool:=!k.2&&!decide (k.1=c)
def zCk:Ck:=([],true)
def ownR (n:Nd) (op nm:S) (N a:Nat) (ks:List Ck) (b:Bd):Ck×Bd :=
 if op=sInt∨op=sBool then(([],true),b)
 else if op=sVar then((clkOf n nm,false),b)
 else if op=sWhen then((stepK (clkOf n nm) nm (decide (N=0)),false),failIf (missR (ks.getD 0 zCk) (clkOf n nm)) 10 a b)
 else if op=sMerge then((clkOf n nm,false),failIf (missR (ks.getD 1 zCk) (stepK (clkOf n nm) nm true)) 10 a (failIf (missR (ks.getD 0 zCk) (stepK (clkOf n nm) nm false)) 10 a b))
 else oneR a ks ([],true) b
mutual
def clkE (n:Nd):Tr→Bd→Ck×Bd
 |.mk op nm N a ks,b=>ownR n op nm N a (clkEs n ks b).1 (clkEs n ks b).2
def clkEs (n:Nd):List Tr→Bd→List Ck×Bd
 | [],b=>([],b)
 |k::r,b=>((clkE n k b).1::(clkEs n r (clkE n k b).2).1,(clkEs n r (clkE n k b).2).2)
end
end Go.Plain
namespace Go.Plain
open Go.Eng
set_option autoImplicit false
def clkQs (n:Nd):List Eqn→Bd→Bd
 | [],b=>b
 |q::r,b=>clkQs n r (failIf (missR (clkE n q.e b).1 (clkOf n q.nm)) 10 q.a (clkE n q.e b).2)
def clkNs:List Nd→Bd→Bd
 | [],b=>b
 |n::r,b=>clkNs r (clkQs n n.eqs b)
def clocksR (l:List Nd):Bd:=clkNs l (0,0)
end Go.Plain
namespace Go.Plain
open Go.Eng
set_option autoImplicit false
def need (op:S):Option Nat :=
 if op∈[sNot,sNeg,sPre,sWhen] then some 1
 else if op∈[sMerge,sArrow,sFby,sPlus,sMinus,sTimes,sDiv,sMod,sEq,sNe,sLt,sLe,sGt,sGe,sAnd,sOr,sXor] then some 2
 else if op=sIf then some 3
 else if op∈[sInt,sBool,sVar] then some 0 else none
mutual
def wanE:Tr→Prop
 |.mk op _ _ _ ks=>(op=sCall∨need op=some ks.length)∧wanEs ks
def wanEs:List Tr→Prop
 | []=>True
 |k::ks=>wanE k∧wanEs ks
end
theorem wanEs_iff:∀ks:List Tr,wanEs ks↔∀k∈ks,wanE k
 | []=>⟨fun _ _ h=>(by cases h),fun _=>by unfold wanEs;trivial⟩
 |k::ks=>by
  unfold wanEs
  rw[wanEs_iff ks]
  exact⟨fun h x hx=>by rcases List.mem_cons.1 hx with rfl|hx;exact h.1;exact h.2 x hx,fun h=>⟨h k List.mem_cons_self,fun x hx=>h x (List.mem_cons_of_mem _ hx)⟩⟩
theorem wanEs_app {ks:List Tr} {e:Tr} (h:wanEs ks) (g:wanE e):wanEs (ks++[e]):=(wanEs_iff _).2 fun k hk=>by
 rcases List.mem_append.1 hk with hk|hk
 ·exact(wanEs_iff _).1 h k hk
 ·rw[List.mem_singleton.1 hk];exact g
theorem wanE_c {nm:S} {n a:Nat} {ks:List Tr} (hk:wanEs ks):wanE (.mk sCall nm n a ks):=by unfold wanE;exact⟨.inl rfl,hk⟩
theorem wanE_0 {op nm:S} {n a:Nat} (h:need op=some 0):wanE (.mk op nm n a []):=by unfold wanE wanEs;exact⟨.inr h,trivial⟩
theorem wanE_1 {op nm:S} {n a:Nat} {x:Tr} (h:need op=some 1) (hx:wanE x):wanE (.mk op nm n a [x]):=by unfold wanE wanEs wanEs;exact⟨.inr h,hx,trivial⟩
theorem wanE_2 {op nm:S} {n a:Nat} {x y:Tr} (h:need op=some 2) (hx:wanE x) (hy:wanE y):wanE (.mk op nm n a [x,y]):=by unfold wanE wanEs wanEs wanEs;exact⟨.inr h,hx,hy,trivial⟩
theorem wanE_3 {op nm:S} {n a:Nat} {x y z:Tr} (h:need op=some 3) (hx:wanE x) (hy:wanE y) (hz:wanE z):wanE (.mk op nm n a [x,y,z]):=by unfold wanE wanEs wanEs wanEs wanEs;exact⟨.inr h,hx,hy,hz,trivial⟩
variable {L:List Wd} {p:PS}
theorem failP_e {er:Nat} (he:er≠0):(failP L er p).e≠0:=by
 unfold failP
 split
 ·exact he
 ·assumption
theorem takeP_e {s:S} (h:(takeP L s p).e=0):p.e=0:=by
 unfold takeP at h
 split at h<;>exact h
theorem wantP_e {s:S} (h:(wantP L s p).e=0):p.e=0:=by
 unfold wantP at h
 split at h
 ·exact h
 ·exact absurd h (failP_e (by decide))
theorem nameP_e (h:(nameP L p).2.e=0):p.e=0:=by
 unfold nameP at h
 split at h
 ·exact h
 ·exact absurd h (failP_e (by decide))
theorem partP_e (h:(partP L p).e=0):p.e=0:=by
 have h:(partQ L p).e=0:=h
 unfold partQ at h
 split at h
 ·exact absurd h (failP_e (by decide))
 ·exact h
theorem primQ_e (h:(primQ L p).e=0):p.e=0:=by
 unfold primQ at h
 split at h
 ·exact partP_e h
 ·exact h
def FnW (φ:PS→Tr×PS):Prop:=∀p,(φ p).2.e=0→p.e=0∧wanE (φ p).1
def FnsW (G:Option Fns):Prop:=match G with|none=>True|some F=>FnW F.arrow∧FnW F.fby∧FnW F.un∧FnW F.prim
theorem goIn_w {G:Option Fns} {f:Fns→Tr×PS} (h:∀F,G=some F→(f F).2.e=0→wanE (f F).1) (he:(goIn L G p f).2.e=0):p.e=0∧wanE (goIn L G p f).1:=by
 unfold goIn inn at he ⊢
 by_cases hp:p.e=0
 ·rw[if_pos hp]at he ⊢
  cases G with
  |none=>exact absurd he (failP_e (by decide))
  |some F=>exact⟨hp,h F rfl he⟩
 ·rw[if_neg hp]at he
  cases G with
  |none=>exact absurd he (failP_e (by decide))
  |some F=>exact absurd he hp
theorem exprF_w {G:Option Fns} (g:FnsW G):FnW (exprF L G):=fun p he=>goIn_w (fun F e hf=>by subst e;exact(g.1 p hf).2) he
theorem innerF_w {G:Option Fns} (g:FnsW G):FnW (innerF L G):=fun p he=>goIn_w (fun F e hf=>by subst e;exact(g.2.2.2 p hf).2) he
theorem argsF_w {G:Option Fns} (g:FnsW G):∀(n:Nat) (l:List Tr) (p:PS),wanEs l→(argsF L G n l p).2.e=0→p.e=0∧wanEs (argsF L G n l p).1
 |0,l,p,h,he=>⟨he,h⟩
 |n+1,l,p,h,he=>by
  unfold argsF at he ⊢
  split at he
  ·rename_i h0
   rw[if_pos h0]
   split at he
   ·rename_i h1
    rw[if_pos h1]
    refine⟨h0,?_⟩
    by_cases h2:(exprF L G p).2.e=0
    ·exact(argsF_w g n _ _ (wanEs_app h (exprF_w g p h2).2) he).2
    ·exact absurd (of_decide_eq_true h1).1 h2
   ·rename_i h1
    rw[if_neg h1]
    exact⟨h0,wanEs_app h (exprF_w g p he).2⟩
  ·rename_i h0
   exact absurd he h0
theorem restF_w {G:Option Fns} {w:Wd} (g:FnsW G) (he:(restF L G w p).2.e=0):p.e=0∧wanE (restF L G w p).1:=by
 unfold restF at he ⊢
 by_cases q1:p.e=0∧w.k=3
 ·rw[if_pos q1]at he ⊢
  exact⟨q1.1,wanE_0 rfl⟩
 rw[if_neg q1]at he ⊢
 by_cases q2:isP L sTrue p=true
 ·rw[if_pos q2]at he ⊢
  exact⟨he,wanE_0 rfl⟩
 rw[if_neg q2]at he ⊢
 by_cases q3:isP L sFalse p=true
 ·rw[if_pos q3]at he ⊢
  exact⟨he,wanE_0 rfl⟩
 rw[if_neg q3]at he ⊢
 by_cases q4:isP L sIf p=true
 ·rw[if_pos q4]at he ⊢
  unfold ifF at he ⊢
  obtain⟨h3,w3⟩:=exprF_w g _ he
  obtain⟨h2,w2⟩:=exprF_w g _ (wantP_e h3)
  obtain⟨h1,w1⟩:=exprF_w g _ (wantP_e h2)
  exact⟨h1,wanE_3 rfl w1 w2 w3⟩
 rw[if_neg q4]at he ⊢
 by_cases q5:isP L sMerge p=true
 ·rw[if_pos q5]at he ⊢
  unfold mergeF at he ⊢
  obtain⟨h2,w2⟩:=innerF_w g _ he
  obtain⟨h1,w1⟩:=innerF_w g _ h2
  exact⟨nameP_e (p:=adv p) h1,wanE_2 rfl w1 w2⟩
 rw[if_neg q5]at he ⊢
 unfold varF at he ⊢
 dsimp only at he ⊢
 by_cases q6:isP L sLp (nameP L p).2=true
 ·rw[if_pos q6]at he ⊢
  unfold callF at he ⊢
  by_cases q7:isP L sRp (adv (nameP L p).2)=true
  ·rw[if_pos q7]at he ⊢
   exact⟨nameP_e (p:=p) he,wanE_c (by unfold wanEs;trivial)⟩
  ·rw[if_neg q7]at he ⊢
   obtain⟨h1,w1⟩:=argsF_w g L.length [] _ (by unfold wanEs;trivial) (wantP_e he)
   exact⟨nameP_e (p:=p) h1,wanE_c w1⟩
 ·rw[if_neg q6]at he ⊢
  exact⟨nameP_e he,wanE_0 rfl⟩
theorem primF_w {G:Option Fns} (g:FnsW G):FnW (primF L G):=fun p he=>by
 unfold primF at he ⊢
 by_cases q1:isP L sLp p=true
 ·rw[if_pos q1]at he ⊢
  obtain⟨h1,w1⟩:=exprF_w g _ (wantP_e he)
  exact⟨h1,w1⟩
 ·rw[if_neg q1]at he ⊢
  obtain⟨h1,w1⟩:=restF_w g he
  exact⟨primQ_e h1,w1⟩
theorem unF_w {G:Option Fns} (g:FnsW G):FnW (unF L G):=fun p he=>by
 have h:∀op,need op=some 1→(unGo L G op p).2.e=0→p.e=0∧wanE (unGo L G op p).1:=fun op ho he=>by
  unfold unGo at he ⊢
  by_cases q:(partP L p).e=0
  ·rw[if_pos q]at he ⊢
   exact⟨partP_e q,(goIn_w (fun F e hf=>by subst e;exact wanE_1 ho (g.2.2.1 _ hf).2) he).2⟩
  ·rw[if_neg q]at he
   exact absurd he q
 unfold unF at he ⊢
 by_cases q1:isP L sNot p=true
 ·rw[if_pos q1]at he ⊢
  exact h _ rfl he
 rw[if_neg q1]at he ⊢
 by_cases q2:isP L sMinus p=true
 ·rw[if_pos q2]at he ⊢
  exact h _ rfl he
 rw[if_neg q2]at he ⊢
 by_cases q3:isP L sPre p=true
 ·rw[if_pos q3]at he ⊢
  exact h _ rfl he
 rw[if_neg q3]at he ⊢
 exact primF_w g p he
theorem whenL_w:∀(n:Nat) (a:Tr) (p:PS),(p.e=0→wanE a)→(whenL L n a p).2.e=0→p.e=0∧wanE (whenL L n a p).1
 |0,_,_,h,he=>⟨he,h he⟩
 |n+1,a,p,h,he=>by
  unfold whenL at he ⊢
  by_cases q:isP L sWhen p=true
  ·rw[if_pos q]at he ⊢
   have hp:p.e=0:=(of_decide_eq_true q).1
   exact⟨hp,(whenL_w n _ _ (fun _=>wanE_1 rfl (h hp)) he).2⟩
  ·rw[if_neg q]at he ⊢
   exact⟨he,h he⟩
theorem whenF_w {G:Option Fns} (g:FnsW G):FnW (whenF L G):=fun p he=>by
 unfold whenF at he ⊢
 obtain⟨h1,w1⟩:=whenL_w _ _ _ (fun h=>(unF_w g p h).2) he
 exact⟨(unF_w g p h1).1,w1⟩
theorem fbyF_w {G:Option Fns} (g:FnsW G):FnW (fbyF L G):=fun p he=>by
 unfold fbyF at he ⊢
 dsimp only at he ⊢
 by_cases q:isP L sFby (whenF L G p).2=true
 ·rw[if_pos q]at he ⊢
  have h0:=whenF_w g p (of_decide_eq_true q).1
  exact⟨h0.1,(goIn_w (fun F e hf=>by subst e;exact wanE_2 rfl h0.2 (g.2.1 _ hf).2) he).2⟩
 ·rw[if_neg q]at he ⊢
  exact whenF_w g p he
theorem opF_mem:∀{ops:List S} {op:S},opF L ops p=some op→op∈ops∧p.e=0
 | [],_,h=>by cases h
 |s::l,op,h=>by
  unfold opF at h
  split at h
  ·rename_i q
   cases h;exact⟨List.mem_cons_self,(of_decide_eq_true q).1⟩
  ·exact⟨List.mem_cons_of_mem _ (opF_mem h).1,(opF_mem h).2⟩
theorem opsAt_2:∀k:Nat,∀op∈opsAt k,need op=some 2
 |0=>by decide
 |1=>by decide
 |2=>by decide
 |3=>by decide
 |n+4=>by
  show ∀op∈[sTimes,sDiv,sMod],need op=some 2
  decide
theorem rowL_w {nx:PS→Tr×PS} {ops:List S} {once:Bool} (ho:∀op∈ops,need op=some 2) (hx:FnW nx):∀(n:Nat) (a:Tr) (p:PS),(p.e=0→wanE a)→(rowL L nx ops once n a p).2.e=0→p.e=0∧wanE (rowL L nx ops once n a p).1
 |0,_,_,h,he=>⟨he,h he⟩
 |n+1,a,p,h,he=>by
  unfold rowL at he ⊢
  cases e:opF L ops p with
  |none =>
   rw[e]at he
   exact⟨he,h he⟩
  |some op =>
   rw[e]at he
   obtain⟨hm,hp⟩:=opF_mem e
   have ho':=ho _ hm
   dsimp only at he ⊢
   refine⟨hp,?_⟩
   cases once with
   |true =>
    rw[if_pos rfl]at he ⊢
    exact wanE_2 ho' (h hp) (hx _ he).2
   |false =>
    rw[if_neg Bool.false_ne_true]at he ⊢
    exact(rowL_w ho hx n _ _ (fun h2=>wanE_2 ho' (h hp) (hx _ h2).2) he).2
theorem rowF_w {G:Option Fns} (g:FnsW G):∀n:Nat,FnW (rowF L G n)
 |0=>fun p=>fbyF_w g p
 |n+1=>fun p he=>by
  unfold rowF at he ⊢
  obtain⟨h1,w1⟩:=rowL_w (opsAt_2 _) (rowF_w g n) _ _ _ (fun h=>(rowF_w g n p h).2) he
  exact⟨(rowF_w g n p h1).1,w1⟩
theorem arrowF_w {G:Option Fns} (g:FnsW G):FnW (arrowF L G):=fun p he=>by
 unfold arrowF at he ⊢
 dsimp only at he ⊢
 by_cases q:isP L sArrow (rowF L G 5 p).2=true
 ·rw[if_pos q]at he ⊢
  have h0:=rowF_w g 5 p (of_decide_eq_true q).1
  exact⟨h0.1,(goIn_w (fun F e hf=>by subst e;exact wanE_2 rfl h0.2 (g.1 _ hf).2) he).2⟩
 ·rw[if_neg q]at he ⊢
  exact rowF_w g 5 p he
theorem lvl_w:∀m:Nat,FnsW (lvl L m)
 |0=>trivial
 |m+1=>⟨arrowF_w (lvl_w m),fbyF_w (lvl_w m),unF_w (lvl_w m),primF_w (lvl_w m)⟩
def bareV (v:Vr):Prop:=v.on=(0,0)∧(v.kd=1∨v.kd=2)
theorem declL_on:∀(n:Nat) (l:List Vr) (p:PS),(∀v∈l,v.on=(0,0))→∀v∈(declL L n l p).1.1,v.on=(0,0)
 |0,l,p,h=>h
 |n+1,l,p,h=>by
  have one:∀v∈l++[(⟨(nameP L p).1,0,(0,0),false,(wd L p).a⟩:Vr)],v.on=(0,0):=fun v hv=>by
   rcases List.mem_append.1 hv with hv|hv
   ·exact h v hv
   ·rw[List.mem_singleton.1 hv]
  unfold declL
  split
  ·split
   ·exact fun v hv=>by cases hv
   ·split
    ·exact declL_on n _ _ one
    ·exact one
  ·exact h
theorem declF_bare (p:PS):∀v∈(declF L p).1,bareV v:=by
 unfold declF
 dsimp only
 split
 ·intro v hv
  obtain⟨u,hu,rfl⟩:=List.mem_map.1 hv
  refine⟨declL_on L.length [] p (fun _ h=>by cases h) u hu,?_⟩
  show(if _ then 1 else 2)=1∨(if _ then 1 else 2)=2
  split
  ·exact .inl rfl
  ·exact .inr rfl
 ·exact fun v hv=>by cases hv
theorem declsL_bare:∀(n:Nat) (l:List Vr) (p:PS),(∀v∈l,bareV v)→∀v∈(declsL L n l p).1,bareV v
 |0,l,p,h=>h
 |n+1,l,p,h=>by
  unfold declsL
  split
  ·exact declsL_bare n _ _ fun v hv=>(List.mem_append.1 hv).elim (h v) (declF_bare _ v)
  ·exact h
theorem declsF_bare (p:PS):∀v∈(declsF L p).1,bareV v:=by
 unfold declsF
 split
 ·exact fun v hv=>by cases hv
 ·exact declsL_bare _ _ _ (declF_bare p)
theorem clockF_kd {d:List Vr×PS} (h:∀v∈d.1,v.kd=1∨v.kd=2):∀v∈(clockF L d).1,v.kd=1∨v.kd=2:=by
 unfold clockF
 split
 ·intro v hv
  obtain⟨u,hu,rfl⟩:=List.mem_map.1 hv
  exact h u hu
 ·exact h
theorem localsL_kd:∀(n:Nat) (l:List Vr) (p:PS),(∀v∈l,v.kd=1∨v.kd=2)→∀v∈(localsL L n l p).1,v.kd=1∨v.kd=2
 |0,l,p,h=>h
 |n+1,l,p,h=>by
  have one:∀v∈l++(clockF L (declF L p)).1,v.kd=1∨v.kd=2:=fun v hv=>(List.mem_append.1 hv).elim (h v) (clockF_kd (fun v hv=>(declF_bare p v hv).2) v)
  unfold localsL
  dsimp only
  split
  ·split
   ·exact localsL_kd n _ _ one
   ·exact one
  ·exact h
theorem varsF_kd (q:PS):∀v∈(varsF L q).1,v.kd=1∨v.kd=2:=by
 unfold varsF
 split
 ·unfold localsF
  split
  ·exact fun v hv=>by cases hv
  ·exact localsL_kd _ _ _ fun _ h=>by cases h
 ·exact fun v hv=>by cases hv
theorem eqF_w (p:PS) (he:(eqF L p).2.e=0):p.e=0∧wanE (eqF L p).1.e:=by
 unfold eqF at he ⊢
 dsimp only at he ⊢
 obtain⟨h1,w1⟩:=exprF_w (lvl_w 30) _ (wantP_e he)
 exact⟨nameP_e (wantP_e (p:=(nameP L p).2) h1),w1⟩
theorem eqsL_w:∀(n:Nat) (l:List Eqn) (p:PS),(p.e=0→∀q∈l,wanE q.e)→(eqsL L n l p).2.e=0→p.e=0∧∀q∈(eqsL L n l p).1,wanE q.e
 |0,l,p,h,he=>⟨he,h he⟩
 |n+1,l,p,h,he=>by
  unfold eqsL at he ⊢
  by_cases q:p.e=0∧(wd L p).k=1
  ·rw[if_pos q]at he ⊢
   refine⟨q.1,(eqsL_w n _ _ (fun h2 x hx=>(List.mem_append.1 hx).elim (h q.1 x) fun hx=>?_) he).2⟩
   rw[List.mem_singleton.1 hx]
   exact(eqF_w p h2).2
  ·rw[if_neg q]at he ⊢
   exact⟨he,h he⟩
structure Made (n:Nd):Prop where
 ins:∀v∈n.ins,bareV v
 outs:∀v∈n.outs,bareV v
 locs:∀v∈n.locs,v.kd=1∨v.kd=2
 eqs:∀q∈n.eqs,wanE q.e
theorem headF_insB (p:PS):∀v∈(headF L p).1.2.1,bareV v:=declsF_bare (wantP L sLp (nameP L (wantP L sNode { p with names:=0 })).2)
theorem headF_outsB (p:PS):∀v∈(headF L p).1.2.2,bareV v:=declsF_bare (wantP L sLp (wantP L sReturns (wantP L sRp (declsF L (wantP L sLp (nameP L (wantP L sNode { p with names:=0 })).2)).2)))
theorem nodeF_eq2 (p:PS):(nodeF L p).2=takeP L sSemi (wantP L sTel (eqsL L L.length [] (wantP L sLet (varsF L (headF L p).2).2)).2):=rfl
theorem nodeF_made (p:PS) (he:(nodeF L p).2.e=0):Made (nodeF L p).1:=by
 have h1:=headF_insB (L:=L) p
 have h2:=headF_outsB (L:=L) p
 have h3:=varsF_kd (L:=L) (headF L p).2
 rw[nodeF_eq2]at he
 have h4:=(eqsL_w (L:=L) L.length [] (wantP L sLet (varsF L (headF L p).2).2) (fun _ _ h=>by cases h) (wantP_e (takeP_e he))).2
 rw[nodeF_eq]
 generalize (headF L p).1=hd at *
 generalize (eqsL L L.length [] (wantP L sLet (varsF L (headF L p).2).2)).1=es at *
 generalize (varsF L (headF L p).2).1=vs at *
 exact⟨h1,h2,h3,h4⟩
theorem nodesL_made:∀(n:Nat) (l:List Nd) (p:PS),(p.e=0→∀d∈l,Made d)→(nodesL L n l p).2.e=0→∀d∈(nodesL L n l p).1,Made d
 |0,l,p,h,he=>h he
 |n+1,l,p,h,he=>by
  unfold nodesL at he ⊢
  by_cases q:p.e=0∧(l.length=0∨(wd L p).k≠0)
  ·rw[if_pos q]at he ⊢
   by_cases q2:l.length=32
   ·rw[if_pos q2]at he
    exact absurd he (failP_e (by decide))
   ·rw[if_neg q2]at he ⊢
    refine nodesL_made n _ _ (fun h2 x hx=>(List.mem_append.1 hx).elim (h q.1 x) fun hx=>?_) he
    rw[List.mem_singleton.1 hx]
    exact nodeF_made p h2
  ·rw[if_neg q]at he ⊢
   exact h he
theorem parse_made (t:By):∀n∈(parseF t).1,Made n:=by
 unfold parseF
 split
 ·unfold treeF
  dsimp only
  split
  ·rename_i he
   exact nodesL_made 34 [] ⟨0,0,0,0,0⟩ (fun _ _ h=>by cases h) he
  ·exact fun _ h=>by cases h
 ·exact fun _ h=>by cases h
end Go.Plain
namespace Go.Plain
open Go.Eng
set_option autoImplicit false
def kdOf (n:Nd) (s:S):Nat:=((findV n s).getD ⟨(0,0),0,(0,0),false,0⟩).kd
def outKd (d:Nd):Nat:=(d.outs.getD 0 ⟨(0,0),0,(0,0),false,0⟩).kd
def insOk:List Vr→List Nat→Bool
 |v::l,k::r=>decide (v.kd=k)&&insOk l r
 |_,_=>true
def kx (ks:List Nat) (i:Nat):Nat:=ks.getD i 0
def callD (l:List Nd) (nm:S) (ks:List Nat):Bool×Nat:=match l.find? (fun n=>decide (n.nm=nm)) with
 |some d=>(insOk d.ins ks,outKd d)
 |none=>(true,0)
def ownD (l:List Nd) (n:Nd) (op nm:S) (ks:List Nat):Bool×Nat :=
 if op=sInt then(true,2)
 else if op=sBool then(true,1)
 else if op=sVar then(true,kdOf n nm)
 else if op=sNot then(decide (kx ks 0=1),1)
 else if op=sNeg then(decide (kx ks 0=2),2)
 else if op=sPre then(true,kx ks 0)
 else if op=sPlus∨op=sMinus∨op=sTimes∨op=sDiv∨op=sMod then(decide (kx ks 0=2∧kx ks 1=2),2)
 else if op=sEq∨op=sNe then(decide (kx ks 0=kx ks 1),1)
 else if op=sLt∨op=sLe∨op=sGt∨op=sGe then(decide (kx ks 0=2∧kx ks 1=2),1)
 else if op=sAnd∨op=sOr∨op=sXor then(decide (kx ks 0=1∧kx ks 1=1),1)
 else if op=sArrow∨op=sFby then(decide (kx ks 0=kx ks 1),kx ks 0)
 else if op=sIf then(decide (kx ks 0=1∧kx ks 1=kx ks 2),kx ks 1)
 else if op=sWhen then(decide (kdOf n nm=1),kx ks 0)
 else if op=sMerge then(decide (kdOf n nm=1∧kx ks 0=kx ks 1),kx ks 0)
 else if op=sCall then callD l nm ks
 else(true,0)
mutual
def kdE (l:List Nd) (n:Nd):Tr→Bd→Nat×Bd
 |.mk op nm _ a ks,b=>((ownD l n op nm (kdEs l n ks b).1).2,failIf (!(ownD l n op nm (kdEs l n ks b).1).1) 9 a (kdEs l n ks b).2)
def kdEs (l:List Nd) (n:Nd):List Tr→Bd→List Nat×Bd
 | [],b=>([],b)
 |k::r,b=>((kdE l n k b).1::(kdEs l n r (kdE l n k b).2).1,(kdEs l n r (kdE l n k b).2).2)
end
def kdLs (n:Nd):List Vr→Bd→Bd
 | [],b=>b
 |v::r,b=>kdLs n r (failIf (!decide (v.on=(0,0))&&!decide (kdOf n v.on=1)) 9 v.a b)
def kdQs (l:List Nd) (n:Nd):List Eqn→Bd→Bd
 | [],b=>b
 |q::r,b=>kdQs l n r (failIf (!decide ((kdE l n q.e b).1=kdOf n q.nm)) 9 q.a (kdE l n q.e b).2)
def kdNs (l:List Nd):List Nd→Bd→Bd
 | [],b=>b
 |n::r,b=>kdNs l r (kdQs l n n.eqs (kdLs n n.locs b))
def typesR (l:List Nd):Bd:=kdNs l l (0,0)
theorem find_pre {α:Type} {P:α→Bool} {l r:List α} (h:(l.find? P).isSome=true):(l++r).find? P=l.find? P:=by
 rw[List.find?_append]
 cases e:l.find? P with
 |none=>rw[e]at h;cases h
 |some x=>rfl
section
variable {h l:List Nd} {n:Nd} {nm:S} {ks:List Nat}
end
section
variable {h r:List Nd} {n:Nd}
end
theorem knownEs_iff {h:List Nd} {n:Nd}:∀ks:List Tr,knownEs h n ks↔∀k∈ks,knownE h n k
 | []=>⟨fun _ _ h=>(by cases h),fun _=>by unfold knownEs;trivial⟩
 |k::ks=>by
  unfold knownEs
  rw[knownEs_iff ks]
  exact⟨fun h x hx=>by rcases List.mem_cons.1 hx with rfl|hx;exact h.1;exact h.2 x hx,fun h=>⟨h k List.mem_cons_self,fun x hx=>h x (List.mem_cons_of_mem _ hx)⟩⟩
theorem callOk_pre {h r:List Nd} {s:S} {m:Nat} (g:callOk h s m=true):callOk (h++r) s m=true:=by
 unfold callOk at g ⊢
 cases f:h.find? (fun n=>decide (n.nm=s)) with
 |none=>rw[f]at g;cases g
 |some d =>
  rw[f]at g
  rw[find_pre (by rw[f];rfl),f]
  exact g
mutual
theorem known_pre {h r:List Nd} {n:Nd}:∀(e:Tr),knownE h n e→knownE (h++r) n e
 |.mk op nm N a ks,g=>by
  unfold knownE at g ⊢
  refine⟨?_,knowns_pre ks g.2⟩
  have g1:=g.1
  unfold okExprR at g1 ⊢
  split
  ·rename_i q;rw[if_pos q]at g1;exact g1
  ·rename_i q
   rw[if_neg q]at g1
   split
   ·rename_i q2;rw[if_pos q2]at g1;exact callOk_pre g1
   ·rfl
theorem knowns_pre {h r:List Nd} {n:Nd}:∀(ks:List Tr),knownEs h n ks→knownEs (h++r) n ks
 | [],_=>by unfold knownEs;trivial
 |k::ks,g=>by
  unfold knownEs at g ⊢
  exact⟨known_pre k g.1,knowns_pre ks g.2⟩
end
end Go.Plain
namespace Go.Plain
open Go.Eng
set_option autoImplicit false
mutual
def mnE:Tr→List S
 |.mk op nm _ _ ks=>(if op=sVar∨op=sWhen∨op=sMerge then[nm] else[])++(if op=sPre then[] else if op=sFby then mn1 ks else mnEs ks)
def mn1:List Tr→List S
 | []=>[]
 |k::_=>mnE k
def mnEs:List Tr→List S
 | []=>[]
 |k::ks=>mnE k++mnEs ks
end
def ownN (n:Nd):List S:=(n.outs++n.locs).map Vr.nm
def eqE (n:Nd) (s:S):Tr:=match n.eqs.find? fun q=>decide (q.nm=s) with|some q=>q.e|none=>E0
end Go.Plain
namespace Go.Plain
open Go.Eng
set_option autoImplicit false
section
variable (names:List S) (lean:S→List S)
inductive Rch (lean:S→List S):S→S→Prop
 |one {x y:S}:y∈lean x→Rch lean x y
 |step {x y z:S}:Rch lean x y→z∈lean y→Rch lean x z
variable {names lean}
theorem len_sub:∀{l k:List S},l.Nodup→(∀x∈l,x∈k)→l.length≤k.length
 | [],_,_,_=>Nat.zero_le _
 |a::l,k,h,g=>by
  obtain⟨h1,h2⟩:=List.nodup_cons.1 h
  have:=len_sub (l:=l) (k:=k.erase a) h2 fun x hx=>by
   have ne:x≠a:=fun e=>h1 (by rw[←e];exact hx)
   exact(List.mem_erase_of_ne ne).2 (g x (List.mem_cons_of_mem _ hx))
  rw[List.length_erase_of_mem (g a (List.mem_cons_self ..))]at this
  have:0<k.length:=List.length_pos_of_mem (g a (List.mem_cons_self ..))
  show l.length+1≤k.length
  omega
end
end Go.Plain
namespace Go.Plain
open Go.Eng
set_option autoImplicit false
end Go.Plain
namespace Go.Plain
open Go.Eng
set_option autoImplicit false
mutual
def ltE (m:List S):Tr→Bool
 |.mk op nm _ _ ks=>if op=sVar then m.contains nm else if op=sPre then true else if op=sArrow∨op=sFby∨op=sMerge∨op=sCall∨op=sInt∨op=sBool then false else ltEs m ks
def ltEs (m:List S):List Tr→Bool
 | []=>false
 |k::r=>ltE m k||ltEs m r
end
def sweepL:List Eqn→List S→List S
 | [],m=>m
 |q::r,m=>sweepL r (if !m.contains q.nm&&ltE m q.e then m++[q.nm] else m)
def lateN (n:Nd):Nat→List S→List S
 |0,m=>m
 |k+1,m=>lateN n k (sweepL n.eqs m)
def lateV (m:List S):List Vr→List S
 | []=>[]
 |v::r=>if m.contains v.nm then v.nm::lateV m r else lateV m r
def lateF (n:Nd):List S:=lateV (lateN n (n.eqs.length+1) []) (allOf n)
def badK (m:List S) (op:S):Nat→List Tr→Bool→Bool
 |_,[],b=>b
 |i,k::r,b=>badK m op (i+1) r (if op=sPre∨op=sFby∨op=sMerge∨op=sCall then b||ltE m k else if op=sArrow then b||(decide (i=0)&&ltE m k) else b)
mutual
def inE (m:List S):Tr→Bd→Bd
 |.mk op nm _ a ks,b=>failIf (badK m op 0 ks (decide (op=sWhen∨op=sMerge)&&m.contains nm)) 11 a (inEs m ks b)
def inEs (m:List S):List Tr→Bd→Bd
 | [],b=>b
 |k::r,b=>inEs m r (inE m k b)
end
def inQs (m:List S) (n:Nd):List Eqn→Bd→Bd
 | [],b=>b
 |q::r,b=>inQs m n r (failIf (((n.outs.any fun v=>decide (v.nm=q.nm))||n.locs.any fun v=>decide (v.on=q.nm))&&m.contains q.nm) 11 q.a (inE m q.e b))
def inNs:List Nd→Bd→Bd
 | [],b=>b
 |n::r,b=>inNs r (inQs (lateF n) n n.eqs b)
def initsR (l:List Nd):Bd:=inNs l (0,0)
def SomeOf (Q:List S) (m:List S):Prop:=m.Nodup∧∀x∈m,x∈Q
theorem SomeOf.len {Q m:List S} (h:SomeOf Q m):m.length≤Q.length:=len_sub h.1 h.2
theorem SomeOf.app {Q m:List S} {x:S} (h:SomeOf Q m) (hx:x∈Q) (g:m.contains x=false):SomeOf Q (m++[x]):=by
 refine⟨?_,fun y hy=>?_⟩
 ·rw[List.nodup_append]
  refine⟨h.1,List.nodup_cons.2 ⟨List.not_mem_nil,List.nodup_nil⟩,fun a ha b hb=>?_⟩
  rw[List.mem_singleton.1 hb]
  intro e
  rw[List.contains_iff_mem.2 (e▸ha)]at g
  cases g
 ·rcases List.mem_append.1 hy with hy|hy
  ·exact h.2 y hy
  ·rw[List.mem_singleton.1 hy];exact hx
theorem fail_le11 {c:Bool} {a:Nat} {b:Bd} (h:b.1≤100):(failIf c 11 a b).1≤100:=by
 unfold failIf failB
 split
 ·split
  ·exact Nat.le_of_ble_eq_true rfl
  ·exact h
 ·exact h
mutual
theorem inE_le {m:List S}:∀(e:Tr) (b:Bd),b.1≤100→(inE m e b).1≤100
 |.mk op nm _ a ks,b,h=>by
  unfold inE
  exact fail_le11 (inEs_le ks b h)
theorem inEs_le {m:List S}:∀(ks:List Tr) (b:Bd),b.1≤100→(inEs m ks b).1≤100
 | [],b,h=>by unfold inEs;exact h
 |k::r,b,h=>by
  unfold inEs
  exact inEs_le r _ (inE_le k b h)
end
end Go.Plain
namespace Go.Plain
open Go.Eng
set_option autoImplicit false
def ixN (s:S):List Nd→Nat→Option Nat
 | [],_=>none
 |n::l,i=>if n.nm=s then some i else ixN s l (i+1)
mutual
def callE (h:List Nd):Tr→List Nat→List Nat
 |.mk op nm _ _ ks,k=>callEs h ks (if op=sCall then(match ixN nm h 0 with|some i=>k.set i ((k.getD i 0+1)%18446744073709551616)|none=>k) else k)
def callEs (h:List Nd):List Tr→List Nat→List Nat
 | [],k=>k
 |e::es,k=>callEs h es (callE h e k)
end
def callQ (h:List Nd):List Eqn→List Nat→List Nat
 | [],k=>k
 |q::l,k=>callQ h l (callE h q.e k)
def sumM:List Nat→List Nat→Nat→Nat
 |p::k,e::es,a=>sumM k es (min (a+min p 1001*e) 1001)
 |_,_,a=>a
def eachN (h:List Nd) (es:List Nat) (n:Nd):Nat:=sumM (callQ h n.eqs (List.replicate h.length 0)) es (min n.eqs.length 1001)
def eachL:List Nd→List Nd→List Nat→List Nat
 |_,[],es=>es
 |h,n::l,es=>eachL (h++[n]) l (es++[eachN h es n])
def countF (l:List Nd):Nat:=if l.length=0 then 0 else(eachL [] l []).getD (l.length-1) 0
def cntOk:List Nd→List Nd→Bool
 |_,[]=>true
 |h,n::l=>((callQ h n.eqs (List.replicate h.length 0)).all fun x=>Nat.ble x 1000000)&&cntOk (h++[n]) l
def leansR (n:Nd) (s:S):List S:=(ownN n).filter fun x=>(mnE (eqE n s)++(clkOf n s).map Prod.fst).contains x
end Go.Plain
namespace Go.Plain
open Go.Eng
set_option autoImplicit false
set_option maxRecDepth 100000
def fcHead (i:Nat):By:=[110,111,100,101,32,110,UInt8.ofNat (97+i),40,120,58,32,105,110,116,41,32,114,101,116,117,114,110,115,32,40,121,58,32,105,110,116,41,59,32,108,101,116,32,121,32,61,32]
def fcTel:By:=[59,32,116,101,108,32]
def fcCall (i:Nat):By:=[32,43,32,110,UInt8.ofNat (97+i),40,120,41]
def fcE (i:Nat):Nat→By
 |0=>[48]
 |k+1=>fcE i k++fcCall i
def fcNode (t i:Nat):By:=fcHead i++(fcE (i-1) t++fcTel)
def fcS (t:Nat):Nat→By
 |0=>fcHead 0++(120::fcTel)
 |n+1=>fcS t n++fcNode t (n+1)
def cntG (t:Nat):Nat→Nat
 |0=>1
 |i+1=>min (1+t*cntG t i) 1001
def fcChk (t n:Nat) (r:List Nd×Bd):Bool:=Nat.beq r.2.1 0&&Nat.beq r.2.2 0&&Nat.beq (namesR r.1).1 0&&Nat.beq (typesR r.1).1 0&&Nat.beq (clocksR r.1).1 0&&Nat.beq (initsR r.1).1 0&&(r.1.all fun d=>d.eqs.all fun q=>(leansR d q.nm).isEmpty&&(clkOf d q.nm).isEmpty&&Nat.ble (mnE (eqE d q.nm)).length 1000)&&cntOk [] r.1&&Nat.beq (countF r.1) (cntG t n)
end Go.Plain
