/- What is proved: nothing; the document's checks of names, of clocks as plain functions. what holds of nodes of which the document's check of names tells no fault. the document's clock of a name is the program's, where no fault of names is told. the document's clocks of expressions, by the program's, and their first fault. the document's clocks and their first fault are the program's, where operators have the kids they want. in what is read operators have the kids that they want, inputs and outputs hang on nothing, each declaration has a kind. the document's kinds of expressions, by the program's, and their first fault. nothing; who leans on whom, an order, rings, as plain functions. an order is found just if nothing leans on itself; what an order is; a search by work and seen finds just that. of nodes without a fault of names: an order is found just if no equation's name leans on itself. the document's check of what is late, as plain functions; its names are as many as equations at most. a node that is read has few equations. Conditions: as each theorem says. -/
import Derived.Test.YtkggpdaglhnonaaPlain
set_option linter.unusedVariables false
set_option linter.unusedSimpArgs false
set_option linter.unusedSectionVars false
namespace Go.Plain
open Go.Eng
set_option autoImplicit false
abbrev Bd:=Nat×Nat
def zfM (e a:Nat) (b:Bd):Bd:=if b.1=0 then(e,a) else b
def zaU (c:Bool) (e a:Nat) (b:Bd):Bd:=if c then zfM e a b else b
def zdl (h:List Nd) (n:Nd) (op nm:S) (m:Nat):Bool:=if op=zfu∨op=zbn∨op=zaQ then(zap n nm).isSome else if op=zcs then ze5 h nm m else true
mutual
def nmE (h:List Nd) (n:Nd):Tr→Bd→Bd
 |.mk op nm _ a ks,b=>zmm h n ks (zaU (!zdl h n op nm ks.length) 8 a b)
def zmm (h:List Nd) (n:Nd):List Tr→Bd→Bd
 | [],b=>b
 |k::ks,b=>zmm h n ks (nmE h n k b)
end
def zdB (v:Vr):List Vr→Bool×Bd→Bool×Bd
 | [],r=>r
 |w::l,r=>zdB v l (r.1||decide (w.nm=v.on),zaU (decide (w.nm=v.nm)) 8 v.a r.2)
def zge:List Vr→List Vr→Bd→Bd
 |_,[],b=>b
 |pre,v::r,b=>zge (pre++[v]) r (zaU (!(zdB v pre (decide (v.on=(0,0)),b)).1) 8 v.a (zdB v pre (decide (v.on=(0,0)),b)).2)
def zi5 (h:List Nd) (n:Nd):List Eqn→List Eqn→Bd→Bd
 |_,[],b=>b
 |pre,q::r,b=>zi5 h n (pre++[q]) r (nmE h n q.e (zaU (!(zap n q.nm).isSome||n.ins.any (fun v=>decide (v.nm=q.nm))||pre.any (fun p=>decide (p.nm=q.nm))) 8 q.a b))
def zi4 (n:Nd):List Vr→Bd→Bd
 | [],b=>b
 |v::r,b=>zi4 n r (zaU (!n.eqs.any fun q=>decide (q.nm=v.nm)) 8 v.a b)
def zh9 (h:List Nd) (n:Nd) (b:Bd):Bd :=
 zi4 n (n.outs++n.locs) (zi5 h n [] n.eqs (zge [] (za4 n) (zaU ((h.any fun d=>decide (d.nm=n.nm))||decide (n.outs.length=0)) 8 n.a b)))
def zek (h:List Nd):List Nd→Bd→Bd
 | [],b=>b
 |n::r,b=>zek (h++[n]) r (zh9 h n b)
def zeu (l:List Nd):Bd:=zek [] l (0,0)
def upL (n:Nd):Nat→S→List Stp→Option (List Stp)
 |0,_,_=>none
 |k+1,s,c=>match zap n s with
  |some v=>if v.on=(0,0) then some c else upL n k v.on ((v.on,v.nt)::c)
  |none=>some c
def zml (a:Nat):List Ck→Ck→Bd→Ck×Bd
 | [],k,b=>(k,b)
 |q::r,k,b=>if q.2 then zml a r k b else if k.2 then zml a r (q.1,false) b else zml a r k (zaU (!decide (k.1=q.1)) 10 a b)
end Go.Plain
namespace Go.Plain
open Go.Eng
set_option autoImplicit false
theorem zxa {e a:Nat} {b:Bd} (he:e≠0):(zfM e a b).1≠0:=by
 unfold zfM
 split
 ·exact he
 ·assumption
theorem zdE {c:Bool} {e a:Nat} {b:Bd} (he:e≠0) (h:(zaU c e a b).1=0):c=false∧b.1=0:=by
 unfold zaU at h
 cases c with
 |true=>exact absurd h (zxa he)
 |false=>exact⟨rfl,h⟩
mutual
def zd3 (h:List Nd) (n:Nd):Tr→Prop
 |.mk op nm _ _ ks=>zdl h n op nm ks.length=true∧zcW h n ks
def zcW (h:List Nd) (n:Nd):List Tr→Prop
 | []=>True
 |k::ks=>zd3 h n k∧zcW h n ks
end
mutual
theorem zwO {h:List Nd} {n:Nd}:∀(e:Tr) (b:Bd),(nmE h n e b).1=0→b.1=0∧zd3 h n e
 |.mk op nm _ a ks,b,hb=>by
  unfold nmE at hb
  obtain⟨h1,h2⟩:=zu0 ks _ hb
  obtain⟨h3,h4⟩:=zdE (by decide) h1
  unfold zd3
  exact⟨h4,by simpa using h3,h2⟩
theorem zu0 {h:List Nd} {n:Nd}:∀(ks:List Tr) (b:Bd),(zmm h n ks b).1=0→b.1=0∧zcW h n ks
 | [],b,hb=>by
  unfold zmm at hb
  unfold zcW
  exact⟨hb,trivial⟩
 |k::r,b,hb=>by
  unfold zmm at hb
  obtain⟨h1,h2⟩:=zu0 r _ hb
  obtain⟨h3,h4⟩:=zwO k _ h1
  unfold zcW
  exact⟨h3,h4,h2⟩
end
theorem znY {v:Vr}:∀(l:List Vr) (r:Bool×Bd),(zdB v l r).2.1=0→r.2.1=0∧∀w∈l,w.nm≠v.nm
 | [],r,h=>⟨h,fun _ h=>by cases h⟩
 |w::l,r,h=>by
  obtain⟨h1,h2⟩:=znY l _ h
  obtain⟨h3,h4⟩:=zdE (by decide) h1
  refine⟨h4,fun x hx=>?_⟩
  rcases List.mem_cons.1 hx with rfl|hx
  ·exact of_decide_eq_false h3
  ·exact h2 x hx
theorem znX {v:Vr}:∀(l:List Vr) (r:Bool×Bd),(zdB v l r).1=(r.1||l.any fun w=>decide (w.nm=v.on))
 | [],r=>by simp [zdB]
 |w::l,r=>by
  show(zdB v l _).1=_
  rw[znX l,List.any_cons,Bool.or_assoc]
def hung:List Vr→List Vr→Prop
 |_,[]=>True
 |pre,v::r=>((v.on=(0,0)∨∃w∈pre,w.nm=v.on)∧∀w∈pre,w.nm≠v.nm)∧hung (pre++[v]) r
theorem znW:∀(l pre:List Vr) (b:Bd),(zge pre l b).1=0→b.1=0∧hung pre l
 | [],_,b,h=>⟨h,trivial⟩
 |v::r,pre,b,h=>by
  obtain⟨h1,h2⟩:=znW r _ _ h
  obtain⟨h3,h4⟩:=zdE (by decide) h1
  obtain⟨h5,h6⟩:=znY _ _ h4
  refine⟨h5,⟨?_,h6⟩,h2⟩
  rw[znX]at h3
  have h3:¬v.on=(0,0)→∃x,x∈pre∧x.nm=v.on:=by simpa using h3
  by_cases e:v.on=(0,0)
  ·exact .inl e
  ·exact .inr (h3 e)
theorem zkf {h:List Nd} {n:Nd}:∀(l pre:List Eqn) (b:Bd),(zi5 h n pre l b).1=0→b.1=0∧∀q∈l,zd3 h n q.e∧(zap n q.nm).isSome=true
 | [],_,b,hb=>⟨hb,fun _ h=>by cases h⟩
 |q::r,pre,b,hb=>by
  obtain⟨h1,h2⟩:=zkf r _ _ hb
  obtain⟨h3,h4⟩:=zwO _ _ h1
  obtain⟨h5,h6⟩:=zdE (by decide) h3
  refine⟨h6,fun x hx=>?_⟩
  rcases List.mem_cons.1 hx with rfl|hx
  ·refine⟨h4,?_⟩
   have h5:((!(zap n x.nm).isSome||n.ins.any (fun v=>decide (v.nm=x.nm)))||pre.any (fun p=>decide (p.nm=x.nm)))=false:=h5
   cases e:(zap n x.nm).isSome with
   |true=>rfl
   |false=>rw[e]at h5;cases h5
  ·exact h2 x hx
theorem zkd {n:Nd}:∀(l:List Vr) (b:Bd),(zi4 n l b).1=0→b.1=0
 | [],b,hb=>hb
 |v::r,b,hb=>(zdE (by decide) (zkd r _ hb)).2
structure NmOk (h:List Nd) (n:Nd):Prop where
 outs:n.outs.length≠0
 vars:hung [] (za4 n)
 eqs:∀q∈n.eqs,zd3 h n q.e∧(zap n q.nm).isSome=true
theorem zlu {h:List Nd} {n:Nd} {b:Bd} (hb:(zh9 h n b).1=0):b.1=0∧NmOk h n:=by
 obtain⟨h2,h3⟩:=zkf _ _ _ (zkd _ _ hb)
 obtain⟨h4,h5⟩:=znW _ _ _ h2
 obtain⟨h6,h7⟩:=zdE (by decide) h4
 refine⟨h7,fun g=>?_,h5,h3⟩
 rw[g]at h6
 simp at h6
theorem zgD:∀(l h:List Nd) (b:Bd),(zek h l b).1=0→b.1=0∧∀i (hi:i<l.length),NmOk (h++l.take i) l[i]
 | [],h,b,hb=>⟨hb,fun i hi=>by cases hi⟩
 |n::r,h,b,hb=>by
  obtain⟨h1,h2⟩:=zgD r _ _ hb
  obtain⟨h3,h4⟩:=zlu h1
  refine⟨h3,fun i hi=>?_⟩
  cases i with
  |zero=>simpa using h4
  |succ i =>
   have:=h2 i (by simpa using hi)
   simpa using this
theorem zn1 {l:List Nd} (h:(zeu l).1=0) {i:Nat} (hi:i<l.length):NmOk (l.take i) l[i]:=by
 have:=(zgD l [] (0,0) h).2 i hi
 simpa using this
end Go.Plain
namespace Go.Plain
open Go.Eng
set_option autoImplicit false
theorem zrz:∀{l pre:List Vr},hung pre l→∀i (hi:i<l.length),l[i].on=(0,0)∨∃w∈pre++l.take i,w.nm=l[i].on
 |v::r,pre,h,0,_=>by simpa using h.1.1
 |v::r,pre,h,i+1,hi=>by
  have:=zrz h.2 i (by simpa using hi)
  simpa using this
theorem zgK {α:Type} {P:α→Bool}:∀{l:List α} {m:Nat},(∃w∈l.take m,P w=true)→∃i,i<m∧∃hi:i<l.length,l.find? P=some l[i]
 | [],m,⟨w,hw,_⟩=>by simp at hw
 |a::l,0,⟨w,hw,_⟩=>by simp at hw
 |a::l,m+1,⟨w,hw,hp⟩=>by
  by_cases e:P a=true
  ·exact⟨0,Nat.succ_pos _,Nat.succ_pos _,List.find?_cons_of_pos e⟩
  ·have hw:w∈l.take m:=by
    rcases List.mem_cons.1 hw with rfl|h
    ·exact absurd hp e
    ·exact h
   obtain⟨i,h1,h2,h3⟩:=zgK ⟨w,hw,hp⟩
   exact⟨i+1,Nat.succ_lt_succ h1,Nat.succ_lt_succ h2,by rw[List.find?_cons_of_neg e,h3];rfl⟩
theorem zsX {n:Nd} (hh:hung [] (za4 n)) (hio:∀v∈n.ins++n.outs,v.on=(0,0)):∀(p:Nat) (hp:p<(za4 n).length) (s:S),zap n s=some (za4 n)[p]→∀(j k:Nat) (c:List Stp),(n.ins.length+n.outs.length≤p→p+1≤j+(n.ins.length+n.outs.length))→p+1≤k→upL n k s c=some ((ofL n j s).reverse++c):=by
 intro p
 induction p using Nat.strongRecOn with
 |ind p ih =>
  intro hp s hf j k c hj hk
  obtain⟨k,rfl⟩:∃k',k=k'+1:=⟨k-1,by omega⟩
  unfold upL
  rw[hf]
  dsimp only
  by_cases e:(za4 n)[p].on=(0,0)
  ·rw[if_pos e]
   cases j with
   |zero=>rfl
   |succ j =>
    unfold ofL
    rw[hf]
    dsimp only
    rw[if_pos e];rfl
  ·rw[if_neg e]
   have hge:n.ins.length+n.outs.length≤p:=by
    refine Nat.le_of_not_lt fun hlt=>e ?_
    refine hio _ ?_
    have:(za4 n)[p]=(n.ins++n.outs)[p]'(by rw[List.length_append];exact hlt):=by
     unfold za4
     simp only[←List.append_assoc]
     rw[List.getElem_append_left]
    rw[this]
    exact List.getElem_mem _
   obtain⟨j,rfl⟩:∃j',j=j'+1:=⟨j-1,by have:=hj hge;omega⟩
   rcases zrz hh p hp with h|⟨w,hw,ew⟩
   ·exact absurd h e
   ·obtain⟨i,hi,hil,hfi⟩:=zgK (P:=fun v:Vr=>decide (v.nm=(za4 n)[p].on)) (l:=za4 n) (m:=p) ⟨w,by simpa using hw,decide_eq_true ew⟩
    rw[ih i hi hil _ hfi j k _ (fun h=>by have:=hj hge;omega) (by omega)]
    conv=>rhs;unfold ofL
    rw[hf]
    dsimp only
    rw[if_neg e,List.reverse_cons,List.append_assoc];rfl
theorem up_clk {n:Nd} (hh:hung [] (za4 n)) (hio:∀v∈n.ins++n.outs,v.on=(0,0)) (s:S):upL n ((za4 n).length+1) s []=some (zbt n s):=by
 cases hf:zap n s with
 |none =>
  unfold upL zbt
  rw[hf]
  cases n.locs.length with
  |zero=>rfl
  |succ m =>
   unfold ofL
   rw[hf];rfl
 |some v =>
  have hf':(za4 n).find? (fun v=>decide (v.nm=s))=some v:=hf
  obtain⟨i,hi,hil,hfi⟩:=zgK (P:=fun v:Vr=>decide (v.nm=s)) (l:=za4 n) (m:=(za4 n).length) ⟨v,by rw[List.take_length];exact List.mem_of_find?_eq_some hf',by have:=List.find?_some hf';exact this⟩
  have hl:(za4 n).length=n.ins.length+n.outs.length+n.locs.length:=by unfold za4;simp only[List.length_append];omega
  rw[zsX hh hio i hil s hfi n.locs.length _ [] (fun h=>by omega) (by omega),List.append_nil]
  rfl
end Go.Plain
namespace Go.Plain
open Go.Eng
set_option autoImplicit false
def zdn (k:Ck) (c:List Stp):Bool:=!k.2&&!decide (k.1=c)
def zCk:Ck:=([],true)
def zpR (n:Nd) (op nm:S) (N a:Nat) (ks:List Ck) (b:Bd):Ck×Bd :=
 if op=zhM∨op=zcw then(([],true),b)
 else if op=zfu then((zbt n nm,false),b)
 else if op=zbn then((zdh (zbt n nm) nm (decide (N=0)),false),zaU (zdn (ks.getD 0 zCk) (zbt n nm)) 10 a b)
 else if op=zaQ then((zbt n nm,false),zaU (zdn (ks.getD 1 zCk) (zdh (zbt n nm) nm true)) 10 a (zaU (zdn (ks.getD 0 zCk) (zdh (zbt n nm) nm false)) 10 a b))
 else zml a ks ([],true) b
mutual
def zg8 (n:Nd):Tr→Bd→Ck×Bd
 |.mk op nm N a ks,b=>zpR n op nm N a (zbK n ks b).1 (zbK n ks b).2
def zbK (n:Nd):List Tr→Bd→List Ck×Bd
 | [],b=>([],b)
 |k::r,b=>((zg8 n k b).1::(zbK n r (zg8 n k b).2).1,(zbK n r (zg8 n k b).2).2)
end
end Go.Plain
namespace Go.Plain
open Go.Eng
set_option autoImplicit false
def zl8 (n:Nd):List Eqn→Bd→Bd
 | [],b=>b
 |q::r,b=>zl8 n r (zaU (zdn (zg8 n q.e b).1 (zbt n q.nm)) 10 q.a (zg8 n q.e b).2)
def zsb:List Nd→Bd→Bd
 | [],b=>b
 |n::r,b=>zsb r (zl8 n n.eqs b)
def zgQ (l:List Nd):Bd:=zsb l (0,0)
end Go.Plain
namespace Go.Plain
open Go.Eng
set_option autoImplicit false
def need (op:S):Option Nat :=
 if op∈[zgA,sNeg,zgz,zbn] then some 1
 else if op∈[zaQ,zbP,zfG,zdM,zbO,zca,ziT,zhL,sEq,sNe,sLt,sLe,sGt,sGe,ziU,sOr,ziS] then some 2
 else if op=sIf then some 3
 else if op∈[zhM,zcw,zfu] then some 0 else none
mutual
def zeA:Tr→Prop
 |.mk op _ _ _ ks=>(op=zcs∨need op=some ks.length)∧zdr ks
def zdr:List Tr→Prop
 | []=>True
 |k::ks=>zeA k∧zdr ks
end
theorem zeD:∀ks:List Tr,zdr ks↔∀k∈ks,zeA k
 | []=>⟨fun _ _ h=>(by cases h),fun _=>by unfold zdr;trivial⟩
 |k::ks=>by
  unfold zdr
  rw[zeD ks]
  exact⟨fun h x hx=>by rcases List.mem_cons.1 hx with rfl|hx;exact h.1;exact h.2 x hx,fun h=>⟨h k List.mem_cons_self,fun x hx=>h x (List.mem_cons_of_mem _ hx)⟩⟩
theorem zkY {ks:List Tr} {e:Tr} (h:zdr ks) (g:zeA e):zdr (ks++[e]):=(zeD _).2 fun k hk=>by
 rcases List.mem_append.1 hk with hk|hk
 ·exact(zeD _).1 h k hk
 ·rw[List.mem_singleton.1 hk];exact g
theorem zuI {nm:S} {n a:Nat} {ks:List Tr} (hk:zdr ks):zeA (.mk zcs nm n a ks):=by unfold zeA;exact⟨.inl rfl,hk⟩
theorem znA {op nm:S} {n a:Nat} (h:need op=some 0):zeA (.mk op nm n a []):=by unfold zeA zdr;exact⟨.inr h,trivial⟩
theorem zuJ {op nm:S} {n a:Nat} {x:Tr} (h:need op=some 1) (hx:zeA x):zeA (.mk op nm n a [x]):=by unfold zeA zdr zdr;exact⟨.inr h,hx,trivial⟩
theorem zkZ {op nm:S} {n a:Nat} {x y:Tr} (h:need op=some 2) (hx:zeA x) (hy:zeA y):zeA (.mk op nm n a [x,y]):=by unfold zeA zdr zdr zdr;exact⟨.inr h,hx,hy,trivial⟩
theorem wanE_3 {op nm:S} {n a:Nat} {x y z:Tr} (h:need op=some 3) (hx:zeA x) (hy:zeA y) (hz:zeA z):zeA (.mk op nm n a [x,y,z]):=by unfold zeA zdr zdr zdr zdr;exact⟨.inr h,hx,hy,hz,trivial⟩
variable {L:List Wd} {p:PS}
theorem zgM {er:Nat} (he:er≠0):(zcT L er p).e≠0:=by
 unfold zcT
 split
 ·exact he
 ·assumption
theorem zvL {s:S} (h:(zcc L s p).e=0):p.e=0:=by
 unfold zcc at h
 split at h<;>exact h
theorem zfD {s:S} (h:(zaB L s p).e=0):p.e=0:=by
 unfold zaB at h
 split at h
 ·exact h
 ·exact absurd h (zgM (by decide))
theorem zib (h:(zau L p).2.e=0):p.e=0:=by
 unfold zau at h
 split at h
 ·exact h
 ·exact absurd h (zgM (by decide))
theorem zqH (h:(zay L p).e=0):p.e=0:=by
 have h:(zi3 L p).e=0:=h
 unfold zi3 at h
 split at h
 ·exact absurd h (zgM (by decide))
 ·exact h
theorem zv4 (h:(zdO L p).e=0):p.e=0:=by
 unfold zdO at h
 split at h
 ·exact zqH h
 ·exact h
def FnW (φ:PS→Tr×PS):Prop:=∀p,(φ p).2.e=0→p.e=0∧zeA (φ p).1
def zsK (G:Option Fns):Prop:=match G with|none=>True|some F=>FnW F.arrow∧FnW F.fby∧FnW F.un∧FnW F.prim
theorem zlP {G:Option Fns} {f:Fns→Tr×PS} (h:∀F,G=some F→(f F).2.e=0→zeA (f F).1) (he:(zg5 L G p f).2.e=0):p.e=0∧zeA (zg5 L G p f).1:=by
 unfold zg5 inn at he ⊢
 by_cases hp:p.e=0
 ·rw[if_pos hp]at he ⊢
  cases G with
  |none=>exact absurd he (zgM (by decide))
  |some F=>exact⟨hp,h F rfl he⟩
 ·rw[if_neg hp]at he
  cases G with
  |none=>exact absurd he (zgM (by decide))
  |some F=>exact absurd he hp
theorem zfN {G:Option Fns} (g:zsK G):FnW (zbD L G):=fun p he=>zlP (fun F e hf=>by subst e;exact(g.1 p hf).2) he
theorem zod {G:Option Fns} (g:zsK G):FnW (zeY L G):=fun p he=>zlP (fun F e hf=>by subst e;exact(g.2.2.2 p hf).2) he
theorem zsv {G:Option Fns} (g:zsK G):∀(n:Nat) (l:List Tr) (p:PS),zdr l→(zes L G n l p).2.e=0→p.e=0∧zdr (zes L G n l p).1
 |0,l,p,h,he=>⟨he,h⟩
 |n+1,l,p,h,he=>by
  unfold zes at he ⊢
  split at he
  ·rename_i h0
   rw[if_pos h0]
   split at he
   ·rename_i h1
    rw[if_pos h1]
    refine⟨h0,?_⟩
    by_cases h2:(zbD L G p).2.e=0
    ·exact(zsv g n _ _ (zkY h (zfN g p h2).2) he).2
    ·exact absurd (of_decide_eq_true h1).1 h2
   ·rename_i h1
    rw[if_neg h1]
    exact⟨h0,zkY h (zfN g p he).2⟩
  ·rename_i h0
   exact absurd he h0
theorem zvX {G:Option Fns} {w:Wd} (g:zsK G) (he:(zcV L G w p).2.e=0):p.e=0∧zeA (zcV L G w p).1:=by
 unfold zcV at he ⊢
 by_cases q1:p.e=0∧w.k=3
 ·rw[if_pos q1]at he ⊢
  exact⟨q1.1,znA rfl⟩
 rw[if_neg q1]at he ⊢
 by_cases q2:isP L zk8 p=true
 ·rw[if_pos q2]at he ⊢
  exact⟨he,znA rfl⟩
 rw[if_neg q2]at he ⊢
 by_cases q3:isP L zg0 p=true
 ·rw[if_pos q3]at he ⊢
  exact⟨he,znA rfl⟩
 rw[if_neg q3]at he ⊢
 by_cases q4:isP L sIf p=true
 ·rw[if_pos q4]at he ⊢
  unfold ifF at he ⊢
  obtain⟨h3,w3⟩:=zfN g _ he
  obtain⟨h2,w2⟩:=zfN g _ (zfD h3)
  obtain⟨h1,w1⟩:=zfN g _ (zfD h2)
  exact⟨h1,wanE_3 rfl w1 w2 w3⟩
 rw[if_neg q4]at he ⊢
 by_cases q5:isP L zaQ p=true
 ·rw[if_pos q5]at he ⊢
  unfold zq7 at he ⊢
  obtain⟨h2,w2⟩:=zod g _ he
  obtain⟨h1,w1⟩:=zod g _ h2
  exact⟨zib (p:=adv p) h1,zkZ rfl w1 w2⟩
 rw[if_neg q5]at he ⊢
 unfold zpN at he ⊢
 dsimp only at he ⊢
 by_cases q6:isP L sLp (zau L p).2=true
 ·rw[if_pos q6]at he ⊢
  unfold zsh at he ⊢
  by_cases q7:isP L sRp (adv (zau L p).2)=true
  ·rw[if_pos q7]at he ⊢
   exact⟨zib (p:=p) he,zuI (by unfold zdr;trivial)⟩
  ·rw[if_neg q7]at he ⊢
   obtain⟨h1,w1⟩:=zsv g L.length [] _ (by unfold zdr;trivial) (zfD he)
   exact⟨zib (p:=p) h1,zuI w1⟩
 ·rw[if_neg q6]at he ⊢
  exact⟨zib he,znA rfl⟩
theorem zqG {G:Option Fns} (g:zsK G):FnW (zf9 L G):=fun p he=>by
 unfold zf9 at he ⊢
 by_cases q1:isP L sLp p=true
 ·rw[if_pos q1]at he ⊢
  obtain⟨h1,w1⟩:=zfN g _ (zfD he)
  exact⟨h1,w1⟩
 ·rw[if_neg q1]at he ⊢
  obtain⟨h1,w1⟩:=zvX g he
  exact⟨zv4 h1,w1⟩
theorem zvH {G:Option Fns} (g:zsK G):FnW (unF L G):=fun p he=>by
 have h:∀op,need op=some 1→(zoF L G op p).2.e=0→p.e=0∧zeA (zoF L G op p).1:=fun op ho he=>by
  unfold zoF at he ⊢
  by_cases q:(zay L p).e=0
  ·rw[if_pos q]at he ⊢
   exact⟨zqH q,(zlP (fun F e hf=>by subst e;exact zuJ ho (g.2.2.1 _ hf).2) he).2⟩
  ·rw[if_neg q]at he
   exact absurd he q
 unfold unF at he ⊢
 by_cases q1:isP L zgA p=true
 ·rw[if_pos q1]at he ⊢
  exact h _ rfl he
 rw[if_neg q1]at he ⊢
 by_cases q2:isP L zbO p=true
 ·rw[if_pos q2]at he ⊢
  exact h _ rfl he
 rw[if_neg q2]at he ⊢
 by_cases q3:isP L zgz p=true
 ·rw[if_pos q3]at he ⊢
  exact h _ rfl he
 rw[if_neg q3]at he ⊢
 exact zqG g p he
theorem zpX:∀(n:Nat) (a:Tr) (p:PS),(p.e=0→zeA a)→(zfV L n a p).2.e=0→p.e=0∧zeA (zfV L n a p).1
 |0,_,_,h,he=>⟨he,h he⟩
 |n+1,a,p,h,he=>by
  unfold zfV at he ⊢
  by_cases q:isP L zbn p=true
  ·rw[if_pos q]at he ⊢
   have hp:p.e=0:=(of_decide_eq_true q).1
   exact⟨hp,(zpX n _ _ (fun _=>zuJ rfl (h hp)) he).2⟩
  ·rw[if_neg q]at he ⊢
   exact⟨he,h he⟩
theorem zpY {G:Option Fns} (g:zsK G):FnW (zeB L G):=fun p he=>by
 unfold zeB at he ⊢
 obtain⟨h1,w1⟩:=zpX _ _ _ (fun h=>(zvH g p h).2) he
 exact⟨(zvH g p h1).1,w1⟩
theorem zvd {G:Option Fns} (g:zsK G):FnW (zrQ L G):=fun p he=>by
 unfold zrQ at he ⊢
 dsimp only at he ⊢
 by_cases q:isP L zfG (zeB L G p).2=true
 ·rw[if_pos q]at he ⊢
  have h0:=zpY g p (of_decide_eq_true q).1
  exact⟨h0.1,(zlP (fun F e hf=>by subst e;exact zkZ rfl h0.2 (g.2.1 _ hf).2) he).2⟩
 ·rw[if_neg q]at he ⊢
  exact zpY g p he
theorem zmK:∀{ops:List S} {op:S},opF L ops p=some op→op∈ops∧p.e=0
 | [],_,h=>by cases h
 |s::l,op,h=>by
  unfold opF at h
  split at h
  ·rename_i q
   cases h;exact⟨List.mem_cons_self,(of_decide_eq_true q).1⟩
  ·exact⟨List.mem_cons_of_mem _ (zmK h).1,(zmK h).2⟩
theorem zwG:∀k:Nat,∀op∈opsAt k,need op=some 2
 |0=>by decide
 |1=>by decide
 |2=>by decide
 |3=>by decide
 |n+4=>by
  show ∀op∈[zca,ziT,zhL],need op=some 2
  decide
theorem zuR {nx:PS→Tr×PS} {ops:List S} {once:Bool} (ho:∀op∈ops,need op=some 2) (hx:FnW nx):∀(n:Nat) (a:Tr) (p:PS),(p.e=0→zeA a)→(zff L nx ops once n a p).2.e=0→p.e=0∧zeA (zff L nx ops once n a p).1
 |0,_,_,h,he=>⟨he,h he⟩
 |n+1,a,p,h,he=>by
  unfold zff at he ⊢
  cases e:opF L ops p with
  |none =>
   rw[e]at he
   exact⟨he,h he⟩
  |some op =>
   rw[e]at he
   obtain⟨hm,hp⟩:=zmK e
   have ho':=ho _ hm
   dsimp only at he ⊢
   refine⟨hp,?_⟩
   cases once with
   |true =>
    rw[if_pos rfl]at he ⊢
    exact zkZ ho' (h hp) (hx _ he).2
   |false =>
    rw[if_neg Bool.false_ne_true]at he ⊢
    exact(zuR ho hx n _ _ (fun h2=>zkZ ho' (h hp) (hx _ h2).2) he).2
theorem zlb {G:Option Fns} (g:zsK G):∀n:Nat,FnW (zb2 L G n)
 |0=>fun p=>zvd g p
 |n+1=>fun p he=>by
  unfold zb2 at he ⊢
  obtain⟨h1,w1⟩:=zuR (zwG _) (zlb g n) _ _ _ (fun h=>(zlb g n p h).2) he
  exact⟨(zlb g n p h1).1,w1⟩
theorem zuw {G:Option Fns} (g:zsK G):FnW (zgp L G):=fun p he=>by
 unfold zgp at he ⊢
 dsimp only at he ⊢
 by_cases q:isP L zbP (zb2 L G 5 p).2=true
 ·rw[if_pos q]at he ⊢
  have h0:=zlb g 5 p (of_decide_eq_true q).1
  exact⟨h0.1,(zlP (fun F e hf=>by subst e;exact zkZ rfl h0.2 (g.1 _ hf).2) he).2⟩
 ·rw[if_neg q]at he ⊢
  exact zlb g 5 p he
theorem zq8:∀m:Nat,zsK (lvl L m)
 |0=>trivial
 |m+1=>⟨zuw (zq8 m),zvd (zq8 m),zvH (zq8 m),zqG (zq8 m)⟩
def zmc (v:Vr):Prop:=v.on=(0,0)∧(v.kd=1∨v.kd=2)
theorem zok:∀(n:Nat) (l:List Vr) (p:PS),(∀v∈l,v.on=(0,0))→∀v∈(zd8 L n l p).1.1,v.on=(0,0)
 |0,l,p,h=>h
 |n+1,l,p,h=>by
  have one:∀v∈l++[(⟨(zau L p).1,0,(0,0),false,(wd L p).a⟩:Vr)],v.on=(0,0):=fun v hv=>by
   rcases List.mem_append.1 hv with hv|hv
   ·exact h v hv
   ·rw[List.mem_singleton.1 hv]
  unfold zd8
  split
  ·split
   ·exact fun v hv=>by cases hv
   ·split
    ·exact zok n _ _ one
    ·exact one
  ·exact h
theorem zgP (p:PS):∀v∈(za9 L p).1,zmc v:=by
 unfold za9
 dsimp only
 split
 ·intro v hv
  obtain⟨u,hu,rfl⟩:=List.mem_map.1 hv
  refine⟨zok L.length [] p (fun _ h=>by cases h) u hu,?_⟩
  show(if _ then 1 else 2)=1∨(if _ then 1 else 2)=2
  split
  ·exact .inl rfl
  ·exact .inr rfl
 ·exact fun v hv=>by cases hv
theorem zix:∀(n:Nat) (l:List Vr) (p:PS),(∀v∈l,zmc v)→∀v∈(zdI L n l p).1,zmc v
 |0,l,p,h=>h
 |n+1,l,p,h=>by
  unfold zdI
  split
  ·exact zix n _ _ fun v hv=>(List.mem_append.1 hv).elim (h v) (zgP _ v)
  ·exact h
theorem ziy (p:PS):∀v∈(zd7 L p).1,zmc v:=by
 unfold zd7
 split
 ·exact fun v hv=>by cases hv
 ·exact zix _ _ _ (zgP p)
theorem zsa {d:List Vr×PS} (h:∀v∈d.1,v.kd=1∨v.kd=2):∀v∈(zcb L d).1,v.kd=1∨v.kd=2:=by
 unfold zcb
 split
 ·intro v hv
  obtain⟨u,hu,rfl⟩:=List.mem_map.1 hv
  exact h u hu
 ·exact h
theorem zjs:∀(n:Nat) (l:List Vr) (p:PS),(∀v∈l,v.kd=1∨v.kd=2)→∀v∈(zcD L n l p).1,v.kd=1∨v.kd=2
 |0,l,p,h=>h
 |n+1,l,p,h=>by
  have one:∀v∈l++(zcb L (za9 L p)).1,v.kd=1∨v.kd=2:=fun v hv=>(List.mem_append.1 hv).elim (h v) (zsa (fun v hv=>(zgP p v hv).2) v)
  unfold zcD
  dsimp only
  split
  ·split
   ·exact zjs n _ _ one
   ·exact one
  ·exact h
theorem zsW (q:PS):∀v∈(zde L q).1,v.kd=1∨v.kd=2:=by
 unfold zde
 split
 ·unfold zdR
  split
  ·exact fun v hv=>by cases hv
  ·exact zjs _ _ _ fun _ h=>by cases h
 ·exact fun v hv=>by cases hv
theorem eqF_w (p:PS) (he:(eqF L p).2.e=0):p.e=0∧zeA (eqF L p).1.e:=by
 unfold eqF at he ⊢
 dsimp only at he ⊢
 obtain⟨h1,w1⟩:=zfN (zq8 30) _ (zfD he)
 exact⟨zib (zfD (p:=(zau L p).2) h1),w1⟩
theorem zvf:∀(n:Nat) (l:List Eqn) (p:PS),(p.e=0→∀q∈l,zeA q.e)→(zhv L n l p).2.e=0→p.e=0∧∀q∈(zhv L n l p).1,zeA q.e
 |0,l,p,h,he=>⟨he,h he⟩
 |n+1,l,p,h,he=>by
  unfold zhv at he ⊢
  by_cases q:p.e=0∧(wd L p).k=1
  ·rw[if_pos q]at he ⊢
   refine⟨q.1,(zvf n _ _ (fun h2 x hx=>(List.mem_append.1 hx).elim (h q.1 x) fun hx=>?_) he).2⟩
   rw[List.mem_singleton.1 hx]
   exact(eqF_w p h2).2
  ·rw[if_neg q]at he ⊢
   exact⟨he,h he⟩
structure Made (n:Nd):Prop where
 ins:∀v∈n.ins,zmc v
 outs:∀v∈n.outs,zmc v
 locs:∀v∈n.locs,v.kd=1∨v.kd=2
 eqs:∀q∈n.eqs,zeA q.e
theorem zpo (p:PS):∀v∈(zbo L p).1.2.1,zmc v:=ziy (zaB L sLp (zau L (zaB L zk9 { p with names:=0 })).2)
theorem zm4 (p:PS):∀v∈(zbo L p).1.2.2,zmc v:=ziy (zaB L sLp (zaB L zfe (zaB L sRp (zd7 L (zaB L sLp (zau L (zaB L zk9 { p with names:=0 })).2)).2)))
theorem zqU (p:PS):(zdP L p).2=zcc L zcH (zaB L sTel (zhv L L.length [] (zaB L zmA (zde L (zbo L p).2).2)).2):=rfl
theorem zo0 (p:PS) (he:(zdP L p).2.e=0):Made (zdP L p).1:=by
 have h1:=zpo (L:=L) p
 have h2:=zm4 (L:=L) p
 have h3:=zsW (L:=L) (zbo L p).2
 rw[zqU]at he
 have h4:=(zvf (L:=L) L.length [] (zaB L zmA (zde L (zbo L p).2).2) (fun _ _ h=>by cases h) (zfD (zvL he))).2
 rw[zkc]
 generalize (zbo L p).1=hd at *
 generalize (zhv L L.length [] (zaB L zmA (zde L (zbo L p).2).2)).1=es at *
 generalize (zde L (zbo L p).2).1=vs at *
 exact⟨h1,h2,h3,h4⟩
theorem zh8:∀(n:Nat) (l:List Nd) (p:PS),(p.e=0→∀d∈l,Made d)→(zbV L n l p).2.e=0→∀d∈(zbV L n l p).1,Made d
 |0,l,p,h,he=>h he
 |n+1,l,p,h,he=>by
  unfold zbV at he ⊢
  by_cases q:p.e=0∧(l.length=0∨(wd L p).k≠0)
  ·rw[if_pos q]at he ⊢
   by_cases q2:l.length=32
   ·rw[if_pos q2]at he
    exact absurd he (zgM (by decide))
   ·rw[if_neg q2]at he ⊢
    refine zh8 n _ _ (fun h2 x hx=>(List.mem_append.1 hx).elim (h q.1 x) fun hx=>?_) he
    rw[List.mem_singleton.1 hx]
    exact zo0 p h2
  ·rw[if_neg q]at he ⊢
   exact h he
theorem zoU (t:By):∀n∈(zc1 t).1,Made n:=by
 unfold zc1
 split
 ·unfold zmt
  dsimp only
  split
  ·rename_i he
   exact zh8 34 [] ⟨0,0,0,0,0⟩ (fun _ _ h=>by cases h) he
  ·exact fun _ h=>by cases h
 ·exact fun _ h=>by cases h
end Go.Plain
namespace Go.Plain
open Go.Eng
set_option autoImplicit false
def zoa (n:Nd) (s:S):Nat:=((zap n s).getD ⟨(0,0),0,(0,0),false,0⟩).kd
def ztx (d:Nd):Nat:=(d.outs.getD 0 ⟨(0,0),0,(0,0),false,0⟩).kd
def zkr:List Vr→List Nat→Bool
 |v::l,k::r=>decide (v.kd=k)&&zkr l r
 |_,_=>true
def kx (ks:List Nat) (i:Nat):Nat:=ks.getD i 0
def zuo (l:List Nd) (nm:S) (ks:List Nat):Bool×Nat:=match l.find? (fun n=>decide (n.nm=nm)) with
 |some d=>(zkr d.ins ks,ztx d)
 |none=>(true,0)
def zeQ (l:List Nd) (n:Nd) (op nm:S) (ks:List Nat):Bool×Nat :=
 if op=zhM then(true,2)
 else if op=zcw then(true,1)
 else if op=zfu then(true,zoa n nm)
 else if op=zgA then(decide (kx ks 0=1),1)
 else if op=sNeg then(decide (kx ks 0=2),2)
 else if op=zgz then(true,kx ks 0)
 else if op=zdM∨op=zbO∨op=zca∨op=ziT∨op=zhL then(decide (kx ks 0=2∧kx ks 1=2),2)
 else if op=sEq∨op=sNe then(decide (kx ks 0=kx ks 1),1)
 else if op=sLt∨op=sLe∨op=sGt∨op=sGe then(decide (kx ks 0=2∧kx ks 1=2),1)
 else if op=ziU∨op=sOr∨op=ziS then(decide (kx ks 0=1∧kx ks 1=1),1)
 else if op=zbP∨op=zfG then(decide (kx ks 0=kx ks 1),kx ks 0)
 else if op=sIf then(decide (kx ks 0=1∧kx ks 1=kx ks 2),kx ks 1)
 else if op=zbn then(decide (zoa n nm=1),kx ks 0)
 else if op=zaQ then(decide (zoa n nm=1∧kx ks 0=kx ks 1),kx ks 0)
 else if op=zcs then zuo l nm ks
 else(true,0)
mutual
def kdE (l:List Nd) (n:Nd):Tr→Bd→Nat×Bd
 |.mk op nm _ a ks,b=>((zeQ l n op nm (zfr l n ks b).1).2,zaU (!(zeQ l n op nm (zfr l n ks b).1).1) 9 a (zfr l n ks b).2)
def zfr (l:List Nd) (n:Nd):List Tr→Bd→List Nat×Bd
 | [],b=>([],b)
 |k::r,b=>((kdE l n k b).1::(zfr l n r (kdE l n k b).2).1,(zfr l n r (kdE l n k b).2).2)
end
def zu7 (n:Nd):List Vr→Bd→Bd
 | [],b=>b
 |v::r,b=>zu7 n r (zaU (!decide (v.on=(0,0))&&!decide (zoa n v.on=1)) 9 v.a b)
def zu6 (l:List Nd) (n:Nd):List Eqn→Bd→Bd
 | [],b=>b
 |q::r,b=>zu6 l n r (zaU (!decide ((kdE l n q.e b).1=zoa n q.nm)) 9 q.a (kdE l n q.e b).2)
def kdNs (l:List Nd):List Nd→Bd→Bd
 | [],b=>b
 |n::r,b=>kdNs l r (zu6 l n n.eqs (zu7 n n.locs b))
def zgX (l:List Nd):Bd:=kdNs l l (0,0)
theorem ztX {α:Type} {P:α→Bool} {l r:List α} (h:(l.find? P).isSome=true):(l++r).find? P=l.find? P:=by
 rw[List.find?_append]
 cases e:l.find? P with
 |none=>rw[e]at h;cases h
 |some x=>rfl
section
variable {h l:List Nd} {n:Nd} {nm:S} {ks:List Nat}
end
section
variable {h r:List Nd} {n:Nd}
end
theorem zig {h:List Nd} {n:Nd}:∀ks:List Tr,zcW h n ks↔∀k∈ks,zd3 h n k
 | []=>⟨fun _ _ h=>(by cases h),fun _=>by unfold zcW;trivial⟩
 |k::ks=>by
  unfold zcW
  rw[zig ks]
  exact⟨fun h x hx=>by rcases List.mem_cons.1 hx with rfl|hx;exact h.1;exact h.2 x hx,fun h=>⟨h k List.mem_cons_self,fun x hx=>h x (List.mem_cons_of_mem _ hx)⟩⟩
theorem zpF {h r:List Nd} {s:S} {m:Nat} (g:ze5 h s m=true):ze5 (h++r) s m=true:=by
 unfold ze5 at g ⊢
 cases f:h.find? (fun n=>decide (n.nm=s)) with
 |none=>rw[f]at g;cases g
 |some d =>
  rw[f]at g
  rw[ztX (by rw[f];rfl),f]
  exact g
mutual
theorem zlI {h r:List Nd} {n:Nd}:∀(e:Tr),zd3 h n e→zd3 (h++r) n e
 |.mk op nm N a ks,g=>by
  unfold zd3 at g ⊢
  refine⟨?_,zju ks g.2⟩
  have g1:=g.1
  unfold zdl at g1 ⊢
  split
  ·rename_i q;rw[if_pos q]at g1;exact g1
  ·rename_i q
   rw[if_neg q]at g1
   split
   ·rename_i q2;rw[if_pos q2]at g1;exact zpF g1
   ·rfl
theorem zju {h r:List Nd} {n:Nd}:∀(ks:List Tr),zcW h n ks→zcW (h++r) n ks
 | [],_=>by unfold zcW;trivial
 |k::ks,g=>by
  unfold zcW at g ⊢
  exact⟨zlI k g.1,zju ks g.2⟩
end
end Go.Plain
namespace Go.Plain
open Go.Eng
set_option autoImplicit false
mutual
def mnE:Tr→List S
 |.mk op nm _ _ ks=>(if op=zfu∨op=zbn∨op=zaQ then[nm] else[])++(if op=zgz then[] else if op=zfG then mn1 ks else zhr ks)
def mn1:List Tr→List S
 | []=>[]
 |k::_=>mnE k
def zhr:List Tr→List S
 | []=>[]
 |k::ks=>mnE k++zhr ks
end
def zbm (n:Nd):List S:=(n.outs++n.locs).map Vr.nm
def onN (n:Nd) (s:S):List S:=(ofL n n.locs.length s).map Prod.fst
def eqE (n:Nd) (s:S):Tr:=match n.eqs.find? fun q=>decide (q.nm=s) with|some q=>q.e|none=>E0
def zbr (n:Nd) (s:S):List S:=if(zbm n).contains s then(zbm n).filter fun x=>(mnE (eqE n s)).contains x||(onN n s).contains x else[]
def zfv (n:Nd) (done:List S) (s:S):Bool:=!done.contains s&&!(zbr n s).any fun x=>!done.contains x
def zhX (n:Nd):Nat→List S→Option (List S)
 |0,l=>some l
 |k+1,l=>match (zbm n).find? (zfv n l) with
  |some s=>zhX n k (l++[s])
  |none=>none
def zbU (n:Nd):Option (List S):=zhX n (zbm n).length []
def zet (n:Nd) (s:S):Nat→List S→List S→Option Bool
 |0,_,_=>none
 |k+1,seen,work=>match work.getLast? with
  |none=>some false
  |some x=>if x=s then some true else if seen.contains x then zet n s k seen work.dropLast else zet n s k (x::seen) (work.dropLast++zbr n x)
end Go.Plain
namespace Go.Plain
open Go.Eng
set_option autoImplicit false
section
variable (names:List S) (lean:S→List S)
def rdyG (done:List S) (s:S):Bool:=!done.contains s&&!(lean s).any fun x=>!done.contains x
def zty:Nat→List S→Option (List S)
 |0,l=>some l
 |k+1,l=>match names.find? (rdyG lean l) with
  |some s=>zty k (l++[s])
  |none=>none
def zsO (s:S):Nat→List S→List S→Option Bool
 |0,_,_=>none
 |k+1,seen,work=>match work.getLast? with
  |none=>some false
  |some x=>if x=s then some true else if seen.contains x then zsO s k seen work.dropLast else zsO s k (x::seen) (work.dropLast++lean x)
inductive Rch (lean:S→List S):S→S→Prop
 |one {x y:S}:y∈lean x→Rch lean x y
 |step {x y z:S}:Rch lean x y→z∈lean y→Rch lean x z
variable {names lean}
def Ordr (lean:S→List S) (o:List S):Prop:=∀i (hi:i<o.length),∀y∈lean o[i],y∈o.take i
theorem zmC {done:List S} {s:S}:rdyG lean done s=true↔s∉done∧∀x∈lean s,x∈done:=by
 unfold rdyG
 rw[Bool.and_eq_true,Bool.not_eq_true',Bool.not_eq_true',List.any_eq_false]
 constructor
 ·rintro⟨h1,h2⟩
  refine⟨fun g=>?_,fun x hx=>?_⟩
  ·rw[List.contains_iff_mem.2 g]at h1;cases h1
  ·have:=h2 x hx
   cases e:done.contains x with
   |true=>exact List.contains_iff_mem.1 e
   |false=>rw[e]at this;exact absurd rfl this
 ·rintro⟨h1,h2⟩
  refine⟨?_,fun x hx=>?_⟩
  ·cases e:done.contains s with
   |true=>exact absurd (List.contains_iff_mem.1 e) h1
   |false=>rfl
  ·rw[List.contains_iff_mem.2 (h2 x hx)];decide
theorem Ordr.app {o:List S} {s:S} (h:Ordr lean o) (g:∀x∈lean s,x∈o):Ordr lean (o++[s]):=by
 intro i hi y hy
 rw[List.length_append]at hi
 have hi:i<o.length+1:=hi
 by_cases e:i<o.length
 ·rw[List.getElem_append_left e]at hy
  rw[List.take_append_of_le_length (Nat.le_of_lt e)]
  exact h i e y hy
 ·obtain rfl:i=o.length:=by omega
  rw[List.getElem_append_right (Nat.le_refl _)]at hy
  simp only[Nat.sub_self,List.getElem_cons_zero]at hy
  rw[List.take_left']
  ·exact g y hy
  ·rfl
theorem zj6:∀(k:Nat) (l:List S) {o:List S},zty names lean k l=some o→Ordr lean l→l.Nodup→(∀x∈l,x∈names)→Ordr lean o∧o.length=l.length+k∧o.Nodup∧∀x∈o,x∈names
 |0,l,o,h,h1,h2,h3=>by
  cases h
  exact⟨h1,rfl,h2,h3⟩
 |k+1,l,o,h,h1,h2,h3=>by
  unfold zty at h
  split at h
  ·rename_i s e
   obtain⟨g1,g2⟩:=zmC.1 (List.find?_some e)
   obtain⟨q1,q2,q3,q4⟩:=zj6 k _ h (h1.app g2) (by
    rw[List.nodup_append]
    refine⟨h2,List.nodup_cons.2 ⟨List.not_mem_nil,List.nodup_nil⟩,fun a ha b hb=>?_⟩
    rw[List.mem_singleton.1 hb]
    exact fun e=>g1 (e▸ha)) (fun x hx=>by
    rcases List.mem_append.1 hx with hx|hx
    ·exact h3 x hx
    ·rw[List.mem_singleton.1 hx];exact List.mem_of_find?_eq_some e)
   refine⟨q1,?_,q3,q4⟩
   rw[q2,List.length_append]
   show l.length+1+k=l.length+(k+1)
   omega
  ·cases h
theorem zgG:∀{l k:List S},l.Nodup→(∀x∈l,x∈k)→l.length≤k.length
 | [],_,_,_=>Nat.zero_le _
 |a::l,k,h,g=>by
  obtain⟨h1,h2⟩:=List.nodup_cons.1 h
  have:=zgG (l:=l) (k:=k.erase a) h2 fun x hx=>by
   have ne:x≠a:=fun e=>h1 (by rw[←e];exact hx)
   exact(List.mem_erase_of_ne ne).2 (g x (List.mem_cons_of_mem _ hx))
  rw[List.length_erase_of_mem (g a (List.mem_cons_self ..))]at this
  have:0<k.length:=List.length_pos_of_mem (g a (List.mem_cons_self ..))
  show l.length+1≤k.length
  omega
theorem all_in {l k:List S} (h:l.Nodup) (g:∀x∈l,x∈k) (e:k.length≤l.length):∀x∈k,x∈l:=by
 intro x hx
 apply Classical.byContradiction
 intro nx
 have:=zgG (l:=l) (k:=k.erase x) h fun y hy=>by
  have ne:y≠x:=fun e=>nx (by rw[←e];exact hy)
  exact(List.mem_erase_of_ne ne).2 (g y hy)
 rw[List.length_erase_of_mem hx]at this
 have:0<k.length:=List.length_pos_of_mem hx
 omega
theorem zwE {o:List S} (h:Ordr lean o) {x y:S} (g:Rch lean x y):∀i (hi:i<o.length),o[i]=x→∃j,j<i∧∃hj:j<o.length,o[j]=y:=by
 induction g with
 |one h1 =>
  intro i hi e
  obtain⟨j,hj,ej⟩:=List.getElem_of_mem (h i hi _ (e▸h1))
  rw[List.length_take]at hj
  exact⟨j,by omega,by omega,by rw[List.getElem_take]at ej;exact ej⟩
 |step _ h1 ih =>
  intro i hi e
  obtain⟨j,hj,hj',ej⟩:=ih i hi e
  obtain⟨m,hm,em⟩:=List.getElem_of_mem (h j hj' _ (ej▸h1))
  rw[List.length_take]at hm
  exact⟨m,by omega,by omega,by rw[List.getElem_take]at em;exact em⟩
theorem zwF {o:List S} (h:Ordr lean o) {s:S} (hs:s∈o):¬Rch lean s s:=by
 intro g
 have:∀n i (hi:i<o.length),i<n→o[i]=s→False:=by
  intro n
  induction n with
  |zero=>intro i _ h;exact absurd h (Nat.not_lt_zero _)
  |succ n ih =>
   intro i hi hn e
   obtain⟨j,hj,hj',ej⟩:=zwE h g i hi e
   exact ih j hj' (by omega) ej
 obtain⟨i,hi,e⟩:=List.getElem_of_mem hs
 exact this _ i hi (Nat.lt_succ_self _) e
theorem cyc:∀(n:Nat) (R:List S),R.length≤n→R≠[]→(∀x∈R,∃y∈R,y∈lean x)→∃s∈R,Rch lean s s
 |0,R,h,h0,_=>absurd (List.eq_nil_of_length_eq_zero (Nat.le_zero.1 h)) h0
 |n+1,R,h,h0,hs=>by
  obtain⟨x,hx⟩:=List.exists_mem_of_ne_nil R h0
  by_cases g:Rch lean x x
  ·exact⟨x,hx,g⟩
  ·letI:∀y,Decidable (Rch lean x y):=fun y=>Classical.propDecidable _
   obtain⟨y,hy,hyx⟩:=hs x hx
   have hy':y∈R.filter fun y=>decide (Rch lean x y):=List.mem_filter.2 ⟨hy,decide_eq_true (.one hyx)⟩
   have hl:(R.filter fun y=>decide (Rch lean x y)).length<R.length:=List.length_filter_lt_length_iff_exists.2 ⟨x,hx,by simpa using g⟩
   obtain⟨s,h1,h2⟩:=cyc n (R.filter fun y=>decide (Rch lean x y)) (by omega) (List.ne_nil_of_mem hy') fun z hz=>by
    obtain⟨z1,z2⟩:=List.mem_filter.1 hz
    obtain⟨w,w1,w2⟩:=hs z z1
    exact⟨w,List.mem_filter.2 ⟨w1,decide_eq_true (.step (of_decide_eq_true z2) w2)⟩,w2⟩
   exact⟨s,(List.mem_filter.1 h1).1,h2⟩
theorem znR (hn:names.Nodup) (hl:∀x,∀y∈lean x,y∈names) (ha:∀s∈names,¬Rch lean s s):∀(k:Nat) (l:List S),l.length+k=names.length→l.Nodup→(∀x∈l,x∈names)→∃o,zty names lean k l=some o
 |0,l,_,_,_=>⟨l,rfl⟩
 |k+1,l,hk,h2,h3=>by
  unfold zty
  cases e:names.find? (rdyG lean l) with
  |some s =>
   obtain⟨g1,g2⟩:=zmC.1 (List.find?_some e)
   exact znR hn hl ha k (l++[s]) (by rw[List.length_append];show l.length+1+k=_;omega) (by
    rw[List.nodup_append]
    refine⟨h2,List.nodup_cons.2 ⟨List.not_mem_nil,List.nodup_nil⟩,fun a ha b hb=>?_⟩
    rw[List.mem_singleton.1 hb]
    exact fun e=>g1 (e▸ha)) (fun x hx=>by
    rcases List.mem_append.1 hx with hx|hx
    ·exact h3 x hx
    ·rw[List.mem_singleton.1 hx];exact List.mem_of_find?_eq_some e)
  |none =>
   exfalso
   have hno:=List.find?_eq_none.1 e
   have hne:names.filter (fun x=>!l.contains x)≠[]:=fun g=>by
    have hall:∀x∈names,x∈l:=fun x hx=>by
     have:=List.filter_eq_nil_iff.1 g x hx
     simpa using this
    have:=zgG hn hall
    omega
   obtain⟨s,h1,h2⟩:=cyc _ (names.filter (fun x=>!l.contains x)) (Nat.le_refl _) hne fun x hx=>by
    obtain⟨x1,x2⟩:=List.mem_filter.1 hx
    have nx:x∉l:=by simpa using x2
    have:=hno x x1
    have:¬∀y∈lean x,y∈l:=fun g=>this (zmC.2 ⟨nx,g⟩)
    obtain⟨y,hy⟩:=Classical.not_forall.1 this
    obtain⟨y1,y2⟩:=Classical.not_imp.1 hy
    exact⟨y,List.mem_filter.2 ⟨hl x y y1,by simpa using y2⟩,y1⟩
   exact ha s (List.mem_filter.1 h1).1 h2
theorem zkl {work:List S} {x:S} (h:work.getLast?=some x):work=work.dropLast++[x]:=by
 have hne:work≠[]:=fun e=>by rw[e]at h;cases h
 rw[List.getLast?_eq_some_getLast hne]at h
 rw[←Option.some.inj h]
 exact(List.dropLast_concat_getLast hne).symm
theorem zjX {s:S}:∀(k:Nat) (seen work:List S),(∀w∈work,Rch lean s w)→zsO lean s k seen work=some true→Rch lean s s
 |0,_,_,_,h=>by cases h
 |k+1,seen,work,hw,h=>by
  unfold zsO at h
  split at h
  ·cases h
  ·rename_i x e
   have ew:=zkl e
   have hx:Rch lean s x:=hw x (by rw[ew];exact List.mem_append_right _ (List.mem_singleton.2 rfl))
   have hd:∀w∈work.dropLast,Rch lean s w:=fun w g=>hw w (by rw[ew];exact List.mem_append_left _ g)
   split at h
   ·rename_i q;exact q▸hx
   split at h
   ·exact zjX k _ _ hd h
   ·refine zjX k _ _ (fun w g=>?_) h
    rcases List.mem_append.1 g with g|g
    ·exact hd w g
    ·exact .step hx g
theorem zhQ {s:S}:∀(k:Nat) (seen work:List S),(∀w∈lean s,w∈seen∨w∈work)→(∀x∈seen,∀y∈lean x,y∈seen∨y∈work)→s∉seen→zsO lean s k seen work=some false→¬Rch lean s s
 |0,_,_,_,_,_,h=>by cases h
 |k+1,seen,work,h1,h2,h3,h=>by
  unfold zsO at h
  split at h
  ·rename_i e
   have e:work=[]:=List.getLast?_eq_none_iff.1 e
   subst e
   have:∀x y,Rch lean x y→x=s→y∈seen:=by
    intro x y g
    induction g with
    |one g1 =>
     intro e;subst e
     exact(h1 _ g1).resolve_right List.not_mem_nil
    |step _ g1 ih =>
     intro e
     exact(h2 _ (ih e) _ g1).resolve_right List.not_mem_nil
   exact fun g=>h3 (this _ _ g rfl)
  ·rename_i x e
   have ew:=zkl e
   have sp:∀{w:S},w∈work→w∈work.dropLast∨w=x:=fun{w} g=>by
    rw[ew]at g
    exact(List.mem_append.1 g).imp id fun g=>List.mem_singleton.1 g
   split at h
   ·cases h
   ·rename_i q
    split at h
    ·rename_i c
     have c:=List.contains_iff_mem.1 c
     have mv:∀{w:S},w∈seen∨w∈work→w∈seen∨w∈work.dropLast:=fun{w} g=>by
      rcases g with g|g
      ·exact .inl g
      ·rcases sp g with g|g
       ·exact .inr g
       ·exact .inl (g▸c)
     exact zhQ k _ _ (fun w g=>mv (h1 w g)) (fun a b c d=>mv (h2 a b c d)) h3 h
    ·have mv:∀{w:S},w∈seen∨w∈work→w∈x::seen∨w∈work.dropLast++lean x:=fun{w} g=>by
      rcases g with g|g
      ·exact .inl (List.mem_cons_of_mem _ g)
      ·rcases sp g with g|g
       ·exact .inr (List.mem_append_left _ g)
       ·exact .inl (g▸List.mem_cons_self ..)
     refine zhQ k _ _ (fun w g=>mv (h1 w g)) (fun a b c d=>?_) (fun g=>?_) h
     ·rcases List.mem_cons.1 b with b|b
      ·exact .inr (List.mem_append_right _ (b▸d))
      ·exact mv (h2 a b c d)
     ·rcases List.mem_cons.1 g with g|g
      ·exact q g.symm
      ·exact h3 g
theorem zjY {s:S} {K:Nat} (hK:∀x,(lean x).length≤K) (hl:∀x,∀y∈lean x,y∈names):∀(k:Nat) (seen work:List S),(∀w∈work,w∈names)→(names.filter fun x=>!seen.contains x).length*(K+1)+work.length<k→∃b,zsO lean s k seen work=some b
 |0,_,_,_,h=>absurd h (Nat.not_lt_zero _)
 |k+1,seen,work,hw,h=>by
  unfold zsO
  cases e:work.getLast? with
  |none=>exact⟨_,rfl⟩
  |some x =>
   dsimp only
   have ew:=zkl e
   have hx:x∈names:=hw x (by rw[ew];exact List.mem_append_right _ (List.mem_singleton.2 rfl))
   have hd:∀w∈work.dropLast,w∈names:=fun w g=>hw w (by rw[ew];exact List.mem_append_left _ g)
   have hlw:work.length=work.dropLast.length+1:=by
    have:=congrArg List.length ew
    rw[List.length_append]at this
    exact this
   split
   ·exact⟨_,rfl⟩
   split
   ·exact zjY hK hl k _ _ hd (by omega)
   ·rename_i c
    refine zjY hK hl k _ _ (fun w g=>(List.mem_append.1 g).elim (hd w) (hl x w)) ?_
    have h1:(names.filter fun y=>!(x::seen).contains y).length<(names.filter fun y=>!seen.contains y).length:=by
     have:(names.filter fun y=>!(x::seen).contains y)=(names.filter fun y=>!seen.contains y).filter fun y=>!decide (y=x):=by
      rw[List.filter_filter]
      refine List.filter_congr fun y _=>?_
      rw[List.contains_cons]
      by_cases q:y=x
      ·subst q;simp
      ·have:(y == x)=false:=by simpa using q
       rw[this,decide_eq_false q];simp
     rw[this]
     refine List.length_filter_lt_length_iff_exists.2 ⟨x,List.mem_filter.2 ⟨hx,by simpa using c⟩,by simp⟩
    have h2:=hK x
    rw[List.length_append]
    have h3:((names.filter fun y=>!(x::seen).contains y).length+1)*(K+1)≤(names.filter fun y=>!seen.contains y).length*(K+1):=Nat.mul_le_mul_right _ h1
    rw[Nat.add_mul]at h3
    omega
end
end Go.Plain
namespace Go.Plain
open Go.Eng
set_option autoImplicit false
theorem zhp {n:Nd}:∀(k:Nat) (l:List S),zhX n k l=zty (zbm n) (zbr n) k l
 |0,_=>rfl
 |k+1,l=>by
  unfold zhX zty
  have:zfv n l=rdyG (zbr n) l:=rfl
  rw[this]
  split
  ·rename_i e;try rw[e]
   exact zhp k _
  ·rename_i e;first|rw[e]|rfl
theorem zjW {n:Nd} {s:S}:∀(k:Nat) (a b:List S),zet n s k a b=zsO (zbr n) s k a b
 |0,_,_=>rfl
 |k+1,a,b=>by
  unfold zet zsO
  split
  ·rename_i e;first|rw[e]|rfl
  ·rename_i e;try rw[e]
   try dsimp only
   rw[zjW k,zjW k]
theorem zeU {n:Nd} (x:S):∀y∈zbr n x,y∈zbm n:=by
 unfold zbr
 split
 ·exact fun y hy=>(List.mem_filter.1 hy).1
 ·exact fun y hy=>by cases hy
theorem zeV {n:Nd} (x:S):(zbr n x).length≤(zbm n).length:=by
 unfold zbr
 split
 ·exact List.length_filter_le ..
 ·exact Nat.zero_le _
def ztW (n:Nd):Nat:=(zbm n).length*((zbm n).length+1)+(zbm n).length+1
def zlc (n:Nd) (s:S):Option Bool:=zet n s (ztW n) [] (zbr n s)
theorem zjV {n:Nd} {s:S}:∃b,zlc n s=some b∧(b=true↔Rch (zbr n) s s):=by
 have h1:((zbm n).filter fun x=>!([]:List S).contains x).length≤(zbm n).length:=List.length_filter_le ..
 have h2:=zeV (n:=n) s
 have h3:((zbm n).filter fun x=>!([]:List S).contains x).length*((zbm n).length+1)≤(zbm n).length*((zbm n).length+1):=Nat.mul_le_mul_right _ h1
 obtain⟨b,e⟩:=zjY (s:=s) (zeV (n:=n)) (zeU (n:=n)) (ztW n) [] (zbr n s) (zeU s) (by unfold ztW;omega)
 refine⟨b,(zjW _ _ _).trans e,?_⟩
 cases b with
 |true=>exact⟨fun _=>zjX _ _ _ (fun w hw=>.one hw) e,fun _=>rfl⟩
 |false=>exact⟨fun h=>(by cases h),fun h=>absurd h (zhQ _ _ _ (fun w hw=>.inr hw) (fun x hx=>by cases hx) List.not_mem_nil e)⟩
def zhe (n:Nd):List Eqn→Option Nat
 | []=>none
 |q::r=>if zlc n q.nm=some true then some q.a else zhe n r
def zhf:List Nd→Option Nat
 | []=>none
 |n::r=>match zhe n n.eqs with|some a=>some a|none=>zhf r
theorem zjE {n:Nd}:∀{l:List Eqn},zhe n l=none↔∀q∈l,zlc n q.nm≠some true
 | []=>⟨fun _ _ h=>(by cases h),fun _=>rfl⟩
 |q::r=>by
  unfold zhe
  split
  ·rename_i h
   exact⟨fun g=>(by cases g),fun g=>absurd h (g q (List.mem_cons_self ..))⟩
  ·rename_i h
   rw[zjE]
   exact⟨fun g x hx=>(List.mem_cons.1 hx).elim (fun e=>e▸h) (g x),fun g x hx=>g x (List.mem_cons_of_mem _ hx)⟩
theorem zjF:∀{l:List Nd},zhf l=none↔∀n∈l,zhe n n.eqs=none
 | []=>⟨fun _ _ h=>(by cases h),fun _=>rfl⟩
 |n::r=>by
  unfold zhf
  split
  ·rename_i h
   exact⟨fun g=>(by cases g),fun g=>by rw[g n (List.mem_cons_self ..)]at h;cases h⟩
  ·rename_i h
   rw[zjF]
   exact⟨fun g x hx=>(List.mem_cons.1 hx).elim (fun e=>e▸h) (g x),fun g x hx=>g x (List.mem_cons_of_mem _ hx)⟩
theorem zjz:∀{l pre:List Vr},hung pre l→(pre.map Vr.nm).Nodup→((pre++l).map Vr.nm).Nodup
 | [],pre,_,h=>by rw[List.append_nil];exact h
 |v::r,pre,⟨h1,h2⟩,h=>by
  have:((pre++[v]).map Vr.nm).Nodup:=by
   rw[List.map_append,List.nodup_append]
   refine⟨h,List.nodup_cons.2 ⟨List.not_mem_nil,List.nodup_nil⟩,fun a ha b hb=>?_⟩
   obtain⟨w,hw,rfl⟩:=List.mem_map.1 ha
   rw[List.mem_singleton.1 hb]
   exact h1.2 w hw
  have:=zjz h2 this
  rw[List.append_assoc]at this
  exact this
theorem zqJ {h:List Nd} {n:Nd} (g:NmOk h n):(zbm n).Nodup:=by
 have:=zjz g.vars (by exact List.nodup_nil)
 rw[List.nil_append]at this
 unfold za4 at this
 rw[List.map_append]at this
 exact(List.nodup_append.1 this).2.1
theorem znZ {h:List Nd} {n:Nd}:∀(l pre:List Eqn) (b:Bd),(zi5 h n pre l b).1=0→∀q∈l,¬∃v∈n.ins,v.nm=q.nm
 | [],_,b,hb=>fun _ h=>by cases h
 |q::r,pre,b,hb=>by
  have h2:=znZ r _ _ hb
  obtain⟨h3,h4⟩:=zwO _ _ (zkf r _ _ hb).1
  obtain⟨h5,h6⟩:=zdE (by decide) h3
  intro x hx
  rcases List.mem_cons.1 hx with rfl|hx
  ·rintro⟨v,hv,e⟩
   have:(n.ins.any fun v=>decide (v.nm=x.nm))=true:=List.any_eq_true.2 ⟨v,hv,decide_eq_true e⟩
   rw[this]at h5
   simp at h5
  ·exact h2 x hx
theorem zlt {n:Nd}:∀(l:List Vr) (b:Bd),(zi4 n l b).1=0→∀v∈l,∃q∈n.eqs,q.nm=v.nm
 | [],b,_=>fun _ h=>by cases h
 |v::r,b,hb=>by
  have h2:=zlt r _ hb
  have h3:=(zdE (by decide) (zkd r _ hb)).1
  intro x hx
  rcases List.mem_cons.1 hx with rfl|hx
  ·have h3:(!n.eqs.any fun q=>decide (q.nm=x.nm))=false:=h3
   have:(n.eqs.any fun q=>decide (q.nm=x.nm))=true:=by simpa using h3
   obtain⟨q,hq,e⟩:=List.any_eq_true.1 this
   exact⟨q,hq,of_decide_eq_true e⟩
  ·exact h2 x hx
theorem zmN {h:List Nd} {n:Nd} {b:Bd} (hb:(zh9 h n b).1=0):(∀q∈n.eqs,q.nm∈zbm n)∧∀s∈zbm n,∃q∈n.eqs,q.nm=s:=by
 have h1:=zlt _ _ hb
 have h2:=zkd _ _ hb
 have h3:=znZ _ _ _ h2
 have h4:=(zkf _ _ _ h2).2
 refine⟨fun q hq=>?_,fun s hs=>?_⟩
 ·have:=(h4 q hq).2
  unfold zap at this
  obtain⟨v,hv⟩:=Option.isSome_iff_exists.1 this
  have e:v.nm=q.nm:=by have:=List.find?_some hv;exact of_decide_eq_true this
  have m:=List.mem_of_find?_eq_some hv
  unfold za4 at m
  rcases List.mem_append.1 m with m|m
  ·exact absurd ⟨v,m,e⟩ (h3 q hq)
  ·exact List.mem_map.2 ⟨v,m,e⟩
 ·obtain⟨v,hv,rfl⟩:=List.mem_map.1 hs
  exact h1 v hv
theorem zg4:∀(l h:List Nd) (b:Bd),(zek h l b).1=0→∀n∈l,(zbm n).Nodup∧(∀q∈n.eqs,q.nm∈zbm n)∧∀s∈zbm n,∃q∈n.eqs,q.nm=s
 | [],h,b,hb=>fun _ h=>by cases h
 |n::r,h,b,hb=>by
  have h1:=zg4 r _ _ hb
  have h2:=(zgD r _ _ hb).1
  intro x hx
  rcases List.mem_cons.1 hx with rfl|hx
  ·exact⟨zqJ (zlu h2).2,zmN h2⟩
  ·exact h1 x hx
theorem zjm {n:Nd} (h:(zbm n).Nodup∧(∀q∈n.eqs,q.nm∈zbm n)∧∀s∈zbm n,∃q∈n.eqs,q.nm=s):(∃o,zbU n=some o)↔zhe n n.eqs=none:=by
 obtain⟨h1,h2,h3⟩:=h
 rw[zjE]
 constructor
 ·rintro⟨o,e⟩ q hq g
  obtain⟨b,e1,e2⟩:=zjV (n:=n) (s:=q.nm)
  rw[g]at e1
  have hr:=e2.1 (Option.some.inj e1).symm
  have e:zty (zbm n) (zbr n) (zbm n).length []=some o:=(zhp _ _).symm.trans e
  obtain⟨o1,o2,o3,o4⟩:=zj6 _ _ e (fun i hi=>(by cases hi)) List.nodup_nil (fun _ h=>by cases h)
  have:q.nm∈o:=all_in o3 o4 (by rw[o2];simp) _ (h2 q hq)
  exact zwF o1 this hr
 ·intro g
  obtain⟨o,e⟩:=znR (names:=zbm n) (lean:=zbr n) h1 (fun x=>zeU x) (fun s hs hr=>by
   obtain⟨q,hq,rfl⟩:=h3 s hs
   obtain⟨b,e1,e2⟩:=zjV (n:=n) (s:=q.nm)
   rw[e2.2 hr]at e1
   exact g q hq e1) (zbm n).length [] (by simp) List.nodup_nil (fun _ h=>by cases h)
  exact⟨o,(zhp _ _).trans e⟩
theorem zoW {n:Nd} {o:List S} (e:zbU n=some o):Ordr (zbr n) o∧o.length=(zbm n).length:=by
 have e:zty (zbm n) (zbr n) (zbm n).length []=some o:=(zhp _ _).symm.trans e
 obtain⟨o1,o2,o3,o4⟩:=zj6 _ _ e (fun i hi=>(by cases hi)) List.nodup_nil (fun _ h=>by cases h)
 exact⟨o1,by rw[o2];simp⟩
end Go.Plain
namespace Go.Plain
open Go.Eng
set_option autoImplicit false
mutual
def ltE (m:List S):Tr→Bool
 |.mk op nm _ _ ks=>if op=zfu then m.contains nm else if op=zgz then true else if op=zbP∨op=zfG∨op=zaQ∨op=zcs∨op=zhM∨op=zcw then false else zrd m ks
def zrd (m:List S):List Tr→Bool
 | []=>false
 |k::r=>ltE m k||zrd m r
end
def zgZ:List Eqn→List S→List S
 | [],m=>m
 |q::r,m=>zgZ r (if !m.contains q.nm&&ltE m q.e then m++[q.nm] else m)
def zmZ (n:Nd):Nat→List S→List S
 |0,m=>m
 |k+1,m=>zmZ n k (zgZ n.eqs m)
def zi7 (m:List S):List Vr→List S
 | []=>[]
 |v::r=>if m.contains v.nm then v.nm::zi7 m r else zi7 m r
def zm0 (n:Nd):List S:=zi7 (zmZ n (n.eqs.length+1) []) (za4 n)
def zvt (m:List S) (op:S):Nat→List Tr→Bool→Bool
 |_,[],b=>b
 |i,k::r,b=>zvt m op (i+1) r (if op=zgz∨op=zfG∨op=zaQ∨op=zcs then b||ltE m k else if op=zbP then b||(decide (i=0)&&ltE m k) else b)
mutual
def inE (m:List S):Tr→Bd→Bd
 |.mk op nm _ a ks,b=>zaU (zvt m op 0 ks (decide (op=zbn∨op=zaQ)&&m.contains nm)) 11 a (zmn m ks b)
def zmn (m:List S):List Tr→Bd→Bd
 | [],b=>b
 |k::r,b=>zmn m r (inE m k b)
end
def zva (m:List S) (n:Nd):List Eqn→Bd→Bd
 | [],b=>b
 |q::r,b=>zva m n r (zaU (((n.outs.any fun v=>decide (v.nm=q.nm))||n.locs.any fun v=>decide (v.on=q.nm))&&m.contains q.nm) 11 q.a (inE m q.e b))
def inNs:List Nd→Bd→Bd
 | [],b=>b
 |n::r,b=>inNs r (zva (zm0 n) n n.eqs b)
def zjy (l:List Nd):Bd:=inNs l (0,0)
def ziO (Q:List S) (m:List S):Prop:=m.Nodup∧∀x∈m,x∈Q
theorem ziO.len {Q m:List S} (h:ziO Q m):m.length≤Q.length:=zgG h.1 h.2
theorem ziO.app {Q m:List S} {x:S} (h:ziO Q m) (hx:x∈Q) (g:m.contains x=false):ziO Q (m++[x]):=by
 refine⟨?_,fun y hy=>?_⟩
 ·rw[List.nodup_append]
  refine⟨h.1,List.nodup_cons.2 ⟨List.not_mem_nil,List.nodup_nil⟩,fun a ha b hb=>?_⟩
  rw[List.mem_singleton.1 hb]
  intro e
  rw[List.contains_iff_mem.2 (e▸ha)]at g
  cases g
 ·rcases List.mem_append.1 hy with hy|hy
  ·exact h.2 y hy
  ·rw[List.mem_singleton.1 hy];exact hx
theorem zrR {c:Bool} {a:Nat} {b:Bd} (h:b.1≤100):(zaU c 11 a b).1≤100:=by
 unfold zaU zfM
 split
 ·split
  ·exact Nat.le_of_ble_eq_true rfl
  ·exact h
 ·exact h
mutual
theorem zry {m:List S}:∀(e:Tr) (b:Bd),b.1≤100→(inE m e b).1≤100
 |.mk op nm _ a ks,b,h=>by
  unfold inE
  exact zrR (zm3 ks b h)
theorem zm3 {m:List S}:∀(ks:List Tr) (b:Bd),b.1≤100→(zmn m ks b).1≤100
 | [],b,h=>by unfold zmn;exact h
 |k::r,b,h=>by
  unfold zmn
  exact zm3 r _ (zry k b h)
end
end Go.Plain
namespace Go.Plain
open Go.Eng
set_option autoImplicit false
variable {L:List Wd} {p:PS}
theorem zqT (gl:Good L) (p:PS):(zdP L p).1.eqs.length≤16385:=by
 rw[zkc]
 obtain⟨_,h2⟩:=zm6 gl L.length [] (zaB L zmA (zde L (zbo L p).2).2) fun _ h=>by cases h
 have:=gl.2.1
 simp only[List.length_nil]at h2
 exact Nat.le_trans h2 (by omega)
theorem zjo (gl:Good L):∀(n:Nat) (l:List Nd) (p:PS),(∀d∈l,d.eqs.length≤16385)→(∀d∈(zbV L n l p).1,d.eqs.length≤16385)
 |0,l,p,h=>h
 |n+1,l,p,h=>by
  unfold zbV
  split
  ·split
   ·exact h
   ·exact zjo gl n (l++[(zdP L p).1]) (zdP L p).2 fun q hq=>(List.mem_append.1 hq).elim (h q) fun hq=>by rw[List.mem_singleton.1 hq];exact zqT gl p
  ·exact h
theorem zqI (t:By):∀d∈(zc1 t).1,d.eqs.length≤16385:=by
 unfold zc1
 split
 ·rename_i h
  have gl:=ziA h
  unfold zmt
  dsimp only
  have h1:=zjo gl 34 [] ⟨0,0,0,0,0⟩ fun _ h=>by cases h
  split
  ·exact h1
  ·exact fun _ h=>by cases h
 ·exact fun _ h=>by cases h
theorem zwA {n:Nd} (h:(zbm n).Nodup∧(∀q∈n.eqs,q.nm∈zbm n)∧∀s∈zbm n,∃q∈n.eqs,q.nm=s):(zbm n).length≤n.eqs.length:=by
 have:=zgG (k:=n.eqs.map Eqn.nm) h.1 fun s hs=>by
  obtain⟨q,h1,h2⟩:=h.2.2 s hs
  exact List.mem_map.2 ⟨q,h1,h2⟩
 rw[List.length_map]at this
 exact this
end Go.Plain
