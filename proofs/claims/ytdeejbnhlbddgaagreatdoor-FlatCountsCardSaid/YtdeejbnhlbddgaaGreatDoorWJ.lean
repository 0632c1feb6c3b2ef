/- What is proved: the calculus's rules and steps; slices of bytes; laws from the calculus. Conditions: none. -/
import Derived.Test.YtdeejbnhlbddgaaGreatDoorWI
import Derived.Tactics
import Derived.ChangeSlices
set_option linter.unusedVariables false
set_option linter.unusedSimpArgs false
set_option linter.unusedSectionVars false
namespace Go.Eng
set_option autoImplicit false
section
variable {P:Program} {C:Spec} {PT:Plans} {φ:FN} {η:HN}
theorem thenN_mono {r:RES} {d:Option Nat} {k k':FN→HN→Prop} (hk:∀φ η,k φ η→k' φ η) (w:thenN C r η d k φ):thenN C r η d k' φ:=by
 unfold thenN at w ⊢
 split
 ·exact w
 ·exact hk _ _ w
 ·obtain⟨v,η',a,b⟩:=w
  exact⟨v,η',a,hk _ _ b⟩
theorem wpOps_mono {all:List Oper} {K K':FN→HN→Prop} (hk:∀φ η,K φ η→K' φ η):∀(l:List Oper) (φ:FN) (η:HN),wpOps P C all l K φ η→wpOps P C all l K' φ η
 | [],φ,η,w=>hk φ η w
 |o::l,φ,η,w=>by
  unfold wpOps at w ⊢
  split at w
  ·exact thenN_mono (fun φ η=>wpOps_mono hk l φ η) w
  ·exact wpOps_mono hk l _ _ w
theorem drawN_mono {all:List Oper} {K K':FN→HN→Prop} (hk:∀φ η,K φ η→K' φ η) {nx0:Nat}:∀(l:List Oper) (plan:List DK) (j:Nat) (φ:FN) (η:HN) (ηs:List HN) (ss:List RecN),drawN P C all K nx0 plan l j φ η ηs ss→drawN P C all K' nx0 plan l j φ η ηs ss
 | [],[],j,φ,η,ηs,ss,w=>by unfold drawN at w ⊢;exact⟨w.1,hk _ _ w.2⟩
 | [],_::_,_,_,_,_,_,w=>by unfold drawN at w;exact w.elim
 |_::_,[],_,_,_,_,_,w=>by unfold drawN at w;exact w.elim
 |o::l,k::plan,j,φ,η,ηs,ss,w=>by
  unfold drawN at w ⊢
  split at w
  ·cases k with
   |alloc =>
    dsimp only at w ⊢
    split at w
    ·exact drawN_mono hk l _ _ _ _ _ _ w
    ·exact w.elim
   |eff=>exact thenN_mono (fun φ η=>drawN_mono hk l _ _ _ _ _ _) w
   |pure =>
    dsimp only at w ⊢
    split at w
    ·exact drawN_mono hk l _ _ _ _ _ _ w
    ·exact w.elim
   |read lo hi =>
    dsimp only at w ⊢
    split at w
    ·exact drawN_mono hk l _ _ _ _ _ _ w
    ·exact w.elim
  ·exact drawN_mono hk l _ _ _ _ _ _ w
theorem seqKN_mono {w w':FN→HN→Prop} {K K':Kont} (hw:∀φ η,w φ η→w' φ η) (hk:∀e φ η,K e φ η→K' e φ η):∀e φ η,seqKN w K e φ η→seqKN w' K' e φ η:=by
 intro e φ η x
 cases e with
 |normal=>exact hw _ _ x
 |exit i=>exact hk _ _ _ x
 |ret=>exact hk _ _ _ x
theorem loopW_mono {w:Kont→FN→HN→Prop} (hw:∀K K':Kont,(∀e φ η,K e φ η→K' e φ η)→∀φ η,w K φ η→w K' φ η) {K K':Kont} (hk:∀e φ η,K e φ η→K' e φ η):∀(m m':Nat) (φ:FN) (η:HN),m≤m'→loopW w m K φ η→loopW w m' K' φ η
 |0,_,_,_,_,x=>x.elim
 |m+1,0,_,_,h,_=>absurd h (by omega)
 |m+1,m'+1,φ,η,h,x=>hw _ _ (seqKN_mono (fun φ η=>loopW_mono hw hk m m' φ η (by omega)) hk) φ η x
theorem wpN_mono:∀(c:Code) (K K':Kont),(∀e φ η,K e φ η→K' e φ η)→∀φ η,wpN P C PT c K φ η→wpN P C PT c K' φ η
 |.skip,K,K',hk,φ,η,w=>hk _ _ _ w
 |.exit i,K,K',hk,φ,η,w=>hk _ _ _ w
 |.ret,K,K',hk,φ,η,w=>hk _ _ _ w
 |.rangeFunc _ _ _ _,_,_,_,_,_,w=>w.elim
 |.scope _,_,_,_,_,_,w=>w.elim
 |.label _,_,_,_,_,_,w=>w.elim
 |.goto _,_,_,_,_,_,w=>w.elim
 |.refuse _,_,_,_,_,_,w=>w.elim
 |.region id ops false,K,K',hk,φ,η,w=>wpOps_mono (hk .normal) _ _ _ w
 |.region id ops true,K,K',hk,φ,η,w=>drawN_mono (hk .normal) _ _ _ _ _ _ _ w
 |.seq a b,K,K',hk,φ,η,w=>wpN_mono a _ _ (seqKN_mono (wpN_mono b K K' hk) hk) φ η w
 |.cond c a b,K,K',hk,φ,η,w=>by
  have w:condN (opd φ c) (wpN P C PT a K) (wpN P C PT b K) φ η:=w
  show condN (opd φ c) (wpN P C PT a K') (wpN P C PT b K') φ η
  unfold condN at w ⊢
  split at w
  ·exact wpN_mono a K K' hk φ η w
  ·exact wpN_mono b K K' hk φ η w
  ·exact w.elim
 |.block i b,K,K',hk,φ,η,w=>wpN_mono b _ _ (fun e φ η x=>by
   cases e with
   |normal=>exact hk _ _ _ x
   |ret=>exact hk _ _ _ x
   |exit j =>
    have x:(if j=i then K .normal φ η else K (.exit j) φ η):=x
    show(if j=i then K' .normal φ η else K' (.exit j) φ η)
    by_cases h:j=i
    ·rw[if_pos h]at x ⊢;exact hk _ _ _ x
    ·rw[if_neg h]at x ⊢;exact hk _ _ _ x) φ η w
 |.loop b,K,K',hk,φ,η,w=>by
  obtain⟨m,w⟩:=w
  exact⟨m,loopW_mono (fun K K' h=>wpN_mono b K K' h) hk m m φ η (Nat.le_refl _) w⟩
def rndKN (I:Nat→FN→HN→Prop) (m:Nat) (K:Kont):Kont:=fun e φ η=>match e with|.normal=>∃m',m'<m∧I m' φ η|.exit i=>K (.exit i) φ η|.ret=>K .ret φ η
theorem wpN_loop {b:Code} {K:Kont} (I:Nat→FN→HN→Prop) (m:Nat) (h0:I m φ η) (step:∀m φ η,I m φ η→wpN P C PT b (rndKN I m K) φ η):wpN P C PT (.loop b) K φ η:=by
 have key:∀m φ η,I m φ η→loopW (wpN P C PT b) (m+1) K φ η:=by
  intro m
  induction m using Nat.strongRecOn with
  |_ m ih =>
   intro φ η hi
   refine wpN_mono b _ _ (fun e φ η x=>?_) φ η (step m φ η hi)
   cases e with
   |normal =>
    obtain⟨m',hm,hi'⟩:=x
    exact loopW_mono (fun K K' h=>wpN_mono b K K' h) (fun _ _ _ x=>x) (m'+1) m φ η hm (ih m' hm φ η hi')
   |exit i=>exact x
   |ret=>exact x
 exact⟨m+1,key m φ η h0⟩
end
noncomputable section
def argsN (l:List AV):FN:=fun t=>l.getD t und
def resL (P:Program):List ResultVar→FN→HN→Option (List AV)
 | [],_,_=>some []
 |.tmp t::r,φ,η=>match resL P r φ η with|some l=>some (φ t::l)|none=>none
 |.cell a t::r,φ,η=>match ldP (tyOf P t) (φ a) η,resL P r φ η with|.ok v _,some l=>some (v::l)|_,_=>none
def retV (l:List AV):AV:=match l with | []=>.tup [] | [a]=>a|l=>.tup l
def resK (o:Option (List AV)) (Q:AV→HN→Prop) (η:HN):Prop:=match o with|some l=>Q (retV l) η|none=>False
def retKN (P:Program) (fn:Func) (Q:AV→HN→Prop):Kont:=fun e φ η=>match e with|.exit _=>False|.normal=>resK (resL P fn.results.toList φ η) Q η|.ret=>resK (resL P fn.results.toList φ η) Q η
def fnOk (P:Program) (PT:Plans) (fn:Func):Bool:=match fn.body with
 |some c=>funcOk P fn&&(Nat.ble fn.ntmps 512&&(!(fn.name == "runtime.NumGoroutine")&&okC P fn.ntmps PT c))
 |none=>false
end
section
variable {P:Program} {nat:∀ [Deep],Nats} {PT:Plans}
theorem args0_eq [Deep]:∀(l:List AV) (i:Nat) (fr:Fr),i+l.length≤512→∃fr1,(∀k:Fr→RV,args0 l i fr k=k fr1)∧∀t,slot fr1 t=if i≤t∧t<i+l.length then l.getD (t-i) und else slot fr t
 | [],i,fr,_=>⟨fr,fun k=>rfl,fun t=>by rw[if_neg (by simp)]⟩
 |x::l,i,fr,hl=>by
  simp only[List.length_cons]at hl
  obtain⟨fr1,h1,h2⟩:=args0_eq l (i+1) (trSet 3 i fr x) (by omega)
  refine⟨fr1,fun k=>?_,fun t=>?_⟩
  ·show(trP AV RV 3 i).f fr x (fun fr=>args0 l (i+1) fr k)=_
   rw[trP_eq];exact h1 k
  ·rw[h2,slot_put (by omega)]
   simp only[List.length_cons]
   by_cases ht:t=i
   ·subst ht
    rw[if_neg (by omega),if_pos rfl,if_pos (by omega)];simp
   ·by_cases h3:i+1≤t∧t<i+1+l.length
    ·rw[if_pos h3,if_pos (by omega)]
     obtain⟨q,hq⟩:∃q,t-i=q+1:=⟨t-i-1,by omega⟩
     rw[hq,show t-(i+1)=q by omega];simp
    ·rw[if_neg h3,if_neg ht,if_neg (by omega)]
theorem resL_run {φ:FN} {η:HN}:∀{rs:List ResultVar} {l:List AV},resL P rs φ η=some l→∃k0,∀ [Deep],k0≤Deep.d→∀fr h,FrR fr φ→Rep h η→∀k:List AV→RV,(rvs P rs).f fr h k=k l
 | [],l,e=>by cases e;exact⟨0,fun _ fr h _ _ k=>rfl⟩
 |.tmp t::rs,l,e=>by
  unfold resL at e
  split at e
  ·rename_i l' e'
   cases e
   obtain⟨k0,q⟩:=resL_run e'
   refine⟨k0,fun hd fr h hf r k=>?_⟩
   show forceV (slot fr t) (fun a=>(rvs P rs).f fr h fun l=>k (a::l))=_
   rw[forceV_eq,q hd fr h hf r,hf t]
  ·cases e
 |.cell a t::rs,l,e=>by
  unfold resL at e
  split at e
  ·rename_i v η1 l' hr e'
   cases e
   obtain⟨k0,q⟩:=resL_run e'
   obtain⟨k1,q1⟩:=load_hv hr
   refine⟨max k0 k1,fun hd fr h hf r k=>?_⟩
   obtain⟨h',a1,a2⟩:=q1 (by omega) h r
   have a1:(loadA P t).f (φ a) h=.val v h':=a1
   show rvk ((loadA P t).f (slot fr a) h) (fun v _=>(rvs P rs).f fr h fun l=>k (v::l)) .fail=_
   rw[hf a,a1]
   exact q (by omega) fr h hf r _
  ·cases e
theorem call_of {f:FuncId} {fn:Func} {body:Code} {Q:AV→HN→Prop} {args:List AV} {η:HN} (hf:P.funcs[f]?=some fn) (hb:fn.body=some body) (hnat:∀ [Deep],nat f=none) (ok:fnOk P PT fn=true)
  (ha:Nat.ble args.length fn.ntmps=true) (w:wpN P (CallN P nat) PT body (retKN P fn Q) (argsN args) η):∃v η',CallN P nat f args η v η'∧Q v η':=by
 unfold fnOk at ok
 rw[hb]at ok
 obtain⟨o1,ok⟩:=Bool.and_eq_true_iff.1 ok
 obtain⟨o2,ok⟩:=Bool.and_eq_true_iff.1 ok
 obtain⟨o3,o4⟩:=Bool.and_eq_true_iff.1 ok
 have hn:=ble_true.1 o2
 have hlen:=ble_true.1 ha
 obtain⟨e,φ',η',hK,k0,q⟩:=wpN_run hn body _ _ η o4 w
 have hres:∃l,resL P fn.results.toList φ' η'=some l∧Q (retV l) η'∧(e=.normal∨e=.ret):=by
  cases e with
  |exit i=>exact(show False from hK).elim
  |normal =>
   have hK:resK (resL P fn.results.toList φ' η') Q η':=hK
   unfold resK at hK
   split at hK
   ·rename_i l e1;exact⟨l,e1,hK,.inl rfl⟩
   ·exact hK.elim
  |ret =>
   have hK:resK (resL P fn.results.toList φ' η') Q η':=hK
   unfold resK at hK
   split at hK
   ·rename_i l e1;exact⟨l,e1,hK,.inr rfl⟩
   ·exact hK.elim
 obtain⟨l,hl,hQ,he⟩:=hres
 obtain⟨k1,q1⟩:=resL_run hl
 refine⟨retV l,η',⟨max k0 k1+1,fun h1 h2 m hm h r=>?_⟩,hQ⟩
 obtain⟨m,rfl⟩:∃m',m=m'+1:=⟨m-1,by omega⟩
 show ∃h',Option.rec (motive:=fun _=>RV) ((bodyOf P f).f (callN P nat m) args h) (fun g=>g args h) (nat f)=.val (retV l) h'∧_
 rw[hnat]
 show ∃h',(bodyOf P f).f (callN P nat m) args h=.val (retV l) h'∧_
 unfold bodyOf
 rw[lget?_eq,show P.funcs.toList[f]?=some fn by rw[Array.getElem?_toList];exact hf]
 dsimp only
 rw[hb]
 dsimp only
 rw[show(fn.name == "runtime.NumGoroutine")=false by simpa using o3,ifB_false,o1,ifB_true]
 unfold entry
 rw[o2,ifB_true]
 show ∃h',ifB (Nat.ble (llen args) fn.ntmps) (args0 args 0 fr0 fun fr=>endA P fn ((evC P fn.ntmps body).f (callN P nat m) fr h)) (.fail 74)=.val (retV l) h'∧_
 rw[llen_eq,ha,ifB_true]
 obtain⟨fr1,a1,a2⟩:=args0_eq args 0 fr0 (by omega)
 rw[a1]
 have hf1:FrR fr1 (argsN args):=fun t=>by
  rw[a2]
  unfold argsN
  by_cases ht:t<args.length
  ·rw[if_pos (by omega)];rfl
  ·rw[if_neg (by omega),slot_fr0,List.getD_eq_getElem?_getD,List.getElem?_eq_none (by omega)];rfl
 obtain⟨fr2,h2',b1,b2,b3⟩:=q (by omega) (by omega) m (by omega) fr1 h hf1 r
 rw[b1]
 have fin:(resA P fn).f fr2 h2'=.val (retV l) h2':=by
  show(rvs P fn.results.toList).f fr2 h2' (fun l=>mkRes l h2')=_
  rw[q1 (by omega) fr2 h2' b2 b3]
  unfold retV
  split<;>first|rfl|skip
  rename_i h3 h4
  match l,h3,h4 with
  | [],h3,_=>exact absurd rfl h3
  | [a],_,h4=>exact absurd rfl (h4 a)
  |a::b::l,_,_=>rfl
 refine⟨h2',?_,b3⟩
 rcases he with rfl|rfl
 ·exact fin
 ·exact fin
end
section
variable {P:Program} {C:Spec} {PT:Plans} {φ:FN} {η:HN} {K:Kont}
noncomputable def fill1 (φ:FN) (pl:Nat→Option (Nat×Nat)) (r:List (Nat×Operand)) (cs:List AV) (p:Option (Nat×Nat)) (l:Option (List AV)):Option (List AV):=match p,l with
 |some (o,s),some l=>if l.length=s∧o+s≤cs.length then fillN φ pl r (setsL cs o l) else none
 |_,_=>none
noncomputable def bldZ (n s:Nat) (φ:FN) (ps:List (Nat×Operand)) (z:Option AV) (η:HN):RES:=match z with|some z=>slO n (fillN φ (fun i=>some (i*s,s)) ps (repL n (cellsA z))) η|none=>.no
noncomputable def mkSZ (y a c:Nat) (z:Option AV) (n1 n2:Bool) (η:HN):RES:=match z with
 |some z=>if n1 then(if n2 then(if a≤c∧y≠0∧c*y≤140737488355328 then .ok (.slice η.nx 0 a (.kn c)) (η.new (.live false (repL c (cellsA z)))) else .no) else .no) else .no
 |none=>.no
noncomputable def appZ (s y:Nat) (x z:AV) (w:Option AV) (η:HN):RES:=match w with|some _=>apSrcN s y x z η|none=>.no
@[go_sem] theorem op_move {x:Operand}:opR P (.move x) φ η=.ok (opd φ x) η:=rfl
@[go_sem] theorem op_assign {x:Operand}:opR P (.assign x) φ η=.ok (opd φ x) η:=rfl
@[go_sem] theorem op_pick {c a b:Operand}:opR P (.pick c a b) φ η=pickN (opd φ c) (opd φ a) (opd φ b) η:=rfl
@[go_sem] theorem op_alloc {t:TypeId}:opR P (.alloc t) φ η=newN ((zeroT P t).map cellsA) η:=rfl
@[go_sem] theorem op_box {t:TypeId} {x:Operand}:opR P (.box t x) φ η=newN (cellsV (opd φ x)) η:=rfl
@[go_sem] theorem op_build {t:TypeId} {ps:List (Nat×Operand)}:opR P (.build t ⟨ps⟩) φ η=bldN (tdOf P t) (zeroT P t) φ ps η:=rfl
@[go_sem] theorem op_buildSlice {t:TypeId} {n:Nat} {ps:List (Nat×Operand)}:opR P (.buildSlice t n ⟨ps⟩) φ η=bldS P (tdOf P t) n φ ps η:=rfl
@[go_sem] theorem op_load {t:TypeId} {x:Operand}:opR P (.load t x) φ η=ldP (tyOf P t) (opd φ x) η:=rfl
@[go_sem] theorem op_store {t:TypeId} {x v:Operand}:opR P (.store t x v) φ η=stP (tyOf P t) (opd φ x) (opd φ v) η:=rfl
@[go_sem] theorem op_nilCheck {x:Operand}:opR P (.nilCheck x) φ η=nilN (opd φ x) η:=rfl
@[go_sem] theorem op_binOp {op:BinOp} {t:TypeId} {x y:Operand} {t':TypeId}:opR P (.binOp op t x y t') φ η=okO (binN P op t (isConstO x||isConstO y) (opd φ x) (opd φ y)) η:=rfl
@[go_sem] theorem op_unOp {op:UnOp} {t:TypeId} {x:Operand}:opR P (.unOp op t x) φ η=okO (unN op (opd φ x)) η:=rfl
@[go_sem] theorem op_convert {s d:TypeId} {x:Operand} (h:@Ne Nat s d):opR P (.convert s d x) φ η=cvN' P (tdOf P s) (tdOf P d) (opd φ x) η:=by show(if s=d then _ else _)=_;rw[if_neg h]
@[go_sem] theorem op_makeFunc {fn:Fn} {a c:List Operand}:opR P (.makeFunc fn ⟨a⟩ ⟨c⟩) φ η=mkFN fn (a.map (opd φ)) (c.map (opd φ)) η:=rfl
@[go_sem] theorem op_makeSlice {t:TypeId} {l c:Operand}:opR P (.makeSlice t l c) φ η=mkSN P (tdOf P t) (opd φ l) (opd φ c) η:=rfl
@[go_sem] theorem op_slice {t:TypeId} {x:Operand} {lo hi:Option Operand}:opR P (.slice t x lo hi none) φ η=slN (tdOf P t) (opd φ x) (opdO φ lo) (opdO φ hi) none η:=by cases hi<;>rfl
@[go_sem] theorem op_fieldAddr {t:TypeId} {x:Operand} {f:Nat}:opR P (.fieldAddr t x f) φ η=fldAN (fdAt (tdOf P t) f) (opd φ x) η:=rfl
@[go_sem] theorem op_field {t:TypeId} {x:Operand} {f:Nat}:opR P (.field t x f) φ η=fldN (fdAt (tdOf P t) f) (opd φ x) η:=rfl
@[go_sem] theorem op_indexAddr {t:TypeId} {x i:Operand}:opR P (.indexAddr t x i) φ η=iaN (tdOf P t) (opd φ x) (opd φ i) η:=rfl
@[go_sem] theorem op_index {t:TypeId} {x i:Operand}:opR P (.index t x i) φ η=ixN (tdOf P t) (opd φ x) (opd φ i) η:=rfl
@[go_sem] theorem op_extract {x:Operand} {i:Nat}:opR P (.extract x i) φ η=exN (opd φ x) i η:=rfl
@[go_sem] theorem op_call {f:Operand} {as:List Operand} {ts:Array TypeId}:opR P (.call ⟨.value f,⟨as⟩,ts⟩) φ η=funN (opd φ f) (as.map (opd φ)):=rfl
@[go_sem] theorem op_len {x:Operand} {t:TypeId} {ts:List TypeId}:opR P (.call ⟨.builtin .len,⟨[x]⟩,⟨t::ts⟩⟩) φ η=lenN (tdOf P t) (opd φ x) η:=rfl
@[go_sem] theorem op_append {x y:Operand} {t t2:TypeId} {ts:List TypeId}:opR P (.call ⟨.builtin .append,⟨[x,y]⟩,⟨t::t2::ts⟩⟩) φ η=appN P (tdOf P t) (tdOf P t2) (opd φ x) (opd φ y) η:=rfl
@[go_sem] theorem op_min {x y:Operand} {t t2:TypeId} {ts:List TypeId}:opR P (.call ⟨.builtin .min,⟨[x,y]⟩,⟨t::t2::ts⟩⟩) φ η=okO (minN' (opd φ x) (opd φ y)) η:=rfl
@[go_sem] theorem opd_app_nil  : ([]:List Operand).map (opd φ)=[]:=rfl
@[go_sem] theorem opd_app {x:Operand} {l:List Operand}:(x::l).map (opd φ)=opd φ x::l.map (opd φ):=rfl
@[go_sem] theorem opdO_n  : opdO φ none=none:=rfl
@[go_sem] theorem opdO_s {x:Operand}:opdO φ (some x)=some (opd φ x):=rfl
@[go_sem] theorem fun_f {f:FuncId} {a c args:List AV}:funN (.func f a c) args=.call f (a++(args++c)):=rfl
@[go_sem] theorem okO_s {v:AV}:okO (some v) η=.ok v η:=rfl
@[go_sem] theorem cellsV_bool {b:Bool}:cellsV (.bool b)=some [.bool b]:=rfl
@[go_sem] theorem cellsA_bool {b:Bool}:cellsA (.bool b)=[.bool b]:=rfl
@[go_sem] theorem cellsV_int {k:IntKind} {n:Nat}:cellsV (.int k n)=some [.int k n]:=rfl
@[go_sem] theorem cellsA_int {k:IntKind} {n:Nat}:cellsA (.int k n)=[.int k n]:=rfl
@[go_sem] theorem cellsV_str {n v:Nat}:cellsV (.str n v)=some [.str n v]:=rfl
@[go_sem] theorem cellsA_str {n v:Nat}:cellsA (.str n v)=[.str n v]:=rfl
@[go_sem] theorem cellsA_nilslice  : cellsA (.nilslice)=[.nilslice]:=rfl
@[go_sem] theorem cellsV_slice {b o n:Nat} {c:Cp}:cellsV (.slice b o n c)=some [.slice b o n c]:=rfl
@[go_sem] theorem cellsV_agg {l:List AV}:cellsV (.agg l)=some l:=rfl
@[go_sem] theorem cellsA_agg {l:List AV}:cellsA (.agg l)=l:=rfl
@[go_sem] theorem setsL_nil {l:List AV} {i:Nat}:setsL l i []=l:=rfl
@[go_sem] theorem setsL_one {l:List AV} {i:Nat} {a:AV}:setsL l i [a]=l.set i a:=rfl
@[go_sem] theorem newN_s {l:List AV}:newN (some l) η=.ok (.ptr η.nx 0) (η.new (.live false l)):=rfl
@[go_sem] theorem ldP_ptr {s y:Nat} {agg:Bool} {b off:Nat}:ldP (some (s,y,agg)) (.ptr b off) η=ldB agg s off (η.f b) η:=rfl
@[go_sem] theorem ldB_f {s off:Nat} {ro:Bool} {l:List AV}:ldB false s off (.live ro l) η=okO l[off]? η:=rfl
@[go_sem] theorem ldB_t {s off:Nat} {ro:Bool} {l:List AV}:ldB true s off (.live ro l) η=if off+s≤l.length then .ok (.agg ((l.drop off).take s)) η else .no:=rfl
@[go_sem] theorem stP_ptr {s y:Nat} {agg:Bool} {b off:Nat} {v:AV}:stP (some (s,y,agg)) (.ptr b off) v η=stV s b off (cellsV v) (η.f b) η:=rfl
@[go_sem] theorem stV_s {s b off:Nat} {cs l:List AV}:stV s b off (some cs) (.live false l) η=if cs.length=s∧off+s≤l.length then .ok und (η.put b (.live false (setsL l off cs))) else .no:=rfl
@[go_sem] theorem nilN_p {b o:Nat}:nilN (.ptr b o) η=.ok (.ptr b o) η:=rfl
@[go_sem] theorem fdAt_s {fs:List FD} {f:Nat}:fdAt (.struct fs) f=fs[f]?:=rfl
@[go_sem] theorem fldN_s {fd:FD} {cs:List AV}:fldN (some fd) (.agg cs) η=okO (partO fd.agg fd.size cs fd.off) η:=rfl
@[go_sem] theorem fldAN_s {bl:Bool} {ty o s:Nat} {ag:Bool} {b off:Nat}:fldAN (some ⟨bl,ty,o,s,ag⟩) (.ptr b off) η=if s=0 then .no else .ok (.ptr b (off+o)) η:=rfl
@[go_sem] theorem partO_f {s:Nat} {cs:List AV} {off:Nat}:partO false s cs off=cs[off]?:=lget?_eq cs off
@[go_sem] theorem iaN_s {e s y b off len:Nat} {cp:Cp} {kd:IntKind} {a:Nat}:iaN (.slice e s y) (.slice b off len cp) (.int kd a) η=if nneg kd a then(if a<len then .ok (.ptr b (off+a*s)) η else .no) else .no:=rfl
@[go_sem] theorem ixN_s {n v:Nat} {kd:IntKind} {a:Nat}:ixN .str (.str n v) (.int kd a) η=if nneg kd a then(if a<n then .ok (.int .u8 (strAt v a)) η else .no) else .no:=rfl
@[go_sem] theorem exN_t {l:List AV} {i:Nat}:exN (.tup l) i η=okO l[i]? η:=rfl
@[go_sem] theorem bldN_s {fs:List FD} {z:AV} {ps:List (Nat×Operand)}:bldN (.struct fs) (some z) φ ps η=aggO (fillN φ (fieldPlace fs) ps (cellsA z)) η:=rfl
@[go_sem] theorem aggO_s {l:List AV}:aggO (some l) η=.ok (.agg l) η:=rfl
@[go_sem] theorem slO_s {n:Nat} {l:List AV}:slO n (some l) η=.ok (.slice η.nx 0 n (.kn n)) (η.new (.live false l)):=rfl
@[go_sem] theorem fillN_nil {pl:Nat→Option (Nat×Nat)} {cs:List AV}:fillN φ pl [] cs=some cs:=rfl
@[go_sem] theorem fillN_cons {pl:Nat→Option (Nat×Nat)} {i:Nat} {x:Operand} {r:List (Nat×Operand)} {cs:List AV}:fillN φ pl ((i,x)::r) cs=fill1 φ pl r cs (pl i) (cellsV (opd φ x)):=by show(match pl i,cellsV (opd φ x) with|some (o,s),some l=>_|_,_=>_)=_;unfold fill1;rfl
@[go_sem] theorem fill1_s {pl:Nat→Option (Nat×Nat)} {o s:Nat} {l:List AV} {r:List (Nat×Operand)} {cs:List AV}:fill1 φ pl r cs (some (o,s)) (some l)=if l.length=s∧o+s≤cs.length then fillN φ pl r (setsL cs o l) else none:=rfl
@[go_sem] theorem fieldPl {fs:List FD} {i:Nat}:fieldPlace fs i=(fs[i]?).map fun f=>(f.off,f.size):=by show Option.rec (motive:=fun _=>Option (Nat×Nat)) none (fun f=>some (f.off,f.size)) (lget? fs i)=_;rw[lget?_eq];cases fs[i]?<;>rfl
@[go_sem] theorem bldS_0 {el s y:Nat}:bldS P (.slice el s y) 0 φ [] η=.ok (.slice η.nx 0 0 (.kn 0)) (η.new (.live false [])):=by show(if 0*s=0 then _ else _)=_;rw[if_pos (Nat.zero_mul s)];rfl
@[go_sem] theorem bldS_n {el s y n:Nat} {p:Nat×Operand} {ps:List (Nat×Operand)}:bldS P (.slice el s y) n φ (p::ps) η=if n*s=0 then .no else if n*s≤16777216 then bldZ n s φ (p::ps) (zeroT P el) η else .no:=rfl
@[go_sem] theorem bldZ_s {n s:Nat} {ps:List (Nat×Operand)} {z:AV}:bldZ n s φ ps (some z) η=slO n (fillN φ (fun i=>some (i*s,s)) ps (repL n (cellsA z))) η:=rfl
@[go_sem] theorem repL_at {n:Nat} {z:AV}:repL n [z]=List.replicate n z:=by unfold repL;induction n with|zero=>rfl|succ n ih=>rw[List.replicate_succ,List.flatten_cons,ih];rfl
@[go_sem] theorem mkSN_s {el s y:Nat} {kd kd':IntKind} {a c:Nat}:mkSN P (.slice el s y) (.int kd a) (.int kd' c) η=mkSZ y a c (zeroT P el) (nneg kd a) (nneg kd' c) η:=by show(match zeroT P el with|some z=>_|none=>_)=_;unfold mkSZ;cases zeroT P el<;>rfl
@[go_sem] theorem mkSZ_s {y a c:Nat} {z:AV}:mkSZ y a c (some z) true true η=if a≤c∧y≠0∧c*y≤140737488355328 then .ok (.slice η.nx 0 a (.kn c)) (η.new (.live false (repL c (cellsA z)))) else .no:=rfl
@[go_sem] theorem bndN_n {d:Nat} {k:Nat→RES}:bndN none d k=k d:=rfl
@[go_sem] theorem bndN_s {kd:IntKind} {a d:Nat} {k:Nat→RES}:bndN (some (.int kd a)) d k=if nneg kd a then k a else .no:=rfl
@[go_sem] theorem bndsN_at {lo hi:Option AV} {len top:Nat} {k:Nat→Nat→RES}:bndsN lo hi len top k=bndN lo 0 fun l=>bndN hi len fun hh=>if l≤hh∧hh≤top then k l hh else .no:=rfl
@[go_sem] theorem slN_str {n v:Nat} {lo hi:Option AV}:slN .str (.str n v) lo hi none η=bndsN lo hi n n fun l hh=>.ok (.str (hh-l) (strCut v l (hh-l))) η:=rfl
@[go_sem] theorem slN_kn {e s y b off len c:Nat} {lo hi:Option AV}:slN (.slice e s y) (.slice b off len (.kn c)) lo hi none η=slHN lo hi b off len (.kn c) η (bndsN lo hi len c fun l hh=>slToN b off l hh c s η):=rfl
@[go_sem] theorem slHN_h {kd:IntKind} {a b off len:Nat} {cap:Cp} {r:RES}:slHN none (some (.int kd a)) b off len cap η r=if nneg kd a then(if a≤len then .ok (.slice b off a cap) η else r) else .no:=rfl
@[go_sem] theorem slN_un {e s y b off len es:Nat} {lo hi:Option AV}:slN (.slice e s y) (.slice b off len (.un es)) lo hi none η=slHN lo hi b off len (.un es) η (if es=s then bndsN lo hi len len fun l hh=>.ok (.slice b (off+l*s) (hh-l) (.un s)) η else .no):=rfl
@[go_sem] theorem lenN_str {n v:Nat}:lenN .str (.str n v) η=lenI n η:=rfl
@[go_sem] theorem lenN_nil {e s y:Nat}:lenN (.slice e s y) .nilslice η=.ok (.int .i64 0) η:=rfl
@[go_sem] theorem lenN_sl {e s y b o n:Nat} {c:Cp}:lenN (.slice e s y) (.slice b o n c) η=lenI n η:=rfl
@[go_sem] theorem lenI_at {n:Nat}:lenI n η=if n≤9223372036854775807 then .ok (.int .i64 n) η else .no:=rfl
@[go_sem] theorem rowN_at {ro:Bool} {l:List AV} {off n:Nat}:rowN (.live ro l) off n=if off+n≤l.length then some ((l.drop off).take n) else none:=rfl
@[go_sem] theorem apN_un {s y b off len es n:Nat} {new:List AV}:apN s y (.slice b off len (.un es)) n new η=if(len+n)*y≤140737488355328 then(if n=0 then .ok (.slice b off len (.un es)) η else if es=s then apUn b off len s n new (η.f b) η else .no) else .no:=rfl
theorem apKn_new {b off len s n c:Nat} {new:List AV} {x:BN} (h:c<len+n):apKn b off len s n c new x η=apNewN (len+n) s (rowN x off (len*s)) new η:=if_neg (by omega)
@[go_sem] theorem apUn_at {b off len s n:Nat} {l new:List AV}:apUn b off len s n new (.live false l) η=if off+len*s+n*s≤l.length then .ok (.slice b off (len+n) (.un s)) (η.put b (.live false (setsL l (off+len*s) new))) else if off+len*s=l.length∧new.length=n*s then .ok (.slice η.nx 0 (len+n) (.un s)) ((η.put b .none).new (.live false (l.drop off++new))) else if off+len*s≤l.length∧new.length=n*s then .ok (.slice η.nx 0 (len+n) (.un s)) ((η.put b .none).new (.live false ((l.drop off).take (len*s)++new))) else .no:=rfl
@[go_sem] theorem apRow_s {s y n:Nat} {x:AV} {l:List AV}:apRow s y x n (some l) η=apN s y x n l η:=rfl
theorem apSrc_sl {s y b off len:Nat} {x:AV} {cp:Cp}:apSrcN s y x (.slice b off len cp) η=if len=0 then apN s y x 0 [] η else apRow s y x len (rowN (η.f b) off (len*s)) η:=rfl
theorem apSrc_nil {s y:Nat} {x:AV}:apSrcN s y x .nilslice η=apN s y x 0 [] η:=rfl
@[go_sem] theorem appN_sl {el s y e2 s2 y2:Nat} {x z:AV}:appN P (.slice el s y) (.slice e2 s2 y2) x z η=if s*y=0 then .no else appZ s y x z (zeroT P el) η:=by show(if s*y=0 then RES.no else _)=_;unfold appZ;rfl
@[go_sem] theorem appZ_s {s y:Nat} {x z w:AV}:appZ s y x z (some w) η=apSrcN s y x z η:=rfl
@[go_sem] theorem cvN_int {k k' k0:IntKind} {a:Nat}:cvN' P (.int k0) (.int k') (.int k a) η=.ok (.int k' (cvtN k' k a)) η:=rfl
@[go_sem] theorem cvN_b2s {e s y b o l:Nat} {c:Cp}:cvN' P (.slice e s y) .str (.slice b o l c) η=if isU8D (tdOf P e) then strR l (rowN (η.f b) o l) η else .no:=rfl
@[go_sem] theorem isU8D_u8  : isU8D (.int .u8)=true:=rfl
@[go_sem] theorem strR_s {n:Nat} {l:List AV}:strR n (some l) η=strO n (bytesN l) η:=rfl
@[go_sem] theorem strO_s {n m:Nat}:strO n (some m) η=.ok (.str n m) η:=rfl
@[go_sem] theorem pickN_t {a b:AV}:pickN (.bool true) a b η=.ok a η:=rfl
@[go_sem] theorem pickN_f {a b:AV}:pickN (.bool false) a b η=.ok b η:=rfl
@[go_sem] theorem mkFN_f {f:FuncId} {a c:List AV}:mkFN (.func f) a c η=.ok (.func f a c) η:=rfl
@[go_sem] theorem binN_int {op:BinOp} {t:TypeId} {nl:Bool} {k k':IntKind} {a b:Nat}:binN P op t nl (.int k a) (.int k' b)=intN op k a k' b:=rfl
@[go_sem] theorem binN_str {op:BinOp} {t:TypeId} {nl:Bool} {n v m w:Nat}:binN P op t nl (.str n v) (.str m w)=strN op n v m w:=rfl
@[go_sem] theorem binN_agg {op:BinOp} {t:TypeId} {nl:Bool} {l:List AV} {y:AV}:binN P op t nl (.agg l) y=eqN P op t nl (.agg l) y:=rfl
@[go_sem] theorem intN_add {k:IntKind} {a b:Nat}:intN .add k a k b=some (.int k ((a+b)%modN k)):=by show(if keq k k then _ else _)=_;rw[(keq_iff k k).2 rfl];rfl
@[go_sem] theorem intN_sub {k:IntKind} {a b:Nat}:intN .sub k a k b=some (.int k ((a+(modN k-b))%modN k)):=by show(if keq k k then _ else _)=_;rw[(keq_iff k k).2 rfl];rfl
@[go_sem] theorem intN_mul {k:IntKind} {a b:Nat}:intN .mul k a k b=some (.int k ((a*b)%modN k)):=by show(if keq k k then _ else _)=_;rw[(keq_iff k k).2 rfl];rfl
@[go_sem] theorem intN_eql {k:IntKind} {a b:Nat}:intN .eql k a k b=some (.bool (decide (a=b))):=by show(if keq k k then _ else _)=_;rw[(keq_iff k k).2 rfl];rfl
@[go_sem] theorem intN_neq {k:IntKind} {a b:Nat}:intN .neq k a k b=some (.bool (!decide (a=b))):=by show(if keq k k then _ else _)=_;rw[(keq_iff k k).2 rfl];rfl
@[go_sem] theorem intN_lss {k:IntKind} {a b:Nat}:intN .lss k a k b=some (.bool (ltN k a b)):=by show(if keq k k then _ else _)=_;rw[(keq_iff k k).2 rfl];rfl
@[go_sem] theorem intN_leq {k:IntKind} {a b:Nat}:intN .leq k a k b=some (.bool (!ltN k b a)):=by show(if keq k k then _ else _)=_;rw[(keq_iff k k).2 rfl];rfl
@[go_sem] theorem intN_gtr {k:IntKind} {a b:Nat}:intN .gtr k a k b=some (.bool (ltN k b a)):=by show(if keq k k then _ else _)=_;rw[(keq_iff k k).2 rfl];rfl
@[go_sem] theorem intN_geq {k:IntKind} {a b:Nat}:intN .geq k a k b=some (.bool (!ltN k a b)):=by show(if keq k k then _ else _)=_;rw[(keq_iff k k).2 rfl];rfl
@[go_sem] theorem unN_not {b:Bool}:unN .not (.bool b)=some (.bool (!b)):=rfl
@[go_sem] theorem strN_eql {n v m w:Nat}:strN .eql n v m w=some (.bool (strEq n v m w)):=rfl
@[go_sem] theorem strN_neq {n v m w:Nat}:strN .neq n v m w=some (.bool (!strEq n v m w)):=rfl
@[go_sem] theorem strN_add {n v m w:Nat}:strN .add n v m w=if n+m≤9223372036854775807 then some (.str (n+m) (strCat n v w)) else none:=rfl
@[go_sem] theorem eqN_neq {t:TypeId} {nl:Bool} {x y:AV}:eqN P .neq t nl x y=if goodEq P t nl then boolO true ((eqB P t).f x y) else none:=rfl
@[go_sem] theorem boolO_t {b:Bool}:boolO true (some b)=some (.bool (!b)):=rfl
@[go_sem] theorem modN_i64  : modN .i64=18446744073709551616:=rfl
@[go_sem] theorem nnegD_i64 {a:Nat}:nneg .i64 a=decide (a<9223372036854775808):=by unfold nneg;rw[Bool.eq_iff_iff,ble_true];simp [halfN];omega
@[go_sem] theorem modN_u8  : modN .u8=256:=rfl
@[go_sem] theorem modN_u64  : modN .u64=18446744073709551616:=rfl
@[go_sem] theorem getD_0 {α:Type} {x d:α} {l:List α}:(x::l).getD 0 d=x:=rfl
@[go_sem] theorem getD_s {α:Type} {x d:α} {l:List α} {i:Nat}:(x::l).getD (i+1) d=l.getD i d:=rfl
@[go_sem] theorem wp_skip:wpN P C PT .skip K φ η=K .normal φ η:=rfl
@[go_sem] theorem wp_region {id:Nat} {ops:List Oper}:wpN P C PT (.region id ⟨ops⟩ false) K φ η=wpOps P C ops ops (K .normal) φ η:=rfl
@[go_sem] theorem wp_draw {id:Nat} {ops:List Oper}:wpN P C PT (.region id ⟨ops⟩ true) K φ η=startN P C (PT id) ops (K .normal) φ η:=rfl
@[go_sem] theorem wp_seq {a b:Code}:wpN P C PT (.seq a b) K φ η=wpN P C PT a (seqKN (wpN P C PT b K) K) φ η:=rfl
@[go_sem] theorem wp_cond {c:Operand} {a b:Code}:wpN P C PT (.cond c a b) K φ η=condN (opd φ c) (wpN P C PT a K) (wpN P C PT b K) φ η:=rfl
@[go_sem] theorem wp_block {i:Nat} {b:Code}:wpN P C PT (.block i b) K φ η=wpN P C PT b (blkKN i K) φ η:=rfl
@[go_sem] theorem wp_exit {i:Nat}:wpN P C PT (.exit i) K φ η=K (.exit i) φ η:=rfl
@[go_sem] theorem wp_ret:wpN P C PT .ret K φ η=K .ret φ η:=rfl
@[go_sem] theorem seqK_n {w:FN→HN→Prop}:seqKN w K .normal φ η=w φ η:=rfl
@[go_sem] theorem seqK_e {w:FN→HN→Prop} {i:Nat}:seqKN w K (.exit i) φ η=K (.exit i) φ η:=rfl
@[go_sem] theorem seqK_r {w:FN→HN→Prop}:seqKN w K .ret φ η=K .ret φ η:=rfl
@[go_sem] theorem blkK_n {i:Nat}:blkKN i K .normal φ η=K .normal φ η:=rfl
@[go_sem] theorem blkK_e {i j:Nat}:blkKN i K (.exit j) φ η=if j=i then K .normal φ η else K (.exit j) φ η:=rfl
@[go_sem] theorem blkK_r {i:Nat}:blkKN i K .ret φ η=K .ret φ η:=rfl
@[go_sem] theorem rndK_n {I:Nat→FN→HN→Prop} {m:Nat}:rndKN I m K .normal φ η=∃m',m'<m∧I m' φ η:=rfl
@[go_sem] theorem rndK_e {I:Nat→FN→HN→Prop} {m i:Nat}:rndKN I m K (.exit i) φ η=K (.exit i) φ η:=rfl
@[go_sem] theorem rndK_r {I:Nat→FN→HN→Prop} {m:Nat}:rndKN I m K .ret φ η=K .ret φ η:=rfl
@[go_sem] theorem condN_true {a b:FN→HN→Prop}:condN (.bool true) a b φ η=a φ η:=rfl
@[go_sem] theorem condN_false {a b:FN→HN→Prop}:condN (.bool false) a b φ η=b φ η:=rfl
@[go_sem] theorem wpOps_nil {all:List Oper} {K:FN→HN→Prop}:wpOps P C all [] K φ η=K φ η:=rfl
@[go_sem] theorem wpOps_cons {all r:List Oper} {K:FN→HN→Prop} {d:Option Nat} {op:Op} {t:TypeId} {pos:String} {af:Array Edge} :
  wpOps P C all (⟨d,op,t,pos,af,none⟩::r) K φ η=thenN C (opR P op φ η) η d (wpOps P C all r K) φ:=rfl
theorem wpOps_yes {all r:List Oper} {K:FN→HN→Prop} {d:Option Nat} {op:Op} {t:TypeId} {pos:String} {af:Array Edge} {g:Nat×Bool} (h:wantN all (some g) φ=true) :
  wpOps P C all (⟨d,op,t,pos,af,some g⟩::r) K φ η=thenN C (opR P op φ η) η d (wpOps P C all r K) φ:=by
 show(match wantN all (some g) φ with|true=>_|false=>_)=_;rw[h]
theorem wpOps_not {all r:List Oper} {K:FN→HN→Prop} {d:Option Nat} {op:Op} {t:TypeId} {pos:String} {af:Array Edge} {g:Nat×Bool} (h:wantN all (some g) φ=false) :
  wpOps P C all (⟨d,op,t,pos,af,some g⟩::r) K φ η=wpOps P C all r K (putN d und φ) η:=by
 show(match wantN all (some g) φ with|true=>_|false=>_)=_;rw[h]
@[go_sem] theorem thenN_ok {d:Option Nat} {k:FN→HN→Prop} {v:AV} {η':HN}:thenN C (.ok v η') η d k φ=k (putN d v φ) η':=rfl
@[go_sem] theorem putN_none {v:AV}:putN none v φ=φ:=rfl
@[go_sem] theorem putN_some {d:Nat} {v:AV}:putN (some d) v φ=upd φ d v:=rfl
@[go_sem] theorem upd_at {d t:Nat} {v:AV}:upd φ d v t=if t=d then v else φ t:=rfl
@[go_sem] theorem opd_tmp {t:Nat}:opd φ (.tmp t)=φ t:=rfl
@[go_sem] theorem opd_func {f:FuncId}:opd φ (.func f)=.func f [] []:=rfl
@[go_sem] theorem opd_nilsl:opd φ (.const (.slice none 0 0))=.nilslice:=rfl
@[go_sem] theorem opd_bool {b:Bool}:opd φ (.const (.bool b))=.bool b:=rfl
theorem opd_int {k:IntKind} {z:Int} {n:Nat} (h:res k z=n) (h':sgn k n=z):opd φ (.const (.int k z))=.int k n:=by
 have e:opd φ (.const (.int k z))=cvD (forceN (res k z) fun r=>(match decEq (sgn k r) z with|.isTrue _=>some (.int k r)|.isFalse _=>none)):=rfl
 rw[e,forceN_eq,h]
 cases decEq (sgn k n) z with
 |isTrue _=>rfl
 |isFalse q=>exact absurd h' q
theorem half_leN (k:IntKind):halfN k≤modN k:=by cases k<;>decide
theorem opd_ofNat {k:IntKind} {n:Nat} (h:n<halfN k):opd φ (.const (.int k (n:Int)))=.int k n:=by
 have hm:halfN k≤modN k:=half_leN k
 refine opd_int ?_ ?_
 ·show Nat.mod n (modN k)=n
  exact Nat.mod_eq_of_lt (by omega)
 ·unfold sgn nneg
  rw[ble_true.2 (show Nat.succ n≤halfN k from h)];rfl
@[go_sem] theorem opd_i64 {n:Nat} (h:(OfNat.ofNat n:Nat)<9223372036854775808):opd φ (.const (.int .i64 (no_index (OfNat.ofNat n))))=.int .i64 (OfNat.ofNat n):=opd_ofNat h
@[go_sem] theorem opd_u8 {n:Nat} (h:(OfNat.ofNat n:Nat)<256):opd φ (.const (.int .u8 (no_index (OfNat.ofNat n))))=.int .u8 (OfNat.ofNat n):=opd_ofNat h
@[go_sem] theorem opd_u64 {n:Nat} (h:(OfNat.ofNat n:Nat)<18446744073709551616):opd φ (.const (.int .u64 (no_index (OfNat.ofNat n))))=.int .u64 (OfNat.ofNat n):=opd_ofNat h
@[go_sem] theorem const_tmp {t:Nat}:isConstO (.tmp t)=false:=rfl
@[go_sem] theorem const_const {v:Value}:isConstO (.const v)=true:=rfl
@[go_sem] theorem args_at {l:List AV} {t:Nat}:argsN l t=l.getD t und:=rfl
@[go_sem] theorem retK_n {fn:Func} {Q:AV→HN→Prop}:retKN P fn Q .normal φ η=resK (resL P fn.results.toList φ η) Q η:=rfl
@[go_sem] theorem retK_r {fn:Func} {Q:AV→HN→Prop}:retKN P fn Q .ret φ η=resK (resL P fn.results.toList φ η) Q η:=rfl
@[go_sem] theorem resL_nil:resL P [] φ η=some []:=rfl
noncomputable def consO (v:AV) (o:Option (List AV)):Option (List AV):=match o with|some l=>some (v::l)|none=>none
noncomputable def consR (x:RES) (o:Option (List AV)):Option (List AV):=match x with|.ok v _=>consO v o|_=>none
@[go_sem] theorem resL_tmp {t:Nat} {r:List ResultVar}:resL P (.tmp t::r) φ η=consO (φ t) (resL P r φ η):=by show(match resL P r φ η with|some l=>_|none=>_)=_;cases resL P r φ η<;>rfl
@[go_sem] theorem resL_cell {a:Nat} {t:TypeId} {r:List ResultVar}:resL P (.cell a t::r) φ η=consR (ldP (tyOf P t) (φ a) η) (resL P r φ η):=by
 show(match ldP (tyOf P t) (φ a) η,resL P r φ η with|.ok v _,some l=>some (v::l)|_,_=>none)=_
 unfold consR consO
 cases ldP (tyOf P t) (φ a) η<;>cases resL P r φ η<;>rfl
@[go_sem] theorem consO_s {v:AV} {l:List AV}:consO v (some l)=some (v::l):=rfl
@[go_sem] theorem consR_ok {v:AV} {o:Option (List AV)}:consR (.ok v η) o=consO v o:=rfl
@[go_sem] theorem resK_s {Q:AV→HN→Prop} {l:List AV}:resK (some l) Q η=Q (retV l) η:=rfl
@[go_sem] theorem retV_0:retV []=.tup []:=rfl
@[go_sem] theorem retV_1 {a:AV}:retV [a]=a:=rfl
@[go_sem] theorem retV_2 {a b:AV} {l:List AV}:retV (a::b::l)=.tup (a::b::l):=rfl
theorem thenN_call {f:FuncId} {as:List AV} {d:Option Nat} {k:FN→HN→Prop} (h:∃v η',C f as η v η'∧k (putN d v φ) η'):thenN C (.call f as) η d k φ:=h
@[go_sem] theorem new_nx {η:HN} {y:BN}:(η.new y).nx=η.nx+1:=rfl
@[go_sem] theorem put_nx {η:HN} {b:Nat} {y:BN}:(η.put b y).nx=η.nx:=rfl
@[go_sem] theorem new_f {η:HN} {y:BN} {b:Nat}:(η.new y).f b=if b=η.nx then y else η.f b:=rfl
@[go_sem] theorem put_f {η:HN} {y:BN} {b c:Nat}:(η.put c y).f b=if b=c then y else η.f b:=rfl
@[go_sem] theorem at_f {η:HN} {n:Nat}:(η.at_ n).f=η.f:=rfl
@[go_sem] theorem at_nx {η:HN} {n:Nat}:(η.at_ n).nx=n:=rfl
end
section
variable {P:Program} {C:Spec} {all:List Oper} {K:FN→HN→Prop} {nx0:Nat} {ks:List DK} {r:List Oper} {j:Nat} {d:Option Nat} {op:Op} {t:TypeId} {pos:String} {af:Array Edge} {φ:FN} {η η':HN} {ηs:List HN} {rs:List RecN} {v:AV}
noncomputable def dA (P:Program) (C:Spec) (all:List Oper) (K:FN→HN→Prop) (nx0:Nat) (ks:List DK) (r:List Oper) (j:Nat) (d:Option Nat) (φ:FN) (η:HN) (ηs:List HN) (rs:List RecN) (x:RES):Prop:=match x with|.ok v η'=>drawN P C all K nx0 ks r (j+1) (putN d v φ) (η'.at_ η.nx) ηs rs|_=>False
noncomputable def dP (P:Program) (C:Spec) (all:List Oper) (K:FN→HN→Prop) (nx0:Nat) (ks:List DK) (r:List Oper) (j:Nat) (d:Option Nat) (φ:FN) (ηs:List HN) (rs:List RecN) (x:RES):Prop:=match x with|.ok v η'=>drawN P C all K nx0 ks r (j+1) (putN d v φ) η' ηs rs|_=>False
noncomputable def dR (P:Program) (C:Spec) (all:List Oper) (K:FN→HN→Prop) (nx0:Nat) (ks:List DK) (r:List Oper) (j:Nat) (d:Option Nat) (φ:FN) (ηs:List HN) (rs:List RecN) (op:Op) (lo hi:Nat) (x:RES):Prop:=match x with|.ok v η'=>drawN P C all K nx0 ks r (j+1) (putN d v φ) η' ηs (⟨op,φ,v,lo,hi⟩::rs)|_=>False
noncomputable def dE (P:Program) (C:Spec) (all:List Oper) (K:FN→HN→Prop) (nx0:Nat) (ks:List DK) (r:List Oper) (j:Nat) (d:Option Nat) (φ:FN) (η:HN) (ηs:List HN) (rs:List RecN) (x:RES):Prop:=match x with
 |.no=>False
 |.ok v η'=>drawN P C all K nx0 ks r (j+1) (putN d v φ) η' (η'::ηs) rs
 |.call f as=>∃v η',C f as η v η'∧drawN P C all K nx0 ks r (j+1) (putN d v φ) η' (η'::ηs) rs
noncomputable def startB (P:Program) (C:Spec) (plan:List DK) (ops:List Oper) (K:FN→HN→Prop) (φ:FN) (η:HN) (b:Bool):Prop:=match b with
 |true=>drawN P C ops K η.nx plan ops 0 φ (η.at_ (η.nx+ops.length)) [η.at_ (η.nx+ops.length)] []
 |false=>drawN P C ops K η.nx plan ops 0 φ η [η] []
@[go_sem] theorem start_no {plan:List DK} {ops:List Oper}:startN P C plan ops K φ η=startB P C plan ops K φ η (anyAl plan):=by unfold startN startB;cases anyAl plan<;>rfl
@[go_sem] theorem startB_t {plan:List DK} {ops:List Oper}:startB P C plan ops K φ η true=drawN P C ops K η.nx plan ops 0 φ (η.at_ (η.nx+ops.length)) [η.at_ (η.nx+ops.length)] []:=rfl
@[go_sem] theorem startB_f {plan:List DK} {ops:List Oper}:startB P C plan ops K φ η false=drawN P C ops K η.nx plan ops 0 φ η [η] []:=rfl
@[go_sem] theorem anyAl_nil:anyAl []=false:=rfl
@[go_sem] theorem anyAl_a {l:List DK}:anyAl (.alloc::l)=true:=rfl
@[go_sem] theorem anyAl_e {l:List DK}:anyAl (.eff::l)=anyAl l:=rfl
@[go_sem] theorem anyAl_p {l:List DK}:anyAl (.pure::l)=anyAl l:=rfl
@[go_sem] theorem anyAl_r {a b:Nat} {l:List DK}:anyAl (.read a b::l)=anyAl l:=rfl
@[go_sem] theorem draw_a:drawN P C all K nx0 (.alloc::ks) (⟨d,op,t,pos,af,none⟩::r) j φ η ηs rs=dA P C all K nx0 ks r j d φ η ηs rs (opR P op φ (η.at_ (nx0+j))):=rfl
@[go_sem] theorem draw_e:drawN P C all K nx0 (.eff::ks) (⟨d,op,t,pos,af,none⟩::r) j φ η ηs rs=dE P C all K nx0 ks r j d φ η ηs rs (opR P op φ η):=rfl
@[go_sem] theorem draw_p:drawN P C all K nx0 (.pure::ks) (⟨d,op,t,pos,af,none⟩::r) j φ η ηs rs=dP P C all K nx0 ks r j d φ ηs rs (opR P op φ η):=rfl
@[go_sem] theorem draw_r {lo hi:Nat}:drawN P C all K nx0 (.read lo hi::ks) (⟨d,op,t,pos,af,none⟩::r) j φ η ηs rs=dR P C all K nx0 ks r j d φ ηs rs op lo hi (opR P op φ η):=rfl
@[go_sem] theorem draw_end:drawN P C all K nx0 [] [] j φ η ηs rs=(sameN P ηs (ηs.length-1) rs∧K φ η):=rfl
theorem draw_yes {k:DK} {g:Nat×Bool} (h:wantN all (some g) φ=true):drawN P C all K nx0 (k::ks) (⟨d,op,t,pos,af,some g⟩::r) j φ η ηs rs=drawN P C all K nx0 (k::ks) (⟨d,op,t,pos,af,none⟩::r) j φ η ηs rs:=by
 unfold drawN;simp only[h];rfl
theorem draw_not {k:DK} {g:Nat×Bool} (h:wantN all (some g) φ=false):drawN P C all K nx0 (k::ks) (⟨d,op,t,pos,af,some g⟩::r) j φ η ηs rs=drawN P C all K nx0 ks r (j+1) (putN d und φ) η (effL k η ηs) rs:=by
 conv=>lhs;unfold drawN
 rw[h]
@[go_sem] theorem dA_ok:dA P C all K nx0 ks r j d φ η ηs rs (.ok v η')=drawN P C all K nx0 ks r (j+1) (putN d v φ) (η'.at_ η.nx) ηs rs:=rfl
@[go_sem] theorem dP_ok:dP P C all K nx0 ks r j d φ ηs rs (.ok v η')=drawN P C all K nx0 ks r (j+1) (putN d v φ) η' ηs rs:=rfl
@[go_sem] theorem dR_ok {lo hi:Nat}:dR P C all K nx0 ks r j d φ ηs rs op lo hi (.ok v η')=drawN P C all K nx0 ks r (j+1) (putN d v φ) η' ηs (⟨op,φ,v,lo,hi⟩::rs):=rfl
@[go_sem] theorem dE_ok:dE P C all K nx0 ks r j d φ η ηs rs (.ok v η')=drawN P C all K nx0 ks r (j+1) (putN d v φ) η' (η'::ηs) rs:=rfl
theorem dE_call {f:FuncId} {as:List AV} (h:∃v η',C f as η v η'∧drawN P C all K nx0 ks r (j+1) (putN d v φ) η' (η'::ηs) rs):dE P C all K nx0 ks r j d φ η ηs rs (.call f as):=h
@[go_sem] theorem same_nil {k:Nat}:sameN P ηs k []=True:=rfl
@[go_sem] theorem same_cons {k:Nat} {s:RecN}:sameN P ηs k (s::rs)=(sameInN P s ηs k∧sameN P ηs k rs):=rfl
@[go_sem] theorem sameIn_nil {k:Nat} {s:RecN}:sameInN P s [] k=True:=rfl
@[go_sem] theorem sameIn_cons {k lo hi:Nat}:sameInN P ⟨op,φ,v,lo,hi⟩ (η::ηs) k=((lo≤k→k≤hi→okV (opR P op φ η) v)∧sameInN P ⟨op,φ,v,lo,hi⟩ ηs (k-1)):=rfl
@[go_sem] theorem okV_ok {v':AV}:okV (.ok v' η) v=(v'=v):=rfl
@[go_sem] theorem at_at {a b:Nat}:(η.at_ a).at_ b=η.at_ b:=rfl
attribute [go_sem] effL
end
section
variable {P:Program} {C:Spec} {all r:List Oper} {K:FN→HN→Prop} {d:Option Nat} {op:Op} {t:TypeId} {pos:String} {af:Array Edge} {φ:FN} {η:HN} {g:Nat×Bool} {nx0 j:Nat} {k:DK} {ks:List DK} {ηs:List HN} {rs:List RecN}
noncomputable def wpG (P:Program) (C:Spec) (all:List Oper) (d:Option Nat) (op:Op) (r:List Oper) (K:FN→HN→Prop) (φ:FN) (η:HN) (b:Bool):Prop:=match b with
 |true=>thenN C (opR P op φ η) η d (wpOps P C all r K) φ
 |false=>wpOps P C all r K (putN d und φ) η
@[go_sem] theorem wpOps_g:wpOps P C all (⟨d,op,t,pos,af,some g⟩::r) K φ η=wpG P C all d op r K φ η (wantN all (some g) φ):=by
 unfold wpG;cases h:wantN all (some g) φ
 ·exact wpOps_not h
 ·exact wpOps_yes h
@[go_sem] theorem wpG_t:wpG P C all d op r K φ η true=thenN C (opR P op φ η) η d (wpOps P C all r K) φ:=rfl
@[go_sem] theorem wpG_f:wpG P C all d op r K φ η false=wpOps P C all r K (putN d und φ) η:=rfl
noncomputable def drG (P:Program) (C:Spec) (all:List Oper) (K:FN→HN→Prop) (nx0:Nat) (k:DK) (ks:List DK) (o:Oper) (r:List Oper) (j:Nat) (φ:FN) (η:HN) (ηs:List HN) (rs:List RecN) (b:Bool):Prop:=match b with
 |true=>drawN P C all K nx0 (k::ks) (o::r) j φ η ηs rs
 |false=>drawN P C all K nx0 ks r (j+1) (putN o.dst und φ) η (effL k η ηs) rs
@[go_sem] theorem draw_g:drawN P C all K nx0 (k::ks) (⟨d,op,t,pos,af,some g⟩::r) j φ η ηs rs=drG P C all K nx0 k ks ⟨d,op,t,pos,af,none⟩ r j φ η ηs rs (wantN all (some g) φ):=by
 unfold drG;cases h:wantN all (some g) φ
 ·exact draw_not h
 ·exact draw_yes h
@[go_sem] theorem drG_t {o:Oper}:drG P C all K nx0 k ks o r j φ η ηs rs true=drawN P C all K nx0 (k::ks) (o::r) j φ η ηs rs:=rfl
@[go_sem] theorem drG_f {o:Oper}:drG P C all K nx0 k ks o r j φ η ηs rs false=drawN P C all K nx0 ks r (j+1) (putN o.dst und φ) η (effL k η ηs) rs:=rfl
noncomputable def wantD (d:Option Nat) (w:Bool) (φ:FN):Bool:=match d with|some d=>asBool (φ d) (fun b=>beqB b w) false|none=>false
noncomputable def wantV (v:AV) (w:Bool):Bool:=asBool v (fun b=>beqB b w) false
@[go_sem] theorem want_at {i:Nat} {w:Bool}:wantN all (some (i,w)) φ=wantD (dstOf all i) w φ:=rfl
@[go_sem] theorem wantD_s {i:Nat} {w:Bool}:wantD (some i) w φ=wantV (φ i) w:=rfl
@[go_sem] theorem wantV_tt:wantV (.bool true) true=true:=rfl
@[go_sem] theorem wantV_tf:wantV (.bool true) false=false:=rfl
@[go_sem] theorem wantV_ft:wantV (.bool false) true=false:=rfl
@[go_sem] theorem wantV_ff:wantV (.bool false) false=true:=rfl
@[go_sem] theorem dst_z {g':Option (Nat×Bool)}:dstOf (⟨d,op,t,pos,af,g'⟩::r) (no_index 0)=d:=rfl
@[go_sem] theorem dst_s {o:Oper} {n:Nat}:dstOf (o::r) (no_index (n+1))=dstOf r n:=rfl
end
section
variable {α:Type} {a b:Nat} {x y:α}
@[go_sem ↓] theorem ite_le_t (h:a≤b):(if a≤b then x else y)=x:=if_pos h
@[go_sem] theorem ite_le_t' (h:a≤b):(if a≤b then x else y)=x:=if_pos h
@[go_sem ↓] theorem ite_lt_t (h:a<b):(if a<b then x else y)=x:=if_pos h
@[go_sem ↓] theorem ite_lt_f (h:b≤a):(if a<b then x else y)=y:=if_neg (by omega)
@[go_sem ↓] theorem ite_eq_t (h:a=b):(if a=b then x else y)=x:=if_pos h
@[go_sem ↓] theorem ite_eq_f (h:a≠b):(if a=b then x else y)=y:=if_neg h
@[go_sem] theorem ite_eq_f' (h:a≠b):(if a=b then x else y)=y:=if_neg h
@[go_sem ↓] theorem ite_and_t {c d:Nat} (h:a≤b) (h':c≤d):(if a≤b∧c≤d then x else y)=x:=if_pos ⟨h,h'⟩
@[go_sem ↓] theorem ite_eqle_t {c d:Nat} (h:a=b) (h':c≤d):(if a=b∧c≤d then x else y)=x:=if_pos ⟨h,h'⟩
@[go_sem] theorem dec_lt_t (h:a<b):decide (a<b)=true:=decide_eq_true h
@[go_sem] theorem dec_lt_f (h:b≤a):decide (a<b)=false:=decide_eq_false (by omega)
@[go_sem] theorem dec_eq_t (h:a=b):decide (a=b)=true:=decide_eq_true h
@[go_sem] theorem dec_eq_f (h:a≠b):decide (a=b)=false:=decide_eq_false h
theorem ltN_small {k:IntKind} (ha:a<halfN k) (hb:b<halfN k):ltN k a b=decide (a<b):=by
 unfold ltN nneg
 rw[ble_true.2 (show Nat.succ a≤halfN k from ha),ble_true.2 (show Nat.succ b≤halfN k from hb)]
 show Nat.blt a b=_
 rw[Bool.eq_iff_iff,decide_eq_true_eq]
 exact ble_true
@[go_sem] theorem ltN_i64 (ha:a<9223372036854775808) (hb:b<9223372036854775808):ltN .i64 a b=decide (a<b):=ltN_small ha hb
@[go_sem] theorem ltN_u64 (ha:a<18446744073709551616) (hb:b<18446744073709551616):ltN .u64 a b=decide (a<b):=ltN_small ha hb
@[go_sem] theorem ltN_u8 (ha:a<256) (hb:b<256):ltN .u8 a b=decide (a<b):=ltN_small ha hb
@[go_sem] theorem mod_64 (h:a<18446744073709551616):a%18446744073709551616=a:=Nat.mod_eq_of_lt h
@[go_sem] theorem mod_8 (h:a<256):a%256=a:=Nat.mod_eq_of_lt h
@[go_sem] theorem sub_64 (h:b≤a) (h':a<18446744073709551616):(a+(18446744073709551616-b))%18446744073709551616=a-b:=by omega
@[go_sem] theorem cvt_i64 {k':IntKind} (h:a<9223372036854775808):cvtN k' .i64 a=a%modN k':=by unfold cvtN nneg;rw[ble_true.2 (show Nat.succ a≤halfN .i64 from h)];rfl
@[go_sem] theorem cvt_u64 {k':IntKind} (h:a<18446744073709551616):cvtN k' .u64 a=a%modN k':=by unfold cvtN nneg;rw[ble_true.2 (show Nat.succ a≤halfN .u64 from h)];rfl
@[go_sem] theorem cvt_u8 {k':IntKind} (h:a<256):cvtN k' .u8 a=a%modN k':=by unfold cvtN nneg;rw[ble_true.2 (show Nat.succ a≤halfN .u8 from h)];rfl
@[go_sem] theorem okO_get {l:List AV} {η:HN} {i:Nat} (h:i<l.length):okO l[i]? η=.ok (l.getD i und) η:=by rw[List.getD_eq_getElem?_getD,List.getElem?_eq_getElem h];rfl
@[go_sem] theorem take_all {l:List AV} {n:Nat} (h:l.length≤n):l.take n=l:=List.take_of_length_le h
@[go_sem] theorem drop_0 {l:List AV}:l.drop 0=l:=rfl
@[go_sem] theorem setsL_all {l r:List AV} (h:r.length=l.length):setsL l 0 r=r:=by
 apply List.ext_getElem
 ·rw[setsL_length,h]
 ·intro i h1 h2
  have h3:i<l.length:=by rw[setsL_length]at h1;exact h1
  have e:(setsL l 0 r)[i]=(setsL l 0 r).getD i und:=by rw[List.getD_eq_getElem?_getD,List.getElem?_eq_getElem h1];rfl
  rw[e,setsL_get _ _ _ _ h3,if_pos ⟨by omega,by omega⟩,Nat.sub_zero,List.getD_eq_getElem?_getD,List.getElem?_eq_getElem h2];rfl
@[go_sem] theorem get_z {α:Type} {a:α} {l:List α}:(a::l)[(no_index 0:Nat)]?=some a:=rfl
@[go_sem] theorem get_s {α:Type} {a:α} {l:List α} {n:Nat}:(a::l)[(no_index (n+1))]?=l[n]?:=rfl
@[go_sem] theorem map_s {α β:Type} {f:α→β} {a:α}:Option.map f (some a)=some (f a):=rfl
theorem setsL_consS {x:AV}:∀(r l:List AV) (i:Nat),setsL (x::l) (i+1) r=x::setsL l i r
 | [],_,_=>rfl
 |a::r,l,i=>setsL_consS r (l.set i a) (i+1)
@[go_sem] theorem setsL_cons0 {x a:AV} {r l:List AV}:setsL (x::l) 0 (a::r)=a::setsL l 0 r:=setsL_consS r l 0
@[go_sem] theorem rep_1 {z:AV}:List.replicate 1 z=[z]:=rfl
@[go_sem] theorem rep_2 {z:AV}:List.replicate 2 z=[z,z]:=rfl
@[go_sem] theorem rep_3 {z:AV}:List.replicate 3 z=[z,z,z]:=rfl
@[go_sem] theorem take_s {α:Type} {x:α} {l:List α} {n:Nat}:(x::l).take (no_index (n+1))=x::l.take n:=rfl
@[go_sem] theorem take_z {α:Type} {l:List α}:l.take (no_index 0)=[]:=rfl
@[go_sem] theorem drop_s {α:Type} {x:α} {l:List α} {n:Nat}:(x::l).drop (no_index (n+1))=l.drop n:=rfl
@[go_sem] theorem set_z {α:Type} {x y:α} {l:List α}:(x::l).set (no_index 0) y=y::l:=rfl
@[go_sem] theorem set_s {α:Type} {x y:α} {l:List α} {n:Nat}:(x::l).set (no_index (n+1)) y=x::l.set n y:=rfl
attribute [go_sem] List.length_append List.length_set Bool.not_true Bool.not_false Bool.false_eq_true Bool.or_false Bool.or_true Bool.false_or Bool.true_or Bool.and_true Bool.and_false Bool.true_and Bool.false_and if_true if_false ite_true ite_false eq_self Nat.zero_add Nat.add_zero Nat.mul_one Nat.one_mul Nat.zero_mul Nat.mul_zero Nat.sub_zero List.length_cons List.length_nil List.nil_append List.append_nil List.cons_append true_and and_true and_self false_and and_false ne_eq not_false_eq_true not_true_eq_false implies_true forall_const true_implies false_implies List.drop_nil List.take_nil decide_true decide_false Nat.le_refl Nat.zero_le Nat.sub_self
end
end Go.Eng
namespace Go.Eng
set_option autoImplicit false
def blkIs (x:AV) (b:Nat):Prop:=match x with|.slice c _ _ _=>c=b|.ptr c _=>c=b|_=>False
def ExtB (base:Nat) (η η':HN):Prop:=η.nx≤η'.nx∧∀b,b<base→η'.f b=η.f b
theorem ExtB.refl (base:Nat) (η:HN):ExtB base η η:=⟨Nat.le_refl _,fun _ _=>rfl⟩
theorem ExtB.trans {base:Nat} {η η' η'':HN} (h:ExtB base η η') (h':ExtB base η' η''):ExtB base η η'':=⟨Nat.le_trans h.1 h'.1,fun b hb=>(h'.2 b hb).trans (h.2 b hb)⟩
theorem ExtB.mono {base base':Nat} {η η':HN} (h:ExtB base η η') (hb:base'≤base):ExtB base' η η':=⟨h.1,fun b hc=>h.2 b (by omega)⟩
theorem ExtB.new {base:Nat} {η:HN} {y:BN} (hb:base≤η.nx):ExtB base η (η.new y):=⟨Nat.le_succ _,fun b hc=>by show(if b=η.nx then _ else _)=_;rw[if_neg (by omega)]⟩
theorem ExtB.put {base c:Nat} {η:HN} {y:BN} (hc:base≤c):ExtB base η (η.put c y):=⟨Nat.le_refl _,fun b hb=>by show(if b=c then _ else _)=_;rw[if_neg (by omega)]⟩
section
variable {P:Program} {nat:∀ [Deep],Nats}
theorem callN_nat {f:FuncId} {args:List AV} {η η':HN} {v:AV} {g:∀ [Deep],List AV→H→RV} (hf:∀ [Deep],nat f=some g) (h:HV (fun h=>g args h) η v η'):CallN P nat f args η v η':=by
 obtain⟨k0,h⟩:=h
 refine⟨k0+1,fun h1 h2 m hm hh r=>?_⟩
 obtain⟨m,rfl⟩:∃m',m=m'+1:=⟨m-1,by omega⟩
 obtain⟨h',a,b⟩:=h (by omega) hh r
 refine⟨h',?_,b⟩
 show Option.rec (motive:=fun _=>RV) ((bodyOf P f).f (callN P nat m) args hh) (fun g=>g args hh) (nat f)=_
 rw[hf]
 exact a
theorem callN_true {f:FuncId} {η:HN} (hf:∀ [Deep],nat f=some trueNat):CallN P nat f [] η (.bool true) η:=callN_nat (g:=trueNat) hf (HV.pure fun _=>rfl)
end
noncomputable def startH (P:Program) (bs:List (List AV)):HN:=⟨P.globals.size+bs.length+1,fun b=>if P.globals.size≤b∧b<P.globals.size+bs.length then .live true (bs.getD (b-P.globals.size) []) else .none⟩
def renS (P:Program) (n:Nat) (x:Nat→Nat×Nat×Nat):Ren:=fun b=>if b<P.globals.size then some (b,0,(x (n+b)).2.2) else if b<P.globals.size+n then some (x (b-P.globals.size)) else if b=P.globals.size+n then some (0,0,0) else none
theorem layRo_eq [Deep]:∀(bs:List (List AV)) (h:H),h.nx+bs.length≤mostBlocks→∃h1,(∀k:H→RV,layRo bs h k=k h1)∧h1.nx=h.nx+bs.length∧∀b,b<mostBlocks→hget h1 b=if h.nx≤b∧b<h.nx+bs.length then roBlk (bs.getD (b-h.nx) []) else hget h b
 | [],h,_=>⟨h,fun k=>rfl,rfl,fun b _=>by rw[if_neg (by simp)]⟩
 |l::bs,h,hm=>by
  rw[List.length_cons]at hm
  have hm':h.nx<mostBlocks:=by omega
  obtain⟨h1,e1,e2,e3⟩:=layRo_eq bs ⟨h.nx+1,trSet Deep.d h.nx h.m (roBlk l)⟩ (by show h.nx+1+bs.length≤_;omega)
  have e2:h1.nx=h.nx+1+bs.length:=e2
  refine⟨h1,fun k=>?_,by rw[e2,List.length_cons];omega,fun b hb=>?_⟩
  ·show csets l .e 0 (fun cs=>forceN (llen l) fun n=>newB h (.live true n cs) fun _ h=>layRo bs h k)=_
   rw[csets_eq,forceN_eq,newB_eq hm',llen_eq]
   exact e1 k
  ·rw[e3 b hb]
   show(if h.nx+1≤b∧b<h.nx+1+bs.length then _ else _)=_
   rw[List.length_cons]
   by_cases c:h.nx+1≤b∧b<h.nx+1+bs.length
   ·rw[if_pos c,if_pos (by omega)]
    show roBlk (bs.getD (b-(h.nx+1)) [])=_
    obtain⟨q,hq⟩:∃q,b-h.nx=q+1:=⟨b-h.nx-1,by omega⟩
    rw[hq,show b-(h.nx+1)=q by omega];rfl
   ·rw[if_neg c]
    have hg:hget ⟨h.nx+1,trSet Deep.d h.nx h.m (roBlk l)⟩ b=if b=h.nx then roBlk l else hget h b:=trGet_set Deep.d h.nx b h.m _ hm' hb
    rw[hg]
    by_cases d:b=h.nx
    ·subst d
     rw[if_pos rfl,if_pos (by omega),Nat.sub_self];rfl
    ·rw[if_neg d,if_neg (by omega)]
theorem law_calls {P:Program} (hok:progOk P=true) {nat:∀ [Deep],Nats} (hnat:∀ [Deep],@NatsOK _ noEnv P nat) {f:FuncId} {args:List AV} {us:List Value} {bs:List (List AV)} {v:AV} {η':HN} (e:CallN P nat f args (startH P bs) v η')
  {w:World} {x:Nat→Nat×Nat×Nat} (hb:∀i l,bs[i]?=some l→@BR noEnv (renS P bs.length x) (roBlk l) (x i).1 (x i).2.1 (x i).2.2 w) (hv:@VL noEnv (renS P bs.length x) args us) :
  Calls P f ⟨us⟩ w fun e w'=>∃u ρ',e=.returned u∧@VR noEnv ρ' v u∧Kept w w':=by
 obtain⟨k0,e⟩:=e
 let D:Deep:=⟨max k0 (P.globals.size+bs.length)+1,k0⟩
 letI:Deep:=D
 letI:Env:=noEnv
 have hlt:P.globals.size+bs.length+1<mostBlocks+1:=by have:=lt_most (show P.globals.size+bs.length<max k0 (P.globals.size+bs.length)+1 by omega);omega
 obtain⟨h1,_,e2,e3⟩:=layRo_eq bs (h0 P) (by show P.globals.size+bs.length≤mostBlocks;omega)
 have e2:h1.nx=P.globals.size+bs.length:=e2
 have e4:∀b,b<mostBlocks→hget ⟨h1.nx+1,h1.m⟩ b=if P.globals.size≤b∧b<P.globals.size+bs.length then roBlk (bs.getD (b-P.globals.size) []) else .dead:=fun b hb=>by
  rw[hget_nx]
  rw[e3 b hb,hget_h0];rfl
 have r:Rep ⟨h1.nx+1,h1.m⟩ (startH P bs):=by
  refine⟨by show h1.nx+1=_;rw[e2];rfl,fun b hb=>?_⟩
  rw[e4 b hb]
  show RepB _ (if P.globals.size≤b∧b<P.globals.size+bs.length then _ else _)
  split
  ·refine⟨_,rfl,fun i hi=>?_⟩
   have hi:i<(bs.getD (b-P.globals.size) []).length:=hi
   rw[cget_csets,if_pos ⟨by omega,by omega⟩,Nat.sub_zero]
  ·trivial
 obtain⟨h',a,_⟩:=e (show k0≤max k0 (P.globals.size+bs.length)+1 by omega) (Nat.le_refl k0) k0 (Nat.le_refl k0) _ r
 have hm:P.follows .mixedOrders=true:=hok
 have mem:∀b y,renS P bs.length x b=some y→b<P.globals.size+bs.length+1∧(P.globals.size≤b∧b<P.globals.size+bs.length→y=x (b-P.globals.size)):=fun b y hy=>by
  unfold renS at hy
  split at hy
  ·exact⟨by omega,fun h=>by omega⟩
  ·split at hy
   ·cases hy;exact⟨by omega,fun _=>rfl⟩
   ·split at hy
    ·exact⟨by omega,fun h=>by omega⟩
    ·cases hy
 have nw:∀b,b<mostBlocks→¬wl (hget ⟨h1.nx+1,h1.m⟩ b):=fun b hb hw=>by
  rw[e4 b hb]at hw
  split at hw
  ·exact hw
  ·exact hw
 have hr:HR (renS P bs.length x) ⟨h1.nx+1,h1.m⟩ w:=by
  refine⟨fun b B o N hy=>?_,fun b b' B o N o' N' hy hy' l l'=>(nw b (by have:=(mem b _ hy).1;omega) l).elim,fun b y hy=>by have:=(mem b y hy).1;omega⟩
  obtain⟨q1,q2⟩:=mem b _ hy
  rw[e4 b (by omega)]
  split
  ·rename_i c
   have q2:=q2 c
   obtain⟨l,hl⟩:∃l,bs[b-P.globals.size]?=some l:=⟨_,List.getElem?_eq_getElem (by omega)⟩
   have:=hb _ l hl
   rw[←q2]at this
   rw[List.getD_eq_getElem?_getD,hl]
   exact this
  ·trivial
 have hg:GR P (renS P bs.length x):=fun g hg=>⟨_,if_pos hg⟩
 have hf:Fresh (renS P bs.length x) ⟨h1.nx+1,h1.m⟩:=⟨fun b hb=>by have hb:h1.nx+1≤b:=hb;unfold renS;rw[if_neg (by omega),if_neg (by omega),if_neg (by omega)],fun b hb hm=>by have hb:h1.nx+1≤b:=hb;rw[e4 b hm,if_neg (by omega)]⟩
 refine(callN_ok (draws_ok hm) hnat k0 f args _ v h' a _ w us hr hg hf hv).2.mono fun e' w' q=>?_
 obtain⟨u,ρ',he,hu,st⟩:=q
 exact⟨u,ρ',he,hu,st.size,fun B hB=>st.keep B hB fun b o N hy hw=>nw b (by have:=(mem b _ hy).1;omega) hw,st.still⟩
structure InSl (w:World) (u:Value) (l:List Nat) (B o N c:Nat):Prop where
 u:u=.slice (some ⟨B,o,none⟩) l.length c
 cap:l.length≤c
 cell:∃(cs:Array Value) (e:TypeId) (fz:Nat×Nat),w.heap[B]?=some (.cells cs e fz)∧cs.size=N∧o+l.length≤N∧∀i,i<l.length→cs[o+i]?=some (.int .u8 (l.getD i 0))
 wf:∀n∈l,n<256
theorem vr_nil {ρ:Ren}:@VR noEnv ρ .nilslice (.slice none 0 0):=by
 letI:Env:=noEnv
 letI:Deep:=⟨0,0⟩
 exact VR_nilslice.2 rfl
theorem vr_zero {P:Program} {n:Nat} {x:Nat→Nat×Nat×Nat} {a:Addr}:@VR noEnv (renS P n x) (.slice (P.globals.size+n) 0 0 (.kn 0)) (.slice (some a) 0 0):=by
 letI:Env:=noEnv
 letI:Deep:=⟨0,0⟩
 refine VR_slice.2 ⟨0,0,0,0,a,?_,rfl,Nat.le_refl _,.inr rfl,rfl⟩
 unfold renS
 rw[if_neg (by omega),if_neg (by omega),if_pos rfl]
end Go.Eng
namespace Go.Eng
set_option autoImplicit false
structure Lay (w:World) (bs:List (List AV)) (xs:List (Nat×Nat×Nat)):Prop where
 len:bs.length=xs.length
 br:∀i l,bs[i]?=some l→∀ρ,@BR noEnv ρ (roBlk l) (xs.getD i (0,0,0)).1 (xs.getD i (0,0,0)).2.1 (xs.getD i (0,0,0)).2.2 w
section
open Go.ChangeShapes Go.WideShapes
variable {H:Type} {enc:TypeId×Value→H} {P:Program} {w:World}
end
end Go.Eng
