/- What is proved: nothing; the document's reader of words (chapter 5) as a plain function. trees and words as they lie in a heap; what keeps them. nothing but that words are good ones; a text cut into words (chapter 4), plain. literals, as the calculus reads them. the reader only goes on. code may be cut behind so many steps. how cutting goes on, byte by byte. how the plain reader of words goes on where the words are known. how the plain cutting goes on, piece by piece. kept names and some short ones are cut as they are. how the plain reader reads declarations, equations, nodes whose words are known. in what is read all places and lengths are small. nothing; the program's check of names as a plain function. nothing; the program's clocks as plain functions. Conditions: as each theorem says. -/
import Derived.Test.YtdeejbnhlbddgaaGreatDoorWK
import Derived.Test.YtdeejbnhlbddgaaGreatDoorWN
import Derived.KernelRfl
set_option linter.unusedVariables false
set_option linter.unusedSimpArgs false
set_option linter.unusedSectionVars false
namespace Go.Plain
open Go.Eng
set_option autoImplicit false
abbrev S:=Nat×Nat
def sV (s:S):AV:=.str s.1 s.2
structure Wd where
 k:Nat
 t:S
 n:Nat
 a:Nat
def Wd.cells (w:Wd):List AV:=[.int .i64 w.k,sV w.t,.int .i64 w.n,.int .i64 w.a]
inductive Tr where
 |mk (op nm:S) (n a:Nat) (ks:List Tr)
structure Vr where
 nm:S
 kd:Nat
 on:S
 nt:Bool
 a:Nat
def Vr.cells (v:Vr):List AV:=[sV v.nm,.int .i64 v.kd,sV v.on,.bool v.nt,.int .i64 v.a]
structure Eqn where
 nm:S
 e:Tr
 a:Nat
structure Nd where
 nm:S
 ins:List Vr
 outs:List Vr
 locs:List Vr
 eqs:List Eqn
 a:Nat
structure PS where
 k:Nat
 e:Nat
 b:Nat
 parts:Nat
 names:Nat
def sNode:S:=(4,1701080942)
def sReturns:S:=(7,32491060197614962)
def sVar:S:=(3,7496054)
def sLet:S:=(3,7628140)
def sTel:S:=(3,7103860)
def sBool:S:=(4,1819242338)
def sInt:S:=(3,7630441)
def sTrue:S:=(4,1702195828)
def sFalse:S:=(5,435728179558)
def sNot:S:=(3,7630702)
def sAnd:S:=(3,6581857)
def sOr:S:=(2,29295)
def sXor:S:=(3,7499640)
def sMod:S:=(3,6582125)
def sIf:S:=(2,26217)
def sThen:S:=(4,1852139636)
def sElse:S:=(4,1702063205)
def sPre:S:=(3,6648432)
def sFby:S:=(3,7955046)
def sWhen:S:=(4,1852139639)
def sMerge:S:=(5,435527247213)
def sLe:S:=(2,15676)
def sGe:S:=(2,15678)
def sNe:S:=(2,15932)
def sArrow:S:=(2,15917)
def sLp:S:=(1,40)
def sRp:S:=(1,41)
def sColon:S:=(1,58)
def sSemi:S:=(1,59)
def sComma:S:=(1,44)
def sEq:S:=(1,61)
def sPlus:S:=(1,43)
def sMinus:S:=(1,45)
def sTimes:S:=(1,42)
def sDiv:S:=(1,47)
def sLt:S:=(1,60)
def sGt:S:=(1,62)
def sNeg:S:=(3,6776174)
def sCall:S:=(4,1819042147)
def wd (L:List Wd) (p:PS):Wd:=L.getD p.k ⟨0,(0,0),0,0⟩
def failP (L:List Wd) (er:Nat) (p:PS):PS:=if p.e=0 then{ p with e:=er,b:=(wd L p).a } else p
def isP (L:List Wd) (s:S) (p:PS):Bool:=decide (p.e=0∧((wd L p).k=2∨(wd L p).k=4)∧(wd L p).t=s)
def adv (p:PS):PS:={ p with k:=p.k+1 }
def takeP (L:List Wd) (s:S) (p:PS):PS:=if isP L s p then adv p else p
def wantP (L:List Wd) (s:S) (p:PS):PS:=if isP L s p then adv p else failP L 7 p
def nameP (L:List Wd) (p:PS):S×PS:=if p.e=0∧(wd L p).k=1 then((wd L p).t,adv p) else((0,0),failP L 7 p)
def partQ (L:List Wd) (p:PS):PS:=if p.e=0∧300≤p.parts∧p.parts<9223372036854775808 then failP L 2 p else p
def partP (L:List Wd) (p:PS):PS:={ partQ L p with parts:=(p.parts+1)%18446744073709551616 }
def E0:Tr:=.mk (0,0) (0,0) 0 0 []
structure Fns where
 arrow:PS→Tr×PS
 fby:PS→Tr×PS
 un:PS→Tr×PS
 prim:PS→Tr×PS
def inn (G:Option Fns) (p:PS):Option Fns:=if p.e=0 then G else none
def outn (L:List Wd) (G:Option Fns) (p:PS):PS:=match G with|none=>failP L 2 p|some _=>p
def goIn (L:List Wd) (G:Option Fns) (p:PS) (f:Fns→Tr×PS):Tr×PS:=match inn G p with|some F=>f F|none=>(E0,outn L G p)
def exprF (L:List Wd) (G:Option Fns) (p:PS):Tr×PS:=goIn L G p fun F=>F.arrow p
def innerF (L:List Wd) (G:Option Fns) (p:PS):Tr×PS:=goIn L G p fun F=>F.prim p
def argsF (L:List Wd) (G:Option Fns):Nat→List Tr→PS→List Tr×PS
 |0,l,p=>(l,p)
 |n+1,l,p=>if p.e=0 then(if isP L sComma (exprF L G p).2 then argsF L G n (l++[(exprF L G p).1]) (adv (exprF L G p).2) else(l++[(exprF L G p).1],(exprF L G p).2)) else(l,p)
def primQ (L:List Wd) (p:PS):PS:=if(wd L p).k=1∨(wd L p).k=3∨isP L sTrue p=true∨isP L sFalse p=true∨isP L sIf p=true∨isP L sMerge p=true then partP L p else p
def ifF (L:List Wd) (G:Option Fns) (at_:Nat) (p:PS):Tr×PS :=
 let a:=exprF L G p
 let b:=exprF L G (wantP L sThen a.2)
 let c:=exprF L G (wantP L sElse b.2)
 (.mk sIf (0,0) 0 at_ [a.1,b.1,c.1],c.2)
def mergeF (L:List Wd) (G:Option Fns) (at_:Nat) (p:PS):Tr×PS :=
 let s:=nameP L p
 let a:=innerF L G s.2
 let b:=innerF L G a.2
 (.mk sMerge s.1 0 at_ [a.1,b.1],b.2)
def callF (L:List Wd) (G:Option Fns) (at_:Nat) (nm:S) (p:PS):Tr×PS :=
 if isP L sRp p then(.mk sCall nm 0 at_ [],adv p)
 else(.mk sCall nm 0 at_ (argsF L G L.length [] p).1,wantP L sRp (argsF L G L.length [] p).2)
def varF (L:List Wd) (G:Option Fns) (at_:Nat) (p:PS):Tr×PS :=
 let s:=nameP L p
 if isP L sLp s.2 then callF L G at_ s.1 (adv s.2) else(.mk sVar s.1 0 at_ [],s.2)
def restF (L:List Wd) (G:Option Fns) (w:Wd) (p:PS):Tr×PS :=
 if p.e=0∧w.k=3 then(.mk sInt (0,0) w.n w.a [],adv p)
 else if isP L sTrue p then(.mk sBool (0,0) 1 w.a [],adv p)
 else if isP L sFalse p then(.mk sBool (0,0) 0 w.a [],adv p)
 else if isP L sIf p then ifF L G w.a (adv p)
 else if isP L sMerge p then mergeF L G w.a (adv p)
 else varF L G w.a p
def primF (L:List Wd) (G:Option Fns) (p:PS):Tr×PS :=
 if isP L sLp p then((exprF L G (adv p)).1,wantP L sRp (exprF L G (adv p)).2)
 else restF L G (wd L p) (primQ L p)
def unGo (L:List Wd) (G:Option Fns) (op:S) (p:PS):Tr×PS :=
 if(partP L p).e=0 then goIn L G (adv (partP L p)) fun F=>(.mk op (0,0) 0 (wd L p).a [(F.un (adv (partP L p))).1],(F.un (adv (partP L p))).2) else(E0,partP L p)
def unF (L:List Wd) (G:Option Fns) (p:PS):Tr×PS :=
 if isP L sNot p then unGo L G sNot p
 else if isP L sMinus p then unGo L G sNeg p
 else if isP L sPre p then unGo L G sPre p
 else primF L G p
def eatP (L:List Wd) (s:S) (p:PS):PS:=takeP L s (partP L p)
def whenS (L:List Wd) (p:PS):(Nat×S)×PS :=
 let p2:=eatP L sWhen p
 let s:=nameP L (takeP L sNot p2)
 ((if isP L sNot p2 then 0 else 1,s.1),s.2)
def whenL (L:List Wd):Nat→Tr→PS→Tr×PS
 |0,a,p=>(a,p)
 |n+1,a,p=>if isP L sWhen p then whenL L n (.mk sWhen (whenS L p).1.2 (whenS L p).1.1 (wd L p).a [a]) (whenS L p).2 else(a,p)
def whenF (L:List Wd) (G:Option Fns) (p:PS):Tr×PS:=whenL L L.length (unF L G p).1 (unF L G p).2
def fbyF (L:List Wd) (G:Option Fns) (p:PS):Tr×PS :=
 let r:=whenF L G p
 if isP L sFby r.2 then goIn L G (eatP L sFby r.2) fun F=>(.mk sFby (0,0) 0 (wd L r.2).a [r.1,(F.fby (eatP L sFby r.2)).1],(F.fby (eatP L sFby r.2)).2) else r
def opF (L:List Wd):List S→PS→Option S
 | [],_=>none
 |s::l,p=>if isP L s p then some s else opF L l p
def rowL (L:List Wd) (nx:PS→Tr×PS) (ops:List S) (once:Bool):Nat→Tr→PS→Tr×PS
 |0,a,p=>(a,p)
 |n+1,a,p=>match opF L ops p with
  |none=>(a,p)
  |some op=>if once then(.mk op (0,0) 0 (wd L p).a [a,(nx (eatP L op p)).1],(nx (eatP L op p)).2)
   else rowL L nx ops once n (.mk op (0,0) 0 (wd L p).a [a,(nx (eatP L op p)).1]) (nx (eatP L op p)).2
def opsAt:Nat→List S
 |0=>[sOr,sXor]
 |1=>[sAnd]
 |2=>[sEq,sNe,sLt,sLe,sGt,sGe]
 |3=>[sPlus,sMinus]
 |_=>[sTimes,sDiv,sMod]
def rowF (L:List Wd) (G:Option Fns):Nat→PS→Tr×PS
 |0,p=>fbyF L G p
 |n+1,p=>rowL L (rowF L G n) (opsAt (4-n)) (Nat.beq n 2) L.length (rowF L G n p).1 (rowF L G n p).2
def arrowF (L:List Wd) (G:Option Fns) (p:PS):Tr×PS :=
 let r:=rowF L G 5 p
 if isP L sArrow r.2 then goIn L G (eatP L sArrow r.2) fun F=>(.mk sArrow (0,0) 0 (wd L r.2).a [r.1,(F.arrow (eatP L sArrow r.2)).1],(F.arrow (eatP L sArrow r.2)).2) else r
def lvl (L:List Wd):Nat→Option Fns
 |0=>none
 |m+1=>some ⟨arrowF L (lvl L m),fbyF L (lvl L m),unF L (lvl L m),primF L (lvl L m)⟩
def declL (L:List Wd):Nat→List Vr→PS→(List Vr×Bool)×PS
 |0,l,p=>((l,true),p)
 |n+1,l,p=>if p.e=0 then(if(wd L p).k=1∧p.names=64 then(([],false),failP L 2 p) else
   (if isP L sComma (nameP L p).2 then declL L n (l++[⟨(nameP L p).1,0,(0,0),false,(wd L p).a⟩]) (adv { (nameP L p).2 with names:=(p.names+1)%18446744073709551616 })
    else((l++[⟨(nameP L p).1,0,(0,0),false,(wd L p).a⟩],true),{ (nameP L p).2 with names:=(p.names+1)%18446744073709551616 })))
  else((l,true),p)
def declF (L:List Wd) (p:PS):List Vr×PS :=
 let r:=declL L L.length [] p
 if r.1.2 then
  let p1:=wantP L sColon r.2
  (r.1.1.map fun v=>{ v with kd:=if isP L sBool p1 then 1 else 2 },if isP L sBool p1 then adv p1 else wantP L sInt p1)
 else([],r.2)
def declsL (L:List Wd):Nat→List Vr→PS→List Vr×PS
 |0,l,p=>(l,p)
 |n+1,l,p=>if isP L sSemi p then declsL L n (l++(declF L (adv p)).1) (declF L (adv p)).2 else(l,p)
def declsF (L:List Wd) (p:PS):List Vr×PS:=if isP L sRp p then([],p) else declsL L L.length (declF L p).1 (declF L p).2
def clockF (L:List Wd) (d:List Vr×PS):List Vr×PS :=
 if isP L sWhen d.2 then
  let s:=nameP L (takeP L sNot (adv d.2))
  (d.1.map fun v=>{ v with on:=s.1,nt:=isP L sNot (adv d.2) },s.2)
 else d
def localsL (L:List Wd):Nat→List Vr→PS→List Vr×PS
 |0,l,p=>(l,p)
 |n+1,l,p=>if p.e=0 then(let d:=clockF L (declF L p)
   if isP L sSemi d.2=true∧(wd L (adv d.2)).k=1 then localsL L n (l++d.1) (adv d.2) else(l++d.1,d.2)) else(l,p)
def localsF (L:List Wd) (p:PS):List Vr×PS:=if isP L sSemi p then([],p) else localsL L L.length [] p
def eqF (L:List Wd) (p:PS):Eqn×PS :=
 let s:=nameP L p
 let e:=exprF L (lvl L 30) { wantP L sEq s.2 with parts:=0 }
 (⟨s.1,e.1,(wd L p).a⟩,wantP L sSemi e.2)
def eqsL (L:List Wd):Nat→List Eqn→PS→List Eqn×PS
 |0,l,p=>(l,p)
 |n+1,l,p=>if p.e=0∧(wd L p).k=1 then eqsL L n (l++[(eqF L p).1]) (eqF L p).2 else(l,p)
def headF (L:List Wd) (p:PS):(S×List Vr×List Vr)×PS :=
 let s:=nameP L (wantP L sNode { p with names:=0 })
 let i:=declsF L (wantP L sLp s.2)
 let o:=declsF L (wantP L sLp (wantP L sReturns (wantP L sRp i.2)))
 ((s.1,i.1,o.1),wantP L sSemi (wantP L sRp o.2))
def varsF (L:List Wd) (p:PS):List Vr×PS :=
 if isP L sVar p then((localsF L (adv p)).1,wantP L sSemi (localsF L (adv p)).2) else([],p)
def nodeF (L:List Wd) (p:PS):Nd×PS :=
 let h:=headF L p
 let v:=varsF L h.2
 let q:=eqsL L L.length [] (wantP L sLet v.2)
 (⟨h.1.1,h.1.2.1,h.1.2.2,v.1,q.1,(wd L p).a⟩,takeP L sSemi (wantP L sTel q.2))
def nodesL (L:List Wd):Nat→List Nd→PS→List Nd×PS
 |0,l,p=>(l,p)
 |n+1,l,p=>if p.e=0∧(l.length=0∨(wd L p).k≠0) then(if l.length=32 then(l,failP L 2 p) else nodesL L n (l++[(nodeF L p).1]) (nodeF L p).2) else(l,p)
def treeF (L:List Wd):List Nd×Nat×Nat :=
 let r:=nodesL L 34 [] ⟨0,0,0,0,0⟩
 if r.2.e=0 then(r.1,0,0) else([],r.2.e,r.2.b)
end Go.Plain
namespace Go.Plain
open Go.Eng
set_option autoImplicit false
theorem strEq_S (s t:S):strEq s.1 s.2 t.1 t.2=decide (s=t):=by
 obtain⟨a,b⟩:=s
 obtain⟨c,d⟩:=t
 unfold strEq
 dsimp only
 rw[Bool.eq_iff_iff,decide_eq_true_iff,Prod.mk.injEq]
 by_cases h:a=c
 ·subst h
  rw[show Nat.beq a a=true from beq_true.2 rfl,ifB_true]
  exact⟨fun g=>⟨rfl,beq_true.1 g⟩,fun g=>beq_true.2 g.2⟩
 ·rw[show Nat.beq a c=false from beq_false.2 h,ifB_false]
  exact⟨fun g=>(Bool.noConfusion g),fun g=>absurd g.1 h⟩
def InF (F:Nat→Prop) (y:AV):Prop:=∀b,blkIs y b→F b
def KeepF (F:Nat→Prop) (η η':HN):Prop:=∀b,F b→b<η.nx→η'.f b=η.f b
theorem _root_.Go.Eng.RdR.keep {s:Nat} {F:Nat→Prop} {η η':HN} {y:AV} {ls:List (List AV)} (h:RdR s η y ls) (hF:InF F y) (hk:KeepF F η η') (hn:η.nx≤η'.nx):RdR s η' y ls:=by
 rcases h with h|⟨b,off,cap,ro,row,h1,h2,h3,h4⟩
 ·exact .inl h
 ·subst h1
  exact .inr ⟨b,off,cap,ro,row,rfl,(hk b (hF b rfl) h3).trans h2,by omega,h4⟩
mutual
def rdE (F:Nat→Prop) (η:HN):Tr→List AV→Prop
 |.mk op nm n a ks,z=>∃y,z=[sV op,sV nm,.int .i64 n,.int .i64 a,y]∧InF F y∧∃ls,RdR 5 η y ls∧rdEs F η ks ls
def rdEs (F:Nat→Prop) (η:HN):List Tr→List (List AV)→Prop
 | [],ls=>ls=[]
 |k::ks,ls=>∃l r,ls=l::r∧rdE F η k l∧rdEs F η ks r
end
mutual
theorem rdE_keep {F G:Nat→Prop} {η η':HN} (hk:KeepF F η η') (hn:η.nx≤η'.nx) (hG:∀b,F b→G b):∀(e:Tr) (z:List AV),rdE F η e z→rdE G η' e z
 |.mk op nm n a ks,z,h=>by
  unfold rdE at h ⊢
  obtain⟨y,h1,h2,ls,h3,h4⟩:=h
  exact⟨y,h1,fun b hb=>hG b (h2 b hb),ls,h3.keep h2 hk hn,rdEs_keep hk hn hG ks ls h4⟩
theorem rdEs_keep {F G:Nat→Prop} {η η':HN} (hk:KeepF F η η') (hn:η.nx≤η'.nx) (hG:∀b,F b→G b):∀(ks:List Tr) (ls:List (List AV)),rdEs F η ks ls→rdEs G η' ks ls
 | [],ls,h=>by unfold rdEs at h ⊢;exact h
 |k::ks,ls,h=>by
  unfold rdEs at h ⊢
  obtain⟨l,r,h1,h2,h3⟩:=h
  exact⟨l,r,h1,rdE_keep hk hn hG k l h2,rdEs_keep hk hn hG ks r h3⟩
end
theorem rdE_len {F:Nat→Prop} {η:HN}:∀{e:Tr} {z:List AV},rdE F η e z→z.length=5
 |.mk _ _ _ _ _,_,h=>by
  unfold rdE at h
  obtain⟨y,rfl,_⟩:=h
  rfl
theorem rdEs_len {F:Nat→Prop} {η:HN}:∀{ks:List Tr} {ls:List (List AV)},rdEs F η ks ls→ls.length=ks.length∧∀l∈ls,l.length=5
 | [],_,h=>by
  unfold rdEs at h
  subst h
  exact⟨rfl,fun _ h=>by cases h⟩
 |k::ks,_,h=>by
  unfold rdEs at h
  obtain⟨l,r,rfl,h2,h3⟩:=h
  have:=rdEs_len h3
  refine⟨by simp [this.1],fun x hx=>?_⟩
  rcases List.mem_cons.1 hx with rfl|hx
  ·exact rdE_len h2
  ·exact this.2 x hx
theorem rdEs_app {F:Nat→Prop} {η:HN}:∀{ks:List Tr} {ls:List (List AV)} {e:Tr} {z:List AV},rdEs F η ks ls→rdE F η e z→rdEs F η (ks++[e]) (ls++[z])
 | [],_,e,z,h,g=>by
  unfold rdEs at h
  subst h
  show rdEs F η [e] [z]
  unfold rdEs
  exact⟨z,[],rfl,g,by unfold rdEs;rfl⟩
 |k::ks,_,e,z,h,g=>by
  unfold rdEs at h
  obtain⟨l,r,rfl,h2,h3⟩:=h
  show rdEs F η (k::(ks++[e])) (l::(r++[z]))
  unfold rdEs
  exact⟨l,r++[z],rfl,h2,rdEs_app h3 g⟩
def rdQ (F:Nat→Prop) (η:HN) (q:Eqn) (z:List AV):Prop:=∃ze,z=[sV q.nm]++ze++[.int .i64 q.a]∧rdE F η q.e ze
def rdQs (F:Nat→Prop) (η:HN):List Eqn→List (List AV)→Prop
 | [],ls=>ls=[]
 |k::ks,ls=>∃l r,ls=l::r∧rdQ F η k l∧rdQs F η ks r
def rdN (F:Nat→Prop) (η:HN) (n:Nd) (z:List AV):Prop:=∃y1 y2 y3 y4,z=[sV n.nm,y1,y2,y3,y4,.int .i64 n.a]∧(InF F y1∧InF F y2∧InF F y3∧InF F y4) ∧
 RdR 5 η y1 (n.ins.map Vr.cells)∧RdR 5 η y2 (n.outs.map Vr.cells)∧RdR 5 η y3 (n.locs.map Vr.cells)∧∃ls,RdR 7 η y4 ls∧rdQs F η n.eqs ls
def rdNs (F:Nat→Prop) (η:HN):List Nd→List (List AV)→Prop
 | [],ls=>ls=[]
 |k::ks,ls=>∃l r,ls=l::r∧rdN F η k l∧rdNs F η ks r
theorem rdQ_keep {F G:Nat→Prop} {η η':HN} (hk:KeepF F η η') (hn:η.nx≤η'.nx) (hG:∀b,F b→G b) {q:Eqn} {z:List AV} (h:rdQ F η q z):rdQ G η' q z:=by
 obtain⟨ze,h1,h2⟩:=h
 exact⟨ze,h1,rdE_keep hk hn hG _ _ h2⟩
theorem rdQs_keep {F G:Nat→Prop} {η η':HN} (hk:KeepF F η η') (hn:η.nx≤η'.nx) (hG:∀b,F b→G b):∀{ks:List Eqn} {ls:List (List AV)},rdQs F η ks ls→rdQs G η' ks ls
 | [],_,h=>h
 |_::_,_,⟨l,r,h1,h2,h3⟩=>⟨l,r,h1,rdQ_keep hk hn hG h2,rdQs_keep hk hn hG h3⟩
theorem rdN_keep {F G:Nat→Prop} {η η':HN} (hk:KeepF F η η') (hn:η.nx≤η'.nx) (hG:∀b,F b→G b) {q:Nd} {z:List AV} (h:rdN F η q z):rdN G η' q z:=by
 obtain⟨y1,y2,y3,y4,h1,⟨a1,a2,a3,a4⟩,b1,b2,b3,ls,b4,b5⟩:=h
 exact⟨y1,y2,y3,y4,h1,⟨fun b hb=>hG b (a1 b hb),fun b hb=>hG b (a2 b hb),fun b hb=>hG b (a3 b hb),fun b hb=>hG b (a4 b hb)⟩,b1.keep a1 hk hn,b2.keep a2 hk hn,b3.keep a3 hk hn,ls,b4.keep a4 hk hn,rdQs_keep hk hn hG b5⟩
theorem rdNs_keep {F G:Nat→Prop} {η η':HN} (hk:KeepF F η η') (hn:η.nx≤η'.nx) (hG:∀b,F b→G b):∀{ks:List Nd} {ls:List (List AV)},rdNs F η ks ls→rdNs G η' ks ls
 | [],_,h=>h
 |_::_,_,⟨l,r,h1,h2,h3⟩=>⟨l,r,h1,rdN_keep hk hn hG h2,rdNs_keep hk hn hG h3⟩
theorem rdQ_len {F:Nat→Prop} {η:HN} {q:Eqn} {z:List AV} (h:rdQ F η q z):z.length=7:=by
 obtain⟨ze,rfl,h2⟩:=h
 simp [rdE_len h2]
theorem rdN_len {F:Nat→Prop} {η:HN} {q:Nd} {z:List AV} (h:rdN F η q z):z.length=6:=by
 obtain⟨y1,y2,y3,y4,rfl,_⟩:=h
 rfl
theorem rdQs_app {F:Nat→Prop} {η:HN} {e:Eqn} {z:List AV} (g:rdQ F η e z):∀{ks:List Eqn} {ls:List (List AV)},rdQs F η ks ls→rdQs F η (ks++[e]) (ls++[z])
 | [],_,h=>by
  obtain rfl:=h
  exact⟨z,[],rfl,g,rfl⟩
 |_::_,_,⟨l,r,h1,h2,h3⟩=>by subst h1;exact⟨l,r++[z],rfl,h2,rdQs_app g h3⟩
theorem rdNs_app {F:Nat→Prop} {η:HN} {e:Nd} {z:List AV} (g:rdN F η e z):∀{ks:List Nd} {ls:List (List AV)},rdNs F η ks ls→rdNs F η (ks++[e]) (ls++[z])
 | [],_,h=>by
  obtain rfl:=h
  exact⟨z,[],rfl,g,rfl⟩
 |_::_,_,⟨l,r,h1,h2,h3⟩=>by subst h1;exact⟨l,r++[z],rfl,h2,rdNs_app g h3⟩
theorem rdQs_len {F:Nat→Prop} {η:HN}:∀{ks:List Eqn} {ls:List (List AV)},rdQs F η ks ls→ls.length=ks.length∧∀l∈ls,l.length=7
 | [],_,h=>by
  obtain rfl:=h
  exact⟨rfl,fun _ h=>by cases h⟩
 |_::_,_,⟨l,r,h1,h2,h3⟩=>by
  subst h1
  have:=rdQs_len h3
  refine⟨by simp [this.1],fun x hx=>?_⟩
  rcases List.mem_cons.1 hx with rfl|hx
  ·exact rdQ_len h2
  ·exact this.2 x hx
theorem rdNs_len {F:Nat→Prop} {η:HN}:∀{ks:List Nd} {ls:List (List AV)},rdNs F η ks ls→ls.length=ks.length∧∀l∈ls,l.length=6
 | [],_,h=>by
  obtain rfl:=h
  exact⟨rfl,fun _ h=>by cases h⟩
 |_::_,_,⟨l,r,h1,h2,h3⟩=>by
  subst h1
  have:=rdNs_len h3
  refine⟨by simp [this.1],fun x hx=>?_⟩
  rcases List.mem_cons.1 hx with rfl|hx
  ·exact rdN_len h2
  ·exact this.2 x hx
def rng (lo hi:Nat):Nat→Prop:=fun b=>lo≤b∧b<hi
def ExtX (pb:Nat) (η η':HN):Prop:=η.nx≤η'.nx∧∀b,b<η.nx→b≠pb→η'.f b=η.f b
theorem ExtX.refl (pb:Nat) (η:HN):ExtX pb η η:=⟨Nat.le_refl _,fun _ _ _=>rfl⟩
theorem ExtX.trans {pb:Nat} {η η' η'':HN} (h:ExtX pb η η') (h':ExtX pb η' η''):ExtX pb η η'':=⟨Nat.le_trans h.1 h'.1,fun b hb hc=>(h'.2 b (by have:=h.1;omega) hc).trans (h.2 b hb hc)⟩
theorem ExtX.new {pb:Nat} {η η':HN} {y:BN} (h:ExtX pb η η'):ExtX pb η (η'.new y):=⟨by have:=h.1;show _≤η'.nx+1;omega,fun b hb hc=>by have:=h.1;rw[←h.2 b hb hc];show(if b=η'.nx then _ else _)=_;rw[if_neg (by omega)]⟩
theorem ExtX.put {pb:Nat} {η η':HN} {y:BN} (h:ExtX pb η η'):ExtX pb η (η'.put pb y):=⟨h.1,fun b hb hc=>by rw[←h.2 b hb hc];show(if b=pb then _ else _)=_;rw[if_neg hc]⟩
theorem ExtX.putN {pb c:Nat} {η η':HN} {y:BN} (h:ExtX pb η η') (hc:η.nx≤c):ExtX pb η (η'.put c y):=⟨h.1,fun b hb hd=>by rw[←h.2 b hb hd];show(if b=c then _ else _)=_;rw[if_neg (by omega)]⟩
theorem ExtX.of {pb:Nat} {η η' η'':HN} (h:ExtX pb η η') (e:ExtB η'.nx η' η''):ExtX pb η η'':=⟨Nat.le_trans h.1 e.1,fun b hb hc=>(e.2 b (by have:=h.1;omega)).trans (h.2 b hb hc)⟩
def Good (L:List Wd):Prop:=0<L.length∧L.length≤16385∧(L.getD (L.length-1) ⟨0,(0,0),0,0⟩).k=0∧∀w∈L,w.k<5∧w.n<18446744073709551616∧w.a≤16384
structure PA (η:HN) (pb:Nat) (y:AV) (L:List Wd) (d:Nat) (p:PS):Prop where
 hb:η.f pb=.live false [y,.int .i64 p.k,.int .i64 p.e,.int .i64 p.b,.int .i64 d,.int .i64 p.parts,.int .i64 p.names]
 hn:pb<η.nx
 hy:RdR 4 η y (L.map Wd.cells)
 hp:¬blkIs y pb
 g:Good L
 k:p.k<L.length
 e:p.e<8
 b:p.b≤16384
 q:p.parts<18446744073709551616
 n:p.names<18446744073709551616
theorem PA.ext {η η':HN} {pb:Nat} {y:AV} {L:List Wd} {d:Nat} {p:PS} (h:PA η pb y L d p) (x:ExtX pb η η') (hb:η'.f pb=η.f pb):PA η' pb y L d p :=
 ⟨hb.trans h.hb,by have:=x.1;have:=h.hn;omega,RdR.keep (F:=fun b=>b≠pb) h.hy (fun b hb e=>h.hp (e▸hb)) (fun b hb hc=>x.2 b hc hb) x.1,h.hp,h.g,h.k,h.e,h.b,h.q,h.n⟩
theorem PA.put {η η':HN} {pb:Nat} {y:AV} {L:List Wd} {d d':Nat} {p p':PS} (h:PA η pb y L d p) (x:ExtX pb η η')
  (hb:η'.f pb=.live false [y,.int .i64 p'.k,.int .i64 p'.e,.int .i64 p'.b,.int .i64 d',.int .i64 p'.parts,.int .i64 p'.names])
  (k:p'.k<L.length) (e:p'.e<8) (b:p'.b≤16384) (q:p'.parts<18446744073709551616) (n:p'.names<18446744073709551616):PA η' pb y L d' p' :=
 ⟨hb,by have:=x.1;have:=h.hn;omega,RdR.keep (F:=fun b=>b≠pb) h.hy (fun b hb e=>h.hp (e▸hb)) (fun b hb hc=>x.2 b hc hb) x.1,h.hp,h.g,k,e,b,q,n⟩
theorem wd_mem {L:List Wd} {p:PS} (h:p.k<L.length):wd L p∈L:=by
 unfold wd
 rw[List.getD_eq_getElem?_getD,List.getElem?_eq_getElem h]
 exact List.getElem_mem h
theorem wd_at {L:List Wd} {p:PS} (h:p.k<L.length):L[p.k]=wd L p:=by
 unfold wd
 rw[List.getD_eq_getElem?_getD,List.getElem?_eq_getElem h];rfl
theorem adv_lt {L:List Wd} {p:PS} (g:Good L) (h:p.k<L.length) (hk:(wd L p).k≠0):p.k+1<L.length:=by
 rcases Nat.lt_or_ge (p.k+1) L.length with h1|h1
 ·exact h1
 ·refine absurd ?_ hk
  have:p.k=L.length-1:=by omega
  unfold wd
  rw[this]
  exact g.2.2.1
theorem isP_kind {L:List Wd} {s:S} {p:PS} (h:isP L s p=true):p.e=0∧((wd L p).k=2∨(wd L p).k=4)∧(wd L p).t=s:=of_decide_eq_true h
section
variable {η:HN} {pb:Nat} {y:AV} {L:List Wd} {d:Nat} {p:PS}
theorem PA.row (h:PA η pb y L d p):∃b off cap ro row,y=.slice b off L.length cap∧η.f b=.live ro row∧b<η.nx∧b≠pb∧off+p.k*4+4≤row.length∧(row.drop (off+p.k*4)).take 4=(wd L p).cells:=by
 obtain⟨b,off,cap,ro,row,h1,h2,h3,h4,h5⟩:=RdR.at h.hy (i:=p.k) (by simpa using h.k)
 rw[List.length_map]at h1
 refine⟨b,off,cap,ro,row,h1,h2,h3,fun e=>h.hp (by rw[h1,e];rfl),h4,?_⟩
 rw[h5,List.getElem_map,wd_at h.k]
theorem PA.fresh (h:PA η pb y L d p) {c:Nat} (hc:η.nx≤c):¬blkIs y c:=by
 obtain⟨b,off,cap,ro,row,rfl,_,h3,_⟩:=h.row
 intro e
 have:b=c:=e
 omega
theorem PA.extB {η':HN} (h:PA η pb y L d p) (x:ExtB η.nx η η'):PA η' pb y L d p:=h.ext ((ExtX.refl pb η).of x) (x.2 pb h.hn)
theorem PA.new {z:BN} (h:PA η pb y L d p):PA (η.new z) pb y L d p:=h.extB (.new (Nat.le_refl _))
theorem PA.putc {c:Nat} {z:BN} (h:PA η pb y L d p) (hc:c≠pb) (hy:¬blkIs y c):PA (η.put c z) pb y L d p :=
 ⟨(by show(if pb=c then _ else _)=_;rw[if_neg (fun e=>hc e.symm)];exact h.hb),h.hn,RdR.keep (F:=fun b=>b≠c) h.hy (fun b hb e=>hy (e▸hb)) (fun b hb _=>by show(if b=c then _ else _)=_;rw[if_neg hb]) (Nat.le_refl _),h.hp,h.g,h.k,h.e,h.b,h.q,h.n⟩
theorem PA.setd {d':Nat} (h:PA η pb y L d p):PA (η.put pb (.live false [y,.int .i64 p.k,.int .i64 p.e,.int .i64 p.b,.int .i64 d',.int .i64 p.parts,.int .i64 p.names])) pb y L d' p:=h.put (ExtX.refl pb η).put (if_pos rfl) h.k h.e h.b h.q h.n
end
end Go.Plain
namespace Go.Plain
open Go.Eng
set_option autoImplicit false
noncomputable section
abbrev By:=List UInt8
def sS (l:By):S:=(l.length,codesL l)
def whiteB (c:UInt8):Bool:=decide (c.toNat=32∨c.toNat=9∨c.toNat=10∨c.toNat=13)
def letterB (c:UInt8):Bool:=decide (97≤c.toNat∧c.toNat≤122)
def digitB (c:UInt8):Bool:=decide (48≤c.toNat∧c.toNat≤57)
def nameB (c:UInt8):Bool:=letterB c||digitB c||decide (c.toNat=95)
def notNl (c:UInt8):Bool:=decide (c.toNat≠10)
def spanL (ok:UInt8→Bool):By→Nat
 | []=>0
 |c::r=>if ok c then spanL ok r+1 else 0
def keptL:List S:=[sNode,sReturns,sVar,sLet,sTel,sBool,sInt,sTrue,sFalse,sNot,sAnd,sOr,sXor,sMod,sIf,sThen,sElse,sPre,sFby,sWhen,sMerge]
def keptS (s:S):Bool:=keptL.any fun x=>decide (x=s)
def valL:Nat→By→Nat
 |v,[]=>v
 |v,c::r=>valL (10*v+(c.toNat-48)) r
def twosL:List S:=[sLe,sGe,sNe,sArrow]
def onesL:List Nat:=[40,41,58,59,44,61,43,45,42,47,60,62]
def signL:By→Nat
 | []=>0
 | [c]=>if onesL.any fun x=>decide (x=c.toNat) then 1 else 0
 |c::d::_=>if twosL.any fun x=>decide (x=sS [c,d]) then 2 else if onesL.any fun x=>decide (x=c.toNat) then 1 else 0
def numOk (s:By):Bool:=decide (¬(1<s.length∧s.head?=some 48)∧s.length≤19∧valL 0 s<9223372036854775808)
def wordL (r:By):Option (Nat×Nat×Nat):=match r with
 | []=>none
 |c::_ =>
  if letterB c then(if spanL nameB r≤24 then some (if keptS (sS (r.take (spanL nameB r))) then 2 else 1,spanL nameB r,0) else none)
  else if digitB c then(if numOk (r.take (spanL digitB r)) then some (3,spanL digitB r,valL 0 (r.take (spanL digitB r))) else none)
  else if signL r=0 then none else some (4,signL r,0)
def endW (a:Nat):Wd:=⟨0,(0,0),0,a⟩
def remB (c:UInt8) (r:By):Bool:=decide (c.toNat=45∧(r.head?.map UInt8.toNat)=some 45)
def cutR:Nat→Nat→By→List Wd→List Wd×Nat×Nat
 |0,a,_,l=>(l++[endW a],0,0)
 |_+1,a,[],l=>(l++[endW a],0,0)
 |f+1,a,c::r,l =>
  if whiteB c then cutR f (a+1) r l
  else if remB c r then cutR f (a+spanL notNl (c::r)) ((c::r).drop (spanL notNl (c::r))) l
  else match wordL (c::r) with
   |none=>([],7,a)
   |some (k,n,v)=>cutR f (a+n) ((c::r).drop n) (l++[⟨k,sS ((c::r).take n),v,a⟩])
def cutF (t:By):List Wd×Nat×Nat:=if 16384<t.length then([],2,t.length) else cutR t.length 0 t []
def parseF (t:By):List Nd×Nat×Nat:=if(cutF t).2.1=0 then treeF (cutF t).1 else([],(cutF t).2)
theorem spanL_le (ok:UInt8→Bool):∀r:By,spanL ok r≤r.length
 | []=>Nat.le_refl _
 |c::r=>by
  unfold spanL
  split
  ·have:=spanL_le ok r
   rw[List.length_cons];omega
  ·exact Nat.zero_le _
theorem spanL_pos {ok:UInt8→Bool} {c:UInt8} {r:By} (h:ok c=true):0<spanL ok (c::r):=by
 unfold spanL
 rw[if_pos h];omega
theorem signL_le:∀r:By,signL r≤r.length
 | []=>Nat.le_refl _
 | [c]=>by
  show(if onesL.any (fun x=>decide (x=c.toNat)) then 1 else 0)≤1
  split<;>omega
 |c::d::r=>by
  show(if twosL.any (fun x=>decide (x=sS [c,d])) then 2 else if onesL.any (fun x=>decide (x=c.toNat)) then 1 else 0)≤r.length+1+1
  split
  ·omega
  ·split<;>omega
theorem wordL_ok {r:By} {k n v:Nat} (h:wordL r=some (k,n,v)):0<n∧n≤r.length∧k<5∧k≠0∧v<9223372036854775808:=by
 unfold wordL at h
 split at h
 ·cases h
 ·rename_i c r'
  split at h
  ·rename_i hc
   split at h
   ·cases h
    refine⟨spanL_pos (by simp [nameB,hc]),spanL_le _ _,?_,?_,by omega⟩<;>split<;>omega
   ·cases h
  ·split at h
   ·rename_i hc
    split at h
    ·rename_i hn
     cases h
     exact⟨spanL_pos hc,spanL_le _ _,by omega,by omega,(of_decide_eq_true hn).2.2⟩
    ·cases h
   ·split at h
    ·cases h
    ·cases h
     exact⟨by omega,signL_le _,by omega,by omega,by omega⟩
theorem cutR_good:∀(f a:Nat) (r:By) (l:List Wd),r.length≤f→a+r.length≤16384→l.length≤a→(∀w∈l,w.k<5∧w.n<18446744073709551616∧w.a≤16384)→(cutR f a r l).2.1=0→Good (cutR f a r l).1
 |f,a,[],l,_,h1,h2,h3,_=>by
  have e:cutR f a [] l=(l++[endW a],0,0):=by cases f<;>rfl
  rw[e]
  simp only[List.length_nil]at h1
  refine⟨by simp,by simp;omega,?_,fun w hw=>?_⟩
  ·rw[List.getD_eq_getElem?_getD]
   simp [endW]
  ·rcases List.mem_append.1 hw with hw|hw
   ·exact h3 w hw
   ·rw[List.mem_singleton.1 hw]
    exact⟨by show 0<5;omega,by show 0<18446744073709551616;omega,by show a≤_;omega⟩
 |0,a,c::r,l,h0,_,_,_,_=>by simp at h0
 |f+1,a,c::r,l,h0,h1,h2,h3,h4=>by
  simp only[List.length_cons]at h0 h1
  unfold cutR at h4 ⊢
  by_cases hw:whiteB c=true
  ·rw[if_pos hw]at h4 ⊢
   exact cutR_good f _ r l (by omega) (by omega) (by omega) h3 h4
  rw[if_neg hw]at h4 ⊢
  by_cases hr:remB c r=true
  ·rw[if_pos hr]at h4 ⊢
   have hc:notNl c=true:=by
    have:=(of_decide_eq_true hr).1
    exact decide_eq_true (by omega)
   have p1:=spanL_pos (ok:=notNl) (r:=r) hc
   have p2:=spanL_le notNl (c::r)
   simp only[List.length_cons]at p2
   exact cutR_good f _ _ l (by simp only[List.length_drop,List.length_cons];omega) (by simp only[List.length_drop,List.length_cons];omega) (by omega) h3 h4
  rw[if_neg hr]at h4 ⊢
  cases e:wordL (c::r) with
  |none =>
   rw[e]at h4
   cases h4
  |some t =>
   obtain⟨k,n,v⟩:=t
   rw[e]at h4
   obtain⟨p1,p2,p3,p4,p5⟩:=wordL_ok e
   simp only[List.length_cons]at p2
   refine cutR_good f _ _ _ (by simp only[List.length_drop,List.length_cons];omega) (by simp only[List.length_drop,List.length_cons];omega) (by simp;omega) (fun w hw=>?_) h4
   rcases List.mem_append.1 hw with hw|hw
   ·exact h3 w hw
   ·rw[List.mem_singleton.1 hw]
    exact⟨p3,by show v<18446744073709551616;omega,by show a≤_;omega⟩
theorem cutF_good {t:By} (h:(cutF t).2.1=0):Good (cutF t).1:=by
 unfold cutF at h ⊢
 split at h
 ·cases h
 ·rename_i hl
  rw[if_neg hl]
  exact cutR_good _ _ _ _ (Nat.le_refl _) (by omega) (Nat.le_refl _) (fun _ h=>by cases h) h
end
end Go.Plain
namespace Go.Plain
open Go.Eng
set_option autoImplicit false
set_option maxRecDepth 100000
variable {φ:FN}
@[go_sem] theorem opd_lit0:opd φ (.const (.string ⟨#[110,111,100,101]⟩))=.str 4 1701080942:=rfl
@[go_sem] theorem opd_lit1:opd φ (.const (.string ⟨#[114,101,116,117,114,110,115]⟩))=.str 7 32491060197614962:=rfl
@[go_sem] theorem opd_lit2:opd φ (.const (.string ⟨#[118,97,114]⟩))=.str 3 7496054:=rfl
@[go_sem] theorem opd_lit3:opd φ (.const (.string ⟨#[108,101,116]⟩))=.str 3 7628140:=rfl
@[go_sem] theorem opd_lit4:opd φ (.const (.string ⟨#[116,101,108]⟩))=.str 3 7103860:=rfl
@[go_sem] theorem opd_lit5:opd φ (.const (.string ⟨#[98,111,111,108]⟩))=.str 4 1819242338:=rfl
@[go_sem] theorem opd_lit6:opd φ (.const (.string ⟨#[105,110,116]⟩))=.str 3 7630441:=rfl
@[go_sem] theorem opd_lit7:opd φ (.const (.string ⟨#[116,114,117,101]⟩))=.str 4 1702195828:=rfl
@[go_sem] theorem opd_lit8:opd φ (.const (.string ⟨#[102,97,108,115,101]⟩))=.str 5 435728179558:=rfl
@[go_sem] theorem opd_lit9:opd φ (.const (.string ⟨#[110,111,116]⟩))=.str 3 7630702:=rfl
@[go_sem] theorem opd_lit10:opd φ (.const (.string ⟨#[97,110,100]⟩))=.str 3 6581857:=rfl
@[go_sem] theorem opd_lit11:opd φ (.const (.string ⟨#[111,114]⟩))=.str 2 29295:=rfl
@[go_sem] theorem opd_lit12:opd φ (.const (.string ⟨#[120,111,114]⟩))=.str 3 7499640:=rfl
@[go_sem] theorem opd_lit13:opd φ (.const (.string ⟨#[109,111,100]⟩))=.str 3 6582125:=rfl
@[go_sem] theorem opd_lit14:opd φ (.const (.string ⟨#[105,102]⟩))=.str 2 26217:=rfl
@[go_sem] theorem opd_lit15:opd φ (.const (.string ⟨#[116,104,101,110]⟩))=.str 4 1852139636:=rfl
@[go_sem] theorem opd_lit16:opd φ (.const (.string ⟨#[101,108,115,101]⟩))=.str 4 1702063205:=rfl
@[go_sem] theorem opd_lit17:opd φ (.const (.string ⟨#[112,114,101]⟩))=.str 3 6648432:=rfl
@[go_sem] theorem opd_lit18:opd φ (.const (.string ⟨#[102,98,121]⟩))=.str 3 7955046:=rfl
@[go_sem] theorem opd_lit19:opd φ (.const (.string ⟨#[119,104,101,110]⟩))=.str 4 1852139639:=rfl
@[go_sem] theorem opd_lit20:opd φ (.const (.string ⟨#[109,101,114,103,101]⟩))=.str 5 435527247213:=rfl
@[go_sem] theorem opd_lit21:opd φ (.const (.string ⟨#[60,61]⟩))=.str 2 15676:=rfl
@[go_sem] theorem opd_lit22:opd φ (.const (.string ⟨#[62,61]⟩))=.str 2 15678:=rfl
@[go_sem] theorem opd_lit23:opd φ (.const (.string ⟨#[60,62]⟩))=.str 2 15932:=rfl
@[go_sem] theorem opd_lit24:opd φ (.const (.string ⟨#[45,62]⟩))=.str 2 15917:=rfl
@[go_sem] theorem opd_lit25:opd φ (.const (.string ⟨#[40]⟩))=.str 1 40:=rfl
@[go_sem] theorem opd_lit26:opd φ (.const (.string ⟨#[41]⟩))=.str 1 41:=rfl
@[go_sem] theorem opd_lit27:opd φ (.const (.string ⟨#[58]⟩))=.str 1 58:=rfl
@[go_sem] theorem opd_lit28:opd φ (.const (.string ⟨#[59]⟩))=.str 1 59:=rfl
@[go_sem] theorem opd_lit29:opd φ (.const (.string ⟨#[44]⟩))=.str 1 44:=rfl
@[go_sem] theorem opd_lit30:opd φ (.const (.string ⟨#[61]⟩))=.str 1 61:=rfl
@[go_sem] theorem opd_lit31:opd φ (.const (.string ⟨#[43]⟩))=.str 1 43:=rfl
@[go_sem] theorem opd_lit32:opd φ (.const (.string ⟨#[45]⟩))=.str 1 45:=rfl
@[go_sem] theorem opd_lit33:opd φ (.const (.string ⟨#[42]⟩))=.str 1 42:=rfl
@[go_sem] theorem opd_lit34:opd φ (.const (.string ⟨#[47]⟩))=.str 1 47:=rfl
@[go_sem] theorem opd_lit35:opd φ (.const (.string ⟨#[60]⟩))=.str 1 60:=rfl
@[go_sem] theorem opd_lit36:opd φ (.const (.string ⟨#[62]⟩))=.str 1 62:=rfl
@[go_sem] theorem opd_lit37:opd φ (.const (.string ⟨#[110,101,103]⟩))=.str 3 6776174:=rfl
@[go_sem] theorem opd_lit38:opd φ (.const (.string ⟨#[99,97,108,108]⟩))=.str 4 1819042147:=rfl
@[go_sem] theorem opd_lit39:opd φ (.const (.string ⟨#[]⟩))=.str 0 0:=rfl
@[go_sem] theorem opd_lit40:opd φ (.const (.string ⟨#[40,41,58,59,44,61,43,45,42,47,60,62]⟩))=.str 12 19260828887342980396431845672:=rfl
theorem repL_z {l:List AV}:repL (no_index 0) l=[]:=rfl
theorem repL_s {n:Nat} {l:List AV}:repL (no_index (n+1)) l=l++repL n l:=rfl
theorem setsL_c {l r:List AV} {i:Nat} {a:AV}:setsL l i (a::r)=setsL (l.set i a) (i+1) r:=rfl
@[go_sem] theorem new_put {η:HN} {w w':BN}:(η.new w).put η.nx w'=η.new w':=by
 show HN.mk _ _=HN.mk _ _
 congr 1
 funext b
 show(if b=η.nx then w' else if b=η.nx then w else η.f b)=if b=η.nx then w' else η.f b
 split<;>rfl
@[go_sem] theorem rep_21 {z:AV}:List.replicate 21 z=[z,z,z,z,z,z,z,z,z,z,z,z,z,z,z,z,z,z,z,z,z]:=rfl
theorem set_mid {s:Nat} (A B:List (List AV)) (x:List AV) (j:Nat) (v:AV) (hA:∀l∈A,l.length=s) (hj:j<x.length):((A++x::B).flatten).set (A.length*s+j) v=(A++x.set j v::B).flatten:=by
 have e:A.flatten.length=A.length*s:=flat_len A hA
 rw[List.flatten_append,List.flatten_append,List.flatten_cons,List.flatten_cons,List.set_append_right _ _ (by omega),e,Nat.add_sub_cancel_left,List.set_append_left _ _ hj]
theorem vr_rows (l:List Vr):∀r∈l.map Vr.cells,r.length=5:=fun r hr=>by
 obtain⟨v,_,rfl⟩:=List.mem_map.1 hr
 rfl
end Go.Plain
namespace Go.Plain
open Go.Eng
set_option autoImplicit false
def LeP (p q:PS):Prop:=q.e=0→p.e=0∧p.k≤q.k
variable {L:List Wd} {p q r:PS}
theorem LeP.refl (p:PS):LeP p p:=fun h=>⟨h,Nat.le_refl _⟩
theorem LeP.trans (h:LeP p q) (g:LeP q r):LeP p r:=fun e=>by
 obtain⟨e1,k1⟩:=g e
 obtain⟨e2,k2⟩:=h e1
 exact⟨e2,Nat.le_trans k2 k1⟩
theorem failP_le {er:Nat} (he:er≠0):LeP p (failP L er p):=by
 unfold failP
 split
 ·exact fun h=>absurd h he
 ·exact .refl _
theorem adv_le:LeP p (adv p):=fun h=>⟨h,Nat.le_succ _⟩
theorem takeP_le {s:S}:LeP p (takeP L s p):=by
 unfold takeP
 split
 ·exact adv_le
 ·exact .refl _
theorem wantP_le {s:S}:LeP p (wantP L s p):=by
 unfold wantP
 split
 ·exact adv_le
 ·exact failP_le (by decide)
theorem nameP_le:LeP p (nameP L p).2:=by
 unfold nameP
 split
 ·exact adv_le
 ·exact failP_le (by decide)
theorem partQ_le:LeP p (partQ L p):=by
 unfold partQ
 split
 ·exact failP_le (by decide)
 ·exact .refl _
theorem partP_le:LeP p (partP L p):=fun h=>partQ_le (L:=L) (p:=p) h
theorem eatP_le {s:S}:LeP p (eatP L s p):=partP_le.trans takeP_le
theorem partP_k:(partP L p).k=p.k:=by
 unfold partP partQ failP
 split<;>(try split)<;>rfl
theorem isP_part {s:S} (h:isP L s p=true) (e:(partP L p).e=0):isP L s (partP L p)=true:=by
 obtain⟨_,h2,h3⟩:=isP_kind h
 refine decide_eq_true ⟨e,?_⟩
 unfold wd at h2 h3 ⊢
 rw[partP_k]
 exact⟨h2,h3⟩
theorem eatP_k {s:S} (h:isP L s p=true) (e:(eatP L s p).e=0):(eatP L s p).k=p.k+1:=by
 have e1:(partP L p).e=0:=(takeP_le e).1
 have e2:=isP_part h e1
 unfold eatP takeP
 rw[if_pos e2]
 show(partP L p).k+1=_
 rw[partP_k]
theorem whenS_le:LeP p (whenS L p).2:=(eatP_le.trans takeP_le).trans nameP_le
theorem whenS_k (h:isP L sWhen p=true) (e:(whenS L p).2.e=0):p.k+1≤(whenS L p).2.k:=by
 have h1:=(takeP_le (L:=L) (s:=sNot)).trans nameP_le (p:=eatP L sWhen p) e
 have h2:=eatP_k h h1.1
 have:=h1.2
 show p.k+1≤(nameP L (takeP L sNot (eatP L sWhen p))).2.k
 omega
theorem whenL_stop {a:Tr} (h:isP L sWhen p=false):∀n,whenL L n a p=(a,p)
 |0=>rfl
 |n+1=>by
  unfold whenL
  rw[h];rfl
theorem argsF_bad {G:Option Fns} {l:List Tr} (h:p.e≠0):∀n,argsF L G n l p=(l,p)
 |0=>rfl
 |n+1=>by
  unfold argsF
  rw[if_neg h]
theorem primQ_k:(primQ L p).k=p.k:=by
 unfold primQ
 split
 ·exact partP_k
 ·rfl
theorem isP_bad {s:S} (h:p.e≠0):isP L s p=false:=decide_eq_false (fun q=>h q.1)
theorem nameP_names:(nameP L p).2.names=p.names:=by
 unfold nameP failP
 split
 ·rfl
 ·split<;>rfl
theorem declL_bad {l:List Vr} (h:p.e≠0):∀n,declL L n l p=((l,true),p)
 |0=>rfl
 |n+1=>by
  unfold declL
  rw[if_neg h]
theorem declsL_stop {l:List Vr} (h:isP L sSemi p=false):∀n,declsL L n l p=(l,p)
 |0=>rfl
 |n+1=>by
  unfold declsL
  rw[h];rfl
theorem localsL_bad {l:List Vr} (h:p.e≠0):∀n,localsL L n l p=(l,p)
 |0=>rfl
 |n+1=>by
  unfold localsL
  rw[if_neg h]
theorem eqsL_stop {l:List Eqn} (h:¬(p.e=0∧(wd L p).k=1)):∀n,eqsL L n l p=(l,p)
 |0=>rfl
 |n+1=>by
  unfold eqsL
  rw[if_neg h]
theorem nameP_k (h:(nameP L p).2.e=0):(nameP L p).2.k=p.k+1:=by
 revert h
 unfold nameP
 split
 ·exact fun _=>rfl
 ·rename_i g
  intro h
  have:(failP L 7 p).e=0:=h
  unfold failP at this
  split at this
  ·cases this
  ·rename_i g2;exact absurd this g2
def GoOn {α:Type} (φ:PS→α×PS):Prop:=∀p,LeP p (φ p).2
theorem setN_le {n:Nat}:LeP p { p with names:=n }:=fun h=>⟨h,Nat.le_refl _⟩
theorem declL_le:∀(n:Nat) (l:List Vr) (p:PS),LeP p (declL L n l p).2
 |0,_,_=>.refl _
 |n+1,l,p=>by
  unfold declL
  split
  ·split
   ·exact failP_le (by decide)
   ·split
    ·exact(nameP_le.trans setN_le).trans (adv_le.trans (declL_le n _ _))
    ·exact nameP_le.trans setN_le
  ·exact .refl _
theorem declF_le:GoOn (declF L):=fun p=>by
 unfold declF
 dsimp only
 split
 ·split
  ·exact((declL_le _ _ p).trans wantP_le).trans adv_le
  ·exact((declL_le _ _ p).trans wantP_le).trans wantP_le
 ·exact declL_le _ _ p
theorem clockF_le {d:List Vr×PS}:LeP d.2 (clockF L d).2:=by
 unfold clockF
 split
 ·exact(adv_le.trans takeP_le).trans nameP_le
 ·exact .refl _
theorem setQ_le {n:Nat}:LeP p { p with parts:=n }:=fun h=>⟨h,Nat.le_refl _⟩
def FnLe (φ:PS→Tr×PS):Prop:=∀p,LeP p (φ p).2
def FnsLe (G:Option Fns):Prop:=match G with|none=>True|some F=>FnLe F.arrow∧FnLe F.fby∧FnLe F.un∧FnLe F.prim
theorem outn_le {G:Option Fns}:LeP p (outn L G p):=by
 unfold outn
 cases G with
 |none=>exact failP_le (by decide)
 |some F=>exact .refl _
theorem goIn_le {G:Option Fns} {f:Fns→Tr×PS} {p0:PS} (h0:LeP p0 p) (h:∀F,G=some F→LeP p (f F).2):LeP p0 (goIn L G p f).2:=by
 unfold goIn inn
 split
 ·rename_i F hF
  split at hF
  ·exact h0.trans (h F hF)
  ·cases hF
 ·exact h0.trans outn_le
theorem exprF_le {G:Option Fns} (g:FnsLe G):FnLe (exprF L G):=fun p=>goIn_le (.refl _) fun F e=>by subst e;exact g.1 p
theorem innerF_le {G:Option Fns} (g:FnsLe G):FnLe (innerF L G):=fun p=>goIn_le (.refl _) fun F e=>by subst e;exact g.2.2.2 p
theorem argsF_le {G:Option Fns} (g:FnsLe G):∀(n:Nat) (l:List Tr) (p:PS),LeP p (argsF L G n l p).2
 |0,_,_=>.refl _
 |n+1,l,p=>by
  unfold argsF
  split
  ·split
   ·exact((exprF_le g p).trans adv_le).trans (argsF_le g n _ _)
   ·exact exprF_le g p
  ·exact .refl _
theorem primQ_le:LeP p (primQ L p):=by
 unfold primQ
 split
 ·exact partP_le
 ·exact .refl _
theorem restF_le {G:Option Fns} {w:Wd} (g:FnsLe G):LeP p (restF L G w p).2:=by
 unfold restF
 split
 ·exact adv_le
 split
 ·exact adv_le
 split
 ·exact adv_le
 split
 ·exact((((adv_le.trans (exprF_le g _)).trans wantP_le).trans (exprF_le g _)).trans wantP_le).trans (exprF_le g _)
 split
 ·exact((adv_le.trans nameP_le).trans (innerF_le g _)).trans (innerF_le g _)
 ·unfold varF
  dsimp only
  split
  ·unfold callF
   split
   ·exact(nameP_le.trans adv_le).trans adv_le
   ·exact((nameP_le.trans adv_le).trans (argsF_le g _ _ _)).trans wantP_le
  ·exact nameP_le
theorem primF_le {G:Option Fns} (g:FnsLe G):FnLe (primF L G):=fun p=>by
 unfold primF
 split
 ·exact(adv_le.trans (exprF_le g _)).trans wantP_le
 ·exact primQ_le.trans (restF_le g)
theorem unGo_le {G:Option Fns} {op:S} (g:FnsLe G):LeP p (unGo L G op p).2:=by
 unfold unGo
 split
 ·exact goIn_le (partP_le.trans adv_le) fun F e=>by subst e;exact g.2.2.1 _
 ·exact partP_le
theorem unF_le {G:Option Fns} (g:FnsLe G):FnLe (unF L G):=fun p=>by
 unfold unF
 split
 ·exact unGo_le g
 split
 ·exact unGo_le g
 split
 ·exact unGo_le g
 ·exact primF_le g p
theorem whenL_le:∀(n:Nat) (a:Tr) (p:PS),LeP p (whenL L n a p).2
 |0,_,_=>.refl _
 |n+1,a,p=>by
  unfold whenL
  split
  ·exact whenS_le.trans (whenL_le n _ _)
  ·exact .refl _
theorem whenF_le {G:Option Fns} (g:FnsLe G):FnLe (whenF L G):=fun p=>(unF_le g p).trans (whenL_le _ _ _)
theorem fbyF_le {G:Option Fns} (g:FnsLe G):FnLe (fbyF L G):=fun p=>by
 unfold fbyF
 dsimp only
 split
 ·exact goIn_le ((whenF_le g p).trans eatP_le) fun F e=>by subst e;exact g.2.1 _
 ·exact whenF_le g p
theorem rowL_le {nx:PS→Tr×PS} {ops:List S} {once:Bool} (hx:FnLe nx):∀(n:Nat) (a:Tr) (p:PS),LeP p (rowL L nx ops once n a p).2
 |0,_,_=>.refl _
 |n+1,a,p=>by
  unfold rowL
  split
  ·exact .refl _
  ·split
   ·exact eatP_le.trans (hx _)
   ·exact(eatP_le.trans (hx _)).trans (rowL_le hx n _ _)
theorem rowF_le {G:Option Fns} (g:FnsLe G):∀n:Nat,FnLe (rowF L G n)
 |0=>fun p=>fbyF_le g p
 |n+1=>fun p=>(rowF_le g n p).trans (rowL_le (rowF_le g n) _ _ _)
theorem arrowF_le {G:Option Fns} (g:FnsLe G):FnLe (arrowF L G):=fun p=>by
 unfold arrowF
 dsimp only
 split
 ·exact goIn_le ((rowF_le g 5 p).trans eatP_le) fun F e=>by subst e;exact g.1 _
 ·exact rowF_le g 5 p
theorem lvl_le:∀m:Nat,FnsLe (lvl L m)
 |0=>trivial
 |m+1=>⟨arrowF_le (lvl_le m),fbyF_le (lvl_le m),unF_le (lvl_le m),primF_le (lvl_le m)⟩
theorem eqF_k (h:(eqF L p).2.e=0):p.k+1≤(eqF L p).2.k:=by
 have h1:LeP (nameP L p).2 (eqF L p).2:=by
  unfold eqF
  dsimp only
  exact((wantP_le.trans setQ_le).trans (exprF_le (lvl_le 30) _)).trans wantP_le
 have h2:=h1 h
 have h3:=nameP_k h2.1
 omega
theorem opF_some {ops:List S} {s:S} (h:opF L ops p=some s):s∈ops∧isP L s p=true:=by
 induction ops with
 |nil=>cases h
 |cons a l ih =>
  unfold opF at h
  split at h
  ·rename_i e
   cases h
   exact⟨List.mem_cons_self,e⟩
  ·exact⟨List.mem_cons_of_mem _ (ih h).1,(ih h).2⟩
theorem isP_one {s t:S} (h:isP L s p=true) (g:isP L t p=true):s=t:=(isP_kind h).2.2.symm.trans (isP_kind g).2.2
theorem opF_snoc (s:S):∀l:List S,opF L (l++[s]) p=match opF L l p with|some t=>some t|none=>if isP L s p then some s else none
 | []=>by
  show(if isP L s p=true then some s else none)=_
  rfl
 |a::l=>by
  show(if isP L a p=true then some a else opF L (l++[s]) p)=match (if isP L a p=true then some a else opF L l p) with|some t=>some t|none=>_
  by_cases h:isP L a p=true
  ·rw[if_pos h,if_pos h]
  ·rw[if_neg h,if_neg h]
   exact opF_snoc s l
def opAcc (L:List Wd) (ops:List S) (p:PS) (i:Nat):S:=(opF L (ops.take i) p).getD (0,0)
theorem opAcc_s {ops:List S} {i:Nat} (hi:i<ops.length):opAcc L ops p (i+1)=if isP L (ops.getD i (0,0)) p then ops.getD i (0,0) else opAcc L ops p i:=by
 have e:ops.take (i+1)=ops.take i++[ops.getD i (0,0)]:=by
  rw[List.take_add_one,List.getD_eq_getElem?_getD,List.getElem?_eq_getElem hi];rfl
 unfold opAcc
 rw[e,opF_snoc]
 cases h:opF L (ops.take i) p with
 |none =>
  dsimp only
  split<;>rfl
 |some t =>
  dsimp only
  split
  ·rename_i g
   exact(isP_one (opF_some h).2 g)
  ·rfl
theorem opAcc_all {ops:List S}:opAcc L ops p ops.length=(opF L ops p).getD (0,0):=by
 unfold opAcc
 rw[List.take_length]
theorem strs_get:∀(O:List S) (i:Nat),i<O.length→(O.map sV).getD i und=.str (O.getD i (0,0)).1 (O.getD i (0,0)).2
 | [],_,h=>by simp at h
 |a::l,0,_=>rfl
 |a::l,i+1,h=>strs_get l i (by simpa using h)
end Go.Plain
namespace Go.Eng
set_option autoImplicit false
section
variable {P:Program} {C:Spec} {PT:Plans} {K:Kont} {φ:FN} {η:HN}
noncomputable def wpCut (P:Program) (C:Spec) (PT:Plans):Nat→Code→(FN→HN→Prop)→Kont→FN→HN→Prop
 |0,_,M,_=>M
 |n+1,.seq a t,M,K=>wpN P C PT a (seqKN (wpCut P C PT n t M K) K)
 |_+1,_,_,_=>fun _ _=>False
def tailC:Nat→Code→Code
 |0,c=>c
 |n+1,.seq _ t=>tailC n t
 |_+1,c=>c
@[go_sem] theorem wpCut_z {c:Code} {M:FN→HN→Prop}:wpCut P C PT (no_index 0) c M K φ η=M φ η:=by cases c<;>rfl
@[go_sem] theorem wpCut_s {n:Nat} {a t:Code} {M:FN→HN→Prop}:wpCut P C PT (no_index (n+1)) (.seq a t) M K φ η=wpN P C PT a (seqKN (wpCut P C PT n t M K) K) φ η:=rfl
@[go_sem] theorem tailC_z {c:Code}:tailC (no_index 0) c=c:=by cases c<;>rfl
@[go_sem] theorem tailC_s {n:Nat} {a t:Code}:tailC (no_index (n+1)) (.seq a t)=tailC n t:=rfl
theorem wp_cut {M:FN→HN→Prop}:∀(n:Nat) (c:Code) (φ:FN) (η:HN),(∀φ η,M φ η→wpN P C PT (tailC n c) K φ η)→wpCut P C PT n c M K φ η→wpN P C PT c K φ η
 |0,c,φ,η,hM,h=>by
  have e:tailC 0 c=c:=by cases c<;>rfl
  rw[e]at hM
  have h:M φ η:=by
   have:wpCut P C PT 0 c M K φ η=M φ η:=by cases c<;>rfl
   rw[this]at h;exact h
  exact hM _ _ h
 |n+1,.seq a t,φ,η,hM,h=>by
  refine wpN_mono a _ _ (fun e φ η q=>?_) φ η h
  cases e with
  |normal=>exact wp_cut n t φ η hM q
  |exit i=>exact q
  |ret=>exact q
 |n+1,.skip,φ,η,_,h=>h.elim
 |n+1,.region _ _ _,φ,η,_,h=>h.elim
 |n+1,.cond _ _ _,φ,η,_,h=>h.elim
 |n+1,.block _ _,φ,η,_,h=>h.elim
 |n+1,.loop _,φ,η,_,h=>h.elim
 |n+1,.exit _,φ,η,_,h=>h.elim
 |n+1,.ret,φ,η,_,h=>h.elim
end
end Go.Eng
namespace Go.Plain
open Go.Eng
set_option autoImplicit false
theorem valL_app:∀(l:By) (v:Nat) (c:UInt8),valL v (l++[c])=10*valL v l+(c.toNat-48)
 | [],v,c=>rfl
 |a::l,v,c=>valL_app l _ c
theorem valL_lt:∀(l:By) (v:Nat),(∀c∈l,digitB c=true)→valL v l<(v+1)*10 ^ l.length
 | [],v,_=>by show v<(v+1)*1;omega
 |a::l,v,h=>by
  have h1:=of_decide_eq_true (h a List.mem_cons_self)
  have:=valL_lt l (10*v+(a.toNat-48)) (fun c hc=>h c (List.mem_cons_of_mem _ hc))
  refine Nat.lt_of_lt_of_le this ?_
  rw[List.length_cons,Nat.pow_succ,Nat.mul_comm (10 ^ l.length) 10,←Nat.mul_assoc]
  exact Nat.mul_le_mul_right _ (by omega)
theorem take_snoc {l:By} {i:Nat} (h:i<l.length):l.take (i+1)=l.take i++[l[i]]:=List.take_succ_eq_append_getElem h
theorem spanL_drop {ok:UInt8→Bool} {l:By} {n:Nat} (h:n<l.length) (hc:ok l[n]=true):spanL ok (l.drop n)=spanL ok (l.drop (n+1))+1:=by
 rw[List.drop_eq_getElem_cons h]
 show(if ok l[n] then _ else _)=_
 rw[if_pos hc]
theorem spanL_end {ok:UInt8→Bool} {l:By} {n:Nat} (h:n<l.length) (hc:ok l[n]=false):spanL ok (l.drop n)=0:=by
 rw[List.drop_eq_getElem_cons h]
 show(if ok l[n] then _ else _)=_
 rw[hc];rfl
theorem spanL_nil {ok:UInt8→Bool} {l:By} {n:Nat} (h:l.length≤n):spanL ok (l.drop n)=0:=by
 rw[List.drop_eq_nil_of_le h];rfl
theorem spanL_all (ok:UInt8→Bool):∀(l:By),∀c∈l.take (spanL ok l),ok c=true
 | [],c,h=>by simp [spanL]at h
 |a::l,c,h=>by
  unfold spanL at h
  by_cases ha:ok a=true
  ·rw[if_pos ha,List.take_succ_cons]at h
   rcases List.mem_cons.1 h with rfl|h
   ·exact ha
   ·exact spanL_all ok l c h
  ·rw[if_neg ha]at h
   simp at h
theorem any_pos {l:List S} {p:S→Bool} {i:Nat} (h:i<l.length) (h1:p (l.getD i (0,0))=true):l.any p=true:=by
 rw[List.any_eq_true]
 refine⟨l.getD i (0,0),?_,h1⟩
 rw[List.getD_eq_getElem?_getD,List.getElem?_eq_getElem h]
 exact List.getElem_mem h
theorem any_neg {l:List S} {p:S→Bool} (h:∀i,i<l.length→p (l.getD i (0,0))=false):l.any p=false:=by
 rw[List.any_eq_false]
 intro x hx
 obtain⟨i,hi,rfl⟩:=List.getElem_of_mem hx
 have:=h i hi
 rw[List.getD_eq_getElem?_getD,List.getElem?_eq_getElem hi]at this
 rw[show p l[i]=false from this];decide
theorem anyN_pos {l:List Nat} {p:Nat→Bool} {i:Nat} (h:i<l.length) (h1:p (l.getD i 0)=true):l.any p=true:=by
 rw[List.any_eq_true]
 refine⟨l.getD i 0,?_,h1⟩
 rw[List.getD_eq_getElem?_getD,List.getElem?_eq_getElem h]
 exact List.getElem_mem h
theorem anyN_neg {l:List Nat} {p:Nat→Bool} (h:∀i,i<l.length→p (l.getD i 0)=false):l.any p=false:=by
 rw[List.any_eq_false]
 intro x hx
 obtain⟨i,hi,rfl⟩:=List.getElem_of_mem hx
 have:=h i hi
 rw[List.getD_eq_getElem?_getD,List.getElem?_eq_getElem hi]at this
 rw[show p l[i]=false from this];decide
theorem ones_at:∀i,i<12→strAt 19260828887342980396431845672 i=onesL.getD i 0:=by decide
theorem strAt_by {l:By} {i:Nat} (h:i<l.length):strAt (codesL l) i=l[i].toNat:=strAt_eq l i h
theorem strCut_by (l:By) (i n:Nat):strCut (codesL l) i n=codesL ((l.drop i).take n):=strCut_eq l i n
end Go.Plain
namespace Go.Plain
open Go.Eng
set_option autoImplicit false
variable {L:List Wd} {k q n a v:Nat} {s t:S} {G:Option Fns}
section
variable {p p':PS} {e:Tr}
end
end Go.Plain
namespace Go.Plain
open Go.Eng
set_option autoImplicit false
set_option maxRecDepth 100000
noncomputable def cutT (a:Nat) (r:By) (l:List Wd):List Wd×Nat×Nat:=cutR r.length a r l
theorem cutS {a a':Nat} {c:UInt8} {r:By} {l:List Wd} (hw:whiteB c=true) (ha:a+1=a'):cutT a (c::r) l=cutT a' r l:=by
 subst ha
 unfold cutT
 show cutR (r.length+1) a (c::r) l=_
 conv=>lhs;unfold cutR
 rw[if_pos hw]
structure IsWd (x:By) (k:Nat) (t:S):Prop where
 hd:∃c y,x=c::y∧letterB c=true
 all:∀c∈x,nameB c=true
 kept:(if keptS (sS x) then 2 else 1)=k
 tx:sS x=t
 len:x.length≤24
structure IsNm (x:By):Prop where
 hd:∃c y,x=c::y∧letterB c=true
 all:∀c∈x,nameB c=true
 kept:keptS (sS x)=false
 len:x.length≤24
end Go.Plain
namespace Go.Plain
open Go.Eng
set_option autoImplicit false
set_option maxRecDepth 100000
end Go.Plain
namespace Go.Plain
open Go.Eng
set_option autoImplicit false
variable {L:List Wd} {k q n a v:Nat} {s t:S} {G:Option Fns}
end Go.Plain
namespace Go.Plain
open Go.Eng
set_option autoImplicit false
mutual
def okE:Tr→Prop
 |.mk _ _ _ a ks=>a≤16384∧ks.length≤1073741824∧okEs ks
def okEs:List Tr→Prop
 | []=>True
 |k::ks=>okE k∧okEs ks
end
def okV (v:Vr):Prop:=v.a≤16384∧v.kd≤2
def okVs (l:List Vr):Prop:=l.length≤1073741824∧∀v∈l,okV v
def okQ (q:Eqn):Prop:=q.a≤16384∧okE q.e
def okN (n:Nd):Prop:=n.a≤16384∧okVs n.ins∧okVs n.outs∧okVs n.locs∧n.eqs.length≤1073741824∧∀q∈n.eqs,okQ q
def okL (l:List Nd):Prop:=l.length≤64∧∀n∈l,okN n
theorem okEs_iff:∀ks:List Tr,okEs ks↔∀k∈ks,okE k
 | []=>⟨fun _ _ h=>(by cases h),fun _=>by unfold okEs;trivial⟩
 |k::ks=>by
  unfold okEs
  rw[okEs_iff ks]
  exact⟨fun h x hx=>by rcases List.mem_cons.1 hx with rfl|hx;exact h.1;exact h.2 x hx,fun h=>⟨h k List.mem_cons_self,fun x hx=>h x (List.mem_cons_of_mem _ hx)⟩⟩
theorem okEs_app {ks:List Tr} {e:Tr} (h:okEs ks) (g:okE e):okEs (ks++[e]):=(okEs_iff _).2 fun k hk=>by
 rcases List.mem_append.1 hk with hk|hk
 ·exact(okEs_iff _).1 h k hk
 ·rw[List.mem_singleton.1 hk];exact g
theorem okE_0 {op nm:S} {n a:Nat} (h:a≤16384):okE (.mk op nm n a []):=by unfold okE okEs;exact⟨h,by simp,trivial⟩
theorem okE_1 {op nm:S} {n a:Nat} {x:Tr} (h:a≤16384) (hx:okE x):okE (.mk op nm n a [x]):=by unfold okE okEs okEs;exact⟨h,by simp,hx,trivial⟩
theorem okE_2 {op nm:S} {n a:Nat} {x y:Tr} (h:a≤16384) (hx:okE x) (hy:okE y):okE (.mk op nm n a [x,y]):=by unfold okE okEs okEs okEs;exact⟨h,by simp,hx,hy,trivial⟩
theorem okE_3 {op nm:S} {n a:Nat} {x y z:Tr} (h:a≤16384) (hx:okE x) (hy:okE y) (hz:okE z):okE (.mk op nm n a [x,y,z]):=by unfold okE okEs okEs okEs okEs;exact⟨h,by simp,hx,hy,hz,trivial⟩
variable {L:List Wd} {p:PS}
theorem wd_small (g:Good L) (p:PS):(wd L p).a≤16384:=by
 unfold wd
 rw[List.getD_eq_getElem?_getD]
 by_cases h:p.k<L.length
 ·rw[List.getElem?_eq_getElem h]
  exact(g.2.2.2 _ (List.getElem_mem h)).2.2
 ·rw[List.getElem?_eq_none (by omega)]
  exact Nat.zero_le _
def FnOk (φ:PS→Tr×PS):Prop:=∀p,okE (φ p).1
def FnsOk (G:Option Fns):Prop:=match G with|none=>True|some F=>FnOk F.arrow∧FnOk F.fby∧FnOk F.un∧FnOk F.prim
theorem ok_E0:okE E0:=okE_0 (Nat.zero_le _)
theorem goIn_ok {G:Option Fns} {f:Fns→Tr×PS} (h:∀F,G=some F→okE (f F).1):okE (goIn L G p f).1:=by
 unfold goIn inn
 split
 ·rename_i F hF
  split at hF
  ·exact h F hF
  ·cases hF
 ·exact ok_E0
theorem exprF_ok {G:Option Fns} (g:FnsOk G):FnOk (exprF L G):=fun p=>goIn_ok fun F e=>by subst e;exact g.1 p
theorem innerF_ok {G:Option Fns} (g:FnsOk G):FnOk (innerF L G):=fun p=>goIn_ok fun F e=>by subst e;exact g.2.2.2 p
theorem argsF_ok {G:Option Fns} (g:FnsOk G):∀(n:Nat) (l:List Tr) (p:PS),okEs l→okEs (argsF L G n l p).1∧(argsF L G n l p).1.length≤l.length+n
 |0,l,p,h=>⟨h,Nat.le_refl _⟩
 |n+1,l,p,h=>by
  unfold argsF
  split
  ·split
   ·obtain⟨h1,h2⟩:=argsF_ok g n (l++[(exprF L G p).1]) (adv (exprF L G p).2) (okEs_app h (exprF_ok g p))
    refine⟨h1,Nat.le_trans h2 ?_⟩
    rw[List.length_append];simp only[List.length_cons,List.length_nil];omega
   ·exact⟨okEs_app h (exprF_ok g p),by rw[List.length_append];simp only[List.length_cons,List.length_nil];omega⟩
  ·exact⟨h,Nat.le_add_right _ _⟩
theorem restF_ok (gl:Good L) {G:Option Fns} {w:Wd} (hw:w.a≤16384) (g:FnsOk G):okE (restF L G w p).1:=by
 unfold restF
 split
 ·exact okE_0 hw
 split
 ·exact okE_0 hw
 split
 ·exact okE_0 hw
 split
 ·exact okE_3 hw (exprF_ok g _) (exprF_ok g _) (exprF_ok g _)
 split
 ·exact okE_2 hw (innerF_ok g _) (innerF_ok g _)
 ·unfold varF
  dsimp only
  split
  ·unfold callF
   split
   ·exact okE_0 hw
   ·obtain⟨h1,h2⟩:=argsF_ok (L:=L) g L.length [] (adv (nameP L p).2) (by unfold okEs;trivial)
    unfold okE
    refine⟨hw,?_,h1⟩
    have:=gl.2.1
    simp only[List.length_nil]at h2
    omega
  ·exact okE_0 hw
theorem primF_ok (gl:Good L) {G:Option Fns} (g:FnsOk G):FnOk (primF L G):=fun p=>by
 unfold primF
 split
 ·exact exprF_ok g _
 ·exact restF_ok gl (wd_small gl p) g
theorem unF_ok (gl:Good L) {G:Option Fns} (g:FnsOk G):FnOk (unF L G):=fun p=>by
 have h:∀op,okE (unGo L G op p).1:=fun op=>by
  unfold unGo
  split
  ·exact goIn_ok fun F e=>by subst e;exact okE_1 (wd_small gl p) (g.2.2.1 _)
  ·exact ok_E0
 unfold unF
 split
 ·exact h _
 split
 ·exact h _
 split
 ·exact h _
 ·exact primF_ok gl g p
theorem whenL_ok (gl:Good L):∀(n:Nat) (a:Tr) (p:PS),okE a→okE (whenL L n a p).1
 |0,_,_,h=>h
 |n+1,a,p,h=>by
  unfold whenL
  split
  ·exact whenL_ok gl n _ _ (okE_1 (wd_small gl p) h)
  ·exact h
theorem whenF_ok (gl:Good L) {G:Option Fns} (g:FnsOk G):FnOk (whenF L G):=fun p=>whenL_ok gl _ _ _ (unF_ok gl g p)
theorem fbyF_ok (gl:Good L) {G:Option Fns} (g:FnsOk G):FnOk (fbyF L G):=fun p=>by
 unfold fbyF
 dsimp only
 split
 ·exact goIn_ok fun F e=>by subst e;exact okE_2 (wd_small gl _) (whenF_ok gl g p) (g.2.1 _)
 ·exact whenF_ok gl g p
theorem rowL_ok (gl:Good L) {nx:PS→Tr×PS} {ops:List S} {once:Bool} (hx:FnOk nx):∀(n:Nat) (a:Tr) (p:PS),okE a→okE (rowL L nx ops once n a p).1
 |0,_,_,h=>h
 |n+1,a,p,h=>by
  unfold rowL
  split
  ·exact h
  ·split
   ·exact okE_2 (wd_small gl p) h (hx _)
   ·exact rowL_ok gl hx n _ _ (okE_2 (wd_small gl p) h (hx _))
theorem rowF_ok (gl:Good L) {G:Option Fns} (g:FnsOk G):∀n:Nat,FnOk (rowF L G n)
 |0=>fun p=>fbyF_ok gl g p
 |n+1=>fun p=>rowL_ok gl (rowF_ok gl g n) _ _ _ (rowF_ok gl g n p)
theorem arrowF_ok (gl:Good L) {G:Option Fns} (g:FnsOk G):FnOk (arrowF L G):=fun p=>by
 unfold arrowF
 dsimp only
 split
 ·exact goIn_ok fun F e=>by subst e;exact okE_2 (wd_small gl _) (rowF_ok gl g 5 p) (g.1 _)
 ·exact rowF_ok gl g 5 p
theorem lvl_okE (gl:Good L):∀m:Nat,FnsOk (lvl L m)
 |0=>trivial
 |m+1=>⟨arrowF_ok gl (lvl_okE gl m),fbyF_ok gl (lvl_okE gl m),unF_ok gl (lvl_okE gl m),primF_ok gl (lvl_okE gl m)⟩
def VsN (n:Nat) (l:List Vr):Prop:=l.length≤n∧∀v∈l,okV v
theorem VsN.app {n m:Nat} {l k:List Vr} (h:VsN n l) (g:VsN m k):VsN (n+m) (l++k) :=
 ⟨by rw[List.length_append];exact Nat.add_le_add h.1 g.1,fun v hv=>(List.mem_append.1 hv).elim (h.2 v) (g.2 v)⟩
theorem VsN.mono {n m:Nat} {l:List Vr} (h:VsN n l) (e:n≤m):VsN m l:=⟨Nat.le_trans h.1 e,h.2⟩
theorem VsN.map {n:Nat} {l:List Vr} (h:VsN n l) (f:Vr→Vr) (hf:∀v,okV v→okV (f v)):VsN n (l.map f) :=
 ⟨by rw[List.length_map];exact h.1,fun v hv=>by obtain⟨u,hu,rfl⟩:=List.mem_map.1 hv;exact hf u (h.2 u hu)⟩
theorem VsN.nil {n:Nat}:VsN n []:=⟨Nat.zero_le _,fun _ h=>by cases h⟩
theorem declL_ok (gl:Good L):∀(n m:Nat) (l:List Vr) (p:PS),VsN m l→VsN (m+n) (declL L n l p).1.1
 |0,m,l,p,h=>h
 |n+1,m,l,p,h=>by
  have one:VsN (m+1) (l++[⟨(nameP L p).1,0,(0,0),false,(wd L p).a⟩]):=h.app ⟨Nat.le_refl 1,fun v hv=>by rw[List.mem_singleton.1 hv];exact⟨wd_small gl p,Nat.zero_le _⟩⟩
  unfold declL
  split
  ·split
   ·exact VsN.nil
   ·split
    ·exact(declL_ok gl n (m+1) _ _ one).mono (by omega)
    ·exact one.mono (by omega)
  ·exact h.mono (by omega)
theorem declF_ok (gl:Good L) (p:PS):VsN L.length (declF L p).1:=by
 unfold declF
 dsimp only
 split
 ·refine VsN.map ((declL_ok gl L.length 0 [] p .nil).mono (by omega)) _ fun v hv=>⟨hv.1,?_⟩
  show(if _ then 1 else 2)≤2
  split<;>decide
 ·exact .nil
theorem declsL_ok (gl:Good L):∀(n m:Nat) (l:List Vr) (p:PS),VsN m l→VsN (m+n*L.length) (declsL L n l p).1
 |0,m,l,p,h=>by rw[Nat.zero_mul];exact h
 |n+1,m,l,p,h=>by
  unfold declsL
  split
  ·exact(declsL_ok gl n (m+L.length) _ _ (h.app (declF_ok gl _))).mono (by rw[Nat.add_mul];omega)
  ·exact h.mono (by omega)
theorem sq_small (g:Good L):L.length+L.length*L.length≤1073741824:=by
 have h:L.length≤16385:=by have:=g.2.1;omega
 have:L.length*L.length≤16385*16385:=Nat.mul_le_mul h h
 omega
theorem declsF_ok (gl:Good L) (p:PS):okVs (declsF L p).1:=by
 unfold declsF
 split
 ·exact⟨Nat.zero_le _,fun _ h=>by cases h⟩
 ·have:=declsL_ok gl L.length L.length (declF L p).1 (declF L p).2 (declF_ok gl p)
  exact⟨Nat.le_trans this.1 (sq_small gl),this.2⟩
theorem clockF_ok {n:Nat} {d:List Vr×PS} (h:VsN n d.1):VsN n (clockF L d).1:=by
 unfold clockF
 split
 ·exact h.map _ fun v hv=>hv
 ·exact h
theorem localsL_ok (gl:Good L):∀(n m:Nat) (l:List Vr) (p:PS),VsN m l→VsN (m+n*L.length) (localsL L n l p).1
 |0,m,l,p,h=>by rw[Nat.zero_mul];exact h
 |n+1,m,l,p,h=>by
  unfold localsL
  dsimp only
  have one:=h.app (clockF_ok (L:=L) (declF_ok gl p))
  split
  ·split
   ·exact(localsL_ok gl n (m+L.length) _ _ one).mono (by rw[Nat.add_mul];omega)
   ·exact one.mono (by rw[Nat.add_mul];omega)
  ·exact h.mono (by omega)
theorem localsF_ok (gl:Good L) (p:PS):okVs (localsF L p).1:=by
 unfold localsF
 split
 ·exact⟨Nat.zero_le _,fun _ h=>by cases h⟩
 ·have:=localsL_ok gl L.length 0 [] p .nil
  exact⟨Nat.le_trans this.1 (by have:=sq_small gl;omega),this.2⟩
theorem eqF_ok (gl:Good L) (p:PS):okQ (eqF L p).1:=⟨wd_small gl p,exprF_ok (lvl_okE gl 30) _⟩
theorem eqsL_ok (gl:Good L):∀(n:Nat) (l:List Eqn) (p:PS),(∀q∈l,okQ q)→(∀q∈(eqsL L n l p).1,okQ q)∧(eqsL L n l p).1.length≤l.length+n
 |0,l,p,h=>⟨h,Nat.le_refl _⟩
 |n+1,l,p,h=>by
  unfold eqsL
  split
  ·obtain⟨h1,h2⟩:=eqsL_ok gl n (l++[(eqF L p).1]) (eqF L p).2 fun q hq=>(List.mem_append.1 hq).elim (h q) fun hq=>by rw[List.mem_singleton.1 hq];exact eqF_ok gl p
   refine⟨h1,Nat.le_trans h2 ?_⟩
   rw[List.length_append];simp only[List.length_cons,List.length_nil];omega
  ·exact⟨h,Nat.le_add_right _ _⟩
theorem varsF_ok (gl:Good L) (q:PS):okVs (varsF L q).1:=by
 unfold varsF
 split
 ·exact localsF_ok gl _
 ·exact⟨Nat.zero_le _,fun _ h=>by cases h⟩
theorem eqsL_all (gl:Good L) (q:PS):(eqsL L L.length [] q).1.length≤1073741824∧∀x∈(eqsL L L.length [] q).1,okQ x:=by
 obtain⟨h1,h2⟩:=eqsL_ok gl L.length [] q fun _ h=>by cases h
 have:=gl.2.1
 simp only[List.length_nil]at h2
 exact⟨by omega,h1⟩
theorem headF_ins (gl:Good L) (p:PS):okVs (headF L p).1.2.1:=declsF_ok gl (wantP L sLp (nameP L (wantP L sNode { p with names:=0 })).2)
theorem headF_outs (gl:Good L) (p:PS):okVs (headF L p).1.2.2:=declsF_ok gl (wantP L sLp (wantP L sReturns (wantP L sRp (declsF L (wantP L sLp (nameP L (wantP L sNode { p with names:=0 })).2)).2)))
theorem nodeF_eq (p:PS):(nodeF L p).1=⟨(headF L p).1.1,(headF L p).1.2.1,(headF L p).1.2.2,(varsF L (headF L p).2).1,(eqsL L L.length [] (wantP L sLet (varsF L (headF L p).2).2)).1,(wd L p).a⟩:=rfl
theorem nodeF_ok (gl:Good L) (p:PS):okN (nodeF L p).1:=by
 have h1:=headF_ins gl p
 have h2:=headF_outs gl p
 have h3:=varsF_ok gl (headF L p).2
 have h4:=eqsL_all gl (wantP L sLet (varsF L (headF L p).2).2)
 have h5:=wd_small gl p
 rw[nodeF_eq]
 generalize (headF L p).1=hd at *
 generalize (eqsL L L.length [] (wantP L sLet (varsF L (headF L p).2).2)).1=es at *
 generalize (varsF L (headF L p).2).1=vs at *
 exact⟨h5,h1,h2,h3,h4⟩
theorem nodesL_ok (gl:Good L):∀(n:Nat) (l:List Nd) (p:PS),(∀d∈l,okN d)→(∀d∈(nodesL L n l p).1,okN d)∧(nodesL L n l p).1.length≤l.length+n
 |0,l,p,h=>⟨h,Nat.le_refl _⟩
 |n+1,l,p,h=>by
  unfold nodesL
  split
  ·split
   ·exact⟨h,Nat.le_add_right _ _⟩
   ·obtain⟨h1,h2⟩:=nodesL_ok gl n (l++[(nodeF L p).1]) (nodeF L p).2 fun q hq=>(List.mem_append.1 hq).elim (h q) fun hq=>by rw[List.mem_singleton.1 hq];exact nodeF_ok gl p
    refine⟨h1,Nat.le_trans h2 ?_⟩
    rw[List.length_append];simp only[List.length_cons,List.length_nil];omega
  ·exact⟨h,Nat.le_add_right _ _⟩
theorem parse_ok (t:By):okL (parseF t).1:=by
 unfold parseF
 split
 ·rename_i h
  have gl:=cutF_good h
  unfold treeF
  dsimp only
  obtain⟨h1,h2⟩:=nodesL_ok gl 34 [] ⟨0,0,0,0,0⟩ fun _ h=>by cases h
  split
  ·exact⟨Nat.le_trans h2 (by simp),h1⟩
  ·exact⟨Nat.zero_le _,fun _ h=>by cases h⟩
 ·exact⟨Nat.zero_le _,fun _ h=>by cases h⟩
end Go.Plain
namespace Go.Plain
open Go.Eng
set_option autoImplicit false
def callOk (h:List Nd) (s:S) (m:Nat):Bool:=match h.find? (fun n=>decide (n.nm=s)) with
 |some d=>decide (d.outs.length=1∧d.ins.length=m)
 |none=>false
end Go.Plain
namespace Go.Plain
open Go.Eng
set_option autoImplicit false
abbrev Stp:=S×Bool
def stc (s:Stp):List AV:=[.str s.1.1 s.1.2,.bool s.2]
def allOf (n:Nd):List Vr:=n.ins++(n.outs++n.locs)
def findV (n:Nd) (s:S):Option Vr:=(allOf n).find? fun v=>decide (v.nm=s)
def ofL (n:Nd):Nat→S→List Stp
 |0,_=>[]
 |k+1,s=>match findV n s with
  |some v=>if v.on=(0,0) then[] else(v.on,v.nt)::ofL n k v.on
  |none=>[]
def clkOf (n:Nd) (s:S):List Stp:=(ofL n n.locs.length s).reverse
abbrev Ck:=List Stp×Bool
def stepK (c:List Stp) (s:S) (b:Bool):List Stp:=c++[(s,b)]
end Go.Plain
