/- What is proved: nothing; the document's reader of words (chapter 5) as a plain function. trees and words as they lie in a heap; what keeps them. nothing but that words are good ones; a text cut into words (chapter 4), plain. literals, as the calculus reads them. the reader only goes on. code may be cut behind so many steps. how cutting goes on, byte by byte. how the plain reader of words goes on where the words are known. how the plain cutting goes on, piece by piece. kept names and some short ones are cut as they are. how the plain reader reads declarations, equations, nodes whose words are known. in what is read all places and lengths are small. nothing; the program's check of names as a plain function. nothing; the program's clocks as plain functions. Conditions: as each theorem says. -/
import Derived.Test.YtkggpdaglhnonaaWK
import Derived.Test.YtkggpdaglhnonaaWN
import Derived.KernelRfl
set_option linter.unusedVariables false
set_option linter.unusedSimpArgs false
set_option linter.unusedSectionVars false
namespace Go.Plain
open Go.Eng
set_option autoImplicit false
abbrev S:=Nat×Nat
def sV (s:S):AV:=.str s.1 s.2
structure Wd where
 k:Nat
 t:S
 n:Nat
 a:Nat
def Wd.cells (w:Wd):List AV:=[.int .i64 w.k,sV w.t,.int .i64 w.n,.int .i64 w.a]
inductive Tr where
 |mk (op nm:S) (n a:Nat) (ks:List Tr)
structure Vr where
 nm:S
 kd:Nat
 on:S
 nt:Bool
 a:Nat
def Vr.cells (v:Vr):List AV:=[sV v.nm,.int .i64 v.kd,sV v.on,.bool v.nt,.int .i64 v.a]
structure Eqn where
 nm:S
 e:Tr
 a:Nat
structure Nd where
 nm:S
 ins:List Vr
 outs:List Vr
 locs:List Vr
 eqs:List Eqn
 a:Nat
structure PS where
 k:Nat
 e:Nat
 b:Nat
 parts:Nat
 names:Nat
def zk9:S:=(4,1701080942)
def zfe:S:=(7,32491060197614962)
def zfu:S:=(3,7496054)
def zmA:S:=(3,7628140)
def sTel:S:=(3,7103860)
def zcw:S:=(4,1819242338)
def zhM:S:=(3,7630441)
def zk8:S:=(4,1702195828)
def zg0:S:=(5,435728179558)
def zgA:S:=(3,7630702)
def ziU:S:=(3,6581857)
def sOr:S:=(2,29295)
def ziS:S:=(3,7499640)
def zhL:S:=(3,6582125)
def sIf:S:=(2,26217)
def zvT:S:=(4,1852139636)
def zvU:S:=(4,1702063205)
def zgz:S:=(3,6648432)
def zfG:S:=(3,7955046)
def zbn:S:=(4,1852139639)
def zaQ:S:=(5,435527247213)
def sLe:S:=(2,15676)
def sGe:S:=(2,15678)
def sNe:S:=(2,15932)
def zbP:S:=(2,15917)
def sLp:S:=(1,40)
def sRp:S:=(1,41)
def zeJ:S:=(1,58)
def zcH:S:=(1,59)
def zdy:S:=(1,44)
def sEq:S:=(1,61)
def zdM:S:=(1,43)
def zbO:S:=(1,45)
def zca:S:=(1,42)
def ziT:S:=(1,47)
def sLt:S:=(1,60)
def sGt:S:=(1,62)
def sNeg:S:=(3,6776174)
def zcs:S:=(4,1819042147)
def wd (L:List Wd) (p:PS):Wd:=L.getD p.k ⟨0,(0,0),0,0⟩
def zcT (L:List Wd) (er:Nat) (p:PS):PS:=if p.e=0 then{ p with e:=er,b:=(wd L p).a } else p
def isP (L:List Wd) (s:S) (p:PS):Bool:=decide (p.e=0∧((wd L p).k=2∨(wd L p).k=4)∧(wd L p).t=s)
def adv (p:PS):PS:={ p with k:=p.k+1 }
def zcc (L:List Wd) (s:S) (p:PS):PS:=if isP L s p then adv p else p
def zaB (L:List Wd) (s:S) (p:PS):PS:=if isP L s p then adv p else zcT L 7 p
def zau (L:List Wd) (p:PS):S×PS:=if p.e=0∧(wd L p).k=1 then((wd L p).t,adv p) else((0,0),zcT L 7 p)
def zi3 (L:List Wd) (p:PS):PS:=if p.e=0∧300≤p.parts∧p.parts<9223372036854775808 then zcT L 2 p else p
def zay (L:List Wd) (p:PS):PS:={ zi3 L p with parts:=(p.parts+1)%18446744073709551616 }
def E0:Tr:=.mk (0,0) (0,0) 0 0 []
structure Fns where
 arrow:PS→Tr×PS
 fby:PS→Tr×PS
 un:PS→Tr×PS
 prim:PS→Tr×PS
def inn (G:Option Fns) (p:PS):Option Fns:=if p.e=0 then G else none
def outn (L:List Wd) (G:Option Fns) (p:PS):PS:=match G with|none=>zcT L 2 p|some _=>p
def zg5 (L:List Wd) (G:Option Fns) (p:PS) (f:Fns→Tr×PS):Tr×PS:=match inn G p with|some F=>f F|none=>(E0,outn L G p)
def zbD (L:List Wd) (G:Option Fns) (p:PS):Tr×PS:=zg5 L G p fun F=>F.arrow p
def zeY (L:List Wd) (G:Option Fns) (p:PS):Tr×PS:=zg5 L G p fun F=>F.prim p
def zes (L:List Wd) (G:Option Fns):Nat→List Tr→PS→List Tr×PS
 |0,l,p=>(l,p)
 |n+1,l,p=>if p.e=0 then(if isP L zdy (zbD L G p).2 then zes L G n (l++[(zbD L G p).1]) (adv (zbD L G p).2) else(l++[(zbD L G p).1],(zbD L G p).2)) else(l,p)
def zdO (L:List Wd) (p:PS):PS:=if(wd L p).k=1∨(wd L p).k=3∨isP L zk8 p=true∨isP L zg0 p=true∨isP L sIf p=true∨isP L zaQ p=true then zay L p else p
def ifF (L:List Wd) (G:Option Fns) (at_:Nat) (p:PS):Tr×PS :=
 let a:=zbD L G p
 let b:=zbD L G (zaB L zvT a.2)
 let c:=zbD L G (zaB L zvU b.2)
 (.mk sIf (0,0) 0 at_ [a.1,b.1,c.1],c.2)
def zq7 (L:List Wd) (G:Option Fns) (at_:Nat) (p:PS):Tr×PS :=
 let s:=zau L p
 let a:=zeY L G s.2
 let b:=zeY L G a.2
 (.mk zaQ s.1 0 at_ [a.1,b.1],b.2)
def zsh (L:List Wd) (G:Option Fns) (at_:Nat) (nm:S) (p:PS):Tr×PS :=
 if isP L sRp p then(.mk zcs nm 0 at_ [],adv p)
 else(.mk zcs nm 0 at_ (zes L G L.length [] p).1,zaB L sRp (zes L G L.length [] p).2)
def zpN (L:List Wd) (G:Option Fns) (at_:Nat) (p:PS):Tr×PS :=
 let s:=zau L p
 if isP L sLp s.2 then zsh L G at_ s.1 (adv s.2) else(.mk zfu s.1 0 at_ [],s.2)
def zcV (L:List Wd) (G:Option Fns) (w:Wd) (p:PS):Tr×PS :=
 if p.e=0∧w.k=3 then(.mk zhM (0,0) w.n w.a [],adv p)
 else if isP L zk8 p then(.mk zcw (0,0) 1 w.a [],adv p)
 else if isP L zg0 p then(.mk zcw (0,0) 0 w.a [],adv p)
 else if isP L sIf p then ifF L G w.a (adv p)
 else if isP L zaQ p then zq7 L G w.a (adv p)
 else zpN L G w.a p
def zf9 (L:List Wd) (G:Option Fns) (p:PS):Tr×PS :=
 if isP L sLp p then((zbD L G (adv p)).1,zaB L sRp (zbD L G (adv p)).2)
 else zcV L G (wd L p) (zdO L p)
def zoF (L:List Wd) (G:Option Fns) (op:S) (p:PS):Tr×PS :=
 if(zay L p).e=0 then zg5 L G (adv (zay L p)) fun F=>(.mk op (0,0) 0 (wd L p).a [(F.un (adv (zay L p))).1],(F.un (adv (zay L p))).2) else(E0,zay L p)
def unF (L:List Wd) (G:Option Fns) (p:PS):Tr×PS :=
 if isP L zgA p then zoF L G zgA p
 else if isP L zbO p then zoF L G sNeg p
 else if isP L zgz p then zoF L G zgz p
 else zf9 L G p
def zdH (L:List Wd) (s:S) (p:PS):PS:=zcc L s (zay L p)
def zgt (L:List Wd) (p:PS):(Nat×S)×PS :=
 let p2:=zdH L zbn p
 let s:=zau L (zcc L zgA p2)
 ((if isP L zgA p2 then 0 else 1,s.1),s.2)
def zfV (L:List Wd):Nat→Tr→PS→Tr×PS
 |0,a,p=>(a,p)
 |n+1,a,p=>if isP L zbn p then zfV L n (.mk zbn (zgt L p).1.2 (zgt L p).1.1 (wd L p).a [a]) (zgt L p).2 else(a,p)
def zeB (L:List Wd) (G:Option Fns) (p:PS):Tr×PS:=zfV L L.length (unF L G p).1 (unF L G p).2
def zrQ (L:List Wd) (G:Option Fns) (p:PS):Tr×PS :=
 let r:=zeB L G p
 if isP L zfG r.2 then zg5 L G (zdH L zfG r.2) fun F=>(.mk zfG (0,0) 0 (wd L r.2).a [r.1,(F.fby (zdH L zfG r.2)).1],(F.fby (zdH L zfG r.2)).2) else r
def opF (L:List Wd):List S→PS→Option S
 | [],_=>none
 |s::l,p=>if isP L s p then some s else opF L l p
def zff (L:List Wd) (nx:PS→Tr×PS) (ops:List S) (once:Bool):Nat→Tr→PS→Tr×PS
 |0,a,p=>(a,p)
 |n+1,a,p=>match opF L ops p with
  |none=>(a,p)
  |some op=>if once then(.mk op (0,0) 0 (wd L p).a [a,(nx (zdH L op p)).1],(nx (zdH L op p)).2)
   else zff L nx ops once n (.mk op (0,0) 0 (wd L p).a [a,(nx (zdH L op p)).1]) (nx (zdH L op p)).2
def opsAt:Nat→List S
 |0=>[sOr,ziS]
 |1=>[ziU]
 |2=>[sEq,sNe,sLt,sLe,sGt,sGe]
 |3=>[zdM,zbO]
 |_=>[zca,ziT,zhL]
def zb2 (L:List Wd) (G:Option Fns):Nat→PS→Tr×PS
 |0,p=>zrQ L G p
 |n+1,p=>zff L (zb2 L G n) (opsAt (4-n)) (Nat.beq n 2) L.length (zb2 L G n p).1 (zb2 L G n p).2
def zgp (L:List Wd) (G:Option Fns) (p:PS):Tr×PS :=
 let r:=zb2 L G 5 p
 if isP L zbP r.2 then zg5 L G (zdH L zbP r.2) fun F=>(.mk zbP (0,0) 0 (wd L r.2).a [r.1,(F.arrow (zdH L zbP r.2)).1],(F.arrow (zdH L zbP r.2)).2) else r
def lvl (L:List Wd):Nat→Option Fns
 |0=>none
 |m+1=>some ⟨zgp L (lvl L m),zrQ L (lvl L m),unF L (lvl L m),zf9 L (lvl L m)⟩
def zd8 (L:List Wd):Nat→List Vr→PS→(List Vr×Bool)×PS
 |0,l,p=>((l,true),p)
 |n+1,l,p=>if p.e=0 then(if(wd L p).k=1∧p.names=64 then(([],false),zcT L 2 p) else
   (if isP L zdy (zau L p).2 then zd8 L n (l++[⟨(zau L p).1,0,(0,0),false,(wd L p).a⟩]) (adv { (zau L p).2 with names:=(p.names+1)%18446744073709551616 })
    else((l++[⟨(zau L p).1,0,(0,0),false,(wd L p).a⟩],true),{ (zau L p).2 with names:=(p.names+1)%18446744073709551616 })))
  else((l,true),p)
def za9 (L:List Wd) (p:PS):List Vr×PS :=
 let r:=zd8 L L.length [] p
 if r.1.2 then
  let p1:=zaB L zeJ r.2
  (r.1.1.map fun v=>{ v with kd:=if isP L zcw p1 then 1 else 2 },if isP L zcw p1 then adv p1 else zaB L zhM p1)
 else([],r.2)
def zdI (L:List Wd):Nat→List Vr→PS→List Vr×PS
 |0,l,p=>(l,p)
 |n+1,l,p=>if isP L zcH p then zdI L n (l++(za9 L (adv p)).1) (za9 L (adv p)).2 else(l,p)
def zd7 (L:List Wd) (p:PS):List Vr×PS:=if isP L sRp p then([],p) else zdI L L.length (za9 L p).1 (za9 L p).2
def zcb (L:List Wd) (d:List Vr×PS):List Vr×PS :=
 if isP L zbn d.2 then
  let s:=zau L (zcc L zgA (adv d.2))
  (d.1.map fun v=>{ v with on:=s.1,nt:=isP L zgA (adv d.2) },s.2)
 else d
def zcD (L:List Wd):Nat→List Vr→PS→List Vr×PS
 |0,l,p=>(l,p)
 |n+1,l,p=>if p.e=0 then(let d:=zcb L (za9 L p)
   if isP L zcH d.2=true∧(wd L (adv d.2)).k=1 then zcD L n (l++d.1) (adv d.2) else(l++d.1,d.2)) else(l,p)
def zdR (L:List Wd) (p:PS):List Vr×PS:=if isP L zcH p then([],p) else zcD L L.length [] p
def eqF (L:List Wd) (p:PS):Eqn×PS :=
 let s:=zau L p
 let e:=zbD L (lvl L 30) { zaB L sEq s.2 with parts:=0 }
 (⟨s.1,e.1,(wd L p).a⟩,zaB L zcH e.2)
def zhv (L:List Wd):Nat→List Eqn→PS→List Eqn×PS
 |0,l,p=>(l,p)
 |n+1,l,p=>if p.e=0∧(wd L p).k=1 then zhv L n (l++[(eqF L p).1]) (eqF L p).2 else(l,p)
def zbo (L:List Wd) (p:PS):(S×List Vr×List Vr)×PS :=
 let s:=zau L (zaB L zk9 { p with names:=0 })
 let i:=zd7 L (zaB L sLp s.2)
 let o:=zd7 L (zaB L sLp (zaB L zfe (zaB L sRp i.2)))
 ((s.1,i.1,o.1),zaB L zcH (zaB L sRp o.2))
def zde (L:List Wd) (p:PS):List Vr×PS :=
 if isP L zfu p then((zdR L (adv p)).1,zaB L zcH (zdR L (adv p)).2) else([],p)
def zdP (L:List Wd) (p:PS):Nd×PS :=
 let h:=zbo L p
 let v:=zde L h.2
 let q:=zhv L L.length [] (zaB L zmA v.2)
 (⟨h.1.1,h.1.2.1,h.1.2.2,v.1,q.1,(wd L p).a⟩,zcc L zcH (zaB L sTel q.2))
def zbV (L:List Wd):Nat→List Nd→PS→List Nd×PS
 |0,l,p=>(l,p)
 |n+1,l,p=>if p.e=0∧(l.length=0∨(wd L p).k≠0) then(if l.length=32 then(l,zcT L 2 p) else zbV L n (l++[(zdP L p).1]) (zdP L p).2) else(l,p)
def zmt (L:List Wd):List Nd×Nat×Nat :=
 let r:=zbV L 34 [] ⟨0,0,0,0,0⟩
 if r.2.e=0 then(r.1,0,0) else([],r.2.e,r.2.b)
end Go.Plain
namespace Go.Plain
open Go.Eng
set_option autoImplicit false
theorem zan (s t:S):zaC s.1 s.2 t.1 t.2=decide (s=t):=by
 obtain⟨a,b⟩:=s
 obtain⟨c,d⟩:=t
 unfold zaC
 dsimp only
 rw[Bool.eq_iff_iff,decide_eq_true_iff,Prod.mk.injEq]
 by_cases h:a=c
 ·subst h
  rw[show Nat.beq a a=true from zai.2 rfl,zac]
  exact⟨fun g=>⟨rfl,zai.1 g⟩,fun g=>zai.2 g.2⟩
 ·rw[show Nat.beq a c=false from zav.2 h,zah]
  exact⟨fun g=>(Bool.noConfusion g),fun g=>absurd g.1 h⟩
def InF (F:Nat→Prop) (y:AV):Prop:=∀b,zaG y b→F b
def zmj (F:Nat→Prop) (η η':HN):Prop:=∀b,F b→b<η.nx→η'.f b=η.f b
theorem _root_.Go.Eng.RdR.keep {s:Nat} {F:Nat→Prop} {η η':HN} {y:AV} {ls:List (List AV)} (h:RdR s η y ls) (hF:InF F y) (hk:zmj F η η') (hn:η.nx≤η'.nx):RdR s η' y ls:=by
 rcases h with h|⟨b,off,cap,ro,row,h1,h2,h3,h4⟩
 ·exact .inl h
 ·subst h1
  exact .inr ⟨b,off,cap,ro,row,rfl,(hk b (hF b rfl) h3).trans h2,by omega,h4⟩
mutual
def rdE (F:Nat→Prop) (η:HN):Tr→List AV→Prop
 |.mk op nm n a ks,z=>∃y,z=[sV op,sV nm,.int .i64 n,.int .i64 a,y]∧InF F y∧∃ls,RdR 5 η y ls∧zcI F η ks ls
def zcI (F:Nat→Prop) (η:HN):List Tr→List (List AV)→Prop
 | [],ls=>ls=[]
 |k::ks,ls=>∃l r,ls=l::r∧rdE F η k l∧zcI F η ks r
end
mutual
theorem zaM {F G:Nat→Prop} {η η':HN} (hk:zmj F η η') (hn:η.nx≤η'.nx) (hG:∀b,F b→G b):∀(e:Tr) (z:List AV),rdE F η e z→rdE G η' e z
 |.mk op nm n a ks,z,h=>by
  unfold rdE at h ⊢
  obtain⟨y,h1,h2,ls,h3,h4⟩:=h
  exact⟨y,h1,fun b hb=>hG b (h2 b hb),ls,h3.keep h2 hk hn,zeP hk hn hG ks ls h4⟩
theorem zeP {F G:Nat→Prop} {η η':HN} (hk:zmj F η η') (hn:η.nx≤η'.nx) (hG:∀b,F b→G b):∀(ks:List Tr) (ls:List (List AV)),zcI F η ks ls→zcI G η' ks ls
 | [],ls,h=>by unfold zcI at h ⊢;exact h
 |k::ks,ls,h=>by
  unfold zcI at h ⊢
  obtain⟨l,r,h1,h2,h3⟩:=h
  exact⟨l,r,h1,zaM hk hn hG k l h2,zeP hk hn hG ks r h3⟩
end
theorem zaI {F:Nat→Prop} {η:HN}:∀{e:Tr} {z:List AV},rdE F η e z→z.length=5
 |.mk _ _ _ _ _,_,h=>by
  unfold rdE at h
  obtain⟨y,rfl,_⟩:=h
  rfl
theorem zb8 {F:Nat→Prop} {η:HN}:∀{ks:List Tr} {ls:List (List AV)},zcI F η ks ls→ls.length=ks.length∧∀l∈ls,l.length=5
 | [],_,h=>by
  unfold zcI at h
  subst h
  exact⟨rfl,fun _ h=>by cases h⟩
 |k::ks,_,h=>by
  unfold zcI at h
  obtain⟨l,r,rfl,h2,h3⟩:=h
  have:=zb8 h3
  refine⟨by simp [this.1],fun x hx=>?_⟩
  rcases List.mem_cons.1 hx with rfl|hx
  ·exact zaI h2
  ·exact this.2 x hx
theorem zhn {F:Nat→Prop} {η:HN}:∀{ks:List Tr} {ls:List (List AV)} {e:Tr} {z:List AV},zcI F η ks ls→rdE F η e z→zcI F η (ks++[e]) (ls++[z])
 | [],_,e,z,h,g=>by
  unfold zcI at h
  subst h
  show zcI F η [e] [z]
  unfold zcI
  exact⟨z,[],rfl,g,by unfold zcI;rfl⟩
 |k::ks,_,e,z,h,g=>by
  unfold zcI at h
  obtain⟨l,r,rfl,h2,h3⟩:=h
  show zcI F η (k::(ks++[e])) (l::(r++[z]))
  unfold zcI
  exact⟨l,r++[z],rfl,h2,zhn h3 g⟩
def rdQ (F:Nat→Prop) (η:HN) (q:Eqn) (z:List AV):Prop:=∃ze,z=[sV q.nm]++ze++[.int .i64 q.a]∧rdE F η q.e ze
def zoQ (F:Nat→Prop) (η:HN):List Eqn→List (List AV)→Prop
 | [],ls=>ls=[]
 |k::ks,ls=>∃l r,ls=l::r∧rdQ F η k l∧zoQ F η ks r
def rdN (F:Nat→Prop) (η:HN) (n:Nd) (z:List AV):Prop:=∃y1 y2 y3 y4,z=[sV n.nm,y1,y2,y3,y4,.int .i64 n.a]∧(InF F y1∧InF F y2∧InF F y3∧InF F y4) ∧
 RdR 5 η y1 (n.ins.map Vr.cells)∧RdR 5 η y2 (n.outs.map Vr.cells)∧RdR 5 η y3 (n.locs.map Vr.cells)∧∃ls,RdR 7 η y4 ls∧zoQ F η n.eqs ls
def zg1 (F:Nat→Prop) (η:HN):List Nd→List (List AV)→Prop
 | [],ls=>ls=[]
 |k::ks,ls=>∃l r,ls=l::r∧rdN F η k l∧zg1 F η ks r
theorem zj1 {F G:Nat→Prop} {η η':HN} (hk:zmj F η η') (hn:η.nx≤η'.nx) (hG:∀b,F b→G b) {q:Eqn} {z:List AV} (h:rdQ F η q z):rdQ G η' q z:=by
 obtain⟨ze,h1,h2⟩:=h
 exact⟨ze,h1,zaM hk hn hG _ _ h2⟩
theorem zcd {F G:Nat→Prop} {η η':HN} (hk:zmj F η η') (hn:η.nx≤η'.nx) (hG:∀b,F b→G b):∀{ks:List Eqn} {ls:List (List AV)},zoQ F η ks ls→zoQ G η' ks ls
 | [],_,h=>h
 |_::_,_,⟨l,r,h1,h2,h3⟩=>⟨l,r,h1,zj1 hk hn hG h2,zcd hk hn hG h3⟩
theorem zf6 {F G:Nat→Prop} {η η':HN} (hk:zmj F η η') (hn:η.nx≤η'.nx) (hG:∀b,F b→G b) {q:Nd} {z:List AV} (h:rdN F η q z):rdN G η' q z:=by
 obtain⟨y1,y2,y3,y4,h1,⟨a1,a2,a3,a4⟩,b1,b2,b3,ls,b4,b5⟩:=h
 exact⟨y1,y2,y3,y4,h1,⟨fun b hb=>hG b (a1 b hb),fun b hb=>hG b (a2 b hb),fun b hb=>hG b (a3 b hb),fun b hb=>hG b (a4 b hb)⟩,b1.keep a1 hk hn,b2.keep a2 hk hn,b3.keep a3 hk hn,ls,b4.keep a4 hk hn,zcd hk hn hG b5⟩
theorem zaW {F G:Nat→Prop} {η η':HN} (hk:zmj F η η') (hn:η.nx≤η'.nx) (hG:∀b,F b→G b):∀{ks:List Nd} {ls:List (List AV)},zg1 F η ks ls→zg1 G η' ks ls
 | [],_,h=>h
 |_::_,_,⟨l,r,h1,h2,h3⟩=>⟨l,r,h1,zf6 hk hn hG h2,zaW hk hn hG h3⟩
theorem zv0 {F:Nat→Prop} {η:HN} {q:Eqn} {z:List AV} (h:rdQ F η q z):z.length=7:=by
 obtain⟨ze,rfl,h2⟩:=h
 simp [zaI h2]
theorem zj2 {F:Nat→Prop} {η:HN} {q:Nd} {z:List AV} (h:rdN F η q z):z.length=6:=by
 obtain⟨y1,y2,y3,y4,rfl,_⟩:=h
 rfl
theorem zj0 {F:Nat→Prop} {η:HN} {e:Eqn} {z:List AV} (g:rdQ F η e z):∀{ks:List Eqn} {ls:List (List AV)},zoQ F η ks ls→zoQ F η (ks++[e]) (ls++[z])
 | [],_,h=>by
  obtain rfl:=h
  exact⟨z,[],rfl,g,rfl⟩
 |_::_,_,⟨l,r,h1,h2,h3⟩=>by subst h1;exact⟨l,r++[z],rfl,h2,zj0 g h3⟩
theorem zhm {F:Nat→Prop} {η:HN} {e:Nd} {z:List AV} (g:rdN F η e z):∀{ks:List Nd} {ls:List (List AV)},zg1 F η ks ls→zg1 F η (ks++[e]) (ls++[z])
 | [],_,h=>by
  obtain rfl:=h
  exact⟨z,[],rfl,g,rfl⟩
 |_::_,_,⟨l,r,h1,h2,h3⟩=>by subst h1;exact⟨l,r++[z],rfl,h2,zhm g h3⟩
theorem zb7 {F:Nat→Prop} {η:HN}:∀{ks:List Eqn} {ls:List (List AV)},zoQ F η ks ls→ls.length=ks.length∧∀l∈ls,l.length=7
 | [],_,h=>by
  obtain rfl:=h
  exact⟨rfl,fun _ h=>by cases h⟩
 |_::_,_,⟨l,r,h1,h2,h3⟩=>by
  subst h1
  have:=zb7 h3
  refine⟨by simp [this.1],fun x hx=>?_⟩
  rcases List.mem_cons.1 hx with rfl|hx
  ·exact zv0 h2
  ·exact this.2 x hx
theorem zcl {F:Nat→Prop} {η:HN}:∀{ks:List Nd} {ls:List (List AV)},zg1 F η ks ls→ls.length=ks.length∧∀l∈ls,l.length=6
 | [],_,h=>by
  obtain rfl:=h
  exact⟨rfl,fun _ h=>by cases h⟩
 |_::_,_,⟨l,r,h1,h2,h3⟩=>by
  subst h1
  have:=zcl h3
  refine⟨by simp [this.1],fun x hx=>?_⟩
  rcases List.mem_cons.1 hx with rfl|hx
  ·exact zj2 h2
  ·exact this.2 x hx
def rng (lo hi:Nat):Nat→Prop:=fun b=>lo≤b∧b<hi
def zaD (pb:Nat) (η η':HN):Prop:=η.nx≤η'.nx∧∀b,b<η.nx→b≠pb→η'.f b=η.f b
theorem zaD.refl (pb:Nat) (η:HN):zaD pb η η:=⟨Nat.le_refl _,fun _ _ _=>rfl⟩
theorem zaD.trans {pb:Nat} {η η' η'':HN} (h:zaD pb η η') (h':zaD pb η' η''):zaD pb η η'':=⟨Nat.le_trans h.1 h'.1,fun b hb hc=>(h'.2 b (by have:=h.1;omega) hc).trans (h.2 b hb hc)⟩
theorem zaD.new {pb:Nat} {η η':HN} {y:BN} (h:zaD pb η η'):zaD pb η (η'.new y):=⟨by have:=h.1;show _≤η'.nx+1;omega,fun b hb hc=>by have:=h.1;rw[←h.2 b hb hc];show(if b=η'.nx then _ else _)=_;rw[if_neg (by omega)]⟩
theorem zaD.put {pb:Nat} {η η':HN} {y:BN} (h:zaD pb η η'):zaD pb η (η'.put pb y):=⟨h.1,fun b hb hc=>by rw[←h.2 b hb hc];show(if b=pb then _ else _)=_;rw[if_neg hc]⟩
theorem zaD.putN {pb c:Nat} {η η':HN} {y:BN} (h:zaD pb η η') (hc:η.nx≤c):zaD pb η (η'.put c y):=⟨h.1,fun b hb hd=>by rw[←h.2 b hb hd];show(if b=c then _ else _)=_;rw[if_neg (by omega)]⟩
theorem zaD.of {pb:Nat} {η η' η'':HN} (h:zaD pb η η') (e:zaw η'.nx η' η''):zaD pb η η'':=⟨Nat.le_trans h.1 e.1,fun b hb hc=>(e.2 b (by have:=h.1;omega)).trans (h.2 b hb hc)⟩
def Good (L:List Wd):Prop:=0<L.length∧L.length≤16385∧(L.getD (L.length-1) ⟨0,(0,0),0,0⟩).k=0∧∀w∈L,w.k<5∧w.n<18446744073709551616∧w.a≤16384
structure PA (η:HN) (pb:Nat) (y:AV) (L:List Wd) (d:Nat) (p:PS):Prop where
 hb:η.f pb=.live false [y,.int .i64 p.k,.int .i64 p.e,.int .i64 p.b,.int .i64 d,.int .i64 p.parts,.int .i64 p.names]
 hn:pb<η.nx
 hy:RdR 4 η y (L.map Wd.cells)
 hp:¬zaG y pb
 g:Good L
 k:p.k<L.length
 e:p.e<8
 b:p.b≤16384
 q:p.parts<18446744073709551616
 n:p.names<18446744073709551616
theorem PA.ext {η η':HN} {pb:Nat} {y:AV} {L:List Wd} {d:Nat} {p:PS} (h:PA η pb y L d p) (x:zaD pb η η') (hb:η'.f pb=η.f pb):PA η' pb y L d p :=
 ⟨hb.trans h.hb,by have:=x.1;have:=h.hn;omega,RdR.keep (F:=fun b=>b≠pb) h.hy (fun b hb e=>h.hp (e▸hb)) (fun b hb hc=>x.2 b hc hb) x.1,h.hp,h.g,h.k,h.e,h.b,h.q,h.n⟩
theorem PA.put {η η':HN} {pb:Nat} {y:AV} {L:List Wd} {d d':Nat} {p p':PS} (h:PA η pb y L d p) (x:zaD pb η η')
  (hb:η'.f pb=.live false [y,.int .i64 p'.k,.int .i64 p'.e,.int .i64 p'.b,.int .i64 d',.int .i64 p'.parts,.int .i64 p'.names])
  (k:p'.k<L.length) (e:p'.e<8) (b:p'.b≤16384) (q:p'.parts<18446744073709551616) (n:p'.names<18446744073709551616):PA η' pb y L d' p' :=
 ⟨hb,by have:=x.1;have:=h.hn;omega,RdR.keep (F:=fun b=>b≠pb) h.hy (fun b hb e=>h.hp (e▸hb)) (fun b hb hc=>x.2 b hc hb) x.1,h.hp,h.g,k,e,b,q,n⟩
theorem zfW {L:List Wd} {p:PS} (h:p.k<L.length):wd L p∈L:=by
 unfold wd
 rw[List.getD_eq_getElem?_getD,List.getElem?_eq_getElem h]
 exact List.getElem_mem h
theorem zvA {L:List Wd} {p:PS} (h:p.k<L.length):L[p.k]=wd L p:=by
 unfold wd
 rw[List.getD_eq_getElem?_getD,List.getElem?_eq_getElem h];rfl
theorem zjH {L:List Wd} {p:PS} (g:Good L) (h:p.k<L.length) (hk:(wd L p).k≠0):p.k+1<L.length:=by
 rcases Nat.lt_or_ge (p.k+1) L.length with h1|h1
 ·exact h1
 ·refine absurd ?_ hk
  have:p.k=L.length-1:=by omega
  unfold wd
  rw[this]
  exact g.2.2.1
theorem zbW {L:List Wd} {s:S} {p:PS} (h:isP L s p=true):p.e=0∧((wd L p).k=2∨(wd L p).k=4)∧(wd L p).t=s:=of_decide_eq_true h
section
variable {η:HN} {pb:Nat} {y:AV} {L:List Wd} {d:Nat} {p:PS}
theorem PA.row (h:PA η pb y L d p):∃b off cap ro row,y=.slice b off L.length cap∧η.f b=.live ro row∧b<η.nx∧b≠pb∧off+p.k*4+4≤row.length∧(row.drop (off+p.k*4)).take 4=(wd L p).cells:=by
 obtain⟨b,off,cap,ro,row,h1,h2,h3,h4,h5⟩:=RdR.at h.hy (i:=p.k) (by simpa using h.k)
 rw[List.length_map]at h1
 refine⟨b,off,cap,ro,row,h1,h2,h3,fun e=>h.hp (by rw[h1,e];rfl),h4,?_⟩
 rw[h5,List.getElem_map,zvA h.k]
theorem PA.fresh (h:PA η pb y L d p) {c:Nat} (hc:η.nx≤c):¬zaG y c:=by
 obtain⟨b,off,cap,ro,row,rfl,_,h3,_⟩:=h.row
 intro e
 have:b=c:=e
 omega
theorem PA.extB {η':HN} (h:PA η pb y L d p) (x:zaw η.nx η η'):PA η' pb y L d p:=h.ext ((zaD.refl pb η).of x) (x.2 pb h.hn)
theorem PA.new {z:BN} (h:PA η pb y L d p):PA (η.new z) pb y L d p:=h.extB (.new (Nat.le_refl _))
theorem PA.putc {c:Nat} {z:BN} (h:PA η pb y L d p) (hc:c≠pb) (hy:¬zaG y c):PA (η.put c z) pb y L d p :=
 ⟨(by show(if pb=c then _ else _)=_;rw[if_neg (fun e=>hc e.symm)];exact h.hb),h.hn,RdR.keep (F:=fun b=>b≠c) h.hy (fun b hb e=>hy (e▸hb)) (fun b hb _=>by show(if b=c then _ else _)=_;rw[if_neg hb]) (Nat.le_refl _),h.hp,h.g,h.k,h.e,h.b,h.q,h.n⟩
theorem PA.setd {d':Nat} (h:PA η pb y L d p):PA (η.put pb (.live false [y,.int .i64 p.k,.int .i64 p.e,.int .i64 p.b,.int .i64 d',.int .i64 p.parts,.int .i64 p.names])) pb y L d' p:=h.put (zaD.refl pb η).put (if_pos rfl) h.k h.e h.b h.q h.n
end
end Go.Plain
namespace Go.Plain
open Go.Eng
set_option autoImplicit false
noncomputable section
abbrev By:=List UInt8
def sS (l:By):S:=(l.length,zaj l)
def zgW (c:UInt8):Bool:=decide (c.toNat=32∨c.toNat=9∨c.toNat=10∨c.toNat=13)
def zdS (c:UInt8):Bool:=decide (97≤c.toNat∧c.toNat≤122)
def zbE (c:UInt8):Bool:=decide (48≤c.toNat∧c.toNat≤57)
def zel (c:UInt8):Bool:=zdS c||zbE c||decide (c.toNat=95)
def zgd (c:UInt8):Bool:=decide (c.toNat≠10)
def zbN (ok:UInt8→Bool):By→Nat
 | []=>0
 |c::r=>if ok c then zbN ok r+1 else 0
def zih:List S:=[zk9,zfe,zfu,zmA,sTel,zcw,zhM,zk8,zg0,zgA,ziU,sOr,ziS,zhL,sIf,zvT,zvU,zgz,zfG,zbn,zaQ]
def zkm (s:S):Bool:=zih.any fun x=>decide (x=s)
def zmk:Nat→By→Nat
 |v,[]=>v
 |v,c::r=>zmk (10*v+(c.toNat-48)) r
def zdf:List S:=[sLe,sGe,sNe,zbP]
def zh1:List Nat:=[40,41,58,59,44,61,43,45,42,47,60,62]
def ziY:By→Nat
 | []=>0
 | [c]=>if zh1.any fun x=>decide (x=c.toNat) then 1 else 0
 |c::d::_=>if zdf.any fun x=>decide (x=sS [c,d]) then 2 else if zh1.any fun x=>decide (x=c.toNat) then 1 else 0
def zgc (s:By):Bool:=decide (¬(1<s.length∧s.head?=some 48)∧s.length≤19∧zmk 0 s<9223372036854775808)
def zfp (r:By):Option (Nat×Nat×Nat):=match r with
 | []=>none
 |c::_ =>
  if zdS c then(if zbN zel r≤24 then some (if zkm (sS (r.take (zbN zel r))) then 2 else 1,zbN zel r,0) else none)
  else if zbE c then(if zgc (r.take (zbN zbE r)) then some (3,zbN zbE r,zmk 0 (r.take (zbN zbE r))) else none)
  else if ziY r=0 then none else some (4,ziY r,0)
def zvg (a:Nat):Wd:=⟨0,(0,0),0,a⟩
def remB (c:UInt8) (r:By):Bool:=decide (c.toNat=45∧(r.head?.map UInt8.toNat)=some 45)
def zgr:Nat→Nat→By→List Wd→List Wd×Nat×Nat
 |0,a,_,l=>(l++[zvg a],0,0)
 |_+1,a,[],l=>(l++[zvg a],0,0)
 |f+1,a,c::r,l =>
  if zgW c then zgr f (a+1) r l
  else if remB c r then zgr f (a+zbN zgd (c::r)) ((c::r).drop (zbN zgd (c::r))) l
  else match zfp (c::r) with
   |none=>([],7,a)
   |some (k,n,v)=>zgr f (a+n) ((c::r).drop n) (l++[⟨k,sS ((c::r).take n),v,a⟩])
def ziW (t:By):List Wd×Nat×Nat:=if 16384<t.length then([],2,t.length) else zgr t.length 0 t []
def zc1 (t:By):List Nd×Nat×Nat:=if(ziW t).2.1=0 then zmt (ziW t).1 else([],(ziW t).2)
theorem zfb (ok:UInt8→Bool):∀r:By,zbN ok r≤r.length
 | []=>Nat.le_refl _
 |c::r=>by
  unfold zbN
  split
  ·have:=zfb ok r
   rw[List.length_cons];omega
  ·exact Nat.zero_le _
theorem zf2 {ok:UInt8→Bool} {c:UInt8} {r:By} (h:ok c=true):0<zbN ok (c::r):=by
 unfold zbN
 rw[if_pos h];omega
theorem znM:∀r:By,ziY r≤r.length
 | []=>Nat.le_refl _
 | [c]=>by
  show(if zh1.any (fun x=>decide (x=c.toNat)) then 1 else 0)≤1
  split<;>omega
 |c::d::r=>by
  show(if zdf.any (fun x=>decide (x=sS [c,d])) then 2 else if zh1.any (fun x=>decide (x=c.toNat)) then 1 else 0)≤r.length+1+1
  split
  ·omega
  ·split<;>omega
theorem zns {r:By} {k n v:Nat} (h:zfp r=some (k,n,v)):0<n∧n≤r.length∧k<5∧k≠0∧v<9223372036854775808:=by
 unfold zfp at h
 split at h
 ·cases h
 ·rename_i c r'
  split at h
  ·rename_i hc
   split at h
   ·cases h
    refine⟨zf2 (by simp [zel,hc]),zfb _ _,?_,?_,by omega⟩<;>split<;>omega
   ·cases h
  ·split at h
   ·rename_i hc
    split at h
    ·rename_i hn
     cases h
     exact⟨zf2 hc,zfb _ _,by omega,by omega,(of_decide_eq_true hn).2.2⟩
    ·cases h
   ·split at h
    ·cases h
    ·cases h
     exact⟨by omega,znM _,by omega,by omega,by omega⟩
theorem zgl:∀(f a:Nat) (r:By) (l:List Wd),r.length≤f→a+r.length≤16384→l.length≤a→(∀w∈l,w.k<5∧w.n<18446744073709551616∧w.a≤16384)→(zgr f a r l).2.1=0→Good (zgr f a r l).1
 |f,a,[],l,_,h1,h2,h3,_=>by
  have e:zgr f a [] l=(l++[zvg a],0,0):=by cases f<;>rfl
  rw[e]
  simp only[List.length_nil]at h1
  refine⟨by simp,by simp;omega,?_,fun w hw=>?_⟩
  ·rw[List.getD_eq_getElem?_getD]
   simp [zvg]
  ·rcases List.mem_append.1 hw with hw|hw
   ·exact h3 w hw
   ·rw[List.mem_singleton.1 hw]
    exact⟨by show 0<5;omega,by show 0<18446744073709551616;omega,by show a≤_;omega⟩
 |0,a,c::r,l,h0,_,_,_,_=>by simp at h0
 |f+1,a,c::r,l,h0,h1,h2,h3,h4=>by
  simp only[List.length_cons]at h0 h1
  unfold zgr at h4 ⊢
  by_cases hw:zgW c=true
  ·rw[if_pos hw]at h4 ⊢
   exact zgl f _ r l (by omega) (by omega) (by omega) h3 h4
  rw[if_neg hw]at h4 ⊢
  by_cases hr:remB c r=true
  ·rw[if_pos hr]at h4 ⊢
   have hc:zgd c=true:=by
    have:=(of_decide_eq_true hr).1
    exact decide_eq_true (by omega)
   have p1:=zf2 (ok:=zgd) (r:=r) hc
   have p2:=zfb zgd (c::r)
   simp only[List.length_cons]at p2
   exact zgl f _ _ l (by simp only[List.length_drop,List.length_cons];omega) (by simp only[List.length_drop,List.length_cons];omega) (by omega) h3 h4
  rw[if_neg hr]at h4 ⊢
  cases e:zfp (c::r) with
  |none =>
   rw[e]at h4
   cases h4
  |some t =>
   obtain⟨k,n,v⟩:=t
   rw[e]at h4
   obtain⟨p1,p2,p3,p4,p5⟩:=zns e
   simp only[List.length_cons]at p2
   refine zgl f _ _ _ (by simp only[List.length_drop,List.length_cons];omega) (by simp only[List.length_drop,List.length_cons];omega) (by simp;omega) (fun w hw=>?_) h4
   rcases List.mem_append.1 hw with hw|hw
   ·exact h3 w hw
   ·rw[List.mem_singleton.1 hw]
    exact⟨p3,by show v<18446744073709551616;omega,by show a≤_;omega⟩
theorem ziA {t:By} (h:(ziW t).2.1=0):Good (ziW t).1:=by
 unfold ziW at h ⊢
 split at h
 ·cases h
 ·rename_i hl
  rw[if_neg hl]
  exact zgl _ _ _ _ (Nat.le_refl _) (by omega) (Nat.le_refl _) (fun _ h=>by cases h) h
end
end Go.Plain
namespace Go.Plain
open Go.Eng
set_option autoImplicit false
set_option maxRecDepth 100000
variable {φ:FN}
@[go_sem] theorem opd_lit0:opd φ (.const (.string ⟨#[110,111,100,101]⟩))=.str 4 1701080942:=rfl
@[go_sem] theorem opd_lit1:opd φ (.const (.string ⟨#[114,101,116,117,114,110,115]⟩))=.str 7 32491060197614962:=rfl
@[go_sem] theorem opd_lit2:opd φ (.const (.string ⟨#[118,97,114]⟩))=.str 3 7496054:=rfl
@[go_sem] theorem opd_lit3:opd φ (.const (.string ⟨#[108,101,116]⟩))=.str 3 7628140:=rfl
@[go_sem] theorem opd_lit4:opd φ (.const (.string ⟨#[116,101,108]⟩))=.str 3 7103860:=rfl
@[go_sem] theorem opd_lit5:opd φ (.const (.string ⟨#[98,111,111,108]⟩))=.str 4 1819242338:=rfl
@[go_sem] theorem opd_lit6:opd φ (.const (.string ⟨#[105,110,116]⟩))=.str 3 7630441:=rfl
@[go_sem] theorem opd_lit7:opd φ (.const (.string ⟨#[116,114,117,101]⟩))=.str 4 1702195828:=rfl
@[go_sem] theorem opd_lit8:opd φ (.const (.string ⟨#[102,97,108,115,101]⟩))=.str 5 435728179558:=rfl
@[go_sem] theorem opd_lit9:opd φ (.const (.string ⟨#[110,111,116]⟩))=.str 3 7630702:=rfl
@[go_sem] theorem opd_lit10:opd φ (.const (.string ⟨#[97,110,100]⟩))=.str 3 6581857:=rfl
@[go_sem] theorem opd_lit11:opd φ (.const (.string ⟨#[111,114]⟩))=.str 2 29295:=rfl
@[go_sem] theorem opd_lit12:opd φ (.const (.string ⟨#[120,111,114]⟩))=.str 3 7499640:=rfl
@[go_sem] theorem opd_lit13:opd φ (.const (.string ⟨#[109,111,100]⟩))=.str 3 6582125:=rfl
@[go_sem] theorem opd_lit14:opd φ (.const (.string ⟨#[105,102]⟩))=.str 2 26217:=rfl
@[go_sem] theorem opd_lit15:opd φ (.const (.string ⟨#[116,104,101,110]⟩))=.str 4 1852139636:=rfl
@[go_sem] theorem opd_lit16:opd φ (.const (.string ⟨#[101,108,115,101]⟩))=.str 4 1702063205:=rfl
@[go_sem] theorem opd_lit17:opd φ (.const (.string ⟨#[112,114,101]⟩))=.str 3 6648432:=rfl
@[go_sem] theorem opd_lit18:opd φ (.const (.string ⟨#[102,98,121]⟩))=.str 3 7955046:=rfl
@[go_sem] theorem opd_lit19:opd φ (.const (.string ⟨#[119,104,101,110]⟩))=.str 4 1852139639:=rfl
@[go_sem] theorem opd_lit20:opd φ (.const (.string ⟨#[109,101,114,103,101]⟩))=.str 5 435527247213:=rfl
@[go_sem] theorem opd_lit21:opd φ (.const (.string ⟨#[60,61]⟩))=.str 2 15676:=rfl
@[go_sem] theorem opd_lit22:opd φ (.const (.string ⟨#[62,61]⟩))=.str 2 15678:=rfl
@[go_sem] theorem opd_lit23:opd φ (.const (.string ⟨#[60,62]⟩))=.str 2 15932:=rfl
@[go_sem] theorem opd_lit24:opd φ (.const (.string ⟨#[45,62]⟩))=.str 2 15917:=rfl
@[go_sem] theorem opd_lit25:opd φ (.const (.string ⟨#[40]⟩))=.str 1 40:=rfl
@[go_sem] theorem opd_lit26:opd φ (.const (.string ⟨#[41]⟩))=.str 1 41:=rfl
@[go_sem] theorem opd_lit27:opd φ (.const (.string ⟨#[58]⟩))=.str 1 58:=rfl
@[go_sem] theorem opd_lit28:opd φ (.const (.string ⟨#[59]⟩))=.str 1 59:=rfl
@[go_sem] theorem opd_lit29:opd φ (.const (.string ⟨#[44]⟩))=.str 1 44:=rfl
@[go_sem] theorem opd_lit30:opd φ (.const (.string ⟨#[61]⟩))=.str 1 61:=rfl
@[go_sem] theorem opd_lit31:opd φ (.const (.string ⟨#[43]⟩))=.str 1 43:=rfl
@[go_sem] theorem opd_lit32:opd φ (.const (.string ⟨#[45]⟩))=.str 1 45:=rfl
@[go_sem] theorem opd_lit33:opd φ (.const (.string ⟨#[42]⟩))=.str 1 42:=rfl
@[go_sem] theorem opd_lit34:opd φ (.const (.string ⟨#[47]⟩))=.str 1 47:=rfl
@[go_sem] theorem opd_lit35:opd φ (.const (.string ⟨#[60]⟩))=.str 1 60:=rfl
@[go_sem] theorem opd_lit36:opd φ (.const (.string ⟨#[62]⟩))=.str 1 62:=rfl
@[go_sem] theorem opd_lit37:opd φ (.const (.string ⟨#[110,101,103]⟩))=.str 3 6776174:=rfl
@[go_sem] theorem opd_lit38:opd φ (.const (.string ⟨#[99,97,108,108]⟩))=.str 4 1819042147:=rfl
@[go_sem] theorem opd_lit39:opd φ (.const (.string ⟨#[]⟩))=.str 0 0:=rfl
@[go_sem] theorem opd_lit40:opd φ (.const (.string ⟨#[40,41,58,59,44,61,43,45,42,47,60,62]⟩))=.str 12 19260828887342980396431845672:=rfl
theorem zar {l:List AV}:ziV (no_index 0) l=[]:=rfl
theorem zas {n:Nat} {l:List AV}:ziV (no_index (n+1)) l=l++ziV n l:=rfl
theorem zal {l r:List AV} {i:Nat} {a:AV}:zbx l i (a::r)=zbx (l.set i a) (i+1) r:=rfl
@[go_sem] theorem new_put {η:HN} {w w':BN}:(η.new w).put η.nx w'=η.new w':=by
 show HN.mk _ _=HN.mk _ _
 congr 1
 funext b
 show(if b=η.nx then w' else if b=η.nx then w else η.f b)=if b=η.nx then w' else η.f b
 split<;>rfl
@[go_sem] theorem rep_21 {z:AV}:List.replicate 21 z=[z,z,z,z,z,z,z,z,z,z,z,z,z,z,z,z,z,z,z,z,z]:=rfl
theorem set_mid {s:Nat} (A B:List (List AV)) (x:List AV) (j:Nat) (v:AV) (hA:∀l∈A,l.length=s) (hj:j<x.length):((A++x::B).flatten).set (A.length*s+j) v=(A++x.set j v::B).flatten:=by
 have e:A.flatten.length=A.length*s:=zcE A hA
 rw[List.flatten_append,List.flatten_append,List.flatten_cons,List.flatten_cons,List.set_append_right _ _ (by omega),e,Nat.add_sub_cancel_left,List.set_append_left _ _ hj]
theorem zhB (l:List Vr):∀r∈l.map Vr.cells,r.length=5:=fun r hr=>by
 obtain⟨v,_,rfl⟩:=List.mem_map.1 hr
 rfl
end Go.Plain
namespace Go.Plain
open Go.Eng
set_option autoImplicit false
def LeP (p q:PS):Prop:=q.e=0→p.e=0∧p.k≤q.k
variable {L:List Wd} {p q r:PS}
theorem LeP.refl (p:PS):LeP p p:=fun h=>⟨h,Nat.le_refl _⟩
theorem LeP.trans (h:LeP p q) (g:LeP q r):LeP p r:=fun e=>by
 obtain⟨e1,k1⟩:=g e
 obtain⟨e2,k2⟩:=h e1
 exact⟨e2,Nat.le_trans k2 k1⟩
theorem zgi {er:Nat} (he:er≠0):LeP p (zcT L er p):=by
 unfold zcT
 split
 ·exact fun h=>absurd h he
 ·exact .refl _
theorem zcU:LeP p (adv p):=fun h=>⟨h,Nat.le_succ _⟩
theorem zfY {s:S}:LeP p (zcc L s p):=by
 unfold zcc
 split
 ·exact zcU
 ·exact .refl _
theorem zc5 {s:S}:LeP p (zaB L s p):=by
 unfold zaB
 split
 ·exact zcU
 ·exact zgi (by decide)
theorem zc8:LeP p (zau L p).2:=by
 unfold zau
 split
 ·exact zcU
 ·exact zgi (by decide)
theorem ztt:LeP p (zi3 L p):=by
 unfold zi3
 split
 ·exact zgi (by decide)
 ·exact .refl _
theorem zho:LeP p (zay L p):=fun h=>ztt (L:=L) (p:=p) h
theorem zis {s:S}:LeP p (zdH L s p):=zho.trans zfY
theorem zmE:(zay L p).k=p.k:=by
 unfold zay zi3 zcT
 split<;>(try split)<;>rfl
theorem ztN {s:S} (h:isP L s p=true) (e:(zay L p).e=0):isP L s (zay L p)=true:=by
 obtain⟨_,h2,h3⟩:=zbW h
 refine decide_eq_true ⟨e,?_⟩
 unfold wd at h2 h3 ⊢
 rw[zmE]
 exact⟨h2,h3⟩
theorem zlX {s:S} (h:isP L s p=true) (e:(zdH L s p).e=0):(zdH L s p).k=p.k+1:=by
 have e1:(zay L p).e=0:=(zfY e).1
 have e2:=ztN h e1
 unfold zdH zcc
 rw[if_pos e2]
 show(zay L p).k+1=_
 rw[zmE]
theorem zsT:LeP p (zgt L p).2:=(zis.trans zfY).trans zc8
theorem zvz (h:isP L zbn p=true) (e:(zgt L p).2.e=0):p.k+1≤(zgt L p).2.k:=by
 have h1:=(zfY (L:=L) (s:=zgA)).trans zc8 (p:=zdH L zbn p) e
 have h2:=zlX h h1.1
 have:=h1.2
 show p.k+1≤(zau L (zcc L zgA (zdH L zbn p))).2.k
 omega
theorem zoC {a:Tr} (h:isP L zbn p=false):∀n,zfV L n a p=(a,p)
 |0=>rfl
 |n+1=>by
  unfold zfV
  rw[h];rfl
theorem zsw {G:Option Fns} {l:List Tr} (h:p.e≠0):∀n,zes L G n l p=(l,p)
 |0=>rfl
 |n+1=>by
  unfold zes
  rw[if_neg h]
theorem zv3:(zdO L p).k=p.k:=by
 unfold zdO
 split
 ·exact zmE
 ·rfl
theorem zkp {s:S} (h:p.e≠0):isP L s p=false:=decide_eq_false (fun q=>h q.1)
theorem zia:(zau L p).2.names=p.names:=by
 unfold zau zcT
 split
 ·rfl
 ·split<;>rfl
theorem zr0 {l:List Vr} (h:p.e≠0):∀n,zd8 L n l p=((l,true),p)
 |0=>rfl
 |n+1=>by
  unfold zd8
  rw[if_neg h]
theorem zna {l:List Vr} (h:isP L zcH p=false):∀n,zdI L n l p=(l,p)
 |0=>rfl
 |n+1=>by
  unfold zdI
  rw[h];rfl
theorem zmV {l:List Vr} (h:p.e≠0):∀n,zcD L n l p=(l,p)
 |0=>rfl
 |n+1=>by
  unfold zcD
  rw[if_neg h]
theorem zrS {l:List Eqn} (h:¬(p.e=0∧(wd L p).k=1)):∀n,zhv L n l p=(l,p)
 |0=>rfl
 |n+1=>by
  unfold zhv
  rw[if_neg h]
theorem zmR (h:(zau L p).2.e=0):(zau L p).2.k=p.k+1:=by
 revert h
 unfold zau
 split
 ·exact fun _=>rfl
 ·rename_i g
  intro h
  have:(zcT L 7 p).e=0:=h
  unfold zcT at this
  split at this
  ·cases this
  ·rename_i g2;exact absurd this g2
def GoOn {α:Type} (φ:PS→α×PS):Prop:=∀p,LeP p (φ p).2
theorem zqj {n:Nat}:LeP p { p with names:=n }:=fun h=>⟨h,Nat.le_refl _⟩
theorem zhx:∀(n:Nat) (l:List Vr) (p:PS),LeP p (zd8 L n l p).2
 |0,_,_=>.refl _
 |n+1,l,p=>by
  unfold zd8
  split
  ·split
   ·exact zgi (by decide)
   ·split
    ·exact(zc8.trans zqj).trans (zcU.trans (zhx n _ _))
    ·exact zc8.trans zqj
  ·exact .refl _
theorem zkB:GoOn (za9 L):=fun p=>by
 unfold za9
 dsimp only
 split
 ·split
  ·exact((zhx _ _ p).trans zc5).trans zcU
  ·exact((zhx _ _ p).trans zc5).trans zc5
 ·exact zhx _ _ p
theorem zr9 {d:List Vr×PS}:LeP d.2 (zcb L d).2:=by
 unfold zcb
 split
 ·exact(zcU.trans zfY).trans zc8
 ·exact .refl _
theorem zvR {n:Nat}:LeP p { p with parts:=n }:=fun h=>⟨h,Nat.le_refl _⟩
def zpM (φ:PS→Tr×PS):Prop:=∀p,LeP p (φ p).2
def zfa (G:Option Fns):Prop:=match G with|none=>True|some F=>zpM F.arrow∧zpM F.fby∧zpM F.un∧zpM F.prim
theorem zwD {G:Option Fns}:LeP p (outn L G p):=by
 unfold outn
 cases G with
 |none=>exact zgi (by decide)
 |some F=>exact .refl _
theorem zio {G:Option Fns} {f:Fns→Tr×PS} {p0:PS} (h0:LeP p0 p) (h:∀F,G=some F→LeP p (f F).2):LeP p0 (zg5 L G p f).2:=by
 unfold zg5 inn
 split
 ·rename_i F hF
  split at hF
  ·exact h0.trans (h F hF)
  ·cases hF
 ·exact h0.trans zwD
theorem zdF {G:Option Fns} (g:zfa G):zpM (zbD L G):=fun p=>zio (.refl _) fun F e=>by subst e;exact g.1 p
theorem zlL {G:Option Fns} (g:zfa G):zpM (zeY L G):=fun p=>zio (.refl _) fun F e=>by subst e;exact g.2.2.2 p
theorem zot {G:Option Fns} (g:zfa G):∀(n:Nat) (l:List Tr) (p:PS),LeP p (zes L G n l p).2
 |0,_,_=>.refl _
 |n+1,l,p=>by
  unfold zes
  split
  ·split
   ·exact((zdF g p).trans zcU).trans (zot g n _ _)
   ·exact zdF g p
  ·exact .refl _
theorem zts:LeP p (zdO L p):=by
 unfold zdO
 split
 ·exact zho
 ·exact .refl _
theorem ztn {G:Option Fns} {w:Wd} (g:zfa G):LeP p (zcV L G w p).2:=by
 unfold zcV
 split
 ·exact zcU
 split
 ·exact zcU
 split
 ·exact zcU
 split
 ·exact((((zcU.trans (zdF g _)).trans zc5).trans (zdF g _)).trans zc5).trans (zdF g _)
 split
 ·exact((zcU.trans zc8).trans (zlL g _)).trans (zlL g _)
 ·unfold zpN
  dsimp only
  split
  ·unfold zsh
   split
   ·exact(zc8.trans zcU).trans zcU
   ·exact((zc8.trans zcU).trans (zot g _ _ _)).trans zc5
  ·exact zc8
theorem znQ {G:Option Fns} (g:zfa G):zpM (zf9 L G):=fun p=>by
 unfold zf9
 split
 ·exact(zcU.trans (zdF g _)).trans zc5
 ·exact zts.trans (ztn g)
theorem zmr {G:Option Fns} {op:S} (g:zfa G):LeP p (zoF L G op p).2:=by
 unfold zoF
 split
 ·exact zio (zho.trans zcU) fun F e=>by subst e;exact g.2.2.1 _
 ·exact zho
theorem zuL {G:Option Fns} (g:zfa G):zpM (unF L G):=fun p=>by
 unfold unF
 split
 ·exact zmr g
 split
 ·exact zmr g
 split
 ·exact zmr g
 ·exact znQ g p
theorem znu:∀(n:Nat) (a:Tr) (p:PS),LeP p (zfV L n a p).2
 |0,_,_=>.refl _
 |n+1,a,p=>by
  unfold zfV
  split
  ·exact zsT.trans (znu n _ _)
  ·exact .refl _
theorem znw {G:Option Fns} (g:zfa G):zpM (zeB L G):=fun p=>(zuL g p).trans (znu _ _ _)
theorem zrP {G:Option Fns} (g:zfa G):zpM (zrQ L G):=fun p=>by
 unfold zrQ
 dsimp only
 split
 ·exact zio ((znw g p).trans zis) fun F e=>by subst e;exact g.2.1 _
 ·exact znw g p
theorem zqo {nx:PS→Tr×PS} {ops:List S} {once:Bool} (hx:zpM nx):∀(n:Nat) (a:Tr) (p:PS),LeP p (zff L nx ops once n a p).2
 |0,_,_=>.refl _
 |n+1,a,p=>by
  unfold zff
  split
  ·exact .refl _
  ·split
   ·exact zis.trans (hx _)
   ·exact(zis.trans (hx _)).trans (zqo hx n _ _)
theorem zeN {G:Option Fns} (g:zfa G):∀n:Nat,zpM (zb2 L G n)
 |0=>fun p=>zrP g p
 |n+1=>fun p=>(zeN g n p).trans (zqo (zeN g n) _ _ _)
theorem zsu {G:Option Fns} (g:zfa G):zpM (zgp L G):=fun p=>by
 unfold zgp
 dsimp only
 split
 ·exact zio ((zeN g 5 p).trans zis) fun F e=>by subst e;exact g.1 _
 ·exact zeN g 5 p
theorem zjq:∀m:Nat,zfa (lvl L m)
 |0=>trivial
 |m+1=>⟨zsu (zjq m),zrP (zjq m),zuL (zjq m),znQ (zjq m)⟩
theorem eqF_k (h:(eqF L p).2.e=0):p.k+1≤(eqF L p).2.k:=by
 have h1:LeP (zau L p).2 (eqF L p).2:=by
  unfold eqF
  dsimp only
  exact((zc5.trans zvR).trans (zdF (zjq 30) _)).trans zc5
 have h2:=h1 h
 have h3:=zmR h2.1
 omega
theorem zfk {ops:List S} {s:S} (h:opF L ops p=some s):s∈ops∧isP L s p=true:=by
 induction ops with
 |nil=>cases h
 |cons a l ih =>
  unfold opF at h
  split at h
  ·rename_i e
   cases h
   exact⟨List.mem_cons_self,e⟩
  ·exact⟨List.mem_cons_of_mem _ (ih h).1,(ih h).2⟩
theorem zw3 {s t:S} (h:isP L s p=true) (g:isP L t p=true):s=t:=(zbW h).2.2.symm.trans (zbW g).2.2
theorem znT (s:S):∀l:List S,opF L (l++[s]) p=match opF L l p with|some t=>some t|none=>if isP L s p then some s else none
 | []=>by
  show(if isP L s p=true then some s else none)=_
  rfl
 |a::l=>by
  show(if isP L a p=true then some a else opF L (l++[s]) p)=match (if isP L a p=true then some a else opF L l p) with|some t=>some t|none=>_
  by_cases h:isP L a p=true
  ·rw[if_pos h,if_pos h]
  ·rw[if_neg h,if_neg h]
   exact znT s l
def zd2 (L:List Wd) (ops:List S) (p:PS) (i:Nat):S:=(opF L (ops.take i) p).getD (0,0)
theorem zh0 {ops:List S} {i:Nat} (hi:i<ops.length):zd2 L ops p (i+1)=if isP L (ops.getD i (0,0)) p then ops.getD i (0,0) else zd2 L ops p i:=by
 have e:ops.take (i+1)=ops.take i++[ops.getD i (0,0)]:=by
  rw[List.take_add_one,List.getD_eq_getElem?_getD,List.getElem?_eq_getElem hi];rfl
 unfold zd2
 rw[e,znT]
 cases h:opF L (ops.take i) p with
 |none =>
  dsimp only
  split<;>rfl
 |some t =>
  dsimp only
  split
  ·rename_i g
   exact(zw3 (zfk h).2 g)
  ·rfl
theorem zeR {ops:List S}:zd2 L ops p ops.length=(opF L ops p).getD (0,0):=by
 unfold zd2
 rw[List.take_length]
theorem zdv:∀(O:List S) (i:Nat),i<O.length→(O.map sV).getD i und=.str (O.getD i (0,0)).1 (O.getD i (0,0)).2
 | [],_,h=>by simp at h
 |a::l,0,_=>rfl
 |a::l,i+1,h=>zdv l i (by simpa using h)
end Go.Plain
namespace Go.Eng
set_option autoImplicit false
section
variable {P:Program} {C:Spec} {PT:Plans} {K:Kont} {φ:FN} {η:HN}
noncomputable def zoB (P:Program) (C:Spec) (PT:Plans):Nat→Code→(FN→HN→Prop)→Kont→FN→HN→Prop
 |0,_,M,_=>M
 |n+1,.seq a t,M,K=>wpN P C PT a (zi0 (zoB P C PT n t M K) K)
 |_+1,_,_,_=>fun _ _=>False
def zoI:Nat→Code→Code
 |0,c=>c
 |n+1,.seq _ t=>zoI n t
 |_+1,c=>c
@[go_sem] theorem wpCut_z {c:Code} {M:FN→HN→Prop}:zoB P C PT (no_index 0) c M K φ η=M φ η:=by cases c<;>rfl
@[go_sem] theorem wpCut_s {n:Nat} {a t:Code} {M:FN→HN→Prop}:zoB P C PT (no_index (n+1)) (.seq a t) M K φ η=wpN P C PT a (zi0 (zoB P C PT n t M K) K) φ η:=rfl
@[go_sem] theorem zcv {c:Code}:zoI (no_index 0) c=c:=by cases c<;>rfl
@[go_sem] theorem zbH {n:Nat} {a t:Code}:zoI (no_index (n+1)) (.seq a t)=zoI n t:=rfl
theorem wp_cut {M:FN→HN→Prop}:∀(n:Nat) (c:Code) (φ:FN) (η:HN),(∀φ η,M φ η→wpN P C PT (zoI n c) K φ η)→zoB P C PT n c M K φ η→wpN P C PT c K φ η
 |0,c,φ,η,hM,h=>by
  have e:zoI 0 c=c:=by cases c<;>rfl
  rw[e]at hM
  have h:M φ η:=by
   have:zoB P C PT 0 c M K φ η=M φ η:=by cases c<;>rfl
   rw[this]at h;exact h
  exact hM _ _ h
 |n+1,.seq a t,φ,η,hM,h=>by
  refine zc4 a _ _ (fun e φ η q=>?_) φ η h
  cases e with
  |normal=>exact wp_cut n t φ η hM q
  |exit i=>exact q
  |ret=>exact q
 |n+1,.skip,φ,η,_,h=>h.elim
 |n+1,.region _ _ _,φ,η,_,h=>h.elim
 |n+1,.cond _ _ _,φ,η,_,h=>h.elim
 |n+1,.block _ _,φ,η,_,h=>h.elim
 |n+1,.loop _,φ,η,_,h=>h.elim
 |n+1,.exit _,φ,η,_,h=>h.elim
 |n+1,.ret,φ,η,_,h=>h.elim
end
end Go.Eng
namespace Go.Plain
open Go.Eng
set_option autoImplicit false
theorem znB:∀(l:By) (v:Nat) (c:UInt8),zmk v (l++[c])=10*zmk v l+(c.toNat-48)
 | [],v,c=>rfl
 |a::l,v,c=>znB l _ c
theorem zp0:∀(l:By) (v:Nat),(∀c∈l,zbE c=true)→zmk v l<(v+1)*10 ^ l.length
 | [],v,_=>by show v<(v+1)*1;omega
 |a::l,v,h=>by
  have h1:=of_decide_eq_true (h a List.mem_cons_self)
  have:=zp0 l (10*v+(a.toNat-48)) (fun c hc=>h c (List.mem_cons_of_mem _ hc))
  refine Nat.lt_of_lt_of_le this ?_
  rw[List.length_cons,Nat.pow_succ,Nat.mul_comm (10 ^ l.length) 10,←Nat.mul_assoc]
  exact Nat.mul_le_mul_right _ (by omega)
theorem zp5 {l:By} {i:Nat} (h:i<l.length):l.take (i+1)=l.take i++[l[i]]:=List.take_succ_eq_append_getElem h
theorem zdY {ok:UInt8→Bool} {l:By} {n:Nat} (h:n<l.length) (hc:ok l[n]=true):zbN ok (l.drop n)=zbN ok (l.drop (n+1))+1:=by
 rw[List.drop_eq_getElem_cons h]
 show(if ok l[n] then _ else _)=_
 rw[if_pos hc]
theorem zhH {ok:UInt8→Bool} {l:By} {n:Nat} (h:n<l.length) (hc:ok l[n]=false):zbN ok (l.drop n)=0:=by
 rw[List.drop_eq_getElem_cons h]
 show(if ok l[n] then _ else _)=_
 rw[hc];rfl
theorem zhG {ok:UInt8→Bool} {l:By} {n:Nat} (h:l.length≤n):zbN ok (l.drop n)=0:=by
 rw[List.drop_eq_nil_of_le h];rfl
theorem zhI (ok:UInt8→Bool):∀(l:By),∀c∈l.take (zbN ok l),ok c=true
 | [],c,h=>by simp [zbN]at h
 |a::l,c,h=>by
  unfold zbN at h
  by_cases ha:ok a=true
  ·rw[if_pos ha,List.take_succ_cons]at h
   rcases List.mem_cons.1 h with rfl|h
   ·exact ha
   ·exact zhI ok l c h
  ·rw[if_neg ha]at h
   simp at h
theorem zsC {l:List S} {p:S→Bool} {i:Nat} (h:i<l.length) (h1:p (l.getD i (0,0))=true):l.any p=true:=by
 rw[List.any_eq_true]
 refine⟨l.getD i (0,0),?_,h1⟩
 rw[List.getD_eq_getElem?_getD,List.getElem?_eq_getElem h]
 exact List.getElem_mem h
theorem zsD {l:List S} {p:S→Bool} (h:∀i,i<l.length→p (l.getD i (0,0))=false):l.any p=false:=by
 rw[List.any_eq_false]
 intro x hx
 obtain⟨i,hi,rfl⟩:=List.getElem_of_mem hx
 have:=h i hi
 rw[List.getD_eq_getElem?_getD,List.getElem?_eq_getElem hi]at this
 rw[show p l[i]=false from this];decide
theorem zuB {l:List Nat} {p:Nat→Bool} {i:Nat} (h:i<l.length) (h1:p (l.getD i 0)=true):l.any p=true:=by
 rw[List.any_eq_true]
 refine⟨l.getD i 0,?_,h1⟩
 rw[List.getD_eq_getElem?_getD,List.getElem?_eq_getElem h]
 exact List.getElem_mem h
theorem zuC {l:List Nat} {p:Nat→Bool} (h:∀i,i<l.length→p (l.getD i 0)=false):l.any p=false:=by
 rw[List.any_eq_false]
 intro x hx
 obtain⟨i,hi,rfl⟩:=List.getElem_of_mem hx
 have:=h i hi
 rw[List.getD_eq_getElem?_getD,List.getElem?_eq_getElem hi]at this
 rw[show p l[i]=false from this];decide
theorem zwL:∀i,i<12→zhc 19260828887342980396431845672 i=zh1.getD i 0:=by decide
theorem zc6 {l:By} {i:Nat} (h:i<l.length):zhc (zaj l) i=l[i].toNat:=zjN l i h
theorem zdV (l:By) (i n:Nat):zdW (zaj l) i n=zaj ((l.drop i).take n):=zk2 l i n
end Go.Plain
namespace Go.Plain
open Go.Eng
set_option autoImplicit false
variable {L:List Wd} {k q n a v:Nat} {s t:S} {G:Option Fns}
section
variable {p p':PS} {e:Tr}
end
end Go.Plain
namespace Go.Plain
open Go.Eng
set_option autoImplicit false
set_option maxRecDepth 100000
noncomputable def cutT (a:Nat) (r:By) (l:List Wd):List Wd×Nat×Nat:=zgr r.length a r l
theorem cutS {a a':Nat} {c:UInt8} {r:By} {l:List Wd} (hw:zgW c=true) (ha:a+1=a'):cutT a (c::r) l=cutT a' r l:=by
 subst ha
 unfold cutT
 show zgr (r.length+1) a (c::r) l=_
 conv=>lhs;unfold zgr
 rw[if_pos hw]
structure IsWd (x:By) (k:Nat) (t:S):Prop where
 hd:∃c y,x=c::y∧zdS c=true
 all:∀c∈x,zel c=true
 kept:(if zkm (sS x) then 2 else 1)=k
 tx:sS x=t
 len:x.length≤24
structure IsNm (x:By):Prop where
 hd:∃c y,x=c::y∧zdS c=true
 all:∀c∈x,zel c=true
 kept:zkm (sS x)=false
 len:x.length≤24
end Go.Plain
namespace Go.Plain
open Go.Eng
set_option autoImplicit false
set_option maxRecDepth 100000
end Go.Plain
namespace Go.Plain
open Go.Eng
set_option autoImplicit false
variable {L:List Wd} {k q n a v:Nat} {s t:S} {G:Option Fns}
end Go.Plain
namespace Go.Plain
open Go.Eng
set_option autoImplicit false
mutual
def okE:Tr→Prop
 |.mk _ _ _ a ks=>a≤16384∧ks.length≤1073741824∧zjn ks
def zjn:List Tr→Prop
 | []=>True
 |k::ks=>okE k∧zjn ks
end
def okV (v:Vr):Prop:=v.a≤16384∧v.kd≤2
def ztB (l:List Vr):Prop:=l.length≤1073741824∧∀v∈l,okV v
def okQ (q:Eqn):Prop:=q.a≤16384∧okE q.e
def okN (n:Nd):Prop:=n.a≤16384∧ztB n.ins∧ztB n.outs∧ztB n.locs∧n.eqs.length≤1073741824∧∀q∈n.eqs,okQ q
def okL (l:List Nd):Prop:=l.length≤64∧∀n∈l,okN n
theorem zcB:∀ks:List Tr,zjn ks↔∀k∈ks,okE k
 | []=>⟨fun _ _ h=>(by cases h),fun _=>by unfold zjn;trivial⟩
 |k::ks=>by
  unfold zjn
  rw[zcB ks]
  exact⟨fun h x hx=>by rcases List.mem_cons.1 hx with rfl|hx;exact h.1;exact h.2 x hx,fun h=>⟨h k List.mem_cons_self,fun x hx=>h x (List.mem_cons_of_mem _ hx)⟩⟩
theorem znU {ks:List Tr} {e:Tr} (h:zjn ks) (g:okE e):zjn (ks++[e]):=(zcB _).2 fun k hk=>by
 rcases List.mem_append.1 hk with hk|hk
 ·exact(zcB _).1 h k hk
 ·rw[List.mem_singleton.1 hk];exact g
theorem zoY {op nm:S} {n a:Nat} (h:a≤16384):okE (.mk op nm n a []):=by unfold okE zjn;exact⟨h,by simp,trivial⟩
theorem okE_1 {op nm:S} {n a:Nat} {x:Tr} (h:a≤16384) (hx:okE x):okE (.mk op nm n a [x]):=by unfold okE zjn zjn;exact⟨h,by simp,hx,trivial⟩
theorem zqP {op nm:S} {n a:Nat} {x y:Tr} (h:a≤16384) (hx:okE x) (hy:okE y):okE (.mk op nm n a [x,y]):=by unfold okE zjn zjn zjn;exact⟨h,by simp,hx,hy,trivial⟩
theorem okE_3 {op nm:S} {n a:Nat} {x y z:Tr} (h:a≤16384) (hx:okE x) (hy:okE y) (hz:okE z):okE (.mk op nm n a [x,y,z]):=by unfold okE zjn zjn zjn zjn;exact⟨h,by simp,hx,hy,hz,trivial⟩
variable {L:List Wd} {p:PS}
theorem zcQ (g:Good L) (p:PS):(wd L p).a≤16384:=by
 unfold wd
 rw[List.getD_eq_getElem?_getD]
 by_cases h:p.k<L.length
 ·rw[List.getElem?_eq_getElem h]
  exact(g.2.2.2 _ (List.getElem_mem h)).2.2
 ·rw[List.getElem?_eq_none (by omega)]
  exact Nat.zero_le _
def zpL (φ:PS→Tr×PS):Prop:=∀p,okE (φ p).1
def ziQ (G:Option Fns):Prop:=match G with|none=>True|some F=>zpL F.arrow∧zpL F.fby∧zpL F.un∧zpL F.prim
theorem zwM:okE E0:=zoY (Nat.zero_le _)
theorem zin {G:Option Fns} {f:Fns→Tr×PS} (h:∀F,G=some F→okE (f F).1):okE (zg5 L G p f).1:=by
 unfold zg5 inn
 split
 ·rename_i F hF
  split at hF
  ·exact h F hF
  ·cases hF
 ·exact zwM
theorem zen {G:Option Fns} (g:ziQ G):zpL (zbD L G):=fun p=>zin fun F e=>by subst e;exact g.1 p
theorem zlK {G:Option Fns} (g:ziQ G):zpL (zeY L G):=fun p=>zin fun F e=>by subst e;exact g.2.2.2 p
theorem zos {G:Option Fns} (g:ziQ G):∀(n:Nat) (l:List Tr) (p:PS),zjn l→zjn (zes L G n l p).1∧(zes L G n l p).1.length≤l.length+n
 |0,l,p,h=>⟨h,Nat.le_refl _⟩
 |n+1,l,p,h=>by
  unfold zes
  split
  ·split
   ·obtain⟨h1,h2⟩:=zos g n (l++[(zbD L G p).1]) (adv (zbD L G p).2) (znU h (zen g p))
    refine⟨h1,Nat.le_trans h2 ?_⟩
    rw[List.length_append];simp only[List.length_cons,List.length_nil];omega
   ·exact⟨znU h (zen g p),by rw[List.length_append];simp only[List.length_cons,List.length_nil];omega⟩
  ·exact⟨h,Nat.le_add_right _ _⟩
theorem ztm (gl:Good L) {G:Option Fns} {w:Wd} (hw:w.a≤16384) (g:ziQ G):okE (zcV L G w p).1:=by
 unfold zcV
 split
 ·exact zoY hw
 split
 ·exact zoY hw
 split
 ·exact zoY hw
 split
 ·exact okE_3 hw (zen g _) (zen g _) (zen g _)
 split
 ·exact zqP hw (zlK g _) (zlK g _)
 ·unfold zpN
  dsimp only
  split
  ·unfold zsh
   split
   ·exact zoY hw
   ·obtain⟨h1,h2⟩:=zos (L:=L) g L.length [] (adv (zau L p).2) (by unfold zjn;trivial)
    unfold okE
    refine⟨hw,?_,h1⟩
    have:=gl.2.1
    simp only[List.length_nil]at h2
    omega
  ·exact zoY hw
theorem znP (gl:Good L) {G:Option Fns} (g:ziQ G):zpL (zf9 L G):=fun p=>by
 unfold zf9
 split
 ·exact zen g _
 ·exact ztm gl (zcQ gl p) g
theorem zuK (gl:Good L) {G:Option Fns} (g:ziQ G):zpL (unF L G):=fun p=>by
 have h:∀op,okE (zoF L G op p).1:=fun op=>by
  unfold zoF
  split
  ·exact zin fun F e=>by subst e;exact okE_1 (zcQ gl p) (g.2.2.1 _)
  ·exact zwM
 unfold unF
 split
 ·exact h _
 split
 ·exact h _
 split
 ·exact h _
 ·exact znP gl g p
theorem znt (gl:Good L):∀(n:Nat) (a:Tr) (p:PS),okE a→okE (zfV L n a p).1
 |0,_,_,h=>h
 |n+1,a,p,h=>by
  unfold zfV
  split
  ·exact znt gl n _ _ (okE_1 (zcQ gl p) h)
  ·exact h
theorem znv (gl:Good L) {G:Option Fns} (g:ziQ G):zpL (zeB L G):=fun p=>znt gl _ _ _ (zuK gl g p)
theorem zrO (gl:Good L) {G:Option Fns} (g:ziQ G):zpL (zrQ L G):=fun p=>by
 unfold zrQ
 dsimp only
 split
 ·exact zin fun F e=>by subst e;exact zqP (zcQ gl _) (znv gl g p) (g.2.1 _)
 ·exact znv gl g p
theorem zqn (gl:Good L) {nx:PS→Tr×PS} {ops:List S} {once:Bool} (hx:zpL nx):∀(n:Nat) (a:Tr) (p:PS),okE a→okE (zff L nx ops once n a p).1
 |0,_,_,h=>h
 |n+1,a,p,h=>by
  unfold zff
  split
  ·exact h
  ·split
   ·exact zqP (zcQ gl p) h (hx _)
   ·exact zqn gl hx n _ _ (zqP (zcQ gl p) h (hx _))
theorem zjU (gl:Good L) {G:Option Fns} (g:ziQ G):∀n:Nat,zpL (zb2 L G n)
 |0=>fun p=>zrO gl g p
 |n+1=>fun p=>zqn gl (zjU gl g n) _ _ _ (zjU gl g n p)
theorem zst (gl:Good L) {G:Option Fns} (g:ziQ G):zpL (zgp L G):=fun p=>by
 unfold zgp
 dsimp only
 split
 ·exact zin fun F e=>by subst e;exact zqP (zcQ gl _) (zjU gl g 5 p) (g.1 _)
 ·exact zjU gl g 5 p
theorem zic (gl:Good L):∀m:Nat,ziQ (lvl L m)
 |0=>trivial
 |m+1=>⟨zst gl (zic gl m),zrO gl (zic gl m),zuK gl (zic gl m),znP gl (zic gl m)⟩
def VsN (n:Nat) (l:List Vr):Prop:=l.length≤n∧∀v∈l,okV v
theorem VsN.app {n m:Nat} {l k:List Vr} (h:VsN n l) (g:VsN m k):VsN (n+m) (l++k) :=
 ⟨by rw[List.length_append];exact Nat.add_le_add h.1 g.1,fun v hv=>(List.mem_append.1 hv).elim (h.2 v) (g.2 v)⟩
theorem VsN.mono {n m:Nat} {l:List Vr} (h:VsN n l) (e:n≤m):VsN m l:=⟨Nat.le_trans h.1 e,h.2⟩
theorem VsN.map {n:Nat} {l:List Vr} (h:VsN n l) (f:Vr→Vr) (hf:∀v,okV v→okV (f v)):VsN n (l.map f) :=
 ⟨by rw[List.length_map];exact h.1,fun v hv=>by obtain⟨u,hu,rfl⟩:=List.mem_map.1 hv;exact hf u (h.2 u hu)⟩
theorem VsN.nil {n:Nat}:VsN n []:=⟨Nat.zero_le _,fun _ h=>by cases h⟩
theorem zol (gl:Good L):∀(n m:Nat) (l:List Vr) (p:PS),VsN m l→VsN (m+n) (zd8 L n l p).1.1
 |0,m,l,p,h=>h
 |n+1,m,l,p,h=>by
  have one:VsN (m+1) (l++[⟨(zau L p).1,0,(0,0),false,(wd L p).a⟩]):=h.app ⟨Nat.le_refl 1,fun v hv=>by rw[List.mem_singleton.1 hv];exact⟨zcQ gl p,Nat.zero_le _⟩⟩
  unfold zd8
  split
  ·split
   ·exact VsN.nil
   ·split
    ·exact(zol gl n (m+1) _ _ one).mono (by omega)
    ·exact one.mono (by omega)
  ·exact h.mono (by omega)
theorem zkA (gl:Good L) (p:PS):VsN L.length (za9 L p).1:=by
 unfold za9
 dsimp only
 split
 ·refine VsN.map ((zol gl L.length 0 [] p .nil).mono (by omega)) _ fun v hv=>⟨hv.1,?_⟩
  show(if _ then 1 else 2)≤2
  split<;>decide
 ·exact .nil
theorem zl1 (gl:Good L):∀(n m:Nat) (l:List Vr) (p:PS),VsN m l→VsN (m+n*L.length) (zdI L n l p).1
 |0,m,l,p,h=>by rw[Nat.zero_mul];exact h
 |n+1,m,l,p,h=>by
  unfold zdI
  split
  ·exact(zl1 gl n (m+L.length) _ _ (h.app (zkA gl _))).mono (by rw[Nat.add_mul];omega)
  ·exact h.mono (by omega)
theorem znK (g:Good L):L.length+L.length*L.length≤1073741824:=by
 have h:L.length≤16385:=by have:=g.2.1;omega
 have:L.length*L.length≤16385*16385:=Nat.mul_le_mul h h
 omega
theorem zl2 (gl:Good L) (p:PS):ztB (zd7 L p).1:=by
 unfold zd7
 split
 ·exact⟨Nat.zero_le _,fun _ h=>by cases h⟩
 ·have:=zl1 gl L.length L.length (za9 L p).1 (za9 L p).2 (zkA gl p)
  exact⟨Nat.le_trans this.1 (znK gl),this.2⟩
theorem zr8 {n:Nat} {d:List Vr×PS} (h:VsN n d.1):VsN n (zcb L d).1:=by
 unfold zcb
 split
 ·exact h.map _ fun v hv=>hv
 ·exact h
theorem zjr (gl:Good L):∀(n m:Nat) (l:List Vr) (p:PS),VsN m l→VsN (m+n*L.length) (zcD L n l p).1
 |0,m,l,p,h=>by rw[Nat.zero_mul];exact h
 |n+1,m,l,p,h=>by
  unfold zcD
  dsimp only
  have one:=h.app (zr8 (L:=L) (zkA gl p))
  split
  ·split
   ·exact(zjr gl n (m+L.length) _ _ one).mono (by rw[Nat.add_mul];omega)
   ·exact one.mono (by rw[Nat.add_mul];omega)
  ·exact h.mono (by omega)
theorem zo9 (gl:Good L) (p:PS):ztB (zdR L p).1:=by
 unfold zdR
 split
 ·exact⟨Nat.zero_le _,fun _ h=>by cases h⟩
 ·have:=zjr gl L.length 0 [] p .nil
  exact⟨Nat.le_trans this.1 (by have:=znK gl;omega),this.2⟩
theorem eqF_ok (gl:Good L) (p:PS):okQ (eqF L p).1:=⟨zcQ gl p,zen (zic gl 30) _⟩
theorem zm6 (gl:Good L):∀(n:Nat) (l:List Eqn) (p:PS),(∀q∈l,okQ q)→(∀q∈(zhv L n l p).1,okQ q)∧(zhv L n l p).1.length≤l.length+n
 |0,l,p,h=>⟨h,Nat.le_refl _⟩
 |n+1,l,p,h=>by
  unfold zhv
  split
  ·obtain⟨h1,h2⟩:=zm6 gl n (l++[(eqF L p).1]) (eqF L p).2 fun q hq=>(List.mem_append.1 hq).elim (h q) fun hq=>by rw[List.mem_singleton.1 hq];exact eqF_ok gl p
   refine⟨h1,Nat.le_trans h2 ?_⟩
   rw[List.length_append];simp only[List.length_cons,List.length_nil];omega
  ·exact⟨h,Nat.le_add_right _ _⟩
theorem zsV (gl:Good L) (q:PS):ztB (zde L q).1:=by
 unfold zde
 split
 ·exact zo9 gl _
 ·exact⟨Nat.zero_le _,fun _ h=>by cases h⟩
theorem zt3 (gl:Good L) (q:PS):(zhv L L.length [] q).1.length≤1073741824∧∀x∈(zhv L L.length [] q).1,okQ x:=by
 obtain⟨h1,h2⟩:=zm6 gl L.length [] q fun _ h=>by cases h
 have:=gl.2.1
 simp only[List.length_nil]at h2
 exact⟨by omega,h1⟩
theorem zrA (gl:Good L) (p:PS):ztB (zbo L p).1.2.1:=zl2 gl (zaB L sLp (zau L (zaB L zk9 { p with names:=0 })).2)
theorem zpn (gl:Good L) (p:PS):ztB (zbo L p).1.2.2:=zl2 gl (zaB L sLp (zaB L zfe (zaB L sRp (zd7 L (zaB L sLp (zau L (zaB L zk9 { p with names:=0 })).2)).2)))
theorem zkc (p:PS):(zdP L p).1=⟨(zbo L p).1.1,(zbo L p).1.2.1,(zbo L p).1.2.2,(zde L (zbo L p).2).1,(zhv L L.length [] (zaB L zmA (zde L (zbo L p).2).2)).1,(wd L p).a⟩:=rfl
theorem ztC (gl:Good L) (p:PS):okN (zdP L p).1:=by
 have h1:=zrA gl p
 have h2:=zpn gl p
 have h3:=zsV gl (zbo L p).2
 have h4:=zt3 gl (zaB L zmA (zde L (zbo L p).2).2)
 have h5:=zcQ gl p
 rw[zkc]
 generalize (zbo L p).1=hd at *
 generalize (zhv L L.length [] (zaB L zmA (zde L (zbo L p).2).2)).1=es at *
 generalize (zde L (zbo L p).2).1=vs at *
 exact⟨h5,h1,h2,h3,h4⟩
theorem zlr (gl:Good L):∀(n:Nat) (l:List Nd) (p:PS),(∀d∈l,okN d)→(∀d∈(zbV L n l p).1,okN d)∧(zbV L n l p).1.length≤l.length+n
 |0,l,p,h=>⟨h,Nat.le_refl _⟩
 |n+1,l,p,h=>by
  unfold zbV
  split
  ·split
   ·exact⟨h,Nat.le_add_right _ _⟩
   ·obtain⟨h1,h2⟩:=zlr gl n (l++[(zdP L p).1]) (zdP L p).2 fun q hq=>(List.mem_append.1 hq).elim (h q) fun hq=>by rw[List.mem_singleton.1 hq];exact ztC gl p
    refine⟨h1,Nat.le_trans h2 ?_⟩
    rw[List.length_append];simp only[List.length_cons,List.length_nil];omega
  ·exact⟨h,Nat.le_add_right _ _⟩
theorem ztu (t:By):okL (zc1 t).1:=by
 unfold zc1
 split
 ·rename_i h
  have gl:=ziA h
  unfold zmt
  dsimp only
  obtain⟨h1,h2⟩:=zlr gl 34 [] ⟨0,0,0,0,0⟩ fun _ h=>by cases h
  split
  ·exact⟨Nat.le_trans h2 (by simp),h1⟩
  ·exact⟨Nat.zero_le _,fun _ h=>by cases h⟩
 ·exact⟨Nat.zero_le _,fun _ h=>by cases h⟩
end Go.Plain
namespace Go.Plain
open Go.Eng
set_option autoImplicit false
def ze5 (h:List Nd) (s:S) (m:Nat):Bool:=match h.find? (fun n=>decide (n.nm=s)) with
 |some d=>decide (d.outs.length=1∧d.ins.length=m)
 |none=>false
end Go.Plain
namespace Go.Plain
open Go.Eng
set_option autoImplicit false
abbrev Stp:=S×Bool
def stc (s:Stp):List AV:=[.str s.1.1 s.1.2,.bool s.2]
def za4 (n:Nd):List Vr:=n.ins++(n.outs++n.locs)
def zap (n:Nd) (s:S):Option Vr:=(za4 n).find? fun v=>decide (v.nm=s)
def ofL (n:Nd):Nat→S→List Stp
 |0,_=>[]
 |k+1,s=>match zap n s with
  |some v=>if v.on=(0,0) then[] else(v.on,v.nt)::ofL n k v.on
  |none=>[]
def zbt (n:Nd) (s:S):List Stp:=(ofL n n.locs.length s).reverse
abbrev Ck:=List Stp×Bool
def zdh (c:List Stp) (s:S) (b:Bool):List Stp:=c++[(s,b)]
end Go.Plain
