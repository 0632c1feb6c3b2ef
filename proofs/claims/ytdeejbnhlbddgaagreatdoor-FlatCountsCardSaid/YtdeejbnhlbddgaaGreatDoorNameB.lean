/- What is proved: what the finding of names does. what the program's check of an expression's names does. what the program's check of an expression's names does. what the program's check of a node's declarations does. what the program's check of a node's equations' names does. what the program's check of names does. what the program's check of names, of a text, does. Conditions: as each theorem says. -/
import Derived.Test.YtdeejbnhlbddgaaGreatDoorNameA
import Derived.Test.YtdeejbnhlbddgaaGreatDoorPlain
import Derived.Test.YtdeejbnhlbddgaaGreatDoorReadE
set_option linter.unusedVariables false
set_option linter.unusedSimpArgs false
set_option linter.unusedSectionVars false
namespace Go.Proofs.YtdeejbnhlbddgaaGreatDoor
open Go.Eng Go.Plain
set_option autoImplicit false
set_option maxRecDepth 100000
variable {nat:∀ [Deep],Nats}
theorem nm1_then (U:Usual nat) {η:HN} {z:List AV} {n:Nd} {c:Nat} {s:S} (r:rdN tt η n z) (hc:η.f c=.live false [.str s.1 s.2]) (hcn:c<η.nx) {Q:AV→HN→Prop} (k:∀η',ExtB η.nx η η'→Q (.bool (decide (n.nm=s))) η'):∃v η',CallN Tryz.prog nat 84 [.agg z,.ptr c 0] η v η'∧Q v η':=by
 obtain⟨y1,y2,y3,y4,rfl,_⟩:=r
 refine call_of (PT:=pl84) Tryz.func84 rfl (U 84 (by decide)) ok84 rfl ?_
 have e:=strEq_S n.nm s
 simp -implicitDefEqProofs(disch:=omega)only[go_sem,sV,hc,e]
 exact k _ (extN (.refl _ _))
theorem rdN_ext {η η':HN} {n:Nd} {z:List AV} (r:rdN tt η n z) (x:ExtB η.nx η η'):rdN tt η' n z:=rdN_keep (keep_b x) x.1 (fun _ h=>h) r
theorem node_then (U:Usual nat) {l:List Nd} {ls:List (List AV)} {η:HN} {v:AV} (hn:l.length≤64) (rv:RdR 6 η v ls) (rl:rdNs tt η l ls) (s:S) {Q:AV→HN→Prop}
  (k:∀η',ExtB η.nx η η'→Q (.int .i64 (encO (ixL (fun n:Nd=>decide (n.nm=s)) l 0))) η'):∃v' η',CallN Tryz.prog nat 43 [v,.str s.1 s.2] η v' η'∧Q v' η':=by
 refine call_of (PT:=pl43) Tryz.func43 rfl (U 43 (by decide)) ok43 rfl ?_
 have ll:=(rdNs_len rl).1
 have E:ExtB η.nx η (η.new (.live false [.str s.1 s.2])):=extN (.refl _ _)
 simp -implicitDefEqProofs(disch:=omega)only[go_sem]
 refine thenN_call (ixNode_spec U (l:=l) (ls:=ls) (p:=fun n:Nd=>decide (n.nm=s)) ll (by omega) (rv.ext (base:=0) E) ?_ fun η2 x2=>?_)
 ·intro ζ Ez i h h' Q k
  obtain⟨h1,r1⟩:=rdNs_at rl i h
  exact nm1_then U (rdN_ext r1 (extT E Ez)) ((Ez.2 _ (Nat.lt_succ_self _)).trans (if_pos rfl)) (Nat.lt_of_lt_of_le (Nat.lt_succ_self _) Ez.1) k
 ·simp -implicitDefEqProofs(disch:=omega)only[go_sem]
  exact k _ (extT E x2)
end Go.Proofs.YtdeejbnhlbddgaaGreatDoor
namespace Go.Proofs.YtdeejbnhlbddgaaGreatDoor
open Go.Eng Go.Plain
set_option autoImplicit false
set_option maxRecDepth 100000
variable {nat:∀ [Deep],Nats}
theorem lt_m1:ltN .i64 18446744073709551615 0=true:=rfl
structure ChkAt (η:HN) (cb:Nat) (v:AV) (h:List Nd) (z:List AV) (m:AV):Prop where
 hb:∃s:S,∃y1 y2 y3 y4 a,z=[.str s.1 s.2,y1,y2,y3,y4,.int .i64 a]∧η.f cb=.live false [v,.str s.1 s.2,y1,y2,y3,y4,.int .i64 a,m]
 hn:cb<η.nx
 hv:∃ls,RdR 6 η v ls∧rdNs tt η h ls
 hl:h.length≤64∧∀d∈h,okN d
end Go.Proofs.YtdeejbnhlbddgaaGreatDoor
namespace Go.Plain
open Go.Eng
set_option autoImplicit false
end Go.Plain
namespace Go.Proofs.YtdeejbnhlbddgaaGreatDoor
open Go.Eng Go.Plain
set_option autoImplicit false
set_option maxRecDepth 100000
variable {nat:∀ [Deep],Nats}
end Go.Proofs.YtdeejbnhlbddgaaGreatDoor
namespace Go.Proofs.YtdeejbnhlbddgaaGreatDoor
open Go.Eng Go.Plain
set_option autoImplicit false
set_option maxRecDepth 100000
variable {nat:∀ [Deep],Nats}
structure Trees (η0:HN) (v:AV) (h:List Nd) (n:Nd) (z:List AV):Prop where
 hv:∃ls,RdR 6 η0 v ls∧rdNs tt η0 h ls
 hz:rdN tt η0 n z
 hl:h.length≤64∧∀d∈h,okN d
 ok:okN n
end Go.Proofs.YtdeejbnhlbddgaaGreatDoor
namespace Go.Plain
open Go.Eng
set_option autoImplicit false
end Go.Plain
namespace Go.Proofs.YtdeejbnhlbddgaaGreatDoor
open Go.Eng Go.Plain
set_option autoImplicit false
set_option maxRecDepth 100000
variable {nat:∀ [Deep],Nats}
end Go.Proofs.YtdeejbnhlbddgaaGreatDoor
namespace Go.Plain
open Go.Eng
set_option autoImplicit false
end Go.Plain
namespace Go.Proofs.YtdeejbnhlbddgaaGreatDoor
open Go.Eng Go.Plain
set_option autoImplicit false
set_option maxRecDepth 100000
variable {nat:∀ [Deep],Nats}
end Go.Proofs.YtdeejbnhlbddgaaGreatDoor
namespace Go.Plain
open Go.Eng
set_option autoImplicit false
theorem rdNs_take {F:Nat→Prop} {η:HN}:∀{l:List Nd} {ls:List (List AV)} (i:Nat),rdNs F η l ls→rdNs F η (l.take i) (ls.take i)
 | [],_,i,h=>by
  have h:_=[]:=h
  subst h
  rw[List.take_nil,List.take_nil];rfl
 |k::ks,_,0,_=>rfl
 |k::ks,_,i+1,⟨l,r,e,h2,h3⟩=>by
  subst e
  exact⟨l,r.take i,rfl,h2,rdNs_take i h3⟩
end Go.Plain
namespace Go.Proofs.YtdeejbnhlbddgaaGreatDoor
open Go.Eng Go.Plain
set_option autoImplicit false
set_option maxRecDepth 100000
variable {nat:∀ [Deep],Nats}
theorem tree_rd {F:Nat→Prop} {η:HN} {v:AV} {l:List Nd} (h:TreeRd F η v l):∃ls,RdR 6 η v ls∧rdNs tt η l ls:=by
 obtain⟨_,ls,h1,h2,_⟩:=h
 exact⟨ls,h1,rdNs_keep (fun _ _ _=>rfl) (Nat.le_refl _) (fun _ _=>trivial) h2⟩
theorem tree_sl {F:Nat→Prop} {η:HN} {v:AV} {l:List Nd} (h:TreeRd F η v l):SlV v:=by
 obtain⟨_,ls,h1,h2,h3⟩:=h
 exact h3
end Go.Proofs.YtdeejbnhlbddgaaGreatDoor
