/- What is proved: more leaves of names. Conditions: as each theorem says. -/
import Derived.Test.YtpjmiopplfmcfaaNameB
import Derived.Test.YtpjmiopplfmcfaaFactsT
set_option linter.unusedVariables false
set_option linter.unusedSimpArgs false
set_option linter.unusedSectionVars false
namespace Go.Plain
open Go.Eng
set_option autoImplicit false
end Go.Plain
namespace Go.Proofs.Ytpjmiopplfmcfaa
open Go.Eng Go.Plain
set_option autoImplicit false
set_option maxRecDepth 100000
section
variable {P:Program} {C:Go.Eng.Spec} {all:List Oper} {K:FN → HN → Prop} {nx0:Nat} {ks:List DK} {r:List Oper} {j:Nat} {d:Option Nat} {φ:FN} {ηs:List HN} {rs:List RecN}
end
variable {nat:∀ [Deep],Nats}
end Go.Proofs.Ytpjmiopplfmcfaa
namespace Go.Proofs.Ytpjmiopplfmcfaa
open Go.Eng Go.Plain
set_option autoImplicit false
set_option maxRecDepth 100000
variable {nat:∀ [Deep],Nats}
end Go.Proofs.Ytpjmiopplfmcfaa
namespace Go.Proofs.Ytpjmiopplfmcfaa
open Go.Eng Go.Plain
set_option autoImplicit false
set_option maxRecDepth 100000
variable {nat:∀ [Deep],Nats}
end Go.Proofs.Ytpjmiopplfmcfaa
namespace Go.Plain
open Go.Eng
set_option autoImplicit false
end Go.Plain
namespace Go.Proofs.Ytpjmiopplfmcfaa
open Go.Eng Go.Plain
set_option autoImplicit false
set_option maxRecDepth 100000
variable {nat:∀ [Deep],Nats}
theorem ixNode_spec (U:Usual nat) {α:Type} {l:List α} {ls:List (List AV)} {η:HN} {v:AV} (hl:ls.length = l.length) (hn:l.length ≤ 4294967296) (rv:RdR 6 η v ls) {p:α → Bool} {f:FuncId} {caps:List AV}
  (hc:TellsN nat η l ls p f caps) {Q:AV → HN → Prop} (k:∀ η',ExtB η.nx η η' → Q (.int .i64 (encO (ixL p l 0))) η'):∃ v' η',CallN Try.prog nat 53 [v,.func f [] caps] η v' η' ∧ Q v' η':=by
 refine call_of (PT:=pl53) Try.func53 rfl (U 53 (by decide)) ok53 rfl ?_
 have ln:=fun η' e w=>row_len (η':=η') rv hl (by omega) e w
 simp -implicitDefEqProofs (disch:=omega) only [go_sem,ln]
 obtain ⟨I,hI⟩:∃ I:Nat → FN → HN → Prop,∀ m φ ζ,I m φ ζ ↔ ∃ i,m = l.length - i ∧ i ≤ l.length ∧ (φ 0 = v ∧ φ 1 = .func f [] caps ∧ φ 7 = .int .i64 l.length ∧ φ 8 = .int .i64 i) ∧ ixL p (l.drop i) i = ixL p l 0 ∧ ExtB η.nx η ζ:=⟨_,fun _ _ _=>Iff.rfl⟩
 refine wpN_loop I l.length ((hI _ _ _).2 ⟨0,rfl,Nat.zero_le _,⟨rfl,rfl,rfl,rfl⟩,rfl,.refl _ _⟩) ?_
 intro m φ ζ hi
 obtain ⟨i,hm,hi,⟨p0,p1,p7,p8⟩,ex,Ex⟩:=(hI _ _ _).1 hi
 by_cases hlt:i < l.length
 ·obtain ⟨b,off,cap,ro,row,rfl,hb,hbn,hlen,hrow⟩:=rv.at (i:=i) (by omega)
  have hbz:ζ.f b = _:=(Ex.2 b hbn).trans hb
  simp -implicitDefEqProofs (disch:=omega) only [go_sem,p0,p1,p7,p8,hbz,hrow]
  refine thenN_call (hc ζ Ex i hlt (by omega) _ fun ζ2 x2=>?_)
  rw [ixL_drop hlt] at ex
  cases e:p l[i] with
  | true =>
   rw [e,if_pos rfl] at ex
   rw [← ex] at k
   simp -implicitDefEqProofs (disch:=omega) only [go_sem,p0,p1,p7,p8]
   exact k _ (extT Ex x2)
  | false =>
   rw [e,if_neg (by decide)] at ex
   simp -implicitDefEqProofs (disch:=omega) only [go_sem,p0,p1,p7,p8]
   exact ⟨l.length - (i + 1),by omega,(hI _ _ _).2 ⟨i + 1,rfl,hlt,⟨by exact p0,by exact p1,by exact p7,rfl⟩,ex,extT Ex x2⟩⟩
 ·obtain rfl:i = l.length:=by omega
  rw [List.drop_length] at ex
  rw [← ex] at k
  simp -implicitDefEqProofs (disch:=omega) only [go_sem,p0,p1,p7,p8]
  exact k _ Ex
end Go.Proofs.Ytpjmiopplfmcfaa
namespace Go.Proofs.Ytpjmiopplfmcfaa
open Go.Eng Go.Plain
set_option autoImplicit false
set_option maxRecDepth 100000
variable {nat:∀ [Deep],Nats}
end Go.Proofs.Ytpjmiopplfmcfaa

namespace Go.Proofs.Ytpjmiopplfmcfaa
open Go.Eng Go.Plain
set_option autoImplicit false
set_option maxRecDepth 100000
variable {nat:∀ [Deep],Nats}
theorem nm1_then (U:Usual nat) {η:HN} {z:List AV} {n:Nd} {c:Nat} {s:S} (r:rdN tt η n z) (hc:η.f c = .live false [.str s.1 s.2]) (hcn:c < η.nx) {Q:AV → HN → Prop} (k:∀ η',ExtB η.nx η η' → Q (.bool (decide (n.nm = s))) η'):∃ v η',CallN Try.prog nat 54 [.agg z,.ptr c 0] η v η' ∧ Q v η':=by
 obtain ⟨y1,y2,y3,y4,rfl,_⟩:=r
 refine call_of (PT:=pl54) Try.func54 rfl (U 54 (by decide)) ok54 rfl ?_
 have e:=strEq_S n.nm s
 simp -implicitDefEqProofs (disch:=omega) only [go_sem,sV,hc,e]
 exact k _ (extN (.refl _ _))
theorem node_then (U:Usual nat) {l:List Nd} {ls:List (List AV)} {η:HN} {v:AV} (hn:l.length ≤ 64) (rv:RdR 6 η v ls) (rl:rdNs tt η l ls) (s:S) {Q:AV → HN → Prop}
  (k:∀ η',ExtB η.nx η η' → Q (.int .i64 (encO (ixL (fun n:Nd=>decide (n.nm = s)) l 0))) η'):∃ v' η',CallN Try.prog nat 20 [v,.str s.1 s.2] η v' η' ∧ Q v' η':=by
 refine call_of (PT:=pl20) Try.func20 rfl (U 20 (by decide)) ok20 rfl ?_
 have ll:=(rdNs_len rl).1
 have E:ExtB η.nx η (η.new (.live false [.str s.1 s.2])):=extN (.refl _ _)
 simp -implicitDefEqProofs (disch:=omega) only [go_sem]
 refine thenN_call (ixNode_spec U (l:=l) (ls:=ls) (p:=fun n:Nd=>decide (n.nm = s)) ll (by omega) (rv.ext (base:=0) E) ?_ fun η2 x2=>?_)
 ·intro ζ Ez i h h' Q k
  obtain ⟨h1,r1⟩:=rdNs_at rl i h
  exact nm1_then U (rdN_ext r1 (extT E Ez)) ((Ez.2 _ (Nat.lt_succ_self _)).trans (if_pos rfl)) (Nat.lt_of_lt_of_le (Nat.lt_succ_self _) Ez.1) k
 ·simp -implicitDefEqProofs (disch:=omega) only [go_sem]
  exact k _ (extT E x2)
end Go.Proofs.Ytpjmiopplfmcfaa
namespace Go.Proofs.Ytpjmiopplfmcfaa
open Go.Eng Go.Plain
set_option autoImplicit false
set_option maxRecDepth 100000
variable {nat:∀ [Deep],Nats}
theorem ChkAt.ext {η η':HN} {cb:Nat} {v m:AV} {h:List Nd} {z:List AV} (c:ChkAt η cb v h z m) (x:ExtB η.nx η η'):ChkAt η' cb v h z m:=by
 obtain ⟨s,y1,y2,y3,y4,a,h1,h2⟩:=c.hb
 obtain ⟨ls,h3,h4⟩:=c.hv
 exact ⟨⟨s,y1,y2,y3,y4,a,h1,(x.2 cb c.hn).trans h2⟩,Nat.lt_of_lt_of_le c.hn x.1,⟨ls,h3.ext (base:=0) x,rdNs_keep (keep_b x) x.1 (fun _ h=>h) h4⟩,c.hl⟩
end Go.Proofs.Ytpjmiopplfmcfaa
namespace Go.Plain
open Go.Eng
set_option autoImplicit false
end Go.Plain
namespace Go.Proofs.Ytpjmiopplfmcfaa
open Go.Eng Go.Plain
set_option autoImplicit false
set_option maxRecDepth 100000
variable {nat:∀ [Deep],Nats}
end Go.Proofs.Ytpjmiopplfmcfaa
namespace Go.Proofs.Ytpjmiopplfmcfaa
open Go.Eng Go.Plain
set_option autoImplicit false
set_option maxRecDepth 100000
variable {nat:∀ [Deep],Nats}
theorem Trees.chk {η0 η:HN} {v m:AV} {h:List Nd} {n:Nd} {z:List AV} {cb:Nat} (T:Trees η0 v h n z) (x:ExtB η0.nx η0 η) (hb:η.f cb = .live false (v :: (z ++ [m]))) (hn:cb < η.nx):ChkAt η cb v h z m:=by
 obtain ⟨ls,h1,h2⟩:=T.hv
 obtain ⟨y1,y2,y3,y4,rfl,_⟩:=T.hz
 exact ⟨⟨n.nm,y1,y2,y3,y4,n.a,rfl,hb⟩,hn,⟨ls,h1.ext (base:=0) x,rdNs_keep (keep_b x) x.1 (fun _ h=>h) h2⟩,T.hl⟩
end Go.Proofs.Ytpjmiopplfmcfaa
namespace Go.Plain
open Go.Eng
set_option autoImplicit false
end Go.Plain
namespace Go.Proofs.Ytpjmiopplfmcfaa
open Go.Eng Go.Plain
set_option autoImplicit false
set_option maxRecDepth 100000
variable {nat:∀ [Deep],Nats}
end Go.Proofs.Ytpjmiopplfmcfaa
namespace Go.Plain
open Go.Eng
set_option autoImplicit false
end Go.Plain
namespace Go.Proofs.Ytpjmiopplfmcfaa
open Go.Eng Go.Plain
set_option autoImplicit false
set_option maxRecDepth 100000
variable {nat:∀ [Deep],Nats}
end Go.Proofs.Ytpjmiopplfmcfaa
namespace Go.Plain
open Go.Eng
set_option autoImplicit false
theorem rdR_take {s b i:Nat} {η:HN} {ls:List (List AV)} {ro:Bool} {cap:Cp} (hb:η.f b = .live ro ls.flatten) (hn:b < η.nx) (hl:∀ l ∈ ls,l.length = s) (hi:i ≤ ls.length):RdR s η (.slice b 0 i cap) (ls.take i):=by
 have tl:(ls.take i).length = i:=by rw [List.length_take]; omega
 have hl':∀ l ∈ ls.take i,l.length = s:=fun l h=>hl l (List.mem_of_mem_take h)
 have fl:=flat_len _ hl'
 have e:ls.flatten = (ls.take i).flatten ++ (ls.drop i).flatten:=by rw [← List.flatten_append,List.take_append_drop]
 refine .inr ⟨b,0,cap,ro,ls.flatten,by rw [tl],hb,hn,?_,hl',?_⟩
 ·rw [e,List.length_append,fl]; omega
 ·rw [List.drop_zero,e,← fl,List.take_left']; rfl
end Go.Plain
namespace Go.Proofs.Ytpjmiopplfmcfaa
open Go.Eng Go.Plain
set_option autoImplicit false
set_option maxRecDepth 100000
variable {nat:∀ [Deep],Nats}
end Go.Proofs.Ytpjmiopplfmcfaa

