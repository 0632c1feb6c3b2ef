/- What is proved: what the finding of names does. what the program's check of an expression's names does. what the program's check of an expression's names does. what the program's check of a node's declarations does. what the program's check of a node's equations' names does. what the program's check of names does. what the program's check of names, of a text, does. Conditions: as each theorem says. -/
import Derived.Test.YtkggpdaglhnonaaNameA
import Derived.Test.YtkggpdaglhnonaaPlain
import Derived.Test.YtkggpdaglhnonaaReadE
set_option linter.unusedVariables false
set_option linter.unusedSimpArgs false
set_option linter.unusedSectionVars false
namespace Go.Proofs.Ytkggpdaglhnonaa
open Go.Eng Go.Plain
set_option autoImplicit false
set_option maxRecDepth 100000
variable {nat:∀ [Deep],Nats}
theorem ixVar_spec (U:Usual nat) {α:Type} {l:List α} {ls:List (List AV)} {η:HN} {v:AV} (hl:ls.length = l.length) (hn:l.length ≤ 4294967296) (rv:RdR 5 η v ls) {p:α → Bool} {f:FuncId} {caps:List AV}
  (hc:TellsN nat η l ls p f caps) {Q:AV → HN → Prop} (k:∀ η',ExtB η.nx η η' → Q (.int .i64 (encO (ixL p l 0))) η'):∃ v' η',CallN Try.prog nat 89 [v,.func f [] caps] η v' η' ∧ Q v' η':=by
 refine call_of (PT:=pl89) Try.func89 rfl (U 89 (by decide)) ok89 rfl ?_
 have ln:=fun η' e w=>row_len (η':=η') rv hl (by omega) e w
 simp -implicitDefEqProofs (disch:=omega) only [go_sem,ln]
 obtain ⟨I,hI⟩:∃ I:Nat → FN → HN → Prop,∀ m φ ζ,I m φ ζ ↔ ∃ i,m = l.length - i ∧ i ≤ l.length ∧ (φ 0 = v ∧ φ 1 = .func f [] caps ∧ φ 7 = .int .i64 l.length ∧ φ 8 = .int .i64 i) ∧ ixL p (l.drop i) i = ixL p l 0 ∧ ExtB η.nx η ζ:=⟨_,fun _ _ _=>Iff.rfl⟩
 refine wpN_loop I l.length ((hI _ _ _).2 ⟨0,rfl,Nat.zero_le _,⟨rfl,rfl,rfl,rfl⟩,rfl,.refl _ _⟩) ?_
 intro m φ ζ hi
 obtain ⟨i,hm,hi,⟨p0,p1,p7,p8⟩,ex,Ex⟩:=(hI _ _ _).1 hi
 by_cases hlt:i < l.length
 ·obtain ⟨b,off,cap,ro,row,rfl,hb,hbn,hlen,hrow⟩:=rv.at (i:=i) (by omega)
  have hbz:ζ.f b = _:=(Ex.2 b hbn).trans hb
  simp -implicitDefEqProofs (disch:=omega) only [go_sem,p0,p1,p7,p8,hbz,hrow]
  refine thenN_call (hc ζ Ex i hlt (by omega) _ fun ζ2 x2=>?_)
  rw [ixL_drop hlt] at ex
  cases e:p l[i] with
  | true =>
   rw [e,if_pos rfl] at ex
   rw [← ex] at k
   simp -implicitDefEqProofs (disch:=omega) only [go_sem,p0,p1,p7,p8]
   exact k _ (extT Ex x2)
  | false =>
   rw [e,if_neg (by decide)] at ex
   simp -implicitDefEqProofs (disch:=omega) only [go_sem,p0,p1,p7,p8]
   exact ⟨l.length - (i + 1),by omega,(hI _ _ _).2 ⟨i + 1,rfl,hlt,⟨by exact p0,by exact p1,by exact p7,rfl⟩,ex,extT Ex x2⟩⟩
 ·obtain rfl:i = l.length:=by omega
  rw [List.drop_length] at ex
  rw [← ex] at k
  simp -implicitDefEqProofs (disch:=omega) only [go_sem,p0,p1,p7,p8]
  exact k _ Ex
theorem rdN_ext {η η':HN} {n:Nd} {z:List AV} (r:rdN tt η n z) (x:ExtB η.nx η η'):rdN tt η' n z:=rdN_keep (keep_b x) x.1 (fun _ h=>h) r
end Go.Proofs.Ytkggpdaglhnonaa
namespace Go.Proofs.Ytkggpdaglhnonaa
open Go.Eng Go.Plain
set_option autoImplicit false
set_option maxRecDepth 100000
variable {nat:∀ [Deep],Nats}
theorem lt_m1:ltN .i64 18446744073709551615 0 = true:=rfl
structure ChkAt (η:HN) (cb:Nat) (v:AV) (h:List Nd) (z:List AV) (m:AV):Prop where
 hb:∃ s:S,∃ y1 y2 y3 y4 a,z = [.str s.1 s.2,y1,y2,y3,y4,.int .i64 a] ∧ η.f cb = .live false [v,.str s.1 s.2,y1,y2,y3,y4,.int .i64 a,m]
 hn:cb < η.nx
 hv:∃ ls,RdR 6 η v ls ∧ rdNs tt η h ls
 hl:h.length ≤ 64 ∧ ∀ d ∈ h,okN d
end Go.Proofs.Ytkggpdaglhnonaa
namespace Go.Plain
open Go.Eng
set_option autoImplicit false
theorem MapAt_ext {η η':HN} {b:Nat} {M:Nat × Nat → Option AV} (h:MapAt η b M) (hb:b < η.nx) (x:ExtB η.nx η η'):MapAt η' b M:=h.eq (x.2 b hb)
def setM (P:S → Bool):Nat × Nat → Option AV:=fun s=>if P s then some (.bool true) else none
theorem setM_look {η:HN} {b:Nat} {P:S → Bool} (h:MapAt η b (setM P)) (s:S):lkD (some qStr) (some (.bool false)) (.map b) (.str s.1 s.2) false η = .ok (.bool (P s)) η:=by
 rw [h.look s]
 unfold setM
 cases P s <;> rfl
end Go.Plain
namespace Go.Proofs.Ytkggpdaglhnonaa
open Go.Eng Go.Plain
set_option autoImplicit false
set_option maxRecDepth 100000
variable {nat:∀ [Deep],Nats}
end Go.Proofs.Ytkggpdaglhnonaa
namespace Go.Proofs.Ytkggpdaglhnonaa
open Go.Eng Go.Plain
set_option autoImplicit false
set_option maxRecDepth 100000
variable {nat:∀ [Deep],Nats}
theorem setM_upd {P:S → Bool} (s:S):(fun t=>if t = s then some (AV.bool true) else setM P t) = setM (fun t=>decide (t = s) || P t):=by
 funext t
 unfold setM
 by_cases h:t = s
 ·rw [if_pos h]
  show _ = if (decide (t = s) || P t) = true then _ else _
  rw [decide_eq_true h]; rfl
 ·rw [if_neg h]
  show _ = if (decide (t = s) || P t) = true then _ else _
  rw [decide_eq_false h]; rfl
theorem setM_put {η:HN} {b:Nat} {P:S → Bool} (h:MapAt η b (setM P)) (s:S):∃ es,muD (some qStr) b (.str s.1 s.2) (.bool true) η = .ok und (η.put b (.mp es)) ∧ MapAt (η.put b (.mp es)) b (setM fun t=>decide (t = s) || P t):=by
 obtain ⟨es,h1,h2⟩:=h.upd s (.bool true)
 rw [setM_upd] at h2
 exact ⟨es,h1,h2⟩
theorem setM_new {η:HN}:MapAt (η.new (.mp [])) η.nx (setM fun _=>false):=MapAt.new
structure Trees (η0:HN) (v:AV) (h:List Nd) (n:Nd) (z:List AV):Prop where
 hv:∃ ls,RdR 6 η0 v ls ∧ rdNs tt η0 h ls
 hz:rdN tt η0 n z
 hl:h.length ≤ 64 ∧ ∀ d ∈ h,okN d
 ok:okN n
end Go.Proofs.Ytkggpdaglhnonaa
namespace Go.Plain
open Go.Eng
set_option autoImplicit false
end Go.Plain
namespace Go.Proofs.Ytkggpdaglhnonaa
open Go.Eng Go.Plain
set_option autoImplicit false
set_option maxRecDepth 100000
variable {nat:∀ [Deep],Nats}
end Go.Proofs.Ytkggpdaglhnonaa
namespace Go.Plain
open Go.Eng
set_option autoImplicit false
end Go.Plain
namespace Go.Proofs.Ytkggpdaglhnonaa
open Go.Eng Go.Plain
set_option autoImplicit false
set_option maxRecDepth 100000
variable {nat:∀ [Deep],Nats}
end Go.Proofs.Ytkggpdaglhnonaa
namespace Go.Plain
open Go.Eng
set_option autoImplicit false
end Go.Plain
namespace Go.Proofs.Ytkggpdaglhnonaa
open Go.Eng Go.Plain
set_option autoImplicit false
set_option maxRecDepth 100000
variable {nat:∀ [Deep],Nats}
theorem tree_rd {F:Nat → Prop} {η:HN} {v:AV} {l:List Nd} (h:TreeRd F η v l):∃ ls,RdR 6 η v ls ∧ rdNs tt η l ls:=by
 obtain ⟨_,ls,h1,h2,_⟩:=h
 exact ⟨ls,h1,rdNs_keep (fun _ _ _=>rfl) (Nat.le_refl _) (fun _ _=>trivial) h2⟩
end Go.Proofs.Ytkggpdaglhnonaa
