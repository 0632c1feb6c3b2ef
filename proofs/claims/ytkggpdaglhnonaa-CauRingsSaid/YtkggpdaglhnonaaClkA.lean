/- What is proved: what finding a declaration does. what a name's clock is. what the leaves of the program's clocks do. Conditions: as each theorem says. -/
import Derived.Test.YtkggpdaglhnonaaNameB
import Derived.Test.YtkggpdaglhnonaaPlain
set_option linter.unusedVariables false
set_option linter.unusedSimpArgs false
set_option linter.unusedSectionVars false
namespace Go.Proofs.Ytkggpdaglhnonaa
open Go.Eng Go.Plain
set_option autoImplicit false
set_option maxRecDepth 100000
variable {nat:∀ [Deep],Nats}
theorem find1_then (U:Usual nat) {η:HN} {v:Vr} {c:Nat} {s:S} (hc:η.f c = .live false [.str s.1 s.2]) (hcn:c < η.nx) {Q:AV → HN → Prop} (k:∀ η',ExtB η.nx η η' → Q (.bool (decide (v.nm = s))) η'):∃ v' η',CallN Try.prog nat 90 [.agg v.cells,.ptr c 0] η v' η' ∧ Q v' η':=by
 refine call_of (PT:=pl90) Try.func90 rfl (U 90 (by decide)) ok90 rfl ?_
 have e:=strEq_S v.nm s
 have hv:v.cells = [.str v.nm.1 v.nm.2,.int .i64 v.kd,.str v.on.1 v.on.2,.bool v.nt,.int .i64 v.a]:=rfl
 rw [hv]
 simp -implicitDefEqProofs (disch:=omega) only [go_sem,hc,e]
 exact k _ (extN (.refl _ _))
theorem declared_then (U:Usual nat) {η:HN} {n:Nd} {z:List AV} (r:rdN tt η n z) (ok:okN n) {Q:AV → HN → Prop} (k:∀ x η',RdR 5 η' x ((allOf n).map Vr.cells) → ExtB η.nx η η' → Q x η'):∃ v' η',CallN Try.prog nat 88 [.agg z] η v' η' ∧ Q v' η':=by
 obtain ⟨y1,y2,y3,y4,rfl,-,r1,r2,r3,-⟩:=r
 obtain ⟨ok0,ok1,ok2,ok3,ok4,ok5⟩:=ok
 refine call_of (PT:=pl88) Try.func88 rfl (U 88 (by decide)) ok88 rfl ?_
 have q1:=r1.cells
 have q2:=r2.cells
 have q3:=r3.cells
 have hsn:sV n.nm = .str n.nm.1 n.nm.2:=rfl
 simp -implicitDefEqProofs (disch:=omega) only [go_sem,hsn,q1,q2,q3,repL_s,repL_z,setsL_c]
 have E:ExtB η.nx η ((η.new (.live false [.str n.nm.1 n.nm.2,y1,y2,y3,y4,.int .i64 n.a])).new (.live false [y1,y2,y3])):=extN (extN (.refl _ _))
 have sz:sumL [n.ins,n.outs,n.locs] ≤ 4294967296:=by
  have h1:=ok1.1
  have h2:=ok2.1
  have h3:=ok3.1
  unfold sumL
  simp only [List.flatten_cons,List.flatten_nil,List.length_append,List.length_nil]
  omega
 refine thenN_call (concat_then U (b:=η.nx + 1) (ys:=[y1,y2,y3]) (ll:=[n.ins,n.outs,n.locs]) ⟨r1.ext (base:=0) E,r2.ext (base:=0) E,r3.ext (base:=0) E,trivial⟩ (if_pos rfl) (Nat.lt_succ_self _) sz (Nat.le_of_ble_eq_true rfl) fun x η2 rx E2=>?_)
 have ef:[n.ins,n.outs,n.locs].flatten = allOf n:=by simp [allOf]
 rw [ef] at rx
 simp -implicitDefEqProofs (disch:=omega) only [go_sem]
 exact k _ _ rx (extT E E2)
def zVr:Vr:=⟨(0,0),0,(0,0),false,0⟩
theorem all_len {n:Nd} (ok:okN n):(allOf n).length ≤ 4294967296 ∧ ∀ v ∈ allOf n,okV v:=by
 obtain ⟨ok0,ok1,ok2,ok3,ok4,ok5⟩:=ok
 refine ⟨?_,fun v hv=>?_⟩
 ·have h1:=ok1.1
  have h2:=ok2.1
  have h3:=ok3.1
  unfold allOf
  rw [List.length_append,List.length_append]; omega
 ·rcases List.mem_append.1 hv with hv | hv
  ·exact ok1.2 v hv
  ·rcases List.mem_append.1 hv with hv | hv
   ·exact ok2.2 v hv
   ·exact ok3.2 v hv
theorem find_then (U:Usual nat) {η:HN} {n:Nd} {z:List AV} (r:rdN tt η n z) (ok:okN n) (s:S) {Q:AV → HN → Prop} (k:∀ η',ExtB η.nx η η' → Q (.tup [.agg ((findV n s).getD zVr).cells,.bool (findV n s).isSome]) η'):∃ v' η',CallN Try.prog nat 51 [.agg z,.str s.1 s.2] η v' η' ∧ Q v' η':=by
 obtain ⟨hal,hok⟩:=all_len ok
 have lz:=rdN_len r
 refine call_of (PT:=pl51) Try.func51 rfl (U 51 (by decide)) ok51 rfl ?_
 have r':=r
 obtain ⟨y1,y2,y3,y4,rfl,-⟩:=r'
 have hsn:sV n.nm = .str n.nm.1 n.nm.2:=rfl
 have E:ExtB η.nx η (((η.new (.live false [sV n.nm,y1,y2,y3,y4,.int .i64 n.a])).new (.live false [.str s.1 s.2])).new (.live false [.str 0 0,.int .i64 0,.str 0 0,.bool false,.int .i64 0])):=extN (extN (extN (.refl _ _)))
 have c1:(((η.new (.live false [sV n.nm,y1,y2,y3,y4,.int .i64 n.a])).new (.live false [.str s.1 s.2])).new (.live false [.str 0 0,.int .i64 0,.str 0 0,.bool false,.int .i64 0])).f (η.nx + 1) = .live false [.str s.1 s.2]:=(if_neg (by show ¬ η.nx + 1 = η.nx + 1 + 1; omega)).trans (if_pos rfl)
 have c2:(((η.new (.live false [sV n.nm,y1,y2,y3,y4,.int .i64 n.a])).new (.live false [.str s.1 s.2])).new (.live false [.str 0 0,.int .i64 0,.str 0 0,.bool false,.int .i64 0])).f (η.nx + 1 + 1) = .live false [.str 0 0,.int .i64 0,.str 0 0,.bool false,.int .i64 0]:=if_pos rfl
 have nn:(((η.new (.live false [sV n.nm,y1,y2,y3,y4,.int .i64 n.a])).new (.live false [.str s.1 s.2])).new (.live false [.str 0 0,.int .i64 0,.str 0 0,.bool false,.int .i64 0])).nx = η.nx + 3:=rfl
 simp -implicitDefEqProofs (disch:=omega) only [go_sem]
 generalize ((η.new (.live false [sV n.nm,y1,y2,y3,y4,.int .i64 n.a])).new (.live false [.str s.1 s.2])).new (.live false [.str 0 0,.int .i64 0,.str 0 0,.bool false,.int .i64 0]) = η1 at *
 refine thenN_call (declared_then U (rdN_ext r E) ok fun x η2 rx E2=>?_)
 simp -implicitDefEqProofs (disch:=omega) only [go_sem]
 have n2:=E2.1
 have c12:η2.f (η.nx + 1) = _:=(E2.2 _ (by omega)).trans c1
 refine thenN_call (ixVar_spec U (l:=allOf n) (p:=fun v=>decide (v.nm = s)) (by rw [List.length_map]) hal rx ?_ fun η3 E3=>?_)
 ·intro ζ Ez j h1 h2 Q' k'
  rw [List.getElem_map]
  exact find1_then U ((Ez.2 _ (by omega)).trans c12) (by have:=Ez.1; omega) k'
 have n3:=E3.1
 have c23:η3.f (η.nx + 1 + 1) = _:=(E3.2 _ (by omega)).trans ((E2.2 _ (by omega)).trans c2)
 have fd:=ixL_find (fun v:Vr=>decide (v.nm = s)) (allOf n) 0
 have EE:=extT (extT E E2) E3
 cases e:ixL (fun v:Vr=>decide (v.nm = s)) (allOf n) 0 with
 | none =>
  rw [e] at fd
  have fd:none = findV n s:=fd
  rw [← fd] at k
  have ee:encO none = 18446744073709551615:=rfl
  have lt_m1:ltN .i64 18446744073709551615 0 = true:=rfl
  simp -implicitDefEqProofs (disch:=omega) only [go_sem,ee,lt_m1,c23]
  exact k _ (extP EE (by omega))
 | some j =>
  obtain ⟨_,hj,_⟩:=ixL_lt e
  have hj:j < (allOf n).length:=by omega
  rw [e] at fd
  have fd:(allOf n)[j - 0]? = findV n s:=fd
  rw [Nat.sub_zero,List.getElem?_eq_getElem hj] at fd
  rw [← fd] at k
  obtain ⟨b,off,cap,ro,row,rfl,hbv,hbn,hlen,hrow⟩:=vr_at rx hj
  have hbz:η3.f b = _:=(E3.2 b hbn).trans hbv
  have ee:encO (some j) = j:=rfl
  generalize (allOf n)[j] = w at *
  have hwc:w.cells = [.str w.nm.1 w.nm.2,.int .i64 w.kd,.str w.on.1 w.on.2,.bool w.nt,.int .i64 w.a]:=rfl
  rw [hwc] at hrow
  simp -implicitDefEqProofs (disch:=omega) only [go_sem,ee,c23,hbz,hrow]
  exact k _ (extP EE (by omega))
end Go.Proofs.Ytkggpdaglhnonaa
namespace Go.Plain
open Go.Eng
set_option autoImplicit false
end Go.Plain
namespace Go.Proofs.Ytkggpdaglhnonaa
open Go.Eng Go.Plain
set_option autoImplicit false
set_option maxRecDepth 100000
variable {nat:∀ [Deep],Nats}
end Go.Proofs.Ytkggpdaglhnonaa
namespace Go.Plain
open Go.Eng
set_option autoImplicit false
end Go.Plain
namespace Go.Proofs.Ytkggpdaglhnonaa
open Go.Eng Go.Plain
set_option autoImplicit false
set_option maxRecDepth 100000
variable {nat:∀ [Deep],Nats}
end Go.Proofs.Ytkggpdaglhnonaa
