/- What is proved: what the leaves of the document's checks do. what the document's clocks of names do. what the document's clock of a name, the places of nodes, equations, inputs do. what the places of nodes, equations, inputs by their names do. whether two clocks are one, as law 8 asks it. what a copy of a clock is. what the program's clock of an expression, asked from outside, is. Conditions: as each theorem says. -/
import Derived.Test.YtpjmiopplfmcfaaClkB
import Derived.Test.YtpjmiopplfmcfaaPlainR
set_option linter.unusedVariables false
set_option linter.unusedSimpArgs false
set_option linter.unusedSectionVars false
namespace Go.Plain
open Go.Eng
set_option autoImplicit false
theorem rdR_A {s:Nat} {η:HN} {y:AV} {ls:List (List AV)} (h:RdR s η y ls):RdA s η y ls.length ls.flatten:=by
 rcases h with ⟨rfl,h⟩ | ⟨b,off,cap,ro,row,h1,h2,h3,h4,h5,h6⟩
 ·exact .inl ⟨rfl,rfl,h⟩
 ·exact .inr ⟨b,off,cap,ro,row,h1,h2,h3,h4,flat_len _ h5,h6⟩
theorem vrs_len (l:List Vr):(l.map Vr.cells).length = l.length:=List.length_map ..
end Go.Plain
namespace Go.Proofs.Ytpjmiopplfmcfaa
open Go.Eng Go.Plain
set_option autoImplicit false
set_option maxRecDepth 100000
variable {nat:∀ [Deep],Nats}
theorem vars6_then (U:Usual nat) {η:HN} {n:Nd} {z:List AV} (r:rdN tt η n z) (ok:okN n) {Q:AV → HN → Prop} (k:∀ x η',OwnA 5 η.nx η' x (allOf n).length ((allOf n).map Vr.cells).flatten → ExtB η.nx η η' → Q x η'):∃ v' η',CallN Try.prog nat 31 [.agg z] η v' η' ∧ Q v' η':=by
 obtain ⟨y1,y2,y3,y4,rfl,-,r1,r2,r3,-⟩:=r
 obtain ⟨ok0,ok1,ok2,ok3,ok4,ok5⟩:=ok
 refine call_of (PT:=pl31) Try.func31 rfl (U 31 (by decide)) ok31 rfl ?_
 have hsn:sV n.nm = .str n.nm.1 n.nm.2:=rfl
 simp -implicitDefEqProofs (disch:=omega) only [go_sem,hsn]
 have h1:=ok1.1
 have h2:=ok2.1
 have h3:=ok3.1
 have E:ExtB η.nx η ((η.new (.live false [.str n.nm.1 n.nm.2,y1,y2,y3,y4,.int .i64 n.a])).new (.live false [])):=extN (extN (.refl _ _))
 have c0:((η.new (.live false [.str n.nm.1 n.nm.2,y1,y2,y3,y4,.int .i64 n.a])).new (.live false [])).f η.nx = .live false [.str n.nm.1 n.nm.2,y1,y2,y3,y4,.int .i64 n.a]:=(if_neg (by show ¬ η.nx = η.nx + 1; omega)).trans (if_pos rfl)
 have c1:((η.new (.live false [.str n.nm.1 n.nm.2,y1,y2,y3,y4,.int .i64 n.a])).new (.live false [])).f (η.nx + 1) = .live false []:=if_pos rfl
 have n0:((η.new (.live false [.str n.nm.1 n.nm.2,y1,y2,y3,y4,.int .i64 n.a])).new (.live false [])).nx = η.nx + 2:=rfl
 generalize (η.new (.live false [.str n.nm.1 n.nm.2,y1,y2,y3,y4,.int .i64 n.a])).new (.live false []) = η1 at *
 have o1:OwnA 5 (η.nx + 1) η1 (.slice (η.nx + 1) 0 0 (.kn 0)) 0 []:=⟨rfl,.inr ⟨η.nx + 1,Nat.le_refl _,by omega,.inl ⟨rfl,rfl,_,c1⟩⟩⟩
 have q1:=rdR_A (r1.ext (base:=0) E)
 rw [vrs_len] at q1
 refine thenN_app (by decide) o1 q1 (by omega) (by omega) fun x2 η2 o2 e2=>?_
 have E2:ExtB η.nx η η2:=⟨by have:=e2.1; omega,fun b hb=>(e2.2 b (by omega)).trans (E.2 b hb)⟩
 have c2:=(e2.2 _ (Nat.lt_succ_self _)).trans c0
 have n2:=e2.1
 simp -implicitDefEqProofs (disch:=omega) only [go_sem,c2]
 have q2:=rdR_A (r2.ext (base:=0) E2)
 rw [vrs_len] at q2
 refine thenN_app (by decide) o2 q2 (by omega) (by omega) fun x3 η3 o3 e3=>?_
 have E3:ExtB η.nx η η3:=⟨by have:=e3.1; omega,fun b hb=>(e3.2 b (by omega)).trans (E2.2 b hb)⟩
 have c3:=(e3.2 _ (Nat.lt_succ_self _)).trans c2
 have n3:=e3.1
 simp -implicitDefEqProofs (disch:=omega) only [go_sem,c3]
 have q3:=rdR_A (r3.ext (base:=0) E3)
 rw [vrs_len] at q3
 refine thenN_app (by decide) o3 q3 (by omega) (by omega) fun x4 η4 o4 e4=>?_
 have E4:ExtB η.nx η η4:=⟨by have:=e4.1; omega,fun b hb=>(e4.2 b (by omega)).trans (E3.2 b hb)⟩
 simp -implicitDefEqProofs (disch:=omega) only [go_sem]
 refine k _ _ ?_ E4
 have e1:(allOf n).length = 0 + n.ins.length + n.outs.length + n.locs.length:=by unfold allOf; rw [List.length_append,List.length_append]; omega
 have e2:((allOf n).map Vr.cells).flatten = [] ++ (n.ins.map Vr.cells).flatten ++ (n.outs.map Vr.cells).flatten ++ (n.locs.map Vr.cells).flatten:=by unfold allOf; simp only [List.map_append,List.flatten_append,List.nil_append,List.append_assoc]
 rw [e1,e2]
 obtain ⟨p1,p2⟩:=o4
 refine ⟨p1,p2.imp id fun ⟨b,g1,g2,g3⟩=>⟨b,by omega,g2,g3⟩⟩
theorem find6_then (U:Usual nat) {η:HN} {n:Nd} {z:List AV} (r:rdN tt η n z) (ok:okN n) (s:S) {Q:AV → HN → Prop} (k:∀ η',ExtB η.nx η η' → Q (.tup [.agg ((findV n s).getD zVr).cells,.bool (findV n s).isSome]) η'):∃ v' η',CallN Try.prog nat 70 [.agg z,.str s.1 s.2] η v' η' ∧ Q v' η':=by
 obtain ⟨hal,hok⟩:=all_len ok
 refine call_of (PT:=pl70) Try.func70 rfl (U 70 (by decide)) ok70 rfl ?_
 have r':=r
 obtain ⟨y1,y2,y3,y4,rfl,-⟩:=r'
 have hsn:sV n.nm = .str n.nm.1 n.nm.2:=rfl
 have E:ExtB η.nx η ((η.new (.live false [.str n.nm.1 n.nm.2,y1,y2,y3,y4,.int .i64 n.a])).new (.live false [.str 0 0,.int .i64 0,.str 0 0,.bool false,.int .i64 0])):=extN (extN (.refl _ _))
 have c1:((η.new (.live false [.str n.nm.1 n.nm.2,y1,y2,y3,y4,.int .i64 n.a])).new (.live false [.str 0 0,.int .i64 0,.str 0 0,.bool false,.int .i64 0])).f (η.nx + 1) = .live false [.str 0 0,.int .i64 0,.str 0 0,.bool false,.int .i64 0]:=if_pos rfl
 have c0:((η.new (.live false [.str n.nm.1 n.nm.2,y1,y2,y3,y4,.int .i64 n.a])).new (.live false [.str 0 0,.int .i64 0,.str 0 0,.bool false,.int .i64 0])).f η.nx = .live false [.str n.nm.1 n.nm.2,y1,y2,y3,y4,.int .i64 n.a]:=(if_neg (by show ¬ η.nx = η.nx + 1; omega)).trans (if_pos rfl)
 have nn:((η.new (.live false [.str n.nm.1 n.nm.2,y1,y2,y3,y4,.int .i64 n.a])).new (.live false [.str 0 0,.int .i64 0,.str 0 0,.bool false,.int .i64 0])).nx = η.nx + 2:=rfl
 simp -implicitDefEqProofs (disch:=omega) only [go_sem,hsn,repL_s,repL_z,setsL_c]
 generalize (η.new (.live false [.str n.nm.1 n.nm.2,y1,y2,y3,y4,.int .i64 n.a])).new (.live false [.str 0 0,.int .i64 0,.str 0 0,.bool false,.int .i64 0]) = η1 at *
 refine thenN_call (vars6_then U (rdN_ext r E) ok fun x η2 ox E2=>?_)
 have n2:=E2.1
 have d1:η2.f (η.nx + 1) = _:=(E2.2 _ (by omega)).trans c1
 have ox':OwnA 5 η1.nx η2 x ((allOf n).map Vr.cells).length ((allOf n).map Vr.cells).flatten:=by rw [vrs_len]; exact ox
 have rx:=own_rdR ox' (fun l hl=>by obtain ⟨v,_,rfl⟩:=List.mem_map.1 hl; rfl)
 have lx:=fun η' e w=>row_len (η':=η') rx (vrs_len _) (by omega) e w
 simp -implicitDefEqProofs (disch:=omega) only [go_sem]
 have ef:findV n s = (allOf n).find? fun v=>decide (v.nm = s):=rfl
 rw [ef] at k
 generalize allOf n = V at *
 obtain ⟨I,hI⟩:∃ I:Nat → FN → HN → Prop,∀ m φ ζ,I m φ ζ ↔ ∃ i,m = V.length - i ∧ i ≤ V.length ∧ (φ 1 = .str s.1 s.2 ∧ φ 4 = .ptr (η.nx + 1) 0 ∧ φ 6 = x ∧ φ 7 = .int .i64 i) ∧ ζ = η2 ∧ (V.drop i).find? (fun v=>decide (v.nm = s)) = V.find? (fun v=>decide (v.nm = s)):=⟨_,fun _ _ _=>Iff.rfl⟩
 refine wpN_loop I V.length ((hI _ _ _).2 ⟨0,rfl,Nat.zero_le _,⟨rfl,rfl,rfl,rfl⟩,rfl,rfl⟩) ?_
 intro m φ ζ hi
 obtain ⟨i,hm,hi,⟨p1,p4,p6,p7⟩,rfl,ed⟩:=(hI _ _ _).1 hi
 have EE:=extT E E2
 by_cases hlt:i < V.length
 ·obtain ⟨b,off,cap,ro,row,rfl,hbv,hbn,hlen,hrow⟩:=vr_at rx hlt
  rw [List.drop_eq_getElem_cons hlt,List.find?_cons] at ed
  generalize V[i] = w at *
  have hwc:w.cells = [.str w.nm.1 w.nm.2,.int .i64 w.kd,.str w.on.1 w.on.2,.bool w.nt,.int .i64 w.a]:=rfl
  rw [hwc] at hrow
  have es:=strEq_S w.nm s
  have g0:row.getD (off + i * 5) und = .str w.nm.1 w.nm.2:=by
   have:=congrArg (fun l:List AV=>l.getD 0 und) hrow
   simpa [List.getD_eq_getElem?_getD,List.getElem?_take,List.getElem?_drop] using this
  by_cases e:w.nm = s
  ·rw [decide_eq_true e] at es ed
   have ed:some w = V.find? (fun v=>decide (v.nm = s)):=ed
   rw [← ed] at k
   simp -implicitDefEqProofs (disch:=omega) only [go_sem,p1,p4,p6,p7,lx,hbv,hrow,g0,es,d1,repL_s,repL_z,setsL_c]
   exact k _ (extP EE (by omega))
  ·rw [decide_eq_false e] at es ed
   have ed:(V.drop (i + 1)).find? (fun v=>decide (v.nm = s)) = V.find? (fun v=>decide (v.nm = s)):=ed
   simp -implicitDefEqProofs (disch:=omega) only [go_sem,p1,p4,p6,p7,lx,hbv,hrow,g0,es]
   exact ⟨V.length - (i + 1),by omega,(hI _ _ _).2 ⟨i + 1,rfl,hlt,⟨by exact p1,by exact p4,by exact p6,rfl⟩,rfl,ed⟩⟩
 ·obtain rfl:i = V.length:=by omega
  rw [List.drop_length] at ed
  have ed:none = V.find? (fun v=>decide (v.nm = s)):=ed
  rw [← ed] at k
  simp -implicitDefEqProofs (disch:=omega) only [go_sem,p1,p4,p6,p7,lx,d1,repL_s,repL_z,setsL_c]
  exact k _ (extP EE (by omega))
theorem fail6_then (U:Usual nat) {η:HN} {cb e a:Nat} {b:Bd} (hc:η.f cb = .live false [.int .i64 b.1,.int .i64 b.2]) {Q:AV → HN → Prop} (hb:b.1 < 9223372036854775808)
  (k:∀ η',η'.nx = η.nx → η'.f cb = .live false [.int .i64 (failB e a b).1,.int .i64 (failB e a b).2] → (∀ c,c ≠ cb → η'.f c = η.f c) → Q (.tup []) η'):∃ v' η',CallN Try.prog nat 68 [.ptr cb 0,.int .i64 e,.int .i64 a] η v' η' ∧ Q v' η':=by
 refine call_of (PT:=pl68) Try.func68 rfl (U 68 (by decide)) ok68 rfl ?_
 by_cases h:b.1 = 0
 ·have eb:failB e a b = (e,a):=if_pos h
  rw [eb] at k
  rw [h] at hc
  simp -implicitDefEqProofs (disch:=omega) only [go_sem,hc]
  exact k _ rfl (if_pos rfl) fun c hc=>if_neg hc
 ·have eb:failB e a b = b:=if_neg h
  rw [eb] at k
  simp -implicitDefEqProofs (disch:=omega) only [go_sem,hc]
  exact k _ rfl hc fun c _=>rfl
end Go.Proofs.Ytpjmiopplfmcfaa
namespace Go.Plain
open Go.Eng
set_option autoImplicit false
end Go.Plain
namespace Go.Proofs.Ytpjmiopplfmcfaa
open Go.Eng Go.Plain
set_option autoImplicit false
set_option maxRecDepth 100000
variable {nat:∀ [Deep],Nats}
end Go.Proofs.Ytpjmiopplfmcfaa
namespace Go.Plain
open Go.Eng
set_option autoImplicit false
end Go.Plain
namespace Go.Proofs.Ytpjmiopplfmcfaa
open Go.Eng Go.Plain
set_option autoImplicit false
set_option maxRecDepth 100000
variable {nat:∀ [Deep],Nats}
end Go.Proofs.Ytpjmiopplfmcfaa
namespace Go.Plain
open Go.Eng
set_option autoImplicit false
theorem cell_at {row l:List AV} {o s:Nat} (h:(row.drop o).take s = l) (j:Nat) (hj:j < s):row.getD (o + j) und = l.getD j und:=by
 rw [← h,List.getD_eq_getElem?_getD,List.getD_eq_getElem?_getD,List.getElem?_take,if_pos hj,List.getElem?_drop]
theorem cell_0 {row l:List AV} {o s:Nat} (h:(row.drop o).take s = l) (hj:0 < s):row.getD o und = l.getD 0 und:=cell_at h 0 hj
theorem any_drop {α:Type} {p:α → Bool} {l:List α} {i:Nat} (h:i < l.length):(l.drop i).any p = if p l[i] then true else (l.drop (i + 1)).any p:=by
 rw [List.drop_eq_getElem_cons h,List.any_cons]
 cases p l[i] <;> rfl
end Go.Plain
namespace Go.Proofs.Ytpjmiopplfmcfaa
open Go.Eng Go.Plain
set_option autoImplicit false
set_option maxRecDepth 100000
variable {nat:∀ [Deep],Nats}
theorem nodeOf_then (U:Usual nat) {η:HN} {v:AV} {l:List Nd} {ls:List (List AV)} (rv:RdR 6 η v ls) (rl:rdNs tt η l ls) (hl:l.length ≤ 64) (s:S) {Q:AV → HN → Prop} (k:Q (.int .i64 (encO (ixL (fun d=>decide (d.nm = s)) l 0))) η):∃ v' η',CallN Try.prog nat 107 [v,.str s.1 s.2] η v' η' ∧ Q v' η':=by
 obtain ⟨lsl,ls6⟩:=rdNs_len rl
 refine call_of (PT:=pl107) Try.func107 rfl (U 107 (by decide)) ok107 rfl ?_
 have ln:=fun η' e w=>row_len (η':=η') rv lsl (by omega) e w
 simp -implicitDefEqProofs (disch:=omega) only [go_sem]
 generalize hp:(fun d:Nd=>decide (d.nm = s)) = p at *
 obtain ⟨I,hI⟩:∃ I:Nat → FN → HN → Prop,∀ m φ ζ,I m φ ζ ↔ ∃ i,m = l.length - i ∧ i ≤ l.length ∧ (φ 0 = v ∧ φ 1 = .str s.1 s.2 ∧ φ 5 = .int .i64 i) ∧ ζ = η ∧ ixL p (l.drop i) i = ixL p l 0:=⟨_,fun _ _ _=>Iff.rfl⟩
 refine wpN_loop I l.length ((hI _ _ _).2 ⟨0,rfl,Nat.zero_le _,⟨rfl,rfl,rfl⟩,rfl,rfl⟩) ?_
 intro m φ ζ hi
 obtain ⟨i,hm,hi,⟨p0,p1,p5⟩,rfl,ed⟩:=(hI _ _ _).1 hi
 by_cases hlt:i < l.length
 ·obtain ⟨hi',ri⟩:=rdNs_at rl i hlt
  obtain ⟨b,off,cap,ro,row,rfl,hbv,hbn,hlen,hrow⟩:=rv.at hi'
  rw [ixL_drop hlt] at ed
  generalize l[i] = d at *
  obtain ⟨y1,y2,y3,y4,ez,-⟩:=ri
  rw [ez] at hrow
  have g0:row.getD (off + i * 6) und = .str d.nm.1 d.nm.2:=(cell_0 hrow (by decide)).trans rfl
  have es:=strEq_S d.nm s
  have ep:p d = decide (d.nm = s):=by rw [← hp]
  by_cases e:d.nm = s
  ·rw [decide_eq_true e] at es ep
   rw [ep,if_pos rfl] at ed
   rw [← ed] at k
   have ew:encO (some i) = i:=rfl
   rw [ew] at k
   simp -implicitDefEqProofs (disch:=omega) only [go_sem,p0,p1,p5,ln,hbv,g0,es]
   exact k
  ·rw [decide_eq_false e] at es ep
   rw [ep,if_neg (by decide)] at ed
   simp -implicitDefEqProofs (disch:=omega) only [go_sem,p0,p1,p5,ln,hbv,g0,es]
   exact ⟨l.length - (i + 1),by omega,(hI _ _ _).2 ⟨i + 1,rfl,hlt,⟨by exact p0,by exact p1,rfl⟩,rfl,ed⟩⟩
 ·obtain rfl:i = l.length:=by omega
  rw [List.drop_length] at ed
  have ed:none = ixL p l 0:=ed
  rw [← ed] at k
  have ew:encO none = 18446744073709551615:=rfl
  rw [ew] at k
  simp -implicitDefEqProofs (disch:=omega) only [go_sem,p0,p1,p5,ln]
  exact k
theorem input_then (U:Usual nat) {η:HN} {n:Nd} {z:List AV} (r:rdN tt η n z) (ok:okN n) (s:S) {Q:AV → HN → Prop} (k:∀ η',ExtB η.nx η η' → Q (.bool (n.ins.any fun v=>decide (v.nm = s))) η'):∃ v' η',CallN Try.prog nat 108 [.agg z,.str s.1 s.2] η v' η' ∧ Q v' η':=by
 obtain ⟨y1,y2,y3,y4,rfl,-,r1,-⟩:=r
 have hl:=ok.2.1.1
 refine call_of (PT:=pl108) Try.func108 rfl (U 108 (by decide)) ok108 rfl ?_
 have hsn:sV n.nm = .str n.nm.1 n.nm.2:=rfl
 have ln:=fun η' e w=>row_len (η':=η') r1 (vrs_len _) (by omega) e w
 have E:ExtB η.nx η (η.new (.live false [.str n.nm.1 n.nm.2,y1,y2,y3,y4,.int .i64 n.a])):=extN (.refl _ _)
 have c0:(η.new (.live false [.str n.nm.1 n.nm.2,y1,y2,y3,y4,.int .i64 n.a])).f η.nx = .live false [.str n.nm.1 n.nm.2,y1,y2,y3,y4,.int .i64 n.a]:=if_pos rfl
 simp -implicitDefEqProofs (disch:=omega) only [go_sem,hsn]
 generalize η.new (.live false [.str n.nm.1 n.nm.2,y1,y2,y3,y4,.int .i64 n.a]) = η1 at *
 generalize hp:(fun v:Vr=>decide (v.nm = s)) = p at *
 generalize n.ins = V at *
 obtain ⟨I,hI⟩:∃ I:Nat → FN → HN → Prop,∀ m φ ζ,I m φ ζ ↔ ∃ i,m = V.length - i ∧ i ≤ V.length ∧ (φ 1 = .str s.1 s.2 ∧ φ 2 = .ptr η.nx 0 ∧ φ 5 = .int .i64 i) ∧ ζ = η1 ∧ (V.drop i).any p = V.any p:=⟨_,fun _ _ _=>Iff.rfl⟩
 refine wpN_loop I V.length ((hI _ _ _).2 ⟨0,rfl,Nat.zero_le _,⟨rfl,rfl,rfl⟩,rfl,rfl⟩) ?_
 intro m φ ζ hi
 obtain ⟨i,hm,hi,⟨p1,p2,p5⟩,rfl,ed⟩:=(hI _ _ _).1 hi
 by_cases hlt:i < V.length
 ·obtain ⟨b,off,cap,ro,row,rfl,hbv,hbn,hlen,hrow⟩:=vr_at r1 hlt
  have hbz:ζ.f b = _:=(E.2 _ hbn).trans hbv
  rw [any_drop hlt] at ed
  generalize V[i] = w at *
  have g0:row.getD (off + i * 5) und = .str w.nm.1 w.nm.2:=(cell_0 hrow (by decide)).trans rfl
  have es:=strEq_S w.nm s
  have ep:p w = decide (w.nm = s):=by rw [← hp]
  by_cases e:w.nm = s
  ·rw [decide_eq_true e] at es ep
   rw [ep,if_pos rfl] at ed
   rw [← ed] at k
   simp -implicitDefEqProofs (disch:=omega) only [go_sem,p1,p2,p5,c0,ln,hbz,g0,es]
   exact k _ E
  ·rw [decide_eq_false e] at es ep
   rw [ep,if_neg (by decide)] at ed
   simp -implicitDefEqProofs (disch:=omega) only [go_sem,p1,p2,p5,c0,ln,hbz,g0,es]
   exact ⟨V.length - (i + 1),by omega,(hI _ _ _).2 ⟨i + 1,rfl,hlt,⟨by exact p1,by exact p2,rfl⟩,rfl,ed⟩⟩
 ·obtain rfl:i = V.length:=by omega
  rw [List.drop_length] at ed
  have ed:false = V.any p:=ed
  rw [← ed] at k
  simp -implicitDefEqProofs (disch:=omega) only [go_sem,p1,p2,p5,c0,ln]
  exact k _ E
theorem eqOf_then (U:Usual nat) {η:HN} {n:Nd} {z:List AV} (r:rdN tt η n z) (ok:okN n) (s:S) {Q:AV → HN → Prop} (k:∀ η' zq,zq.length = 7 → ExtB η.nx η η' → Q (.tup [.agg zq,.bool (n.eqs.any fun q=>decide (q.nm = s))]) η'):∃ v' η',CallN Try.prog nat 109 [.agg z,.str s.1 s.2] η v' η' ∧ Q v' η':=by
 obtain ⟨y1,y2,y3,y4,rfl,-,-,-,-,qs,r4,r5⟩:=r
 have hl:=ok.2.2.2.2.1
 have lq:=(rdQs_len r5).1
 refine call_of (PT:=pl109) Try.func109 rfl (U 109 (by decide)) ok109 rfl ?_
 have hsn:sV n.nm = .str n.nm.1 n.nm.2:=rfl
 have ln:=fun η' e w=>row_len (η':=η') r4 lq (by omega) e w
 have E:ExtB η.nx η ((η.new (.live false [.str n.nm.1 n.nm.2,y1,y2,y3,y4,.int .i64 n.a])).new (.live false [.str 0 0,.str 0 0,.str 0 0,.int .i64 0,.int .i64 0,.nilslice,.int .i64 0])):=extN (extN (.refl _ _))
 have c0:((η.new (.live false [.str n.nm.1 n.nm.2,y1,y2,y3,y4,.int .i64 n.a])).new (.live false [.str 0 0,.str 0 0,.str 0 0,.int .i64 0,.int .i64 0,.nilslice,.int .i64 0])).f η.nx = .live false [.str n.nm.1 n.nm.2,y1,y2,y3,y4,.int .i64 n.a]:=(if_neg (by show ¬ η.nx = η.nx + 1; omega)).trans (if_pos rfl)
 have c1:((η.new (.live false [.str n.nm.1 n.nm.2,y1,y2,y3,y4,.int .i64 n.a])).new (.live false [.str 0 0,.str 0 0,.str 0 0,.int .i64 0,.int .i64 0,.nilslice,.int .i64 0])).f (η.nx + 1) = .live false [.str 0 0,.str 0 0,.str 0 0,.int .i64 0,.int .i64 0,.nilslice,.int .i64 0]:=if_pos rfl
 simp -implicitDefEqProofs (disch:=omega) only [go_sem,hsn]
 generalize (η.new (.live false [.str n.nm.1 n.nm.2,y1,y2,y3,y4,.int .i64 n.a])).new (.live false [.str 0 0,.str 0 0,.str 0 0,.int .i64 0,.int .i64 0,.nilslice,.int .i64 0]) = η1 at *
 generalize hp:(fun q:Eqn=>decide (q.nm = s)) = p at *
 generalize n.eqs = V at *
 obtain ⟨I,hI⟩:∃ I:Nat → FN → HN → Prop,∀ m φ ζ,I m φ ζ ↔ ∃ i,m = V.length - i ∧ i ≤ V.length ∧ (φ 1 = .str s.1 s.2 ∧ φ 2 = .ptr η.nx 0 ∧ φ 4 = .ptr (η.nx + 1) 0 ∧ φ 6 = .int .i64 i) ∧ ζ = η1 ∧ (V.drop i).any p = V.any p:=⟨_,fun _ _ _=>Iff.rfl⟩
 refine wpN_loop I V.length ((hI _ _ _).2 ⟨0,rfl,Nat.zero_le _,⟨rfl,rfl,rfl,rfl⟩,rfl,rfl⟩) ?_
 intro m φ ζ hi
 obtain ⟨i,hm,hi,⟨p1,p2,p4,p6⟩,rfl,ed⟩:=(hI _ _ _).1 hi
 by_cases hlt:i < V.length
 ·obtain ⟨hi',ri⟩:=rdQs_at r5 i hlt
  obtain ⟨b,off,cap,ro,row,rfl,hbv,hbn,hlen,hrow⟩:=r4.at hi'
  have hbz:ζ.f b = _:=(E.2 _ hbn).trans hbv
  rw [any_drop hlt] at ed
  generalize V[i] = w at *
  obtain ⟨ze,eze,re⟩:=ri
  obtain ⟨f1,f2,f3,f4,f5,rfl⟩:=rdE_cells re
  rw [eze] at hrow
  have hrow:(row.drop (off + i * 7)).take 7 = [.str w.nm.1 w.nm.2,.str f1.1 f1.2,.str f2.1 f2.2,.int .i64 f3,.int .i64 f4,f5,.int .i64 w.a]:=hrow
  have g0:row.getD (off + i * 7) und = .str w.nm.1 w.nm.2:=(cell_0 hrow (by decide)).trans rfl
  have es:=strEq_S w.nm s
  have ep:p w = decide (w.nm = s):=by rw [← hp]
  by_cases e:w.nm = s
  ·rw [decide_eq_true e] at es ep
   rw [ep,if_pos rfl] at ed
   rw [← ed] at k
   simp -implicitDefEqProofs (disch:=omega) only [go_sem,p1,p2,p4,p6,c0,c1,ln,hbz,g0,es,hrow,repL_s,repL_z,setsL_c]
   exact k _ _ rfl (extP E (by omega))
  ·rw [decide_eq_false e] at es ep
   rw [ep,if_neg (by decide)] at ed
   simp -implicitDefEqProofs (disch:=omega) only [go_sem,p1,p2,p4,p6,c0,c1,ln,hbz,g0,es]
   exact ⟨V.length - (i + 1),by omega,(hI _ _ _).2 ⟨i + 1,rfl,hlt,⟨by exact p1,by exact p2,by exact p4,rfl⟩,rfl,ed⟩⟩
 ·obtain rfl:i = V.length:=by omega
  rw [List.drop_length] at ed
  have ed:false = V.any p:=ed
  rw [← ed] at k
  simp -implicitDefEqProofs (disch:=omega) only [go_sem,p1,p2,p4,p6,c0,c1,ln,repL_s,repL_z,setsL_c]
  exact k _ _ rfl (extP E (by omega))
end Go.Proofs.Ytpjmiopplfmcfaa
namespace Go.Proofs.Ytpjmiopplfmcfaa
open Go.Eng Go.Plain
set_option autoImplicit false
set_option maxRecDepth 100000
variable {nat:∀ [Deep],Nats}
end Go.Proofs.Ytpjmiopplfmcfaa
namespace Go.Proofs.Ytpjmiopplfmcfaa
open Go.Eng Go.Plain
set_option autoImplicit false
set_option maxRecDepth 100000
variable {nat:∀ [Deep],Nats}
end Go.Proofs.Ytpjmiopplfmcfaa
namespace Go.Proofs.Ytpjmiopplfmcfaa
open Go.Eng Go.Plain
set_option autoImplicit false
set_option maxRecDepth 100000
variable {nat:∀ [Deep],Nats}
end Go.Proofs.Ytpjmiopplfmcfaa
