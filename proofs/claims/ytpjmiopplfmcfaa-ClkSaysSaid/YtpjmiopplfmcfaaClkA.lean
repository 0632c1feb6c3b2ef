/- What is proved: what finding a declaration does. what a name's clock is. what the leaves of the program's clocks do. Conditions: as each theorem says. -/
import Derived.Test.YtpjmiopplfmcfaaNameB
import Derived.Test.YtpjmiopplfmcfaaPlain
set_option linter.unusedVariables false
set_option linter.unusedSimpArgs false
set_option linter.unusedSectionVars false
namespace Go.Proofs.Ytpjmiopplfmcfaa
open Go.Eng Go.Plain
set_option autoImplicit false
set_option maxRecDepth 100000
variable {nat:∀ [Deep],Nats}
theorem find1_then (U:Usual nat) {η:HN} {v:Vr} {c:Nat} {s:S} (hc:η.f c = .live false [.str s.1 s.2]) (hcn:c < η.nx) {Q:AV → HN → Prop} (k:∀ η',ExtB η.nx η η' → Q (.bool (decide (v.nm = s))) η'):∃ v' η',CallN Try.prog nat 90 [.agg v.cells,.ptr c 0] η v' η' ∧ Q v' η':=by
 refine call_of (PT:=pl90) Try.func90 rfl (U 90 (by decide)) ok90 rfl ?_
 have e:=strEq_S v.nm s
 have hv:v.cells = [.str v.nm.1 v.nm.2,.int .i64 v.kd,.str v.on.1 v.on.2,.bool v.nt,.int .i64 v.a]:=rfl
 rw [hv]
 simp -implicitDefEqProofs (disch:=omega) only [go_sem,hc,e]
 exact k _ (extN (.refl _ _))
theorem declared_then (U:Usual nat) {η:HN} {n:Nd} {z:List AV} (r:rdN tt η n z) (ok:okN n) {Q:AV → HN → Prop} (k:∀ x η',RdR 5 η' x ((allOf n).map Vr.cells) → ExtB η.nx η η' → Q x η'):∃ v' η',CallN Try.prog nat 88 [.agg z] η v' η' ∧ Q v' η':=by
 obtain ⟨y1,y2,y3,y4,rfl,-,r1,r2,r3,-⟩:=r
 obtain ⟨ok0,ok1,ok2,ok3,ok4,ok5⟩:=ok
 refine call_of (PT:=pl88) Try.func88 rfl (U 88 (by decide)) ok88 rfl ?_
 have q1:=r1.cells
 have q2:=r2.cells
 have q3:=r3.cells
 have hsn:sV n.nm = .str n.nm.1 n.nm.2:=rfl
 simp -implicitDefEqProofs (disch:=omega) only [go_sem,hsn,q1,q2,q3,repL_s,repL_z,setsL_c]
 have E:ExtB η.nx η ((η.new (.live false [.str n.nm.1 n.nm.2,y1,y2,y3,y4,.int .i64 n.a])).new (.live false [y1,y2,y3])):=extN (extN (.refl _ _))
 have sz:sumL [n.ins,n.outs,n.locs] ≤ 4294967296:=by
  have h1:=ok1.1
  have h2:=ok2.1
  have h3:=ok3.1
  unfold sumL
  simp only [List.flatten_cons,List.flatten_nil,List.length_append,List.length_nil]
  omega
 refine thenN_call (concat_then U (b:=η.nx + 1) (ys:=[y1,y2,y3]) (ll:=[n.ins,n.outs,n.locs]) ⟨r1.ext (base:=0) E,r2.ext (base:=0) E,r3.ext (base:=0) E,trivial⟩ (if_pos rfl) (Nat.lt_succ_self _) sz (Nat.le_of_ble_eq_true rfl) fun x η2 rx E2=>?_)
 have ef:[n.ins,n.outs,n.locs].flatten = allOf n:=by simp [allOf]
 rw [ef] at rx
 simp -implicitDefEqProofs (disch:=omega) only [go_sem]
 exact k _ _ rx (extT E E2)
def zVr:Vr:=⟨(0,0),0,(0,0),false,0⟩
theorem all_len {n:Nd} (ok:okN n):(allOf n).length ≤ 4294967296 ∧ ∀ v ∈ allOf n,okV v:=by
 obtain ⟨ok0,ok1,ok2,ok3,ok4,ok5⟩:=ok
 refine ⟨?_,fun v hv=>?_⟩
 ·have h1:=ok1.1
  have h2:=ok2.1
  have h3:=ok3.1
  unfold allOf
  rw [List.length_append,List.length_append]; omega
 ·rcases List.mem_append.1 hv with hv | hv
  ·exact ok1.2 v hv
  ·rcases List.mem_append.1 hv with hv | hv
   ·exact ok2.2 v hv
   ·exact ok3.2 v hv
theorem find_then (U:Usual nat) {η:HN} {n:Nd} {z:List AV} (r:rdN tt η n z) (ok:okN n) (s:S) {Q:AV → HN → Prop} (k:∀ η',ExtB η.nx η η' → Q (.tup [.agg ((findV n s).getD zVr).cells,.bool (findV n s).isSome]) η'):∃ v' η',CallN Try.prog nat 51 [.agg z,.str s.1 s.2] η v' η' ∧ Q v' η':=by
 obtain ⟨hal,hok⟩:=all_len ok
 have lz:=rdN_len r
 refine call_of (PT:=pl51) Try.func51 rfl (U 51 (by decide)) ok51 rfl ?_
 have r':=r
 obtain ⟨y1,y2,y3,y4,rfl,-⟩:=r'
 have hsn:sV n.nm = .str n.nm.1 n.nm.2:=rfl
 have E:ExtB η.nx η (((η.new (.live false [sV n.nm,y1,y2,y3,y4,.int .i64 n.a])).new (.live false [.str s.1 s.2])).new (.live false [.str 0 0,.int .i64 0,.str 0 0,.bool false,.int .i64 0])):=extN (extN (extN (.refl _ _)))
 have c1:(((η.new (.live false [sV n.nm,y1,y2,y3,y4,.int .i64 n.a])).new (.live false [.str s.1 s.2])).new (.live false [.str 0 0,.int .i64 0,.str 0 0,.bool false,.int .i64 0])).f (η.nx + 1) = .live false [.str s.1 s.2]:=(if_neg (by show ¬ η.nx + 1 = η.nx + 1 + 1; omega)).trans (if_pos rfl)
 have c2:(((η.new (.live false [sV n.nm,y1,y2,y3,y4,.int .i64 n.a])).new (.live false [.str s.1 s.2])).new (.live false [.str 0 0,.int .i64 0,.str 0 0,.bool false,.int .i64 0])).f (η.nx + 1 + 1) = .live false [.str 0 0,.int .i64 0,.str 0 0,.bool false,.int .i64 0]:=if_pos rfl
 have nn:(((η.new (.live false [sV n.nm,y1,y2,y3,y4,.int .i64 n.a])).new (.live false [.str s.1 s.2])).new (.live false [.str 0 0,.int .i64 0,.str 0 0,.bool false,.int .i64 0])).nx = η.nx + 3:=rfl
 simp -implicitDefEqProofs (disch:=omega) only [go_sem]
 generalize ((η.new (.live false [sV n.nm,y1,y2,y3,y4,.int .i64 n.a])).new (.live false [.str s.1 s.2])).new (.live false [.str 0 0,.int .i64 0,.str 0 0,.bool false,.int .i64 0]) = η1 at *
 refine thenN_call (declared_then U (rdN_ext r E) ok fun x η2 rx E2=>?_)
 simp -implicitDefEqProofs (disch:=omega) only [go_sem]
 have n2:=E2.1
 have c12:η2.f (η.nx + 1) = _:=(E2.2 _ (by omega)).trans c1
 refine thenN_call (ixVar_spec U (l:=allOf n) (p:=fun v=>decide (v.nm = s)) (by rw [List.length_map]) hal rx ?_ fun η3 E3=>?_)
 ·intro ζ Ez j h1 h2 Q' k'
  rw [List.getElem_map]
  exact find1_then U ((Ez.2 _ (by omega)).trans c12) (by have:=Ez.1; omega) k'
 have n3:=E3.1
 have c23:η3.f (η.nx + 1 + 1) = _:=(E3.2 _ (by omega)).trans ((E2.2 _ (by omega)).trans c2)
 have fd:=ixL_find (fun v:Vr=>decide (v.nm = s)) (allOf n) 0
 have EE:=extT (extT E E2) E3
 cases e:ixL (fun v:Vr=>decide (v.nm = s)) (allOf n) 0 with
 | none =>
  rw [e] at fd
  have fd:none = findV n s:=fd
  rw [← fd] at k
  have ee:encO none = 18446744073709551615:=rfl
  have lt_m1:ltN .i64 18446744073709551615 0 = true:=rfl
  simp -implicitDefEqProofs (disch:=omega) only [go_sem,ee,lt_m1,c23]
  exact k _ (extP EE (by omega))
 | some j =>
  obtain ⟨_,hj,_⟩:=ixL_lt e
  have hj:j < (allOf n).length:=by omega
  rw [e] at fd
  have fd:(allOf n)[j - 0]? = findV n s:=fd
  rw [Nat.sub_zero,List.getElem?_eq_getElem hj] at fd
  rw [← fd] at k
  obtain ⟨b,off,cap,ro,row,rfl,hbv,hbn,hlen,hrow⟩:=vr_at rx hj
  have hbz:η3.f b = _:=(E3.2 b hbn).trans hbv
  have ee:encO (some j) = j:=rfl
  generalize (allOf n)[j] = w at *
  have hwc:w.cells = [.str w.nm.1 w.nm.2,.int .i64 w.kd,.str w.on.1 w.on.2,.bool w.nt,.int .i64 w.a]:=rfl
  rw [hwc] at hrow
  simp -implicitDefEqProofs (disch:=omega) only [go_sem,ee,c23,hbz,hrow]
  exact k _ (extP EE (by omega))
end Go.Proofs.Ytpjmiopplfmcfaa
namespace Go.Plain
open Go.Eng
set_option autoImplicit false
theorem stc_rows (c:List Stp):∀ l ∈ c.map stc,l.length = 2:=fun l hl=>by
 obtain ⟨s,_,rfl⟩:=List.mem_map.1 hl
 rfl
def CkA (η:HN) (y:AV) (c:List Stp):Prop:=(y = .nilslice ∧ c = []) ∨ ∃ b,b < η.nx ∧ y = .slice b 0 c.length (.un 2) ∧ η.f b = .live false (c.map stc).flatten
theorem CkA.ext {η η':HN} {y:AV} {c:List Stp} (h:CkA η y c) (x:ExtB η.nx η η'):CkA η' y c:=by
 rcases h with h | ⟨b,h1,h2,h3⟩
 ·exact .inl h
 ·exact .inr ⟨b,Nat.lt_of_lt_of_le h1 x.1,h2,(x.2 b h1).trans h3⟩
theorem CkA.rd {η:HN} {y:AV} {c:List Stp} (h:CkA η y c):RdR 2 η y (c.map stc):=by
 rcases h with ⟨rfl,rfl⟩ | ⟨b,h1,rfl,h3⟩
 ·exact .inl ⟨rfl,.inl rfl⟩
 ·have:=RdR.blk (s:=2) (cap:=.un 2) _ h3 h1 (stc_rows c)
  rw [List.length_map] at this
  exact this
theorem CkA.cells {η:HN} {y:AV} {c:List Stp} (h:CkA η y c):cellsV y = some [y]:=h.rd.cells
def turnL (c:List Stp) (i:Nat):List Stp:=(List.range c.length).map fun k=>if k < i ∨ c.length - 1 - k < i then c.getD (c.length - 1 - k) ((0,0),false) else c.getD k ((0,0),false)
theorem turn_len (c:List Stp) (i:Nat):(turnL c i).length = c.length:=by simp [turnL]
theorem turn_at {c:List Stp} {i k:Nat} (h:k < (turnL c i).length):(turnL c i)[k] = if k < i ∨ c.length - 1 - k < i then c.getD (c.length - 1 - k) ((0,0),false) else c.getD k ((0,0),false):=by simp [turnL]
theorem turn_0 (c:List Stp):turnL c 0 = c:=by
 refine List.ext_getElem (turn_len c 0) fun k h1 h2=>?_
 rw [turn_at h1,if_neg (by omega),List.getD_eq_getElem?_getD,List.getElem?_eq_getElem h2]; rfl
theorem turn_e {c:List Stp} {i:Nat} (h:c.length ≤ 2 * i + 1):turnL c i = c.reverse:=by
 refine List.ext_getElem (by rw [turn_len,List.length_reverse]) fun k h1 h2=>?_
 rw [turn_len] at h1
 rw [turn_at (by rw [turn_len]; exact h1),List.getElem_reverse]
 by_cases g:k < i ∨ c.length - 1 - k < i
 ·rw [if_pos g,List.getD_eq_getElem?_getD,List.getElem?_eq_getElem (by omega)]; rfl
 ·rw [if_neg g,List.getD_eq_getElem?_getD,List.getElem?_eq_getElem h1]
  have:c.length - 1 - k = k:=by omega
  simp only [this]; rfl
theorem turn_s {c:List Stp} {i j:Nat} (hj:i + j + 1 = c.length) (h:i < j) (hi:i < (turnL c i).length) (hj':j < (turnL c i).length):((turnL c i).set i (turnL c i)[j]).set j (turnL c i)[i] = turnL c (i + 1):=by
 have ai:=turn_at hi
 have aj:=turn_at hj'
 rw [if_neg (by omega)] at ai aj
 generalize (turnL c i)[i] = x at ai ⊢
 generalize (turnL c i)[j] = y at aj ⊢
 subst ai aj
 refine List.ext_getElem (by simp only [List.length_set,turn_len]) fun k h1 h2=>?_
 have hk:k < c.length:=by rw [turn_len] at h2; exact h2
 rw [turn_at h2,List.getElem_set,List.getElem_set]
 by_cases e1:j = k
 ·subst e1
  rw [if_pos rfl,if_pos (by omega),show c.length - 1 - j = i by omega]
 ·rw [if_neg e1]
  by_cases e2:i = k
  ·subst e2
   rw [if_pos rfl,if_pos (by omega),show c.length - 1 - i = j by omega]
  ·rw [if_neg e2,turn_at (by rw [turn_len]; exact hk)]
   by_cases g:k < i ∨ c.length - 1 - k < i
   ·rw [if_pos g,if_pos (by omega)]
   ·rw [if_neg g,if_neg (by omega)]
end Go.Plain
namespace Go.Proofs.Ytpjmiopplfmcfaa
open Go.Eng Go.Plain
set_option autoImplicit false
set_option maxRecDepth 100000
variable {nat:∀ [Deep],Nats}
theorem reverse_nil (U:Usual nat) {η:HN} {Q:AV → HN → Prop} (k:Q (.tup []) η):∃ v' η',CallN Try.prog nat 69 [.nilslice] η v' η' ∧ Q v' η':=by
 refine call_of (PT:=pl69) Try.func69 rfl (U 69 (by decide)) ok69 rfl ?_
 have f1:ltN .i64 0 18446744073709551615 = false:=rfl
 have f2:(18446744073709551616 - 1) % 18446744073709551616 = 18446744073709551615:=rfl
 simp -implicitDefEqProofs (disch:=omega) only [go_sem]
 refine loop_n 1 ?_
 simp -implicitDefEqProofs (disch:=omega) only [go_sem,f1,f2]
 exact k
theorem reverse_then (U:Usual nat) {η:HN} {b:Nat} {c:List Stp} (hb:η.f b = .live false (c.map stc).flatten) (hbn:b < η.nx) (hc:c.length ≤ 1073741824) (h0:0 < c.length) {Q:AV → HN → Prop}
  (k:∀ η',η'.nx = η.nx → η'.f b = .live false (c.reverse.map stc).flatten → (∀ a,a ≠ b → η'.f a = η.f a) → Q (.tup []) η'):∃ v' η',CallN Try.prog nat 69 [.slice b 0 c.length (.un 2)] η v' η' ∧ Q v' η':=by
 refine call_of (PT:=pl69) Try.func69 rfl (U 69 (by decide)) ok69 rfl ?_
 simp -implicitDefEqProofs (disch:=omega) only [go_sem]
 obtain ⟨I,hI⟩:∃ I:Nat → FN → HN → Prop,∀ m φ ζ,I m φ ζ ↔ ∃ i j,m = c.length - i ∧ i + j + 1 = c.length ∧ (φ 0 = .slice b 0 c.length (.un 2) ∧ φ 2 = .int .i64 i ∧ φ 3 = .int .i64 j) ∧ ζ.f b = .live false ((turnL c i).map stc).flatten ∧ ζ.nx = η.nx ∧ (∀ a,a ≠ b → ζ.f a = η.f a):=⟨_,fun _ _ _=>Iff.rfl⟩
 refine wpN_loop I c.length ((hI _ _ _).2 ⟨0,c.length - 1,rfl,by omega,⟨rfl,rfl,rfl⟩,by rw [turn_0]; exact hb,rfl,fun _ _=>rfl⟩) ?_
 intro m φ ζ hi
 obtain ⟨i,j,hm,hij,⟨p0,p2,p3⟩,hz,nz,kz⟩:=(hI _ _ _).1 hi
 by_cases hlt:i < j
 ·have li:i < ((turnL c i).map stc).length:=by rw [List.length_map,turn_len]; omega
  have lj:j < ((turnL c i).map stc).length:=by rw [List.length_map,turn_len]; omega
  have fi:=flat_at (s:=2) _ i (stc_rows (turnL c i)) li
  have fj:=flat_at (s:=2) _ j (stc_rows (turnL c i)) lj
  rw [List.getElem_map] at fi fj
  have li':i < (turnL c i).length:=by rw [turn_len]; omega
  have lj':j < (turnL c i).length:=by rw [turn_len]; omega
  have ts:=turn_s hij hlt li' lj'
  have fl:((turnL c i).map stc).flatten.length = c.length * 2:=by rw [flat_len _ (stc_rows _),List.length_map,turn_len]
  have st:∀ (T:List Stp) (k:Nat) (x:Stp),k < T.length → setsL (T.map stc).flatten (k * 2) (stc x) = ((T.set k x).map stc).flatten:=fun T k x h=>by
   rw [setsL_flat (s:=2) (r:=stc x) rfl (T.map stc) k (stc_rows T) (by rw [List.length_map]; exact h),List.map_set]
  have s1:=st (turnL c i) i (turnL c i)[j] li'
  have s2:=st ((turnL c i).set i (turnL c i)[j]) j (turnL c i)[i] (by rw [List.length_set]; exact lj')
  rw [ts] at s2
  have fl2:(((turnL c i).set i (turnL c i)[j]).map stc).flatten.length = c.length * 2:=by rw [flat_len _ (stc_rows _),List.length_map,List.length_set,turn_len]
  have ls:∀ s,(stc s).length = 2:=fun _=>rfl
  simp -implicitDefEqProofs (disch:=omega) only [go_sem,p0,p2,p3,hz,fi,fj,fl,fl2,s1,s2,ls]
  exact ⟨c.length - (i + 1),by omega,(hI _ _ _).2 ⟨i + 1,j - 1,rfl,by omega,⟨by exact p0,rfl,rfl⟩,if_pos rfl,nz,fun a ha=>(if_neg ha).trans ((if_neg ha).trans (kz a ha))⟩⟩
 ·have e:=turn_e (c:=c) (i:=i) (by omega)
  rw [e] at hz
  simp -implicitDefEqProofs (disch:=omega) only [go_sem,p0,p2,p3]
  exact k _ nz hz kz
theorem own_ck {η:HN} {lo:Nat} {y:AV} {c:List Stp} (o:OwnA 2 lo η y c.length (c.map stc).flatten) (hz:y = .nilslice ∨ c ≠ []):CkA η y c:=by
 obtain ⟨_,⟨q1,q2⟩ | ⟨b,q1,q2,⟨_,q3,_⟩ | ⟨q3,q4⟩⟩⟩:=o
 ·exact .inl ⟨q1,List.eq_nil_of_length_eq_zero q2⟩
 ·rcases hz with rfl | hz
  ·exact .inl ⟨rfl,List.eq_nil_of_length_eq_zero q3⟩
  ·exact absurd (List.eq_nil_of_length_eq_zero q3) hz
 ·exact .inr ⟨b,q2,q3,q4⟩
theorem ofL_len (n:Nd):∀ (k:Nat) (s:S),(ofL n k s).length ≤ k
 | 0,_=>Nat.le_refl _
 | k + 1,s=>by
  unfold ofL
  split
  ·split
   ·exact Nat.zero_le _
   ·exact Nat.succ_le_succ (ofL_len n k _)
  ·exact Nat.zero_le _
theorem clk_len {n:Nd} (ok:okN n) (s:S):(clkOf n s).length ≤ 1073741824:=by
 unfold clkOf
 rw [List.length_reverse]
 have:=ofL_len n n.locs.length s
 have:=ok.2.2.2.1.1
 omega
set_option maxHeartbeats 4000000 in
theorem of_then (U:Usual nat) {η:HN} {n:Nd} {z:List AV} (r:rdN tt η n z) (ok:okN n) (s:S) {Q:AV → HN → Prop} (k:∀ y η',CkA η' y (clkOf n s) → ExtB η.nx η η' → Q y η'):∃ v' η',CallN Try.prog nat 33 [.agg z,.str s.1 s.2] η v' η' ∧ Q v' η':=by
 have r':=r
 obtain ⟨y1,y2,y3,y4,rfl,-,-,-,r3,-⟩:=r'
 have hV:n.locs.length ≤ 1073741824:=ok.2.2.2.1.1
 have l3:=fun η' e w=>row_len (η':=η') r3 (n:=n.locs.length) (by rw [List.length_map]) (by omega) e w
 refine call_of (PT:=pl33) Try.func33 rfl (U 33 (by decide)) ok33 rfl ?_
 have E:ExtB η.nx η (η.new (.live false [sV n.nm,y1,y2,y3,y4,.int .i64 n.a])):=extN (.refl _ _)
 have c0:(η.new (.live false [sV n.nm,y1,y2,y3,y4,.int .i64 n.a])).f η.nx = .live false [sV n.nm,y1,y2,y3,y4,.int .i64 n.a]:=if_pos rfl
 have n0:(η.new (.live false [sV n.nm,y1,y2,y3,y4,.int .i64 n.a])).nx = η.nx + 1:=rfl
 simp -implicitDefEqProofs (disch:=omega) only [go_sem,l3]
 generalize η.new (.live false [sV n.nm,y1,y2,y3,y4,.int .i64 n.a]) = η1 at *
 obtain ⟨I,hI⟩:∃ I:Nat → FN → HN → Prop,∀ m φ ζ,I m φ ζ ↔ ∃ i x pre t,m = n.locs.length - i ∧ i ≤ n.locs.length ∧ (φ 1 = .str t.1 t.2 ∧ φ 2 = .ptr η.nx 0 ∧ φ 5 = x ∧ φ 10 = .int .i64 n.locs.length ∧ φ 11 = .int .i64 i) ∧ OwnA 2 η1.nx ζ x pre.length (pre.map stc).flatten ∧ (x = .nilslice ∨ pre ≠ []) ∧ ExtB η1.nx η1 ζ ∧ pre ++ ofL n (n.locs.length - i) t = ofL n n.locs.length s ∧ pre.length ≤ i:=⟨_,fun _ _ _=>Iff.rfl⟩
 refine wpN_loop I n.locs.length ((hI _ _ _).2 ⟨0,.nilslice,[],s,rfl,Nat.zero_le _,⟨rfl,rfl,rfl,rfl,rfl⟩,.nil,.inl rfl,.refl _ _,rfl,Nat.le_refl _⟩) ?_
 intro m φ ζ hi
 obtain ⟨i,x,pre,t,hm,hi,⟨p1,p2,p5,p10,p11⟩,ox,hx,Ez,epre,hpl⟩:=(hI _ _ _).1 hi
 have nz:=Ez.1
 have cz:ζ.f η.nx = _:=(Ez.2 _ (by omega)).trans c0
 have fin:∀ ζ',OwnA 2 η1.nx ζ' x pre.length (pre.map stc).flatten → ExtB η1.nx η1 ζ' → pre = ofL n n.locs.length s → ∃ v η',CallN Try.prog nat 69 [x] ζ' v η' ∧ CkA η' x (clkOf n s) ∧ ExtB η.nx η η':=by
  intro ζ' oz Ez' ep
  have EE:=extT E Ez'
  have hck:=own_ck oz hx
  rcases hck with ⟨rfl,rfl⟩ | ⟨b,hb,rfl,hf⟩
  ·obtain ⟨v,η',h1,h2⟩:=reverse_nil (nat:=nat) (η:=ζ') (Q:=fun _ η'=>η' = ζ') U rfl
   subst h2
   exact ⟨v,_,h1,.inl ⟨rfl,by unfold clkOf; rw [← ep]; rfl⟩,EE⟩
  ·by_cases h0:pre.length = 0
   ·obtain rfl:pre = []:=List.eq_nil_of_length_eq_zero h0
    rcases hx with h | h
    ·cases h
    ·exact absurd rfl h
   ·have hlo:η1.nx ≤ b:=(own_at oz (b:=b) rfl).1
    obtain ⟨v,η',h1,h2,h3,h4⟩:=reverse_then (nat:=nat) (η:=ζ') (Q:=fun _ η'=>η'.nx = ζ'.nx ∧ η'.f b = .live false (pre.reverse.map stc).flatten ∧ (∀ a,a ≠ b → η'.f a = ζ'.f a)) U hf hb (by omega) (by omega) (fun η' a1 a2 a3=>⟨a1,a2,a3⟩)
    refine ⟨v,η',h1,.inr ⟨b,by omega,?_,?_⟩,⟨by have:=EE.1; omega,fun c hc=>(h4 c (by omega)).trans (EE.2 c hc)⟩⟩
    ·unfold clkOf
     rw [← ep,List.length_reverse]
    ·unfold clkOf
     rw [← ep]; exact h3
 have stop:∀ ζ',OwnA 2 η1.nx ζ' x pre.length (pre.map stc).flatten → ExtB η1.nx η1 ζ' → pre = ofL n n.locs.length s → ∃ v η',CallN Try.prog nat 69 [x] ζ' v η' ∧ Q x η':=fun ζ' a1 a2 a3=>by
  obtain ⟨v,η',h1,h2,h3⟩:=fin ζ' a1 a2 a3
  exact ⟨v,η',h1,k _ _ h2 h3⟩
 by_cases hlt:i < n.locs.length
 ·obtain ⟨q,hq⟩:∃ q,n.locs.length - i = q + 1:=⟨n.locs.length - i - 1,by omega⟩
  rw [hq] at epre
  simp -implicitDefEqProofs (disch:=omega) only [go_sem,p1,p2,p5,p10,p11,cz]
  refine thenN_call (find_then U (rdN_ext r (extT E Ez)) ok t fun ζ2 x2=>?_)
  have n2:=x2.1
  have unf:ofL n (q + 1) t = match findV n t with | some v=>if v.on = (0,0) then [] else (v.on,v.nt) :: ofL n q v.on | none=>[]:=rfl
  rw [unf] at epre
  have hwc:∀ w:Vr,w.cells = [.str w.nm.1 w.nm.2,.int .i64 w.kd,.str w.on.1 w.on.2,.bool w.nt,.int .i64 w.a]:=fun _=>rfl
  rw [hwc]
  generalize hw:(findV n t).getD zVr = w
  have e6:ExtB ζ2.nx ζ2 (ζ2.new (.live false [.str w.nm.1 w.nm.2,.int .i64 w.kd,.str w.on.1 w.on.2,.bool w.nt,.int .i64 w.a])):=extN (.refl _ _)
  have c6:(ζ2.new (.live false [.str w.nm.1 w.nm.2,.int .i64 w.kd,.str w.on.1 w.on.2,.bool w.nt,.int .i64 w.a])).f ζ2.nx = .live false [.str w.nm.1 w.nm.2,.int .i64 w.kd,.str w.on.1 w.on.2,.bool w.nt,.int .i64 w.a]:=if_pos rfl
  have n6:(ζ2.new (.live false [.str w.nm.1 w.nm.2,.int .i64 w.kd,.str w.on.1 w.on.2,.bool w.nt,.int .i64 w.a])).nx = ζ2.nx + 1:=rfl
  simp -implicitDefEqProofs (disch:=omega) only [go_sem,p1,p2,p5,p10,p11,cz,repL_s,repL_z,setsL_c]
  generalize ζ2.new (.live false [.str w.nm.1 w.nm.2,.int .i64 w.kd,.str w.on.1 w.on.2,.bool w.nt,.int .i64 w.a]) = ζ3 at *
  have x3:=extT x2 e6
  have o3:=ox.ext x3
  have E3:ExtB η1.nx η1 ζ3:=Ez.trans (x3.mono nz)
  have eo:strEq w.on.1 w.on.2 0 0 = decide (w.on = (0,0)):=strEq_S w.on (0,0)
  cases hf:findV n t with
  | none =>
   rw [hf] at epre
   have epre:pre ++ [] = ofL n n.locs.length s:=epre
   rw [List.append_nil] at epre
   have i0:(none:Option Vr).isSome = false:=rfl
   simp -implicitDefEqProofs (disch:=omega) only [go_sem,p1,p2,p5,p10,p11,cz,i0,Bool.not_false]
   obtain ⟨v9,η9,h9,k9⟩:=stop _ o3 E3 epre
   refine thenN_call ⟨v9,η9,h9,?_⟩
   simp -implicitDefEqProofs (disch:=omega) only [go_sem,p5]
   exact k9
  | some w' =>
   rw [hf] at epre hw
   have hw:w' = w:=hw
   subst hw
   have i0:(some w').isSome = true:=rfl
   by_cases on0:w'.on = (0,0)
   ·have epre:pre ++ (if w'.on = (0,0) then [] else (w'.on,w'.nt) :: ofL n q w'.on) = ofL n n.locs.length s:=epre
    rw [if_pos on0,List.append_nil] at epre
    rw [decide_eq_true on0] at eo
    simp -implicitDefEqProofs (disch:=omega) only [go_sem,p1,p2,p5,p10,p11,cz,c6,i0,eo,Bool.not_true]
    obtain ⟨v9,η9,h9,k9⟩:=stop _ o3 E3 epre
    refine thenN_call ⟨v9,η9,h9,?_⟩
    simp -implicitDefEqProofs (disch:=omega) only [go_sem,p5]
    exact k9
   ·have epre:pre ++ (if w'.on = (0,0) then [] else (w'.on,w'.nt) :: ofL n q w'.on) = ofL n n.locs.length s:=epre
    rw [if_neg on0] at epre
    rw [decide_eq_false on0] at eo
    simp -implicitDefEqProofs (disch:=omega) only [go_sem,p1,p2,p5,p10,p11,cz,c6,i0,eo,Bool.not_true,repL_s,repL_z,setsL_c]
    have o4:OwnA 2 η1.nx (ζ3.new (.live false [.str w'.on.1 w'.on.2,.bool w'.nt])) x pre.length (pre.map stc).flatten:=own_keep o3 (fun c _ hc=>if_neg (by omega)) (Nat.le_succ _)
    refine thenN_sep (by decide) o4 (RdA.lits (s:=2) (n:=1) rfl) (by decide) (by omega) (by show η1.nx ≤ ζ3.nx + 1; have:=E3.1; omega) fun η5 o5 n5 k5=>?_
    have n5:η5.nx = ζ3.nx + 1 + 1:=n5
    have xlo:∀ c,blkIs x c → η1.nx ≤ c:=fun c hc=>(own_at ox hc).1
    have k5:∀ c,c < ζ3.nx → ¬ blkIs x c → η5.f c = ζ3.f c:=fun c hc hx=>(k5 c (by show c < ζ3.nx + 1; omega) hx).trans (if_neg (by omega))
    have c56:η5.f ζ2.nx = _:=(k5 _ (by omega) (fun g=>by have:=(own_at ox g).2; omega)).trans c6
    simp -implicitDefEqProofs (disch:=omega) only [go_sem,p1,p2,p5,p10,p11,c56]
    refine ⟨n.locs.length - (i + 1),by omega,(hI _ _ _).2 ⟨i + 1,_,pre ++ [(w'.on,w'.nt)],w'.on,rfl,hlt,⟨rfl,by exact p2,rfl,by exact p10,rfl⟩,?_,.inr (by simp),⟨by have:=E3.1; omega,fun c hc=>(k5 c (by have:=E3.1; omega) (fun g=>by have:=xlo _ g; omega)).trans (E3.2 c hc)⟩,?_,by rw [List.length_append]; simp only [List.length_cons,List.length_nil]; omega⟩⟩
    ·rw [List.length_append,List.map_append,List.map_cons,List.map_nil,flatten_snoc]
     exact o5
    ·rw [show n.locs.length - (i + 1) = q by omega,List.append_assoc]
     exact epre
 ·have:n.locs.length - i = 0:=by omega
  rw [this] at epre
  have epre:pre ++ [] = ofL n n.locs.length s:=epre
  rw [List.append_nil] at epre
  simp -implicitDefEqProofs (disch:=omega) only [go_sem,p1,p2,p5,p10,p11]
  obtain ⟨v9,η9,h9,k9⟩:=stop _ ox Ez epre
  refine thenN_call ⟨v9,η9,h9,?_⟩
  simp -implicitDefEqProofs (disch:=omega) only [go_sem,p5]
  exact k9
end Go.Proofs.Ytpjmiopplfmcfaa
namespace Go.Plain
open Go.Eng
set_option autoImplicit false
def tmd (η:HN) (k:Ck) (z:List AV):Prop:=∃ (a b:S) (c d:Nat) (cs kd:AV),z = [.str a.1 a.2,.str b.1 b.2,.int .i64 c,.int .i64 d,.nilslice,cs,kd,.bool k.2] ∧ CkA η cs k.1 ∧ cellsV kd = some [kd]
def tmds (η:HN):List Ck → List (List AV) → Prop
 | [],ls=>ls = []
 | k :: ks,ls=>∃ l r,ls = l :: r ∧ tmd η k l ∧ tmds η ks r
theorem tmd.ext {η η':HN} {k:Ck} {z:List AV} (h:tmd η k z) (x:ExtB η.nx η η'):tmd η' k z:=by
 obtain ⟨a,b,c,d,cs,kd,h1,h2,h3⟩:=h
 exact ⟨a,b,c,d,cs,kd,h1,h2.ext x,h3⟩
theorem tmds_ext {η η':HN} (x:ExtB η.nx η η'):∀ {ks:List Ck} {ls:List (List AV)},tmds η ks ls → tmds η' ks ls
 | [],_,h=>h
 | _ :: _,_,⟨l,r,e,h2,h3⟩=>⟨l,r,e,h2.ext x,tmds_ext x h3⟩
theorem tmds_len {η:HN}:∀ {ks:List Ck} {ls:List (List AV)},tmds η ks ls → ls.length = ks.length ∧ ∀ l ∈ ls,l.length = 8
 | [],_,h=>by
  have h:_ = []:=h
  subst h
  exact ⟨rfl,fun _ h=>by cases h⟩
 | k :: ks,_,⟨l,r,e,h2,h3⟩=>by
  subst e
  have:=tmds_len h3
  refine ⟨by simp [this.1],fun x hx=>?_⟩
  rcases List.mem_cons.1 hx with rfl | hx
  ·obtain ⟨a,b,c,d,cs,kd,rfl,_⟩:=h2
   rfl
  ·exact this.2 x hx
theorem tmds_at {η:HN}:∀ {ks:List Ck} {ls:List (List AV)},tmds η ks ls → ∀ i (h:i < ks.length),∃ h':i < ls.length,tmd η ks[i] ls[i]
 | k :: ks,_,⟨l,r,e,h2,h3⟩,0,hi=>by subst e; exact ⟨Nat.succ_pos _,h2⟩
 | k :: ks,_,⟨l,r,e,h2,h3⟩,i + 1,hi=>by
  subst e
  obtain ⟨q,r⟩:=tmds_at h3 i (by simpa using hi)
  exact ⟨Nat.succ_lt_succ q,r⟩
theorem tmds_app {η:HN} {k:Ck} {z:List AV} (g:tmd η k z):∀ {ks:List Ck} {ls:List (List AV)},tmds η ks ls → tmds η (ks ++ [k]) (ls ++ [z])
 | [],_,h=>by
  have h:_ = []:=h
  subst h
  exact ⟨z,[],rfl,g,rfl⟩
 | _ :: _,_,⟨l,r,e,h2,h3⟩=>by
  subst e
  exact ⟨l,r ++ [z],rfl,h2,tmds_app g h3⟩
theorem ck_at {η:HN} {y:AV} {c:List Stp} (h:CkA η y c) {i:Nat} (hi:i < c.length):∃ b,b < η.nx ∧ y = .slice b 0 c.length (.un 2) ∧ η.f b = .live false (c.map stc).flatten ∧ ((c.map stc).flatten.drop (i * 2)).take 2 = [.str (c[i]).1.1 (c[i]).1.2,.bool (c[i]).2] ∧ (c.map stc).flatten.length = c.length * 2:=by
 rcases h with ⟨_,rfl⟩ | ⟨b,h1,h2,h3⟩
 ·cases hi
 ·refine ⟨b,h1,h2,h3,?_,by rw [flat_len _ (stc_rows _),List.length_map]⟩
  rw [flat_at (s:=2) _ i (stc_rows c) (by rw [List.length_map]; exact hi),List.getElem_map]; rfl
end Go.Plain
namespace Go.Proofs.Ytpjmiopplfmcfaa
open Go.Eng Go.Plain
set_option autoImplicit false
set_option maxRecDepth 100000
variable {nat:∀ [Deep],Nats}
theorem ck_len {η η':HN} {y:AV} {c:List Stp} (h:CkA η y c) (hc:c.length ≤ 9223372036854775807) (e w:Nat):lenN (.slice e 2 w) y η' = .ok (.int .i64 c.length) η':=row_len (η':=η') h.rd (n:=c.length) (by rw [List.length_map]) hc e w
@[go_sem] theorem stp_good:goodEq Try.prog 74 false = true:=by kernel_rfl
theorem stp_eq {a b:S} {p q:Bool}:(eqB Try.prog 74).f (.agg [.str a.1 a.2,.bool p]) (.agg [.str b.1 b.2,.bool q]) = oB (some (strEq a.1 a.2 b.1 b.2)) (oB (some (beqB p q)) (some true) (some false) none) (some false) none:=by kernel_rfl
theorem stp_dec (s t:Stp):(eqB Try.prog 74).f (.agg [.str s.1.1 s.1.2,.bool s.2]) (.agg [.str t.1.1 t.1.2,.bool t.2]) = some (decide (s = t)):=by
 rw [stp_eq,strEq_S]
 obtain ⟨a,p⟩:=s
 obtain ⟨b,q⟩:=t
 by_cases h:a = b
 ·subst h
  rw [decide_eq_true rfl]
  cases p <;> cases q <;> simp <;> rfl
 ·rw [decide_eq_false h,decide_eq_false (fun g=>h (by cases g; rfl))]; rfl
theorem equal_then (U:Usual nat) {η:HN} {y z:AV} {c d:List Stp} (hy:CkA η y c) (hz:CkA η z d) (hc:c.length ≤ 1099511627776) (hd:d.length ≤ 1099511627776) {Q:AV → HN → Prop} (k:Q (.bool (decide (c = d))) η):∃ v' η',CallN Try.prog nat 115 [y,z] η v' η' ∧ Q v' η':=by
 refine call_of (PT:=pl115) Try.func115 rfl (U 115 (by decide)) ok115 rfl ?_
 have ly:=fun η' e w=>ck_len (η':=η') hy (by omega) e w
 have lz:=fun η' e w=>ck_len (η':=η') hz (by omega) e w
 by_cases hl:c.length = d.length
 ·simp -implicitDefEqProofs (disch:=omega) only [go_sem,ly,lz]
  obtain ⟨I,hI⟩:∃ I:Nat → FN → HN → Prop,∀ m φ ζ,I m φ ζ ↔ ∃ i,m = c.length - i ∧ i ≤ c.length ∧ (φ 0 = y ∧ φ 1 = z ∧ φ 12 = .int .i64 c.length ∧ φ 13 = .int .i64 i) ∧ ζ = η ∧ c.take i = d.take i:=⟨_,fun _ _ _=>Iff.rfl⟩
  refine wpN_loop I c.length ((hI _ _ _).2 ⟨0,rfl,Nat.zero_le _,⟨rfl,rfl,rfl,rfl⟩,rfl,rfl⟩) ?_
  intro m φ ζ hi
  obtain ⟨i,hm,hi,⟨p0,p1,p12,p13⟩,rfl,ht⟩:=(hI _ _ _).1 hi
  by_cases hlt:i < c.length
  ·obtain ⟨b1,q1,rfl,q2,q3,q4⟩:=ck_at hy hlt
   obtain ⟨b2,r1,rfl,r2,r3,r4⟩:=ck_at hz (i:=i) (by omega)
   have sd:=stp_dec c[i] d[i]
   have tk:c.take (i + 1) = c.take i ++ [c[i]]:=List.take_succ_eq_append_getElem hlt
   have tk':d.take (i + 1) = d.take i ++ [d[i]]:=List.take_succ_eq_append_getElem (by omega)
   by_cases e:c[i] = d[i]
   ·rw [decide_eq_true e] at sd
    simp -implicitDefEqProofs (disch:=omega) only [go_sem,p0,p1,p12,p13,q2,q3,q4,r2,r3,r4,sd,Bool.not_true]
    exact ⟨c.length - (i + 1),by omega,(hI _ _ _).2 ⟨i + 1,rfl,hlt,⟨by exact p0,by exact p1,by exact p12,rfl⟩,rfl,by rw [tk,tk',ht,e]⟩⟩
   ·rw [decide_eq_false e] at sd
    have ne:c ≠ d:=fun g=>e (by subst g; rfl)
    rw [decide_eq_false ne] at k
    simp -implicitDefEqProofs (disch:=omega) only [go_sem,p0,p1,p12,p13,q2,q3,q4,r2,r3,r4,sd,Bool.not_false]
    exact k
  ·obtain rfl:i = c.length:=by omega
   rw [List.take_length,hl,List.take_length] at ht
   rw [decide_eq_true ht] at k
   simp -implicitDefEqProofs (disch:=omega) only [go_sem,p0,p1,p12,p13]
   exact k
 ·have ne:c ≠ d:=fun g=>hl (by rw [g])
  rw [decide_eq_false ne] at k
  simp -implicitDefEqProofs (disch:=omega) only [go_sem,ly,lz]
  exact k
theorem fits_then (U:Usual nat) {η:HN} {y:AV} {kk:Ck} {z:List AV} {d:List Stp} (hz:tmd η kk z) (hy:CkA η y d) (hc:kk.1.length ≤ 1099511627776) (hd:d.length ≤ 1099511627776) {Q:AV → HN → Prop} (k:∀ η',ExtB η.nx η η' → Q (.bool (fitsK kk d)) η'):∃ v' η',CallN Try.prog nat 65 [.agg z,y] η v' η' ∧ Q v' η':=by
 obtain ⟨a,b,c1,d1,cs,kd,rfl,h2,h3⟩:=hz
 refine call_of (PT:=pl65) Try.func65 rfl (U 65 (by decide)) ok65 rfl ?_
 have E:ExtB η.nx η (η.new (.live false [.str a.1 a.2,.str b.1 b.2,.int .i64 c1,.int .i64 d1,.nilslice,cs,kd,.bool kk.2])):=extN (.refl _ _)
 cases ea:kk.2 with
 | true =>
  have e:fitsK kk d = true:=by unfold fitsK; rw [ea]; rfl
  rw [e] at k
  rw [ea] at E
  simp -implicitDefEqProofs (disch:=omega) only [go_sem]
  exact k _ E
 | false =>
  have e:fitsK kk d = decide (kk.1 = d):=by unfold fitsK; rw [ea]; rfl
  rw [e] at k
  rw [ea] at E
  simp -implicitDefEqProofs (disch:=omega) only [go_sem]
  refine thenN_call (equal_then U (h2.ext E) (hy.ext E) hc hd ?_)
  simp -implicitDefEqProofs (disch:=omega) only [go_sem]
  exact k _ E
theorem clip_then (U:Usual nat) {η:HN} {y:AV} {c:List Stp} (hy:CkA η y c) (hc:c.length ≤ 1099511627776) {Q:AV → HN → Prop} (k:∀ y',(y' = .nilslice ∧ c = [] ∨ ∃ b cp,b < η.nx ∧ cp ≤ c.length ∧ y' = .slice b 0 c.length (.kn cp) ∧ η.f b = .live false (c.map stc).flatten) → Q y' η):∃ v' η',CallN Try.prog nat 142 [y] η v' η' ∧ Q v' η':=by
 refine call_of (PT:=pl142) Try.func142 rfl (U 142 (by decide)) ok142 rfl ?_
 have ly:=fun η' e w=>ck_len (η':=η') hy (by omega) e w
 rcases hy with ⟨rfl,rfl⟩ | ⟨b,h1,rfl,h3⟩
 ·simp -implicitDefEqProofs (disch:=omega) only [go_sem]
  exact k _ (.inl ⟨rfl,rfl⟩)
 ·have st:(if c.length = 0 then RES.ok (.slice b 0 0 (.kn 0)) η else RES.ok (.slice b 0 c.length (.kn c.length)) η) = .ok (.slice b 0 c.length (.kn c.length)) η:=by
   by_cases h0:c.length = 0
   ·rw [if_pos h0,h0]
   ·rw [if_neg h0]
  simp -implicitDefEqProofs (disch:=omega) only [go_sem,st]
  exact k _ (.inr ⟨b,c.length,h1,Nat.le_refl _,rfl,h3⟩)
theorem step_app {η:HN} {y':AV} {c:List Stp} (hc:c.length ≤ 1099511627776) (h:y' = .nilslice ∧ c = [] ∨ ∃ b cp,b < η.nx ∧ cp ≤ c.length ∧ y' = .slice b 0 c.length (.kn cp) ∧ η.f b = .live false (c.map stc).flatten) {s:S} {q:Bool} {zb:Nat} {cz:Cp} (hz:η.f zb = .live false [.str s.1 s.2,.bool q]) :
  apSrcN 2 24 y' (.slice zb 0 1 cz) η = .ok (.slice η.nx 0 (c.length + 1) (.un 2)) (η.new (.live false ((c ++ [(s,q)]).map stc).flatten)):=by
 rw [apSrc_sl,if_neg (by decide),hz,rowN_at,if_pos (Nat.le_of_ble_eq_true rfl)]
 have fl:((c ++ [(s,q)]).map stc).flatten = (c.map stc).flatten ++ [.str s.1 s.2,.bool q]:=by
  rw [List.map_append,List.map_cons,List.map_nil,flatten_snoc]; rfl
 rw [fl]
 rcases h with ⟨rfl,rfl⟩ | ⟨b,cp,h1,hcp,rfl,h3⟩
 ·rfl
 ·show (if (c.length + 1) * 24 ≤ 140737488355328 then (if 1 = 0 then RES.ok _ η else apKn b 0 c.length 2 1 cp [.str s.1 s.2,.bool q] (η.f b) η) else RES.no) = _
  rw [if_pos (by omega),if_neg (by decide)]
  unfold apKn
  rw [if_neg (by omega),h3,rowN_at,if_pos (by rw [flat_len _ (stc_rows c),List.length_map]; omega),List.drop_zero,List.take_of_length_le (by rw [flat_len _ (stc_rows c),List.length_map]; exact Nat.le_refl _)]
  rfl
theorem step_then (U:Usual nat) {η:HN} {y:AV} {c:List Stp} {s:S} {q:Bool} (hy:CkA η y c) (hc:c.length ≤ 1099511627776) {Q:AV → HN → Prop} (k:∀ y' η',CkA η' y' (stepK c s q) → ExtB η.nx η η' → Q y' η'):∃ v' η',CallN Try.prog nat 132 [y,.str s.1 s.2,.bool q] η v' η' ∧ Q v' η':=by
 refine call_of (PT:=pl132) Try.func132 rfl (U 132 (by decide)) ok132 rfl ?_
 simp -implicitDefEqProofs (disch:=omega) only [go_sem]
 refine thenN_call (clip_then U hy hc fun y' hy'=>?_)
 simp -implicitDefEqProofs (disch:=omega) only [go_sem,repL_s,repL_z,setsL_c]
 have E:ExtB η.nx η (η.new (.live false [.str s.1 s.2,.bool q])):=extN (.refl _ _)
 have hy2:y' = .nilslice ∧ c = [] ∨ ∃ b cp,b < (η.new (.live false [.str s.1 s.2,.bool q])).nx ∧ cp ≤ c.length ∧ y' = .slice b 0 c.length (.kn cp) ∧ (η.new (.live false [.str s.1 s.2,.bool q])).f b = .live false (c.map stc).flatten:=by
  rcases hy' with h | ⟨b,cp,h1,h2,h3,h4⟩
  ·exact .inl h
  ·exact .inr ⟨b,cp,Nat.lt_succ_of_lt h1,h2,h3,(E.2 b h1).trans h4⟩
 have sa:=step_app hc hy2 (s:=s) (q:=q) (zb:=η.nx) (cz:=.kn 1) (if_pos rfl)
 simp -implicitDefEqProofs (disch:=omega) only [go_sem,sa]
 refine k _ _ (.inr ⟨η.nx + 1,Nat.lt_succ_self _,?_,if_pos rfl⟩) (extN E)
 unfold stepK
 rw [List.length_append]; rfl
theorem clt_m1:ltN .i64 18446744073709551615 0 = true:=rfl
theorem clkIx_spec (U:Usual nat) {α:Type} {l:List α} {ls:List (List AV)} {η:HN} {v:AV} (hl:ls.length = l.length) (hn:l.length ≤ 4294967296) (rv:RdR 8 η v ls) {p:α → Bool} {f:FuncId} {caps:List AV}
  (hc:TellsN nat η l ls p f caps) {Q:AV → HN → Prop} (k:∀ η',ExtB η.nx η η' → Q (.int .i64 (encO (ixL p l 0))) η'):∃ v' η',CallN Try.prog nat 143 [v,.func f [] caps] η v' η' ∧ Q v' η':=by
 refine call_of (PT:=pl143) Try.func143 rfl (U 143 (by decide)) ok143 rfl ?_
 have ln:=fun η' e w=>row_len (η':=η') rv hl (by omega) e w
 simp -implicitDefEqProofs (disch:=omega) only [go_sem,ln]
 obtain ⟨I,hI⟩:∃ I:Nat → FN → HN → Prop,∀ m φ ζ,I m φ ζ ↔ ∃ i,m = l.length - i ∧ i ≤ l.length ∧ (φ 0 = v ∧ φ 1 = .func f [] caps ∧ φ 7 = .int .i64 l.length ∧ φ 8 = .int .i64 i) ∧ ixL p (l.drop i) i = ixL p l 0 ∧ ExtB η.nx η ζ:=⟨_,fun _ _ _=>Iff.rfl⟩
 refine wpN_loop I l.length ((hI _ _ _).2 ⟨0,rfl,Nat.zero_le _,⟨rfl,rfl,rfl,rfl⟩,rfl,.refl _ _⟩) ?_
 intro m φ ζ hi
 obtain ⟨i,hm,hi,⟨p0,p1,p7,p8⟩,ex,Ex⟩:=(hI _ _ _).1 hi
 by_cases hlt:i < l.length
 ·obtain ⟨b,off,cap,ro,row,rfl,hb,hbn,hlen,hrow⟩:=rv.at (i:=i) (by omega)
  have hbz:ζ.f b = _:=(Ex.2 b hbn).trans hb
  simp -implicitDefEqProofs (disch:=omega) only [go_sem,p0,p1,p7,p8,hbz,hrow]
  refine thenN_call (hc ζ Ex i hlt (by omega) _ fun ζ2 x2=>?_)
  rw [ixL_drop hlt] at ex
  cases e:p l[i] with
  | true =>
   rw [e,if_pos rfl] at ex
   rw [← ex] at k
   simp -implicitDefEqProofs (disch:=omega) only [go_sem,p0,p1,p7,p8]
   exact k _ (extT Ex x2)
  | false =>
   rw [e,if_neg (by decide)] at ex
   simp -implicitDefEqProofs (disch:=omega) only [go_sem,p0,p1,p7,p8]
   exact ⟨l.length - (i + 1),by omega,(hI _ _ _).2 ⟨i + 1,rfl,hlt,⟨by exact p0,by exact p1,by exact p7,rfl⟩,ex,extT Ex x2⟩⟩
 ·obtain rfl:i = l.length:=by omega
  rw [List.drop_length] at ex
  rw [← ex] at k
  simp -implicitDefEqProofs (disch:=omega) only [go_sem,p0,p1,p7,p8]
  exact k _ Ex
theorem tcontains_then (U:Usual nat) {α:Type} {l:List α} {ls:List (List AV)} {η:HN} {v:AV} (hl:ls.length = l.length) (hn:l.length ≤ 4294967296) (rv:RdR 8 η v ls) {p:α → Bool} {f:FuncId} {caps:List AV}
  (hc:TellsN nat η l ls p f caps) {Q:AV → HN → Prop} (k:∀ η',ExtB η.nx η η' → Q (.bool (l.any p)) η'):∃ v' η',CallN Try.prog nat 145 [v,.func f [] caps] η v' η' ∧ Q v' η':=by
 refine call_of (PT:=pl145) Try.func145 rfl (U 145 (by decide)) ok145 rfl ?_
 simp -implicitDefEqProofs (disch:=omega) only [go_sem]
 refine thenN_call (clkIx_spec U hl hn rv hc fun η2 x2=>?_)
 have ea:=ixL_any p l 0
 cases e:ixL p l 0 with
 | none =>
  rw [e] at ea
  have ea:false = l.any p:=ea
  rw [← ea] at k
  have ee:encO none = 18446744073709551615:=rfl
  simp -implicitDefEqProofs (disch:=omega) only [go_sem,ee,clt_m1]
  exact k _ x2
 | some j =>
  rw [e] at ea
  have ea:true = l.any p:=ea
  rw [← ea] at k
  obtain ⟨_,hj,_⟩:=ixL_lt e
  have ee:encO (some j) = j:=rfl
  simp -implicitDefEqProofs (disch:=omega) only [go_sem,ee]
  exact k _ x2
theorem one1_then (U:Usual nat) {η:HN} {kk:Ck} {z:List AV} (hz:tmd η kk z) {Q:AV → HN → Prop} (k:∀ η',ExtB η.nx η η' → Q (.bool (!kk.2)) η'):∃ v' η',CallN Try.prog nat 144 [.agg z] η v' η' ∧ Q v' η':=by
 obtain ⟨a,b,c1,d1,cs,kd,rfl,h2,h3⟩:=hz
 refine call_of (PT:=pl144) Try.func144 rfl (U 144 (by decide)) ok144 rfl ?_
 cases e:kk.2 with
 | true =>
  rw [e] at k
  simp -implicitDefEqProofs (disch:=omega) only [go_sem]
  exact k _ (extN (.refl _ _))
 | false =>
  rw [e] at k
  simp -implicitDefEqProofs (disch:=omega) only [go_sem]
  exact k _ (extN (.refl _ _))
theorem one2_then (U:Usual nat) {η:HN} {kk:Ck} {z:List AV} {y:AV} {d:List Stp} {cb:Nat} (hz:tmd η kk z) (hy:CkA η y d) (hb:η.f cb = .live false [y]) (hbn:cb < η.nx) (hc:kk.1.length ≤ 1099511627776) (hd:d.length ≤ 1099511627776) {Q:AV → HN → Prop} (k:∀ η',ExtB η.nx η η' → Q (.bool (!fitsK kk d)) η'):∃ v' η',CallN Try.prog nat 146 [.agg z,.ptr cb 0] η v' η' ∧ Q v' η':=by
 have hz':=hz
 obtain ⟨a,b,c1,d1,cs,kd,rfl,h2,h3⟩:=hz'
 refine call_of (PT:=pl146) Try.func146 rfl (U 146 (by decide)) ok146 rfl ?_
 have E:ExtB η.nx η (η.new (.live false [.str a.1 a.2,.str b.1 b.2,.int .i64 c1,.int .i64 d1,.nilslice,cs,kd,.bool kk.2])):=extN (.refl _ _)
 simp -implicitDefEqProofs (disch:=omega) only [go_sem,hb]
 refine thenN_call (fits_then U (hz.ext E) (hy.ext E) hc hd fun η2 x2=>?_)
 cases e:fitsK kk d with
 | true =>
  rw [e] at k
  simp -implicitDefEqProofs (disch:=omega) only [go_sem,Bool.not_true]
  exact k _ (extT E x2)
 | false =>
  rw [e] at k
  simp -implicitDefEqProofs (disch:=omega) only [go_sem,Bool.not_false]
  exact k _ (extT E x2)
def smallK (ks:List Ck):Prop:=ks.length ≤ 1073741824 ∧ ∀ k ∈ ks,k.1.length ≤ 1099511627776
theorem one_then (U:Usual nat) {η:HN} {y:AV} {ls:List (List AV)} {ks:List Ck} (ry:RdR 8 η y ls) (rk:tmds η ks ls) (sk:smallK ks) {Q:AV → HN → Prop} (k:∀ cs η',CkA η' cs (oneK ks).1.1 → ExtB η.nx η η' → Q (.tup [cs,.bool (oneK ks).1.2,.bool (oneK ks).2]) η'):∃ v' η',CallN Try.prog nat 133 [y] η v' η' ∧ Q v' η':=by
 obtain ⟨hl,h8⟩:=tmds_len rk
 have hs:=sk.1
 refine call_of (PT:=pl133) Try.func133 rfl (U 133 (by decide)) ok133 rfl ?_
 simp -implicitDefEqProofs (disch:=omega) only [go_sem]
 refine thenN_call (clkIx_spec U (l:=ks) (p:=fun k=>!k.2) (f:=144) (caps:=[]) hl (by omega) ry ?_ fun η2 x2=>?_)
 ·intro ζ Ez i h h' Q' k'
  obtain ⟨h1,r1⟩:=tmds_at rk i h
  exact one1_then U (r1.ext Ez) k'
 have fd:=ixL_find (fun k:Ck=>!k.2) ks 0
 cases e:ixL (fun k:Ck=>!k.2) ks 0 with
 | none =>
  rw [e] at fd
  have fd:none = ks.find? (fun k:Ck=>!k.2):=fd
  have eo:oneK ks = (([],true),true):=by unfold oneK; rw [← fd]
  rw [eo] at k
  have ee:encO none = 18446744073709551615:=rfl
  simp -implicitDefEqProofs (disch:=omega) only [go_sem,ee,clt_m1]
  exact k _ _ (.inl ⟨rfl,rfl⟩) x2
 | some j =>
  obtain ⟨_,hj,_⟩:=ixL_lt e
  have hj:j < ks.length:=by omega
  rw [e] at fd
  have fd:ks[j - 0]? = ks.find? (fun k:Ck=>!k.2):=fd
  rw [Nat.sub_zero,List.getElem?_eq_getElem hj] at fd
  have eo:oneK ks = ((ks[j].1,false),!ks.any fun k'=>!fitsK k' ks[j].1):=by unfold oneK; rw [← fd]
  rw [eo] at k
  obtain ⟨hj',rj⟩:=tmds_at rk j hj
  obtain ⟨b,off,cap,ro,row,rfl,hbv,hbn,hlen,hrow⟩:=ry.at hj'
  have hbz:η2.f b = _:=(x2.2 b hbn).trans hbv
  have r2:=rj
  obtain ⟨a1,b1,c1,d1,cs,kd,ez,hck,hkd⟩:=r2
  rw [ez] at hrow
  have w5:row[off + j * 8 + 5]? = some cs:=take_at (i:=5) hrow (by decide) (Nat.le_of_ble_eq_true rfl)
  have wy:row.getD (off + j * 8 + 5) und = cs:=by rw [List.getD_eq_getElem?_getD,w5]; rfl
  have ee:encO (some j) = j:=rfl
  have hcc:=hck.cells
  have E3:ExtB η.nx η (η2.new (.live false [cs])):=extN x2
  simp -implicitDefEqProofs (disch:=omega) only [go_sem,ee,hbz,w5,wy,hcc]
  refine dE_call (tcontains_then U (l:=ks) (ls:=ls) (p:=fun k'=>!fitsK k' ks[j].1) (f:=146) (caps:=[.ptr η2.nx 0]) hl (by omega) (ry.ext (base:=0) E3) ?_ fun η4 x4=>?_)
  ·intro ζ Ez i h h' Q' k'
   obtain ⟨h1,r1⟩:=tmds_at rk i h
   have E4:=extT E3 Ez
   exact one2_then U (r1.ext E4) (hck.ext E4) ((Ez.2 _ (Nat.lt_succ_self _)).trans (if_pos rfl)) (Nat.lt_of_lt_of_le (Nat.lt_succ_self _) Ez.1) (sk.2 _ (List.getElem_mem h)) (sk.2 _ (List.getElem_mem hj)) k'
  have c4:η4.f η2.nx = _:=(x4.2 _ (Nat.lt_succ_self _)).trans (if_pos rfl)
  have E4:=extT E3 x4
  cases eA:ks.any (fun k'=>!fitsK k' ks[j].1) with
  | true =>
   rw [eA] at k
   simp -implicitDefEqProofs (disch:=omega) only [go_sem,c4,Bool.not_true]
   exact k _ _ (hck.ext E4) E4
  | false =>
   rw [eA] at k
   simp -implicitDefEqProofs (disch:=omega) only [go_sem,c4,Bool.not_false]
   exact k _ _ (hck.ext E4) E4
end Go.Proofs.Ytpjmiopplfmcfaa
