/- What is proved: what the leaves of cau do: own, and the lists of texts. what finds the names that an expression leans on does. what drops texts out of a list does. what copies an expression does. a list of texts that is worked off at its end may grow again. a name's equation is found, and another one like it is made. Conditions: as each theorem says. -/
import Derived.Test.YtkggpdaglhnonaaLate
import Derived.Test.YtkggpdaglhnonaaPlainR
set_option linter.unusedVariables false
set_option linter.unusedSimpArgs false
set_option linter.unusedSectionVars false
namespace Go.Proofs.Ytkggpdaglhnonaa
open Go.Eng Go.Plain
set_option autoImplicit false
set_option maxRecDepth 100000
variable {nat:∀ [Deep],Nats}
theorem own_lenN {n:Nd} (ok:okN n):(ownN n).length ≤ 4294967296:=by
 have h2:=ok.2.2.1.1
 have h3:=ok.2.2.2.1.1
 unfold ownN
 rw [List.length_map,List.length_append]; omega
attribute [-go_sem] Go.Eng.wp_block in
set_option maxHeartbeats 4000000 in
theorem own10_then (U:Usual nat) {η:HN} {n:Nd} {z:List AV} (r:rdN tt η n z) (ok:okN n) {Q:AV → HN → Prop} (k:∀ y η',RowA η.nx η' y (strc (ownN n)) → ExtB η.nx η η' → Q y η'):∃ v' η',CallN Try.prog nat 81 [.agg z] η v' η' ∧ Q v' η':=by
 have hol:=own_lenN ok
 obtain ⟨y1,y2,y3,y4,rfl,-,r1,r2,r3,-⟩:=r
 obtain ⟨ok0,ok1,ok2,ok3,ok4,ok5⟩:=ok
 refine call_of (PT:=pl81) Try.func81 rfl (U 81 (by decide)) ok81 rfl ?_
 have hsn:sV n.nm = .str n.nm.1 n.nm.2:=rfl
 have q2:=r2.cells
 have q3:=r3.cells
 simp -implicitDefEqProofs (disch:=omega) only [go_sem,Go.Eng.wp_block,hsn,q2,q3,repL_s,repL_z,setsL_c]
 have E:ExtB η.nx η ((η.new (.live false [.str n.nm.1 n.nm.2,y1,y2,y3,y4,.int .i64 n.a])).new (.live false [y2,y3])):=extN (extN (.refl _ _))
 have sz:sumL [n.outs,n.locs] ≤ 4294967296:=by
  have h2:=ok2.1
  have h3:=ok3.1
  unfold sumL
  simp only [List.flatten_cons,List.flatten_nil,List.length_append,List.length_nil]
  omega
 refine thenN_call (concat_then U (b:=η.nx + 1) (ys:=[y2,y3]) (ll:=[n.outs,n.locs]) ⟨r2.ext (base:=0) E,r3.ext (base:=0) E,trivial⟩ (if_pos rfl) (Nat.lt_succ_self _) sz (Nat.le_of_ble_eq_true rfl) fun xv ζv rx Ev=>?_)
 have ef:[n.outs,n.locs].flatten = n.outs ++ n.locs:=by simp
 rw [ef] at rx
 have EV:=extT E Ev
 have nv:=Ev.1
 have eo:ownN n = (n.outs ++ n.locs).map Vr.nm:=rfl
 rw [eo] at k hol
 rw [List.length_map] at hol
 generalize n.outs ++ n.locs = V at *
 have lx:=fun η' e w=>row_len (η':=η') rx (vrs_len _) (by omega) e w
 simp -implicitDefEqProofs (disch:=omega) only [go_sem,Go.Eng.wp_block,lx]
 obtain ⟨J,hJ⟩:∃ J:Nat → FN → HN → Prop,∀ j φ ζ',J j φ ζ' ↔ ∃ q x,j = V.length - q ∧ q ≤ V.length ∧ (φ 3 = x ∧ φ 11 = xv ∧ φ 12 = .int .i64 V.length ∧ φ 13 = .int .i64 q) ∧ RowA ζv.nx ζ' x (strc ((V.take q).map Vr.nm)) ∧ ExtB ζv.nx ζv ζ':=⟨_,fun _ _ _=>Iff.rfl⟩
 refine wpN_loop J V.length ((hJ _ _ _).2 ⟨0,.nilslice,rfl,Nat.zero_le _,⟨rfl,rfl,rfl,rfl⟩,.inl ⟨rfl,rfl⟩,.refl _ _⟩) ?_
 intro j φ ζ' hj'
 obtain ⟨q,x,hj',hq,⟨p3,p11,p12,p13⟩,r6,E'⟩:=(hJ _ _ _).1 hj'
 have n':=E'.1
 have ll:((V.take q).map Vr.nm).length = q:=by rw [List.length_map,List.length_take]; omega
 by_cases hqt:q < V.length
 ·obtain ⟨b,off,cap,ro,row,rfl,hbv,hbn,hlen,hrow⟩:=vr_at rx hqt
  have bx2:ζ'.f b = _:=(E'.2 _ hbn).trans hbv
  have et:(V.take (q + 1)).map Vr.nm = (V.take q).map Vr.nm ++ [V[q].nm]:=by rw [List.take_succ_eq_append_getElem hqt,List.map_append]; rfl
  generalize V[q] = w at *
  have hwc:w.cells = [.str w.nm.1 w.nm.2,.int .i64 w.kd,.str w.on.1 w.on.2,.bool w.nt,.int .i64 w.a]:=rfl
  rw [hwc] at hrow
  obtain ⟨ζ1,h1⟩:∃ ζ1,ζ1 = ζ'.new (.live false [.str w.nm.1 w.nm.2,.int .i64 w.kd,.str w.on.1 w.on.2,.bool w.nt,.int .i64 w.a]):=⟨_,rfl⟩
  have E1:ExtB ζ'.nx ζ' ζ1:=by rw [h1]; exact extN (.refl _ _)
  have c1:ζ1.f ζ'.nx = .live false [.str w.nm.1 w.nm.2,.int .i64 w.kd,.str w.on.1 w.on.2,.bool w.nt,.int .i64 w.a]:=by rw [h1]; exact if_pos rfl
  have n1:ζ1.nx = ζ'.nx + 1:=by rw [h1]; rfl
  simp -implicitDefEqProofs (disch:=omega) only [go_sem,Go.Eng.wp_block,p3,p11,p12,p13,lx,bx2,hrow,repL_s,repL_z,setsL_c]
  rw [← h1]
  have r1':=r6.keep (η':=ζ1) E1.1 fun c _ h2 _=>E1.2 c h2
  obtain ⟨ζ9,e9,ra9,n9,k9⟩:=rowA_app (w:=16) (η:=ζ1.new (.live false [.str w.nm.1 w.nm.2])) (v:=.str w.nm.1 w.nm.2) (zb:=ζ1.nx) (c:=.kn 1) (r1'.keep (η':=ζ1.new (.live false [.str w.nm.1 w.nm.2])) (Nat.le_succ _) fun c _ h2 _=>if_neg (by omega)) (if_pos rfl) (Nat.lt_succ_self _) (by rw [strc_len,ll]; omega) (by show ζv.nx ≤ ζ1.nx + 1; omega)
  rw [strc_app,← et] at ra9
  rw [strc_len,ll] at e9 ra9
  have n9':ζ9.nx = ζ1.nx + 2:=n9
  have xal:∀ c,blkIs x c → ζv.nx ≤ c:=fun c hc=>(r6.blk hc).1
  rw [n1] at e9
  rw [e9]
  simp -implicitDefEqProofs (disch:=omega) only [go_sem,Go.Eng.wp_block,p3,p11,p12,p13]
  exact ⟨V.length - (q + 1),by omega,(hJ _ _ _).2 ⟨q + 1,_,rfl,hqt,⟨rfl,by exact p11,by exact p12,rfl⟩,ra9,⟨by omega,fun c hc=>(k9 c (by show c < ζ1.nx + 1; omega) (fun g=>by have:=xal c g; omega)).trans ((if_neg (by omega)).trans ((E1.2 c (by omega)).trans (E'.2 c hc)))⟩⟩⟩
 ·obtain rfl:q = V.length:=by omega
  rw [List.take_length] at r6
  simp -implicitDefEqProofs (disch:=omega) only [go_sem,Go.Eng.wp_block,p3,p11,p12,p13,lx]
  refine k _ _ ?_ (extT EV E')
  rcases r6 with h | ⟨b,h1,h2,h3,h4,h5⟩
  ·exact .inl h
  ·exact .inr ⟨b,by have:=EV.1; omega,h2,h3,h4,h5⟩
theorem strc_rows (m:List S):((strc m).map fun v=>[v]).length = m.length:=by rw [List.length_map,strc_len]
theorem slt_m1:ltN .i64 18446744073709551615 0 = true:=rfl
theorem index_then (U:Usual nat) {η:HN} {lo:Nat} {x:AV} {m:List S} (r:RowA lo η x (strc m)) (hm:m.length ≤ 4294967296) (s:S) {Q:AV → HN → Prop} (k:Q (.int .i64 (encO (ixL (fun y=>decide (y = s)) m 0))) η):∃ v' η',CallN Try.prog nat 120 [x,.str s.1 s.2] η v' η' ∧ Q v' η':=by
 refine call_of (PT:=pl120) Try.func120 rfl (U 120 (by decide)) ok120 rfl ?_
 have ln:=fun η' e w=>row_len (η':=η') r.rd (strc_rows m) (by omega) e w
 simp -implicitDefEqProofs (disch:=omega) only [go_sem,ln]
 obtain ⟨I,hI⟩:∃ I:Nat → FN → HN → Prop,∀ j φ ζ,I j φ ζ ↔ ∃ i,j = m.length - i ∧ i ≤ m.length ∧ (φ 0 = x ∧ φ 1 = .str s.1 s.2 ∧ φ 7 = .int .i64 m.length ∧ φ 8 = .int .i64 i) ∧ ζ = η ∧ ixL (fun y=>decide (y = s)) (m.drop i) i = ixL (fun y=>decide (y = s)) m 0:=⟨_,fun _ _ _=>Iff.rfl⟩
 refine wpN_loop I m.length ((hI _ _ _).2 ⟨0,rfl,Nat.zero_le _,⟨rfl,rfl,rfl,rfl⟩,rfl,rfl⟩) ?_
 intro j φ ζ hi
 obtain ⟨i,hj,hi,⟨p0,p1,p7,p8⟩,rfl,ed⟩:=(hI _ _ _).1 hi
 by_cases hlt:i < m.length
 ·obtain ⟨b,h1,h2,rfl,-,hb⟩:=r.resolve_left (fun g=>by have:=congrArg List.length g.2; rw [strc_len] at this; have:m.length = 0:=this; omega)
  have gl:=strc_len m
  have gs:=strc_get hlt
  rw [ixL_drop hlt] at ed
  generalize m[i] = w at *
  have es:=strEq_S s w
  by_cases e:w = s
  ·rw [decide_eq_true e.symm] at es
   rw [decide_eq_true e,if_pos rfl] at ed
   rw [← ed] at k
   simp -implicitDefEqProofs (disch:=omega) only [go_sem,p0,p1,p7,p8,hb,gl,gs,es]
   exact k
  ·rw [decide_eq_false fun g=>e g.symm] at es
   rw [decide_eq_false e,if_neg (by decide)] at ed
   simp -implicitDefEqProofs (disch:=omega) only [go_sem,p0,p1,p7,p8,hb,gl,gs,es]
   exact ⟨m.length - (i + 1),by omega,(hI _ _ _).2 ⟨i + 1,rfl,hlt,⟨by exact p0,by exact p1,by exact p7,rfl⟩,rfl,ed⟩⟩
 ·obtain rfl:i = m.length:=by omega
  rw [List.drop_length] at ed
  rw [← ed] at k
  simp -implicitDefEqProofs (disch:=omega) only [go_sem,p0,p1,p7,p8]
  exact k
theorem any_eq (m:List S) (s:S):(m.any fun y=>decide (y = s)) = m.contains s:=by
 induction m with
 | nil=>rfl
 | cons a m ih =>
  rw [List.any_cons,List.contains_cons,ih]
  congr 1
  by_cases g:a = s
  ·rw [decide_eq_true g,g]; simp
  ·rw [decide_eq_false g]; exact (beq_eq_false_iff_ne.2 fun e=>g e.symm).symm
theorem holds_then (U:Usual nat) {η:HN} {lo:Nat} {x:AV} {m:List S} (r:RowA lo η x (strc m)) (hm:m.length ≤ 4294967296) (s:S) {Q:AV → HN → Prop} (k:Q (.bool (m.contains s)) η):∃ v' η',CallN Try.prog nat 82 [x,.str s.1 s.2] η v' η' ∧ Q v' η':=by
 refine call_of (PT:=pl82) Try.func82 rfl (U 82 (by decide)) ok82 rfl ?_
 simp -implicitDefEqProofs (disch:=omega) only [go_sem]
 refine thenN_call (index_then U r hm s ?_)
 have ea:=ixL_any (fun y=>decide (y = s)) m 0
 rw [any_eq] at ea
 cases e:ixL (fun y=>decide (y = s)) m 0 with
 | none =>
  rw [e] at ea
  have ea:false = m.contains s:=ea
  rw [← ea] at k
  have ee:encO none = 18446744073709551615:=rfl
  simp -implicitDefEqProofs (disch:=omega) only [go_sem,ee,slt_m1]
  exact k
 | some j =>
  rw [e] at ea
  have ea:true = m.contains s:=ea
  rw [← ea] at k
  obtain ⟨_,hj,_⟩:=ixL_lt e
  have ee:encO (some j) = j:=rfl
  simp -implicitDefEqProofs (disch:=omega) only [go_sem,ee]
  exact k
@[go_sem] theorem strs_good:goodEq Try.prog 76 true = true:=by kernel_rfl
@[go_sem] theorem strs_eq {b o n:Nat} {c:Cp}:(eqB Try.prog 76).f (.slice b o n c) .nilslice = some false:=by kernel_rfl
end Go.Proofs.Ytkggpdaglhnonaa
namespace Go.Plain
open Go.Eng
set_option autoImplicit false
def kidsM (op:S) (ks:List Tr):List Tr:=if op = sPre then [] else if op = sFby then ks.take 1 else ks
def namM (op nm:S):List S:=if op = sVar ∨ op = sWhen ∨ op = sMerge then [nm] else []
theorem mn1_take (ks:List Tr):mn1 ks = mnEs (ks.take 1):=by
 cases ks with
 | nil=>unfold mn1; rw [List.take_nil]; unfold mnEs; rfl
 | cons k ks =>
  rw [show (k :: ks).take 1 = [k] from rfl]
  conv=>lhs; unfold mn1
  conv=>rhs; unfold mnEs
  rw [show mnEs [] = [] by unfold mnEs; rfl,List.append_nil]
theorem mnE_is (op nm:S) (n a:Nat) (ks:List Tr):mnE (.mk op nm n a ks) = namM op nm ++ mnEs (kidsM op ks):=by
 conv=>lhs; unfold mnE
 unfold namM kidsM
 congr 1
 by_cases h:op = sPre
 ·rw [if_pos h,if_pos h]; conv=>rhs; unfold mnEs
 ·rw [if_neg h,if_neg h]
  by_cases g:op = sFby
  ·rw [if_pos g,if_pos g,mn1_take]
  ·rw [if_neg g,if_neg g]
theorem mnEs_take {ks:List Tr} {i:Nat} (h:i < ks.length):mnEs (ks.take (i + 1)) = mnEs (ks.take i) ++ mnE ks[i]:=by
 have app:∀ (a b:List Tr),mnEs (a ++ b) = mnEs a ++ mnEs b:=by
  intro a b
  induction a with
  | nil=>rw [List.nil_append,show mnEs [] = [] by unfold mnEs; rfl,List.nil_append]
  | cons x a ih =>
   rw [List.cons_append]
   conv=>lhs; unfold mnEs
   conv=>rhs; enter [1]; unfold mnEs
   rw [ih,List.append_assoc]
 rw [List.take_succ_eq_append_getElem h,app]
 congr 1
 conv=>lhs; unfold mnEs
 rw [show mnEs [] = [] by unfold mnEs; rfl,List.append_nil]
def addM (P:S → Bool) (l:List S):S → Bool:=fun s=>P s || l.contains s
theorem addM_nil (P:S → Bool):addM P [] = P:=by funext s; unfold addM; rw [List.contains_nil,Bool.or_false]
theorem addM_app (P:S → Bool) (a b:List S):addM (addM P a) b = addM P (a ++ b):=by
 funext s; unfold addM; rw [List.contains_append,Bool.or_assoc]
theorem addM_one (P:S → Bool) (x:S):(fun t=>decide (t = x) || P t) = addM P [x]:=by
 funext s; unfold addM
 rw [List.contains_cons,List.contains_nil,Bool.or_false,Bool.or_comm]
 congr 1
 exact Bool.eq_iff_iff.2 (by simp)
theorem rdR_first {s:Nat} {η:HN} {b off len m:Nat} {cap:Cp} {ls:List (List AV)} (h:RdR s η (.slice b off len cap) ls) (hm:m ≤ ls.length):RdR s η (.slice b off m cap) (ls.take m):=by
 have fl:∀ (ls:List (List AV)) (m:Nat),(∀ l ∈ ls,l.length = s) → m ≤ ls.length → ls.flatten.take (m * s) = (ls.take m).flatten:=by
  intro ls
  induction ls with
  | nil=>intro m _ _; simp
  | cons l ls ih =>
   intro m hl hm
   cases m with
   | zero=>simp
   | succ m =>
    have e:=hl l List.mem_cons_self
    rw [List.take_succ_cons,List.flatten_cons,List.flatten_cons,List.take_append,List.take_of_length_le (by rw [e,Nat.succ_mul]; omega),← ih m (fun x hx=>hl x (List.mem_cons_of_mem _ hx)) (by simpa using hm),e]
    congr 2
    rw [Nat.succ_mul]; omega
 rcases h with ⟨rfl,_⟩ | ⟨b',off',cap',ro,row,e,h2,h3,h4,h5,h6⟩
 ·have:m = 0:=by simpa using hm
  subst this
  exact .inl ⟨by simp,.inr ⟨_,_,_,rfl⟩⟩
 ·cases e
  have e1:(ls.take m).length = m:=by rw [List.length_take]; omega
  have e2:m * s ≤ ls.length * s:=Nat.mul_le_mul_right _ hm
  refine .inr ⟨b,off,cap,ro,row,by rw [e1],h2,h3,by rw [e1]; omega,fun l hl=>h5 l (List.mem_of_mem_take hl),?_⟩
  rw [e1,← fl ls m h5 hm,← h6,List.take_take,Nat.min_eq_left e2]
theorem rdEs_take {F:Nat → Prop} {η:HN}:∀ {ks:List Tr} {ls:List (List AV)} (m:Nat),rdEs F η ks ls → rdEs F η (ks.take m) (ls.take m)
 | _,_,0,_=>by rw [List.take_zero,List.take_zero]; unfold rdEs; rfl
 | [],ls,m + 1,h=>by
  unfold rdEs at h
  subst h
  rw [List.take_nil,List.take_nil]; unfold rdEs; rfl
 | k :: ks,ls,m + 1,h=>by
  unfold rdEs at h
  obtain ⟨l,r,rfl,h2,h3⟩:=h
  rw [List.take_succ_cons,List.take_succ_cons]
  unfold rdEs
  exact ⟨l,_,rfl,h2,rdEs_take m h3⟩
end Go.Plain
namespace Go.Proofs.Ytkggpdaglhnonaa
open Go.Eng Go.Plain
set_option autoImplicit false
set_option maxRecDepth 100000
variable {nat:∀ [Deep],Nats}
set_option maxHeartbeats 8000000 in
theorem fexpr_then (U:Usual nat) {F:Nat → Prop} {fb mb:Nat} (hF:¬ F mb) (hne:fb ≠ mb):∀ (e:Tr),okE e → ∀ (η:HN) (z:List AV) (P:S → Bool) (Q:AV → HN → Prop),mb < η.nx → fb < η.nx → η.f fb = .live false [.map mb] → MapAt η mb (setM P) → rdE F η e z →
  (∀ η',ExtX mb η η' → MapAt η' mb (setM (addM P (mnE e))) → Q (.tup []) η') → ∃ v' η',CallN Try.prog nat 83 [.ptr fb 0,.agg z] η v' η' ∧ Q v' η':=by
 refine Tr.ind fun op nm n a ks ih=>?_
 intro ok η z P Q hmn hfn hf M r k
 unfold okE at ok
 obtain ⟨ha,hkl,hks⟩:=ok
 have hks:=(okEs_iff _).1 hks
 unfold rdE at r
 obtain ⟨y,rfl,iy,ls,ry,rks⟩:=r
 have hll:=(rdEs_len rks).1
 refine call_of (PT:=pl83) Try.func83 rfl (U 83 (by decide)) ok83 rfl ?_
 have E:ExtB η.nx η (η.new (.live false [.str op.1 op.2,.str nm.1 nm.2,.int .i64 n,.int .i64 a,y])):=extN (.refl _ _)
 have c0:(η.new (.live false [.str op.1 op.2,.str nm.1 nm.2,.int .i64 n,.int .i64 a,y])).f η.nx = .live false [.str op.1 op.2,.str nm.1 nm.2,.int .i64 n,.int .i64 a,y]:=if_pos rfl
 have n0:(η.new (.live false [.str op.1 op.2,.str nm.1 nm.2,.int .i64 n,.int .i64 a,y])).nx = η.nx + 1:=rfl
 have hf0:=(E.2 _ hfn).trans hf
 have M0:=MapAt_ext M hmn E
 have e1:strEq op.1 op.2 3 7496054 = decide (op = sVar):=strEq_S op sVar
 have e2:strEq op.1 op.2 4 1852139639 = decide (op = sWhen):=strEq_S op sWhen
 have e3:strEq op.1 op.2 5 435527247213 = decide (op = sMerge):=strEq_S op sMerge
 have e4:strEq op.1 op.2 3 6648432 = decide (op = sPre):=strEq_S op sPre
 have e5:strEq op.1 op.2 3 7955046 = decide (op = sFby):=strEq_S op sFby
 obtain ⟨es,eu,Mu⟩:=setM_put M0 nm
 rw [addM_one] at Mu
 rw [mnE_is,← addM_app] at k
 obtain ⟨K,hK⟩:∃ K:FN → HN → Prop,∀ φ ζ,K φ ζ ↔ ∃ y' ls',φ 0 = .ptr fb 0 ∧ φ 4 = y' ∧ InF F y' ∧ RdR 5 η y' ls' ∧ rdEs F η (kidsM op ks) ls' ∧ MapAt ζ mb (setM (addM P (namM op nm))) ∧ ExtX mb η ζ:=⟨_,fun _ _=>Iff.rfl⟩
 refine wp_cut (M:=K) 3 _ _ _ ?_ ?_
 rotate_left
 ·simp -implicitDefEqProofs (disch:=omega) only [go_sem,sV]
  generalize η.new (.live false [.str op.1 op.2,.str nm.1 nm.2,.int .i64 n,.int .i64 a,y]) = η1 at *
  have named:op = sVar ∨ op = sWhen ∨ op = sMerge → namM op nm = [nm] ∧ kidsM op ks = ks:=fun g=>by
   refine ⟨if_pos g,?_⟩
   unfold kidsM
   rcases g with rfl | rfl | rfl <;> rw [if_neg (by decide),if_neg (by decide)]
  have XU:ExtX mb η (η1.put mb (.mp es)):=⟨by show η.nx ≤ η1.nx; omega,fun b h1 h2=>(if_neg h2).trans (E.2 b h1)⟩
  have X1:ExtX mb η η1:=extB_X mb E
  by_cases q1:op = sVar
  ·obtain ⟨g1,g2⟩:=named (.inl q1)
   rw [g1,g2] at hK
   rw [decide_eq_true q1] at e1
   simp -implicitDefEqProofs (disch:=omega) only [go_sem,e1,hf0,c0,eu]
   exact (hK _ _).2 ⟨_,_,rfl,rfl,iy,ry,rks,Mu,XU⟩
  rw [decide_eq_false q1] at e1
  by_cases q2:op = sWhen
  ·obtain ⟨g1,g2⟩:=named (.inr (.inl q2))
   rw [g1,g2] at hK
   rw [decide_eq_true q2] at e2
   simp -implicitDefEqProofs (disch:=omega) only [go_sem,e1,e2,hf0,c0,eu]
   exact (hK _ _).2 ⟨_,_,rfl,rfl,iy,ry,rks,Mu,XU⟩
  rw [decide_eq_false q2] at e2
  by_cases q3:op = sMerge
  ·obtain ⟨g1,g2⟩:=named (.inr (.inr q3))
   rw [g1,g2] at hK
   rw [decide_eq_true q3] at e3
   simp -implicitDefEqProofs (disch:=omega) only [go_sem,e1,e2,e3,hf0,c0,eu]
   exact (hK _ _).2 ⟨_,_,rfl,rfl,iy,ry,rks,Mu,XU⟩
  rw [decide_eq_false q3] at e3
  have other:namM op nm = []:=if_neg (by rintro (g | g | g) <;> contradiction)
  rw [other,addM_nil] at hK
  by_cases q4:op = sPre
  ·have g2:kidsM op ks = []:=if_pos q4
   rw [g2] at hK
   rw [decide_eq_true q4] at e4
   simp -implicitDefEqProofs (disch:=omega) only [go_sem,e1,e2,e3,e4,hf0,c0]
   exact (hK _ _).2 ⟨_,[],rfl,rfl,fun _ h=>h.elim,.inl ⟨rfl,.inl rfl⟩,by unfold rdEs; rfl,M0,X1⟩
  rw [decide_eq_false q4] at e4
  by_cases q5:op = sFby
  ·have g2:kidsM op ks = ks.take 1:=(if_neg q4).trans (if_pos q5)
   rw [g2] at hK
   rw [decide_eq_true q5] at e5
   have mn0:minN' (.int .i64 0) (.int .i64 1) = some (.int .i64 0):=rfl
   rcases ry with ⟨hn,rfl | ⟨b,off,cap,rfl⟩⟩ | ry'
   ·have hk0:ks = []:=List.eq_nil_of_length_eq_zero (by rw [← hll,hn]; rfl)
    subst hk0
    simp -implicitDefEqProofs (disch:=omega) only [go_sem,e1,e2,e3,e4,e5,hf0,c0,mn0]
    exact (hK _ _).2 ⟨_,[],rfl,rfl,fun _ h=>h.elim,.inl ⟨rfl,.inl rfl⟩,by rw [List.take_nil]; unfold rdEs; rfl,M0,X1⟩
   ·have hk0:ks = []:=List.eq_nil_of_length_eq_zero (by rw [← hll,hn]; rfl)
    subst hk0
    cases cap <;> (
     simp -implicitDefEqProofs (disch:=omega) only [go_sem,e1,e2,e3,e4,e5,hf0,c0,mn0]
     exact (hK _ _).2 ⟨_,[],rfl,rfl,iy,.inl ⟨rfl,.inr ⟨_,_,_,rfl⟩⟩,by rw [List.take_nil]; unfold rdEs; rfl,M0,X1⟩)
   ·have ry2:=ry'
    obtain ⟨b,off,cap,ro,row,rfl,-⟩:=ry'
    have ry3:RdR 5 η (.slice b off ls.length cap) ls:=.inr ry2
    by_cases hl0:ls.length = 0
    ·have iy0:InF F (.slice b off 0 cap):=iy
     have g5:rdEs F η (ks.take 1) (ls.take 0):=by
      rw [List.take_of_length_le (by omega:ks.length ≤ 1),List.eq_nil_of_length_eq_zero (l:=ks) (by omega),List.take_zero]; unfold rdEs; rfl
     have g6:=rdR_first (m:=0) ry3 (Nat.zero_le _)
     rw [hl0] at c0
     cases cap <;> (
      simp -implicitDefEqProofs (disch:=omega) only [go_sem,e1,e2,e3,e4,e5,hf0,c0,hl0,mn0]
      exact (hK _ _).2 ⟨_,_,rfl,rfl,iy0,g6,g5,M0,X1⟩)
    ·have iy1:InF F (.slice b off 1 cap):=iy
     have mn1:minN' (.int .i64 ls.length) (.int .i64 1) = some (.int .i64 1):=by
      show some (AV.int .i64 (if ltN .i64 1 ls.length then 1 else ls.length)) = _
      rw [ltN_i64 (by omega) (by omega)]
      by_cases h1:1 < ls.length
      ·rw [decide_eq_true h1]; rfl
      ·rw [decide_eq_false h1,show ls.length = 1 by omega]; rfl
     have g6:=rdR_first (m:=1) ry3 (by omega)
     have g5:=rdEs_take 1 rks
     cases cap <;> (
      simp -implicitDefEqProofs (disch:=omega) only [go_sem,e1,e2,e3,e4,e5,hf0,c0,mn1]
      exact (hK _ _).2 ⟨_,_,rfl,rfl,iy1,g6,g5,M0,X1⟩)
  ·have g2:kidsM op ks = ks:=(if_neg q4).trans (if_neg q5)
   rw [g2] at hK
   rw [decide_eq_false q5] at e5
   simp -implicitDefEqProofs (disch:=omega) only [go_sem,e1,e2,e3,e4,e5,hf0,c0]
   exact (hK _ _).2 ⟨_,_,rfl,rfl,iy,ry,rks,M0,X1⟩
 ·intro φ ζ hk
  obtain ⟨y',ls',p0,p4,iy',ry',rks',Mz,Xz⟩:=(hK _ _).1 hk
  clear hk hK e1 e2 e3 e4 e5 eu Mu M0 hf0 c0 ry rks hll iy
  have hsub:∀ k ∈ kidsM op ks,k ∈ ks:=fun k hk=>by
   unfold kidsM at hk
   split at hk
   ·cases hk
   ·split at hk
    ·exact List.mem_of_mem_take hk
    ·exact hk
  have hlen:(kidsM op ks).length ≤ 1073741824:=by
   unfold kidsM
   split
   ·exact Nat.zero_le _
   ·split
    ·rw [List.length_take]; omega
    ·exact hkl
  have ih:=fun k hk=>ih k (hsub k hk)
  have hks:=fun k hk=>hks k (hsub k hk)
  generalize kidsM op ks = KS at *
  generalize addM P (namM op nm) = P1 at *
  have hll:=(rdEs_len rks').1
  have l4:=fun η' e w=>row_len (η':=η') ry' hll (by omega) e w
  simp -implicitDefEqProofs (disch:=omega) only [tailC_s,tailC_z]
  simp -implicitDefEqProofs (disch:=omega) only [go_sem,p0,p4,l4]
  obtain ⟨I,hI⟩:∃ I:Nat → FN → HN → Prop,∀ m φ ζ',I m φ ζ' ↔ ∃ i,m = KS.length - i ∧ i ≤ KS.length ∧ (φ 0 = .ptr fb 0 ∧ φ 30 = y' ∧ φ 31 = .int .i64 KS.length ∧ φ 32 = .int .i64 i) ∧ MapAt ζ' mb (setM (addM P1 (mnEs (KS.take i)))) ∧ ExtX mb η ζ':=⟨_,fun _ _ _=>Iff.rfl⟩
  refine wpN_loop I KS.length ((hI _ _ _).2 ⟨0,rfl,Nat.zero_le _,⟨by exact p0,rfl,rfl,rfl⟩,by rw [List.take_zero,show mnEs [] = [] by unfold mnEs; rfl,addM_nil]; exact Mz,Xz⟩) ?_
  clear p0 p4 Mz Xz
  intro m φ ζ hi
  obtain ⟨i,hm,hi,⟨p0,p30,p31,p32⟩,Mz,Xz⟩:=(hI _ _ _).1 hi
  have nz:=Xz.1
  by_cases hlt:i < KS.length
  ·obtain ⟨hi',ri⟩:=rdEs_at rks' i hlt
   obtain ⟨b,off,cap,ro,row,rfl,hbv,hbn,hlen2,hrow⟩:=ry'.at hi'
   have hbz:ζ.f b = _:=(Xz.2 b hbn (fun e=>hF (e ▸ iy' b rfl))).trans hbv
   have r5:=rdE_len ri
   have riz:=rdE_x ri Xz hF
   obtain ⟨f1,f2,f3,f4,f5,ef⟩:=rdE_cells ri
   rw [ef] at hrow riz
   simp -implicitDefEqProofs (disch:=omega) only [go_sem,p0,p30,p31,p32,hbz,hrow,repL_s,repL_z,setsL_c]
   have En:=extN (y:=.live false [.str f1.1 f1.2,.str f2.1 f2.2,.int .i64 f3,.int .i64 f4,f5]) (.refl ζ.nx ζ)
   have okk:=hks _ (List.getElem_mem hlt)
   have fz:=(En.2 _ (by omega:fb < ζ.nx)).trans ((Xz.2 _ hfn hne).trans hf)
   refine thenN_call (ih _ (List.getElem_mem hlt) okk _ _ _ _ (by show mb < ζ.nx + 1; omega) (by show fb < ζ.nx + 1; omega) fz (MapAt_ext Mz (by omega) En) (rdE_b riz En) fun η3 x3 M3=>?_)
   rw [addM_app,← mnEs_take hlt] at M3
   have n3:ζ.nx + 1 ≤ η3.nx:=x3.1
   simp -implicitDefEqProofs (disch:=omega) only [go_sem,p0,p30,p31,p32]
   exact ⟨KS.length - (i + 1),by omega,(hI _ _ _).2 ⟨i + 1,rfl,hlt,⟨by exact p0,by exact p30,by exact p31,rfl⟩,M3,⟨by omega,fun c h1 h2=>(x3.2 c (by show c < ζ.nx + 1; omega) h2).trans ((En.2 c (by omega)).trans (Xz.2 c h1 h2))⟩⟩⟩
  ·obtain rfl:i = KS.length:=by omega
   rw [List.take_length] at Mz
   simp -implicitDefEqProofs (disch:=omega) only [go_sem,p0,p30,p31,p32]
   exact k _ Xz Mz
end Go.Proofs.Ytkggpdaglhnonaa
namespace Go.Plain
open Go.Eng
set_option autoImplicit false
def RowT (lo:Nat) (η:HN) (y:AV) (m:List S):Prop:=(y = .nilslice ∧ m = []) ∨ ∃ b row,lo ≤ b ∧ b < η.nx ∧ y = .slice b 0 m.length (.un 1) ∧ η.f b = .live false (strc m ++ row)
theorem RowA.t {lo:Nat} {η:HN} {y:AV} {m:List S} (h:RowA lo η y (strc m)):RowT lo η y m:=by
 rcases h with ⟨h1,h2⟩ | ⟨b,h1,h2,h3,h4,h5⟩
 ·refine .inl ⟨h1,?_⟩
  cases m with
  | nil=>rfl
  | cons a m=>cases h2
 ·exact .inr ⟨b,[],h1,h2,by rw [h3,strc_len],by rw [List.append_nil]; exact h5⟩
theorem RowT.keep {lo:Nat} {η η':HN} {y:AV} {m:List S} (h:RowT lo η y m) (hn:η.nx ≤ η'.nx) (hk:∀ b,lo ≤ b → b < η.nx → ∀ row,η.f b = .live false (strc m ++ row) → η'.f b = η.f b):RowT lo η' y m:=by
 rcases h with h | ⟨b,row,h1,h2,h3,h4⟩
 ·exact .inl h
 ·exact .inr ⟨b,row,h1,by omega,h3,(hk b h1 h2 row h4).trans h4⟩
theorem RowT.mono {lo lo':Nat} {η:HN} {y:AV} {m:List S} (h:RowT lo η y m) (hl:lo' ≤ lo):RowT lo' η y m:=h.imp id fun ⟨b,row,h1,h2⟩=>⟨b,row,by omega,h2⟩
theorem strc_row {m:List S} {row:List AV} {i:Nat} (h:i < m.length):(strc m ++ row).getD i und = .str m[i].1 m[i].2:=by
 rw [List.getD_eq_getElem?_getD,List.getElem?_append_left (by rw [strc_len]; exact h),← List.getD_eq_getElem?_getD,strc_get h]
theorem RowT.rd {lo:Nat} {η:HN} {y:AV} {m:List S} (h:RowT lo η y m):RdR 1 η y ((strc m).map fun v=>[v]):=by
 have fl:∀ l:List AV,(l.map fun v=>[v]).flatten = l:=fun l=>by
  induction l with
  | nil=>rfl
  | cons a l ih=>show a :: (l.map fun v=>[v]).flatten = a :: l; rw [ih]
 rcases h with ⟨rfl,rfl⟩ | ⟨b,row,h1,h2,rfl,h4⟩
 ·exact .inl ⟨rfl,.inl rfl⟩
 ·refine .inr ⟨b,0,.un 1,_,_,?_,h4,h2,?_,fun l hl=>?_,?_⟩
  ·rw [List.length_map,strc_len]
  ·rw [List.length_map,List.length_append]; omega
  ·obtain ⟨v,_,rfl⟩:=List.mem_map.1 hl; rfl
  ·rw [fl,List.length_map,List.drop_zero,Nat.mul_one,List.take_left']; rfl
@[go_sem] theorem clB_at {s b off n:Nat} {new l:List AV} {η:HN}:clB s b off n new (.live false l) η = if off + n * s ≤ l.length then .ok und (η.put b (.live false (setsL l off new))) else .no:=rfl
theorem set_take {R:List AV} {i:Nat} {v:AV} (h:i < R.length):(R.set i v).take (i + 1) = R.take i ++ [v]:=by
 rw [List.take_succ_eq_append_getElem (by rw [List.length_set]; exact h),List.getElem_set_self,List.take_set_of_le (Nat.le_refl _)]
theorem set_drop {R:List AV} {i j:Nat} {v:AV} (h:i < j):(R.set i v).drop j = R.drop j:=by
 rw [List.drop_set_of_lt h]
theorem sets_take {R new:List AV} {i:Nat} (h:i ≤ R.length):(setsL R i new).take i = R.take i:=by
 refine List.ext_getElem? fun j=>?_
 rw [List.getElem?_take,List.getElem?_take]
 split
 ·rename_i hj
  have e:=setsL_get new R i j (by omega)
  rw [if_neg (by omega)] at e
  rw [List.getD_eq_getElem?_getD,List.getD_eq_getElem?_getD] at e
  have l1:j < (setsL R i new).length:=by rw [setsL_length]; omega
  have l2:j < R.length:=by omega
  rw [List.getElem?_eq_getElem l1,List.getElem?_eq_getElem l2] at e ⊢
  exact congrArg some e
 ·rfl
end Go.Plain
namespace Go.Proofs.Ytkggpdaglhnonaa
open Go.Eng Go.Plain
set_option autoImplicit false
set_option maxRecDepth 100000
variable {nat:∀ [Deep],Nats}
def TellsS (nat:∀ [Deep],Nats) (η:HN) (m:List S) (p:S → Bool) (f:FuncId) (caps:List AV):Prop :=
 ∀ s ∈ m,∀ (Q:AV → HN → Prop),Q (.bool (p s)) η → ∃ v ζ,CallN Try.prog nat f (.str s.1 s.2 :: caps) η v ζ ∧ Q v ζ
theorem stIx_then (U:Usual nat) {η:HN} {lo:Nat} {x:AV} {m:List S} (r:RowT lo η x m) (hm:m.length ≤ 4294967296) {p:S → Bool} {f:FuncId} {caps:List AV} (hc:TellsS nat η m p f caps) {Q:AV → HN → Prop} (k:Q (.int .i64 (encO (ixL p m 0))) η):∃ v' η',CallN Try.prog nat 80 [x,.func f [] caps] η v' η' ∧ Q v' η':=by
 refine call_of (PT:=pl80) Try.func80 rfl (U 80 (by decide)) ok80 rfl ?_
 have ln:=fun η' e w=>row_len (η':=η') r.rd (strc_rows m) (by omega) e w
 simp -implicitDefEqProofs (disch:=omega) only [go_sem,ln]
 obtain ⟨I,hI⟩:∃ I:Nat → FN → HN → Prop,∀ j φ ζ,I j φ ζ ↔ ∃ i,j = m.length - i ∧ i ≤ m.length ∧ (φ 0 = x ∧ φ 1 = .func f [] caps ∧ φ 7 = .int .i64 m.length ∧ φ 8 = .int .i64 i) ∧ ζ = η ∧ ixL p (m.drop i) i = ixL p m 0:=⟨_,fun _ _ _=>Iff.rfl⟩
 refine wpN_loop I m.length ((hI _ _ _).2 ⟨0,rfl,Nat.zero_le _,⟨rfl,rfl,rfl,rfl⟩,rfl,rfl⟩) ?_
 intro j φ ζ hi
 obtain ⟨i,hj,hi,⟨p0,p1,p7,p8⟩,rfl,ed⟩:=(hI _ _ _).1 hi
 by_cases hlt:i < m.length
 ·obtain ⟨b,row,h1,h2,rfl,hb⟩:=r.resolve_left (fun g=>by rw [g.2] at hlt; exact absurd hlt (Nat.not_lt_zero _))
  have gl:(strc m ++ row).length = m.length + row.length:=by rw [List.length_append,strc_len]
  have gs:=strc_row (row:=row) hlt
  have hin:=List.getElem_mem hlt
  rw [ixL_drop hlt] at ed
  generalize m[i] = w at *
  simp -implicitDefEqProofs (disch:=omega) only [go_sem,p0,p1,p7,p8,hb,gl,gs]
  refine thenN_call (hc w hin _ ?_)
  cases e:p w with
  | true =>
   rw [e,if_pos rfl] at ed
   rw [← ed] at k
   simp -implicitDefEqProofs (disch:=omega) only [go_sem,p0,p1,p7,p8]
   exact k
  | false =>
   rw [e,if_neg (by decide)] at ed
   simp -implicitDefEqProofs (disch:=omega) only [go_sem,p0,p1,p7,p8]
   exact ⟨m.length - (i + 1),by omega,(hI _ _ _).2 ⟨i + 1,rfl,hlt,⟨by exact p0,by exact p1,by exact p7,rfl⟩,rfl,ed⟩⟩
 ·obtain rfl:i = m.length:=by omega
  rw [List.drop_length] at ed
  rw [← ed] at k
  simp -implicitDefEqProofs (disch:=omega) only [go_sem,p0,p1,p7,p8]
  exact k
theorem ixL_none {p:S → Bool} {m:List S} (h:ixL p m 0 = none):m.filter (fun y=>!p y) = m:=by
 have:=ixL_any p m 0
 rw [h] at this
 refine List.filter_eq_self.2 fun a ha=>?_
 have:m.any p = false:=this.symm
 rw [List.any_eq_false] at this
 have:=this a ha
 cases e:p a with
 | true=>exact absurd e this
 | false=>rfl
theorem ixL_pre {p:S → Bool}:∀ {m:List S} {i j:Nat},ixL p m i = some j → (m.take (j - i)).filter (fun y=>!p y) = m.take (j - i) ∧ ∃ h:j - i < m.length,p m[j - i] = true
 | [],_,_,h=>by cases h
 | a :: r,i,j,h=>by
  unfold ixL at h
  by_cases g:p a = true
  ·rw [if_pos g] at h
   cases h
   rw [Nat.sub_self]
   exact ⟨rfl,Nat.succ_pos _,g⟩
  ·rw [if_neg g] at h
   have h1:=(ixL_lt h).1
   obtain ⟨h2,h3,h4⟩:=ixL_pre h
   have e:j - i = (j - (i + 1)) + 1:=by omega
   rw [e,List.take_succ_cons,List.filter_cons_of_pos (by simpa using g),h2]
   refine ⟨rfl,by simpa using h3,?_⟩
   simp only [List.getElem_cons_succ]
   exact h4
set_option maxHeartbeats 4000000 in
theorem delete_then (U:Usual nat) {η:HN} {lo:Nat} {x:AV} {m:List S} (r:RowA lo η x (strc m)) (hm:m.length ≤ 4294967296) {p:S → Bool} {f:FuncId} {caps:List AV} (hc:∀ ζ:HN,ζ.nx = η.nx → (∀ c,¬ blkIs x c → ζ.f c = η.f c) → TellsS nat ζ m p f caps) {Q:AV → HN → Prop}
  (k:∀ y η',RowT lo η' y (m.filter fun y=>!p y) → η'.nx = η.nx → (∀ c,¬ blkIs x c → η'.f c = η.f c) → Q y η'):∃ v' η',CallN Try.prog nat 85 [x,.func f [] caps] η v' η' ∧ Q v' η':=by
 refine call_of (PT:=pl85) Try.func85 rfl (U 85 (by decide)) ok85 rfl ?_
 simp -implicitDefEqProofs (disch:=omega) only [go_sem]
 refine thenN_call (stIx_then U r.t hm (hc η rfl fun _ _=>rfl) ?_)
 cases e:ixL p m 0 with
 | none =>
  have ee:encO none = 18446744073709551615:=rfl
  have hd:decide (18446744073709551615 = 18446744073709551615) = true:=rfl
  simp -implicitDefEqProofs (disch:=omega) only [go_sem,ee,hd]
  refine k _ _ ?_ rfl fun _ _=>rfl
  rw [ixL_none e]
  exact r.t
 | some j =>
  have ee:encO (some j) = j:=rfl
  obtain ⟨hpre,hj,hpj⟩:=ixL_pre e
  rw [Nat.sub_zero] at hpre hj
  obtain ⟨b,h1,h2,rfl,h3,hb⟩:=r.resolve_left (fun g=>by have:=congrArg List.length g.2; rw [strc_len] at this; have:m.length = 0:=this; omega)
  have hd:decide (j = 18446744073709551615) = false:=decide_eq_false (by omega)
  rw [strc_len] at *
  simp -implicitDefEqProofs (disch:=omega) only [go_sem,ee,hd]
  obtain ⟨I,hI⟩:∃ I:Nat → FN → HN → Prop,∀ c φ ζ,I c φ ζ ↔ ∃ i q R,c = m.length - i ∧ q < i ∧ i ≤ m.length ∧ (φ 0 = .slice b 0 m.length (.un 1) ∧ φ 1 = .func f [] caps ∧ φ 5 = .int .i64 q ∧ φ 6 = .int .i64 i) ∧ ζ.nx = η.nx ∧ (∀ c,c ≠ b → ζ.f c = η.f c) ∧ ζ.f b = .live false R ∧ R.length = m.length ∧ R.take q = strc ((m.take i).filter fun y=>!p y) ∧ R.drop i = (strc m).drop i ∧ ((m.take i).filter fun y=>!p y).length = q:=⟨_,fun _ _ _=>Iff.rfl⟩
  have f0:(m.take (j + 1)).filter (fun y=>!p y) = m.take j:=by
   rw [List.take_succ_eq_append_getElem hj,List.filter_append,hpre,List.filter_cons_of_neg (by simpa using hpj),List.filter_nil,List.append_nil]
  refine wpN_loop I (m.length - (j + 1)) ((hI _ _ _).2 ⟨j + 1,j,strc m,rfl,Nat.lt_succ_self _,hj,⟨rfl,rfl,rfl,rfl⟩,rfl,fun _ _=>rfl,hb,strc_len m,?_,rfl,?_⟩) ?_
  ·rw [f0]; unfold strc; rw [List.map_take]
  ·rw [f0,List.length_take]; omega
  intro c φ ζ hi
  obtain ⟨i,q,R,hc',hqi,him,⟨p0,p1,p5,p6⟩,nz,kz,bz,hR,ht,hdp,hl⟩:=(hI _ _ _).1 hi
  by_cases hlt:i < m.length
  ·have gs:R.getD i und = .str m[i].1 m[i].2:=by
    have:(R.drop i).getD 0 und = ((strc m).drop i).getD 0 und:=by rw [hdp]
    rw [List.getD_eq_getElem?_getD,List.getD_eq_getElem?_getD,List.getElem?_drop,List.getElem?_drop,Nat.add_zero,← List.getD_eq_getElem?_getD,← List.getD_eq_getElem?_getD,strc_get hlt] at this
    exact this
   have hin:=List.getElem_mem hlt
   have hd1:R.drop (i + 1) = (strc m).drop (i + 1):=by rw [← List.drop_drop,hdp,List.drop_drop]
   have ft:(m.take (i + 1)).filter (fun y=>!p y) = (m.take i).filter (fun y=>!p y) ++ [m[i]].filter (fun y=>!p y):=by rw [List.take_succ_eq_append_getElem hlt,List.filter_append]
   generalize m[i] = w at *
   simp -implicitDefEqProofs (disch:=omega) only [go_sem,p0,p1,p5,p6,bz,hR,gs]
   refine thenN_call (hc ζ nz (fun c h=>kz c fun e=>h (by rw [e]; rfl)) w hin _ ?_)
   cases e2:p w with
   | true =>
    rw [List.filter_cons_of_neg (by simpa using e2),List.filter_nil,List.append_nil] at ft
    simp -implicitDefEqProofs (disch:=omega) only [go_sem,p0,p1,p5,p6,Bool.not_true]
    exact ⟨m.length - (i + 1),by omega,(hI _ _ _).2 ⟨i + 1,q,R,rfl,by omega,hlt,⟨by exact p0,by exact p1,by exact p5,rfl⟩,nz,kz,bz,hR,by rw [ft]; exact ht,hd1,by rw [ft]; exact hl⟩⟩
   | false =>
    rw [List.filter_cons_of_pos (by simpa using e2),List.filter_nil] at ft
    simp -implicitDefEqProofs (disch:=omega) only [go_sem,p0,p1,p5,p6,Bool.not_false,bz,hR]
    refine ⟨m.length - (i + 1),by omega,(hI _ _ _).2 ⟨i + 1,q + 1,R.set q (.str w.1 w.2),rfl,by omega,hlt,⟨by exact p0,by exact p1,rfl,rfl⟩,nz,fun c h=>(if_neg h).trans (kz c h),if_pos rfl,by rw [List.length_set]; exact hR,?_,?_,?_⟩⟩
    ·rw [ft,set_take (by omega),ht,strc_app]
    ·rw [set_drop (by omega)]; exact hd1
    ·rw [ft,List.length_append,hl]; rfl
  ·obtain rfl:i = m.length:=by omega
   rw [List.take_length] at ht hl
   simp -implicitDefEqProofs (disch:=omega) only [go_sem,p0,p1,p5,p6,bz,hR]
   generalize List.replicate (m.length - q) (AV.str 0 0) = new
   refine k _ _ (.inr ⟨b,(setsL R q new).drop q,h1,by show b < ζ.nx; omega,by rw [hl],?_⟩) nz fun c h=>(if_neg fun e=>h (by rw [e]; rfl)).trans (kz c fun e=>h (by rw [e]; rfl))
   have e3:=List.take_append_drop q (setsL R q new)
   rw [sets_take (by omega),ht] at e3
   rw [e3]
   exact if_pos rfl
end Go.Proofs.Ytkggpdaglhnonaa
namespace Go.Plain
open Go.Eng
set_option autoImplicit false
def NewR (s lo:Nat) (η:HN) (y:AV) (ls:List (List AV)):Prop:=(ls = [] ∧ (y = .nilslice ∨ ∃ b,lo ≤ b ∧ y = .slice b 0 0 (.kn 0))) ∨ ∃ b,lo ≤ b ∧ b < η.nx ∧ y = .slice b 0 ls.length (.un s) ∧ η.f b = .live false ls.flatten ∧ ls ≠ []
end Go.Plain
namespace Go.Proofs.Ytkggpdaglhnonaa
open Go.Eng Go.Plain
set_option autoImplicit false
set_option maxRecDepth 100000
variable {nat:∀ [Deep],Nats}
@[go_sem] theorem exprs_good:goodEq Try.prog 59 true = true:=by kernel_rfl
@[go_sem] theorem exprs_eq {b o n:Nat} {c:Cp}:(eqB Try.prog 59).f (.slice b o n c) .nilslice = some false:=by kernel_rfl
theorem exClone_then (U:Usual nat) {η:HN} {y:AV} {ls:List (List AV)} (ry:RdR 5 η y ls) (hl:∀ l ∈ ls,l.length = 5) (hc:ls.length ≤ 1073741824) {Q:AV → HN → Prop} (k:∀ y' η',NewR 5 η.nx η' y' ls → ExtB η.nx η η' → Q y' η'):∃ v' η',CallN Try.prog nat 138 [y] η v' η' ∧ Q v' η':=by
 refine call_of (PT:=pl138) Try.func138 rfl (U 138 (by decide)) ok138 rfl ?_
 have E:ExtB η.nx η (η.new (.live false [])):=extN (.refl _ _)
 have o1:OwnA 5 η.nx (η.new (.live false [])) (.slice η.nx 0 0 (.kn 0)) 0 []:=⟨rfl,.inr ⟨η.nx,Nat.le_refl _,Nat.lt_succ_self _,.inl ⟨rfl,rfl,_,if_pos rfl⟩⟩⟩
 rcases ry with ⟨rfl,rfl | ⟨b,off,cap,rfl⟩⟩ | ry'
 ·simp -implicitDefEqProofs (disch:=omega) only [go_sem]
  exact k _ _ (.inl ⟨rfl,.inl rfl⟩) (.refl _ _)
 ·simp -implicitDefEqProofs (disch:=omega) only [go_sem,exprs_good,exprs_eq]
  have ea:apSrcN 5 72 (.slice η.nx 0 0 (.kn 0)) (.slice b off 0 cap) (η.new (.live false [])) = .ok (.slice η.nx 0 0 (.kn 0)) (η.new (.live false [])):=by rw [apSrc_sl]; rfl
  rw [ea]
  simp -implicitDefEqProofs (disch:=omega) only [go_sem]
  exact k _ _ (.inl ⟨rfl,.inr ⟨_,Nat.le_refl _,rfl⟩⟩) E
 ·have ry2:RdR 5 η y ls:=.inr ry'
  obtain ⟨b,off,cap,ro,row,rfl,-⟩:=ry'
  simp -implicitDefEqProofs (disch:=omega) only [go_sem,exprs_good,exprs_eq]
  by_cases h0:ls = []
  ·subst h0
   have ea:apSrcN 5 72 (.slice η.nx 0 0 (.kn 0)) (.slice b off ([]:List (List AV)).length cap) (η.new (.live false [])) = .ok (.slice η.nx 0 0 (.kn 0)) (η.new (.live false [])):=by rw [apSrc_sl]; rfl
   rw [ea]
   simp -implicitDefEqProofs (disch:=omega) only [go_sem]
   exact k _ _ (.inl ⟨rfl,.inr ⟨_,Nat.le_refl _,rfl⟩⟩) E
  ·have q1:=rdR_A (ry2.ext (base:=0) E)
   refine thenN_app (by decide) o1 q1 (by omega) (by show η.nx ≤ η.nx + 1; omega) fun x2 η2 o2 e2=>?_
   simp -implicitDefEqProofs (disch:=omega) only [go_sem]
   rw [Nat.zero_add,List.nil_append] at o2
   refine k _ _ ?_ (E.trans e2)
   obtain ⟨_,⟨_,q2⟩ | ⟨b2,q1,q2,⟨_,q3,_⟩ | ⟨q3,q4⟩⟩⟩:=o2
   ·exact absurd (List.eq_nil_of_length_eq_zero q2) h0
   ·exact absurd (List.eq_nil_of_length_eq_zero q3) h0
   ·exact .inr ⟨b2,q1,q2,q3,q4,h0⟩
set_option maxHeartbeats 8000000 in
theorem copy_then (U:Usual nat):∀ (e:Tr),okE e → ∀ (η:HN) (z:List AV) (Q:AV → HN → Prop),rdE tt η e z → (∀ z' η',rdE (fun c=>η.nx ≤ c) η' e z' → ExtB η.nx η η' → Q (.agg z') η') → ∃ v' η',CallN Try.prog nat 122 [.agg z] η v' η' ∧ Q v' η':=by
 refine Tr.ind fun op nm n a ks ih=>?_
 intro ok η z Q r k
 unfold okE at ok
 obtain ⟨ha,hkl,hks⟩:=ok
 have hks:=(okEs_iff _).1 hks
 unfold rdE at r
 obtain ⟨y,rfl,-,ls,ry,rks⟩:=r
 obtain ⟨hll,hl5⟩:=rdEs_len rks
 refine call_of (PT:=pl122) Try.func122 rfl (U 122 (by decide)) ok122 rfl ?_
 obtain ⟨η1,h1⟩:∃ η1,η1 = (η.new (.live false [.str op.1 op.2,.str nm.1 nm.2,.int .i64 n,.int .i64 a,y])).new (.live false [.str 0 0,.str 0 0,.int .i64 0,.int .i64 0,.nilslice]):=⟨_,rfl⟩
 have E1:ExtB η.nx η η1:=by rw [h1]; exact extN (extN (.refl _ _))
 have n1:η1.nx = η.nx + 2:=by rw [h1]; rfl
 have c0:η1.f η.nx = .live false [.str op.1 op.2,.str nm.1 nm.2,.int .i64 n,.int .i64 a,y]:=by rw [h1]; exact (if_neg (by show ¬ η.nx = η.nx + 1; omega)).trans (if_pos rfl)
 have c1:η1.f (η.nx + 1) = .live false [.str 0 0,.str 0 0,.int .i64 0,.int .i64 0,.nilslice]:=by rw [h1]; exact if_pos rfl
 simp -implicitDefEqProofs (disch:=omega) only [go_sem,sV,repL_s,repL_z,setsL_c]
 rw [← h1]
 clear h1
 refine thenN_call (exClone_then U (ry.ext (base:=0) E1) hl5 (by omega) fun y' η2 o2 E2=>?_)
 have n2:=E2.1
 have d0:=(E2.2 _ (by omega:η.nx < η1.nx)).trans c0
 have d1:=(E2.2 _ (by omega:η.nx + 1 < η1.nx)).trans c1
 obtain ⟨η3,h3⟩:∃ η3,η3 = η2.put η.nx (.live false [.str op.1 op.2,.str nm.1 nm.2,.int .i64 n,.int .i64 a,y']):=⟨_,rfl⟩
 have n3:η3.nx = η2.nx:=by rw [h3]; rfl
 have f0:η3.f η.nx = .live false [.str op.1 op.2,.str nm.1 nm.2,.int .i64 n,.int .i64 a,y']:=by rw [h3]; exact if_pos rfl
 have f1:η3.f (η.nx + 1) = .live false [.str 0 0,.str 0 0,.int .i64 0,.int .i64 0,.nilslice]:=by rw [h3]; exact (if_neg (by omega)).trans d1
 have k3:∀ c,c ≠ η.nx → η3.f c = η2.f c:=fun c hc=>by rw [h3]; exact if_neg hc
 have E3:ExtB η.nx η η3:=⟨by omega,fun c hc=>(k3 c (by omega)).trans ((extT E1 E2).2 c hc)⟩
 have ln:∀ (η':HN) (e w:Nat),lenN (.slice e 5 w) y' η' = .ok (.int .i64 ks.length) η':=by
  intro η' e w
  rcases o2 with ⟨rfl,rfl | ⟨b,-,rfl⟩⟩ | ⟨b,-,-,rfl,-⟩
  ·have:ks.length = 0:=hll.symm
   rw [this]; rfl
  ·have:ks.length = 0:=hll.symm
   rw [this]; rfl
  ·rw [lenN_sl,lenI_at,if_pos (by omega),hll]
 have cy:cellsV y' = some [y']:=by
  rcases o2 with ⟨_,rfl | ⟨b,-,rfl⟩⟩ | ⟨b,-,-,rfl,-⟩ <;> rfl
 simp -implicitDefEqProofs (disch:=omega) only [go_sem,d0,cy,repL_s,repL_z,setsL_c]
 rw [← h3]
 simp -implicitDefEqProofs (disch:=omega) only [go_sem,f0,ln]
 obtain ⟨I,hI⟩:∃ I:Nat → FN → HN → Prop,∀ m φ ζ,I m φ ζ ↔ ∃ (i:Nat) (L:List (List AV)),m = ks.length - i ∧ i ≤ ks.length ∧ (φ 1 = .ptr η.nx 0 ∧ φ 2 = .ptr (η.nx + 1) 0 ∧ φ 10 = .int .i64 ks.length ∧ φ 11 = .int .i64 i) ∧ ζ.f η.nx = η3.f η.nx ∧ ζ.f (η.nx + 1) = η3.f (η.nx + 1) ∧ ExtB η.nx η ζ ∧ η3.nx ≤ ζ.nx ∧ L.length = ks.length ∧ (∀ l ∈ L,l.length = 5) ∧ (∀ b,y' = .slice b 0 ls.length (.un 5) → ls ≠ [] → ζ.f b = .live false L.flatten) ∧ rdEs (fun c=>η3.nx ≤ c) ζ (ks.take i) (L.take i) ∧ L.drop i = ls.drop i:=⟨_,fun _ _ _=>Iff.rfl⟩
 refine wpN_loop I ks.length ((hI _ _ _).2 ⟨0,ls,rfl,Nat.zero_le _,⟨rfl,rfl,rfl,rfl⟩,rfl,rfl,E3,Nat.le_refl _,hll,hl5,?_,by rw [List.take_zero,List.take_zero]; unfold rdEs; rfl,rfl⟩) ?_
 ·intro b hb hne
  rcases o2 with ⟨e,_⟩ | ⟨b',g1,g2,g3,g4,_⟩
  ·exact absurd e hne
  ·rw [hb] at g3
   cases g3
   exact (k3 _ (by omega)).trans g4
 intro m φ ζ hi
 obtain ⟨i,L,hm,hi,⟨p1,p2,p10,p11⟩,b0,b1,Ez,nz,hL,hL5,hb,rz,hd⟩:=(hI _ _ _).1 hi
 rw [f0] at b0
 by_cases hlt:i < ks.length
 ·obtain ⟨hi',ri⟩:=rdEs_at rks i hlt
  obtain ⟨b,g1,g2,rfl,g4,g5⟩:=o2.resolve_left (fun g=>by have:=congrArg List.length g.1; have:ls.length = 0:=this; omega)
  have hbz:=hb b rfl g5
  have hLi:i < L.length:=by omega
  have eLi:L[i] = ls[i]:=by
   have:=congrArg (fun l=>l[0]?) hd
   simpa [List.getElem?_drop,List.getElem?_eq_getElem hLi,List.getElem?_eq_getElem hi'] using this
  have hfl:=flat_len L hL5
  have hrow:=flat_at L i hL5 hLi
  rw [eLi] at hrow
  obtain ⟨f1',f2',f3',f4',f5',ef⟩:=rdE_cells ri
  rw [ef] at hrow ri
  have hi5:i * 5 + 5 ≤ L.flatten.length:=by rw [hfl]; omega
  simp -implicitDefEqProofs (disch:=omega) only [go_sem,p1,p2,p10,p11,b0,hbz,hrow,hll]
  refine dE_call (ih _ (List.getElem_mem hlt) (hks _ (List.getElem_mem hlt)) ζ _ _ (rdE_b ri Ez) fun z' η4 r4 E4=>?_)
  have n4:=E4.1
  have bn:b < ζ.nx:=by omega
  have b4:=(E4.2 _ (by omega:η.nx < ζ.nx)).trans b0
  have hb4:=(E4.2 _ bn).trans hbz
  obtain ⟨k1,k2,k3,k4,k5,rfl⟩:=rdE_cells r4
  have sf:=setsL_flat (s:=5) (r:=[.str k1.1 k1.2,.str k2.1 k2.2,.int .i64 k3,.int .i64 k4,k5]) rfl L i hL5 hLi
  simp -implicitDefEqProofs (disch:=omega) only [go_sem,p1,p2,p10,p11,b0,b4,hb4,hll,sf]
  have nb:b ≠ η.nx:=by omega
  refine ⟨ks.length - (i + 1),by omega,(hI _ _ _).2 ⟨i + 1,L.set i [.str k1.1 k1.2,.str k2.1 k2.2,.int .i64 k3,.int .i64 k4,k5],rfl,hlt,⟨by exact p1,by exact p2,by exact p10,rfl⟩,?_,?_,?_,?_,by rw [List.length_set]; exact hL,?_,?_,?_,?_⟩⟩
  ·rw [f0]; exact (if_neg (Ne.symm nb)).trans b4
  ·exact (if_neg (by omega)).trans ((E4.2 _ (by omega)).trans b1)
  ·exact extP (extT Ez E4) (by omega)
  ·show η3.nx ≤ η4.nx; omega
  ·intro l hl
   rcases List.mem_or_eq_of_mem_set hl with h | h
   ·exact hL5 l h
   ·rw [h]; rfl
  ·intro b' e _
   cases e
   exact if_pos rfl
  ·rw [List.take_succ_eq_append_getElem hlt,List.take_succ_eq_append_getElem (by rw [List.length_set]; exact hLi),List.getElem_set_self,List.take_set_of_le (Nat.le_refl _)]
   have kp:∀ c,c ≠ b → c < η4.nx → (η4.put b (.live false (L.set i [.str k1.1 k1.2,.str k2.1 k2.2,.int .i64 k3,.int .i64 k4,k5]).flatten)).f c = η4.f c:=fun c hc _=>if_neg hc
   refine rdEs_app (rdEs_keep (η:=ζ) (η':=η4.put b (.live false (L.set i [.str k1.1 k1.2,.str k2.1 k2.2,.int .i64 k3,.int .i64 k4,k5]).flatten)) (F:=fun c=>η3.nx ≤ c) (fun c hc hn=>(kp c (by have hc:η3.nx ≤ c:=hc; omega) (by omega)).trans (E4.2 c hn)) n4 (fun _ h=>h) _ _ rz) ?_
   exact rdE_keep (η:=η4) (η':=η4.put b (.live false (L.set i [.str k1.1 k1.2,.str k2.1 k2.2,.int .i64 k3,.int .i64 k4,k5]).flatten)) (F:=fun c=>ζ.nx ≤ c) (fun c hc hn=>kp c (by have hc:ζ.nx ≤ c:=hc; omega) hn) (Nat.le_refl _) (fun c hc=>by have hc:ζ.nx ≤ c:=hc; show η3.nx ≤ c; omega) _ _ r4
  ·rw [List.drop_set_of_lt (Nat.lt_succ_self _)]
   have:=congrArg (List.drop 1) hd
   rw [List.drop_drop,List.drop_drop] at this
   exact this
 ·obtain rfl:i = ks.length:=by omega
  simp -implicitDefEqProofs (disch:=omega) only [go_sem,p1,p2,p10,p11,b0,b1,f1,cy,repL_s,repL_z,setsL_c]
  rw [List.take_of_length_le (Nat.le_refl _),List.take_of_length_le (by omega)] at rz
  refine k _ _ ?_ (extP Ez (by omega))
  have rz':rdEs (fun c=>η.nx ≤ c) (ζ.put (η.nx + 1) (.live false [.str op.1 op.2,.str nm.1 nm.2,.int .i64 n,.int .i64 a,y'])) ks L:=rdEs_keep (η:=ζ) (η':=ζ.put (η.nx + 1) (.live false [.str op.1 op.2,.str nm.1 nm.2,.int .i64 n,.int .i64 a,y'])) (F:=fun c=>η3.nx ≤ c) (fun c hc hn=>if_neg (by have hc:η3.nx ≤ c:=hc; omega)) (Nat.le_refl _) (fun c hc=>by have hc:η3.nx ≤ c:=hc; show η.nx ≤ c; omega) _ _ rz
  unfold rdE
  refine ⟨y',rfl,?_,L,?_,rz'⟩
  ·intro c hc
   rcases o2 with ⟨_,rfl | ⟨b,g1,rfl⟩⟩ | ⟨b,g1,_,rfl,_⟩
   ·exact hc.elim
   ·have hc:b = c:=hc
    show η.nx ≤ c
    omega
   ·have hc:b = c:=hc
    show η.nx ≤ c
    omega
  ·rcases o2 with ⟨h0,h⟩ | ⟨b,g1,g2,rfl,g4,g5⟩
   ·have:L = []:=List.eq_nil_of_length_eq_zero (by rw [hL,← hll,h0]; rfl)
    rw [this]
    rcases h with rfl | ⟨b,_,rfl⟩
    ·exact .inl ⟨rfl,.inl rfl⟩
    ·exact .inl ⟨rfl,.inr ⟨_,_,_,rfl⟩⟩
   ·rw [show ls.length = L.length by omega]
    refine RdR.blk L (ro:=false) ?_ (by show b < ζ.nx; omega) hL5
    exact (if_neg (by omega)).trans (hb b rfl g5)
end Go.Proofs.Ytkggpdaglhnonaa
namespace Go.Plain
open Go.Eng
set_option autoImplicit false
def WorkW (lo:Nat) (η:HN) (x:AV) (w:List S):Prop:=(w = [] ∧ (x = .nilslice ∨ ∃ b,lo ≤ b ∧ b < η.nx ∧ x = .slice b 0 0 (.kn 0) ∧ ∃ row,η.f b = .live false row)) ∨ ∃ b row,lo ≤ b ∧ b < η.nx ∧ x = .slice b 0 w.length (.un 1) ∧ η.f b = .live false (strc w ++ row)
theorem WorkW.keep {lo:Nat} {η η':HN} {x:AV} {w:List S} (h:WorkW lo η x w) (hn:η.nx ≤ η'.nx) (hk:∀ b,lo ≤ b → b < η.nx → η'.f b = η.f b):WorkW lo η' x w:=by
 rcases h with ⟨rfl,rfl | ⟨b,h1,h2,h3,row,h4⟩⟩ | ⟨b,row,h1,h2,h3,h4⟩
 ·exact .inl ⟨rfl,.inl rfl⟩
 ·exact .inl ⟨rfl,.inr ⟨b,h1,by omega,h3,row,(hk b h1 h2).trans h4⟩⟩
 ·exact .inr ⟨b,row,h1,by omega,h3,(hk b h1 h2).trans h4⟩
theorem WorkW.len {lo e sz:Nat} {η η':HN} {x:AV} {w:List S} (h:WorkW lo η x w) (hl:w.length ≤ 9223372036854775807):lenN (.slice e 1 sz) x η' = .ok (.int .i64 w.length) η':=by
 rcases h with ⟨rfl,rfl | ⟨c,_,_,rfl,_⟩⟩ | ⟨c,_,_,_,rfl,_⟩
 ·rfl
 ·rfl
 ·rw [lenN_sl,lenI_at,if_pos hl]
theorem sets_strc (w m:List S) (row:List AV) (h:m.length ≤ row.length):setsL (strc w ++ row) w.length (strc m) = strc w ++ (strc m ++ row.drop m.length):=by
 have e:=setsL_app (r:=strc m) (strc w) row 0
 rw [strc_len,Nat.add_zero] at e
 rw [e]
 congr 1
 have e2:=setsL_app0 (row.take m.length) (strc m) (row.drop m.length) (by rw [strc_len,List.length_take]; omega)
 rw [List.take_append_drop] at e2
 exact e2
theorem strc_apps (w m:List S):strc (w ++ m) = strc w ++ strc m:=List.map_append
theorem work_app {lo lo' y0:Nat} {η:HN} {x y:AV} {w m:List S} (hy0:y0 ≤ 32768) (hx:WorkW lo η x w) (hy:RowT lo' η y m) (hlen:w.length + m.length ≤ 4294967296) (hb:lo ≤ η.nx) :
  ∃ x' η',apSrcN 1 y0 x y η = .ok x' η' ∧ WorkW lo η' x' (w ++ m) ∧ η.nx ≤ η'.nx ∧ ∀ c,c < η.nx → ¬ blkIs x c → η'.f c = η.f c:=by
 have key:apSrcN 1 y0 x y η = apN 1 y0 x m.length (strc m) η:=by
  rcases hy with ⟨rfl,rfl⟩ | ⟨b,row,_,_,rfl,h4⟩
  ·rfl
  ·rw [apSrc_sl]
   by_cases h0:m.length = 0
   ·rw [if_pos h0]
    obtain rfl:=List.eq_nil_of_length_eq_zero h0
    rfl
   ·rw [if_neg h0,h4,rowN_at,if_pos (by rw [List.length_append,strc_len]; omega),Nat.mul_one,apRow_s]
    rw [List.drop_zero,List.take_left' (strc_len m)]
 rw [key]
 clear key hy
 have hsz:(w.length + m.length) * y0 ≤ 140737488355328:=Nat.le_trans (Nat.mul_le_mul hlen hy0) (by decide)
 have hsz0:m.length * y0 ≤ 140737488355328:=Nat.le_trans (Nat.mul_le_mul_right _ (by omega)) hsz
 by_cases h0:m = []
 ·subst h0
  refine ⟨x,η,?_,by rw [List.append_nil]; exact hx,Nat.le_refl _,fun _ _ _=>rfl⟩
  rcases hx with ⟨rfl,rfl | ⟨c,_,_,rfl,_⟩⟩ | ⟨c,_,_,_,rfl,_⟩
  ·rfl
  ·have hsz:(0 + 0) * y0 ≤ 140737488355328:=hsz
   rw [show ([]:List S).length = 0 from rfl,apN_kn,if_pos hsz,if_pos rfl]
  ·have hsz:(w.length + 0) * y0 ≤ 140737488355328:=hsz
   rw [show ([]:List S).length = 0 from rfl,apN_un,if_pos hsz,if_pos rfl]
 ·have hm0:m.length ≠ 0:=fun e=>h0 (List.eq_nil_of_length_eq_zero e)
  rcases hx with ⟨rfl,rfl | ⟨b,h1,h2,rfl,row,hr⟩⟩ | ⟨b,row,h1,h2,rfl,hr⟩
  ·refine ⟨.slice η.nx 0 m.length (.un 1),η.new (.live false (strc m)),?_,.inr ⟨η.nx,[],hb,Nat.lt_succ_self _,rfl,?_⟩,Nat.le_succ _,fun c hc _=>if_neg (by omega)⟩
   ·show (if m.length = 0 then _ else if m.length * y0 ≤ _ then _ else _) = _
    rw [if_neg hm0,if_pos hsz0]
   ·rw [List.nil_append,List.append_nil]; exact if_pos rfl
  ·refine ⟨.slice η.nx 0 (0 + m.length) (.un 1),η.new (.live false (strc m)),?_,.inr ⟨η.nx,[],hb,Nat.lt_succ_self _,by rw [Nat.zero_add]; rfl,?_⟩,Nat.le_succ _,fun c hc _=>if_neg (by omega)⟩
   ·show (if (0 + m.length) * y0 ≤ _ then (if m.length = 0 then _ else apKn b 0 0 1 m.length 0 (strc m) (η.f b) η) else _) = _
    rw [if_pos (by rw [Nat.zero_add]; exact hsz0),if_neg hm0,apKn_new (by omega),hr,rowN_at,if_pos (by omega)]
    simp [apNewN]
   ·rw [List.nil_append,List.append_nil]; exact if_pos rfl
  ·have e0:apN 1 y0 (.slice b 0 w.length (.un 1)) m.length (strc m) η = apUn b 0 w.length 1 m.length (strc m) (η.f b) η:=by
    show (if (w.length + m.length) * y0 ≤ _ then (if m.length = 0 then _ else if 1 = 1 then _ else _) else _) = _
    rw [if_pos hsz,if_neg hm0,if_pos rfl]
   have el:(strc w ++ row).length = w.length + row.length:=by rw [List.length_append,strc_len]
   rw [e0,hr,apUn_at,Nat.mul_one,Nat.mul_one,Nat.zero_add,el,strc_len]
   by_cases hf:m.length ≤ row.length
   ·rw [if_pos (by omega),sets_strc w m row hf]
    exact ⟨_,_,rfl,.inr ⟨b,row.drop m.length,h1,h2,by rw [List.length_append],by rw [strc_apps,List.append_assoc]; exact if_pos rfl⟩,Nat.le_refl _,fun c _ hc=>if_neg fun e=>hc e.symm⟩
   ·rw [if_neg (by omega)]
    have fin:∀ l:List AV,l = strc w ++ strc m → ∃ x' η',RES.ok (.slice η.nx 0 (w.length + m.length) (.un 1)) ((η.put b .none).new (.live false l)) = .ok x' η' ∧ WorkW lo η' x' (w ++ m) ∧ η.nx ≤ η'.nx ∧ ∀ c,c < η.nx → ¬ blkIs (.slice b 0 w.length (.un 1)) c → η'.f c = η.f c:=fun l hl =>
     ⟨_,_,rfl,.inr ⟨η.nx,[],hb,Nat.lt_succ_self _,by rw [List.length_append],by rw [strc_apps,List.append_nil,← hl]; exact if_pos rfl⟩,Nat.le_succ _,fun c hc hne=>(if_neg (by show ¬ c = η.nx; omega)).trans (if_neg fun e=>hne e.symm)⟩
    by_cases hr0:row.length = 0
    ·rw [if_pos ⟨by omega,rfl⟩]
     refine fin _ ?_
     rw [List.drop_zero,List.eq_nil_of_length_eq_zero hr0,List.append_nil]
    ·rw [if_neg (by omega),if_pos ⟨by omega,rfl⟩]
     refine fin _ ?_
     rw [List.drop_zero,List.take_left' (strc_len w)]
theorem work_cut {lo:Nat} {η:HN} {x:AV} {w:List S} {s:S} (h:WorkW lo η x (w ++ [s])):∃ b row,lo ≤ b ∧ b < η.nx ∧ x = .slice b 0 (w.length + 1) (.un 1) ∧ η.f b = .live false row ∧ w.length < row.length ∧ row.getD w.length und = .str s.1 s.2 ∧ WorkW lo η (.slice b 0 w.length (.un 1)) w:=by
 rcases h with ⟨h,_⟩ | ⟨b,row,h1,h2,h3,h4⟩
 ·simp at h
 ·rw [strc_apps,List.append_assoc] at h4
  have e1:strc [s] ++ row = .str s.1 s.2 :: row:=rfl
  rw [e1] at h4
  refine ⟨b,_,h1,h2,by rw [h3,List.length_append]; rfl,h4,?_,?_,.inr ⟨b,_,h1,h2,rfl,h4⟩⟩
  ·rw [List.length_append,strc_len]; simp
  ·rw [List.getD_eq_getElem?_getD,List.getElem?_append_right (by rw [strc_len]; exact Nat.le_refl _),strc_len,Nat.sub_self]; rfl
end Go.Plain
namespace Go.Proofs.Ytkggpdaglhnonaa
open Go.Eng Go.Plain
set_option autoImplicit false
set_option maxRecDepth 100000
variable {nat:∀ [Deep],Nats}
theorem ixEq_spec (U:Usual nat) {α:Type} {l:List α} {ls:List (List AV)} {η:HN} {v:AV} (hl:ls.length = l.length) (hn:l.length ≤ 4294967296) (rv:RdR 7 η v ls) {p:α → Bool} {f:FuncId} {caps:List AV}
  (hc:TellsN nat η l ls p f caps) {Q:AV → HN → Prop} (k:∀ η',ExtB η.nx η η' → Q (.int .i64 (encO (ixL p l 0))) η'):∃ v' η',CallN Try.prog nat 91 [v,.func f [] caps] η v' η' ∧ Q v' η':=by
 refine call_of (PT:=pl91) Try.func91 rfl (U 91 (by decide)) ok91 rfl ?_
 have ln:=fun η' e w=>row_len (η':=η') rv hl (by omega) e w
 simp -implicitDefEqProofs (disch:=omega) only [go_sem,ln]
 obtain ⟨I,hI⟩:∃ I:Nat → FN → HN → Prop,∀ m φ ζ,I m φ ζ ↔ ∃ i,m = l.length - i ∧ i ≤ l.length ∧ (φ 0 = v ∧ φ 1 = .func f [] caps ∧ φ 7 = .int .i64 l.length ∧ φ 8 = .int .i64 i) ∧ ixL p (l.drop i) i = ixL p l 0 ∧ ExtB η.nx η ζ:=⟨_,fun _ _ _=>Iff.rfl⟩
 refine wpN_loop I l.length ((hI _ _ _).2 ⟨0,rfl,Nat.zero_le _,⟨rfl,rfl,rfl,rfl⟩,rfl,.refl _ _⟩) ?_
 intro m φ ζ hi
 obtain ⟨i,hm,hi,⟨p0,p1,p7,p8⟩,ex,Ex⟩:=(hI _ _ _).1 hi
 by_cases hlt:i < l.length
 ·obtain ⟨b,off,cap,ro,row,rfl,hb,hbn,hlen,hrow⟩:=rv.at (i:=i) (by omega)
  have hbz:ζ.f b = _:=(Ex.2 b hbn).trans hb
  simp -implicitDefEqProofs (disch:=omega) only [go_sem,p0,p1,p7,p8,hbz,hrow]
  refine thenN_call (hc ζ Ex i hlt (by omega) _ fun ζ2 x2=>?_)
  rw [ixL_drop hlt] at ex
  cases e:p l[i] with
  | true =>
   rw [e,if_pos rfl] at ex
   rw [← ex] at k
   simp -implicitDefEqProofs (disch:=omega) only [go_sem,p0,p1,p7,p8]
   exact k _ (extT Ex x2)
  | false =>
   rw [e,if_neg (by decide)] at ex
   simp -implicitDefEqProofs (disch:=omega) only [go_sem,p0,p1,p7,p8]
   exact ⟨l.length - (i + 1),by omega,(hI _ _ _).2 ⟨i + 1,rfl,hlt,⟨by exact p0,by exact p1,by exact p7,rfl⟩,ex,extT Ex x2⟩⟩
 ·obtain rfl:i = l.length:=by omega
  rw [List.drop_length] at ex
  rw [← ex] at k
  simp -implicitDefEqProofs (disch:=omega) only [go_sem,p0,p1,p7,p8]
  exact k _ Ex
theorem eq1_then (U:Usual nat) {η:HN} {q:Eqn} {z:List AV} {c:Nat} {s:S} (r:rdQ tt η q z) (hc:η.f c = .live false [.str s.1 s.2]) (hcn:c < η.nx) {Q:AV → HN → Prop} (k:∀ η',ExtB η.nx η η' → Q (.bool (decide (q.nm = s))) η'):∃ v η',CallN Try.prog nat 92 [.agg z,.ptr c 0] η v η' ∧ Q v η':=by
 obtain ⟨ze,rfl,re⟩:=r
 obtain ⟨f1,f2,f3,f4,f5,rfl⟩:=rdE_cells re
 refine call_of (PT:=pl92) Try.func92 rfl (U 92 (by decide)) ok92 rfl ?_
 have e:=strEq_S q.nm s
 simp -implicitDefEqProofs (disch:=omega) only [go_sem,sV,hc,e,List.cons_append,List.nil_append]
 exact k _ (extN (.refl _ _))
theorem copied_then (U:Usual nat) {η:HN} {q:Eqn} {z:List AV} (r:rdQ tt η q z) (ok:okE q.e) {Q:AV → HN → Prop} (k:∀ ze η',rdE (fun c=>η.nx ≤ c) η' q.e ze → ExtB η.nx η η' → Q (.agg ([sV q.nm] ++ ze ++ [.int .i64 q.a])) η'):∃ v η',CallN Try.prog nat 93 [.agg z] η v η' ∧ Q v η':=by
 obtain ⟨ze,rfl,re⟩:=r
 obtain ⟨f1,f2,f3,f4,f5,rfl⟩:=rdE_cells re
 refine call_of (PT:=pl93) Try.func93 rfl (U 93 (by decide)) ok93 rfl ?_
 obtain ⟨η1,h1⟩:∃ η1,η1 = (η.new (.live false [.str q.nm.1 q.nm.2,.str f1.1 f1.2,.str f2.1 f2.2,.int .i64 f3,.int .i64 f4,f5,.int .i64 q.a])).new (.live false [.str 0 0,.str 0 0,.str 0 0,.int .i64 0,.int .i64 0,.nilslice,.int .i64 0]):=⟨_,rfl⟩
 have E1:ExtB η.nx η η1:=by rw [h1]; exact extN (extN (.refl _ _))
 have n1:η1.nx = η.nx + 2:=by rw [h1]; rfl
 have c0:η1.f η.nx = .live false [.str q.nm.1 q.nm.2,.str f1.1 f1.2,.str f2.1 f2.2,.int .i64 f3,.int .i64 f4,f5,.int .i64 q.a]:=by rw [h1]; exact (if_neg (by show ¬ η.nx = η.nx + 1; omega)).trans (if_pos rfl)
 have c1:η1.f (η.nx + 1) = .live false [.str 0 0,.str 0 0,.str 0 0,.int .i64 0,.int .i64 0,.nilslice,.int .i64 0]:=by rw [h1]; exact if_pos rfl
 simp -implicitDefEqProofs (disch:=omega) only [go_sem,sV,repL_s,repL_z,setsL_c,List.cons_append,List.nil_append]
 rw [← h1]
 clear h1
 refine thenN_call (copy_then U q.e ok _ _ _ (rdE_b re E1) fun z' η2 r2 E2=>?_)
 have n2:=E2.1
 obtain ⟨g1,g2,g3,g4,g5,rfl⟩:=rdE_cells r2
 have d0:=(E2.2 _ (by omega:η.nx < η1.nx)).trans c0
 have d1:=(E2.2 _ (by omega:η.nx + 1 < η1.nx)).trans c1
 simp -implicitDefEqProofs (disch:=omega) only [go_sem,d0,d1,repL_s,repL_z,setsL_c]
 refine k [.str g1.1 g1.2,.str g2.1 g2.2,.int .i64 g3,.int .i64 g4,g5] _ ?_ ?_
 ·refine rdE_keep (η:=η2) (fun b hb hn=>?_) ?_ (fun b hb=>?_) _ _ r2
  ·have hb:η1.nx ≤ b:=hb
   exact (if_neg (by omega)).trans (if_neg (by omega))
  ·exact Nat.le_refl _
  ·have hb:η1.nx ≤ b:=hb
   show η.nx ≤ b
   omega
 ·exact ⟨by show η.nx ≤ η2.nx; omega,fun b hb=>(if_neg (by omega)).trans ((if_neg (by omega)).trans ((extT E1 E2).2 b hb))⟩
theorem eq_then (U:Usual nat) {η:HN} {n:Nd} {z:List AV} (r:rdN tt η n z) (ok:okN n) (s:S) {Q:AV → HN → Prop} (k:∀ (nm:S) (a:Nat) (b:Bool) ze η',rdE (fun c=>η.nx ≤ c) η' (eqE n s) ze → ExtB η.nx η η' → Q (.tup [.agg ([sV nm] ++ ze ++ [.int .i64 a]),.bool b]) η'):∃ v η',CallN Try.prog nat 52 [.agg z,.str s.1 s.2] η v η' ∧ Q v η':=by
 obtain ⟨y1,y2,y3,y4,rfl,-,-,-,-,ls,r4,rq⟩:=r
 obtain ⟨ok0,ok1,ok2,ok3,ok4,ok5⟩:=ok
 have hll:=rdQs_len rq
 refine call_of (PT:=pl52) Try.func52 rfl (U 52 (by decide)) ok52 rfl ?_
 obtain ⟨η1,h1⟩:∃ η1,η1 = ((η.new (.live false [.str n.nm.1 n.nm.2,y1,y2,y3,y4,.int .i64 n.a])).new (.live false [.str s.1 s.2])).new (.live false [.str 0 0,.str 0 0,.str 0 0,.int .i64 0,.int .i64 0,.nilslice,.int .i64 0]):=⟨_,rfl⟩
 have E1:ExtB η.nx η η1:=by rw [h1]; exact extN (extN (extN (.refl _ _)))
 have n1:η1.nx = η.nx + 3:=by rw [h1]; rfl
 have c0:η1.f η.nx = .live false [.str n.nm.1 n.nm.2,y1,y2,y3,y4,.int .i64 n.a]:=by rw [h1]; exact (if_neg (by show ¬ η.nx = η.nx + 1 + 1; omega)).trans ((if_neg (by show ¬ η.nx = η.nx + 1; omega)).trans (if_pos rfl))
 have c1:η1.f (η.nx + 1) = .live false [.str s.1 s.2]:=by rw [h1]; exact (if_neg (by show ¬ η.nx + 1 = η.nx + 1 + 1; omega)).trans (if_pos rfl)
 have c2:η1.f (η.nx + 2) = .live false [.str 0 0,.str 0 0,.str 0 0,.int .i64 0,.int .i64 0,.nilslice,.int .i64 0]:=by rw [h1]; exact if_pos rfl
 simp -implicitDefEqProofs (disch:=omega) only [go_sem,sV,repL_s,repL_z,setsL_c]
 rw [← h1]
 clear h1
 skip
 have r4':=r4.ext (base:=0) E1
 refine thenN_call (ixEq_spec U (l:=n.eqs) (p:=fun q=>decide (q.nm = s)) hll.1 (by omega) r4' ?_ fun η2 E2=>?_)
 ·intro ζ Ez i h1 h2 Q' k'
  have Ez':=extT E1 Ez
  obtain ⟨h2',rqi⟩:=rdQs_at rq i h1
  exact eq1_then U (rdQ_keep (keep_b Ez') Ez'.1 (fun _ h=>h) rqi) ((Ez.2 _ (by omega)).trans c1) (by have:=Ez.1; omega) k'
 have n2:=E2.1
 have E12:=extT E1 E2
 have d0:=(E2.2 _ (by omega:η.nx < η1.nx)).trans c0
 have d2:=(E2.2 _ (by omega:η.nx + 2 < η1.nx)).trans c2
 have fd:=ixL_find (fun q:Eqn=>decide (q.nm = s)) n.eqs 0
 cases e:ixL (fun q:Eqn=>decide (q.nm = s)) n.eqs 0 with
 | none =>
  rw [e] at fd
  have fd:none = n.eqs.find? (fun q=>decide (q.nm = s)):=fd
  have eE:eqE n s = E0:=by unfold eqE; rw [← fd]
  rw [eE] at k
  have ee:encO none = 18446744073709551615:=rfl
  have lt_m1:ltN .i64 18446744073709551615 0 = true:=rfl
  simp -implicitDefEqProofs (disch:=omega) only [go_sem,ee,lt_m1,d2,repL_s,repL_z,setsL_c]
  exact k (0,0) 0 false _ _ rdE_0 (extP E12 (by omega))
 | some j =>
  obtain ⟨_,hj,_⟩:=ixL_lt e
  have hj:j < n.eqs.length:=by omega
  rw [e] at fd
  have fd:n.eqs[j - 0]? = n.eqs.find? (fun q=>decide (q.nm = s)):=fd
  rw [Nat.sub_zero,List.getElem?_eq_getElem hj] at fd
  have eE:eqE n s = n.eqs[j].e:=by unfold eqE; rw [← fd]
  rw [eE] at k
  obtain ⟨hj',rqi⟩:=rdQs_at rq j hj
  have hle:=ok4
  obtain ⟨b,off,cap,ro,row,rfl,hb,hbn,hlen,hrow⟩:=r4.at hj'
  have hbz:η2.f b = _:=(E12.2 b hbn).trans hb
  have okq:=ok5 _ (List.getElem_mem hj)
  have rq2:=rdQ_keep (keep_b E12) E12.1 (fun _ h=>h) rqi
  have ee:encO (some j) = j:=rfl
  simp -implicitDefEqProofs (disch:=omega) only [go_sem,ee,d0,d2,hbz,hrow]
  refine thenN_call (copied_then U rq2 okq.2 fun ze η3 r3 E3=>?_)
  have n3:=E3.1
  have d3:=(E3.2 _ (by omega:η.nx + 2 < η2.nx)).trans d2
  obtain ⟨g1,g2,g3,g4,g5,rfl⟩:=rdE_cells r3
  simp -implicitDefEqProofs (disch:=omega) only [go_sem,d3,sV,List.cons_append,List.nil_append,repL_s,repL_z,setsL_c]
  refine k n.eqs[j].nm n.eqs[j].a true [.str g1.1 g1.2,.str g2.1 g2.2,.int .i64 g3,.int .i64 g4,g5] _ ?_ (extP (extT E12 E3) ?_)
  rotate_left
  ·omega
  refine rdE_keep (η:=η3) (fun b hb hn=>?_) ?_ (fun b hb=>?_) _ _ r3
  ·have hb:η2.nx ≤ b:=hb
   exact if_neg (by omega)
  ·exact Nat.le_refl _
  ·have hb:η2.nx ≤ b:=hb
   show η.nx ≤ b
   omega
end Go.Proofs.Ytkggpdaglhnonaa
