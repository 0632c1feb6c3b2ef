/- What is proved: what the leaves of the document's checks do. what the document's clocks of names do. what the document's clock of a name, the places of nodes, equations, inputs do. what the places of nodes, equations, inputs by their names do. whether two clocks are one, as law 8 asks it. what a copy of a clock is. what the program's clock of an expression, asked from outside, is. Conditions: as each theorem says. -/
import Derived.Test.YtdeejbnhlbddgaaGreatDoorClkB
import Derived.Test.YtdeejbnhlbddgaaGreatDoorPlainR
set_option linter.unusedVariables false
set_option linter.unusedSimpArgs false
set_option linter.unusedSectionVars false
namespace Go.Plain
open Go.Eng
set_option autoImplicit false
theorem rdR_A {s:Nat} {η:HN} {y:AV} {ls:List (List AV)} (h:RdR s η y ls):RdA s η y ls.length ls.flatten:=by
 rcases h with ⟨rfl,h⟩|⟨b,off,cap,ro,row,h1,h2,h3,h4,h5,h6⟩
 ·exact .inl ⟨rfl,rfl,h⟩
 ·exact .inr ⟨b,off,cap,ro,row,h1,h2,h3,h4,flat_len _ h5,h6⟩
theorem vrs_len (l:List Vr):(l.map Vr.cells).length=l.length:=List.length_map ..
end Go.Plain
namespace Go.Proofs.YtdeejbnhlbddgaaGreatDoor
open Go.Eng Go.Plain
set_option autoImplicit false
set_option maxRecDepth 100000
variable {nat:∀ [Deep],Nats}
theorem vars6_then (U:Usual nat) {η:HN} {n:Nd} {z:List AV} (r:rdN tt η n z) (ok:okN n) {Q:AV→HN→Prop} (k:∀x η',OwnA 5 η.nx η' x (allOf n).length ((allOf n).map Vr.cells).flatten→ExtB η.nx η η'→Q x η'):∃v' η',CallN Tryz.prog nat 71 [.agg z] η v' η'∧Q v' η':=by
 obtain⟨y1,y2,y3,y4,rfl,-,r1,r2,r3,-⟩:=r
 obtain⟨ok0,ok1,ok2,ok3,ok4,ok5⟩:=ok
 refine call_of (PT:=pl71) Tryz.func71 rfl (U 71 (by decide)) ok71 rfl ?_
 have hsn:sV n.nm=.str n.nm.1 n.nm.2:=rfl
 simp -implicitDefEqProofs(disch:=omega)only[go_sem,hsn]
 have h1:=ok1.1
 have h2:=ok2.1
 have h3:=ok3.1
 have E:ExtB η.nx η ((η.new (.live false [.str n.nm.1 n.nm.2,y1,y2,y3,y4,.int .i64 n.a])).new (.live false [])):=extN (extN (.refl _ _))
 have c0:((η.new (.live false [.str n.nm.1 n.nm.2,y1,y2,y3,y4,.int .i64 n.a])).new (.live false [])).f η.nx=.live false [.str n.nm.1 n.nm.2,y1,y2,y3,y4,.int .i64 n.a]:=(if_neg (by show¬η.nx=η.nx+1;omega)).trans (if_pos rfl)
 have c1:((η.new (.live false [.str n.nm.1 n.nm.2,y1,y2,y3,y4,.int .i64 n.a])).new (.live false [])).f (η.nx+1)=.live false []:=if_pos rfl
 have n0:((η.new (.live false [.str n.nm.1 n.nm.2,y1,y2,y3,y4,.int .i64 n.a])).new (.live false [])).nx=η.nx+2:=rfl
 generalize (η.new (.live false [.str n.nm.1 n.nm.2,y1,y2,y3,y4,.int .i64 n.a])).new (.live false [])=η1 at *
 have o1:OwnA 5 (η.nx+1) η1 (.slice (η.nx+1) 0 0 (.kn 0)) 0 []:=⟨rfl,.inr ⟨η.nx+1,Nat.le_refl _,by omega,.inl ⟨rfl,rfl,_,c1⟩⟩⟩
 have q1:=rdR_A (r1.ext (base:=0) E)
 rw[vrs_len]at q1
 refine thenN_app (by decide) o1 q1 (by omega) (by omega) fun x2 η2 o2 e2=>?_
 have E2:ExtB η.nx η η2:=⟨by have:=e2.1;omega,fun b hb=>(e2.2 b (by omega)).trans (E.2 b hb)⟩
 have c2:=(e2.2 _ (Nat.lt_succ_self _)).trans c0
 have n2:=e2.1
 simp -implicitDefEqProofs(disch:=omega)only[go_sem,c2]
 have q2:=rdR_A (r2.ext (base:=0) E2)
 rw[vrs_len]at q2
 refine thenN_app (by decide) o2 q2 (by omega) (by omega) fun x3 η3 o3 e3=>?_
 have E3:ExtB η.nx η η3:=⟨by have:=e3.1;omega,fun b hb=>(e3.2 b (by omega)).trans (E2.2 b hb)⟩
 have c3:=(e3.2 _ (Nat.lt_succ_self _)).trans c2
 have n3:=e3.1
 simp -implicitDefEqProofs(disch:=omega)only[go_sem,c3]
 have q3:=rdR_A (r3.ext (base:=0) E3)
 rw[vrs_len]at q3
 refine thenN_app (by decide) o3 q3 (by omega) (by omega) fun x4 η4 o4 e4=>?_
 have E4:ExtB η.nx η η4:=⟨by have:=e4.1;omega,fun b hb=>(e4.2 b (by omega)).trans (E3.2 b hb)⟩
 simp -implicitDefEqProofs(disch:=omega)only[go_sem]
 refine k _ _ ?_ E4
 have e1:(allOf n).length=0+n.ins.length+n.outs.length+n.locs.length:=by unfold allOf;rw[List.length_append,List.length_append];omega
 have e2:((allOf n).map Vr.cells).flatten=[]++(n.ins.map Vr.cells).flatten++(n.outs.map Vr.cells).flatten++(n.locs.map Vr.cells).flatten:=by unfold allOf;simp only[List.map_append,List.flatten_append,List.nil_append,List.append_assoc]
 rw[e1,e2]
 obtain⟨p1,p2⟩:=o4
 refine⟨p1,p2.imp id fun⟨b,g1,g2,g3⟩=>⟨b,by omega,g2,g3⟩⟩
theorem find6_then (U:Usual nat) {η:HN} {n:Nd} {z:List AV} (r:rdN tt η n z) (ok:okN n) (s:S) {Q:AV→HN→Prop} (k:∀η',ExtB η.nx η η'→Q (.tup [.agg ((findV n s).getD zVr).cells,.bool (findV n s).isSome]) η'):∃v' η',CallN Tryz.prog nat 72 [.agg z,.str s.1 s.2] η v' η'∧Q v' η':=by
 obtain⟨hal,hok⟩:=all_len ok
 refine call_of (PT:=pl72) Tryz.func72 rfl (U 72 (by decide)) ok72 rfl ?_
 have r':=r
 obtain⟨y1,y2,y3,y4,rfl,-⟩:=r'
 have hsn:sV n.nm=.str n.nm.1 n.nm.2:=rfl
 have E:ExtB η.nx η ((η.new (.live false [.str n.nm.1 n.nm.2,y1,y2,y3,y4,.int .i64 n.a])).new (.live false [.str 0 0,.int .i64 0,.str 0 0,.bool false,.int .i64 0])):=extN (extN (.refl _ _))
 have c1:((η.new (.live false [.str n.nm.1 n.nm.2,y1,y2,y3,y4,.int .i64 n.a])).new (.live false [.str 0 0,.int .i64 0,.str 0 0,.bool false,.int .i64 0])).f (η.nx+1)=.live false [.str 0 0,.int .i64 0,.str 0 0,.bool false,.int .i64 0]:=if_pos rfl
 have c0:((η.new (.live false [.str n.nm.1 n.nm.2,y1,y2,y3,y4,.int .i64 n.a])).new (.live false [.str 0 0,.int .i64 0,.str 0 0,.bool false,.int .i64 0])).f η.nx=.live false [.str n.nm.1 n.nm.2,y1,y2,y3,y4,.int .i64 n.a]:=(if_neg (by show¬η.nx=η.nx+1;omega)).trans (if_pos rfl)
 have nn:((η.new (.live false [.str n.nm.1 n.nm.2,y1,y2,y3,y4,.int .i64 n.a])).new (.live false [.str 0 0,.int .i64 0,.str 0 0,.bool false,.int .i64 0])).nx=η.nx+2:=rfl
 simp -implicitDefEqProofs(disch:=omega)only[go_sem,hsn,repL_s,repL_z,setsL_c]
 generalize (η.new (.live false [.str n.nm.1 n.nm.2,y1,y2,y3,y4,.int .i64 n.a])).new (.live false [.str 0 0,.int .i64 0,.str 0 0,.bool false,.int .i64 0])=η1 at *
 refine thenN_call (vars6_then U (rdN_ext r E) ok fun x η2 ox E2=>?_)
 have n2:=E2.1
 have d1:η2.f (η.nx+1)=_:=(E2.2 _ (by omega)).trans c1
 have ox':OwnA 5 η1.nx η2 x ((allOf n).map Vr.cells).length ((allOf n).map Vr.cells).flatten:=by rw[vrs_len];exact ox
 have rx:=own_rdR ox' (fun l hl=>by obtain⟨v,_,rfl⟩:=List.mem_map.1 hl;rfl)
 have lx:=fun η' e w=>row_len (η':=η') rx (vrs_len _) (by omega) e w
 simp -implicitDefEqProofs(disch:=omega)only[go_sem]
 have ef:findV n s=(allOf n).find? fun v=>decide (v.nm=s):=rfl
 rw[ef]at k
 generalize allOf n=V at *
 obtain⟨I,hI⟩:∃I:Nat→FN→HN→Prop,∀m φ ζ,I m φ ζ↔∃i,m=V.length-i∧i≤V.length∧(φ 1=.str s.1 s.2∧φ 4=.ptr (η.nx+1) 0∧φ 6=x∧φ 7=.int .i64 i)∧ζ=η2∧(V.drop i).find? (fun v=>decide (v.nm=s))=V.find? (fun v=>decide (v.nm=s)):=⟨_,fun _ _ _=>Iff.rfl⟩
 refine wpN_loop I V.length ((hI _ _ _).2 ⟨0,rfl,Nat.zero_le _,⟨rfl,rfl,rfl,rfl⟩,rfl,rfl⟩) ?_
 intro m φ ζ hi
 obtain⟨i,hm,hi,⟨p1,p4,p6,p7⟩,rfl,ed⟩:=(hI _ _ _).1 hi
 have EE:=extT E E2
 by_cases hlt:i<V.length
 ·obtain⟨b,off,cap,ro,row,rfl,hbv,hbn,hlen,hrow⟩:=vr_at rx hlt
  rw[List.drop_eq_getElem_cons hlt,List.find?_cons]at ed
  generalize V[i]=w at *
  have hwc:w.cells=[.str w.nm.1 w.nm.2,.int .i64 w.kd,.str w.on.1 w.on.2,.bool w.nt,.int .i64 w.a]:=rfl
  rw[hwc]at hrow
  have es:=strEq_S w.nm s
  have g0:row.getD (off+i*5) und=.str w.nm.1 w.nm.2:=by
   have:=congrArg (fun l:List AV=>l.getD 0 und) hrow
   simpa [List.getD_eq_getElem?_getD,List.getElem?_take,List.getElem?_drop] using this
  by_cases e:w.nm=s
  ·rw[decide_eq_true e]at es ed
   have ed:some w=V.find? (fun v=>decide (v.nm=s)):=ed
   rw[←ed]at k
   simp -implicitDefEqProofs(disch:=omega)only[go_sem,p1,p4,p6,p7,lx,hbv,hrow,g0,es,d1,repL_s,repL_z,setsL_c]
   exact k _ (extP EE (by omega))
  ·rw[decide_eq_false e]at es ed
   have ed:(V.drop (i+1)).find? (fun v=>decide (v.nm=s))=V.find? (fun v=>decide (v.nm=s)):=ed
   simp -implicitDefEqProofs(disch:=omega)only[go_sem,p1,p4,p6,p7,lx,hbv,hrow,g0,es]
   exact⟨V.length-(i+1),by omega,(hI _ _ _).2 ⟨i+1,rfl,hlt,⟨by exact p1,by exact p4,by exact p6,rfl⟩,rfl,ed⟩⟩
 ·obtain rfl:i=V.length:=by omega
  rw[List.drop_length]at ed
  have ed:none=V.find? (fun v=>decide (v.nm=s)):=ed
  rw[←ed]at k
  simp -implicitDefEqProofs(disch:=omega)only[go_sem,p1,p4,p6,p7,lx,d1,repL_s,repL_z,setsL_c]
  exact k _ (extP EE (by omega))
theorem fail6_then (U:Usual nat) {η:HN} {cb e a:Nat} {b:Bd} (hc:η.f cb=.live false [.int .i64 b.1,.int .i64 b.2]) {Q:AV→HN→Prop} (hb:b.1<9223372036854775808)
  (k:∀η',η'.nx=η.nx→η'.f cb=.live false [.int .i64 (failB e a b).1,.int .i64 (failB e a b).2]→(∀c,c≠cb→η'.f c=η.f c)→Q (.tup []) η'):∃v' η',CallN Tryz.prog nat 70 [.ptr cb 0,.int .i64 e,.int .i64 a] η v' η'∧Q v' η':=by
 refine call_of (PT:=pl70) Tryz.func70 rfl (U 70 (by decide)) ok70 rfl ?_
 by_cases h:b.1=0
 ·have eb:failB e a b=(e,a):=if_pos h
  rw[eb]at k
  rw[h]at hc
  simp -implicitDefEqProofs(disch:=omega)only[go_sem,hc]
  exact k _ rfl (if_pos rfl) fun c hc=>if_neg hc
 ·have eb:failB e a b=b:=if_neg h
  rw[eb]at k
  simp -implicitDefEqProofs(disch:=omega)only[go_sem,hc]
  exact k _ rfl hc fun c _=>rfl
end Go.Proofs.YtdeejbnhlbddgaaGreatDoor
namespace Go.Plain
open Go.Eng
set_option autoImplicit false
def CkB (η:HN) (y:AV) (c:List Stp):Prop:=(y=.nilslice∧c=[])∨∃b cp,b<η.nx∧y=.slice b 0 c.length cp∧η.f b=.live false (c.map stc).flatten
theorem CkB.ext {η η':HN} {y:AV} {c:List Stp} (h:CkB η y c) (x:ExtB η.nx η η'):CkB η' y c:=by
 rcases h with h|⟨b,cp,h1,h2,h3⟩
 ·exact .inl h
 ·exact .inr ⟨b,cp,Nat.lt_of_lt_of_le h1 x.1,h2,(x.2 b h1).trans h3⟩
theorem CkB.rd {η:HN} {y:AV} {c:List Stp} (h:CkB η y c):RdR 2 η y (c.map stc):=by
 rcases h with ⟨rfl,rfl⟩|⟨b,cp,h1,rfl,h3⟩
 ·exact .inl ⟨rfl,.inl rfl⟩
 ·have:=RdR.blk (s:=2) (cap:=cp) _ h3 h1 (stc_rows c)
  rw[List.length_map]at this
  exact this
theorem CkB.cells {η:HN} {y:AV} {c:List Stp} (h:CkB η y c):cellsV y=some [y]:=h.rd.cells
theorem own_ckB {η:HN} {lo:Nat} {y:AV} {c:List Stp} (o:OwnA 2 lo η y c.length (c.map stc).flatten) (h0:c≠[]):CkB η y c:=by
 obtain⟨_,⟨_,q2⟩|⟨b,q1,q2,⟨_,q3,_⟩|⟨q3,q4⟩⟩⟩:=o
 ·exact absurd (List.eq_nil_of_length_eq_zero q2) h0
 ·exact absurd (List.eq_nil_of_length_eq_zero q3) h0
 ·exact .inr ⟨b,_,q2,q3,q4⟩
theorem ckB_at {η:HN} {y:AV} {c:List Stp} (h:CkB η y c) {i:Nat} (hi:i<c.length):∃b cp,b<η.nx∧y=.slice b 0 c.length cp∧η.f b=.live false (c.map stc).flatten∧((c.map stc).flatten.drop (i*2)).take 2=[.str (c[i]).1.1 (c[i]).1.2,.bool (c[i]).2]∧(c.map stc).flatten.length=c.length*2∧(c.map stc).flatten.getD (i*2) und=.str (c[i]).1.1 (c[i]).1.2∧(c.map stc).flatten.getD (i*2+1) und=.bool (c[i]).2:=by
 rcases h with ⟨_,rfl⟩|⟨b,cp,h1,h2,h3⟩
 ·cases hi
 ·have e:((c.map stc).flatten.drop (i*2)).take 2=[.str (c[i]).1.1 (c[i]).1.2,.bool (c[i]).2]:=by
   rw[flat_at (s:=2) _ i (stc_rows c) (by rw[List.length_map];exact hi),List.getElem_map];rfl
  refine⟨b,cp,h1,h2,h3,e,by rw[flat_len _ (stc_rows _),List.length_map],?_,?_⟩
  ·have:=congrArg (fun l:List AV=>l.getD 0 und) e
   simpa [List.getD_eq_getElem?_getD,List.getElem?_take,List.getElem?_drop] using this
  ·have:=congrArg (fun l:List AV=>l.getD 1 und) e
   simpa [List.getD_eq_getElem?_getD,List.getElem?_take,List.getElem?_drop] using this
theorem cons_app {η:HN} {y:AV} {c:List Stp} (hc:c.length≤1099511627776) (h:CkB η y c) {s:S} {q:Bool} {zb:Nat} (hz:η.f zb=.live false [.str s.1 s.2,.bool q]) (hzn:zb<η.nx) :
  ∃x' η',apSrcN 2 24 (.slice zb 0 1 (.kn 1)) y η=.ok x' η'∧CkB η' x' ((s,q)::c)∧ExtB η.nx η η'∧∀b,blkIs x' b→b=zb∨b=η.nx:=by
 rcases h with ⟨rfl,rfl⟩|⟨b,cp,h1,rfl,h3⟩
 ·refine⟨.slice zb 0 1 (.kn 1),η,?_,.inr ⟨zb,_,hzn,rfl,hz⟩,.refl _ _,fun b hb=>.inl (by exact hb.symm)⟩
  rw[apSrc_nil];rfl
 ·by_cases h0:c.length=0
  ·obtain rfl:c=[]:=List.eq_nil_of_length_eq_zero h0
   refine⟨.slice zb 0 1 (.kn 1),η,?_,.inr ⟨zb,_,hzn,rfl,hz⟩,.refl _ _,fun b hb=>.inl (by exact hb.symm)⟩
   rw[apSrc_sl];rfl
  ·refine⟨.slice η.nx 0 (1+c.length) (.un 2),η.new (.live false ([.str s.1 s.2,.bool q]++(c.map stc).flatten)),?_,.inr ⟨η.nx,.un 2,Nat.lt_succ_self _,?_,by exact if_pos rfl⟩,extN (.refl _ _),fun b hb=>.inr (by exact hb.symm)⟩
   ·have fl:(c.map stc).flatten.length=c.length*2:=by rw[flat_len _ (stc_rows _),List.length_map]
    rw[apSrc_sl,if_neg h0,h3,rowN_at,if_pos (by rw[fl];omega),List.drop_zero,List.take_of_length_le (by rw[fl];exact Nat.le_refl _)]
    show(if(1+c.length)*24≤140737488355328 then(if c.length=0 then RES.ok _ η else apKn zb 0 1 2 c.length 1 (c.map stc).flatten (η.f zb) η) else RES.no)=_
    rw[if_pos (by omega),if_neg h0]
    unfold apKn
    rw[if_neg (by omega),hz]
    rfl
   ·show AV.slice η.nx 0 (1+c.length) (.un 2)=.slice η.nx 0 (c.length+1) (.un 2)
    rw[Nat.add_comm]
end Go.Plain
namespace Go.Proofs.YtdeejbnhlbddgaaGreatDoor
open Go.Eng Go.Plain
set_option autoImplicit false
set_option maxRecDepth 100000
variable {nat:∀ [Deep],Nats}
theorem ckB_len {η η':HN} {y:AV} {c:List Stp} (h:CkB η y c) (hc:c.length≤9223372036854775807) (e w:Nat):lenN (.slice e 2 w) y η'=.ok (.int .i64 c.length) η':=row_len (η':=η') h.rd (n:=c.length) (by rw[List.length_map]) hc e w
@[go_sem] theorem stp6_good:goodEq Tryz.prog 187 false=true:=by kernel_rfl
theorem stp6_eq {a b:S} {p q:Bool}:(eqB Tryz.prog 187).f (.agg [.str a.1 a.2,.bool p]) (.agg [.str b.1 b.2,.bool q])=oB (some (strEq a.1 a.2 b.1 b.2)) (oB (some (beqB p q)) (some true) (some false) none) (some false) none:=by kernel_rfl
theorem stp6_dec (s t:Stp):(eqB Tryz.prog 187).f (.agg [.str s.1.1 s.1.2,.bool s.2]) (.agg [.str t.1.1 t.1.2,.bool t.2])=some (decide (s=t)):=by
 rw[stp6_eq,strEq_S]
 obtain⟨a,p⟩:=s
 obtain⟨b,q⟩:=t
 by_cases h:a=b
 ·subst h
  rw[decide_eq_true rfl]
  cases p<;>cases q<;>simp<;>rfl
 ·rw[decide_eq_false h,decide_eq_false (fun g=>h (by cases g;rfl))];rfl
set_option maxHeartbeats 4000000 in
theorem same6_then (U:Usual nat) {η:HN} {y z:AV} {c d:List Stp} (hy:CkB η y c) (hz:CkB η z d) (hc:c.length≤1099511627776) (hd:d.length≤1099511627776) {Q:AV→HN→Prop} (k:Q (.bool (decide (c=d))) η):∃v' η',CallN Tryz.prog nat 78 [y,z] η v' η'∧Q v' η':=by
 refine call_of (PT:=pl78) Tryz.func78 rfl (U 78 (by decide)) ok78 rfl ?_
 have ly:=fun η' e w=>ckB_len (η':=η') hy (by omega) e w
 have lz:=fun η' e w=>ckB_len (η':=η') hz (by omega) e w
 by_cases hl:c.length=d.length
 ·simp -implicitDefEqProofs(disch:=omega)only[go_sem,ly,lz]
  obtain⟨I,hI⟩:∃I:Nat→FN→HN→Prop,∀m φ ζ,I m φ ζ↔∃i,m=c.length-i∧i≤c.length∧(φ 0=y∧φ 1=z∧φ 5=.int .i64 i)∧ζ=η∧c.take i=d.take i:=⟨_,fun _ _ _=>Iff.rfl⟩
  refine wpN_loop I c.length ((hI _ _ _).2 ⟨0,rfl,Nat.zero_le _,⟨rfl,rfl,rfl⟩,rfl,rfl⟩) ?_
  intro m φ ζ hi
  obtain⟨i,hm,hi,⟨p0,p1,p5⟩,rfl,ht⟩:=(hI _ _ _).1 hi
  by_cases hlt:i<c.length
  ·obtain⟨b1,cp1,q1,rfl,q2,q3,q4,-⟩:=ckB_at hy hlt
   obtain⟨b2,cp2,r1,rfl,r2,r3,r4,-⟩:=ckB_at hz (i:=i) (by omega)
   have sd:=stp6_dec c[i] d[i]
   have tk:c.take (i+1)=c.take i++[c[i]]:=List.take_succ_eq_append_getElem hlt
   have tk':d.take (i+1)=d.take i++[d[i]]:=List.take_succ_eq_append_getElem (by omega)
   by_cases e:c[i]=d[i]
   ·rw[decide_eq_true e]at sd
    simp -implicitDefEqProofs(disch:=omega)only[go_sem,p0,p1,p5,ly,lz,q2,q3,q4,r2,r3,r4,sd,Bool.not_true]
    exact⟨c.length-(i+1),by omega,(hI _ _ _).2 ⟨i+1,rfl,hlt,⟨by exact p0,by exact p1,rfl⟩,rfl,by rw[tk,tk',ht,e]⟩⟩
   ·rw[decide_eq_false e]at sd
    have ne:c≠d:=fun g=>e (by subst g;rfl)
    rw[decide_eq_false ne]at k
    simp -implicitDefEqProofs(disch:=omega)only[go_sem,p0,p1,p5,ly,lz,q2,q3,q4,r2,r3,r4,sd,Bool.not_false]
    exact k
  ·obtain rfl:i=c.length:=by omega
   rw[List.take_length,hl,List.take_length]at ht
   rw[decide_eq_true ht]at k
   simp -implicitDefEqProofs(disch:=omega)only[go_sem,p0,p1,p5,ly]
   exact k
 ·have ne:c≠d:=fun g=>hl (by rw[g])
  rw[decide_eq_false ne]at k
  simp -implicitDefEqProofs(disch:=omega)only[go_sem,ly,lz]
  exact k
theorem on_then (U:Usual nat) {η:HN} {y:AV} {c:List Stp} {s:S} {q:Bool} (hy:CkB η y c) (hc:c.length≤1099511627776) {Q:AV→HN→Prop} (k:∀y' η',CkB η' y' (stepK c s q)→ExtB η.nx η η'→Q y' η'):∃v' η',CallN Tryz.prog nat 101 [y,.str s.1 s.2,.bool q] η v' η'∧Q v' η':=by
 refine call_of (PT:=pl101) Tryz.func101 rfl (U 101 (by decide)) ok101 rfl ?_
 simp -implicitDefEqProofs(disch:=omega)only[go_sem]
 have o1:OwnA 2 η.nx (η.new (.live false [])) (.slice η.nx 0 0 (.kn 0)) 0 []:=⟨rfl,.inr ⟨η.nx,Nat.le_refl _,Nat.lt_succ_self _,.inl ⟨rfl,rfl,_,if_pos rfl⟩⟩⟩
 have E:ExtB η.nx η (η.new (.live false [])):=extN (.refl _ _)
 have q1:=rdR_A (hy.ext E).rd
 rw[List.length_map]at q1
 refine thenN_app (by decide) o1 q1 (by omega) (by show η.nx≤η.nx+1;omega) fun x2 η2 o2 e2=>?_
 have n2:η.nx+1≤η2.nx:=e2.1
 have E2:ExtB η.nx η η2:=E.trans e2
 simp -implicitDefEqProofs(disch:=omega)only[go_sem,repL_s,repL_z,setsL_c]
 have o3:OwnA 2 η.nx (η2.new (.live false [.str s.1 s.2,.bool q])) x2 (0+c.length) ([]++(c.map stc).flatten):=own_keep o2 (fun b _ hb=>if_neg (by omega)) (Nat.le_succ _)
 refine thenN_app (by decide) o3 (RdA.lits (s:=2) (n:=1) rfl) (by omega) (by show η.nx≤η2.nx+1;omega) fun x4 η4 o4 e4=>?_
 simp -implicitDefEqProofs(disch:=omega)only[go_sem]
 refine k _ _ (own_ckB (lo:=η.nx) ?_ (by unfold stepK;simp)) ((extN E2).trans e4)
 unfold stepK
 rw[List.length_append,List.map_append,List.map_cons,List.map_nil,flatten_snoc]
 rw[Nat.zero_add,List.nil_append]at o4
 exact o4
end Go.Proofs.YtdeejbnhlbddgaaGreatDoor
namespace Go.Plain
open Go.Eng
set_option autoImplicit false
theorem upL_len {n:Nd}:∀{k:Nat} {s:S} {d c:List Stp},upL n k s d=some c→d.length≤c.length
 |0,_,_,_,h=>by cases h
 |k+1,s,d,c,h=>by
  unfold upL at h
  split at h
  ·split at h
   ·cases h;exact Nat.le_refl _
   ·exact Nat.le_trans (Nat.le_succ _) (upL_len h)
  ·cases h;exact Nat.le_refl _
end Go.Plain
namespace Go.Proofs.YtdeejbnhlbddgaaGreatDoor
open Go.Eng Go.Plain
set_option autoImplicit false
set_option maxRecDepth 100000
variable {nat:∀ [Deep],Nats}
set_option maxHeartbeats 4000000 in
theorem clockOf_then (U:Usual nat) {η:HN} {n:Nd} {z:List AV} (r:rdN tt η n z) (ok:okN n) (s:S) {k0:Nat} {c:List Stp} (hu:upL n k0 s []=some c) (hc:c.length≤1073741824) {Q:AV→HN→Prop} (k:∀y η',CkB η' y c→ExtB η.nx η η'→Q y η'):∃v' η',CallN Tryz.prog nat 51 [.agg z,.str s.1 s.2] η v' η'∧Q v' η':=by
 refine call_of (PT:=pl51) Tryz.func51 rfl (U 51 (by decide)) ok51 rfl ?_
 have r':=r
 obtain⟨y1,y2,y3,y4,rfl,-⟩:=r'
 have hsn:sV n.nm=.str n.nm.1 n.nm.2:=rfl
 rw[hsn]at r
 have E:ExtB η.nx η (η.new (.live false [.str n.nm.1 n.nm.2,y1,y2,y3,y4,.int .i64 n.a])):=extN (.refl _ _)
 have c0:(η.new (.live false [.str n.nm.1 n.nm.2,y1,y2,y3,y4,.int .i64 n.a])).f η.nx=.live false [.str n.nm.1 n.nm.2,y1,y2,y3,y4,.int .i64 n.a]:=if_pos rfl
 have nn:(η.new (.live false [.str n.nm.1 n.nm.2,y1,y2,y3,y4,.int .i64 n.a])).nx=η.nx+1:=rfl
 simp -implicitDefEqProofs(disch:=omega)only[go_sem,hsn,c0]
 generalize η.new (.live false [.str n.nm.1 n.nm.2,y1,y2,y3,y4,.int .i64 n.a])=η1 at *
 refine thenN_call (find6_then U (rdN_ext r E) ok s fun η2 e2=>?_)
 have n2:=e2.1
 have hwc:∀w:Vr,w.cells=[.str w.nm.1 w.nm.2,.int .i64 w.kd,.str w.on.1 w.on.2,.bool w.nt,.int .i64 w.a]:=fun _=>rfl
 rw[hwc]
 generalize hw:(findV n s).getD zVr=w
 generalize hq:(findV n s).isSome=q
 simp -implicitDefEqProofs(disch:=omega)only[go_sem,repL_s,repL_z,setsL_c]
 have E3:ExtB η2.nx η2 (η2.new (.live false [.str w.nm.1 w.nm.2,.int .i64 w.kd,.str w.on.1 w.on.2,.bool w.nt,.int .i64 w.a])):=extN (.refl _ _)
 have c3:(η2.new (.live false [.str w.nm.1 w.nm.2,.int .i64 w.kd,.str w.on.1 w.on.2,.bool w.nt,.int .i64 w.a])).f η2.nx=.live false [.str w.nm.1 w.nm.2,.int .i64 w.kd,.str w.on.1 w.on.2,.bool w.nt,.int .i64 w.a]:=if_pos rfl
 have d0:=(E3.2 _ (by omega)).trans ((e2.2 _ (by omega)).trans c0)
 have n3:(η2.new (.live false [.str w.nm.1 w.nm.2,.int .i64 w.kd,.str w.on.1 w.on.2,.bool w.nt,.int .i64 w.a])).nx=η2.nx+1:=rfl
 have EE:=extT (extT E e2) E3
 generalize η2.new (.live false [.str w.nm.1 w.nm.2,.int .i64 w.kd,.str w.on.1 w.on.2,.bool w.nt,.int .i64 w.a])=η3 at *
 obtain⟨I,hI⟩:∃I:Nat→FN→HN→Prop,∀m φ ζ,I m φ ζ↔∃(s':S) (c':List Stp) (w:Vr) (q:Bool) (x:AV),(findV n s').getD zVr=w∧(findV n s').isSome=q∧(φ 2=.ptr η.nx 0∧φ 5=x∧φ 6=.ptr η2.nx 0∧φ 7=.bool q)∧ζ.f η2.nx=.live false [.str w.nm.1 w.nm.2,.int .i64 w.kd,.str w.on.1 w.on.2,.bool w.nt,.int .i64 w.a]∧ζ.f η.nx=.live false [.str n.nm.1 n.nm.2,y1,y2,y3,y4,.int .i64 n.a]∧CkB ζ x c'∧(∀b,blkIs x b→η2.nx<b)∧ExtB η.nx η ζ∧η2.nx<ζ.nx∧upL n m s' c'=some c:=⟨_,fun _ _ _=>Iff.rfl⟩
 refine wpN_loop I k0 ((hI _ _ _).2 ⟨s,[],w,q,.nilslice,hw,hq,⟨rfl,rfl,rfl,rfl⟩,c3,d0,.inl ⟨rfl,rfl⟩,fun _ h=>h.elim,EE,by omega,hu⟩) ?_
 clear c3 d0 EE hw hq
 intro m φ ζ hi
 obtain⟨s',c',w,q,x,hw,hq,⟨p2,p5,p6,p7⟩,c3,d0,ck,hx,EE,nz,hu⟩:=(hI _ _ _).1 hi
 obtain⟨m,rfl⟩:∃j,m=j+1:=by
  cases m with
  |zero=>cases hu
  |succ j=>exact⟨j,rfl⟩
 have hl:=upL_len hu
 have unf:upL n (m+1) s' c'=match findV n s' with|some v=>if v.on=(0,0) then some c' else upL n m v.on ((v.on,v.nt)::c')|none=>some c':=rfl
 rw[unf]at hu
 cases hf:findV n s' with
 |none =>
  rw[hf]at hu hq
  have hq:false=q:=hq
  subst hq
  have hu:some c'=some c:=hu
  obtain rfl:=Option.some.inj hu
  simp -implicitDefEqProofs(disch:=omega)only[go_sem,p2,p5,p6,p7,c3]
  exact k _ _ ck EE
 |some v =>
  rw[hf]at hu hq hw
  have hq:true=q:=hq
  subst hq
  have hw:v=w:=hw
  subst hw
  have hu:(if v.on=(0,0) then some c' else upL n m v.on ((v.on,v.nt)::c'))=some c:=hu
  have eo:strEq v.on.1 v.on.2 0 0=decide (v.on=(0,0)):=strEq_S v.on (0,0)
  by_cases on0:v.on=(0,0)
  ·rw[if_pos on0]at hu
   obtain rfl:=Option.some.inj hu
   rw[decide_eq_true on0]at eo
   simp -implicitDefEqProofs(disch:=omega)only[go_sem,p2,p5,p6,p7,c3,eo,Bool.not_true]
   exact k _ _ ck EE
  ·rw[if_neg on0]at hu
   rw[decide_eq_false on0]at eo
   simp -implicitDefEqProofs(disch:=omega)only[go_sem,p2,p5,p6,p7,c3,eo,Bool.not_false,repL_s,repL_z,setsL_c]
   have EN:ExtB ζ.nx ζ (ζ.new (.live false [.str v.on.1 v.on.2,.bool v.nt])):=extN (.refl _ _)
   obtain⟨x',ζ',ea,ck',Ea,hb'⟩:=cons_app (by omega) (ck.ext EN) (s:=v.on) (q:=v.nt) (zb:=ζ.nx) (if_pos rfl) (Nat.lt_succ_self _)
   have EA:=extT EN Ea
   have na:=EA.1
   have nE:=EN.1
   have f3:=(EA.2 _ nz).trans c3
   have f0:=(EA.2 _ (show η.nx<ζ.nx by omega)).trans d0
   have hx':∀b,blkIs x' b→η2.nx<b:=fun b hb=>by
    rcases hb' b hb with e|e
    ·omega
    ·rw[e];show η2.nx<ζ.nx+1;omega
   rw[ea]
   simp -implicitDefEqProofs(disch:=omega)only[go_sem,p2,p5,p6,p7,f3,f0]
   refine thenN_call (find6_then U (rdN_ext r (extT EE EA)) ok v.on fun η5 e5=>?_)
   have n5:=e5.1
   have g3:=(e5.2 _ (by omega)).trans f3
   have g0:=(e5.2 _ (by omega)).trans f0
   rw[hwc]
   generalize hw5:(findV n v.on).getD zVr=w5
   generalize hq5:(findV n v.on).isSome=q5
   simp -implicitDefEqProofs(disch:=omega)only[go_sem,p2,p5,p6,p7,g3,repL_s,repL_z,setsL_c]
   have keep:∀b,b<η5.nx→b≠η2.nx→(η5.put η2.nx (.live false [.str w5.nm.1 w5.nm.2,.int .i64 w5.kd,.str w5.on.1 w5.on.2,.bool w5.nt,.int .i64 w5.a])).f b=η5.f b:=fun b _ hb=>if_neg hb
   have ck5:=ck'.ext e5
   refine⟨m,Nat.lt_succ_self _,(hI _ _ _).2 ⟨v.on,(v.on,v.nt)::c',w5,q5,x',hw5,hq5,⟨by exact p2,rfl,by exact p6,rfl⟩,if_pos rfl,(if_neg (by omega)).trans g0,?_,hx',extP (extT (extT EE EA) e5) (by omega),by show η2.nx<η5.nx;omega,hu⟩⟩
   rcases ck5 with h|⟨b,cp,h1,rfl,h3⟩
   ·exact .inl h
   ·exact .inr ⟨b,cp,h1,rfl,(if_neg (by have:=hx' b rfl;omega)).trans h3⟩
end Go.Proofs.YtdeejbnhlbddgaaGreatDoor
namespace Go.Plain
open Go.Eng
set_option autoImplicit false
theorem cell_at {row l:List AV} {o s:Nat} (h:(row.drop o).take s=l) (j:Nat) (hj:j<s):row.getD (o+j) und=l.getD j und:=by
 rw[←h,List.getD_eq_getElem?_getD,List.getD_eq_getElem?_getD,List.getElem?_take,if_pos hj,List.getElem?_drop]
theorem cell_0 {row l:List AV} {o s:Nat} (h:(row.drop o).take s=l) (hj:0<s):row.getD o und=l.getD 0 und:=cell_at h 0 hj
theorem any_drop {α:Type} {p:α→Bool} {l:List α} {i:Nat} (h:i<l.length):(l.drop i).any p=if p l[i] then true else(l.drop (i+1)).any p:=by
 rw[List.drop_eq_getElem_cons h,List.any_cons]
 cases p l[i]<;>rfl
end Go.Plain
namespace Go.Proofs.YtdeejbnhlbddgaaGreatDoor
open Go.Eng Go.Plain
set_option autoImplicit false
set_option maxRecDepth 100000
variable {nat:∀ [Deep],Nats}
theorem nodeOf_then (U:Usual nat) {η:HN} {v:AV} {l:List Nd} {ls:List (List AV)} (rv:RdR 6 η v ls) (rl:rdNs tt η l ls) (hl:l.length≤64) (s:S) {Q:AV→HN→Prop} (k:Q (.int .i64 (encO (ixL (fun d=>decide (d.nm=s)) l 0))) η):∃v' η',CallN Tryz.prog nat 58 [v,.str s.1 s.2] η v' η'∧Q v' η':=by
 obtain⟨lsl,ls6⟩:=rdNs_len rl
 refine call_of (PT:=pl58) Tryz.func58 rfl (U 58 (by decide)) ok58 rfl ?_
 have ln:=fun η' e w=>row_len (η':=η') rv lsl (by omega) e w
 simp -implicitDefEqProofs(disch:=omega)only[go_sem]
 generalize hp:(fun d:Nd=>decide (d.nm=s))=p at *
 obtain⟨I,hI⟩:∃I:Nat→FN→HN→Prop,∀m φ ζ,I m φ ζ↔∃i,m=l.length-i∧i≤l.length∧(φ 0=v∧φ 1=.str s.1 s.2∧φ 5=.int .i64 i)∧ζ=η∧ixL p (l.drop i) i=ixL p l 0:=⟨_,fun _ _ _=>Iff.rfl⟩
 refine wpN_loop I l.length ((hI _ _ _).2 ⟨0,rfl,Nat.zero_le _,⟨rfl,rfl,rfl⟩,rfl,rfl⟩) ?_
 intro m φ ζ hi
 obtain⟨i,hm,hi,⟨p0,p1,p5⟩,rfl,ed⟩:=(hI _ _ _).1 hi
 by_cases hlt:i<l.length
 ·obtain⟨hi',ri⟩:=rdNs_at rl i hlt
  obtain⟨b,off,cap,ro,row,rfl,hbv,hbn,hlen,hrow⟩:=rv.at hi'
  rw[ixL_drop hlt]at ed
  generalize l[i]=d at *
  obtain⟨y1,y2,y3,y4,ez,-⟩:=ri
  rw[ez]at hrow
  have g0:row.getD (off+i*6) und=.str d.nm.1 d.nm.2:=(cell_0 hrow (by decide)).trans rfl
  have es:=strEq_S d.nm s
  have ep:p d=decide (d.nm=s):=by rw[←hp]
  by_cases e:d.nm=s
  ·rw[decide_eq_true e]at es ep
   rw[ep,if_pos rfl]at ed
   rw[←ed]at k
   have ew:encO (some i)=i:=rfl
   rw[ew]at k
   simp -implicitDefEqProofs(disch:=omega)only[go_sem,p0,p1,p5,ln,hbv,g0,es]
   exact k
  ·rw[decide_eq_false e]at es ep
   rw[ep,if_neg (by decide)]at ed
   simp -implicitDefEqProofs(disch:=omega)only[go_sem,p0,p1,p5,ln,hbv,g0,es]
   exact⟨l.length-(i+1),by omega,(hI _ _ _).2 ⟨i+1,rfl,hlt,⟨by exact p0,by exact p1,rfl⟩,rfl,ed⟩⟩
 ·obtain rfl:i=l.length:=by omega
  rw[List.drop_length]at ed
  have ed:none=ixL p l 0:=ed
  rw[←ed]at k
  have ew:encO none=18446744073709551615:=rfl
  rw[ew]at k
  simp -implicitDefEqProofs(disch:=omega)only[go_sem,p0,p1,p5,ln]
  exact k
theorem input_then (U:Usual nat) {η:HN} {n:Nd} {z:List AV} (r:rdN tt η n z) (ok:okN n) (s:S) {Q:AV→HN→Prop} (k:∀η',ExtB η.nx η η'→Q (.bool (n.ins.any fun v=>decide (v.nm=s))) η'):∃v' η',CallN Tryz.prog nat 73 [.agg z,.str s.1 s.2] η v' η'∧Q v' η':=by
 obtain⟨y1,y2,y3,y4,rfl,-,r1,-⟩:=r
 have hl:=ok.2.1.1
 refine call_of (PT:=pl73) Tryz.func73 rfl (U 73 (by decide)) ok73 rfl ?_
 have hsn:sV n.nm=.str n.nm.1 n.nm.2:=rfl
 have ln:=fun η' e w=>row_len (η':=η') r1 (vrs_len _) (by omega) e w
 have E:ExtB η.nx η (η.new (.live false [.str n.nm.1 n.nm.2,y1,y2,y3,y4,.int .i64 n.a])):=extN (.refl _ _)
 have c0:(η.new (.live false [.str n.nm.1 n.nm.2,y1,y2,y3,y4,.int .i64 n.a])).f η.nx=.live false [.str n.nm.1 n.nm.2,y1,y2,y3,y4,.int .i64 n.a]:=if_pos rfl
 simp -implicitDefEqProofs(disch:=omega)only[go_sem,hsn]
 generalize η.new (.live false [.str n.nm.1 n.nm.2,y1,y2,y3,y4,.int .i64 n.a])=η1 at *
 generalize hp:(fun v:Vr=>decide (v.nm=s))=p at *
 generalize n.ins=V at *
 obtain⟨I,hI⟩:∃I:Nat→FN→HN→Prop,∀m φ ζ,I m φ ζ↔∃i,m=V.length-i∧i≤V.length∧(φ 1=.str s.1 s.2∧φ 2=.ptr η.nx 0∧φ 5=.int .i64 i)∧ζ=η1∧(V.drop i).any p=V.any p:=⟨_,fun _ _ _=>Iff.rfl⟩
 refine wpN_loop I V.length ((hI _ _ _).2 ⟨0,rfl,Nat.zero_le _,⟨rfl,rfl,rfl⟩,rfl,rfl⟩) ?_
 intro m φ ζ hi
 obtain⟨i,hm,hi,⟨p1,p2,p5⟩,rfl,ed⟩:=(hI _ _ _).1 hi
 by_cases hlt:i<V.length
 ·obtain⟨b,off,cap,ro,row,rfl,hbv,hbn,hlen,hrow⟩:=vr_at r1 hlt
  have hbz:ζ.f b=_:=(E.2 _ hbn).trans hbv
  rw[any_drop hlt]at ed
  generalize V[i]=w at *
  have g0:row.getD (off+i*5) und=.str w.nm.1 w.nm.2:=(cell_0 hrow (by decide)).trans rfl
  have es:=strEq_S w.nm s
  have ep:p w=decide (w.nm=s):=by rw[←hp]
  by_cases e:w.nm=s
  ·rw[decide_eq_true e]at es ep
   rw[ep,if_pos rfl]at ed
   rw[←ed]at k
   simp -implicitDefEqProofs(disch:=omega)only[go_sem,p1,p2,p5,c0,ln,hbz,g0,es]
   exact k _ E
  ·rw[decide_eq_false e]at es ep
   rw[ep,if_neg (by decide)]at ed
   simp -implicitDefEqProofs(disch:=omega)only[go_sem,p1,p2,p5,c0,ln,hbz,g0,es]
   exact⟨V.length-(i+1),by omega,(hI _ _ _).2 ⟨i+1,rfl,hlt,⟨by exact p1,by exact p2,rfl⟩,rfl,ed⟩⟩
 ·obtain rfl:i=V.length:=by omega
  rw[List.drop_length]at ed
  have ed:false=V.any p:=ed
  rw[←ed]at k
  simp -implicitDefEqProofs(disch:=omega)only[go_sem,p1,p2,p5,c0,ln]
  exact k _ E
theorem eqOf_then (U:Usual nat) {η:HN} {n:Nd} {z:List AV} (r:rdN tt η n z) (ok:okN n) (s:S) {Q:AV→HN→Prop} (k:∀η' zq,zq.length=7→ExtB η.nx η η'→Q (.tup [.agg zq,.bool (n.eqs.any fun q=>decide (q.nm=s))]) η'):∃v' η',CallN Tryz.prog nat 75 [.agg z,.str s.1 s.2] η v' η'∧Q v' η':=by
 obtain⟨y1,y2,y3,y4,rfl,-,-,-,-,qs,r4,r5⟩:=r
 have hl:=ok.2.2.2.2.1
 have lq:=(rdQs_len r5).1
 refine call_of (PT:=pl75) Tryz.func75 rfl (U 75 (by decide)) ok75 rfl ?_
 have hsn:sV n.nm=.str n.nm.1 n.nm.2:=rfl
 have ln:=fun η' e w=>row_len (η':=η') r4 lq (by omega) e w
 have E:ExtB η.nx η ((η.new (.live false [.str n.nm.1 n.nm.2,y1,y2,y3,y4,.int .i64 n.a])).new (.live false [.str 0 0,.str 0 0,.str 0 0,.int .i64 0,.int .i64 0,.nilslice,.int .i64 0])):=extN (extN (.refl _ _))
 have c0:((η.new (.live false [.str n.nm.1 n.nm.2,y1,y2,y3,y4,.int .i64 n.a])).new (.live false [.str 0 0,.str 0 0,.str 0 0,.int .i64 0,.int .i64 0,.nilslice,.int .i64 0])).f η.nx=.live false [.str n.nm.1 n.nm.2,y1,y2,y3,y4,.int .i64 n.a]:=(if_neg (by show¬η.nx=η.nx+1;omega)).trans (if_pos rfl)
 have c1:((η.new (.live false [.str n.nm.1 n.nm.2,y1,y2,y3,y4,.int .i64 n.a])).new (.live false [.str 0 0,.str 0 0,.str 0 0,.int .i64 0,.int .i64 0,.nilslice,.int .i64 0])).f (η.nx+1)=.live false [.str 0 0,.str 0 0,.str 0 0,.int .i64 0,.int .i64 0,.nilslice,.int .i64 0]:=if_pos rfl
 simp -implicitDefEqProofs(disch:=omega)only[go_sem,hsn]
 generalize (η.new (.live false [.str n.nm.1 n.nm.2,y1,y2,y3,y4,.int .i64 n.a])).new (.live false [.str 0 0,.str 0 0,.str 0 0,.int .i64 0,.int .i64 0,.nilslice,.int .i64 0])=η1 at *
 generalize hp:(fun q:Eqn=>decide (q.nm=s))=p at *
 generalize n.eqs=V at *
 obtain⟨I,hI⟩:∃I:Nat→FN→HN→Prop,∀m φ ζ,I m φ ζ↔∃i,m=V.length-i∧i≤V.length∧(φ 1=.str s.1 s.2∧φ 2=.ptr η.nx 0∧φ 4=.ptr (η.nx+1) 0∧φ 6=.int .i64 i)∧ζ=η1∧(V.drop i).any p=V.any p:=⟨_,fun _ _ _=>Iff.rfl⟩
 refine wpN_loop I V.length ((hI _ _ _).2 ⟨0,rfl,Nat.zero_le _,⟨rfl,rfl,rfl,rfl⟩,rfl,rfl⟩) ?_
 intro m φ ζ hi
 obtain⟨i,hm,hi,⟨p1,p2,p4,p6⟩,rfl,ed⟩:=(hI _ _ _).1 hi
 by_cases hlt:i<V.length
 ·obtain⟨hi',ri⟩:=rdQs_at r5 i hlt
  obtain⟨b,off,cap,ro,row,rfl,hbv,hbn,hlen,hrow⟩:=r4.at hi'
  have hbz:ζ.f b=_:=(E.2 _ hbn).trans hbv
  rw[any_drop hlt]at ed
  generalize V[i]=w at *
  obtain⟨ze,eze,re⟩:=ri
  obtain⟨f1,f2,f3,f4,f5,rfl⟩:=rdE_cells re
  rw[eze]at hrow
  have hrow:(row.drop (off+i*7)).take 7=[.str w.nm.1 w.nm.2,.str f1.1 f1.2,.str f2.1 f2.2,.int .i64 f3,.int .i64 f4,f5,.int .i64 w.a]:=hrow
  have g0:row.getD (off+i*7) und=.str w.nm.1 w.nm.2:=(cell_0 hrow (by decide)).trans rfl
  have es:=strEq_S w.nm s
  have ep:p w=decide (w.nm=s):=by rw[←hp]
  by_cases e:w.nm=s
  ·rw[decide_eq_true e]at es ep
   rw[ep,if_pos rfl]at ed
   rw[←ed]at k
   simp -implicitDefEqProofs(disch:=omega)only[go_sem,p1,p2,p4,p6,c0,c1,ln,hbz,g0,es,hrow,repL_s,repL_z,setsL_c]
   exact k _ _ rfl (extP E (by omega))
  ·rw[decide_eq_false e]at es ep
   rw[ep,if_neg (by decide)]at ed
   simp -implicitDefEqProofs(disch:=omega)only[go_sem,p1,p2,p4,p6,c0,c1,ln,hbz,g0,es]
   exact⟨V.length-(i+1),by omega,(hI _ _ _).2 ⟨i+1,rfl,hlt,⟨by exact p1,by exact p2,by exact p4,rfl⟩,rfl,ed⟩⟩
 ·obtain rfl:i=V.length:=by omega
  rw[List.drop_length]at ed
  have ed:false=V.any p:=ed
  rw[←ed]at k
  simp -implicitDefEqProofs(disch:=omega)only[go_sem,p1,p2,p4,p6,c0,c1,ln,repL_s,repL_z,setsL_c]
  exact k _ _ rfl (extP E (by omega))
end Go.Proofs.YtdeejbnhlbddgaaGreatDoor
namespace Go.Proofs.YtdeejbnhlbddgaaGreatDoor
open Go.Eng Go.Plain
set_option autoImplicit false
set_option maxRecDepth 100000
variable {nat:∀ [Deep],Nats}
end Go.Proofs.YtdeejbnhlbddgaaGreatDoor
namespace Go.Proofs.YtdeejbnhlbddgaaGreatDoor
open Go.Eng Go.Plain
set_option autoImplicit false
set_option maxRecDepth 100000
variable {nat:∀ [Deep],Nats}
end Go.Proofs.YtdeejbnhlbddgaaGreatDoor
namespace Go.Proofs.YtdeejbnhlbddgaaGreatDoor
open Go.Eng Go.Plain
set_option autoImplicit false
set_option maxRecDepth 100000
variable {nat:∀ [Deep],Nats}
end Go.Proofs.YtdeejbnhlbddgaaGreatDoor
