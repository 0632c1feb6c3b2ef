/- What is proved: what the leaves of the program's kinds do. Conditions: as each theorem says. -/
import Derived.Test.YtpjmiopplfmcfaaRefE
import Derived.Test.YtpjmiopplfmcfaaFactsT
import Derived.Test.YtpjmiopplfmcfaaNameT
set_option linter.unusedVariables false
set_option linter.unusedSimpArgs false
set_option linter.unusedSectionVars false
namespace Go.Proofs.Ytpjmiopplfmcfaa
open Go.Eng Go.Plain
set_option autoImplicit false
set_option maxRecDepth 100000
variable {nat:∀ [Deep],Nats}
theorem typNamed_then (U:Usual nat) {η:HN} {tb:Nat} {n:Nd} {v y1 y2 y3 y4 wr:AV} (hb:η.f tb = .live false [v,.str n.nm.1 n.nm.2,y1,y2,y3,y4,.int .i64 n.a,wr]) (hn:tb < η.nx) (rz:rdN tt η n [.str n.nm.1 n.nm.2,y1,y2,y3,y4,.int .i64 n.a]) (okn:okN n) (s:S) {Q:AV → HN → Prop}
  (k:∀ η',ExtB η.nx η η' → Q (.int .i64 (kdOf n s)) η'):∃ v' η',CallN Try.prog nat 118 [.ptr tb 0,.str s.1 s.2] η v' η' ∧ Q v' η':=by
 refine call_of (PT:=pl118) Try.func118 rfl (U 118 (by decide)) ok118 rfl ?_
 simp -implicitDefEqProofs (disch:=omega) only [go_sem,hb]
 refine thenN_call (find_then U rz okn s fun η2 E2=>?_)
 have hkd:kdOf n s = ((findV n s).getD zVr).kd:=rfl
 rw [hkd] at k
 have hwc:∀ w:Vr,w.cells = [.str w.nm.1 w.nm.2,.int .i64 w.kd,.str w.on.1 w.on.2,.bool w.nt,.int .i64 w.a]:=fun _=>rfl
 rw [hwc]
 generalize (findV n s).getD zVr = u at *
 have c3:(η2.new (.live false [.str u.nm.1 u.nm.2,.int .i64 u.kd,.str u.on.1 u.on.2,.bool u.nt,.int .i64 u.a])).f η2.nx = .live false [.str u.nm.1 u.nm.2,.int .i64 u.kd,.str u.on.1 u.on.2,.bool u.nt,.int .i64 u.a]:=if_pos rfl
 simp -implicitDefEqProofs (disch:=omega) only [go_sem,repL_s,repL_z,setsL_c,c3]
 exact k _ (extN E2)
theorem typBoth_then (U:Usual nat) {η:HN} {b a c w t:Nat} (hb:η.f b = .live false [.int .i64 a,.int .i64 c]) {Q:AV → HN → Prop} (k:Q (.int .i64 (if a = w ∧ c = w then t else 0)) η):∃ v' η',CallN Try.prog nat 134 [.slice b 0 2 (.un 1),.int .i64 w,.int .i64 t] η v' η' ∧ Q v' η':=by
 refine call_of (PT:=pl134) Try.func134 rfl (U 134 (by decide)) ok134 rfl ?_
 by_cases h1:a = w
 ·by_cases h2:c = w
  ·rw [if_pos ⟨h1,h2⟩] at k
   have d1:decide (a = w) = true:=decide_eq_true h1
   have d2:decide (c = w) = true:=decide_eq_true h2
   simp -implicitDefEqProofs (disch:=omega) only [go_sem,hb,d1,d2]
   exact k
  ·rw [if_neg (fun g=>h2 g.2)] at k
   have d1:decide (a = w) = true:=decide_eq_true h1
   have d2:decide (c = w) = false:=decide_eq_false h2
   simp -implicitDefEqProofs (disch:=omega) only [go_sem,hb,d1,d2]
   exact k
 ·rw [if_neg (fun g=>h1 g.1)] at k
  have d1:decide (a = w) = false:=decide_eq_false h1
  simp -implicitDefEqProofs (disch:=omega) only [go_sem,hb,d1]
  exact k
theorem typAlike1_then (U:Usual nat) {η:HN} {cb b a c q:Nat} (hc:η.f cb = .live false [.slice b 0 2 (.un 1)]) (hb:η.f b = .live false [.int .i64 a,.int .i64 c]) {Q:AV → HN → Prop} (k:Q (.bool (!decide (q = a))) η):∃ v' η',CallN Try.prog nat 148 [.int .i64 q,.ptr cb 0] η v' η' ∧ Q v' η':=by
 refine call_of (PT:=pl148) Try.func148 rfl (U 148 (by decide)) ok148 rfl ?_
 simp -implicitDefEqProofs (disch:=omega) only [go_sem,hc,hb]
 exact k
theorem clt_m1K:ltN .i64 18446744073709551615 0 = true:=rfl
theorem kdIx_then (U:Usual nat) {η:HN} {cb b a c:Nat} (hc:η.f cb = .live false [.slice b 0 2 (.un 1)]) (hb:η.f b = .live false [.int .i64 a,.int .i64 c]) {Q:AV → HN → Prop} (k:Q (.int .i64 (if c = a then 18446744073709551615 else 1)) η):∃ v' η',CallN Try.prog nat 150 [.slice b 0 2 (.un 1),.func 148 [] [.ptr cb 0]] η v' η' ∧ Q v' η':=by
 refine call_of (PT:=pl150) Try.func150 rfl (U 150 (by decide)) ok150 rfl ?_
 simp -implicitDefEqProofs (disch:=omega) only [go_sem]
 obtain ⟨I,hI⟩:∃ I:Nat → FN → HN → Prop,∀ m φ ζ,I m φ ζ ↔ ∃ i,m = 2 - i ∧ i ≤ 2 ∧ (φ 0 = .slice b 0 2 (.un 1) ∧ φ 1 = .func 148 [] [.ptr cb 0] ∧ φ 7 = .int .i64 2 ∧ φ 8 = .int .i64 i) ∧ ζ = η ∧ (i = 2 → c = a):=⟨_,fun _ _ _=>Iff.rfl⟩
 refine wpN_loop I 2 ((hI _ _ _).2 ⟨0,rfl,Nat.zero_le _,⟨rfl,rfl,rfl,rfl⟩,rfl,fun h=>by cases h⟩) ?_
 intro m φ ζ hi
 obtain ⟨i,hm,hi,⟨p0,p1,p7,p8⟩,rfl,hca⟩:=(hI _ _ _).1 hi
 by_cases i0:i = 0
 ·subst i0
  simp -implicitDefEqProofs (disch:=omega) only [go_sem,p0,p1,p7,p8,hb]
  refine thenN_call (typAlike1_then U hc hb ?_)
  have d:decide (a = a) = true:=decide_eq_true rfl
  rw [d]
  simp -implicitDefEqProofs (disch:=omega) only [go_sem,p0,p1,p7,p8,Bool.not_true]
  exact ⟨1,by omega,(hI _ _ _).2 ⟨1,rfl,by decide,⟨by exact p0,by exact p1,by exact p7,rfl⟩,rfl,fun h=>by cases h⟩⟩
 by_cases i1:i = 1
 ·subst i1
  simp -implicitDefEqProofs (disch:=omega) only [go_sem,p0,p1,p7,p8,hb]
  refine thenN_call (typAlike1_then U hc hb ?_)
  by_cases g:c = a
  ·rw [decide_eq_true g]
   simp -implicitDefEqProofs (disch:=omega) only [go_sem,p0,p1,p7,p8,Bool.not_true]
   exact ⟨0,by omega,(hI _ _ _).2 ⟨2,rfl,Nat.le_refl _,⟨by exact p0,by exact p1,by exact p7,rfl⟩,rfl,fun _=>g⟩⟩
  ·rw [if_neg g] at k
   rw [decide_eq_false g]
   simp -implicitDefEqProofs (disch:=omega) only [go_sem,p0,p1,p7,p8,Bool.not_false]
   exact k
 obtain rfl:i = 2:=by omega
 rw [if_pos (hca rfl)] at k
 simp -implicitDefEqProofs (disch:=omega) only [go_sem,p0,p1,p7,p8]
 exact k
theorem kdContains_then (U:Usual nat) {η:HN} {cb b a c:Nat} (hc:η.f cb = .live false [.slice b 0 2 (.un 1)]) (hb:η.f b = .live false [.int .i64 a,.int .i64 c]) {Q:AV → HN → Prop} (k:Q (.bool (!decide (c = a))) η):∃ v' η',CallN Try.prog nat 147 [.slice b 0 2 (.un 1),.func 148 [] [.ptr cb 0]] η v' η' ∧ Q v' η':=by
 refine call_of (PT:=pl147) Try.func147 rfl (U 147 (by decide)) ok147 rfl ?_
 simp -implicitDefEqProofs (disch:=omega) only [go_sem]
 refine thenN_call (kdIx_then U hc hb ?_)
 by_cases g:c = a
 ·rw [if_pos g]
  rw [decide_eq_true g] at k
  simp -implicitDefEqProofs (disch:=omega) only [go_sem,clt_m1K]
  exact k
 ·rw [if_neg g]
  rw [decide_eq_false g] at k
  simp -implicitDefEqProofs (disch:=omega) only [go_sem]
  exact k
theorem typAlike_then (U:Usual nat) {η:HN} {b a c:Nat} (hb:η.f b = .live false [.int .i64 a,.int .i64 c]) (hn:b < η.nx) {Q:AV → HN → Prop} (k:∀ η',ExtB η.nx η η' → Q (.bool (decide (c = a))) η'):∃ v' η',CallN Try.prog nat 135 [.slice b 0 2 (.un 1),.int .i64 2] η v' η' ∧ Q v' η':=by
 refine call_of (PT:=pl135) Try.func135 rfl (U 135 (by decide)) ok135 rfl ?_
 have E:ExtB η.nx η (η.new (.live false [.slice b 0 2 (.un 1)])):=extN (.refl _ _)
 have c0:(η.new (.live false [.slice b 0 2 (.un 1)])).f η.nx = .live false [.slice b 0 2 (.un 1)]:=if_pos rfl
 have hb':=(E.2 b hn).trans hb
 simp -implicitDefEqProofs (disch:=omega) only [go_sem,c0]
 refine thenN_call (kdContains_then U c0 hb' ?_)
 cases h:decide (c = a) with
 | true =>
  rw [h] at k
  simp -implicitDefEqProofs (disch:=omega) only [go_sem,Bool.not_true,Bool.not_false]
  exact k _ E
 | false =>
  rw [h] at k
  simp -implicitDefEqProofs (disch:=omega) only [go_sem,Bool.not_true,Bool.not_false]
  exact k _ E
set_option maxHeartbeats 4000000 in
theorem typCall_then (U:Usual nat) {η:HN} {tb:Nat} {v wr x:AV} {h:List Nd} {zn:List AV} (c:ChkAt η tb v h zn wr) {op nm:S} {N a:Nat} {y:AV} {K:List Nat} {lo:Nat} (rk:RowA lo η x (kdc K)) (hK:K.length ≤ 1073741824) (hc:callOk h nm K.length = true) {Q:AV → HN → Prop}
  (k:∀ η',ExtB η.nx η η' → Q (.int .i64 (callT h nm K)) η'):∃ v' η',CallN Try.prog nat 136 [.ptr tb 0,.agg [.str op.1 op.2,.str nm.1 nm.2,.int .i64 N,.int .i64 a,y],x] η v' η' ∧ Q v' η':=by
 obtain ⟨s,y1,y2,y3,y4,an,rfl,hb⟩:=c.hb
 obtain ⟨lv,rv,rl⟩:=c.hv
 have hcn:=c.hn
 obtain ⟨hl,hok⟩:=c.hl
 refine call_of (PT:=pl136) Try.func136 rfl (U 136 (by decide)) ok136 rfl ?_
 simp -implicitDefEqProofs (disch:=omega) only [go_sem,hb]
 have E:ExtB η.nx η (η.new (.live false [.str op.1 op.2,.str nm.1 nm.2,.int .i64 N,.int .i64 a,y])):=extN (.refl _ _)
 refine dE_call (node_then U hl (rv.ext (base:=0) E) (rdNs_keep (keep_b E) E.1 (fun _ h=>h) rl) nm fun η2 x2=>?_)
 have E2:=extT E x2
 have hb2:η2.f tb = _:=(E2.2 tb hcn).trans hb
 have c2:η2.f η.nx = _:=(x2.2 _ (Nat.lt_succ_self _)).trans (if_pos rfl)
 have fd:=ixL_find (fun n:Nd=>decide (n.nm = nm)) h 0
 unfold callOk at hc
 cases e:ixL (fun n:Nd=>decide (n.nm = nm)) h 0 with
 | none =>
  rw [e] at fd
  have fd:none = h.find? (fun n:Nd=>decide (n.nm = nm)):=fd
  rw [← fd] at hc
  cases hc
 | some j =>
  obtain ⟨_,hj,_⟩:=ixL_lt e
  have ee:encO (some j) = j:=rfl
  have hj:j < h.length:=by omega
  rw [e] at fd
  have fd:h[j - 0]? = h.find? (fun n:Nd=>decide (n.nm = nm)):=fd
  rw [Nat.sub_zero,List.getElem?_eq_getElem hj] at fd
  rw [← fd] at hc
  have hc:=of_decide_eq_true hc
  obtain ⟨hj',rj⟩:=rdNs_at rl j hj
  obtain ⟨bv,off,cap,ro,row,rfl,hbv,hbn,hlen,hrow⟩:=rv.at hj'
  have okd:=hok _ (List.getElem_mem hj)
  have ec:callT h nm K = if h[j].outs.length = 1 ∧ h[j].ins.length = K.length then (if insOk h[j].ins K then outKd h[j] else 0) else 0:=by unfold callT; rw [← fd]
  rw [ec,if_pos hc] at k
  generalize h[j] = d at *
  generalize lv[j] = zd at *
  obtain ⟨x1',x2',x3',x4',ez,-,r1,r2,-⟩:=rj
  have hdn:sV d.nm = .str d.nm.1 d.nm.2:=rfl
  rw [ez,hdn] at hrow
  have hbz:η.f bv = _:=hbv
  have hbz2:η2.f bv = _:=(E2.2 bv hbn).trans hbv
  have g1:row.getD (off + j * 6 + 1) und = x1':=(cell_at hrow 1 (by decide)).trans rfl
  have g2:row.getD (off + j * 6 + 2) und = x2':=(cell_at hrow 2 (by decide)).trans rfl
  have o1:=okd.2.1.1
  have o2:=okd.2.2.1.1
  have l1:=fun η' e w=>row_len (η':=η') r1 (n:=d.ins.length) (vrs_len _) (by omega) e w
  have l2:=fun η' e w=>row_len (η':=η') r2 (n:=d.outs.length) (vrs_len _) (by omega) e w
  have lk:=fun η' e w=>row_len (η':=η') rk.rd (n:=K.length) (by rw [List.length_map]; exact List.length_map ..) (by omega) e w
  obtain ⟨w1,w2⟩:=hc
  rw [w2] at l1
  rw [w1] at l2
  simp -implicitDefEqProofs (disch:=omega) only [go_sem,hb,hb2,c2,ee,hbz,hbz2,g1,g2,l1,l2,lk]
  obtain ⟨J,hJ⟩:∃ J:Nat → FN → HN → Prop,∀ m φ ζ,J m φ ζ ↔ ∃ i,m = K.length - i ∧ i ≤ K.length ∧ (φ 0 = .ptr tb 0 ∧ φ 2 = x ∧ φ 7 = .int .i64 j ∧ φ 52 = x1' ∧ φ 53 = .int .i64 K.length ∧ φ 54 = .int .i64 i) ∧ ExtB η2.nx η2 ζ ∧ insOk (d.ins.drop i) (K.drop i) = insOk d.ins K:=⟨_,fun _ _ _=>Iff.rfl⟩
  refine wpN_loop J K.length ((hJ _ _ _).2 ⟨0,rfl,Nat.zero_le _,⟨rfl,rfl,rfl,rfl,rfl,rfl⟩,.refl _ _,rfl⟩) ?_
  intro m φ ζ hi
  obtain ⟨i,hm,hi,⟨p0,p2,p7,p52,p53,p54⟩,EX,et⟩:=(hJ _ _ _).1 hi
  have nE:=E2.1
  have nX:=EX.1
  have EE:=extT E2 EX
  by_cases hlt:i < K.length
  ·obtain ⟨bx,h1',h2',rfl,h3',hbx⟩:=rk.resolve_left (fun g=>by have:=congrArg List.length g.2; rw [show (kdc K).length = K.length from List.length_map ..] at this; have:K.length = 0:=this; omega)
   have dx:ζ.f bx = _:=(EE.2 _ h2').trans hbx
   obtain ⟨bi,offi,capi,roi,rowi,rfl,hbi,hbin,hcelli⟩:=vrs_row r1 (by omega)
   obtain ⟨ci1,ci2⟩:=hcelli i (by omega)
   have bi1:ζ.f bi = _:=(EE.2 _ hbin).trans hbi
   have gk:(kdc K).getD i und = .int .i64 K[i]:=by
    unfold kdc
    rw [List.getD_eq_getElem?_getD,List.getElem?_map,List.getElem?_eq_getElem hlt]; rfl
   have gl:(kdc K).length = K.length:=List.length_map ..
   have ed:insOk (d.ins.drop i) (K.drop i) = (decide (d.ins[i].kd = K[i]) && insOk (d.ins.drop (i + 1)) (K.drop (i + 1))):=by
    rw [List.drop_eq_getElem_cons (by omega:i < d.ins.length),List.drop_eq_getElem_cons hlt]; rfl
   rw [ed] at et
   generalize d.ins[i] = w at *
   generalize K[i] = q at *
   have EN:ExtB ζ.nx ζ (ζ.new (.live false [.str w.nm.1 w.nm.2,.int .i64 w.kd,.str w.on.1 w.on.2,.bool w.nt,.int .i64 w.a])):=extN (.refl _ _)
   have cN:(ζ.new (.live false [.str w.nm.1 w.nm.2,.int .i64 w.kd,.str w.on.1 w.on.2,.bool w.nt,.int .i64 w.a])).f ζ.nx = .live false [.str w.nm.1 w.nm.2,.int .i64 w.kd,.str w.on.1 w.on.2,.bool w.nt,.int .i64 w.a]:=if_pos rfl
   have dN:=(EN.2 _ (by omega)).trans dx
   by_cases g:w.kd = q
   ·rw [decide_eq_true g,Bool.true_and] at et
    have dg:decide (w.kd = q) = true:=decide_eq_true g
    simp -implicitDefEqProofs (disch:=omega) only [go_sem,p0,p2,p7,p52,p53,p54,bi1,ci2,repL_s,repL_z,setsL_c,cN,dN,gk,gl,dg,Bool.not_true]
    exact ⟨K.length - (i + 1),by omega,(hJ _ _ _).2 ⟨i + 1,rfl,hlt,⟨by exact p0,by exact p2,by exact p7,by exact p52,by exact p53,rfl⟩,extT EX EN,et⟩⟩
   ·rw [decide_eq_false g,Bool.false_and] at et
    rw [← et] at k
    have dg:decide (w.kd = q) = false:=decide_eq_false g
    simp -implicitDefEqProofs (disch:=omega) only [go_sem,p0,p2,p7,p52,p53,p54,bi1,ci2,repL_s,repL_z,setsL_c,cN,dN,gk,gl,dg,Bool.not_false]
    exact k _ (extT EE EN)
  ·obtain rfl:i = K.length:=by omega
   have et:true = insOk d.ins K:=by
    rw [← et,List.drop_length]
    cases d.ins.drop K.length <;> rfl
   rw [← et,if_pos rfl] at k
   have hout:0 < d.outs.length:=by omega
   obtain ⟨bo,offo,capo,roo,rowo,rfl,hbo,hbon,hcello⟩:=vrs_row r2 hout
   obtain ⟨co1,co2⟩:=hcello 0 hout
   have bo1:ζ.f bo = _:=(EE.2 _ hbon).trans hbo
   rw [Nat.zero_mul,Nat.add_zero] at co1 co2
   have go1:rowo.getD (offo + 1) und = .int .i64 d.outs[0].kd:=(cell_at co2 1 (by decide)).trans rfl
   have eout:outKd d = d.outs[0].kd:=by
    unfold outKd
    rw [List.getD_eq_getElem?_getD,List.getElem?_eq_getElem hout]; rfl
   rw [eout] at k
   have hbX:=(EX.2 _ (by omega)).trans hb2
   have bvX:ζ.f bv = _:=(EE.2 bv hbn).trans hbv
   simp -implicitDefEqProofs (disch:=omega) only [go_sem,p0,p2,p7,p52,p53,p54,hbX,bvX,g2,bo1,go1]
   exact k _ EE
end Go.Proofs.Ytpjmiopplfmcfaa
