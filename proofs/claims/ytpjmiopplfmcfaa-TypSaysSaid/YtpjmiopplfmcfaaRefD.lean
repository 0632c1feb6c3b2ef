/- What is proved: what the document's check of kinds does. what the document's clock of an expression does. Conditions: as each theorem says. -/
import Derived.Test.YtpjmiopplfmcfaaRefC
set_option linter.unusedVariables false
set_option linter.unusedSimpArgs false
set_option linter.unusedSectionVars false
namespace Go.Plain
open Go.Eng
set_option autoImplicit false
theorem kdLs_drop {n:Nd} {l:List Vr} {k:Nat} {b:Bd} (hk:k < l.length):kdLs n (l.drop k) b = kdLs n (l.drop (k + 1)) (failIf (!decide (l[k].on = (0,0)) && !decide (kdOf n l[k].on = 1)) 9 l[k].a b):=by
 rw [List.drop_eq_getElem_cons hk]; rfl
theorem kdQs_drop {l:List Nd} {n:Nd} {qs:List Eqn} {k:Nat} {b:Bd} (hk:k < qs.length):kdQs l n (qs.drop k) b = kdQs l n (qs.drop (k + 1)) (failIf (!decide ((kdE l n qs[k].e b).1 = kdOf n qs[k].nm)) 9 qs[k].a (kdE l n qs[k].e b).2):=by
 rw [List.drop_eq_getElem_cons hk]; rfl
theorem eq_take {l:List AV} {n:Nat} {a b1 b2 b3 b4 b5 c:AV} (h:(l.drop n).take 7 = [a,b1,b2,b3,b4,b5,c]):(l.drop (n + 1)).take 5 = [b1,b2,b3,b4,b5]:=by
 have h2:(((l.drop n).take 7).drop 1).take 5 = [b1,b2,b3,b4,b5]:=by rw [h]; rfl
 rw [List.drop_take,List.take_take,List.drop_drop] at h2
 exact h2
theorem kdNs_drop {l ns:List Nd} {k:Nat} {b:Bd} (hk:k < ns.length):kdNs l (ns.drop k) b = kdNs l (ns.drop (k + 1)) (kdQs l ns[k] ns[k].eqs (kdLs ns[k] ns[k].locs b)):=by
 rw [List.drop_eq_getElem_cons hk]; rfl
end Go.Plain
namespace Go.Proofs.Ytpjmiopplfmcfaa
open Go.Eng Go.Plain
set_option autoImplicit false
set_option maxRecDepth 100000
variable {nat:∀ [Deep],Nats}
attribute [-go_sem] Go.Eng.wp_block in
set_option maxHeartbeats 16000000 in
theorem types6_then (U:Usual nat) {l:List Nd} {ls:List (List AV)} {η:HN} {v:AV} (ok:okL l) (hmd:∀ n ∈ l,Made n) (hkn:∀ n ∈ l,∀ q ∈ n.eqs,knownE l n q.e) (rv:RdR 6 η v ls) (rl:rdNs tt η l ls) {Q:AV → HN → Prop}
  (k:∀ η',ExtB η.nx η η' → Q (.agg [.int .i64 (typesR l).1,.int .i64 (typesR l).2]) η'):∃ v' η',CallN Try.prog nat 42 [v] η v' η' ∧ Q v' η':=by
 obtain ⟨hl,okn⟩:=ok
 obtain ⟨lsl,ls6⟩:=rdNs_len rl
 refine call_of (PT:=pl42) Try.func42 rfl (U 42 (by decide)) ok42 rfl ?_
 have ln:=fun η' e w=>row_len (η':=η') rv lsl (by omega) e w
 have E0:ExtB η.nx η ((η.new (.live false [.int .i64 0,.int .i64 0])).new (.live false [.int .i64 0,.int .i64 0])):=extN (extN (.refl _ _))
 have c0:((η.new (.live false [.int .i64 0,.int .i64 0])).new (.live false [.int .i64 0,.int .i64 0])).f η.nx = .live false [.int .i64 0,.int .i64 0]:=(if_neg (by show ¬ η.nx = η.nx + 1; omega)).trans (if_pos rfl)
 have c1:BdAt ((η.new (.live false [.int .i64 0,.int .i64 0])).new (.live false [.int .i64 0,.int .i64 0])) (η.nx + 1) (0,0):=if_pos rfl
 have n0:((η.new (.live false [.int .i64 0,.int .i64 0])).new (.live false [.int .i64 0,.int .i64 0])).nx = η.nx + 2:=rfl
 simp -implicitDefEqProofs (disch:=omega) only [go_sem]
 generalize (η.new (.live false [.int .i64 0,.int .i64 0])).new (.live false [.int .i64 0,.int .i64 0]) = ηs at *
 obtain ⟨cb,hcb⟩:∃ cb,cb = η.nx + 1:=⟨_,rfl⟩
 rw [← hcb] at c1 ⊢
 obtain ⟨I,hI⟩:∃ I:Nat → FN → HN → Prop,∀ m φ ζ,I m φ ζ ↔ ∃ i b,m = l.length - i ∧ i ≤ l.length ∧ (φ 0 = v ∧ φ 2 = .ptr η.nx 0 ∧ φ 3 = .ptr cb 0 ∧ φ 4 = .int .i64 i) ∧ ExtX cb ηs ζ ∧ BdAt ζ cb b ∧ b.1 ≤ 100 ∧ kdNs l (l.drop i) b = typesR l:=⟨_,fun _ _ _=>Iff.rfl⟩
 refine wpN_loop I l.length ((hI _ _ _).2 ⟨0,(0,0),rfl,Nat.zero_le _,⟨rfl,rfl,rfl,rfl⟩,.refl _ _,c1,Nat.zero_le _,rfl⟩) ?_
 clear c1
 intro m φ ζ hi
 obtain ⟨i,b,hm,hi,⟨p0,p2,p3,p4⟩,X,hbd,hb1,en⟩:=(hI _ _ _).1 hi
 have nX:=X.1
 have xz:ExtB η.nx η ζ:=extX_B E0 (by omega) X
 by_cases hlt:i < l.length
 ·obtain ⟨hi',ri⟩:=rdNs_at rl i hlt
  obtain ⟨b',off,cap,ro,row,rfl,hbv,hbn,hlen,hrow⟩:=rv.at hi'
  have hbz:ζ.f b' = _:=(xz.2 b' hbn).trans hbv
  have okd:=okn _ (List.getElem_mem hlt)
  have mdd:=hmd _ (List.getElem_mem hlt)
  have knd:=hkn _ (List.getElem_mem hlt)
  rw [kdNs_drop hlt] at en
  generalize hd:l[i] = d at *
  generalize hz:ls[i] = zd at *
  have ri':=ri
  obtain ⟨y1,y2,y3,y4,rfl,-,r1,r2,r3,qs,r4,r5⟩:=ri'
  have hsn:sV d.nm = .str d.nm.1 d.nm.2:=rfl
  rw [hsn] at ri hrow
  have l3:=fun η' e w=>row_len (η':=η') r3 (vrs_len _) (by have:=okd.2.2.2.1.1; omega) e w
  have lq:=(rdQs_len r5).1
  have l4:=fun η' e w=>row_len (η':=η') r4 lq (by have:=okd.2.2.2.2.1; omega) e w
  obtain ⟨ζ1,e1⟩:∃ ζ1,ζ1 = ζ.new (.live false [.str d.nm.1 d.nm.2,y1,y2,y3,y4,.int .i64 d.a]):=⟨_,rfl⟩
  have X1:ExtX cb ηs ζ1:=by rw [e1]; exact X.new
  have cn:ζ1.f ζ.nx = .live false [.str d.nm.1 d.nm.2,y1,y2,y3,y4,.int .i64 d.a]:=by rw [e1]; exact if_pos rfl
  have n1:ζ1.nx = ζ.nx + 1:=by rw [e1]; rfl
  have hbd1:BdAt ζ1 cb b:=by rw [e1]; exact (if_neg (by omega)).trans hbd
  have x1:ExtB η.nx η ζ1:=extX_B E0 (by omega) X1
  simp -implicitDefEqProofs (disch:=omega) only [tailC_s,go_sem,Go.Eng.wp_block,p0,p2,p3,p4,ln,hbz,hrow,repL_s,repL_z,setsL_c]
  rw [← e1]
  clear e1
  have hwc:∀ w:Vr,w.cells = [.str w.nm.1 w.nm.2,.int .i64 w.kd,.str w.on.1 w.on.2,.bool w.nt,.int .i64 w.a]:=fun _=>rfl
  obtain ⟨V,hV⟩:∃ V,V = d.locs:=⟨_,rfl⟩
  have hVl:V.length ≤ 1073741824:=by rw [hV]; exact okd.2.2.2.1.1
  have hVk:∀ v ∈ V,okV v:=by rw [hV]; exact okd.2.2.2.1.2
  rw [← hV] at r3 en
  have l3:=fun η' e w=>row_len (η':=η') r3 (vrs_len _) (by omega) e w
  obtain ⟨J2,hJ2⟩:∃ J:Nat → FN → HN → Prop,∀ m φ ζ2,J m φ ζ2 ↔ ∃ k bb,m = V.length - k ∧ k ≤ V.length ∧ (φ 0 = .slice b' off ls.length cap ∧ φ 2 = .ptr η.nx 0 ∧ φ 3 = .ptr cb 0 ∧ φ 4 = .int .i64 i ∧ φ 5 = .ptr ζ.nx 0 ∧ φ 6 = .int .i64 k) ∧ ExtX cb ζ1 ζ2 ∧ BdAt ζ2 cb bb ∧ bb.1 ≤ 100 ∧ kdLs d (V.drop k) bb = kdLs d V b:=⟨_,fun _ _ _=>Iff.rfl⟩
  refine wpN_loop J2 V.length ((hJ2 _ _ _).2 ⟨0,b,rfl,Nat.zero_le _,⟨by exact p0,by exact p2,by exact p3,by exact p4,rfl,rfl⟩,.refl _ _,hbd1,hb1,rfl⟩) ?_
  clear p0 p2 p3 p4
  intro m φ ζ2 hj2
  obtain ⟨k2,bb,hm2,hk2,⟨p0,p2,p3,p4,p5,p6⟩,X4,hbd4,hb4,ev⟩:=(hJ2 _ _ _).1 hj2
  have n4:=X4.1
  have XX:=X1.trans X4
  have x4:ExtB η.nx η ζ2:=extX_B E0 (by omega) XX
  have cn4:=(X4.2 _ (by omega) (by omega)).trans cn
  by_cases hkt:k2 < V.length
  ·obtain ⟨bx,offx,capx,rox,rowx,rfl,hbx,hbxn,hcell⟩:=vrs_row r3 (by omega)
   have bx4:ζ2.f bx = _:=(x4.2 _ hbxn).trans hbx
   obtain ⟨ck1,ck2⟩:=hcell k2 hkt
   have okv:=hVk _ (List.getElem_mem hkt)
   rw [kdLs_drop hkt] at ev
   generalize V[k2] = w at *
   have eo:strEq w.on.1 w.on.2 0 0 = decide (w.on = (0,0)):=strEq_S w.on (0,0)
   have E5:ExtB ζ2.nx ζ2 (ζ2.new (.live false [.str w.nm.1 w.nm.2,.int .i64 w.kd,.str w.on.1 w.on.2,.bool w.nt,.int .i64 w.a])):=extN (.refl _ _)
   have c5:(ζ2.new (.live false [.str w.nm.1 w.nm.2,.int .i64 w.kd,.str w.on.1 w.on.2,.bool w.nt,.int .i64 w.a])).f ζ2.nx = .live false [.str w.nm.1 w.nm.2,.int .i64 w.kd,.str w.on.1 w.on.2,.bool w.nt,.int .i64 w.a]:=if_pos rfl
   have n5:(ζ2.new (.live false [.str w.nm.1 w.nm.2,.int .i64 w.kd,.str w.on.1 w.on.2,.bool w.nt,.int .i64 w.a])).nx = ζ2.nx + 1:=rfl
   by_cases hon:w.on = (0,0)
   ·rw [decide_eq_true hon] at eo ev
    simp -implicitDefEqProofs (disch:=omega) only [go_sem,Go.Eng.wp_block,p0,p2,p3,p4,p5,p6,cn4,l3,bx4,ck2,repL_s,repL_z,setsL_c,c5,eo]
    exact ⟨V.length - (k2 + 1),by omega,(hJ2 _ _ _).2 ⟨k2 + 1,_,rfl,hkt,⟨by exact p0,by exact p2,by exact p3,by exact p4,by exact p5,rfl⟩,X4.of E5,(E5.2 _ (by omega)).trans hbd4,hb4,ev⟩⟩
   ·rw [decide_eq_false hon] at eo ev
    have cn5:=(E5.2 _ (by omega)).trans cn4
    have hbd5:BdAt _ cb bb:=(E5.2 _ (by omega)).trans hbd4
    simp -implicitDefEqProofs (disch:=omega) only [go_sem,Go.Eng.wp_block,p0,p2,p3,p4,p5,p6,cn4,l3,bx4,ck2,repL_s,repL_z,setsL_c,c5,cn5,eo]
    generalize ζ2.new (.live false [.str w.nm.1 w.nm.2,.int .i64 w.kd,.str w.on.1 w.on.2,.bool w.nt,.int .i64 w.a]) = ζ5 at *
    refine thenN_call (find6_then U (rdN_ext ri (extT x4 E5)) okd w.on fun ζ6 e6=>?_)
    rw [hwc]
    have hkd:kdOf d w.on = ((findV d w.on).getD zVr).kd:=rfl
    rw [hkd] at ev
    generalize (findV d w.on).getD zVr = u at *
    have E7:ExtB ζ5.nx ζ5 (ζ6.new (.live false [.str u.nm.1 u.nm.2,.int .i64 u.kd,.str u.on.1 u.on.2,.bool u.nt,.int .i64 u.a])):=extN e6
    have c7:(ζ6.new (.live false [.str u.nm.1 u.nm.2,.int .i64 u.kd,.str u.on.1 u.on.2,.bool u.nt,.int .i64 u.a])).f ζ6.nx = .live false [.str u.nm.1 u.nm.2,.int .i64 u.kd,.str u.on.1 u.on.2,.bool u.nt,.int .i64 u.a]:=if_pos rfl
    have d5:=(E7.2 _ (by omega)).trans c5
    have hbd7:BdAt _ cb bb:=(E7.2 _ (by omega)).trans hbd5
    have X7:=(X4.of E5).of E7
    have n7:=X7.1
    have nn7:=E7.1
    by_cases w1:u.kd = 1
    ·rw [decide_eq_true w1] at ev
     simp -implicitDefEqProofs (disch:=omega) only [go_sem,Go.Eng.wp_block,p0,p2,p3,p4,p5,p6,repL_s,repL_z,setsL_c,c7,d5,w1]
     rw [w1] at X7 hbd7
     exact ⟨V.length - (k2 + 1),by omega,(hJ2 _ _ _).2 ⟨k2 + 1,_,rfl,hkt,⟨by exact p0,by exact p2,by exact p3,by exact p4,by exact p5,rfl⟩,X7,hbd7,hb4,ev⟩⟩
    ·rw [decide_eq_false w1] at ev
     simp -implicitDefEqProofs (disch:=omega) only [go_sem,Go.Eng.wp_block,p0,p2,p3,p4,p5,p6,repL_s,repL_z,setsL_c,c7,d5,w1]
     refine thenN_call (fail6_then U hbd7 (by omega) fun ζ8 g1 g2 g3=>?_)
     simp -implicitDefEqProofs (disch:=omega) only [go_sem,Go.Eng.wp_block,p0,p2,p3,p4,p5,p6]
     exact ⟨V.length - (k2 + 1),by omega,(hJ2 _ _ _).2 ⟨k2 + 1,_,rfl,hkt,⟨by exact p0,by exact p2,by exact p3,by exact p4,by exact p5,rfl⟩,⟨by omega,fun c h1 h2=>(g3 c h2).trans (X7.2 c h1 h2)⟩,g2,fail_le (by decide) hb4,ev⟩⟩
  ·obtain rfl:k2 = V.length:=by omega
   rw [List.drop_length] at ev
   have ev:bb = kdLs d V b:=ev
   rw [← ev] at en
   simp -implicitDefEqProofs (disch:=omega) only [go_sem,Go.Eng.wp_block,p0,p2,p3,p4,p5,p6,cn4,l3]
   have hEl:=okd.2.2.2.2.1
   have hEo:=okd.2.2.2.2.2
   have hEm:=mdd.eqs
   generalize hEQ:d.eqs = EQ at *
   obtain ⟨J6,hJ6⟩:∃ J:Nat → FN → HN → Prop,∀ m φ ζ6,J m φ ζ6 ↔ ∃ k6 b6,m = EQ.length - k6 ∧ k6 ≤ EQ.length ∧ (φ 0 = .slice b' off ls.length cap ∧ φ 2 = .ptr η.nx 0 ∧ φ 3 = .ptr cb 0 ∧ φ 4 = .int .i64 i ∧ φ 5 = .ptr ζ.nx 0 ∧ φ 10 = .int .i64 k6) ∧ ExtX cb ζ1 ζ6 ∧ BdAt ζ6 cb b6 ∧ b6.1 ≤ 100 ∧ kdQs l d (EQ.drop k6) b6 = kdQs l d EQ bb:=⟨_,fun _ _ _=>Iff.rfl⟩
   refine wpN_loop J6 EQ.length ((hJ6 _ _ _).2 ⟨0,bb,rfl,Nat.zero_le _,⟨by exact p0,by exact p2,by exact p3,by exact p4,by exact p5,rfl⟩,X4,hbd4,hb4,rfl⟩) ?_
   clear p0 p2 p3 p4 p5 p6 X4 XX x4 hbd4 hb4 n4 cn4
   intro m φ ζ6 hj6
   obtain ⟨k6,b6,hm6,hk6,⟨p0,p2,p3,p4,p5,p10⟩,X6,hbd6,hb6,eq6⟩:=(hJ6 _ _ _).1 hj6
   have n6:=X6.1
   have cn6:=(X6.2 _ (by omega) (by omega)).trans cn
   have x6:ExtB η.nx η ζ6:=extX_B E0 (by omega) (X1.trans X6)
   by_cases hkt:k6 < EQ.length
   ·obtain ⟨bq,offq,capq,roq,rowq,ey,hbq,hbqn,hcell⟩:=eqs_row r4 r5 (by omega)
    obtain ⟨f1,f2,f3,f4,f5,cq1,cq2,req⟩:=hcell k6 hkt
    have okq:=hEo _ (List.getElem_mem hkt)
    have mdq:=hEm _ (List.getElem_mem hkt)
    have knq:=knd _ (List.getElem_mem hkt)
    rw [kdQs_drop hkt] at eq6
    subst ey
    have bq6:ζ6.f bq = _:=(x6.2 _ hbqn).trans hbq
    generalize hq:EQ[k6] = q at *
    have gqe:=eq_take cq2
    have gq0:rowq.getD (offq + k6 * 7) und = .str q.nm.1 q.nm.2:=(cell_0 cq2 (by decide)).trans rfl
    simp -implicitDefEqProofs (disch:=omega) only [go_sem,Go.Eng.wp_block,p0,p2,p3,p4,p5,p10,cn6,l4,bq6,cq2,gq0]
    have EA:ExtB ζ6.nx ζ6 (ζ6.at_ (ζ6.nx + 14)):=⟨by show ζ6.nx ≤ ζ6.nx + 14; omega,fun _ _=>rfl⟩
    refine dE_call (find6_then U (rdN_ext ri (extT x6 EA)) okd q.nm fun ζa Ea=>?_)
    rw [hwc]
    have hkd:kdOf d q.nm = ((findV d q.nm).getD zVr).kd:=rfl
    rw [hkd] at eq6
    generalize (findV d q.nm).getD zVr = u at *
    have na:ζ6.nx + 14 ≤ ζa.nx:=Ea.1
    have cna:=(Ea.2 _ (show ζ.nx < ζ6.nx + 14 by omega)).trans cn6
    have bqa:ζa.f bq = _:=(Ea.2 _ (by show bq < ζ6.nx + 14; have:=x6.1; omega)).trans bq6
    have WX:ExtB ζ6.nx ζ6 ((((ζa.at_ (ζ6.nx + (1 + 1 + 1 + 1 + 1 + 1 + 1 + 1 + 1 + 1 + 1))).new (.live false [.str 0 0,.int .i64 0,.str 0 0,.bool false,.int .i64 0])).at_ ζa.nx).put (ζ6.nx + (1 + 1 + 1 + 1 + 1 + 1 + 1 + 1 + 1 + 1 + 1)) (.live false [.str u.nm.1 u.nm.2,.int .i64 u.kd,.str u.on.1 u.on.2,.bool u.nt,.int .i64 u.a])):=⟨by show ζ6.nx ≤ ζa.nx; omega,fun c hc=>(if_neg (by omega)).trans ((if_neg (by show ¬ c = ζ6.nx + (1 + 1 + 1 + 1 + 1 + 1 + 1 + 1 + 1 + 1 + 1); omega)).trans (Ea.2 c (by show c < ζ6.nx + 14; omega)))⟩
    have Wn:((((ζa.at_ (ζ6.nx + (1 + 1 + 1 + 1 + 1 + 1 + 1 + 1 + 1 + 1 + 1))).new (.live false [.str 0 0,.int .i64 0,.str 0 0,.bool false,.int .i64 0])).at_ ζa.nx).put (ζ6.nx + (1 + 1 + 1 + 1 + 1 + 1 + 1 + 1 + 1 + 1 + 1)) (.live false [.str u.nm.1 u.nm.2,.int .i64 u.kd,.str u.on.1 u.on.2,.bool u.nt,.int .i64 u.a])).nx = ζa.nx:=rfl
    have Wu:((((ζa.at_ (ζ6.nx + (1 + 1 + 1 + 1 + 1 + 1 + 1 + 1 + 1 + 1 + 1))).new (.live false [.str 0 0,.int .i64 0,.str 0 0,.bool false,.int .i64 0])).at_ ζa.nx).put (ζ6.nx + (1 + 1 + 1 + 1 + 1 + 1 + 1 + 1 + 1 + 1 + 1)) (.live false [.str u.nm.1 u.nm.2,.int .i64 u.kd,.str u.on.1 u.on.2,.bool u.nt,.int .i64 u.a])).f (ζ6.nx + (1 + 1 + 1 + 1 + 1 + 1 + 1 + 1 + 1 + 1 + 1)) = .live false [.str u.nm.1 u.nm.2,.int .i64 u.kd,.str u.on.1 u.on.2,.bool u.nt,.int .i64 u.a]:=if_pos rfl
    have cnW:=(WX.2 _ (by omega)).trans cn6
    have bqW:=(WX.2 _ (by have:=x6.1; omega)).trans bq6
    have hbW:BdAt _ cb b6:=(WX.2 _ (by omega)).trans hbd6
    simp -implicitDefEqProofs (disch:=omega) only [go_sem,Go.Eng.wp_block,p0,p2,p3,p4,p5,p10,cn6,l4,bq6,cq2,gq0,gqe,cna,bqa,repL_s,repL_z,setsL_c,cnW,bqW]
    generalize (((ζa.at_ (ζ6.nx + (1 + 1 + 1 + 1 + 1 + 1 + 1 + 1 + 1 + 1 + 1))).new (.live false [.str 0 0,.int .i64 0,.str 0 0,.bool false,.int .i64 0])).at_ ζa.nx).put (ζ6.nx + (1 + 1 + 1 + 1 + 1 + 1 + 1 + 1 + 1 + 1 + 1)) (.live false [.str u.nm.1 u.nm.2,.int .i64 u.kd,.str u.on.1 u.on.2,.bool u.nt,.int .i64 u.a]) = W at *
    have XW:=X6.of WX
    have xW:ExtB η.nx η W:=extX_B E0 (by omega) (X1.trans XW)
    have T:Trees η (.slice b' off ls.length cap) l d [.str d.nm.1 d.nm.2,y1,y2,y3,.slice bq offq qs.length capq,.int .i64 d.a]:=⟨⟨ls,rv,rl⟩,ri,⟨hl,okn⟩,okd⟩
    have nW:=WX.1
    refine dE_call (kind6_then U T (by omega) q.e okq.2 mdq knq W _ b6 _ xW (by omega) hbW hb6 req fun ζc Xc hbdc=>?_)
    have nc:=Xc.1
    have hle:=kdE_le (l:=l) (n:=d) q.e b6 hb6
    have cnc:=(Xc.2 _ (by omega) (by omega)).trans cnW
    have bqc:=(Xc.2 _ (by have:=x6.1; omega) (by have:=E0.1; omega)).trans bqW
    have uc:=(Xc.2 _ (by omega) (by omega)).trans Wu
    have XC:=XW.trans Xc
    generalize (kdE l d q.e b6).1 = kk at *
    generalize (kdE l d q.e b6).2 = b7 at *
    by_cases w1:kk = u.kd
    ·rw [decide_eq_true w1] at eq6
     simp -implicitDefEqProofs (disch:=omega) only [go_sem,Go.Eng.wp_block,p0,p2,p3,p4,p5,p10,cnW,l4,bqW,cq2,gq0,gqe,cnc,bqc,Wu,uc,w1]
     exact ⟨EQ.length - (k6 + 1),by omega,(hJ6 _ _ _).2 ⟨k6 + 1,_,rfl,hkt,⟨by exact p0,by exact p2,by exact p3,by exact p4,by exact p5,rfl⟩,XC,hbdc,hle,eq6⟩⟩
    ·rw [decide_eq_false w1] at eq6
     have gq6:rowq.getD (offq + k6 * 7 + 6) und = .int .i64 q.a:=(cell_at cq2 6 (by decide)).trans rfl
     have oqa:=okq.1
     simp -implicitDefEqProofs (disch:=omega) only [go_sem,Go.Eng.wp_block,p0,p2,p3,p4,p5,p10,cnW,l4,bqW,cq2,gq0,gqe,cnc,bqc,Wu,uc,w1,gq6]
     refine thenN_call (fail6_then U hbdc (by omega) fun ζ8 g1 g2 g3=>?_)
     simp -implicitDefEqProofs (disch:=omega) only [go_sem,Go.Eng.wp_block,p0,p2,p3,p4,p5,p10]
     exact ⟨EQ.length - (k6 + 1),by omega,(hJ6 _ _ _).2 ⟨k6 + 1,_,rfl,hkt,⟨by exact p0,by exact p2,by exact p3,by exact p4,by exact p5,rfl⟩,⟨by have:=XC.1; omega,fun c h1 h2=>(g3 c h2).trans (XC.2 c h1 h2)⟩,g2,fail_le (by decide) hle,eq6⟩⟩
   ·obtain rfl:k6 = EQ.length:=by omega
    rw [List.drop_length] at eq6
    have eq6:b6 = kdQs l d EQ bb:=eq6
    rw [← eq6] at en
    simp -implicitDefEqProofs (disch:=omega) only [go_sem,Go.Eng.wp_block,p0,p2,p3,p4,p5,p10,cn6,l4]
    exact ⟨l.length - (i + 1),by omega,(hI _ _ _).2 ⟨i + 1,_,rfl,hlt,⟨by exact p0,by exact p2,by exact p3,rfl⟩,X1.trans X6,hbd6,hb6,en⟩⟩
 ·obtain rfl:i = l.length:=by omega
  rw [List.drop_length] at en
  have en:b = typesR l:=en
  have hbd':ζ.f cb = .live false [.int .i64 b.1,.int .i64 b.2]:=hbd
  have d0:=(X.2 _ (by omega) (by omega)).trans c0
  rw [← en] at k
  simp -implicitDefEqProofs (disch:=omega) only [go_sem,Go.Eng.wp_block,p0,p2,p3,p4,ln,hbd',d0]
  exact k _ (extP xz (by omega))
end Go.Proofs.Ytpjmiopplfmcfaa
namespace Go.Plain
open Go.Eng
set_option autoImplicit false
def RowA (lo:Nat) (η:HN) (x:AV) (l:List AV):Prop:=(x = .nilslice ∧ l = []) ∨ ∃ b,lo ≤ b ∧ b < η.nx ∧ x = .slice b 0 l.length (.un 1) ∧ l ≠ [] ∧ η.f b = .live false l
theorem RowA.own {lo:Nat} {η:HN} {x:AV} {l:List AV} (h:RowA lo η x l):OwnA 1 lo η x l.length l:=by
 rcases h with ⟨rfl,rfl⟩ | ⟨b,h1,h2,rfl,h3,h4⟩
 ·exact ⟨rfl,.inl ⟨rfl,rfl⟩⟩
 ·exact ⟨(Nat.mul_one _).symm,.inr ⟨b,h1,h2,.inr ⟨rfl,h4⟩⟩⟩
theorem RowA.rd {lo:Nat} {η:HN} {x:AV} {l:List AV} (h:RowA lo η x l):RdR 1 η x (l.map fun v=>[v]):=by
 have fl:∀ l:List AV,(l.map fun v=>[v]).flatten = l:=fun l=>by
  induction l with
  | nil=>rfl
  | cons a l ih=>show a :: (l.map fun v=>[v]).flatten = a :: l; rw [ih]
 rcases h with ⟨rfl,rfl⟩ | ⟨b,h1,h2,rfl,h3,h4⟩
 ·exact .inl ⟨rfl,.inl rfl⟩
 ·have:=RdR.blk (s:=1) (cap:=.un 1) (l.map fun v=>[v]) (by rw [fl]; exact h4) h2 (fun l hl=>by obtain ⟨v,_,rfl⟩:=List.mem_map.1 hl; rfl)
  rw [List.length_map] at this
  exact this
theorem rowA_app {w lo:Nat} {η:HN} {x v:AV} {l:List AV} {zb:Nat} {c:Cp} (h:RowA lo η x l) (hz:η.f zb = .live false [v]) (hzn:zb < η.nx) (hlen:(l.length + 1) * w ≤ 140737488355328) (hb:lo ≤ η.nx) :
  ∃ η',apSrcN 1 w x (.slice zb 0 1 c) η = .ok (.slice η.nx 0 (l.length + 1) (.un 1)) η' ∧ RowA lo η' (.slice η.nx 0 (l.length + 1) (.un 1)) (l ++ [v]) ∧ η'.nx = η.nx + 1 ∧ ∀ b,b < η.nx → ¬ blkIs x b → η'.f b = η.f b:=by
 obtain ⟨η',e,o,hn,hk⟩:=app_sep (s:=1) (w:=w) (base:=lo) (m:=1) (k:=[v]) (by decide) h.own (.inr ⟨zb,0,_,false,_,rfl,hz,hzn,Nat.le_refl _,rfl,rfl⟩) (by decide) hlen hb
 refine ⟨η',e,.inr ⟨η.nx,hb,by omega,by rw [List.length_append]; rfl,by simp,?_⟩,hn,hk⟩
 obtain ⟨_,⟨q,_⟩ | ⟨b,h1,h2,⟨q,g,_⟩ | ⟨q,h4⟩⟩⟩:=o
 ·cases q
 ·omega
 ·cases q; exact h4
theorem RowA.keep {lo:Nat} {η η':HN} {x:AV} {l:List AV} (h:RowA lo η x l) (hn:η.nx ≤ η'.nx) (hk:∀ b,lo ≤ b → b < η.nx → η.f b = .live false l → η'.f b = η.f b):RowA lo η' x l:=by
 rcases h with h | ⟨b,h1,h2,h3,h4,h5⟩
 ·exact .inl h
 ·exact .inr ⟨b,h1,by omega,h3,h4,(hk b h1 h2 h5).trans h5⟩
theorem RowA.blk {lo:Nat} {η:HN} {x:AV} {l:List AV} (h:RowA lo η x l) {b:Nat} (hb:blkIs x b):lo ≤ b ∧ b < η.nx ∧ l ≠ [] ∧ η.f b = .live false l:=by
 rcases h with ⟨rfl,_⟩ | ⟨c,h1,h2,rfl,h4,h5⟩
 ·exact hb.elim
 ·obtain rfl:c = b:=hb
  exact ⟨h1,h2,h4,h5⟩
end Go.Plain
namespace Go.Proofs.Ytpjmiopplfmcfaa
open Go.Eng Go.Plain
set_option autoImplicit false
set_option maxRecDepth 100000
variable {nat:∀ [Deep],Nats}
end Go.Proofs.Ytpjmiopplfmcfaa
