/- What is proved: ClkSays, walked. Conditions: as each theorem says. -/
import Derived.Test.YtpjmiopplfmcfaaRefE
import Derived.Test.YtpjmiopplfmcfaaRefA
set_option linter.unusedVariables false
set_option linter.unusedSimpArgs false
set_option linter.unusedSectionVars false
namespace Go.Proofs.Ytpjmiopplfmcfaa
open Go.Eng Go.Plain
set_option autoImplicit false
set_option maxRecDepth 100000
variable {nat:∀ [Deep],Nats}
theorem bad_same (x y:Nat):(eqB Try.prog 26).f (.agg [.int .i64 x,.int .i64 y]) (.agg [.int .i64 x,.int .i64 y]) = some true:=by rw [bad_eq,Nat.beq_refl,Nat.beq_refl]; rfl
theorem bool_same (x:Bool):(eqB Try.prog 4).f (.bool x) (.bool x) = some true:=by rw [bool_eq9]; cases x <;> rfl
attribute [-go_sem] Go.Eng.wp_block in
set_option maxHeartbeats 16000000 in
theorem clkSays_spec (U:Usual nat) (hk:∀ [Deep],nat 25 = some trueNat) (η:HN) (T:By) (hT:T.length ≤ 9223372036854775807) :
  ∃ v η',CallN Try.prog nat 7 [.str T.length (codesL T)] η v η' ∧ v = .bool true:=by
 refine call_of (PT:=pl7) Try.func7 rfl (U 7 (by decide)) ok7 rfl ?_
 simp -implicitDefEqProofs (disch:=omega) only [go_sem,Go.Eng.wp_block]
 refine thenN_call ⟨_,_,callN_true hk,?_⟩
 simp -implicitDefEqProofs (disch:=omega) only [go_sem,Go.Eng.wp_block,Bool.not_true]
 by_cases A1:2500 < T.length
 ·simp -implicitDefEqProofs (disch:=omega) only [go_sem,Go.Eng.wp_block]
 simp -implicitDefEqProofs (disch:=omega) only [go_sem,Go.Eng.wp_block]
 refine thenN_call (upto7_then U hT (fun l v ls η2 rv rl E2 up=>?_) (fun η2 E2=>?_))
 rotate_left
 ·simp -implicitDefEqProofs (disch:=omega) only [go_sem,Go.Eng.wp_block,Bool.not_false]
 obtain ⟨okl,hmd,hN0,hT0⟩:=up
 have hup:=names_up hN0 hmd
 have okl':=okl
 obtain ⟨hl,okn⟩:=okl'
 obtain ⟨lsl,ls6⟩:=rdNs_len rl
 simp -implicitDefEqProofs (disch:=omega) only [go_sem,Go.Eng.wp_block,Bool.not_true]
 refine thenN_call (back_spec U okl rv rl fun x4 η4 ls4 o4 r4 E4=>?_)
 obtain ⟨ls4l,ls46⟩:=rdNs_len r4
 have rv4:=own_rdR o4 ls46
 have n4:=E4.1
 simp -implicitDefEqProofs (disch:=omega) only [go_sem,Go.Eng.wp_block]
 refine thenN_call (clkCheck_then U okl rv4 r4 fun η5 E5=>?_)
 have n5:=E5.1
 simp -implicitDefEqProofs (disch:=omega) only [go_sem,Go.Eng.wp_block]
 refine thenN_call (bad_then U fun η6 E6=>?_)
 have n6:=E6.1
 have F6:=extT E5 E6
 have G6:=extT E4 F6
 simp -implicitDefEqProofs (disch:=omega) only [go_sem,Go.Eng.wp_block]
 refine thenN_call (clocks6_then U okl hmd hup (rv.ext (base:=0) G6) (rdNs_keep (keep_b G6) G6.1 (fun _ h=>h) rl) fun η7 E7=>?_)
 have ec:clocksR l = faultOf 10 (clocksF l):=clocks_eq l fun n hn q hq=>wan_ar q.e ((hmd n hn).eqs q hq)
 rw [ec]
 have eb:=bad_same (faultOf 10 (clocksF l)).1 (faultOf 10 (clocksF l)).2
 have F7:=extT F6 E7
 have G7:=extT G6 E7
 have n7:=E7.1
 have rv:=rv.ext (base:=0) G7
 have rl:=rdNs_keep (keep_b G7) G7.1 (fun _ h=>h) rl
 have rv4:=rv4.ext (base:=0) F7
 have r4:=rdNs_keep (keep_b F7) F7.1 (fun _ h=>h) r4
 simp -implicitDefEqProofs (disch:=omega) only [go_sem,Go.Eng.wp_block,eb]
 have ln:=fun η' e w=>row_len (η':=η') rv lsl (by omega) e w
 obtain ⟨I,hI⟩:∃ I:Nat → FN → HN → Prop,∀ m φ ζ,I m φ ζ ↔ ∃ i,m = l.length - i ∧ i ≤ l.length ∧ (φ 3 = v ∧ φ 5 = x4 ∧ φ 6 = .int .i64 i) ∧ ExtB η7.nx η7 ζ:=⟨_,fun _ _ _=>Iff.rfl⟩
 refine wpN_loop I l.length ((hI _ _ _).2 ⟨0,rfl,Nat.zero_le _,⟨rfl,rfl,rfl⟩,.refl _ _⟩) ?_
 intro m φ ζ hi
 obtain ⟨i,hm,hi,⟨p3,p5,p6⟩,EX⟩:=(hI _ _ _).1 hi
 have nX:=EX.1
 by_cases hlt:i < l.length
 ·obtain ⟨hi',ri⟩:=rdNs_at rl i hlt
  obtain ⟨hi4,ri4⟩:=rdNs_at r4 i hlt
  obtain ⟨b',off,cap,ro,row,rfl,hbv,hbn,hlen,hrow⟩:=rv.at hi'
  obtain ⟨b4,off4,cap4,ro4,row4,rfl,hbv4,hbn4,hlen4,hrow4⟩:=rv4.at hi4
  have hbz:ζ.f b' = _:=(EX.2 b' hbn).trans hbv
  have hbz4:ζ.f b4 = _:=(EX.2 b4 hbn4).trans hbv4
  have okd:=okn _ (List.getElem_mem hlt)
  have mdd:=hmd _ (List.getElem_mem hlt)
  have upd:=hup _ (List.getElem_mem hlt)
  generalize l[i] = d at *
  generalize ls[i] = zd at *
  generalize ls4[i] = zd4 at *
  have ri':=ri
  obtain ⟨y1,y2,y3,y4,rfl,-,r1,r2,r3,qs,rq,rqs⟩:=ri'
  have ri4':=ri4
  obtain ⟨u1,u2,u3,u4,rfl,-,-,-,-,qs4,rq4,rqs4⟩:=ri4'
  have hsn:sV d.nm = .str d.nm.1 d.nm.2:=rfl
  rw [hsn] at ri hrow ri4 hrow4
  simp -implicitDefEqProofs (disch:=omega) only [tailC_s,go_sem,Go.Eng.wp_block,p3,p5,p6,ln,hbz,hrow]
  refine thenN_call (vars6_then U (rdN_ext ri EX) okd fun x ζv ox Ev=>?_)
  have nv:=Ev.1
  have EV:=extT EX Ev
  have ox':OwnA 5 ζ.nx ζv x ((allOf d).map Vr.cells).length ((allOf d).map Vr.cells).flatten:=by rw [vrs_len]; exact ox
  have rx:=own_rdR ox' (fun l hl=>by obtain ⟨v,_,rfl⟩:=List.mem_map.1 hl; rfl)
  obtain ⟨hal,hok⟩:=all_len okd
  have lx:=fun η' e w=>row_len (η':=η') rx (vrs_len _) (by omega) e w
  simp -implicitDefEqProofs (disch:=omega) only [go_sem,Go.Eng.wp_block]
  generalize hV:allOf d = V at *
  obtain ⟨J2,hJ2⟩:∃ J:Nat → FN → HN → Prop,∀ m φ ζ2,J m φ ζ2 ↔ ∃ k,m = V.length - k ∧ k ≤ V.length ∧ (φ 3 = .slice b' off ls.length cap ∧ φ 5 = .slice b4 off4 ls4.length cap4 ∧ φ 6 = .int .i64 i ∧ φ 7 = x ∧ φ 8 = .int .i64 k) ∧ ExtB ζv.nx ζv ζ2:=⟨_,fun _ _ _=>Iff.rfl⟩
  refine wpN_loop J2 V.length ((hJ2 _ _ _).2 ⟨0,rfl,Nat.zero_le _,⟨by exact p3,by exact p5,by exact p6,rfl,rfl⟩,.refl _ _⟩) ?_
  clear p3 p5 p6
  intro m φ ζ2 hj2
  obtain ⟨k2,hm2,hk2,⟨p3,p5,p6,p7,p8⟩,X2⟩:=(hJ2 _ _ _).1 hj2
  have n2:=X2.1
  have EZ:=extT EV X2
  by_cases hkt:k2 < V.length
  ·obtain ⟨bx,offx,capx,rox,rowx,rfl,hbx,hbxn,hcell⟩:=vrs_row rx (by omega)
   have bx2:ζ2.f bx = _:=(X2.2 _ hbxn).trans hbx
   have bv2:ζ2.f b' = _:=(EZ.2 _ hbn).trans hbv
   have bp2:ζ2.f b4 = _:=(EZ.2 _ hbn4).trans hbv4
   obtain ⟨ck1,ck2⟩:=hcell k2 hkt
   have gk0:rowx.getD (offx + k2 * 5) und = .str V[k2].nm.1 V[k2].nm.2:=(cell_0 ck2 (by decide)).trans rfl
   generalize V[k2].nm = s at *
   have ul:=clk_len okd s
   simp -implicitDefEqProofs (disch:=omega) only [go_sem,Go.Eng.wp_block,p3,p5,p6,p7,p8,lx,bx2,bv2,bp2,gk0,hrow,hrow4]
   refine dE_call (of_then U (rdN_ext ri4 EZ) okd s fun ya ζa cka Ea=>?_)
   have na:=Ea.1
   have EA:=extT EZ Ea
   have bxa:=(Ea.2 _ (by omega)).trans bx2
   have bva:=(Ea.2 _ (by omega)).trans bv2
   have bpa:=(Ea.2 _ (by omega)).trans bp2
   simp -implicitDefEqProofs (disch:=omega) only [go_sem,Go.Eng.wp_block,p3,p5,p6,p7,p8,lx,bx2,bv2,bp2,bxa,bva,bpa,gk0,hrow,hrow4]
   refine dE_call (clockOf_then U (rdN_ext ri EA) okd s (upd s) ul fun yb ζb ckb Eb=>?_)
   have nb:=Eb.1
   have bxb:=(Eb.2 _ (by omega)).trans bxa
   have bvb:=(Eb.2 _ (by omega)).trans bva
   have bpb:=(Eb.2 _ (by omega)).trans bpa
   simp -implicitDefEqProofs (disch:=omega) only [go_sem,Go.Eng.wp_block,p3,p5,p6,p7,p8,lx,bx2,bv2,bp2,bxa,bva,bpa,bxb,bvb,bpb,gk0,hrow,hrow4]
   refine dE_call (same8_then U (cka.b.ext Eb) ckb (by omega) (by omega) ?_)
   rw [decide_eq_true rfl]
   simp -implicitDefEqProofs (disch:=omega) only [go_sem,Go.Eng.wp_block,p3,p5,p6,p7,p8,lx,bx2,bv2,bp2,bxa,bva,bpa,bxb,bvb,bpb,gk0,hrow,hrow4,Bool.not_true]
   exact ⟨V.length - (k2 + 1),by omega,(hJ2 _ _ _).2 ⟨k2 + 1,rfl,hkt,⟨by exact p3,by exact p5,by exact p6,by exact p7,rfl⟩,extT X2 (extT Ea Eb)⟩⟩
  ·obtain rfl:k2 = V.length:=by omega
   simp -implicitDefEqProofs (disch:=omega) only [go_sem,Go.Eng.wp_block,p3,p5,p6,p7,p8,lx]
   have lq:=(rdQs_len rqs).1
   have hEl:=okd.2.2.2.2.1
   have hEo:=okd.2.2.2.2.2
   have hEm:=mdd.eqs
   have l4:=fun η' e w=>row_len (η':=η') rq lq (by omega) e w
   generalize hEQ:d.eqs = EQ at *
   obtain ⟨J6,hJ6⟩:∃ J:Nat → FN → HN → Prop,∀ m φ ζ6,J m φ ζ6 ↔ ∃ k6,m = EQ.length - k6 ∧ k6 ≤ EQ.length ∧ (φ 3 = .slice b' off ls.length cap ∧ φ 5 = .slice b4 off4 ls4.length cap4 ∧ φ 6 = .int .i64 i ∧ φ 9 = .int .i64 k6) ∧ ExtB η7.nx η7 ζ6:=⟨_,fun _ _ _=>Iff.rfl⟩
   refine wpN_loop J6 EQ.length ((hJ6 _ _ _).2 ⟨0,rfl,Nat.zero_le _,⟨by exact p3,by exact p5,by exact p6,rfl⟩,EZ⟩) ?_
   clear p3 p5 p6 p7 p8
   intro m φ ζ6 hj6
   obtain ⟨k6,hm6,hk6,⟨p3,p5,p6,p9⟩,E6⟩:=(hJ6 _ _ _).1 hj6
   have n6':=E6.1
   have bv6:ζ6.f b' = _:=(E6.2 _ hbn).trans hbv
   have bp6:ζ6.f b4 = _:=(E6.2 _ hbn4).trans hbv4
   have g4:row.getD (off + i * 6 + 4) und = y4:=(cell_at hrow 4 (by decide)).trans rfl
   have g44:row4.getD (off4 + i * 6 + 4) und = u4:=(cell_at hrow4 4 (by decide)).trans rfl
   by_cases hkt:k6 < EQ.length
   ·obtain ⟨bq,offq,capq,roq,rowq,rfl,hbq,hbqn,hcell⟩:=eqs_row rq rqs (by omega)
    obtain ⟨f1,f2,f3,f4,f5,cq1,cq2,req⟩:=hcell k6 hkt
    obtain ⟨bq4,offq4,capq4,roq4,rowq4,rfl,hbq4,hbqn4,hcell4⟩:=eqs_row rq4 rqs4 (by omega)
    obtain ⟨h1,h2,h3,h4,h5,cq41,cq42,req4⟩:=hcell4 k6 hkt
    have lq4:=(rdQs_len rqs4).1
    have okq:=hEo _ (List.getElem_mem hkt)
    have mdq:=hEm _ (List.getElem_mem hkt)
    have bq6:ζ6.f bq = _:=(E6.2 _ hbqn).trans hbq
    have bq46:ζ6.f bq4 = _:=(E6.2 _ hbqn4).trans hbq4
    have gqe:=eq_take cq2
    have gqe4:=eq_take cq42
    generalize EQ[k6] = q at *
    simp -implicitDefEqProofs (disch:=omega) only [go_sem,Go.Eng.wp_block,p3,p5,p6,p9,bv6,bp6,g4,g44,l4,bq6,bq46,gqe,gqe4,hrow,hrow4]
    have re46:=rdE_keep (keep_b E6) E6.1 (fun _ h=>h) _ _ req4
    refine dE_call (exprX_then U (rdN_ext ri4 E6) okd re46 okq.2 (fun c ya ζa ec cka Ea=>?_) (fun p ζa ec Ea=>?_))
    ·have sm:=exprK_small (clk_len okd) ec
     have na:=Ea.1
     have EA:=extT E6 Ea
     have bva:=(Ea.2 _ (by omega)).trans bv6
     have bpa:=(Ea.2 _ (by omega)).trans bp6
     have bqa:=(Ea.2 _ (by omega)).trans bq6
     have bq4a:=(Ea.2 _ (by omega)).trans bq46
     have rea:=rdE_keep (keep_b EA) EA.1 (fun _ h=>h) _ _ req
     simp -implicitDefEqProofs (disch:=omega) only [go_sem,Go.Eng.wp_block,p3,p5,p6,p9,bv6,bp6,g4,g44,l4,bq6,bq46,gqe,gqe4,hrow,hrow4,bva,bpa,bqa,bq4a]
     refine dE_call (clockX6_then U (rdN_ext ri EA) okd upd rea okq.2 mdq (fun c' yb ζb ec' ckb Eb=>?_) (fun p ζb ec' Eb=>?_))
     ·rw [ec] at ec'
      cases ec'
      have b1:=bool_same c.2
      have b2:=bool_same true
      simp -implicitDefEqProofs (disch:=omega) only [go_sem,Go.Eng.wp_block,p3,p5,p6,p9,b1,b2]
      refine thenN_call (same8_then U (cka.ext Eb) ckb (by omega) (by omega) ?_)
      rw [decide_eq_true rfl]
      simp -implicitDefEqProofs (disch:=omega) only [go_sem,Go.Eng.wp_block,p3,p5,p6,p9,Bool.not_true]
      exact ⟨EQ.length - (k6 + 1),by omega,(hJ6 _ _ _).2 ⟨k6 + 1,rfl,hkt,⟨by exact p3,by exact p5,by exact p6,rfl⟩,extT EA Eb⟩⟩
     ·rw [ec] at ec'
      cases ec'
    ·
     have na:=Ea.1
     have EA:=extT E6 Ea
     have bva:=(Ea.2 _ (by omega)).trans bv6
     have bpa:=(Ea.2 _ (by omega)).trans bp6
     have bqa:=(Ea.2 _ (by omega)).trans bq6
     have bq4a:=(Ea.2 _ (by omega)).trans bq46
     have rea:=rdE_keep (keep_b EA) EA.1 (fun _ h=>h) _ _ req
     simp -implicitDefEqProofs (disch:=omega) only [go_sem,Go.Eng.wp_block,p3,p5,p6,p9,bv6,bp6,g4,g44,l4,bq6,bq46,gqe,gqe4,hrow,hrow4,bva,bpa,bqa,bq4a]
     refine dE_call (clockX6_then U (rdN_ext ri EA) okd upd rea okq.2 mdq (fun c' yb ζb ec' ckb Eb=>?_) (fun p ζb ec' Eb=>?_))
     ·rw [ec] at ec'
      cases ec'
     ·have b1:=bool_same false
      simp -implicitDefEqProofs (disch:=omega) only [go_sem,Go.Eng.wp_block,p3,p5,p6,p9,b1]
      refine thenN_call (same8_then U (c:=[]) (d:=[]) (.inl ⟨rfl,rfl⟩) (.inl ⟨rfl,rfl⟩) (Nat.zero_le _) (Nat.zero_le _) ?_)
      rw [decide_eq_true rfl]
      simp -implicitDefEqProofs (disch:=omega) only [go_sem,Go.Eng.wp_block,p3,p5,p6,p9,Bool.not_true]
      exact ⟨EQ.length - (k6 + 1),by omega,(hJ6 _ _ _).2 ⟨k6 + 1,rfl,hkt,⟨by exact p3,by exact p5,by exact p6,rfl⟩,extT EA Eb⟩⟩
   ·obtain rfl:k6 = EQ.length:=by omega
    simp -implicitDefEqProofs (disch:=omega) only [go_sem,Go.Eng.wp_block,p3,p5,p6,p9,bv6,g4,l4]
    exact ⟨l.length - (i + 1),by omega,(hI _ _ _).2 ⟨i + 1,rfl,hlt,⟨by exact p3,by exact p5,rfl⟩,E6⟩⟩
 ·obtain rfl:i = l.length:=by omega
  simp -implicitDefEqProofs (disch:=omega) only [go_sem,Go.Eng.wp_block,p3,p5,p6,ln]
end Go.Proofs.Ytpjmiopplfmcfaa
