/- What is proved: what an expression's own clock is. what an expression's clock is. what the program's check of clocks does. Conditions: as each theorem says. -/
import Derived.Test.YtpjmiopplfmcfaaClkA
import Derived.Test.YtpjmiopplfmcfaaPlain
import Derived.Test.YtpjmiopplfmcfaaNameB
set_option linter.unusedVariables false
set_option linter.unusedSimpArgs false
set_option linter.unusedSectionVars false
namespace Go.Proofs.Ytpjmiopplfmcfaa
open Go.Eng Go.Plain
set_option autoImplicit false
set_option maxRecDepth 100000
variable {nat:∀ [Deep],Nats}
structure TimAt (η:HN) (tb:Nat) (n:Nd) (wr:AV):Prop where
 hb:∃ y1 y2 y3 y4,η.f tb = .live false [.str n.nm.1 n.nm.2,y1,y2,y3,y4,.int .i64 n.a,wr] ∧ rdN tt η n [.str n.nm.1 n.nm.2,y1,y2,y3,y4,.int .i64 n.a]
 hn:tb < η.nx
 ok:okN n
theorem TimAt.ext {η η':HN} {tb:Nat} {n:Nd} {wr:AV} (h:TimAt η tb n wr) (x:ExtB η.nx η η'):TimAt η' tb n wr:=by
 obtain ⟨y1,y2,y3,y4,h1,h2⟩:=h.hb
 exact ⟨⟨y1,y2,y3,y4,(x.2 _ h.hn).trans h1,rdN_ext h2 x⟩,Nat.lt_of_lt_of_le h.hn x.1,h.ok⟩
theorem fit1_no {c:List Stp} {ks:List Ck} (h:ks.length ≠ 1):fit1 c ks = false:=by
 match ks with
 | []=>rfl
 | [k]=>exact absurd rfl h
 | _ :: _ :: _=>rfl
theorem fit2_no {c d:List Stp} {ks:List Ck} (h:ks.length ≠ 2):fit2 c d ks = false:=by
 match ks with
 | []=>rfl
 | [k]=>rfl
 | [k,l]=>exact absurd rfl h
 | _ :: _ :: _ :: _=>rfl
theorem kid_at {η:HN} {y:AV} {ls:List (List AV)} {ks:List Ck} (ry:RdR 8 η y ls) (rk:tmds η ks ls) {i:Nat} (hi:i < ks.length):∃ b off cap ro row,y = .slice b off ls.length cap ∧ η.f b = .live ro row ∧ b < η.nx ∧ ∃ hi':i < ls.length,(row.drop (off + i * 8)).take 8 = ls[i] ∧ off + i * 8 + 8 ≤ row.length ∧ tmd η ks[i] ls[i]:=by
 obtain ⟨h1,h2⟩:=tmds_at rk i hi
 obtain ⟨b,off,cap,ro,row,q1,q2,q3,q4,q5⟩:=ry.at h1
 exact ⟨b,off,cap,ro,row,q1,q2,q3,h1,q5,q4,h2⟩
set_option maxHeartbeats 8000000 in
theorem own_then (U:Usual nat) {η:HN} {tb:Nat} {n:Nd} {wr:AV} (tm:TimAt η tb n wr) {op nm:S} {N a:Nat} {kd:AV} {y:AV} {ls:List (List AV)} {ks:List Ck} (ry:RdR 8 η y ls) (rk:tmds η ks ls) (sk:smallK ks) {Q:AV → HN → Prop}
  (k:∀ cs η',CkA η' cs (ownK n op nm N ks).1.1 → ExtB η.nx η η' → Q (.tup [cs,.bool (ownK n op nm N ks).1.2,.bool (ownK n op nm N ks).2]) η') :
  ∃ v' η',CallN Try.prog nat 114 [.ptr tb 0,.agg [.str op.1 op.2,.str nm.1 nm.2,.int .i64 N,.int .i64 a,kd],y] η v' η' ∧ Q v' η':=by
 obtain ⟨y1,y2,y3,y4,hb,rn⟩:=tm.hb
 have hbn:=tm.hn
 have cl:=clk_len tm.ok nm
 obtain ⟨hl,h8⟩:=tmds_len rk
 have hs:=sk.1
 have e1:strEq op.1 op.2 3 7630441 = decide (op = sInt):=strEq_S op sInt
 have e2:strEq op.1 op.2 4 1819242338 = decide (op = sBool):=strEq_S op sBool
 have e3:strEq op.1 op.2 3 7496054 = decide (op = sVar):=strEq_S op sVar
 have e4:strEq op.1 op.2 4 1852139639 = decide (op = sWhen):=strEq_S op sWhen
 have e5:strEq op.1 op.2 5 435527247213 = decide (op = sMerge):=strEq_S op sMerge
 refine call_of (PT:=pl114) Try.func114 rfl (U 114 (by decide)) ok114 rfl ?_
 have E:ExtB η.nx η (η.new (.live false [.str op.1 op.2,.str nm.1 nm.2,.int .i64 N,.int .i64 a,kd])):=extN (.refl _ _)
 have c0:(η.new (.live false [.str op.1 op.2,.str nm.1 nm.2,.int .i64 N,.int .i64 a,kd])).f η.nx = .live false [.str op.1 op.2,.str nm.1 nm.2,.int .i64 N,.int .i64 a,kd]:=if_pos rfl
 have n0:(η.new (.live false [.str op.1 op.2,.str nm.1 nm.2,.int .i64 N,.int .i64 a,kd])).nx = η.nx + 1:=rfl
 have b0:=(E.2 _ hbn).trans hb
 by_cases q1:op = sInt
 ·rw [decide_eq_true q1] at e1
  have eo:ownK n op nm N ks = (([],true),true):=if_pos (.inl q1)
  rw [eo] at k
  simp -implicitDefEqProofs (disch:=omega) only [go_sem,e1]
  exact k _ _ (.inl ⟨rfl,rfl⟩) E
 rw [decide_eq_false q1] at e1
 by_cases q2:op = sBool
 ·rw [decide_eq_true q2] at e2
  have eo:ownK n op nm N ks = (([],true),true):=if_pos (.inr q2)
  rw [eo] at k
  simp -implicitDefEqProofs (disch:=omega) only [go_sem,e1,e2]
  exact k _ _ (.inl ⟨rfl,rfl⟩) E
 rw [decide_eq_false q2] at e2
 have u1:¬ (op = sInt ∨ op = sBool):=by rintro (g | g) <;> contradiction
 have E':=E
 simp -implicitDefEqProofs (disch:=omega) only [go_sem,e1,e2]
 generalize η.new (.live false [.str op.1 op.2,.str nm.1 nm.2,.int .i64 N,.int .i64 a,kd]) = η0 at *
 by_cases q3:op = sVar
 ·rw [decide_eq_true q3] at e3
  have eo:ownK n op nm N ks = ((clkOf n nm,false),true):=by unfold ownK; rw [if_neg u1,if_pos q3]
  rw [eo] at k
  simp -implicitDefEqProofs (disch:=omega) only [go_sem,e3,b0,c0]
  refine dE_call (of_then U (rdN_ext rn E) tm.ok nm fun y2 η2 k2 x2=>?_)
  have b2:=(x2.2 _ (by omega)).trans b0
  have c2:=(x2.2 _ (by omega)).trans c0
  simp -implicitDefEqProofs (disch:=omega) only [go_sem,b2,c2,b0,c0]
  exact k _ _ k2 (extT E x2)
 rw [decide_eq_false q3] at e3
 by_cases q4:op = sWhen
 ·rw [decide_eq_true q4] at e4
  have eo:ownK n op nm N ks = ((stepK (clkOf n nm) nm (decide (N = 0)),false),fit1 (clkOf n nm) ks):=by unfold ownK; rw [if_neg u1,if_neg q3,if_pos q4]
  rw [eo] at k
  simp -implicitDefEqProofs (disch:=omega) only [go_sem,e3,e4,b0,c0]
  refine dE_call (of_then U (rdN_ext rn E) tm.ok nm fun y2 η2 k2 x2=>?_)
  have b2:=(x2.2 _ (by omega)).trans b0
  have c2:=(x2.2 _ (by omega)).trans c0
  have ln:=fun η' e w=>row_len (η':=η') ry hl (by omega) e w
  have n2:=x2.1
  have E2:=extT E x2
  by_cases hk1:ks.length = 1
  ·obtain ⟨b,off,cap,ro,row,rfl,hbv,hbn',hi',hrow,hlen,rk0⟩:=kid_at ry rk (i:=0) (by omega)
   have hbz:η2.f b = _:=((x2.2 b (by omega)).trans (E.2 b hbn')).trans hbv
   have rk1:=rk0
   obtain ⟨a1,a2,a3,a4,cs,k4,ez,hck,hkd⟩:=rk1
   rw [ez] at hrow
   have sk0:=sk.2 _ (List.getElem_mem (show 0 < ks.length by omega))
   have e0:fit1 (clkOf n nm) ks = fitsK (ks[0]'(by omega)) (clkOf n nm):=by
    match ks,hk1 with
    | [k],_=>rfl
   have hll:ls.length = 1:=by omega
   rw [Nat.zero_mul,Nat.add_zero] at hrow hlen
   rw [ez] at rk0
   simp -implicitDefEqProofs (disch:=omega) only [go_sem,b2,c2,b0,c0,ln,hk1,hll,hbz,hrow,Nat.zero_mul,Nat.add_zero]
   refine thenN_call (fits_then U (rk0.ext E2) k2 sk0 (by omega) fun η3 x3=>?_)
   have c3:=(x3.2 _ (by omega)).trans c2
   rw [e0] at k
   simp -implicitDefEqProofs (disch:=omega) only [go_sem,c3]
   have E3:=extT E2 x3
   by_cases hN:N = 0
   ·rw [decide_eq_true hN] at k
    simp -implicitDefEqProofs (disch:=omega) only [go_sem,c3,hN]
    refine thenN_call (step_then U (s:=nm) (k2.ext x3) (by omega) fun y5 η5 k5 x5=>?_)
    simp -implicitDefEqProofs (disch:=omega) only [go_sem]
    exact k _ _ k5 (extT E3 x5)
   ·rw [decide_eq_false hN] at k
    simp -implicitDefEqProofs (disch:=omega) only [go_sem,c3]
    refine thenN_call (step_then U (s:=nm) (k2.ext x3) (by omega) fun y5 η5 k5 x5=>?_)
    simp -implicitDefEqProofs (disch:=omega) only [go_sem]
    exact k _ _ k5 (extT E3 x5)
  ·rw [fit1_no hk1] at k
   by_cases hN:N = 0
   ·rw [decide_eq_true hN] at k
    simp -implicitDefEqProofs (disch:=omega) only [go_sem,b2,c2,b0,c0,ln,hN]
    refine thenN_call (step_then U (s:=nm) k2 (by omega) fun y5 η5 k5 x5=>?_)
    simp -implicitDefEqProofs (disch:=omega) only [go_sem]
    exact k _ _ k5 (extT E2 x5)
   ·rw [decide_eq_false hN] at k
    simp -implicitDefEqProofs (disch:=omega) only [go_sem,b2,c2,b0,c0,ln]
    refine thenN_call (step_then U (s:=nm) k2 (by omega) fun y5 η5 k5 x5=>?_)
    simp -implicitDefEqProofs (disch:=omega) only [go_sem]
    exact k _ _ k5 (extT E2 x5)
 rw [decide_eq_false q4] at e4
 by_cases q5:op = sMerge
 ·rw [decide_eq_true q5] at e5
  have eo:ownK n op nm N ks = ((clkOf n nm,false),fit2 (stepK (clkOf n nm) nm false) (stepK (clkOf n nm) nm true) ks):=by unfold ownK; rw [if_neg u1,if_neg q3,if_neg q4,if_pos q5]
  rw [eo] at k
  simp -implicitDefEqProofs (disch:=omega) only [go_sem,e3,e4,e5,b0,c0]
  refine dE_call (of_then U (rdN_ext rn E) tm.ok nm fun y2 η2 k2 x2=>?_)
  have b2:=(x2.2 _ (by omega)).trans b0
  have c2:=(x2.2 _ (by omega)).trans c0
  have ln:=fun η' e w=>row_len (η':=η') ry hl (by omega) e w
  have n2:=x2.1
  have E2:=extT E x2
  simp -implicitDefEqProofs (disch:=omega) only [go_sem,b2,c2,b0,c0,ln]
  by_cases hk2:ks.length = 2
  ·obtain ⟨b,off,cap,ro,row,ey,hbv,hbn',hi',hrow,hlen,rk0⟩:=kid_at ry rk (i:=0) (by omega)
   obtain ⟨b',off',cap',ro',row',ey',hbv',hbn'',hi'',hrow',hlen',rk1⟩:=kid_at ry rk (i:=1) (by omega)
   subst ey
   cases ey'
   rw [hbv] at hbv'
   cases hbv'
   have hbz:η2.f b = _:=((x2.2 b (by omega)).trans (E.2 b hbn')).trans hbv
   have rk2:=rk0
   have rk3:=rk1
   obtain ⟨a1,a2,a3,a4,cs,k4,ez,hck,hkd⟩:=rk2
   obtain ⟨a1',a2',a3',a4',cs',k4',ez',hck',hkd'⟩:=rk3
   rw [ez] at hrow rk0
   rw [ez'] at hrow' rk1
   have sk0:=sk.2 _ (List.getElem_mem (show 0 < ks.length by omega))
   have sk1:=sk.2 _ (List.getElem_mem (show 1 < ks.length by omega))
   have e0:∀ c d,fit2 c d ks = (fitsK (ks[0]'(by omega)) c && fitsK (ks[1]'(by omega)) d):=fun c d=>by
    match ks,hk2 with
    | [k,l],_=>rfl
   rw [e0] at k
   generalize ks[0]'(by omega) = kk0 at *
   generalize ks[1]'(by omega) = kk1 at *
   have hll:ls.length = 2:=by omega
   rw [Nat.zero_mul,Nat.add_zero] at hrow hlen
   rw [Nat.one_mul] at hrow' hlen'
   simp -implicitDefEqProofs (disch:=omega) only [go_sem,b2,c2,hk2,hll,hbz,hrow,Nat.zero_mul,Nat.add_zero]
   refine dE_call (step_then U (s:=nm) (q:=false) k2 (by omega) fun y5 η5 k5 x5=>?_)
   have n5:=x5.1
   have E5:=extT E2 x5
   have bz5:η5.f b = _:=(x5.2 b (by omega)).trans hbz
   have c5:=(x5.2 _ (by omega)).trans c2
   simp -implicitDefEqProofs (disch:=omega) only [go_sem,c2,hk2,hll,hbz,hrow,hrow',Nat.zero_mul,Nat.add_zero,Nat.one_mul,bz5,c5]
   have l5:(stepK (clkOf n nm) nm false).length ≤ 1099511627776:=by unfold stepK; rw [List.length_append]; simp only [List.length_cons,List.length_nil]; omega
   have l7:(stepK (clkOf n nm) nm true).length ≤ 1099511627776:=by unfold stepK; rw [List.length_append]; simp only [List.length_cons,List.length_nil]; omega
   refine dE_call (fits_then U (rk0.ext E5) k5 sk0 l5 fun η6 x6=>?_)
   have n6:=x6.1
   have E6:=extT E5 x6
   have bz6:η6.f b = _:=(x6.2 b (by omega)).trans bz5
   have c6:=(x6.2 _ (by omega)).trans c5
   cases ef:fitsK kk0 (stepK (clkOf n nm) nm false) with
   | false =>
    rw [ef] at k
    simp -implicitDefEqProofs (disch:=omega) only [go_sem,c2,hk2,hll,hbz,hrow,hrow',Nat.zero_mul,Nat.add_zero,Nat.one_mul,bz5,c5,bz6,c6]
    exact k _ _ (k2.ext (extT x5 x6)) E6
   | true =>
    rw [ef] at k
    simp -implicitDefEqProofs (disch:=omega) only [go_sem,c2,hk2,hll,hbz,hrow,hrow',Nat.zero_mul,Nat.add_zero,Nat.one_mul,bz5,c5,bz6,c6]
    refine dE_call (step_then U (s:=nm) (q:=true) (k2.ext (extT x5 x6)) (by omega) fun y7 η7 k7 x7=>?_)
    have n7:=x7.1
    have E7:=extT E6 x7
    have bz7:η7.f b = _:=(x7.2 b (by omega)).trans bz6
    have c7:=(x7.2 _ (by omega)).trans c6
    simp -implicitDefEqProofs (disch:=omega) only [go_sem,c2,hk2,hll,hbz,hrow,hrow',Nat.zero_mul,Nat.add_zero,Nat.one_mul,bz5,c5,bz6,c6,bz7,c7]
    refine dE_call (fits_then U (rk1.ext E7) k7 sk1 l7 fun η8 x8=>?_)
    have E8:=extT E7 x8
    have bz8:η8.f b = _:=(x8.2 b (by omega)).trans bz7
    have c8:=(x8.2 _ (by omega)).trans c7
    simp -implicitDefEqProofs (disch:=omega) only [go_sem,c2,hk2,hll,hbz,hrow,hrow',Nat.zero_mul,Nat.add_zero,Nat.one_mul,bz5,c5,bz6,c6,bz7,c7,bz8,c8]
    exact k _ _ (k2.ext (extT (extT x5 x6) (extT x7 x8))) E8
  ·rw [fit2_no hk2] at k
   simp -implicitDefEqProofs (disch:=omega) only [go_sem,b2,c2,b0,c0,ln]
   exact k _ _ k2 E2
 rw [decide_eq_false q5] at e5
 have eo:ownK n op nm N ks = oneK ks:=by unfold ownK; rw [if_neg u1,if_neg q3,if_neg q4,if_neg q5]
 rw [eo] at k
 simp -implicitDefEqProofs (disch:=omega) only [go_sem,e3,e4,e5]
 refine thenN_call (one_then U (ry.ext (base:=0) E) (tmds_ext E rk) sk fun cs η2 k2 x2=>?_)
 simp -implicitDefEqProofs (disch:=omega) only [go_sem]
 exact k _ _ k2 (extT E x2)
end Go.Proofs.Ytpjmiopplfmcfaa
namespace Go.Plain
open Go.Eng
set_option autoImplicit false
theorem oneK_small {ks:List Ck} {m:Nat} (h:∀ k ∈ ks,k.1.length ≤ m):(oneK ks).1.1.length ≤ m:=by
 unfold oneK
 split
 ·exact Nat.zero_le _
 ·rename_i k e
  exact h k (List.mem_of_find?_eq_some e)
theorem ownK_small {n:Nd} {op nm:S} {N:Nat} {ks:List Ck} {m:Nat} (hc:(clkOf n nm).length ≤ m) (h:∀ k ∈ ks,k.1.length ≤ m + 1):(ownK n op nm N ks).1.1.length ≤ m + 1:=by
 unfold ownK
 split
 ·exact Nat.zero_le _
 split
 ·exact Nat.le_succ_of_le hc
 split
 ·show (stepK _ _ _).length ≤ _
  unfold stepK
  rw [List.length_append]; simp only [List.length_cons,List.length_nil]; omega
 split
 ·exact Nat.le_succ_of_le hc
 ·exact oneK_small h
mutual
theorem exprK_small {n:Nd} (hc:∀ s,(clkOf n s).length ≤ 1073741824):∀ {e:Tr} {c:Ck},exprK n e = .inr c → c.1.length ≤ 1073741825
 | .mk op nm N a ks,c,h=>by
  unfold exprK at h
  cases g:exprKs n ks with
  | inl p=>rw [g] at h; cases h
  | inr cs =>
   rw [g] at h
   dsimp only at h
   split at h
   ·cases h
    exact ownK_small (hc nm) (exprKs_small hc g)
   ·cases h
theorem exprKs_small {n:Nd} (hc:∀ s,(clkOf n s).length ≤ 1073741824):∀ {ks:List Tr} {cs:List Ck},exprKs n ks = .inr cs → ∀ k ∈ cs,k.1.length ≤ 1073741825
 | [],cs,h=>by
  unfold exprKs at h
  cases h
  exact fun _ h=>by cases h
 | k :: r,cs,h=>by
  unfold exprKs at h
  cases g:exprK n k with
  | inl p=>rw [g] at h; cases h
  | inr c =>
   rw [g] at h
   dsimp only at h
   cases g2:exprKs n r with
   | inl p=>rw [g2] at h; cases h
   | inr cs' =>
    rw [g2] at h
    cases h
    intro x hx
    rcases List.mem_cons.1 hx with e | hx
    ·rw [e]; exact exprK_small hc g
    ·exact exprKs_small hc g2 x hx
end
def goKs (n:Nd) (cs:List Ck) (r:List Tr):Sum Nat (List Ck):=match exprKs n r with | .inl p=>.inl p | .inr l=>.inr (cs ++ l)
theorem goKs_drop {n:Nd} {cs:List Ck} {ks:List Tr} {i:Nat} (hi:i < ks.length):goKs n cs (ks.drop i) = match exprK n ks[i] with | .inl p=>.inl p | .inr c=>goKs n (cs ++ [c]) (ks.drop (i + 1)):=by
 rw [List.drop_eq_getElem_cons hi]
 unfold goKs
 conv=>lhs; unfold exprKs
 cases exprK n ks[i] with
 | inl p=>rfl
 | inr c =>
  dsimp only
  cases exprKs n (ks.drop (i + 1)) with
  | inl p=>rfl
  | inr l =>
   dsimp only
   rw [List.append_assoc]; rfl
def NoCk (η:HN) (x:AV):Prop:=∀ b,blkIs x b → ∃ (a:AV) (s:S) (r:List AV),η.f b = .live false (a :: .str s.1 s.2 :: r)
theorem ck_ne {η:HN} {x y:AV} {c:List Stp} (h:NoCk η x) (g:CkA η y c) {b:Nat} (hb:blkIs y b):¬ blkIs x b:=by
 intro hx
 obtain ⟨a,s,r,e⟩:=h b hx
 rcases g with ⟨rfl,_⟩ | ⟨b',_,rfl,e2⟩
 ·exact hb
 ·obtain rfl:b' = b:=hb
  rw [e] at e2
  cases c with
  | nil=>cases e2
  | cons t c =>
   have e2:BN.live false (a :: .str s.1 s.2 :: r) = .live false (.str t.1.1 t.1.2 :: .bool t.2 :: (c.map stc).flatten):=e2
   cases e2
theorem ck_keep {η η':HN} {x y:AV} {c:List Stp} (g:CkA η y c) (h:NoCk η x) (hk:∀ b,b < η.nx → ¬ blkIs x b → η'.f b = η.f b) (hn:η.nx ≤ η'.nx):CkA η' y c:=by
 have hne:=fun b (hb:blkIs y b)=>ck_ne h g hb
 rcases g with g | ⟨b,h1,rfl,h3⟩
 ·exact .inl g
 ·exact .inr ⟨b,Nat.lt_of_lt_of_le h1 hn,rfl,(hk b h1 (hne b rfl)).trans h3⟩
theorem tmd_keep {η η':HN} {x:AV} {k:Ck} {z:List AV} (g:tmd η k z) (h:NoCk η x) (hk:∀ b,b < η.nx → ¬ blkIs x b → η'.f b = η.f b) (hn:η.nx ≤ η'.nx):tmd η' k z:=by
 obtain ⟨a,b,c,d,cs,kd,h1,h2,h3⟩:=g
 exact ⟨a,b,c,d,cs,kd,h1,ck_keep h2 h hk hn,h3⟩
theorem tmds_keep {η η':HN} {x:AV} (h:NoCk η x) (hk:∀ b,b < η.nx → ¬ blkIs x b → η'.f b = η.f b) (hn:η.nx ≤ η'.nx):∀ {ks:List Ck} {ls:List (List AV)},tmds η ks ls → tmds η' ks ls
 | [],_,h=>h
 | _ :: _,_,⟨l,r,e,h2,h3⟩=>⟨l,r,e,tmd_keep h2 h hk hn,tmds_keep h hk hn h3⟩
theorem noCk_of {η η':HN} {lo:Nat} {x:AV} {cs:List Ck} {ls:List (List AV)} (t:tmds η' cs ls) (o:OwnA 8 lo η x ls.length ls.flatten) (hx:x = .nilslice ∨ cs ≠ []):NoCk η x:=by
 intro b hb
 rcases hx with rfl | hx
 ·exact hb.elim
 ·obtain ⟨k,ks,rfl⟩:=List.exists_cons_of_ne_nil hx
  obtain ⟨l,r,e,⟨a1,a2,c,d,q1,q2,el,_⟩,_⟩:=t
  subst e el
  obtain ⟨_,⟨rfl,_⟩ | ⟨c',_,_,⟨rfl,h0,_⟩ | ⟨rfl,h⟩⟩⟩:=o
  ·exact hb.elim
  ·cases h0
  ·obtain rfl:c' = b:=hb
   exact ⟨_,a2,_,h⟩
end Go.Plain
namespace Go.Proofs.Ytpjmiopplfmcfaa
open Go.Eng Go.Plain
set_option autoImplicit false
set_option maxRecDepth 100000
variable {nat:∀ [Deep],Nats}
def Wrong (η:HN) (tb p lo:Nat):Prop:=∃ y0 y1 y2 y3 y4 y5 w,lo ≤ w ∧ η.f tb = .live false [y0,y1,y2,y3,y4,y5,.slice w 0 1 (.un 1)] ∧ η.f w = .live false [.int .i64 p] ∧ w < η.nx
theorem Wrong.keep {η η':HN} {tb p lo lo':Nat} (h:Wrong η tb p lo) (hl:lo' ≤ lo) (ht:η'.f tb = η.f tb) (hk:∀ b,lo ≤ b → b < η.nx → η'.f b = η.f b) (hn:η.nx ≤ η'.nx):Wrong η' tb p lo':=by
 obtain ⟨y0,y1,y2,y3,y4,y5,w,h0,h1,h2,h3⟩:=h
 exact ⟨y0,y1,y2,y3,y4,y5,w,Nat.le_trans hl h0,ht.trans h1,(hk w h0 h3).trans h2,Nat.lt_of_lt_of_le h3 hn⟩
abbrev zT:List AV:=[.str 0 0,.str 0 0,.int .i64 0,.int .i64 0,.nilslice,.nilslice,.nilslice,.bool false]
set_option maxHeartbeats 8000000 in
theorem timer_then (U:Usual nat) {tb:Nat} {n:Nd}:∀ (e:Tr),okE e → ∀ (η:HN) (z:List AV) (Q:AV → HN → Prop),TimAt η tb n .nilslice → rdE tt η e z →
  (∀ c,exprK n e = .inr c → ∀ z' η',tmd η' c z' → ExtB η.nx η η' → Q (.tup [.agg z',.bool true]) η') →
  (∀ p,exprK n e = .inl p → ∀ η',Wrong η' tb p η.nx → η.nx ≤ η'.nx → (∀ b,b < η.nx → b ≠ tb → η'.f b = η.f b) → Q (.tup [.agg zT,.bool false]) η') →
  ∃ v' η',CallN Try.prog nat 64 [.ptr tb 0,.agg z] η v' η' ∧ Q v' η':=by
 refine Tr.ind fun op nm N a ks ih=>?_
 intro ok η z Q T r k1 k2
 unfold okE at ok
 obtain ⟨ha,hkl,hks⟩:=ok
 have hks:=(okEs_iff _).1 hks
 unfold rdE at r
 obtain ⟨y,rfl,-,ls,ry,rks⟩:=r
 have hll:=(rdEs_len rks).1
 have htn:=T.hn
 have hcl:=clk_len T.ok
 have l3:=fun η' e w=>row_len (η':=η') ry hll (by omega) e w
 have eE:exprK n (.mk op nm N a ks) = match exprKs n ks with | .inl p=>.inl p | .inr cs=>if (ownK n op nm N cs).2 then .inr (ownK n op nm N cs).1 else .inl a:=by
  conv=>lhs; unfold exprK
  cases exprKs n ks <;> rfl
 refine call_of (PT:=pl64) Try.func64 rfl (U 64 (by decide)) ok64 rfl ?_
 simp -implicitDefEqProofs (disch:=omega) only [go_sem,sV,l3,repL_s,repL_z,setsL_c]
 obtain ⟨I,hI⟩:∃ I:Nat → FN → HN → Prop,∀ m φ ζ,I m φ ζ ↔ ∃ i x cs ls',m = ks.length - i ∧ i ≤ ks.length ∧ (φ 0 = .ptr tb 0 ∧ φ 3 = .ptr η.nx 0 ∧ φ 4 = .ptr (η.nx + 1) 0 ∧ φ 6 = .ptr (η.nx + 1 + 1) 0 ∧ φ 17 = y ∧ φ 18 = .int .i64 ks.length ∧ φ 19 = .int .i64 i) ∧
   (ζ.f η.nx = .live false [.str op.1 op.2,.str nm.1 nm.2,.int .i64 N,.int .i64 a,y] ∧ ζ.f (η.nx + 1) = .live false zT ∧ ζ.f (η.nx + 1 + 1) = .live false [.str op.1 op.2,.str nm.1 nm.2,.int .i64 N,.int .i64 a,.nilslice,.nilslice,x,.bool false]) ∧
   OwnA 8 (η.nx + 3) ζ x ls'.length ls'.flatten ∧ tmds ζ cs ls' ∧ (x = .nilslice ∨ cs ≠ []) ∧ ExtB η.nx η ζ ∧ η.nx + 3 ≤ ζ.nx ∧ goKs n cs (ks.drop i) = exprKs n ks ∧ cs.length = i ∧ (∀ k ∈ cs,k.1.length ≤ 1073741825):=⟨_,fun _ _ _=>Iff.rfl⟩
 refine wpN_loop I ks.length ((hI _ _ _).2 ⟨0,.nilslice,[],[],rfl,Nat.zero_le _,⟨rfl,rfl,rfl,rfl,rfl,rfl,rfl⟩,⟨by simp -implicitDefEqProofs (disch:=omega) only [go_sem],by simp -implicitDefEqProofs (disch:=omega) only [go_sem],by simp -implicitDefEqProofs (disch:=omega) only [go_sem]⟩,.nil,rfl,.inl rfl,?_,?_,?_,rfl,fun _ h=>by cases h⟩) ?_
 ·first | exact extP (extN (extN (extN (.refl _ _)))) (by omega) | exact extP (extP (extN (extN (extN (.refl _ _)))) (by omega)) (by omega)
 ·show η.nx + 3 ≤ η.nx + 1 + 1 + 1; omega
 ·unfold goKs
  rw [List.drop_zero]
  cases exprKs n ks <;> rfl
 intro m φ ζ hi
 obtain ⟨i,x,cs,ls',hm,hi,⟨p0,p3,p4,p6,p17,p18,p19⟩,⟨c3,c4,c6⟩,ox,tx,hx,Ex,nx,eg,hcs,hsm⟩:=(hI _ _ _).1 hi
 by_cases hlt:i < ks.length
 ·obtain ⟨hi',ri⟩:=rdEs_at rks i hlt
  obtain ⟨b,off,cap,ro,row,rfl,hbv,hbn,hlen,hrow⟩:=ry.at hi'
  have hbz:ζ.f b = _:=(Ex.2 b hbn).trans hbv
  obtain ⟨f1,f2,f3,f4,f5,ef⟩:=rdE_cells ri
  rw [ef] at hrow ri
  rw [goKs_drop hlt] at eg
  simp -implicitDefEqProofs (disch:=omega) only [go_sem,p0,p3,p4,p6,p17,p18,p19,hbz,hrow,repL_s,repL_z,setsL_c]
  have En:=extN (y:=.live false [.str f1.1 f1.2,.str f2.1 f2.2,.int .i64 f3,.int .i64 f4,f5]) Ex
  have okk:=hks _ (List.getElem_mem hlt)
  have kn:∀ c,c < ζ.nx → (ζ.new (.live false [.str f1.1 f1.2,.str f2.1 f2.2,.int .i64 f3,.int .i64 f4,f5])).f c = ζ.f c:=fun c hc=>if_neg (by omega)
  have nn:(ζ.new (.live false [.str f1.1 f1.2,.str f2.1 f2.2,.int .i64 f3,.int .i64 f4,f5])).nx = ζ.nx + 1:=rfl
  refine thenN_call (ih _ (List.getElem_mem hlt) okk _ _ _ (T.ext En) (rdE_keep (keep_b En) En.1 (fun _ h=>h) _ _ ri) (fun c ec z9 η3 t3 x3=>?_) (fun p ep η3 w3 n3 k3=>?_))
  ·have hcs9:=exprK_small hcl ec
   rw [ec] at eg
   have t3':=t3
   obtain ⟨g1,g2,g3,g4,cs9,kd9,rfl,hck,hkd⟩:=t3'
   have n3:ζ.nx + 1 ≤ η3.nx:=x3.1
   have k3:∀ b,b < ζ.nx → η3.f b = ζ.f b:=fun b hb=>(x3.2 b (by omega)).trans (kn b hb)
   have kH:∀ b,b < η3.nx → ((η3.new (.live false [.str g1.1 g1.2,.str g2.1 g2.2,.int .i64 g3,.int .i64 g4,.nilslice,cs9,kd9,.bool c.2])).new (.live false [.str g1.1 g1.2,.str g2.1 g2.2,.int .i64 g3,.int .i64 g4,.nilslice,cs9,kd9,.bool c.2])).f b = η3.f b:=fun b hb=>(if_neg (by show ¬ b = η3.nx + 1; omega)).trans (if_neg (by omega))
   have d6:((η3.new (.live false [.str g1.1 g1.2,.str g2.1 g2.2,.int .i64 g3,.int .i64 g4,.nilslice,cs9,kd9,.bool c.2])).new (.live false [.str g1.1 g1.2,.str g2.1 g2.2,.int .i64 g3,.int .i64 g4,.nilslice,cs9,kd9,.bool c.2])).f (η.nx + 1 + 1) = _:=(kH _ (by omega)).trans ((k3 _ (by omega)).trans c6)
   simp -implicitDefEqProofs (disch:=omega) only [go_sem,p0,p3,p4,p6,p17,p18,p19,Bool.not_true,repL_s,repL_z,setsL_c,k3 _ (show η.nx + 1 + 1 < ζ.nx by omega),c6]
   have nH:((η3.new (.live false [.str g1.1 g1.2,.str g2.1 g2.2,.int .i64 g3,.int .i64 g4,.nilslice,cs9,kd9,.bool c.2])).new (.live false [.str g1.1 g1.2,.str g2.1 g2.2,.int .i64 g3,.int .i64 g4,.nilslice,cs9,kd9,.bool c.2])).nx = η3.nx + 2:=rfl
   have oH:OwnA 8 (η.nx + 3) ((η3.new (.live false [.str g1.1 g1.2,.str g2.1 g2.2,.int .i64 g3,.int .i64 g4,.nilslice,cs9,kd9,.bool c.2])).new (.live false [.str g1.1 g1.2,.str g2.1 g2.2,.int .i64 g3,.int .i64 g4,.nilslice,cs9,kd9,.bool c.2])) x ls'.length ls'.flatten:=own_keep ox (fun b h1 h2=>(kH b (by omega)).trans (k3 b h2)) (by omega)
   have yH:RdA 8 ((η3.new (.live false [.str g1.1 g1.2,.str g2.1 g2.2,.int .i64 g3,.int .i64 g4,.nilslice,cs9,kd9,.bool c.2])).new (.live false [.str g1.1 g1.2,.str g2.1 g2.2,.int .i64 g3,.int .i64 g4,.nilslice,cs9,kd9,.bool c.2])) (.slice (η3.nx + 1) 0 1 (.kn 1)) 1 [.str g1.1 g1.2,.str g2.1 g2.2,.int .i64 g3,.int .i64 g4,.nilslice,cs9,kd9,.bool c.2]:=.inr ⟨η3.nx + 1,0,_,false,_,rfl,if_pos rfl,by omega,Nat.le_refl _,rfl,rfl⟩
   have EH:ExtB ζ.nx ζ ((η3.new (.live false [.str g1.1 g1.2,.str g2.1 g2.2,.int .i64 g3,.int .i64 g4,.nilslice,cs9,kd9,.bool c.2])).new (.live false [.str g1.1 g1.2,.str g2.1 g2.2,.int .i64 g3,.int .i64 g4,.nilslice,cs9,kd9,.bool c.2])):=⟨by omega,fun b hb=>(kH b (by omega)).trans (k3 b hb)⟩
   have ncH:=noCk_of tx oH hx
   have txH:=tmds_ext EH tx
   have t3H:tmd ((η3.new (.live false [.str g1.1 g1.2,.str g2.1 g2.2,.int .i64 g3,.int .i64 g4,.nilslice,cs9,kd9,.bool c.2])).new (.live false [.str g1.1 g1.2,.str g2.1 g2.2,.int .i64 g3,.int .i64 g4,.nilslice,cs9,kd9,.bool c.2])) c [.str g1.1 g1.2,.str g2.1 g2.2,.int .i64 g3,.int .i64 g4,.nilslice,cs9,kd9,.bool c.2]:=t3.ext (extN (extN (.refl _ _)))
   have xl:∀ b,blkIs x b → η.nx + 3 ≤ b ∧ b < ζ.nx:=fun b hb=>own_at ox hb
   refine thenN_sep (by decide) oH yH (by decide) (by have:=(tmds_len tx).1; omega) (by omega) fun η9 o9 n9 k9=>?_
   have n9:η9.nx = η3.nx + 3:=n9
   have k9':∀ b,b < η.nx + 3 → η9.f b = ζ.f b:=fun b hb=>(k9 b (by omega) (fun g=>by have:=xl _ g; omega)).trans ((kH b (by omega)).trans (k3 b (by omega)))
   have e6:η9.f (η.nx + 1 + 1) = _:=(k9' _ (by omega)).trans c6
   simp -implicitDefEqProofs (disch:=omega) only [go_sem,p0,p3,p4,p6,p17,p18,p19,e6,setsL_c]
   have nc6:NoCk η9 (.ptr (η.nx + 1 + 1) 0):=fun b hb=>by
    obtain rfl:η.nx + 1 + 1 = b:=hb
    exact ⟨_,nm,_,e6⟩
   have kp:∀ b,b < η9.nx → ¬ blkIs (.ptr (η.nx + 1 + 1) 0) b → (η9.put (η.nx + 1 + 1) (.live false [.str op.1 op.2,.str nm.1 nm.2,.int .i64 N,.int .i64 a,.nilslice,.nilslice,.slice (η3.nx + 1 + 1) 0 (ls'.length + 1) (.un 8),.bool false])).f b = η9.f b:=fun b _ hb=>if_neg (fun g=>hb g.symm)
   have eg:goKs n (cs ++ [c]) (ks.drop (i + 1)) = exprKs n ks:=eg
   refine ⟨ks.length - (i + 1),by omega,(hI _ _ _).2 ⟨i + 1,_,cs ++ [c],ls' ++ [[.str g1.1 g1.2,.str g2.1 g2.2,.int .i64 g3,.int .i64 g4,.nilslice,cs9,kd9,.bool c.2]],rfl,hlt,⟨by exact p0,by exact p3,by exact p4,by exact p6,by exact p17,by exact p18,rfl⟩,⟨(if_neg (by omega)).trans ((k9' _ (by omega)).trans c3),(if_neg (by omega)).trans ((k9' _ (by omega)).trans c4),if_pos rfl⟩,?_,?_,.inr (by simp),?_,?_,eg,?_,?_⟩⟩
   ·have o10:=own_keep (η':=(η9.put (η.nx + 1 + 1) (.live false [.str op.1 op.2,.str nm.1 nm.2,.int .i64 N,.int .i64 a,.nilslice,.nilslice,.slice (η3.nx + 1 + 1) 0 (ls'.length + 1) (.un 8),.bool false]))) o9 (fun b hb _=>if_neg (by omega)) (Nat.le_refl _)
    rw [List.length_append,flatten_snoc]
    exact o10
   ·exact tmds_app (tmd_keep (tmd_keep t3H ncH k9 (by omega)) nc6 kp (Nat.le_refl _)) (tmds_keep nc6 kp (Nat.le_refl _) (tmds_keep ncH k9 (by omega) txH))
   ·exact ⟨by show η.nx ≤ η9.nx; omega,fun b hb=>(if_neg (by omega)).trans ((k9' b (by omega)).trans (Ex.2 b hb))⟩
   ·show η.nx + 3 ≤ η9.nx; omega
   ·rw [List.length_append,hcs]; rfl
   ·intro k hk
    rcases List.mem_append.1 hk with hk | hk
    ·exact hsm k hk
    ·rw [List.mem_singleton.1 hk]; exact hcs9
  ·rw [ep] at eg
   have eg:.inl p = exprKs n ks:=eg
   rw [← eg] at eE
   have eE:exprK n (.mk op nm N a ks) = .inl p:=eE
   have n3:ζ.nx + 1 ≤ η3.nx:=n3
   have d4:η3.f (η.nx + 1) = _:=(k3 _ (by omega) (by omega)).trans ((kn _ (by omega)).trans c4)
   have w3':Wrong η3 tb p (ζ.nx + 1):=w3
   simp -implicitDefEqProofs (disch:=omega) only [go_sem,p0,p3,p4,p6,p17,p18,p19,Bool.not_false,d4,repL_s,repL_z,setsL_c]
   refine k2 p eE _ (w3'.keep (by omega) ?_ (fun b h1 h2=>(if_neg (by omega)).trans (if_neg (by omega))) (by show η3.nx ≤ η3.nx + 1; omega)) (by show η.nx ≤ η3.nx + 1; omega) fun b h1 h2=>?_
   ·exact (if_neg (by omega)).trans (if_neg (by omega))
   ·exact (if_neg (by omega)).trans ((if_neg (by omega)).trans ((k3 b (by omega) h2).trans ((kn b (by omega)).trans (Ex.2 b h1))))
 ·obtain rfl:i = ks.length:=by omega
  rw [List.drop_length] at eg
  have eg:.inr (cs ++ []) = exprKs n ks:=eg
  rw [List.append_nil] at eg
  rw [← eg] at eE
  have eE:exprK n (.mk op nm N a ks) = if (ownK n op nm N cs).2 then .inr (ownK n op nm N cs).1 else .inl a:=eE
  simp -implicitDefEqProofs (disch:=omega) only [go_sem,p0,p3,p4,p6,p17,p18,p19,c3,c4,c6]
  have sk:smallK cs:=⟨by omega,fun k hk=>by have:=hsm k hk; omega⟩
  refine thenN_call (own_then U (T.ext Ex) (op:=op) (nm:=nm) (N:=N) (a:=a) (kd:=y) (own_rdR ox (tmds_len tx).2) tx sk fun cs8 η4 ck4 x4=>?_)
  have n4:=x4.1
  have hc8:=ck4.cells
  have d3:=(x4.2 _ (by omega)).trans c3
  have d4:=(x4.2 _ (by omega)).trans c4
  have d6:=(x4.2 _ (by omega)).trans c6
  have E4:=extT Ex x4
  obtain ⟨t1,t2,t3,t4,htb,-⟩:=(T.ext E4).hb
  cases eo:(ownK n op nm N cs).2 with
  | true =>
   rw [eo,if_pos rfl] at eE
   simp -implicitDefEqProofs (disch:=omega) only [go_sem,p0,p3,p4,p6,d3,d4,d6,hc8,setsL_c,Bool.not_true]
   have nc6:NoCk η4 (.ptr (η.nx + 1 + 1) 0):=fun b hb=>by
    obtain rfl:η.nx + 1 + 1 = b:=hb
    exact ⟨_,nm,_,d6⟩
   have ck5:CkA ((η4.put (η.nx + 1 + 1) (.live false [.str op.1 op.2,.str nm.1 nm.2,.int .i64 N,.int .i64 a,.nilslice,cs8,x,.bool false])).put (η.nx + 1 + 1) (.live false [.str op.1 op.2,.str nm.1 nm.2,.int .i64 N,.int .i64 a,.nilslice,cs8,x,.bool (ownK n op nm N cs).1.2])) cs8 (ownK n op nm N cs).1.1:=ck_keep ck4 nc6 (fun b _ hb=>(if_neg (fun g=>hb g.symm)).trans (if_neg (fun g=>hb g.symm))) (Nat.le_refl _)
   have nc4:NoCk ((η4.put (η.nx + 1 + 1) (.live false [.str op.1 op.2,.str nm.1 nm.2,.int .i64 N,.int .i64 a,.nilslice,cs8,x,.bool false])).put (η.nx + 1 + 1) (.live false [.str op.1 op.2,.str nm.1 nm.2,.int .i64 N,.int .i64 a,.nilslice,cs8,x,.bool (ownK n op nm N cs).1.2])) (.ptr (η.nx + 1) 0):=fun b hb=>by
    obtain rfl:η.nx + 1 = b:=hb
    exact ⟨_,(0,0),_,(if_neg (by omega)).trans ((if_neg (by omega)).trans d4)⟩
   have ck6:CkA (((η4.put (η.nx + 1 + 1) (.live false [.str op.1 op.2,.str nm.1 nm.2,.int .i64 N,.int .i64 a,.nilslice,cs8,x,.bool false])).put (η.nx + 1 + 1) (.live false [.str op.1 op.2,.str nm.1 nm.2,.int .i64 N,.int .i64 a,.nilslice,cs8,x,.bool (ownK n op nm N cs).1.2])).put (η.nx + 1) (.live false [.str op.1 op.2,.str nm.1 nm.2,.int .i64 N,.int .i64 a,.nilslice,cs8,x,.bool (ownK n op nm N cs).1.2])) cs8 (ownK n op nm N cs).1.1:=ck_keep ck5 nc4 (fun b _ hb=>if_neg (fun g=>hb g.symm)) (Nat.le_refl _)
   exact k1 _ eE _ _ ⟨op,nm,N,a,cs8,x,rfl,ck6,own_cells ox⟩ (extP (extP (extP E4 (by omega)) (by omega)) (by omega))
  | false =>
   rw [eo,if_neg (by decide)] at eE
   simp -implicitDefEqProofs (disch:=omega) only [go_sem,p0,p3,p4,p6,d3,d4,d6,hc8,setsL_c,Bool.not_false,htb,repL_s,repL_z]
   have kA:∀ b,b < η4.nx → b ≠ η.nx + 1 + 1 → ((((((η4.put (η.nx + 1 + 1) (.live false [.str op.1 op.2,.str nm.1 nm.2,.int .i64 N,.int .i64 a,.nilslice,cs8,x,.bool false])).put (η.nx + 1 + 1) (.live false [.str op.1 op.2,.str nm.1 nm.2,.int .i64 N,.int .i64 a,.nilslice,cs8,x,.bool (ownK n op nm N cs).1.2])).at_ (η4.nx + 7)).new (.live false [.int .i64 a]))).at_ (η4.nx + 12)).f b = η4.f b:=fun b h1 h2=>(if_neg (by show ¬ b = η4.nx + 7; omega)).trans ((if_neg h2).trans (if_neg h2))
   have wA:((((((η4.put (η.nx + 1 + 1) (.live false [.str op.1 op.2,.str nm.1 nm.2,.int .i64 N,.int .i64 a,.nilslice,cs8,x,.bool false])).put (η.nx + 1 + 1) (.live false [.str op.1 op.2,.str nm.1 nm.2,.int .i64 N,.int .i64 a,.nilslice,cs8,x,.bool (ownK n op nm N cs).1.2])).at_ (η4.nx + 7)).new (.live false [.int .i64 a]))).at_ (η4.nx + 12)).f (η4.nx + 7) = .live false [.int .i64 a]:=if_pos rfl
   have nA:((((((η4.put (η.nx + 1 + 1) (.live false [.str op.1 op.2,.str nm.1 nm.2,.int .i64 N,.int .i64 a,.nilslice,cs8,x,.bool false])).put (η.nx + 1 + 1) (.live false [.str op.1 op.2,.str nm.1 nm.2,.int .i64 N,.int .i64 a,.nilslice,cs8,x,.bool (ownK n op nm N cs).1.2])).at_ (η4.nx + 7)).new (.live false [.int .i64 a]))).at_ (η4.nx + 12)).nx = η4.nx + 12:=rfl
   generalize (((((η4.put (η.nx + 1 + 1) (.live false [.str op.1 op.2,.str nm.1 nm.2,.int .i64 N,.int .i64 a,.nilslice,cs8,x,.bool false])).put (η.nx + 1 + 1) (.live false [.str op.1 op.2,.str nm.1 nm.2,.int .i64 N,.int .i64 a,.nilslice,cs8,x,.bool (ownK n op nm N cs).1.2])).at_ (η4.nx + 7)).new (.live false [.int .i64 a]))).at_ (η4.nx + 12) = ηA at *
   refine dE_sep (s:=1) (base:=0) (n:=0) (m:=1) (l:=[]) (by decide) .nil (.inr ⟨η4.nx + 7,0,.kn 1,false,[.int .i64 a],rfl,wA,by omega,Nat.le_refl _,rfl,rfl⟩) (by decide) (by decide) (Nat.zero_le _) fun η9 o9 n9 k9=>?_
   have htA:ηA.f tb = _:=(kA _ (by omega) (by omega)).trans htb
   have h9:η9.f tb = _:=(k9 _ (by omega) (fun g=>g)).trans htA
   have d9:η9.f (η.nx + 1) = _:=(k9 _ (by omega) (fun g=>g)).trans ((kA _ (by omega) (by omega)).trans d4)
   simp -implicitDefEqProofs (disch:=omega) only [go_sem,p0,p3,p4,p6,htb,htA,h9,d9,setsL_c]
   have f9:η9.f ηA.nx = .live false [.int .i64 a]:=by
    obtain ⟨_,⟨q,_⟩ | ⟨c',_,_,⟨q,h0,_⟩ | ⟨q,q2⟩⟩⟩:=o9
    ·cases q
    ·cases h0
    ·cases q; exact q2
   refine k2 a eE _ ⟨_,_,_,_,_,_,ηA.nx,by omega,(if_neg (by omega)).trans (if_pos rfl),(if_neg (by omega)).trans ((if_neg (by omega)).trans f9),by show ηA.nx < η9.nx; omega⟩ (by show η.nx ≤ η9.nx; omega) fun b h1 h2=>?_
   exact (if_neg (by omega)).trans ((if_neg h2).trans ((k9 _ (by omega) (fun g=>g)).trans ((kA _ (by omega) (by omega)).trans (E4.2 b h1))))
end Go.Proofs.Ytpjmiopplfmcfaa
namespace Go.Plain
open Go.Eng
set_option autoImplicit false
theorem eqsK_drop {n:Nd} {l:List Eqn} {i:Nat} (hi:i < l.length):eqsK n (l.drop i) = match exprK n l[i].e with | .inl p=>some p | .inr c=>if fitsK c (clkOf n l[i].nm) then eqsK n (l.drop (i + 1)) else some l[i].a:=by
 rw [List.drop_eq_getElem_cons hi]; rfl
theorem clocksF_drop {l:List Nd} {i:Nat} (hi:i < l.length):clocksF (l.drop i) = match eqsK l[i] l[i].eqs with | some a=>some a | none=>clocksF (l.drop (i + 1)):=by
 rw [List.drop_eq_getElem_cons hi]; rfl
mutual
theorem exprK_le {n:Nd}:∀ {e:Tr} {p:Nat},okE e → exprK n e = .inl p → p < 9223372036854775808
 | .mk op nm N a ks,p,ok,h=>by
  unfold okE at ok
  obtain ⟨ha,-,hks⟩:=ok
  unfold exprK at h
  cases g:exprKs n ks with
  | inl p' =>
   rw [g] at h; cases h
   exact exprKs_le ((okEs_iff _).1 hks) g
  | inr cs =>
   rw [g] at h
   dsimp only at h
   split at h
   ·cases h
   ·cases h; omega
theorem exprKs_le {n:Nd}:∀ {ks:List Tr} {p:Nat},(∀ k ∈ ks,okE k) → exprKs n ks = .inl p → p < 9223372036854775808
 | [],p,ok,h=>by
  unfold exprKs at h
  cases h
 | k :: r,p,ok,h=>by
  unfold exprKs at h
  cases g:exprK n k with
  | inl p' =>
   rw [g] at h; cases h
   exact exprK_le (ok k (List.mem_cons_self ..)) g
  | inr c =>
   rw [g] at h
   dsimp only at h
   cases g2:exprKs n r with
   | inl p' =>
    rw [g2] at h; cases h
    exact exprKs_le (fun x hx=>ok x (List.mem_cons_of_mem _ hx)) g2
   | inr cs'=>rw [g2] at h; cases h
end
end Go.Plain
namespace Go.Proofs.Ytpjmiopplfmcfaa
open Go.Eng Go.Plain
set_option autoImplicit false
set_option maxRecDepth 100000
variable {nat:∀ [Deep],Nats}
set_option maxHeartbeats 8000000 in
theorem clkCheck_then (U:Usual nat) {l:List Nd} {ls:List (List AV)} {η:HN} {v:AV} (ok:okL l) (rv:RdR 6 η v ls) (rl:rdNs tt η l ls) {Q:AV → HN → Prop}
  (k:∀ η',ExtB η.nx η η' → Q (.agg [.int .i64 (faultOf 10 (clocksF l)).1,.int .i64 (faultOf 10 (clocksF l)).2]) η'):∃ v' η',CallN Try.prog nat 29 [v] η v' η' ∧ Q v' η':=by
 obtain ⟨hl,okn⟩:=ok
 obtain ⟨lsl,ls6⟩:=rdNs_len rl
 refine call_of (PT:=pl29) Try.func29 rfl (U 29 (by decide)) ok29 rfl ?_
 have ln:=fun η' e w=>row_len (η':=η') rv lsl (by omega) e w
 simp -implicitDefEqProofs (disch:=omega) only [go_sem,ln]
 obtain ⟨I,hI⟩:∃ I:Nat → FN → HN → Prop,∀ m φ ζ,I m φ ζ ↔ ∃ i,m = l.length - i ∧ i ≤ l.length ∧ (φ 0 = v ∧ φ 2 = .ptr η.nx 0 ∧ φ 10 = v ∧ φ 11 = .int .i64 l.length ∧ φ 12 = .int .i64 i) ∧ ExtB η.nx η ζ ∧ ζ.f η.nx = .live false [.int .i64 0,.int .i64 0] ∧ η.nx < ζ.nx ∧ clocksF (l.drop i) = clocksF l:=⟨_,fun _ _ _=>Iff.rfl⟩
 refine wpN_loop I l.length ((hI _ _ _).2 ⟨0,rfl,Nat.zero_le _,⟨rfl,rfl,rfl,rfl,rfl⟩,extN (.refl _ _),if_pos rfl,Nat.lt_succ_self _,rfl⟩) ?_
 intro m φ ζ hi
 obtain ⟨i,hm,hi,⟨p0,p2,p10,p11,p12⟩,Ex,c2,nz,en⟩:=(hI _ _ _).1 hi
 by_cases hlt:i < l.length
 ·obtain ⟨hi',ri⟩:=rdNs_at rl i hlt
  obtain ⟨b',off,cap,ro,row,rfl,hbv',hbn',hlen,hrow⟩:=rv.at hi'
  have hbz:ζ.f b' = _:=(Ex.2 b' hbn').trans hbv'
  have okd:=okn _ (List.getElem_mem hlt)
  rw [clocksF_drop hlt] at en
  generalize hd:l[i] = d at *
  generalize hz:ls[i] = zd at *
  have ri':=ri
  obtain ⟨y1,y2,y3,y4,rfl,-,-,-,-,qs,r4,r5⟩:=ri'
  have hsn:sV d.nm = .str d.nm.1 d.nm.2:=rfl
  rw [hsn] at ri hrow
  have lq:=(rdQs_len r5).1
  have okq:=okd.2.2.2.2.2
  have hEl:=okd.2.2.2.2.1
  have l4:=fun η' e w=>row_len (η':=η') r4 lq (by have:=okd.2.2.2.2.1; omega) e w
  have E1:ExtB η.nx η (ζ.new (.live false [.str d.nm.1 d.nm.2,y1,y2,y3,y4,.int .i64 d.a])):=extN Ex
  have d4:(ζ.new (.live false [.str d.nm.1 d.nm.2,y1,y2,y3,y4,.int .i64 d.a])).f ζ.nx = .live false [.str d.nm.1 d.nm.2,y1,y2,y3,y4,.int .i64 d.a]:=if_pos rfl
  have d2:(ζ.new (.live false [.str d.nm.1 d.nm.2,y1,y2,y3,y4,.int .i64 d.a])).f η.nx = .live false [.int .i64 0,.int .i64 0]:=(if_neg (by omega)).trans c2
  have n1:(ζ.new (.live false [.str d.nm.1 d.nm.2,y1,y2,y3,y4,.int .i64 d.a])).nx = ζ.nx + 1:=rfl
  simp -implicitDefEqProofs (disch:=omega) only [go_sem,p0,p2,p10,p11,p12,hbz,hrow,repL_s,repL_z,setsL_c,l4]
  generalize ζ.new (.live false [.str d.nm.1 d.nm.2,y1,y2,y3,y4,.int .i64 d.a]) = ζ1 at *
  obtain ⟨J,hJ⟩:∃ J:Nat → FN → HN → Prop,∀ m φ ζ',J m φ ζ' ↔ ∃ j,m = d.eqs.length - j ∧ j ≤ d.eqs.length ∧ (φ 0 = .slice b' off ls.length cap ∧ φ 2 = .ptr η.nx 0 ∧ φ 4 = .ptr ζ.nx 0 ∧ φ 10 = .slice b' off ls.length cap ∧ φ 11 = .int .i64 l.length ∧ φ 12 = .int .i64 i ∧ φ 17 = y4 ∧ φ 18 = .int .i64 d.eqs.length ∧ φ 19 = .int .i64 j) ∧ ExtB ζ1.nx ζ1 ζ' ∧ eqsK d (d.eqs.drop j) = eqsK d d.eqs:=⟨_,fun _ _ _=>Iff.rfl⟩
  refine wpN_loop J d.eqs.length ((hJ _ _ _).2 ⟨0,rfl,Nat.zero_le _,⟨by exact p0,by exact p2,rfl,by exact p10,by exact p11,by exact p12,rfl,rfl,rfl⟩,.refl _ _,rfl⟩) ?_
  clear p0 p2 p10 p11 p12
  intro m φ ζ' hj
  obtain ⟨j,hm',hj,⟨p0,p2,p4,p10,p11,p12,p17,p18,p19⟩,Ez,eq⟩:=(hJ _ _ _).1 hj
  have nz':=Ez.1
  have EZ:ExtB η.nx η ζ':=extT E1 Ez
  have f2:ζ'.f η.nx = _:=(Ez.2 _ (by omega)).trans d2
  have f4:ζ'.f ζ.nx = _:=(Ez.2 _ (by omega)).trans d4
  by_cases hjt:j < d.eqs.length
  ·obtain ⟨hj',rj⟩:=rdQs_at r5 j hjt
   obtain ⟨b,off2,cap2,ro2,row2,rfl,hbv,hbn,hlen2,hrow2⟩:=r4.at hj'
   have hbz2:ζ'.f b = _:=(EZ.2 b hbn).trans hbv
   have okq':=okq _ (List.getElem_mem hjt)
   rw [eqsK_drop hjt] at eq
   generalize d.eqs[j] = q at *
   obtain ⟨ze,eze,re⟩:=rj
   have ref:=rdE_cells re
   obtain ⟨g1,g2,g3,g4,g5,rfl⟩:=ref
   rw [eze] at hrow2
   have hrow2:(row2.drop (off2 + j * 7)).take 7 = [.str q.nm.1 q.nm.2,.str g1.1 g1.2,.str g2.1 g2.2,.int .i64 g3,.int .i64 g4,g5,.int .i64 q.a]:=hrow2
   have ha:=okq'.1
   simp -implicitDefEqProofs (disch:=omega) only [go_sem,p0,p2,p4,p10,p11,p12,p17,p18,p19,hbz2,hrow2,f4,repL_s,repL_z,setsL_c]
   obtain ⟨W,eW⟩:∃ W,W = (ζ'.new (.live false [.str q.nm.1 q.nm.2,.str g1.1 g1.2,.str g2.1 g2.2,.int .i64 g3,.int .i64 g4,g5,.int .i64 q.a])).new (.live false [.str d.nm.1 d.nm.2,y1,y2,y3,.slice b off2 qs.length cap2,.int .i64 d.a,.nilslice]):=⟨_,rfl⟩
   have E3:ExtB ζ'.nx ζ' W:=by rw [eW]; exact extN (extN (.refl _ _))
   have w6:W.f ζ'.nx = .live false [.str q.nm.1 q.nm.2,.str g1.1 g1.2,.str g2.1 g2.2,.int .i64 g3,.int .i64 g4,g5,.int .i64 q.a]:=by rw [eW]; exact (if_neg (by show ¬ ζ'.nx = ζ'.nx + 1; omega)).trans (if_pos rfl)
   have w7:W.f (ζ'.nx + 1) = .live false [.str d.nm.1 d.nm.2,y1,y2,y3,.slice b off2 qs.length cap2,.int .i64 d.a,.nilslice]:=by rw [eW]; exact if_pos rfl
   have nW:W.nx = ζ'.nx + 2:=by rw [eW]; rfl
   rw [← eW]
   have EW:ExtB η.nx η W:=extT EZ E3
   have fW2:W.f η.nx = _:=(E3.2 _ (by omega)).trans f2
   have fW4:W.f ζ.nx = _:=(E3.2 _ (by omega)).trans f4
   have T:TimAt W (ζ'.nx + 1) d .nilslice:=⟨⟨y1,y2,y3,_,w7,rdN_ext ri EW⟩,by omega,okd⟩
   refine thenN_call (timer_then U q.e okq'.2 W _ _ T (rdE_keep (keep_b EW) EW.1 (fun _ h=>h) _ _ re) (fun c ec z9 η3 t3 x3=>?_) (fun p ep η3 w3 n3 k3=>?_))
   ·rw [ec] at eq
    have eq:(if fitsK c (clkOf d q.nm) then eqsK d (d.eqs.drop (j + 1)) else some q.a) = eqsK d d.eqs:=eq
    have hcs9:=exprK_small (clk_len okd) ec
    have hcd:=clk_len okd q.nm
    have t3':=t3
    obtain ⟨h1,h2,h3,h4,cs9,kd9,rfl,hck,hkd⟩:=t3'
    have hc9:=hck.cells
    have n3:=x3.1
    obtain ⟨V,eV⟩:∃ V,V = η3.new (.live false [.str h1.1 h1.2,.str h2.1 h2.2,.int .i64 h3,.int .i64 h4,.nilslice,cs9,kd9,.bool c.2]):=⟨_,rfl⟩
    have EV:ExtB η3.nx η3 V:=by rw [eV]; exact extN (.refl _ _)
    have v8:V.f η3.nx = .live false [.str h1.1 h1.2,.str h2.1 h2.2,.int .i64 h3,.int .i64 h4,.nilslice,cs9,kd9,.bool c.2]:=by rw [eV]; exact if_pos rfl
    have nV:V.nx = η3.nx + 1:=by rw [eV]; rfl
    have fV4:V.f ζ.nx = _:=(EV.2 _ (by omega)).trans ((x3.2 _ (by omega)).trans fW4)
    have fV2:V.f η.nx = _:=(EV.2 _ (by omega)).trans ((x3.2 _ (by omega)).trans fW2)
    have fV6:V.f ζ'.nx = _:=(EV.2 _ (by omega)).trans ((x3.2 _ (by omega)).trans w6)
    simp -implicitDefEqProofs (disch:=omega) only [go_sem,p0,p2,p4,p10,p11,p12,p17,p18,p19,repL_s,repL_z,setsL_c,hc9,hkd,Bool.not_true,← eV,v8,fV4,fV6]
    have EE:=extT EW (extT x3 EV)
    refine dE_call (of_then U (rdN_ext ri EE) okd q.nm fun y5 η5 k5 x5=>?_)
    have n5:=x5.1
    have g8:=(x5.2 _ (by omega)).trans v8
    have g4:=(x5.2 _ (by omega)).trans fV4
    have g2:=(x5.2 _ (by omega)).trans fV2
    have g6:=(x5.2 _ (by omega)).trans fV6
    simp -implicitDefEqProofs (disch:=omega) only [go_sem,v8,fV4,fV6,g8,g4,g6]
    refine dE_call (fits_then U (t3.ext (extT EV x5)) k5 (by omega) (by omega) fun η6 x6=>?_)
    have n6:=x6.1
    have i2:=(x6.2 _ (by omega)).trans g2
    have i6:=(x6.2 _ (by omega)).trans g6
    have i8:=(x6.2 _ (by omega)).trans g8
    have i4:=(x6.2 _ (by omega)).trans g4
    have E6:=extT (extT EE x5) x6
    cases ef:fitsK c (clkOf d q.nm) with
    | true =>
     rw [ef,if_pos rfl] at eq
     have eq:eqsK d (d.eqs.drop (j + 1)) = eqsK d d.eqs:=eq
     simp -implicitDefEqProofs (disch:=omega) only [go_sem,p0,p2,p4,p10,p11,p12,p17,p18,p19,v8,fV4,fV6,g8,g4,g6,i4,i6,i8,Bool.not_true]
     exact ⟨d.eqs.length - (j + 1),by omega,(hJ _ _ _).2 ⟨j + 1,rfl,hjt,⟨by exact p0,by exact p2,by exact p4,by exact p10,by exact p11,by exact p12,by exact p17,by exact p18,rfl⟩,extT (extT (extT (extT (extT Ez E3) x3) EV) x5) x6,eq⟩⟩
    | false =>
     rw [ef,if_neg (by decide)] at eq
     have eq:some q.a = eqsK d d.eqs:=eq
     rw [← eq] at en
     have en:some q.a = clocksF l:=en
     rw [← en] at k
     simp -implicitDefEqProofs (disch:=omega) only [go_sem,p0,p2,p4,p10,p11,p12,p17,p18,p19,v8,fV4,fV6,g8,g4,g6,i2,i4,i6,i8,Bool.not_false]
     exact k _ (extP E6)
   ·rw [ep] at eq
    have eq:some p = eqsK d d.eqs:=eq
    rw [← eq] at en
    have en:some p = clocksF l:=en
    rw [← en] at k
    obtain ⟨x0,x1,x2,x3,x4,x5,w,hw0,hwt,hww,hwn⟩:=w3
    have hp:=exprK_le okq'.2 ep
    have fV2:η3.f η.nx = _:=(k3 _ (by omega) (by omega)).trans fW2
    have E9:ExtB η.nx η η3:=⟨by omega,fun c hc=>(k3 c (by omega) (by omega)).trans (EW.2 c hc)⟩
    simp -implicitDefEqProofs (disch:=omega) only [go_sem,p0,p2,p4,p10,p11,p12,p17,p18,p19,repL_s,repL_z,setsL_c,Bool.not_false,hwt,hww,fV2]
    exact k _ (extP (extN E9))
  ·obtain rfl:j = d.eqs.length:=by omega
   rw [List.drop_length] at eq
   have eq:none = eqsK d d.eqs:=eq
   rw [← eq] at en
   simp -implicitDefEqProofs (disch:=omega) only [go_sem,p0,p2,p4,p10,p11,p12,p17,p18,p19]
   exact ⟨l.length - (i + 1),by omega,(hI _ _ _).2 ⟨i + 1,rfl,hlt,⟨by exact p0,by exact p2,by exact p10,by exact p11,rfl⟩,EZ,f2,by omega,en⟩⟩
 ·obtain rfl:i = l.length:=by omega
  rw [List.drop_length] at en
  have en:none = clocksF l:=en
  rw [← en] at k
  simp -implicitDefEqProofs (disch:=omega) only [go_sem,p0,p2,p10,p11,p12,c2]
  exact k _ (extP Ex)
end Go.Proofs.Ytpjmiopplfmcfaa
