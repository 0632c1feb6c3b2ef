/- What is proved: CauRings, walked. Conditions: as each theorem says. -/
import Derived.Test.YtkggpdaglhnonaaCauB
import Derived.Test.YtkggpdaglhnonaaPlainR
set_option linter.unusedVariables false
set_option linter.unusedSimpArgs false
set_option linter.unusedSectionVars false
namespace Go.Proofs.Ytkggpdaglhnonaa
open Go.Eng Go.Plain
set_option autoImplicit false
set_option maxRecDepth 100000
variable {nat:∀ [Deep],Nats}
attribute [local irreducible] wpN
@[go_sem] theorem opd_r_col {φ:FN}:opd φ (.const (.string ⟨#[58,32,105,110,116,59,32]⟩)) = .str 7 9072570509369402:=rfl
@[go_sem] theorem opd_r_nil {φ:FN}:opd φ (.const (.string ⟨#[32,61,32,48,32,102,98,121,32]⟩)) = .str 9 599042476073444982048:=rfl
@[go_sem] theorem opd_r_one {φ:FN}:opd φ (.const (.string ⟨#[32,61,32,49,32,43,32]⟩)) = .str 7 9054616517885216:=rfl
@[go_sem] theorem opd_r_pre {φ:FN}:opd φ (.const (.string ⟨#[110,111,100,101,32,102,40,120,58,32,105,110,116,41,32,114,101,116,117,114,110,115,32,40,121,58,32,105,110,116,41,59,32,118,97,114,32]⟩)) = .str 37 16136547409791388807029888324613952667328793561715118408096688308666934005646719371734894:=rfl
@[go_sem] theorem opd_r_lety {φ:FN}:opd φ (.const (.string ⟨#[108,101,116,32,121,32,61,32,120,59,32]⟩)) = .str 11 38966461782494975205074284:=rfl
@[go_sem] theorem opd_r_y {φ:FN}:opd φ (.const (.string ⟨#[121]⟩)) = .str 1 121:=rfl
theorem cr_col:codesL colI = 9072570509369402:=by kernel_rfl
theorem lr_col:colI.length = 7:=rfl
theorem cr_nil:codesL nilF = 599042476073444982048:=by kernel_rfl
theorem lr_nil:nilF.length = 9:=rfl
theorem cr_one:codesL oneP = 9054616517885216:=by kernel_rfl
theorem lr_one:oneP.length = 7:=rfl
theorem cr_pre:codesL preR = 16136547409791388807029888324613952667328793561715118408096688308666934005646719371734894:=by kernel_rfl
theorem lr_pre:preR.length = 37:=rfl
theorem cr_lety:codesL letY = 38966461782494975205074284:=by kernel_rfl
theorem lr_lety:letY.length = 11:=rfl
theorem cr_tel:codesL telR = 7103860:=by kernel_rfl
theorem lr_tel:telR.length = 3:=rfl
theorem cr_semi:codesL semiB = 8251:=by kernel_rfl
theorem lr_semi:semiB.length = 2:=rfl
theorem len_wB (k:Nat):(wB k).length = 2:=rfl
theorem cd_w {k:Nat} (h:k < 20):strCat 1 119 (97 + k) = codesL (wB k):=by
 refine (catS [119] [UInt8.ofNat (97 + k)] rfl rfl (w:=97 + k) ?_).trans rfl
 show (UInt8.ofNat (97 + k)).toNat + 256 * 0 = _
 rw [u8_of (by omega)]; omega
theorem catR {n v w:Nat} {x y:By} (hn:n = x.length) (hv:v = codesL x) (hw:w = codesL y):strCat n v w = codesL (x ++ y):=by
 subst hn hv hw
 exact cat_codes x y
theorem strR {n v:Nat} {x y:By} (hn:n = x.length) (hv:v = codesL x) (h:x = y):AV.str n v = .str y.length (codesL y):=by
 subst hn hv h; rfl
set_option maxHeartbeats 8000000 in
theorem rings_spec (U:Usual nat) (hk:∀ [Deep],nat 46 = some trueNat) (η:HN) (n cut:Nat) (fb:Bool) (hn:n < 18446744073709551616) (hb:cut < 18446744073709551616) :
  ∃ v η',CallN Try.prog nat 18 [.int .i64 n,.int .i64 cut,.bool fb] η v η' ∧ v = .bool true:=by
 refine call_of (PT:=pl18) Try.func18 rfl (U 18 (by decide)) ok18 rfl ?_
 simp -implicitDefEqProofs (disch:=omega) only [go_sem]
 refine thenN_call ⟨_,_,callN_true hk,?_⟩
 simp -implicitDefEqProofs (disch:=omega) only [go_sem,Bool.not_true]
 by_cases A1:9223372036854775807 < n
 ·have f1:=ltN_big A1 (m:=1) (by decide)
  simp -implicitDefEqProofs (disch:=omega) only [go_sem,f1]
 by_cases A2:n < 1
 ·simp -implicitDefEqProofs (disch:=omega) only [go_sem]
 by_cases A3:20 < n
 ·simp -implicitDefEqProofs (disch:=omega) only [go_sem]
 by_cases A4:9223372036854775807 < cut
 ·have f1:=ltN_big A4 (m:=0) (by decide)
  simp -implicitDefEqProofs (disch:=omega) only [go_sem,f1]
 by_cases A5:n ≤ cut
 ·simp -implicitDefEqProofs (disch:=omega) only [go_sem]
 have hc:cut < n:=by omega
 simp -implicitDefEqProofs (disch:=omega) only [go_sem]
 obtain ⟨I,hI⟩:∃ I:Nat → FN → HN → Prop,∀ m φ ζ,I m φ ζ ↔ ∃ i,m = n - i ∧ i ≤ n ∧ (φ 0 = .int .i64 n ∧ φ 1 = .int .i64 cut ∧ φ 2 = .bool fb ∧ φ 9 = .int .i64 i ∧ φ 7 = .str (repB vB 0 i).length (codesL (repB vB 0 i)) ∧ φ 8 = .str (repB (gB n cut fb) 0 i).length (codesL (repB (gB n cut fb) 0 i))):=⟨_,fun _ _ _=>Iff.rfl⟩
 refine wpN_loop I n ((hI _ _ _).2 ⟨0,rfl,Nat.zero_le _,rfl,rfl,rfl,rfl,rfl,rfl⟩) ?_
 intro m φ ζ hi
 obtain ⟨i,hm,hi,p0,p1,p2,p9,p7,p8⟩:=(hI _ _ _).1 hi
 have s7:(repB vB 0 i).length ≤ 500:=by
  have h1:=rep_leR (f:=vB) v_len i 0
  omega
 have s8:(repB (gB n cut fb) 0 i).length ≤ 500:=by
  have h1:=rep_leR (f:=gB n cut fb) (g_len) i 0
  omega
 have r7:repB vB 0 (i + 1) = repB vB 0 i ++ vB i:=by rw [repB_snoc,Nat.zero_add]
 have r8:repB (gB n cut fb) 0 (i + 1) = repB (gB n cut fb) 0 i ++ gB n cut fb i:=by rw [repB_snoc,Nat.zero_add]
 obtain ⟨X7,h7⟩:∃ X,X = repB vB 0 i:=⟨_,rfl⟩
 obtain ⟨X8,h8⟩:∃ X,X = repB (gB n cut fb) 0 i:=⟨_,rfl⟩
 rw [← h7] at p7 s7 r7
 rw [← h8] at p8 s8 r8
 by_cases hlt:i < n
 ·have hx:(i + 1) % n < n:=Nat.mod_lt _ (by omega)
  have g1:(2:Nat) = (wB i).length:=rfl
  have ev:AV.str (X7.length + (1 + 1) + 7) (strCat (X7.length + (1 + 1)) (strCat X7.length (codesL X7) (strCat 1 119 (97 + i))) 9072570509369402) = .str (X7 ++ vB i).length (codesL (X7 ++ vB i)) :=
   strR (x:=X7 ++ wB i ++ colI) (by simp only [List.length_append,len_wB,lr_col]) (catR (by simp only [List.length_append,len_wB]) (catR rfl rfl (cd_w (by omega))) cr_col.symm) (by unfold vB; simp only [List.append_assoc])
  have e1:AV.str (X8.length + (1 + 1) + 7 + (1 + 1) + 2) (strCat (X8.length + (1 + 1) + 7 + (1 + 1)) (strCat (X8.length + (1 + 1) + 7) (strCat (X8.length + (1 + 1)) (strCat X8.length (codesL X8) (strCat 1 119 (97 + i))) 9054616517885216) (strCat 1 119 (97 + (i + 1) % n))) 8251) = .str (X8 ++ (wB i ++ (oneP ++ (wB (nxt n i) ++ semiB)))).length (codesL (X8 ++ (wB i ++ (oneP ++ (wB (nxt n i) ++ semiB))))) :=
   strR (x:=X8 ++ wB i ++ oneP ++ wB (nxt n i) ++ semiB) (by simp only [List.length_append,len_wB,lr_one,lr_semi]) (catR (by simp only [List.length_append,len_wB,lr_one]) (catR (by simp only [List.length_append,len_wB,lr_one]) (catR (by simp only [List.length_append,len_wB]) (catR rfl rfl (cd_w (by omega))) cr_one.symm) (cd_w (by omega))) cr_semi.symm) (by simp only [List.append_assoc])
  have e2:AV.str (X8.length + (1 + 1) + 9 + (1 + 1) + 2) (strCat (X8.length + (1 + 1) + 9 + (1 + 1)) (strCat (X8.length + (1 + 1) + 9) (strCat (X8.length + (1 + 1)) (strCat X8.length (codesL X8) (strCat 1 119 (97 + i))) 599042476073444982048) (strCat 1 119 (97 + (i + 1) % n))) 8251) = .str (X8 ++ (wB i ++ (nilF ++ (wB (nxt n i) ++ semiB)))).length (codesL (X8 ++ (wB i ++ (nilF ++ (wB (nxt n i) ++ semiB))))) :=
   strR (x:=X8 ++ wB i ++ nilF ++ wB (nxt n i) ++ semiB) (by simp only [List.length_append,len_wB,lr_nil,lr_semi]) (catR (by simp only [List.length_append,len_wB,lr_nil]) (catR (by simp only [List.length_append,len_wB,lr_nil]) (catR (by simp only [List.length_append,len_wB]) (catR rfl rfl (cd_w (by omega))) cr_nil.symm) (cd_w (by omega))) cr_semi.symm) (by simp only [List.append_assoc])
  cases hf:fb with
  | true =>
   rw [hf] at p2 r8
   by_cases hic:i = cut
   ·have hd:decide (i = cut) = true:=decide_eq_true hic
    have eg:gB n cut true i = wB i ++ (nilF ++ (wB (nxt n i) ++ semiB)):=by unfold gB isCut; rw [Bool.true_and,hd,if_pos rfl]
    simp -implicitDefEqProofs (disch:=omega) only [go_sem,p0,p1,p2,p7,p8,p9,repL_s,repL_z,setsL_c,hd]
    refine ⟨n - (i + 1),by omega,(hI _ _ _).2 ⟨i + 1,rfl,hlt,by exact p0,by exact p1,by rw [hf]; exact p2,rfl,?_,?_⟩⟩
    ·rw [r7]; exact ev
    ·rw [hf,r8,eg]; exact e2
   ·have hd:decide (i = cut) = false:=decide_eq_false hic
    have eg:gB n cut true i = wB i ++ (oneP ++ (wB (nxt n i) ++ semiB)):=by unfold gB isCut; rw [Bool.true_and,hd,if_neg (by decide)]
    simp -implicitDefEqProofs (disch:=omega) only [go_sem,p0,p1,p2,p7,p8,p9,repL_s,repL_z,setsL_c,hd]
    refine ⟨n - (i + 1),by omega,(hI _ _ _).2 ⟨i + 1,rfl,hlt,by exact p0,by exact p1,by rw [hf]; exact p2,rfl,?_,?_⟩⟩
    ·rw [r7]; exact ev
    ·rw [hf,r8,eg]; exact e1
  | false =>
   rw [hf] at p2 r8
   have eg:gB n cut false i = wB i ++ (oneP ++ (wB (nxt n i) ++ semiB)):=by unfold gB isCut; rw [Bool.false_and,if_neg (by decide)]
   simp -implicitDefEqProofs (disch:=omega) only [go_sem,p0,p1,p2,p7,p8,p9,repL_s,repL_z,setsL_c]
   refine ⟨n - (i + 1),by omega,(hI _ _ _).2 ⟨i + 1,rfl,hlt,by exact p0,by exact p1,by rw [hf]; exact p2,rfl,?_,?_⟩⟩
   ·rw [r7]; exact ev
   ·rw [hf,r8,eg]; exact e1
 ·obtain rfl:i = n:=by omega
  have eT:preR ++ X7 ++ letY ++ X8 ++ telR = ringB i cut fb:=by rw [h7,h8]; unfold ringB; simp only [List.append_assoc]
  have tx:AV.str (37 + X7.length + 11 + X8.length + 3) (strCat (37 + X7.length + 11 + X8.length) (strCat (37 + X7.length + 11) (strCat (37 + X7.length) (strCat 37 16136547409791388807029888324613952667328793561715118408096688308666934005646719371734894 (codesL X7)) 38966461782494975205074284) (codesL X8)) 7103860) = .str (ringB i cut fb).length (codesL (ringB i cut fb)) :=
   strR (x:=preR ++ X7 ++ letY ++ X8 ++ telR) (by simp only [List.length_append,lr_pre,lr_lety,lr_tel]) (catR (by simp only [List.length_append,lr_pre,lr_lety]) (catR (by simp only [List.length_append,lr_pre,lr_lety]) (catR (by simp only [List.length_append,lr_pre]) (catR lr_pre.symm cr_pre.symm rfl) cr_lety.symm) rfl) cr_tel.symm) eT
  obtain ⟨c1,c2,ax,ay,ep⟩:=ring_tree (n:=i) (cut:=cut) (fb:=fb) (by omega) (by omega)
  have hl:=ring_len (n:=i) (cut:=cut) (fb:=fb) (by omega)
  simp -implicitDefEqProofs (disch:=omega) only [go_sem,p0,p1,p2,p7,p8,p9]
  rw [tx]
  refine thenN_call (parse_of U (cut_spec U) (by omega) fun v η2 tr E2=>?_)
  obtain ⟨ls,r1,r2⟩:=tree_rd tr
  have okl:=parse_ok (ringB i cut fb)
  rw [ep] at okl r2 ⊢
  have e3:ExtB η2.nx η2 (η2.new (.live false [.int .i64 0,.int .i64 0])):=extN (.refl _ _)
  have c3:(η2.new (.live false [.int .i64 0,.int .i64 0])).f η2.nx = .live false [.int .i64 0,.int .i64 0]:=if_pos rfl
  have hN:(ownN (ringN i cut fb c1 c2 ax ay)).length ≤ 16385:=by rw [ring_own,List.length_cons,List.length_map,List.length_range]; omega
  obtain ⟨dn,hdn⟩:∃ dn,dn = ringN i cut fb c1 c2 ax ay:=⟨_,rfl⟩
  rw [← hdn] at okl r2 hN
  have okl:okL [dn]:=okl
  simp -implicitDefEqProofs (disch:=omega) only [go_sem,p0,p1,p2,c3,repL_s,repL_z,setsL_c]
  generalize η2.new (.live false [.int .i64 0,.int .i64 0]) = η3 at *
  refine thenN_call (back_spec U okl (r1.ext (base:=0) e3) (rdNs_keep (keep_b e3) e3.1 (fun _ h=>h) r2) fun x4 η4 ls4 o4 r4 E4=>?_)
  obtain ⟨lsl,ls6⟩:=rdNs_len r4
  have rv:=own_rdR o4 ls6
  obtain ⟨hi',ri⟩:=rdNs_at r4 0 (Nat.zero_lt_one)
  have ri:rdN tt η4 dn ls4[0]:=ri
  obtain ⟨b',off,cap,ro,row,ex,hbv,hbn,hlen,hrow⟩:=rv.at hi'
  have ri':=ri
  obtain ⟨y1,y2,y3,y4,ez,-⟩:=ri'
  rw [ez] at hrow ri
  have hsn:sV dn.nm = .str dn.nm.1 dn.nm.2:=rfl
  rw [hsn] at ri hrow
  have lsl:ls4.length = 1:=lsl
  rw [Nat.zero_mul,Nat.add_zero] at hrow hlen
  subst ex
  rw [lsl] at rv
  have okd:=okl.2 _ (List.mem_singleton.2 rfl)
  simp -implicitDefEqProofs (disch:=omega) only [go_sem,p0,p1,p2,lsl,hbv,hrow,Nat.zero_mul,Nat.add_zero]
  refine thenN_call (order_then U ri okd fun y η5 ho E5=>?_)
  have check:=fun {Q} k=>causCheck_then (Q:=Q) U okl (fun d hd=>by rw [List.mem_singleton.1 hd]; exact hN) (rv.ext (base:=0) E5) (rdNs_keep (keep_b E5) E5.1 (fun _ h=>h) r4) k
  cases hf:fb with
  | false =>
   rw [hf] at p2
   obtain ⟨h1,a,h2⟩:=ring_none (n:=i) (cut:=cut) (c1:=c1) (c2:=c2) (ax:=ax) (ay:=ay) (by omega) (by omega)
   rw [← hf,← hdn] at h1 h2
   rw [h1] at ho ⊢
   have i0:(none:Option (List S)).isSome = false:=rfl
   simp -implicitDefEqProofs (disch:=omega) only [go_sem,p0,p1,p2,i0,Bool.not_false]
   refine thenN_call (check fun η6 E6=>?_)
   rw [h2]
   have cv:causV (some a) = [.int .i64 12,.int .i64 a]:=rfl
   simp -implicitDefEqProofs (disch:=omega) only [go_sem,p0,p1,p2,cv]
   done
  | true =>
   rw [hf] at p2
   have h1:=ring_order (n:=i) (cut:=cut) (c1:=c1) (c2:=c2) (ax:=ax) (ay:=ay) (by omega) hc
   have h2:=ring_calm (n:=i) (cut:=cut) (c1:=c1) (c2:=c2) (ax:=ax) (ay:=ay) (by omega) hc
   rw [← hf,← hdn] at h1 h2
   rw [h1] at ho ⊢
   have i0:(some (ordR i cut i)).isSome = true:=rfl
   simp -implicitDefEqProofs (disch:=omega) only [go_sem,p0,p1,p2,i0,Bool.not_true]
   refine thenN_call (check fun η6 E6=>?_)
   rw [h2]
   have cv:causV none = [.int .i64 0,.int .i64 0]:=rfl
   obtain ⟨O,hO⟩:∃ O,O = ordR i cut i:=⟨_,rfl⟩
   rw [← hO] at ho
   have lO:O.length = i + 1:=by rw [hO]; unfold ordR; rw [List.length_cons,List.length_map,List.length_range]
   have gO0:(strc O)[0]? = some (.str 1 121):=by rw [hO]; rfl
   have gk:∀ k,k < i → (strc O)[k + 1]? = some (.str (wB (ixR i cut k)).length (codesL (wB (ixR i cut k)))):=fun k hk=>by
    have h:k + 1 < O.length:=by omega
    have hs:k + 1 < (strc O).length:=by rw [strc_len]; exact h
    have g:=strc_get h
    rw [List.getD_eq_getElem?_getD,List.getElem?_eq_getElem hs] at g
    rw [List.getElem?_eq_getElem hs]
    refine congrArg some (Eq.trans g ?_)
    have e:O[k + 1] = wS (ixR i cut k):=by simp only [hO,ordR,List.getElem_cons_succ,List.getElem_map,List.getElem_range]
    rw [e]; rfl
   have ho:RowA η4.nx η5 y (strc O):=ho
   obtain ⟨bo,hbo1,hbo2,rfl,-,hbo⟩:=ho.resolve_left (fun g=>by have:=congrArg List.length g.2; rw [strc_len] at this; have:O.length = 0:=this; omega)
   have glO:=strc_len O
   rw [strc_len,lO] at *
   have hb6:=(E6.2 _ hbo2).trans hbo
   have es:strEq 1 121 1 121 = true:=by kernel_rfl
   simp -implicitDefEqProofs (disch:=omega) only [go_sem,p0,p1,p2,cv,hb6,glO,gO0,es]
   obtain ⟨I2,hI2⟩:∃ I:Nat → FN → HN → Prop,∀ m φ ζ,I m φ ζ ↔ ∃ k,m = i - k ∧ k ≤ i ∧ (φ 0 = .int .i64 i ∧ φ 1 = .int .i64 cut ∧ φ 15 = .slice bo 0 (i + 1) (.un 1) ∧ φ 17 = .int .i64 k) ∧ ExtB η6.nx η6 ζ:=⟨_,fun _ _ _=>Iff.rfl⟩
   refine wpN_loop I2 i ((hI2 _ _ _).2 ⟨0,rfl,Nat.zero_le _,⟨by exact p0,by exact p1,rfl,rfl⟩,.refl _ _⟩) ?_
   clear p0 p1 p2 p7 p8 p9
   intro m φ ζ7 hi2
   obtain ⟨k,hm2,hk2,⟨p0,p1,p15,p17⟩,E7⟩:=(hI2 _ _ _).1 hi2
   by_cases hkt:k < i
   ·have n6:=E6.1
    have hb7:=(E7.2 _ (by omega)).trans hb6
    have gkk:=gk k hkt
    have em:=ixR_mod hc hkt
    have hj:(cut + i - k) % i < i:=Nat.mod_lt _ (by omega)
    have eX:((cut + (18446744073709551616 - k)) % 18446744073709551616 + i) % 18446744073709551616 = cut + i - k:=by omega
    have es2:strEq (wB (ixR i cut k)).length (codesL (wB (ixR i cut k))) (1 + 1) (strCat 1 119 (97 + (cut + i - k) % i)) = true:=by
     rw [← em,cd_w (by omega)]
     exact (strEq_S (2,codesL (wB (ixR i cut k))) (2,codesL (wB (ixR i cut k)))).trans (decide_eq_true rfl)
    simp -implicitDefEqProofs (disch:=omega) only [go_sem,p0,p1,p15,p17,hb7,glO,gkk,eX,es2]
    exact ⟨i - (k + 1),by omega,(hI2 _ _ _).2 ⟨k + 1,rfl,hkt,⟨by exact p0,by exact p1,by exact p15,rfl⟩,extT E7 (extA (extN (extA (.refl _ _) (by omega))) (by omega))⟩⟩
   ·simp -implicitDefEqProofs (disch:=omega) only [go_sem,p0,p1,p15,p17]
end Go.Proofs.Ytkggpdaglhnonaa
