/- What is proved: what the program's kind of an operation, by its kids', does. Conditions: as each theorem says. -/
import Derived.Test.YtpjmiopplfmcfaaTypA
set_option linter.unusedVariables false
set_option linter.unusedSimpArgs false
set_option linter.unusedSectionVars false
namespace Go.Plain
open Go.Eng
set_option autoImplicit false
theorem alike_same (a:Nat):alikeT [a,a] 2 = true:=by unfold alikeT kx; simp
theorem alike_diff {a c:Nat} (h:¬ c = a):alikeT [a,c] 2 = false:=by unfold alikeT kx; simp [h]
end Go.Plain
namespace Go.Proofs.Ytpjmiopplfmcfaa
open Go.Eng Go.Plain
set_option autoImplicit false
set_option maxRecDepth 100000
variable {nat:∀ [Deep],Nats}
set_option maxHeartbeats 16000000 in
theorem typOwn_then (U:Usual nat) {η:HN} {tb:Nat} {v y1 y2 y3 y4 wr x:AV} {h:List Nd} {n:Nd} (hb:η.f tb = .live false [v,.str n.nm.1 n.nm.2,y1,y2,y3,y4,.int .i64 n.a,wr]) (c:ChkAt η tb v h [.str n.nm.1 n.nm.2,y1,y2,y3,y4,.int .i64 n.a] wr) (rz:rdN tt η n [.str n.nm.1 n.nm.2,y1,y2,y3,y4,.int .i64 n.a]) (okn:okN n)
  {op nm:S} {N a:Nat} {y:AV} {K:List Nat} {lo:Nat} (rk:RowA lo η x (kdc K)) (hKs:K.length ≤ 1073741824) (hkk:∀ k ∈ K,okK k) (hw:op = sCall ∨ need op = some K.length) (hx:okExprR h n op nm K.length = true) {Q:AV → HN → Prop}
  (k:∀ η',ExtB η.nx η η' → Q (.int .i64 (ownT h n op nm K)) η'):∃ v' η',CallN Try.prog nat 117 [.ptr tb 0,.agg [.str op.1 op.2,.str nm.1 nm.2,.int .i64 N,.int .i64 a,y],x] η v' η' ∧ Q v' η':=by
 have hn:=c.hn
 have arity:op ≠ sCall → need op = some K.length:=fun g=>hw.resolve_left g
 have lk:=fun η' e w=>row_len (η':=η') rk.rd (n:=K.length) (by rw [List.length_map]; exact List.length_map ..) (by omega) e w
 refine call_of (PT:=pl117) Try.func117 rfl (U 117 (by decide)) ok117 rfl ?_
 obtain ⟨M,hM⟩:∃ M:FN → HN → Prop,∀ φ ζ,M φ ζ ↔ ∃ ok kd,(φ 2 = x ∧ φ 7 = .bool ok ∧ φ 8 = .int .i64 kd) ∧ ExtB η.nx η ζ ∧ finT ok kd K = ownT h n op nm K:=⟨_,fun _ _=>Iff.rfl⟩
 refine wp_cut (M:=M) 3 _ _ _ ?_ ?_
 ·intro φ ζ hm
  obtain ⟨ok,kd,⟨p2,p7,p8⟩,E,ef⟩:=(hM _ _).1 hm
  rw [← ef] at k
  unfold finT at k
  cases ok with
  | false =>
   rw [if_pos rfl] at k
   simp -implicitDefEqProofs (disch:=omega) only [go_sem,p2,p7,p8,Bool.not_false]
   exact k _ E
  | true =>
   rw [if_neg (by decide)] at k
   by_cases hkd:kd = 0
   ·have dk:decide (kd = 0) = true:=decide_eq_true hkd
    by_cases hl:0 < K.length
    ·rw [if_pos ⟨hkd,hl⟩] at k
     obtain ⟨bx,h1,h2,rfl,-,hbx⟩:=rk.resolve_left (fun g=>by have:=congrArg List.length g.2; rw [show (kdc K).length = K.length from List.length_map ..] at this; have:K.length = 0:=this; omega)
     have gl:(kdc K).length = K.length:=List.length_map ..
     rw [gl] at p2 lk
     have dx:ζ.f bx = _:=(E.2 _ h2).trans hbx
     have gk:(kdc K).getD (K.length - 1) und = .int .i64 (kx K (K.length - 1)):=by
      unfold kdc kx
      rw [List.getD_eq_getElem?_getD,List.getElem?_map,List.getElem?_eq_getElem (by omega),List.getD_eq_getElem?_getD,List.getElem?_eq_getElem (by omega)]; rfl
     simp -implicitDefEqProofs (disch:=omega) only [go_sem,p2,p7,p8,dk,lk,dx,gl,gk,Bool.not_true]
     exact k _ E
    ·rw [if_neg (fun g=>hl g.2)] at k
     simp -implicitDefEqProofs (disch:=omega) only [go_sem,p2,p7,p8,dk,lk,Bool.not_true]
     exact k _ E
   ·rw [if_neg (fun g=>hkd g.1)] at k
    have dk:decide (kd = 0) = false:=decide_eq_false hkd
    simp -implicitDefEqProofs (disch:=omega) only [go_sem,p2,p7,p8,dk,lk,Bool.not_true]
    exact k _ E
 ·have E:ExtB η.nx η (η.new (.live false [.str op.1 op.2,.str nm.1 nm.2,.int .i64 N,.int .i64 a,y])):=extN (.refl _ _)
  have c1:(η.new (.live false [.str op.1 op.2,.str nm.1 nm.2,.int .i64 N,.int .i64 a,y])).f η.nx = .live false [.str op.1 op.2,.str nm.1 nm.2,.int .i64 N,.int .i64 a,y]:=if_pos rfl
  have hn1:(η.new (.live false [.str op.1 op.2,.str nm.1 nm.2,.int .i64 N,.int .i64 a,y])).nx = η.nx + 1:=rfl
  have hb1:=(E.2 _ hn).trans hb
  have rz1:=rdN_ext rz E
  simp -implicitDefEqProofs (disch:=omega) only [go_sem]
  generalize η.new (.live false [.str op.1 op.2,.str nm.1 nm.2,.int .i64 N,.int .i64 a,y]) = η1 at *
  have e1:strEq op.1 op.2 3 7630441 = decide (op = sInt):=strEq_S op sInt
  have e2:strEq op.1 op.2 4 1819242338 = decide (op = sBool):=strEq_S op sBool
  have e3:strEq op.1 op.2 3 7496054 = decide (op = sVar):=strEq_S op sVar
  have e4:strEq op.1 op.2 3 7630702 = decide (op = sNot):=strEq_S op sNot
  have e5:strEq op.1 op.2 3 6776174 = decide (op = sNeg):=strEq_S op sNeg
  have e6:strEq op.1 op.2 3 6648432 = decide (op = sPre):=strEq_S op sPre
  have e7:strEq op.1 op.2 1 43 = decide (op = sPlus):=strEq_S op sPlus
  have e8:strEq op.1 op.2 1 45 = decide (op = sMinus):=strEq_S op sMinus
  have e9:strEq op.1 op.2 1 42 = decide (op = sTimes):=strEq_S op sTimes
  have e10:strEq op.1 op.2 1 47 = decide (op = sDiv):=strEq_S op sDiv
  have e11:strEq op.1 op.2 3 6582125 = decide (op = sMod):=strEq_S op sMod
  have e12:strEq op.1 op.2 1 60 = decide (op = sLt):=strEq_S op sLt
  have e13:strEq op.1 op.2 2 15676 = decide (op = sLe):=strEq_S op sLe
  have e14:strEq op.1 op.2 1 62 = decide (op = sGt):=strEq_S op sGt
  have e15:strEq op.1 op.2 2 15678 = decide (op = sGe):=strEq_S op sGe
  have e16:strEq op.1 op.2 3 6581857 = decide (op = sAnd):=strEq_S op sAnd
  have e17:strEq op.1 op.2 2 29295 = decide (op = sOr):=strEq_S op sOr
  have e18:strEq op.1 op.2 3 7499640 = decide (op = sXor):=strEq_S op sXor
  have e19:strEq op.1 op.2 1 61 = decide (op = sEq):=strEq_S op sEq
  have e20:strEq op.1 op.2 2 15932 = decide (op = sNe):=strEq_S op sNe
  have e21:strEq op.1 op.2 2 15917 = decide (op = sArrow):=strEq_S op sArrow
  have e22:strEq op.1 op.2 3 7955046 = decide (op = sFby):=strEq_S op sFby
  have e23:strEq op.1 op.2 4 1852139639 = decide (op = sWhen):=strEq_S op sWhen
  have e24:strEq op.1 op.2 2 26217 = decide (op = sIf):=strEq_S op sIf
  have e25:strEq op.1 op.2 5 435527247213 = decide (op = sMerge):=strEq_S op sMerge
  have e26:strEq op.1 op.2 4 1819042147 = decide (op = sCall):=strEq_S op sCall
  by_cases qq:op = sInt
  ·rw [decide_eq_true qq] at e1
   have hn:K.length = 0:=by
    have g:=arity (by rw [qq]; decide)
    rw [qq] at g
    exact (Option.some.inj g).symm
   obtain rfl:K = []:=List.eq_nil_of_length_eq_zero hn
   simp -implicitDefEqProofs (disch:=omega) only [go_sem,c1,lk,e1]
   exact (hM _ _).2 ⟨_,_,⟨rfl,rfl,rfl⟩,E,by rw [qq]; rfl⟩
  have q1:=qq
  clear qq
  rw [decide_eq_false q1] at e1
  by_cases qq:op = sBool
  ·rw [decide_eq_true qq] at e2
   have hn:K.length = 0:=by
    have g:=arity (by rw [qq]; decide)
    rw [qq] at g
    exact (Option.some.inj g).symm
   obtain rfl:K = []:=List.eq_nil_of_length_eq_zero hn
   simp -implicitDefEqProofs (disch:=omega) only [go_sem,c1,lk,e1,e2]
   exact (hM _ _).2 ⟨_,_,⟨rfl,rfl,rfl⟩,E,by rw [qq]; rfl⟩
  have q2:=qq
  clear qq
  rw [decide_eq_false q2] at e2
  by_cases qq:op = sVar
  ·rw [decide_eq_true qq] at e3
   have hn:K.length = 0:=by
    have g:=arity (by rw [qq]; decide)
    rw [qq] at g
    exact (Option.some.inj g).symm
   obtain rfl:K = []:=List.eq_nil_of_length_eq_zero hn
   simp -implicitDefEqProofs (disch:=omega) only [go_sem,c1,lk,e1,e2,e3]
   refine thenN_call (typNamed_then U hb1 (by omega) rz1 okn nm fun ζ2 E2=>?_)
   simp -implicitDefEqProofs (disch:=omega) only [go_sem,c1,lk,e1,e2,e3]
   exact (hM _ _).2 ⟨_,_,⟨rfl,rfl,rfl⟩,extT E E2,by rw [qq]; rfl⟩
  have q3:=qq
  clear qq
  rw [decide_eq_false q3] at e3
  by_cases qq:op = sNot
  ·rw [decide_eq_true qq] at e4
   have hn:K.length = 1:=by
    have g:=arity (by rw [qq]; decide)
    rw [qq] at g
    exact (Option.some.inj g).symm
   obtain ⟨k0,rfl⟩:∃ k0,K = [k0]:=by
    match K,hn with
    | [k0],_=>exact ⟨k0,rfl⟩
   obtain ⟨bx,hx1,hx2,hxe,-,hbx⟩:=rk.resolve_left (fun g=>by cases g.2)
   have hxe:x = .slice bx 0 1 (.un 1):=hxe
   subst hxe
   have lk:∀ (η':HN) (e w:Nat),lenN (.slice e 1 w) (.slice bx 0 1 (.un 1)) η' = .ok (.int .i64 1) η':=lk
   have hbx:η.f bx = .live false [.int .i64 k0]:=hbx
   have dbx:=(E.2 bx hx2).trans hbx
   have okk0:=hkk k0 (by simp)
   rcases okk0 with rfl | rfl
   ·simp -implicitDefEqProofs (disch:=omega) only [go_sem,c1,lk,e1,e2,e3,e4,dbx]
    exact (hM _ _).2 ⟨_,_,⟨rfl,rfl,rfl⟩,E,by rw [qq]; rfl⟩
   ·simp -implicitDefEqProofs (disch:=omega) only [go_sem,c1,lk,e1,e2,e3,e4,dbx]
    exact (hM _ _).2 ⟨_,_,⟨rfl,rfl,rfl⟩,E,by rw [qq]; rfl⟩
  have q4:=qq
  clear qq
  rw [decide_eq_false q4] at e4
  by_cases qq:op = sNeg
  ·rw [decide_eq_true qq] at e5
   have hn:K.length = 1:=by
    have g:=arity (by rw [qq]; decide)
    rw [qq] at g
    exact (Option.some.inj g).symm
   obtain ⟨k0,rfl⟩:∃ k0,K = [k0]:=by
    match K,hn with
    | [k0],_=>exact ⟨k0,rfl⟩
   obtain ⟨bx,hx1,hx2,hxe,-,hbx⟩:=rk.resolve_left (fun g=>by cases g.2)
   have hxe:x = .slice bx 0 1 (.un 1):=hxe
   subst hxe
   have lk:∀ (η':HN) (e w:Nat),lenN (.slice e 1 w) (.slice bx 0 1 (.un 1)) η' = .ok (.int .i64 1) η':=lk
   have hbx:η.f bx = .live false [.int .i64 k0]:=hbx
   have dbx:=(E.2 bx hx2).trans hbx
   have okk0:=hkk k0 (by simp)
   rcases okk0 with rfl | rfl
   ·simp -implicitDefEqProofs (disch:=omega) only [go_sem,c1,lk,e1,e2,e3,e4,e5,dbx]
    exact (hM _ _).2 ⟨_,_,⟨rfl,rfl,rfl⟩,E,by rw [qq]; rfl⟩
   ·simp -implicitDefEqProofs (disch:=omega) only [go_sem,c1,lk,e1,e2,e3,e4,e5,dbx]
    exact (hM _ _).2 ⟨_,_,⟨rfl,rfl,rfl⟩,E,by rw [qq]; rfl⟩
  have q5:=qq
  clear qq
  rw [decide_eq_false q5] at e5
  by_cases qq:op = sPre
  ·rw [decide_eq_true qq] at e6
   have hn:K.length = 1:=by
    have g:=arity (by rw [qq]; decide)
    rw [qq] at g
    exact (Option.some.inj g).symm
   obtain ⟨k0,rfl⟩:∃ k0,K = [k0]:=by
    match K,hn with
    | [k0],_=>exact ⟨k0,rfl⟩
   obtain ⟨bx,hx1,hx2,hxe,-,hbx⟩:=rk.resolve_left (fun g=>by cases g.2)
   have hxe:x = .slice bx 0 1 (.un 1):=hxe
   subst hxe
   have lk:∀ (η':HN) (e w:Nat),lenN (.slice e 1 w) (.slice bx 0 1 (.un 1)) η' = .ok (.int .i64 1) η':=lk
   have hbx:η.f bx = .live false [.int .i64 k0]:=hbx
   have dbx:=(E.2 bx hx2).trans hbx
   have okk0:=hkk k0 (by simp)
   rcases okk0 with rfl | rfl
   ·simp -implicitDefEqProofs (disch:=omega) only [go_sem,c1,lk,e1,e2,e3,e4,e5,e6,dbx]
    exact (hM _ _).2 ⟨_,_,⟨rfl,rfl,rfl⟩,E,by rw [qq]; rfl⟩
   ·simp -implicitDefEqProofs (disch:=omega) only [go_sem,c1,lk,e1,e2,e3,e4,e5,e6,dbx]
    exact (hM _ _).2 ⟨_,_,⟨rfl,rfl,rfl⟩,E,by rw [qq]; rfl⟩
  have q6:=qq
  clear qq
  rw [decide_eq_false q6] at e6
  by_cases qq:op = sPlus
  ·rw [decide_eq_true qq] at e7
   have hn:K.length = 2:=by
    have g:=arity (by rw [qq]; decide)
    rw [qq] at g
    exact (Option.some.inj g).symm
   obtain ⟨k0,k1,rfl⟩:∃ k0 k1,K = [k0,k1]:=by
    match K,hn with
    | [k0,k1],_=>exact ⟨k0,k1,rfl⟩
   obtain ⟨bx,hx1,hx2,hxe,-,hbx⟩:=rk.resolve_left (fun g=>by cases g.2)
   have hxe:x = .slice bx 0 2 (.un 1):=hxe
   subst hxe
   have lk:∀ (η':HN) (e w:Nat),lenN (.slice e 1 w) (.slice bx 0 2 (.un 1)) η' = .ok (.int .i64 2) η':=lk
   have hbx:η.f bx = .live false [.int .i64 k0,.int .i64 k1]:=hbx
   have dbx:=(E.2 bx hx2).trans hbx
   have okk0:=hkk k0 (by simp)
   have okk1:=hkk k1 (by simp)
   simp -implicitDefEqProofs (disch:=omega) only [go_sem,c1,lk,e1,e2,e3,e4,e5,e6,e7]
   refine thenN_call (typBoth_then (a:=k0) (c:=k1) (w:=2) (t:=2) U dbx ?_)
   have eo:ownT h n op nm [k0,k1] = if k0 = 2 ∧ k1 = 2 then 2 else 0:=by
    rw [qq]
    show (if 2 = 2 ∧ k0 = 2 ∧ k1 = 2 then 2 else 0) = _
    simp
   rw [← eo]
   simp -implicitDefEqProofs (disch:=omega) only [go_sem,c1,lk,e1,e2,e3,e4,e5,e6,e7]
   exact k _ E
  have q7:=qq
  clear qq
  rw [decide_eq_false q7] at e7
  by_cases qq:op = sMinus
  ·rw [decide_eq_true qq] at e8
   have hn:K.length = 2:=by
    have g:=arity (by rw [qq]; decide)
    rw [qq] at g
    exact (Option.some.inj g).symm
   obtain ⟨k0,k1,rfl⟩:∃ k0 k1,K = [k0,k1]:=by
    match K,hn with
    | [k0,k1],_=>exact ⟨k0,k1,rfl⟩
   obtain ⟨bx,hx1,hx2,hxe,-,hbx⟩:=rk.resolve_left (fun g=>by cases g.2)
   have hxe:x = .slice bx 0 2 (.un 1):=hxe
   subst hxe
   have lk:∀ (η':HN) (e w:Nat),lenN (.slice e 1 w) (.slice bx 0 2 (.un 1)) η' = .ok (.int .i64 2) η':=lk
   have hbx:η.f bx = .live false [.int .i64 k0,.int .i64 k1]:=hbx
   have dbx:=(E.2 bx hx2).trans hbx
   have okk0:=hkk k0 (by simp)
   have okk1:=hkk k1 (by simp)
   simp -implicitDefEqProofs (disch:=omega) only [go_sem,c1,lk,e1,e2,e3,e4,e5,e6,e7,e8]
   refine thenN_call (typBoth_then (a:=k0) (c:=k1) (w:=2) (t:=2) U dbx ?_)
   have eo:ownT h n op nm [k0,k1] = if k0 = 2 ∧ k1 = 2 then 2 else 0:=by
    rw [qq]
    show (if 2 = 2 ∧ k0 = 2 ∧ k1 = 2 then 2 else 0) = _
    simp
   rw [← eo]
   simp -implicitDefEqProofs (disch:=omega) only [go_sem,c1,lk,e1,e2,e3,e4,e5,e6,e7,e8]
   exact k _ E
  have q8:=qq
  clear qq
  rw [decide_eq_false q8] at e8
  by_cases qq:op = sTimes
  ·rw [decide_eq_true qq] at e9
   have hn:K.length = 2:=by
    have g:=arity (by rw [qq]; decide)
    rw [qq] at g
    exact (Option.some.inj g).symm
   obtain ⟨k0,k1,rfl⟩:∃ k0 k1,K = [k0,k1]:=by
    match K,hn with
    | [k0,k1],_=>exact ⟨k0,k1,rfl⟩
   obtain ⟨bx,hx1,hx2,hxe,-,hbx⟩:=rk.resolve_left (fun g=>by cases g.2)
   have hxe:x = .slice bx 0 2 (.un 1):=hxe
   subst hxe
   have lk:∀ (η':HN) (e w:Nat),lenN (.slice e 1 w) (.slice bx 0 2 (.un 1)) η' = .ok (.int .i64 2) η':=lk
   have hbx:η.f bx = .live false [.int .i64 k0,.int .i64 k1]:=hbx
   have dbx:=(E.2 bx hx2).trans hbx
   have okk0:=hkk k0 (by simp)
   have okk1:=hkk k1 (by simp)
   simp -implicitDefEqProofs (disch:=omega) only [go_sem,c1,lk,e1,e2,e3,e4,e5,e6,e7,e8,e9]
   refine thenN_call (typBoth_then (a:=k0) (c:=k1) (w:=2) (t:=2) U dbx ?_)
   have eo:ownT h n op nm [k0,k1] = if k0 = 2 ∧ k1 = 2 then 2 else 0:=by
    rw [qq]
    show (if 2 = 2 ∧ k0 = 2 ∧ k1 = 2 then 2 else 0) = _
    simp
   rw [← eo]
   simp -implicitDefEqProofs (disch:=omega) only [go_sem,c1,lk,e1,e2,e3,e4,e5,e6,e7,e8,e9]
   exact k _ E
  have q9:=qq
  clear qq
  rw [decide_eq_false q9] at e9
  by_cases qq:op = sDiv
  ·rw [decide_eq_true qq] at e10
   have hn:K.length = 2:=by
    have g:=arity (by rw [qq]; decide)
    rw [qq] at g
    exact (Option.some.inj g).symm
   obtain ⟨k0,k1,rfl⟩:∃ k0 k1,K = [k0,k1]:=by
    match K,hn with
    | [k0,k1],_=>exact ⟨k0,k1,rfl⟩
   obtain ⟨bx,hx1,hx2,hxe,-,hbx⟩:=rk.resolve_left (fun g=>by cases g.2)
   have hxe:x = .slice bx 0 2 (.un 1):=hxe
   subst hxe
   have lk:∀ (η':HN) (e w:Nat),lenN (.slice e 1 w) (.slice bx 0 2 (.un 1)) η' = .ok (.int .i64 2) η':=lk
   have hbx:η.f bx = .live false [.int .i64 k0,.int .i64 k1]:=hbx
   have dbx:=(E.2 bx hx2).trans hbx
   have okk0:=hkk k0 (by simp)
   have okk1:=hkk k1 (by simp)
   simp -implicitDefEqProofs (disch:=omega) only [go_sem,c1,lk,e1,e2,e3,e4,e5,e6,e7,e8,e9,e10]
   refine thenN_call (typBoth_then (a:=k0) (c:=k1) (w:=2) (t:=2) U dbx ?_)
   have eo:ownT h n op nm [k0,k1] = if k0 = 2 ∧ k1 = 2 then 2 else 0:=by
    rw [qq]
    show (if 2 = 2 ∧ k0 = 2 ∧ k1 = 2 then 2 else 0) = _
    simp
   rw [← eo]
   simp -implicitDefEqProofs (disch:=omega) only [go_sem,c1,lk,e1,e2,e3,e4,e5,e6,e7,e8,e9,e10]
   exact k _ E
  have q10:=qq
  clear qq
  rw [decide_eq_false q10] at e10
  by_cases qq:op = sMod
  ·rw [decide_eq_true qq] at e11
   have hn:K.length = 2:=by
    have g:=arity (by rw [qq]; decide)
    rw [qq] at g
    exact (Option.some.inj g).symm
   obtain ⟨k0,k1,rfl⟩:∃ k0 k1,K = [k0,k1]:=by
    match K,hn with
    | [k0,k1],_=>exact ⟨k0,k1,rfl⟩
   obtain ⟨bx,hx1,hx2,hxe,-,hbx⟩:=rk.resolve_left (fun g=>by cases g.2)
   have hxe:x = .slice bx 0 2 (.un 1):=hxe
   subst hxe
   have lk:∀ (η':HN) (e w:Nat),lenN (.slice e 1 w) (.slice bx 0 2 (.un 1)) η' = .ok (.int .i64 2) η':=lk
   have hbx:η.f bx = .live false [.int .i64 k0,.int .i64 k1]:=hbx
   have dbx:=(E.2 bx hx2).trans hbx
   have okk0:=hkk k0 (by simp)
   have okk1:=hkk k1 (by simp)
   simp -implicitDefEqProofs (disch:=omega) only [go_sem,c1,lk,e1,e2,e3,e4,e5,e6,e7,e8,e9,e10,e11]
   refine thenN_call (typBoth_then (a:=k0) (c:=k1) (w:=2) (t:=2) U dbx ?_)
   have eo:ownT h n op nm [k0,k1] = if k0 = 2 ∧ k1 = 2 then 2 else 0:=by
    rw [qq]
    show (if 2 = 2 ∧ k0 = 2 ∧ k1 = 2 then 2 else 0) = _
    simp
   rw [← eo]
   simp -implicitDefEqProofs (disch:=omega) only [go_sem,c1,lk,e1,e2,e3,e4,e5,e6,e7,e8,e9,e10,e11]
   exact k _ E
  have q11:=qq
  clear qq
  rw [decide_eq_false q11] at e11
  by_cases qq:op = sLt
  ·rw [decide_eq_true qq] at e12
   have hn:K.length = 2:=by
    have g:=arity (by rw [qq]; decide)
    rw [qq] at g
    exact (Option.some.inj g).symm
   obtain ⟨k0,k1,rfl⟩:∃ k0 k1,K = [k0,k1]:=by
    match K,hn with
    | [k0,k1],_=>exact ⟨k0,k1,rfl⟩
   obtain ⟨bx,hx1,hx2,hxe,-,hbx⟩:=rk.resolve_left (fun g=>by cases g.2)
   have hxe:x = .slice bx 0 2 (.un 1):=hxe
   subst hxe
   have lk:∀ (η':HN) (e w:Nat),lenN (.slice e 1 w) (.slice bx 0 2 (.un 1)) η' = .ok (.int .i64 2) η':=lk
   have hbx:η.f bx = .live false [.int .i64 k0,.int .i64 k1]:=hbx
   have dbx:=(E.2 bx hx2).trans hbx
   have okk0:=hkk k0 (by simp)
   have okk1:=hkk k1 (by simp)
   simp -implicitDefEqProofs (disch:=omega) only [go_sem,c1,lk,e1,e2,e3,e4,e5,e6,e7,e8,e9,e10,e11,e12]
   refine thenN_call (typBoth_then (a:=k0) (c:=k1) (w:=2) (t:=1) U dbx ?_)
   have eo:ownT h n op nm [k0,k1] = if k0 = 2 ∧ k1 = 2 then 1 else 0:=by
    rw [qq]
    show (if 2 = 2 ∧ k0 = 2 ∧ k1 = 2 then 1 else 0) = _
    simp
   rw [← eo]
   simp -implicitDefEqProofs (disch:=omega) only [go_sem,c1,lk,e1,e2,e3,e4,e5,e6,e7,e8,e9,e10,e11,e12]
   exact k _ E
  have q12:=qq
  clear qq
  rw [decide_eq_false q12] at e12
  by_cases qq:op = sLe
  ·rw [decide_eq_true qq] at e13
   have hn:K.length = 2:=by
    have g:=arity (by rw [qq]; decide)
    rw [qq] at g
    exact (Option.some.inj g).symm
   obtain ⟨k0,k1,rfl⟩:∃ k0 k1,K = [k0,k1]:=by
    match K,hn with
    | [k0,k1],_=>exact ⟨k0,k1,rfl⟩
   obtain ⟨bx,hx1,hx2,hxe,-,hbx⟩:=rk.resolve_left (fun g=>by cases g.2)
   have hxe:x = .slice bx 0 2 (.un 1):=hxe
   subst hxe
   have lk:∀ (η':HN) (e w:Nat),lenN (.slice e 1 w) (.slice bx 0 2 (.un 1)) η' = .ok (.int .i64 2) η':=lk
   have hbx:η.f bx = .live false [.int .i64 k0,.int .i64 k1]:=hbx
   have dbx:=(E.2 bx hx2).trans hbx
   have okk0:=hkk k0 (by simp)
   have okk1:=hkk k1 (by simp)
   simp -implicitDefEqProofs (disch:=omega) only [go_sem,c1,lk,e1,e2,e3,e4,e5,e6,e7,e8,e9,e10,e11,e12,e13]
   refine thenN_call (typBoth_then (a:=k0) (c:=k1) (w:=2) (t:=1) U dbx ?_)
   have eo:ownT h n op nm [k0,k1] = if k0 = 2 ∧ k1 = 2 then 1 else 0:=by
    rw [qq]
    show (if 2 = 2 ∧ k0 = 2 ∧ k1 = 2 then 1 else 0) = _
    simp
   rw [← eo]
   simp -implicitDefEqProofs (disch:=omega) only [go_sem,c1,lk,e1,e2,e3,e4,e5,e6,e7,e8,e9,e10,e11,e12,e13]
   exact k _ E
  have q13:=qq
  clear qq
  rw [decide_eq_false q13] at e13
  by_cases qq:op = sGt
  ·rw [decide_eq_true qq] at e14
   have hn:K.length = 2:=by
    have g:=arity (by rw [qq]; decide)
    rw [qq] at g
    exact (Option.some.inj g).symm
   obtain ⟨k0,k1,rfl⟩:∃ k0 k1,K = [k0,k1]:=by
    match K,hn with
    | [k0,k1],_=>exact ⟨k0,k1,rfl⟩
   obtain ⟨bx,hx1,hx2,hxe,-,hbx⟩:=rk.resolve_left (fun g=>by cases g.2)
   have hxe:x = .slice bx 0 2 (.un 1):=hxe
   subst hxe
   have lk:∀ (η':HN) (e w:Nat),lenN (.slice e 1 w) (.slice bx 0 2 (.un 1)) η' = .ok (.int .i64 2) η':=lk
   have hbx:η.f bx = .live false [.int .i64 k0,.int .i64 k1]:=hbx
   have dbx:=(E.2 bx hx2).trans hbx
   have okk0:=hkk k0 (by simp)
   have okk1:=hkk k1 (by simp)
   simp -implicitDefEqProofs (disch:=omega) only [go_sem,c1,lk,e1,e2,e3,e4,e5,e6,e7,e8,e9,e10,e11,e12,e13,e14]
   refine thenN_call (typBoth_then (a:=k0) (c:=k1) (w:=2) (t:=1) U dbx ?_)
   have eo:ownT h n op nm [k0,k1] = if k0 = 2 ∧ k1 = 2 then 1 else 0:=by
    rw [qq]
    show (if 2 = 2 ∧ k0 = 2 ∧ k1 = 2 then 1 else 0) = _
    simp
   rw [← eo]
   simp -implicitDefEqProofs (disch:=omega) only [go_sem,c1,lk,e1,e2,e3,e4,e5,e6,e7,e8,e9,e10,e11,e12,e13,e14]
   exact k _ E
  have q14:=qq
  clear qq
  rw [decide_eq_false q14] at e14
  by_cases qq:op = sGe
  ·rw [decide_eq_true qq] at e15
   have hn:K.length = 2:=by
    have g:=arity (by rw [qq]; decide)
    rw [qq] at g
    exact (Option.some.inj g).symm
   obtain ⟨k0,k1,rfl⟩:∃ k0 k1,K = [k0,k1]:=by
    match K,hn with
    | [k0,k1],_=>exact ⟨k0,k1,rfl⟩
   obtain ⟨bx,hx1,hx2,hxe,-,hbx⟩:=rk.resolve_left (fun g=>by cases g.2)
   have hxe:x = .slice bx 0 2 (.un 1):=hxe
   subst hxe
   have lk:∀ (η':HN) (e w:Nat),lenN (.slice e 1 w) (.slice bx 0 2 (.un 1)) η' = .ok (.int .i64 2) η':=lk
   have hbx:η.f bx = .live false [.int .i64 k0,.int .i64 k1]:=hbx
   have dbx:=(E.2 bx hx2).trans hbx
   have okk0:=hkk k0 (by simp)
   have okk1:=hkk k1 (by simp)
   simp -implicitDefEqProofs (disch:=omega) only [go_sem,c1,lk,e1,e2,e3,e4,e5,e6,e7,e8,e9,e10,e11,e12,e13,e14,e15]
   refine thenN_call (typBoth_then (a:=k0) (c:=k1) (w:=2) (t:=1) U dbx ?_)
   have eo:ownT h n op nm [k0,k1] = if k0 = 2 ∧ k1 = 2 then 1 else 0:=by
    rw [qq]
    show (if 2 = 2 ∧ k0 = 2 ∧ k1 = 2 then 1 else 0) = _
    simp
   rw [← eo]
   simp -implicitDefEqProofs (disch:=omega) only [go_sem,c1,lk,e1,e2,e3,e4,e5,e6,e7,e8,e9,e10,e11,e12,e13,e14,e15]
   exact k _ E
  have q15:=qq
  clear qq
  rw [decide_eq_false q15] at e15
  by_cases qq:op = sAnd
  ·rw [decide_eq_true qq] at e16
   have hn:K.length = 2:=by
    have g:=arity (by rw [qq]; decide)
    rw [qq] at g
    exact (Option.some.inj g).symm
   obtain ⟨k0,k1,rfl⟩:∃ k0 k1,K = [k0,k1]:=by
    match K,hn with
    | [k0,k1],_=>exact ⟨k0,k1,rfl⟩
   obtain ⟨bx,hx1,hx2,hxe,-,hbx⟩:=rk.resolve_left (fun g=>by cases g.2)
   have hxe:x = .slice bx 0 2 (.un 1):=hxe
   subst hxe
   have lk:∀ (η':HN) (e w:Nat),lenN (.slice e 1 w) (.slice bx 0 2 (.un 1)) η' = .ok (.int .i64 2) η':=lk
   have hbx:η.f bx = .live false [.int .i64 k0,.int .i64 k1]:=hbx
   have dbx:=(E.2 bx hx2).trans hbx
   have okk0:=hkk k0 (by simp)
   have okk1:=hkk k1 (by simp)
   simp -implicitDefEqProofs (disch:=omega) only [go_sem,c1,lk,e1,e2,e3,e4,e5,e6,e7,e8,e9,e10,e11,e12,e13,e14,e15,e16]
   refine thenN_call (typBoth_then (a:=k0) (c:=k1) (w:=1) (t:=1) U dbx ?_)
   have eo:ownT h n op nm [k0,k1] = if k0 = 1 ∧ k1 = 1 then 1 else 0:=by
    rw [qq]
    show (if 2 = 2 ∧ k0 = 1 ∧ k1 = 1 then 1 else 0) = _
    simp
   rw [← eo]
   simp -implicitDefEqProofs (disch:=omega) only [go_sem,c1,lk,e1,e2,e3,e4,e5,e6,e7,e8,e9,e10,e11,e12,e13,e14,e15,e16]
   exact k _ E
  have q16:=qq
  clear qq
  rw [decide_eq_false q16] at e16
  by_cases qq:op = sOr
  ·rw [decide_eq_true qq] at e17
   have hn:K.length = 2:=by
    have g:=arity (by rw [qq]; decide)
    rw [qq] at g
    exact (Option.some.inj g).symm
   obtain ⟨k0,k1,rfl⟩:∃ k0 k1,K = [k0,k1]:=by
    match K,hn with
    | [k0,k1],_=>exact ⟨k0,k1,rfl⟩
   obtain ⟨bx,hx1,hx2,hxe,-,hbx⟩:=rk.resolve_left (fun g=>by cases g.2)
   have hxe:x = .slice bx 0 2 (.un 1):=hxe
   subst hxe
   have lk:∀ (η':HN) (e w:Nat),lenN (.slice e 1 w) (.slice bx 0 2 (.un 1)) η' = .ok (.int .i64 2) η':=lk
   have hbx:η.f bx = .live false [.int .i64 k0,.int .i64 k1]:=hbx
   have dbx:=(E.2 bx hx2).trans hbx
   have okk0:=hkk k0 (by simp)
   have okk1:=hkk k1 (by simp)
   simp -implicitDefEqProofs (disch:=omega) only [go_sem,c1,lk,e1,e2,e3,e4,e5,e6,e7,e8,e9,e10,e11,e12,e13,e14,e15,e16,e17]
   refine thenN_call (typBoth_then (a:=k0) (c:=k1) (w:=1) (t:=1) U dbx ?_)
   have eo:ownT h n op nm [k0,k1] = if k0 = 1 ∧ k1 = 1 then 1 else 0:=by
    rw [qq]
    show (if 2 = 2 ∧ k0 = 1 ∧ k1 = 1 then 1 else 0) = _
    simp
   rw [← eo]
   simp -implicitDefEqProofs (disch:=omega) only [go_sem,c1,lk,e1,e2,e3,e4,e5,e6,e7,e8,e9,e10,e11,e12,e13,e14,e15,e16,e17]
   exact k _ E
  have q17:=qq
  clear qq
  rw [decide_eq_false q17] at e17
  by_cases qq:op = sXor
  ·rw [decide_eq_true qq] at e18
   have hn:K.length = 2:=by
    have g:=arity (by rw [qq]; decide)
    rw [qq] at g
    exact (Option.some.inj g).symm
   obtain ⟨k0,k1,rfl⟩:∃ k0 k1,K = [k0,k1]:=by
    match K,hn with
    | [k0,k1],_=>exact ⟨k0,k1,rfl⟩
   obtain ⟨bx,hx1,hx2,hxe,-,hbx⟩:=rk.resolve_left (fun g=>by cases g.2)
   have hxe:x = .slice bx 0 2 (.un 1):=hxe
   subst hxe
   have lk:∀ (η':HN) (e w:Nat),lenN (.slice e 1 w) (.slice bx 0 2 (.un 1)) η' = .ok (.int .i64 2) η':=lk
   have hbx:η.f bx = .live false [.int .i64 k0,.int .i64 k1]:=hbx
   have dbx:=(E.2 bx hx2).trans hbx
   have okk0:=hkk k0 (by simp)
   have okk1:=hkk k1 (by simp)
   simp -implicitDefEqProofs (disch:=omega) only [go_sem,c1,lk,e1,e2,e3,e4,e5,e6,e7,e8,e9,e10,e11,e12,e13,e14,e15,e16,e17,e18]
   refine thenN_call (typBoth_then (a:=k0) (c:=k1) (w:=1) (t:=1) U dbx ?_)
   have eo:ownT h n op nm [k0,k1] = if k0 = 1 ∧ k1 = 1 then 1 else 0:=by
    rw [qq]
    show (if 2 = 2 ∧ k0 = 1 ∧ k1 = 1 then 1 else 0) = _
    simp
   rw [← eo]
   simp -implicitDefEqProofs (disch:=omega) only [go_sem,c1,lk,e1,e2,e3,e4,e5,e6,e7,e8,e9,e10,e11,e12,e13,e14,e15,e16,e17,e18]
   exact k _ E
  have q18:=qq
  clear qq
  rw [decide_eq_false q18] at e18
  by_cases qq:op = sEq
  ·rw [decide_eq_true qq] at e19
   have hn:K.length = 2:=by
    have g:=arity (by rw [qq]; decide)
    rw [qq] at g
    exact (Option.some.inj g).symm
   obtain ⟨k0,k1,rfl⟩:∃ k0 k1,K = [k0,k1]:=by
    match K,hn with
    | [k0,k1],_=>exact ⟨k0,k1,rfl⟩
   obtain ⟨bx,hx1,hx2,hxe,-,hbx⟩:=rk.resolve_left (fun g=>by cases g.2)
   have hxe:x = .slice bx 0 2 (.un 1):=hxe
   subst hxe
   have lk:∀ (η':HN) (e w:Nat),lenN (.slice e 1 w) (.slice bx 0 2 (.un 1)) η' = .ok (.int .i64 2) η':=lk
   have hbx:η.f bx = .live false [.int .i64 k0,.int .i64 k1]:=hbx
   have dbx:=(E.2 bx hx2).trans hbx
   have okk0:=hkk k0 (by simp)
   have okk1:=hkk k1 (by simp)
   simp -implicitDefEqProofs (disch:=omega) only [go_sem,c1,lk,e1,e2,e3,e4,e5,e6,e7,e8,e9,e10,e11,e12,e13,e14,e15,e16,e17,e18,e19]
   refine thenN_call (typAlike_then (a:=k0) (c:=k1) U dbx (by omega) fun ζ2 E2=>?_)
   rcases okk0 with rfl | rfl <;> rcases okk1 with rfl | rfl
   ·simp -implicitDefEqProofs (disch:=omega) only [go_sem,c1,lk,e1,e2,e3,e4,e5,e6,e7,e8,e9,e10,e11,e12,e13,e14,e15,e16,e17,e18,e19]
    exact (hM _ _).2 ⟨_,_,⟨rfl,rfl,rfl⟩,(extT E E2),by rw [qq]; rfl⟩
   ·simp -implicitDefEqProofs (disch:=omega) only [go_sem,c1,lk,e1,e2,e3,e4,e5,e6,e7,e8,e9,e10,e11,e12,e13,e14,e15,e16,e17,e18,e19]
    exact (hM _ _).2 ⟨_,_,⟨rfl,rfl,rfl⟩,(extT E E2),by rw [qq]; rfl⟩
   ·simp -implicitDefEqProofs (disch:=omega) only [go_sem,c1,lk,e1,e2,e3,e4,e5,e6,e7,e8,e9,e10,e11,e12,e13,e14,e15,e16,e17,e18,e19]
    exact (hM _ _).2 ⟨_,_,⟨rfl,rfl,rfl⟩,(extT E E2),by rw [qq]; rfl⟩
   ·simp -implicitDefEqProofs (disch:=omega) only [go_sem,c1,lk,e1,e2,e3,e4,e5,e6,e7,e8,e9,e10,e11,e12,e13,e14,e15,e16,e17,e18,e19]
    exact (hM _ _).2 ⟨_,_,⟨rfl,rfl,rfl⟩,(extT E E2),by rw [qq]; rfl⟩
  have q19:=qq
  clear qq
  rw [decide_eq_false q19] at e19
  by_cases qq:op = sNe
  ·rw [decide_eq_true qq] at e20
   have hn:K.length = 2:=by
    have g:=arity (by rw [qq]; decide)
    rw [qq] at g
    exact (Option.some.inj g).symm
   obtain ⟨k0,k1,rfl⟩:∃ k0 k1,K = [k0,k1]:=by
    match K,hn with
    | [k0,k1],_=>exact ⟨k0,k1,rfl⟩
   obtain ⟨bx,hx1,hx2,hxe,-,hbx⟩:=rk.resolve_left (fun g=>by cases g.2)
   have hxe:x = .slice bx 0 2 (.un 1):=hxe
   subst hxe
   have lk:∀ (η':HN) (e w:Nat),lenN (.slice e 1 w) (.slice bx 0 2 (.un 1)) η' = .ok (.int .i64 2) η':=lk
   have hbx:η.f bx = .live false [.int .i64 k0,.int .i64 k1]:=hbx
   have dbx:=(E.2 bx hx2).trans hbx
   have okk0:=hkk k0 (by simp)
   have okk1:=hkk k1 (by simp)
   simp -implicitDefEqProofs (disch:=omega) only [go_sem,c1,lk,e1,e2,e3,e4,e5,e6,e7,e8,e9,e10,e11,e12,e13,e14,e15,e16,e17,e18,e19,e20]
   refine thenN_call (typAlike_then (a:=k0) (c:=k1) U dbx (by omega) fun ζ2 E2=>?_)
   rcases okk0 with rfl | rfl <;> rcases okk1 with rfl | rfl
   ·simp -implicitDefEqProofs (disch:=omega) only [go_sem,c1,lk,e1,e2,e3,e4,e5,e6,e7,e8,e9,e10,e11,e12,e13,e14,e15,e16,e17,e18,e19,e20]
    exact (hM _ _).2 ⟨_,_,⟨rfl,rfl,rfl⟩,(extT E E2),by rw [qq]; rfl⟩
   ·simp -implicitDefEqProofs (disch:=omega) only [go_sem,c1,lk,e1,e2,e3,e4,e5,e6,e7,e8,e9,e10,e11,e12,e13,e14,e15,e16,e17,e18,e19,e20]
    exact (hM _ _).2 ⟨_,_,⟨rfl,rfl,rfl⟩,(extT E E2),by rw [qq]; rfl⟩
   ·simp -implicitDefEqProofs (disch:=omega) only [go_sem,c1,lk,e1,e2,e3,e4,e5,e6,e7,e8,e9,e10,e11,e12,e13,e14,e15,e16,e17,e18,e19,e20]
    exact (hM _ _).2 ⟨_,_,⟨rfl,rfl,rfl⟩,(extT E E2),by rw [qq]; rfl⟩
   ·simp -implicitDefEqProofs (disch:=omega) only [go_sem,c1,lk,e1,e2,e3,e4,e5,e6,e7,e8,e9,e10,e11,e12,e13,e14,e15,e16,e17,e18,e19,e20]
    exact (hM _ _).2 ⟨_,_,⟨rfl,rfl,rfl⟩,(extT E E2),by rw [qq]; rfl⟩
  have q20:=qq
  clear qq
  rw [decide_eq_false q20] at e20
  by_cases qq:op = sArrow
  ·rw [decide_eq_true qq] at e21
   have hn:K.length = 2:=by
    have g:=arity (by rw [qq]; decide)
    rw [qq] at g
    exact (Option.some.inj g).symm
   obtain ⟨k0,k1,rfl⟩:∃ k0 k1,K = [k0,k1]:=by
    match K,hn with
    | [k0,k1],_=>exact ⟨k0,k1,rfl⟩
   obtain ⟨bx,hx1,hx2,hxe,-,hbx⟩:=rk.resolve_left (fun g=>by cases g.2)
   have hxe:x = .slice bx 0 2 (.un 1):=hxe
   subst hxe
   have lk:∀ (η':HN) (e w:Nat),lenN (.slice e 1 w) (.slice bx 0 2 (.un 1)) η' = .ok (.int .i64 2) η':=lk
   have hbx:η.f bx = .live false [.int .i64 k0,.int .i64 k1]:=hbx
   have dbx:=(E.2 bx hx2).trans hbx
   have okk0:=hkk k0 (by simp)
   have okk1:=hkk k1 (by simp)
   simp -implicitDefEqProofs (disch:=omega) only [go_sem,c1,lk,e1,e2,e3,e4,e5,e6,e7,e8,e9,e10,e11,e12,e13,e14,e15,e16,e17,e18,e19,e20,e21]
   refine thenN_call (typAlike_then (a:=k0) (c:=k1) U dbx (by omega) fun ζ2 E2=>?_)
   rcases okk0 with rfl | rfl <;> rcases okk1 with rfl | rfl
   ·simp -implicitDefEqProofs (disch:=omega) only [go_sem,c1,lk,e1,e2,e3,e4,e5,e6,e7,e8,e9,e10,e11,e12,e13,e14,e15,e16,e17,e18,e19,e20,e21]
    exact (hM _ _).2 ⟨_,_,⟨rfl,rfl,rfl⟩,(extT E E2),by rw [qq]; rfl⟩
   ·simp -implicitDefEqProofs (disch:=omega) only [go_sem,c1,lk,e1,e2,e3,e4,e5,e6,e7,e8,e9,e10,e11,e12,e13,e14,e15,e16,e17,e18,e19,e20,e21]
    exact (hM _ _).2 ⟨_,_,⟨rfl,rfl,rfl⟩,(extT E E2),by rw [qq]; rfl⟩
   ·simp -implicitDefEqProofs (disch:=omega) only [go_sem,c1,lk,e1,e2,e3,e4,e5,e6,e7,e8,e9,e10,e11,e12,e13,e14,e15,e16,e17,e18,e19,e20,e21]
    exact (hM _ _).2 ⟨_,_,⟨rfl,rfl,rfl⟩,(extT E E2),by rw [qq]; rfl⟩
   ·simp -implicitDefEqProofs (disch:=omega) only [go_sem,c1,lk,e1,e2,e3,e4,e5,e6,e7,e8,e9,e10,e11,e12,e13,e14,e15,e16,e17,e18,e19,e20,e21]
    exact (hM _ _).2 ⟨_,_,⟨rfl,rfl,rfl⟩,(extT E E2),by rw [qq]; rfl⟩
  have q21:=qq
  clear qq
  rw [decide_eq_false q21] at e21
  by_cases qq:op = sFby
  ·rw [decide_eq_true qq] at e22
   have hn:K.length = 2:=by
    have g:=arity (by rw [qq]; decide)
    rw [qq] at g
    exact (Option.some.inj g).symm
   obtain ⟨k0,k1,rfl⟩:∃ k0 k1,K = [k0,k1]:=by
    match K,hn with
    | [k0,k1],_=>exact ⟨k0,k1,rfl⟩
   obtain ⟨bx,hx1,hx2,hxe,-,hbx⟩:=rk.resolve_left (fun g=>by cases g.2)
   have hxe:x = .slice bx 0 2 (.un 1):=hxe
   subst hxe
   have lk:∀ (η':HN) (e w:Nat),lenN (.slice e 1 w) (.slice bx 0 2 (.un 1)) η' = .ok (.int .i64 2) η':=lk
   have hbx:η.f bx = .live false [.int .i64 k0,.int .i64 k1]:=hbx
   have dbx:=(E.2 bx hx2).trans hbx
   have okk0:=hkk k0 (by simp)
   have okk1:=hkk k1 (by simp)
   simp -implicitDefEqProofs (disch:=omega) only [go_sem,c1,lk,e1,e2,e3,e4,e5,e6,e7,e8,e9,e10,e11,e12,e13,e14,e15,e16,e17,e18,e19,e20,e21,e22]
   refine thenN_call (typAlike_then (a:=k0) (c:=k1) U dbx (by omega) fun ζ2 E2=>?_)
   rcases okk0 with rfl | rfl <;> rcases okk1 with rfl | rfl
   ·simp -implicitDefEqProofs (disch:=omega) only [go_sem,c1,lk,e1,e2,e3,e4,e5,e6,e7,e8,e9,e10,e11,e12,e13,e14,e15,e16,e17,e18,e19,e20,e21,e22]
    exact (hM _ _).2 ⟨_,_,⟨rfl,rfl,rfl⟩,(extT E E2),by rw [qq]; rfl⟩
   ·simp -implicitDefEqProofs (disch:=omega) only [go_sem,c1,lk,e1,e2,e3,e4,e5,e6,e7,e8,e9,e10,e11,e12,e13,e14,e15,e16,e17,e18,e19,e20,e21,e22]
    exact (hM _ _).2 ⟨_,_,⟨rfl,rfl,rfl⟩,(extT E E2),by rw [qq]; rfl⟩
   ·simp -implicitDefEqProofs (disch:=omega) only [go_sem,c1,lk,e1,e2,e3,e4,e5,e6,e7,e8,e9,e10,e11,e12,e13,e14,e15,e16,e17,e18,e19,e20,e21,e22]
    exact (hM _ _).2 ⟨_,_,⟨rfl,rfl,rfl⟩,(extT E E2),by rw [qq]; rfl⟩
   ·simp -implicitDefEqProofs (disch:=omega) only [go_sem,c1,lk,e1,e2,e3,e4,e5,e6,e7,e8,e9,e10,e11,e12,e13,e14,e15,e16,e17,e18,e19,e20,e21,e22]
    exact (hM _ _).2 ⟨_,_,⟨rfl,rfl,rfl⟩,(extT E E2),by rw [qq]; rfl⟩
  have q22:=qq
  clear qq
  rw [decide_eq_false q22] at e22
  by_cases qq:op = sWhen
  ·rw [decide_eq_true qq] at e23
   have hn:K.length = 1:=by
    have g:=arity (by rw [qq]; decide)
    rw [qq] at g
    exact (Option.some.inj g).symm
   obtain ⟨k0,rfl⟩:∃ k0,K = [k0]:=by
    match K,hn with
    | [k0],_=>exact ⟨k0,rfl⟩
   obtain ⟨bx,hx1,hx2,hxe,-,hbx⟩:=rk.resolve_left (fun g=>by cases g.2)
   have hxe:x = .slice bx 0 1 (.un 1):=hxe
   subst hxe
   have lk:∀ (η':HN) (e w:Nat),lenN (.slice e 1 w) (.slice bx 0 1 (.un 1)) η' = .ok (.int .i64 1) η':=lk
   have hbx:η.f bx = .live false [.int .i64 k0]:=hbx
   have dbx:=(E.2 bx hx2).trans hbx
   have okk0:=hkk k0 (by simp)
   simp -implicitDefEqProofs (disch:=omega) only [go_sem,c1,lk,e1,e2,e3,e4,e5,e6,e7,e8,e9,e10,e11,e12,e13,e14,e15,e16,e17,e18,e19,e20,e21,e22,e23,dbx]
   refine thenN_call (typNamed_then U hb1 (by omega) rz1 okn nm fun ζ2 E2=>?_)
   simp -implicitDefEqProofs (disch:=omega) only [go_sem,c1,lk,e1,e2,e3,e4,e5,e6,e7,e8,e9,e10,e11,e12,e13,e14,e15,e16,e17,e18,e19,e20,e21,e22,e23,dbx]
   exact (hM _ _).2 ⟨_,_,⟨rfl,rfl,rfl⟩,extT E E2,by
    rw [qq]
    show finT _ 0 [k0] = finT (decide (1 = 1 ∧ kdOf n nm = 1)) 0 [k0]
    simp⟩
  have q23:=qq
  clear qq
  rw [decide_eq_false q23] at e23
  by_cases qq:op = sIf
  ·rw [decide_eq_true qq] at e24
   have hn:K.length = 3:=by
    have g:=arity (by rw [qq]; decide)
    rw [qq] at g
    exact (Option.some.inj g).symm
   obtain ⟨k0,k1,k2,rfl⟩:∃ k0 k1 k2,K = [k0,k1,k2]:=by
    match K,hn with
    | [k0,k1,k2],_=>exact ⟨k0,k1,k2,rfl⟩
   obtain ⟨bx,hx1,hx2,hxe,-,hbx⟩:=rk.resolve_left (fun g=>by cases g.2)
   have hxe:x = .slice bx 0 3 (.un 1):=hxe
   subst hxe
   have lk:∀ (η':HN) (e w:Nat),lenN (.slice e 1 w) (.slice bx 0 3 (.un 1)) η' = .ok (.int .i64 3) η':=lk
   have hbx:η.f bx = .live false [.int .i64 k0,.int .i64 k1,.int .i64 k2]:=hbx
   have dbx:=(E.2 bx hx2).trans hbx
   have okk0:=hkk k0 (by simp)
   have okk1:=hkk k1 (by simp)
   have okk2:=hkk k2 (by simp)
   rcases okk0 with rfl | rfl <;> rcases okk1 with rfl | rfl <;> rcases okk2 with rfl | rfl
   ·simp -implicitDefEqProofs (disch:=omega) only [go_sem,c1,lk,e1,e2,e3,e4,e5,e6,e7,e8,e9,e10,e11,e12,e13,e14,e15,e16,e17,e18,e19,e20,e21,e22,e23,e24,dbx]
    exact (hM _ _).2 ⟨_,_,⟨rfl,rfl,rfl⟩,E,by rw [qq]; rfl⟩
   ·simp -implicitDefEqProofs (disch:=omega) only [go_sem,c1,lk,e1,e2,e3,e4,e5,e6,e7,e8,e9,e10,e11,e12,e13,e14,e15,e16,e17,e18,e19,e20,e21,e22,e23,e24,dbx]
    exact (hM _ _).2 ⟨_,_,⟨rfl,rfl,rfl⟩,E,by rw [qq]; rfl⟩
   ·simp -implicitDefEqProofs (disch:=omega) only [go_sem,c1,lk,e1,e2,e3,e4,e5,e6,e7,e8,e9,e10,e11,e12,e13,e14,e15,e16,e17,e18,e19,e20,e21,e22,e23,e24,dbx]
    exact (hM _ _).2 ⟨_,_,⟨rfl,rfl,rfl⟩,E,by rw [qq]; rfl⟩
   ·simp -implicitDefEqProofs (disch:=omega) only [go_sem,c1,lk,e1,e2,e3,e4,e5,e6,e7,e8,e9,e10,e11,e12,e13,e14,e15,e16,e17,e18,e19,e20,e21,e22,e23,e24,dbx]
    exact (hM _ _).2 ⟨_,_,⟨rfl,rfl,rfl⟩,E,by rw [qq]; rfl⟩
   ·simp -implicitDefEqProofs (disch:=omega) only [go_sem,c1,lk,e1,e2,e3,e4,e5,e6,e7,e8,e9,e10,e11,e12,e13,e14,e15,e16,e17,e18,e19,e20,e21,e22,e23,e24,dbx]
    exact (hM _ _).2 ⟨_,_,⟨rfl,rfl,rfl⟩,E,by rw [qq]; rfl⟩
   ·simp -implicitDefEqProofs (disch:=omega) only [go_sem,c1,lk,e1,e2,e3,e4,e5,e6,e7,e8,e9,e10,e11,e12,e13,e14,e15,e16,e17,e18,e19,e20,e21,e22,e23,e24,dbx]
    exact (hM _ _).2 ⟨_,_,⟨rfl,rfl,rfl⟩,E,by rw [qq]; rfl⟩
   ·simp -implicitDefEqProofs (disch:=omega) only [go_sem,c1,lk,e1,e2,e3,e4,e5,e6,e7,e8,e9,e10,e11,e12,e13,e14,e15,e16,e17,e18,e19,e20,e21,e22,e23,e24,dbx]
    exact (hM _ _).2 ⟨_,_,⟨rfl,rfl,rfl⟩,E,by rw [qq]; rfl⟩
   ·simp -implicitDefEqProofs (disch:=omega) only [go_sem,c1,lk,e1,e2,e3,e4,e5,e6,e7,e8,e9,e10,e11,e12,e13,e14,e15,e16,e17,e18,e19,e20,e21,e22,e23,e24,dbx]
    exact (hM _ _).2 ⟨_,_,⟨rfl,rfl,rfl⟩,E,by rw [qq]; rfl⟩
  have q24:=qq
  clear qq
  rw [decide_eq_false q24] at e24
  by_cases qq:op = sMerge
  ·rw [decide_eq_true qq] at e25
   have hn:K.length = 2:=by
    have g:=arity (by rw [qq]; decide)
    rw [qq] at g
    exact (Option.some.inj g).symm
   obtain ⟨k0,k1,rfl⟩:∃ k0 k1,K = [k0,k1]:=by
    match K,hn with
    | [k0,k1],_=>exact ⟨k0,k1,rfl⟩
   obtain ⟨bx,hx1,hx2,hxe,-,hbx⟩:=rk.resolve_left (fun g=>by cases g.2)
   have hxe:x = .slice bx 0 2 (.un 1):=hxe
   subst hxe
   have lk:∀ (η':HN) (e w:Nat),lenN (.slice e 1 w) (.slice bx 0 2 (.un 1)) η' = .ok (.int .i64 2) η':=lk
   have hbx:η.f bx = .live false [.int .i64 k0,.int .i64 k1]:=hbx
   have dbx:=(E.2 bx hx2).trans hbx
   have okk0:=hkk k0 (by simp)
   have okk1:=hkk k1 (by simp)
   simp -implicitDefEqProofs (disch:=omega) only [go_sem,c1,lk,e1,e2,e3,e4,e5,e6,e7,e8,e9,e10,e11,e12,e13,e14,e15,e16,e17,e18,e19,e20,e21,e22,e23,e24,e25]
   refine thenN_call (typAlike_then (a:=k0) (c:=k1) U dbx (by omega) fun ζ2 E2=>?_)
   have nn2:=E2.1
   have d1:=(E2.2 _ (by omega)).trans c1
   have db:=(E2.2 _ (by omega)).trans hb1
   by_cases w:k1 = k0
   ·subst w
    rw [decide_eq_true rfl]
    simp -implicitDefEqProofs (disch:=omega) only [go_sem,c1,lk,e1,e2,e3,e4,e5,e6,e7,e8,e9,e10,e11,e12,e13,e14,e15,e16,e17,e18,e19,e20,e21,e22,e23,e24,e25,d1]
    refine thenN_call (typNamed_then U db (by omega) (rdN_ext rz1 E2) okn nm fun ζ3 E3=>?_)
    simp -implicitDefEqProofs (disch:=omega) only [go_sem,c1,lk,e1,e2,e3,e4,e5,e6,e7,e8,e9,e10,e11,e12,e13,e14,e15,e16,e17,e18,e19,e20,e21,e22,e23,e24,e25]
    exact (hM _ _).2 ⟨_,_,⟨rfl,rfl,rfl⟩,extT E (extT E2 E3),by
     rw [qq]
     show finT _ 0 [k1,k1] = finT (alikeT [k1,k1] 2 && decide (kdOf n nm = 1)) 0 [k1,k1]
     rw [alike_same]; rfl⟩
   ·rw [decide_eq_false w]
    simp -implicitDefEqProofs (disch:=omega) only [go_sem,c1,lk,e1,e2,e3,e4,e5,e6,e7,e8,e9,e10,e11,e12,e13,e14,e15,e16,e17,e18,e19,e20,e21,e22,e23,e24,e25,d1]
    exact (hM _ _).2 ⟨_,_,⟨rfl,rfl,rfl⟩,extT E E2,by
     rw [qq]
     show finT _ 0 [k0,k1] = finT (alikeT [k0,k1] 2 && decide (kdOf n nm = 1)) 0 [k0,k1]
     rw [alike_diff w]; rfl⟩
  have q25:=qq
  clear qq
  rw [decide_eq_false q25] at e25
  by_cases qq:op = sCall
  ·rw [decide_eq_true qq] at e26
   simp -implicitDefEqProofs (disch:=omega) only [go_sem,c1,lk,e1,e2,e3,e4,e5,e6,e7,e8,e9,e10,e11,e12,e13,e14,e15,e16,e17,e18,e19,e20,e21,e22,e23,e24,e25,e26]
   have hc:callOk h nm K.length = true:=by
    have g:=hx
    rw [qq] at g
    exact g
   refine thenN_call (typCall_then U (c.ext E) (rk.keep E.1 fun b h1 h2 _=>E.2 b h2) hKs hc fun ζ2 E2=>?_)
   simp -implicitDefEqProofs (disch:=omega) only [go_sem,c1,lk,e1,e2,e3,e4,e5,e6,e7,e8,e9,e10,e11,e12,e13,e14,e15,e16,e17,e18,e19,e20,e21,e22,e23,e24,e25,e26]
   have eo:callT h nm K = ownT h n op nm K:=by rw [qq]; rfl
   rw [eo]
   exact k _ (extT E E2)
  have q26:=qq
  clear qq
  rw [decide_eq_false q26] at e26
  exact absurd hw (by
   rintro (g | g)
   ·exact q26 g
   ·rcases need_mem g with ⟨_,g⟩ | ⟨_,g⟩ | ⟨_,g⟩ | ⟨_,g⟩ <;> simp_all)
end Go.Proofs.Ytpjmiopplfmcfaa
