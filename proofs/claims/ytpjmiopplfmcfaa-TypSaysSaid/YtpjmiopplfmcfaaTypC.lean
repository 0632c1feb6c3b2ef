/- What is proved: what the program's kind of an expression does. what the program's look at a node's kinds does. Conditions: as each theorem says. -/
import Derived.Test.YtpjmiopplfmcfaaTypB
set_option linter.unusedVariables false
set_option linter.unusedSimpArgs false
set_option linter.unusedSectionVars false
namespace Go.Plain
open Go.Eng
set_option autoImplicit false
theorem exprTs_nil {h:List Nd} {n:Nd}:exprTs h n [] = .inr []:=by unfold exprTs; rfl
theorem exprTs_cons {h:List Nd} {n:Nd} (k:Tr) (r:List Tr):exprTs h n (k :: r) = match exprT h n k with | .inl p=>.inl p | .inr c=>match exprTs h n r with | .inl p=>.inl p | .inr cs=>.inr (c :: cs):=by
 conv=>lhs; unfold exprTs
 cases exprT h n k with
 | inl p=>rfl
 | inr c=>cases exprTs h n r <;> rfl
theorem exprTs_app {h:List Nd} {n:Nd}:∀ (l r:List Tr),exprTs h n (l ++ r) = match exprTs h n l with | .inl p=>.inl p | .inr cs=>match exprTs h n r with | .inl p=>.inl p | .inr ds=>.inr (cs ++ ds)
 | [],r=>by
  rw [List.nil_append,exprTs_nil]
  cases exprTs h n r <;> rfl
 | k :: l,r=>by
  rw [List.cons_append,exprTs_cons,exprTs_cons,exprTs_app l r]
  cases exprT h n k with
  | inl p=>rfl
  | inr c =>
   cases exprTs h n l with
   | inl p=>rfl
   | inr cs=>cases exprTs h n r <;> rfl
theorem exprTs_one {h:List Nd} {n:Nd} {k:Tr}:exprTs h n [k] = match exprT h n k with | .inl p=>.inl p | .inr c=>.inr [c]:=by
 rw [exprTs_cons,exprTs_nil]
def TyA (η:HN) (tb:Nat) (v:AV) (z:List AV) (wr:AV) (W:List Nat):Prop:=tb < η.nx ∧ η.f tb = .live false (v :: (z ++ [wr])) ∧ RowA (tb + 1) η wr (kdc W)
theorem TyA.ext {η η':HN} {tb:Nat} {v wr:AV} {z:List AV} {W:List Nat} (h:TyA η tb v z wr W) (x:ExtB η.nx η η'):TyA η' tb v z wr W :=
 ⟨Nat.lt_of_lt_of_le h.1 x.1,(x.2 _ h.1).trans h.2.1,h.2.2.keep x.1 fun c _ h2 _=>x.2 c h2⟩
end Go.Plain
namespace Go.Proofs.Ytpjmiopplfmcfaa
open Go.Eng Go.Plain
set_option autoImplicit false
set_option maxRecDepth 100000
variable {nat:∀ [Deep],Nats}
section
variable {P:Program} {C:Go.Eng.Spec} {all:List Oper} {K:FN → HN → Prop} {nx0:Nat} {ks:List DK} {r:List Oper} {j:Nat} {d:Option Nat} {φ:FN} {ηs:List HN} {rs:List RecN}
theorem dE_row {w lo zb:Nat} {η:HN} {x v:AV} {l:List AV} {c:Cp} (h:RowA lo η x l) (hz:η.f zb = .live false [v]) (hzn:zb < η.nx) (hlen:(l.length + 1) * w ≤ 140737488355328) (hb:lo ≤ η.nx)
  (k:∀ η',RowA lo η' (.slice η.nx 0 (l.length + 1) (.un 1)) (l ++ [v]) → η'.nx = η.nx + 1 → (∀ b,b < η.nx → ¬ blkIs x b → η'.f b = η.f b) → drawN P C all K nx0 ks r (j + 1) (putN d (.slice η.nx 0 (l.length + 1) (.un 1)) φ) η' (η' :: ηs) rs):dE P C all K nx0 ks r j d φ η ηs rs (apSrcN 1 w x (.slice zb 0 1 c) η):=by
 obtain ⟨η',e,h1,h2,h3⟩:=rowA_app (w:=w) (c:=c) h hz hzn hlen hb
 rw [e]
 exact k η' h1 h2 h3
end
theorem TyA.chk {η0 η:HN} {tb:Nat} {v wr:AV} {h:List Nd} {n:Nd} {z:List AV} {W:List Nat} (T:Trees η0 v h n z) (x:ExtB η0.nx η0 η) (t:TyA η tb v z wr W):ChkAt η tb v h z wr:=T.chk x t.2.1 t.1
set_option maxHeartbeats 16000000 in
theorem typExpr_then (U:Usual nat) {η0:HN} {v y1 y2 y3 y4:AV} {h:List Nd} {n:Nd} (T:Trees η0 v h n [.str n.nm.1 n.nm.2,y1,y2,y3,y4,.int .i64 n.a]) {tb:Nat} (hc:η0.nx ≤ tb):∀ (e:Tr),okE e → wanE e → knownE h n e → ∀ (η:HN) (ze:List AV) (wr:AV) (W:List Nat) (Q:AV → HN → Prop),ExtB η0.nx η0 η → TyA η tb v [.str n.nm.1 n.nm.2,y1,y2,y3,y4,.int .i64 n.a] wr W → W.length ≤ 1099511627776 → rdE tt η0 e ze →
  (∀ k η',exprT h n e = .inr k → ExtB η.nx η η' → Q (.int .i64 k) η') →
  (∀ p wr' η',exprT h n e = .inl p → TyA η' tb v [.str n.nm.1 n.nm.2,y1,y2,y3,y4,.int .i64 n.a] wr' (W ++ [p]) → η.nx ≤ η'.nx → (∀ c,c < η.nx → c ≠ tb → ¬ blkIs wr c → η'.f c = η.f c) → Q (.int .i64 0) η') →
  ∃ v' η',CallN Try.prog nat 72 [.ptr tb 0,.agg ze] η v' η' ∧ Q v' η':=by
 refine Tr.ind fun op nm N a ks ih=>?_
 intro ok wan kno η ze wr W Q x' ta hW r k1 k2
 unfold okE at ok
 unfold wanE at wan
 unfold knownE at kno
 obtain ⟨ha,hkl,hks⟩:=ok
 have hks:=(okEs_iff _).1 hks
 have hws:=(wanEs_iff _).1 wan.2
 have hkn:=(knownEs_iff _).1 kno.2
 unfold rdE at r
 obtain ⟨y,rfl,-,ls,ry,rks⟩:=r
 have hll:=(rdEs_len rks).1
 have eE:exprT h n (.mk op nm N a ks) = match exprTs h n ks with | .inl p=>.inl p | .inr cs=>if ownT h n op nm cs = 1 ∨ ownT h n op nm cs = 2 then .inr (ownT h n op nm cs) else .inl a:=by
  conv=>lhs; unfold exprT
  cases exprTs h n ks <;> rfl
 rw [eE] at k1 k2
 have l3:=fun η' e w=>row_len (η':=η') ry hll (by omega) e w
 have htb:=ta.1
 refine call_of (PT:=pl72) Try.func72 rfl (U 72 (by decide)) ok72 rfl ?_
 obtain ⟨M,hM⟩:∃ M:FN → HN → Prop,∀ φ ζ,M φ ζ ↔ ∃ x K,(φ 0 = .ptr tb 0 ∧ φ 3 = .ptr η.nx 0 ∧ φ 5 = x) ∧ exprTs h n ks = .inr K ∧ RowA (η.nx + 1) ζ x (kdc K) ∧ ExtB η.nx η ζ ∧ η.nx < ζ.nx ∧ ζ.f η.nx = .live false [.str op.1 op.2,.str nm.1 nm.2,.int .i64 N,.int .i64 a,y]:=⟨_,fun _ _=>Iff.rfl⟩
 refine wp_cut (M:=M) 3 _ _ _ ?_ ?_
 rotate_left
 ·obtain ⟨η1,h1⟩:∃ η1,η1 = η.new (.live false [.str op.1 op.2,.str nm.1 nm.2,.int .i64 N,.int .i64 a,y]):=⟨_,rfl⟩
  have E:ExtB η.nx η η1:=by rw [h1]; exact extN (.refl _ _)
  have c1:η1.f η.nx = .live false [.str op.1 op.2,.str nm.1 nm.2,.int .i64 N,.int .i64 a,y]:=by rw [h1]; exact if_pos rfl
  have n1:η1.nx = η.nx + 1:=by rw [h1]; rfl
  simp -implicitDefEqProofs (disch:=omega) only [go_sem,sV]
  rw [← h1]
  simp -implicitDefEqProofs (disch:=omega) only [go_sem,sV,c1,l3]
  clear h1
  obtain ⟨I,hI⟩:∃ I:Nat → FN → HN → Prop,∀ m φ ζ,I m φ ζ ↔ ∃ i x K,m = ks.length - i ∧ i ≤ ks.length ∧ (φ 0 = .ptr tb 0 ∧ φ 3 = .ptr η.nx 0 ∧ φ 5 = x ∧ φ 11 = y ∧ φ 12 = .int .i64 ks.length ∧ φ 13 = .int .i64 i) ∧ exprTs h n (ks.take i) = .inr K ∧ RowA (η.nx + 1) ζ x (kdc K) ∧ ExtB η.nx η ζ ∧ η.nx < ζ.nx ∧ ζ.f η.nx = .live false [.str op.1 op.2,.str nm.1 nm.2,.int .i64 N,.int .i64 a,y]:=⟨_,fun _ _ _=>Iff.rfl⟩
  refine wpN_loop I ks.length ((hI _ _ _).2 ⟨0,.nilslice,[],rfl,Nat.zero_le _,⟨rfl,rfl,rfl,rfl,rfl,rfl⟩,by rw [List.take_zero]; unfold exprTs; rfl,.inl ⟨rfl,rfl⟩,E,by omega,c1⟩) ?_
  clear c1 E
  intro m φ ζ hi
  obtain ⟨i,x,K,hm,hi,⟨p0,p3,p5,p11,p12,p13⟩,eK,rk,E,nz,c1⟩:=(hI _ _ _).1 hi
  have xz:=extT x' E
  by_cases hlt:i < ks.length
  ·obtain ⟨hi',ri⟩:=rdEs_at rks i hlt
   obtain ⟨bk,off,cap,ro,row,rfl,hbv,hbn,hlen,hrow⟩:=ry.at hi'
   have hbz:ζ.f bk = _:=(xz.2 bk hbn).trans hbv
   obtain ⟨f1,f2,f3,f4,f5,ef⟩:=rdE_cells ri
   rw [ef] at hrow ri
   have hKl:K.length = i:=by rw [(exprTs_ok _ eK).1,List.length_take]; omega
   have etk:exprTs h n (ks.take (i + 1)) = match exprT h n ks[i] with | .inl p=>.inl p | .inr c=>.inr (K ++ [c]):=by
    rw [List.take_succ_eq_append_getElem hlt,exprTs_app,eK,exprTs_one]
    cases exprT h n ks[i] <;> rfl
   obtain ⟨ζ1,e1⟩:∃ ζ1,ζ1 = ζ.new (.live false [.str f1.1 f1.2,.str f2.1 f2.2,.int .i64 f3,.int .i64 f4,f5]):=⟨_,rfl⟩
   have E1:ExtB ζ.nx ζ ζ1:=by rw [e1]; exact extN (.refl _ _)
   have c7:ζ1.f ζ.nx = .live false [.str f1.1 f1.2,.str f2.1 f2.2,.int .i64 f3,.int .i64 f4,f5]:=by rw [e1]; exact if_pos rfl
   have n1:ζ1.nx = ζ.nx + 1:=by rw [e1]; rfl
   have nE:=E.1
   simp -implicitDefEqProofs (disch:=omega) only [go_sem,p0,p3,p5,p11,p12,p13,hbz,hrow,repL_s,repL_z,setsL_c]
   rw [← e1]
   clear e1
   have tz:=(ta.ext E).ext E1
   refine thenN_call (ih _ (List.getElem_mem hlt) (hks _ (List.getElem_mem hlt)) (hws _ (List.getElem_mem hlt)) (hkn _ (List.getElem_mem hlt)) ζ1 _ wr W _ (extT xz E1) tz hW ri (fun q ζ2 eq E2=>?_) (fun p wr' ζ2 ep t2 n2 k2'=>?_))
   ·have hq:q = 1 ∨ q = 2:=exprT_ok _ eq
    have n2:=E2.1
    have dq:decide (q = 0) = false:=decide_eq_false (by omega)
    have E12:=extT E1 E2
    rw [eq] at etk
    obtain ⟨ζ9,e9,ra9,n9,k9⟩:=rowA_app (w:=8) (η:=ζ2.new (.live false [.int .i64 q])) (v:=.int .i64 q) (zb:=ζ2.nx) (c:=.kn 1) (rk.keep (η':=ζ2.new (.live false [.int .i64 q])) (by show ζ.nx ≤ ζ2.nx + 1; omega) fun c h1 h2 _=>(if_neg (by omega)).trans (E12.2 c h2)) (if_pos rfl) (Nat.lt_succ_self _) (by rw [show (kdc K).length = K.length from List.length_map ..]; omega) (by show η.nx + 1 ≤ ζ2.nx + 1; omega)
    have n9':ζ9.nx = ζ2.nx + 2:=n9
    have xal:∀ c,blkIs x c → η.nx + 1 ≤ c:=fun c hc=>(rk.blk hc).1
    have k9z:∀ c,c < η.nx + 1 → ζ9.f c = ζ.f c:=fun c h1=>(k9 c (by show c < ζ2.nx + 1; omega) (fun g=>by have:=xal c g; omega)).trans ((if_neg (by omega)).trans (E12.2 c (by omega)))
    rw [show (kdc K).length = K.length from List.length_map ..] at e9 ra9
    simp -implicitDefEqProofs (disch:=omega) only [go_sem,p0,p3,p5,p11,p12,p13,dq]
    rw [e9]
    simp -implicitDefEqProofs (disch:=omega) only [go_sem,p0,p3,p5,p11,p12,p13]
    have ek:kdc K ++ [AV.int .i64 q] = kdc (K ++ [q]):=by unfold kdc; rw [List.map_append]; rfl
    rw [ek] at ra9
    exact ⟨ks.length - (i + 1),by omega,(hI _ _ _).2 ⟨i + 1,_,K ++ [q],rfl,hlt,⟨by exact p0,by exact p3,rfl,by exact p11,by exact p12,rfl⟩,etk,ra9,⟨by omega,fun c hc=>(k9z c (by omega)).trans (E.2 c hc)⟩,by omega,(k9z _ (by omega)).trans c1⟩⟩
   ·have dq:decide (0 = 0) = true:=rfl
    rw [ep] at etk
    have ea:exprTs h n ks = .inl p:=by
     conv=>lhs; rw [← List.take_append_drop (i + 1) ks]
     rw [exprTs_app,etk]
    rw [ea] at k2
    simp -implicitDefEqProofs (disch:=omega) only [go_sem,p0,p3,p5,p11,p12,p13]
    exact k2 p wr' _ rfl t2 (by omega) fun c h1 h2 h3=>(k2' c (by omega) h2 h3).trans ((E1.2 c (by omega)).trans (E.2 c h1))
  ·obtain rfl:i = ks.length:=by omega
   rw [List.take_length] at eK
   simp -implicitDefEqProofs (disch:=omega) only [go_sem,p0,p3,p5,p11,p12,p13]
   exact (hM _ _).2 ⟨x,K,⟨by exact p0,by exact p3,by exact p5⟩,eK,rk,E,nz,c1⟩
 ·intro φ ζ hm
  obtain ⟨x,K,⟨p0,p3,p5⟩,eK,rk,E,nz,c1⟩:=(hM _ _).1 hm
  clear hM hm
  rw [eK] at k1 k2
  dsimp only at k1 k2
  obtain ⟨hKl,hkk⟩:=exprTs_ok _ eK
  have xz:=extT x' E
  have tz:=ta.ext E
  have nE:=E.1
  have rz:=rdN_ext T.hz xz
  simp -implicitDefEqProofs (disch:=omega) only [go_sem,p0,p3,p5,c1]
  refine thenN_call (typOwn_then U tz.2.1 (TyA.chk T xz tz) rz T.ok rk (by omega) hkk (by rw [hKl]; exact wan.1) (by rw [hKl]; exact kno.1) fun ζ2 E2=>?_)
  have n2:=E2.1
  have t2:=tz.ext E2
  have c2:=(E2.2 _ nz).trans c1
  have EE:=extT E E2
  generalize ownT h n op nm K = q at *
  by_cases g1:q = 1
  ·have d1:decide (q = 1) = true:=decide_eq_true g1
   rw [if_pos (.inl g1)] at k1
   simp -implicitDefEqProofs (disch:=omega) only [go_sem,p0,p3,p5,d1,Bool.not_true]
   exact k1 q _ rfl EE
  have d1:decide (q = 1) = false:=decide_eq_false g1
  by_cases g2:q = 2
  ·have d2:decide (q = 2) = true:=decide_eq_true g2
   rw [if_pos (.inr g2)] at k1
   simp -implicitDefEqProofs (disch:=omega) only [go_sem,p0,p3,p5,d1,d2,Bool.not_true,Bool.not_false]
   exact k1 q _ rfl EE
  have d2:decide (q = 2) = false:=decide_eq_false g2
  rw [if_neg (by rintro (g | g) <;> contradiction)] at k2
  have hb2:ζ2.f tb = .live false [v,.str n.nm.1 n.nm.2,y1,y2,y3,y4,.int .i64 n.a,wr]:=t2.2.1
  simp -implicitDefEqProofs (disch:=omega) only [go_sem,p0,p3,p5,d1,d2,Bool.not_false,hb2,c2]
  have hwl:(kdc W).length = W.length:=List.length_map ..
  have wl:∀ c,blkIs wr c → tb + 1 ≤ c ∧ c < ζ2.nx:=fun c hc=>⟨(t2.2.2.blk hc).1,(t2.2.2.blk hc).2.1⟩
  have htb2:=t2.1
  refine dE_row (lo:=tb + 1) (v:=.int .i64 a) (l:=kdc W) (zb:=ζ2.nx + 7) (t2.2.2.keep (by show ζ2.nx ≤ ζ2.nx + 12; omega) fun c h1 h2 _=>if_neg (by show ¬ c = ζ2.nx + 7; omega)) (if_pos rfl) (by show ζ2.nx + 7 < ζ2.nx + 12; omega) (by rw [hwl]; omega) (by show tb + 1 ≤ ζ2.nx + 12; omega) fun ζ9 r9 n9 k9=>?_
  have n9:ζ9.nx = ζ2.nx + 12 + 1:=n9
  have k9':∀ c,c < ζ2.nx → ¬ blkIs wr c → ζ9.f c = ζ2.f c:=fun c h1 h2=>(k9 c (by show c < ζ2.nx + 12; omega) h2).trans (if_neg (by show ¬ c = ζ2.nx + 7; omega))
  have hb9:=(k9' tb (by omega) (fun g=>by have:=wl _ g; omega)).trans hb2
  simp -implicitDefEqProofs (disch:=omega) only [go_sem,p0,p3,p5,hb2,c2,hb9]
  have ek:kdc W ++ [AV.int .i64 a] = kdc (W ++ [a]):=by unfold kdc; rw [List.map_append]; rfl
  rw [ek] at r9
  refine k2 a _ _ rfl ⟨by show tb < ζ9.nx; omega,if_pos rfl,r9.keep (Nat.le_refl _) fun c h1 h2 _=>if_neg (by omega)⟩ (by show η.nx ≤ ζ9.nx; omega) fun c h1 h2 h3=>(if_neg h2).trans ((k9' c (by omega) h3).trans (EE.2 c h1))
end Go.Proofs.Ytpjmiopplfmcfaa
namespace Go.Plain
open Go.Eng
set_option autoImplicit false
theorem locsT_drop {n:Nd} {l:List Vr} {i:Nat} (hi:i < l.length):locsT n (l.drop i) = if ¬ l[i].on = (0,0) ∧ ¬ kdOf n l[i].on = 1 then some l[i].a else locsT n (l.drop (i + 1)):=by
 rw [List.drop_eq_getElem_cons hi]; rfl
theorem eqsT_drop {h:List Nd} {n:Nd} {l:List Eqn} {i:Nat} (hi:i < l.length):eqsT h n (l.drop i) = match exprT h n l[i].e with | .inl p=>some p | .inr k=>if k = kdOf n l[i].nm then eqsT h n (l.drop (i + 1)) else some l[i].a:=by
 rw [List.drop_eq_getElem_cons hi]; rfl
theorem head_or {W:List Nat} {a:Nat} {o:Option Nat}:(W ++ [a]).head?.or o = W.head?.or (some a):=by
 cases W <;> rfl
theorem head_or2 {W:List Nat} {a:Nat} {o o':Option Nat}:(W ++ [a]).head?.or o = W.head?.or ((some a).or o'):=by
 cases W <;> rfl
end Go.Plain
namespace Go.Proofs.Ytpjmiopplfmcfaa
open Go.Eng Go.Plain
set_option autoImplicit false
set_option maxRecDepth 100000
variable {nat:∀ [Deep],Nats}
theorem wrong_add {tb:Nat} {v wr:AV} {z:List AV} {W:List Nat} {ζ2 ζ9:HN} {a:Nat} (t2:TyA ζ2 tb v z wr W) (r9:RowA (tb + 1) ζ9 (.slice (ζ2.nx + 12) 0 ((kdc W).length + 1) (.un 1)) (kdc W ++ [.int .i64 a])) (n9:ζ9.nx = ζ2.nx + 12 + 1) :
  TyA (ζ9.put tb (.live false (v :: (z ++ [.slice (ζ2.nx + 12) 0 ((kdc W).length + 1) (.un 1)])))) tb v z (.slice (ζ2.nx + 12) 0 ((kdc W).length + 1) (.un 1)) (W ++ [a]):=by
 have ek:kdc W ++ [AV.int .i64 a] = kdc (W ++ [a]):=by unfold kdc; rw [List.map_append]; rfl
 rw [ek] at r9
 have:=t2.1
 exact ⟨by show tb < ζ9.nx; omega,if_pos rfl,r9.keep (Nat.le_refl _) fun c h1 h2 _=>if_neg (by omega)⟩
set_option maxHeartbeats 16000000 in
theorem typNode_then (U:Usual nat) {η0:HN} {v y1 y2 y3 y4:AV} {h:List Nd} {n:Nd} (T:Trees η0 v h n [.str n.nm.1 n.nm.2,y1,y2,y3,y4,.int .i64 n.a]) (md:Made n) (kn:∀ q ∈ n.eqs,knownE h n q.e) {tb:Nat} (hc:η0.nx ≤ tb) {η:HN} (x:ExtB η0.nx η0 η) (ta:TyA η tb v [.str n.nm.1 n.nm.2,y1,y2,y3,y4,.int .i64 n.a] .nilslice []) {Q:AV → HN → Prop}
  (k:∀ wr W η',TyA η' tb v [.str n.nm.1 n.nm.2,y1,y2,y3,y4,.int .i64 n.a] wr W → W.length ≤ 1099511627776 → W.head? = (locsT n n.locs).or (eqsT h n n.eqs) → ExtB tb η η' → Q (.tup []) η'):∃ v' η',CallN Try.prog nat 73 [.ptr tb 0] η v' η' ∧ Q v' η':=by
 have rz0:=T.hz
 obtain ⟨z1,z2,z3,z4,ez,-,r1,r2,r3,qs,r4,r5⟩:=rz0
 obtain ⟨-,rfl,rfl,rfl,rfl⟩:_ ∧ y1 = z1 ∧ y2 = z2 ∧ y3 = z3 ∧ y4 = z4:=by
  injection ez with e0 ez; injection ez with e1 ez; injection ez with e2 ez; injection ez with e3 ez; injection ez with e4 ez
  exact ⟨e0,e1,e2,e3,e4⟩
 have okd:=T.ok
 have hVl:=okd.2.2.2.1.1
 have hVk:=okd.2.2.2.1.2
 have hEl:=okd.2.2.2.2.1
 have hEo:=okd.2.2.2.2.2
 have hEm:=md.eqs
 have lq:=(rdQs_len r5).1
 have l3:=fun η' e w=>row_len (η':=η') r3 (n:=n.locs.length) (vrs_len _) (by omega) e w
 have l4:=fun η' e w=>row_len (η':=η') r4 lq (by omega) e w
 obtain ⟨TOT,hTOT⟩:∃ o,o = (locsT n n.locs).or (eqsT h n n.eqs):=⟨_,rfl⟩
 rw [← hTOT] at k
 have hb0:η.f tb = .live false [v,.str n.nm.1 n.nm.2,y1,y2,y3,y4,.int .i64 n.a,.nilslice]:=ta.2.1
 have htb:=ta.1
 refine call_of (PT:=pl73) Try.func73 rfl (U 73 (by decide)) ok73 rfl ?_
 simp -implicitDefEqProofs (disch:=omega) only [go_sem,hb0,l3]
 generalize hV:n.locs = V at *
 generalize hEQ:n.eqs = EQ at *
 obtain ⟨I,hI⟩:∃ I:Nat → FN → HN → Prop,∀ m φ ζ,I m φ ζ ↔ ∃ i wr W,m = V.length - i ∧ i ≤ V.length ∧ (φ 0 = .ptr tb 0 ∧ φ 11 = y3 ∧ φ 12 = .int .i64 V.length ∧ φ 13 = .int .i64 i) ∧ TyA ζ tb v [.str n.nm.1 n.nm.2,y1,y2,y3,y4,.int .i64 n.a] wr W ∧ W.length ≤ i ∧ ExtB tb η ζ ∧ W.head?.or ((locsT n (V.drop i)).or (eqsT h n EQ)) = TOT:=⟨_,fun _ _ _=>Iff.rfl⟩
 refine wpN_loop I V.length ((hI _ _ _).2 ⟨0,.nilslice,[],rfl,Nat.zero_le _,⟨rfl,rfl,rfl,rfl⟩,ta,Nat.le_refl _,.refl _ _,hTOT.symm⟩) ?_
 intro m φ ζ hi
 obtain ⟨i,wr,W,hm,hi,⟨p0,p11,p12,p13⟩,tz,hW,E,et⟩:=(hI _ _ _).1 hi
 have xz:ExtB η0.nx η0 ζ:=⟨Nat.le_trans x.1 E.1,fun c hc'=>(E.2 c (by omega)).trans (x.2 c hc')⟩
 have hbz:ζ.f tb = .live false [v,.str n.nm.1 n.nm.2,y1,y2,y3,y4,.int .i64 n.a,wr]:=tz.2.1
 have htz:=tz.1
 by_cases hlt:i < V.length
 ·obtain ⟨bx,offx,capx,rox,rowx,rfl,hbx,hbxn,hcell⟩:=vrs_row r3 (by omega)
  have bxz:ζ.f bx = _:=(xz.2 _ hbxn).trans hbx
  obtain ⟨ck1,ck2⟩:=hcell i hlt
  have okv:=hVk _ (List.getElem_mem hlt)
  rw [locsT_drop hlt] at et
  generalize V[i] = w at *
  have eo:strEq w.on.1 w.on.2 0 0 = decide (w.on = (0,0)):=strEq_S w.on (0,0)
  obtain ⟨ζ1,e1⟩:∃ ζ1,ζ1 = ζ.new (.live false [.str w.nm.1 w.nm.2,.int .i64 w.kd,.str w.on.1 w.on.2,.bool w.nt,.int .i64 w.a]):=⟨_,rfl⟩
  have E1:ExtB ζ.nx ζ ζ1:=by rw [e1]; exact extN (.refl _ _)
  have c3:ζ1.f ζ.nx = .live false [.str w.nm.1 w.nm.2,.int .i64 w.kd,.str w.on.1 w.on.2,.bool w.nt,.int .i64 w.a]:=by rw [e1]; exact if_pos rfl
  have n1:ζ1.nx = ζ.nx + 1:=by rw [e1]; rfl
  have t1:=tz.ext E1
  have hb1:=(E1.2 _ htz).trans hbz
  simp -implicitDefEqProofs (disch:=omega) only [go_sem,p0,p11,p12,p13,bxz,ck2,repL_s,repL_z,setsL_c]
  rw [← e1]
  clear e1
  by_cases hon:w.on = (0,0)
  ·rw [decide_eq_true hon] at eo
   rw [if_neg (fun g=>g.1 hon)] at et
   simp -implicitDefEqProofs (disch:=omega) only [go_sem,p0,p11,p12,p13,c3,eo]
   exact ⟨V.length - (i + 1),by omega,(hI _ _ _).2 ⟨i + 1,wr,W,rfl,hlt,⟨by exact p0,by exact p11,by exact p12,rfl⟩,t1,by omega,⟨Nat.le_trans E.1 E1.1,fun c hc'=>(E1.2 c (by omega)).trans (E.2 c hc')⟩,et⟩⟩
  ·rw [decide_eq_false hon] at eo
   simp -implicitDefEqProofs (disch:=omega) only [go_sem,p0,p11,p12,p13,c3,eo]
   refine thenN_call (typNamed_then U hb1 (by omega) (rdN_ext T.hz (extT xz E1)) okd w.on fun ζ2 E2=>?_)
   have n2:=E2.1
   have t2:=t1.ext E2
   have hb2:ζ2.f tb = .live false [v,.str n.nm.1 n.nm.2,y1,y2,.slice bx offx V.length capx,y4,.int .i64 n.a,wr]:=t2.2.1
   have c32:=(E2.2 _ (by omega)).trans c3
   by_cases g:kdOf n w.on = 1
   ·rw [if_neg (fun h=>h.2 g)] at et
    have dg:decide (kdOf n w.on = 1) = true:=decide_eq_true g
    simp -implicitDefEqProofs (disch:=omega) only [go_sem,p0,p11,p12,p13,dg,Bool.not_true]
    exact ⟨V.length - (i + 1),by omega,(hI _ _ _).2 ⟨i + 1,wr,W,rfl,hlt,⟨by exact p0,by exact p11,by exact p12,rfl⟩,t2,by omega,⟨Nat.le_trans E.1 (Nat.le_trans E1.1 E2.1),fun c hc'=>(E2.2 c (by omega)).trans ((E1.2 c (by omega)).trans (E.2 c hc'))⟩,et⟩⟩
   ·rw [if_pos ⟨hon,g⟩] at et
    have dg:decide (kdOf n w.on = 1) = false:=decide_eq_false g
    simp -implicitDefEqProofs (disch:=omega) only [go_sem,p0,p11,p12,p13,dg,Bool.not_false,hb2,c32]
    have hwl:(kdc W).length = W.length:=List.length_map ..
    have wl:∀ c,blkIs wr c → tb + 1 ≤ c ∧ c < ζ2.nx:=fun c hc=>⟨(t2.2.2.blk hc).1,(t2.2.2.blk hc).2.1⟩
    have htb2:=t2.1
    refine dE_row (lo:=tb + 1) (v:=.int .i64 w.a) (l:=kdc W) (zb:=ζ2.nx + 7) (t2.2.2.keep (by show ζ2.nx ≤ ζ2.nx + 12; omega) fun c h1 h2 _=>if_neg (by show ¬ c = ζ2.nx + 7; omega)) (if_pos rfl) (by show ζ2.nx + 7 < ζ2.nx + 12; omega) (by rw [hwl]; omega) (by show tb + 1 ≤ ζ2.nx + 12; omega) fun ζ9 r9 n9 k9=>?_
    have n9:ζ9.nx = ζ2.nx + 12 + 1:=n9
    have k9':∀ c,c < ζ2.nx → ¬ blkIs wr c → ζ9.f c = ζ2.f c:=fun c h1 h2=>(k9 c (by show c < ζ2.nx + 12; omega) h2).trans (if_neg (by show ¬ c = ζ2.nx + 7; omega))
    have hb9:=(k9' tb (by omega) (fun g=>by have:=wl _ g; omega)).trans hb2
    have t9:=wrong_add t2 r9 n9
    simp -implicitDefEqProofs (disch:=omega) only [go_sem,p0,p11,p12,p13,hb2,c32,hb9]
    exact ⟨V.length - (i + 1),by omega,(hI _ _ _).2 ⟨i + 1,_,W ++ [w.a],rfl,hlt,⟨by exact p0,by exact p11,by exact p12,rfl⟩,t9,by rw [List.length_append]; show W.length + 1 ≤ i + 1; omega,⟨by have:=E.1; show η.nx ≤ ζ9.nx; omega,fun c hc'=>(if_neg (by omega)).trans ((k9' c (by omega) (fun g=>by have:=wl _ g; omega)).trans ((E2.2 c (by omega)).trans ((E1.2 c (by omega)).trans (E.2 c hc'))))⟩,by rw [← et]; exact head_or2⟩⟩
 ·obtain rfl:i = V.length:=by omega
  rw [List.drop_length] at et
  have et:W.head?.or (eqsT h n EQ) = TOT:=et
  simp -implicitDefEqProofs (disch:=omega) only [go_sem,p0,p11,p12,p13,hbz,l4]
  obtain ⟨J,hJ⟩:∃ J:Nat → FN → HN → Prop,∀ m φ ζ,J m φ ζ ↔ ∃ i wr W,m = EQ.length - i ∧ i ≤ EQ.length ∧ (φ 0 = .ptr tb 0 ∧ φ 43 = y4 ∧ φ 44 = .int .i64 EQ.length ∧ φ 45 = .int .i64 i) ∧ TyA ζ tb v [.str n.nm.1 n.nm.2,y1,y2,y3,y4,.int .i64 n.a] wr W ∧ W.length ≤ V.length + 2 * i ∧ ExtB tb η ζ ∧ W.head?.or (eqsT h n (EQ.drop i)) = TOT:=⟨_,fun _ _ _=>Iff.rfl⟩
  refine wpN_loop J EQ.length ((hJ _ _ _).2 ⟨0,wr,W,rfl,Nat.zero_le _,⟨by exact p0,rfl,rfl,rfl⟩,tz,hW,E,et⟩) ?_
  clear p0 p11 p12 p13 E et tz hbz htz xz hW hi
  intro m φ ζ hj
  obtain ⟨i,wr,W,hm,hi,⟨p0,p43,p44,p45⟩,tz,hW,E,et⟩:=(hJ _ _ _).1 hj
  have xz:ExtB η0.nx η0 ζ:=⟨Nat.le_trans x.1 E.1,fun c hc'=>(E.2 c (by omega)).trans (x.2 c hc')⟩
  have hbz:ζ.f tb = .live false [v,.str n.nm.1 n.nm.2,y1,y2,y3,y4,.int .i64 n.a,wr]:=tz.2.1
  have htz:=tz.1
  by_cases hlt:i < EQ.length
  ·obtain ⟨bq,offq,capq,roq,rowq,rfl,hbq,hbqn,hcell⟩:=eqs_row r4 r5 (by omega)
   obtain ⟨f1,f2,f3,f4,f5,cq1,cq2,req⟩:=hcell i hlt
   have okq:=hEo _ (List.getElem_mem hlt)
   have mdq:=hEm _ (List.getElem_mem hlt)
   have knq:=kn _ (List.getElem_mem hlt)
   have bqz:ζ.f bq = _:=(xz.2 _ hbqn).trans hbq
   rw [eqsT_drop hlt] at et
   generalize EQ[i] = q at *
   obtain ⟨ζ1,e1⟩:∃ ζ1,ζ1 = ζ.new (.live false [.str q.nm.1 q.nm.2,.str f1.1 f1.2,.str f2.1 f2.2,.int .i64 f3,.int .i64 f4,f5,.int .i64 q.a]):=⟨_,rfl⟩
   have E1:ExtB ζ.nx ζ ζ1:=by rw [e1]; exact extN (.refl _ _)
   have c5:ζ1.f ζ.nx = .live false [.str q.nm.1 q.nm.2,.str f1.1 f1.2,.str f2.1 f2.2,.int .i64 f3,.int .i64 f4,f5,.int .i64 q.a]:=by rw [e1]; exact if_pos rfl
   have n1:ζ1.nx = ζ.nx + 1:=by rw [e1]; rfl
   have t1:=tz.ext E1
   simp -implicitDefEqProofs (disch:=omega) only [go_sem,p0,p43,p44,p45,bqz,cq2,repL_s,repL_z,setsL_c]
   rw [← e1]
   clear e1
   have wl1:∀ c,blkIs wr c → tb + 1 ≤ c ∧ c < ζ.nx:=fun c hc=>⟨(tz.2.2.blk hc).1,(tz.2.2.blk hc).2.1⟩
   refine thenN_call (typExpr_then U T hc q.e okq.2 mdq knq ζ1 _ wr W _ (extT xz E1) t1 (by omega) req (fun kd ζ2 eq E2=>?_) (fun p wr2 ζ2 ep t2 n2 k2=>?_))
   ·have n2:=E2.1
    have t2:=t1.ext E2
    have hb2:ζ2.f tb = .live false [v,.str n.nm.1 n.nm.2,y1,y2,y3,.slice bq offq qs.length capq,.int .i64 n.a,wr]:=t2.2.1
    have c52:=(E2.2 _ (by omega)).trans c5
    rw [eq] at et
    dsimp only at et
    simp -implicitDefEqProofs (disch:=omega) only [go_sem,p0,p43,p44,p45,c52]
    refine thenN_call (typNamed_then U hb2 (by omega) (rdN_ext T.hz (extT (extT xz E1) E2)) okd q.nm fun ζ3 E3=>?_)
    have t3:=t2.ext E3
    have n3:=E3.1
    have hb3:ζ3.f tb = .live false [v,.str n.nm.1 n.nm.2,y1,y2,y3,.slice bq offq qs.length capq,.int .i64 n.a,wr]:=t3.2.1
    have c53:=(E3.2 _ (by omega)).trans c52
    have EE3:ExtB tb η ζ3:=⟨by have:=E.1; omega,fun c hc'=>(E3.2 c (by omega)).trans ((E2.2 c (by omega)).trans ((E1.2 c (by omega)).trans (E.2 c hc')))⟩
    by_cases g:kd = kdOf n q.nm
    ·rw [if_pos g] at et
     have dg:decide (kd = kdOf n q.nm) = true:=decide_eq_true g
     simp -implicitDefEqProofs (disch:=omega) only [go_sem,p0,p43,p44,p45,dg,Bool.not_true]
     exact ⟨EQ.length - (i + 1),by omega,(hJ _ _ _).2 ⟨i + 1,wr,W,rfl,hlt,⟨by exact p0,by exact p43,by exact p44,rfl⟩,t3,by omega,EE3,et⟩⟩
    ·rw [if_neg g] at et
     have dg:decide (kd = kdOf n q.nm) = false:=decide_eq_false g
     simp -implicitDefEqProofs (disch:=omega) only [go_sem,p0,p43,p44,p45,dg,Bool.not_false,hb3,c53]
     have hwl:(kdc W).length = W.length:=List.length_map ..
     have wl:∀ c,blkIs wr c → tb + 1 ≤ c ∧ c < ζ3.nx:=fun c hc=>⟨(t3.2.2.blk hc).1,(t3.2.2.blk hc).2.1⟩
     have htb3:=t3.1
     refine dE_row (lo:=tb + 1) (v:=.int .i64 q.a) (l:=kdc W) (zb:=ζ3.nx + 7) (t3.2.2.keep (by show ζ3.nx ≤ ζ3.nx + 12; omega) fun c h1 h2 _=>if_neg (by show ¬ c = ζ3.nx + 7; omega)) (if_pos rfl) (by show ζ3.nx + 7 < ζ3.nx + 12; omega) (by rw [hwl]; omega) (by show tb + 1 ≤ ζ3.nx + 12; omega) fun ζ9 r9 n9 k9=>?_
     have n9:ζ9.nx = ζ3.nx + 12 + 1:=n9
     have k9':∀ c,c < ζ3.nx → ¬ blkIs wr c → ζ9.f c = ζ3.f c:=fun c h1 h2=>(k9 c (by show c < ζ3.nx + 12; omega) h2).trans (if_neg (by show ¬ c = ζ3.nx + 7; omega))
     have hb9:=(k9' tb (by omega) (fun g=>by have:=wl _ g; omega)).trans hb3
     have t9:=wrong_add t3 r9 n9
     simp -implicitDefEqProofs (disch:=omega) only [go_sem,p0,p43,p44,p45,hb3,c53,hb9]
     exact ⟨EQ.length - (i + 1),by omega,(hJ _ _ _).2 ⟨i + 1,_,W ++ [q.a],rfl,hlt,⟨by exact p0,by exact p43,by exact p44,rfl⟩,t9,by rw [List.length_append]; show W.length + 1 ≤ _; omega,⟨by have:=EE3.1; show η.nx ≤ ζ9.nx; omega,fun c hc'=>(if_neg (by omega)).trans ((k9' c (by omega) (fun g=>by have:=wl _ g; omega)).trans (EE3.2 c hc'))⟩,by rw [← et]; exact head_or⟩⟩
   ·have hb2:ζ2.f tb = .live false [v,.str n.nm.1 n.nm.2,y1,y2,y3,.slice bq offq qs.length capq,.int .i64 n.a,wr2]:=t2.2.1
    have c52:=(k2 _ (by omega) (by omega) (fun g=>by have:=wl1 _ g; omega)).trans c5
    have EB2:∀ c,c < tb → ζ2.f c = ζ1.f c:=fun c hc'=>k2 c (by omega) (by omega) (fun g=>by have:=wl1 _ g; omega)
    have x2:ExtB η0.nx η0 ζ2:=⟨by have:=xz.1; omega,fun c hc'=>(EB2 c (by omega)).trans ((E1.2 c (by omega)).trans (xz.2 c hc'))⟩
    rw [ep] at et
    dsimp only at et
    simp -implicitDefEqProofs (disch:=omega) only [go_sem,p0,p43,p44,p45,c52]
    refine thenN_call (typNamed_then U hb2 (by omega) (rdN_ext T.hz x2) okd q.nm fun ζ3 E3=>?_)
    have t3:=t2.ext E3
    have n3:=E3.1
    have hb3:ζ3.f tb = .live false [v,.str n.nm.1 n.nm.2,y1,y2,y3,.slice bq offq qs.length capq,.int .i64 n.a,wr2]:=t3.2.1
    have c53:=(E3.2 _ (by omega)).trans c52
    have EE3:ExtB tb η ζ3:=⟨by have:=E.1; omega,fun c hc'=>(E3.2 c (by omega)).trans ((EB2 c hc').trans ((E1.2 c (by omega)).trans (E.2 c hc')))⟩
    have et1:(W ++ [p]).head?.or (eqsT h n (EQ.drop (i + 1))) = TOT:=by rw [← et]; exact head_or
    by_cases g:0 = kdOf n q.nm
    ·have dg:decide (0 = kdOf n q.nm) = true:=decide_eq_true g
     simp -implicitDefEqProofs (disch:=omega) only [go_sem,p0,p43,p44,p45,dg,Bool.not_true]
     exact ⟨EQ.length - (i + 1),by omega,(hJ _ _ _).2 ⟨i + 1,wr2,W ++ [p],rfl,hlt,⟨by exact p0,by exact p43,by exact p44,rfl⟩,t3,by rw [List.length_append]; show W.length + 1 ≤ _; omega,EE3,et1⟩⟩
    ·have dg:decide (0 = kdOf n q.nm) = false:=decide_eq_false g
     simp -implicitDefEqProofs (disch:=omega) only [go_sem,p0,p43,p44,p45,dg,Bool.not_false,hb3,c53]
     have hwl:(kdc (W ++ [p])).length = (W ++ [p]).length:=List.length_map ..
     have wl:∀ c,blkIs wr2 c → tb + 1 ≤ c ∧ c < ζ3.nx:=fun c hc=>⟨(t3.2.2.blk hc).1,(t3.2.2.blk hc).2.1⟩
     have htb3:=t3.1
     refine dE_row (lo:=tb + 1) (v:=.int .i64 q.a) (l:=kdc (W ++ [p])) (zb:=ζ3.nx + 7) (t3.2.2.keep (by show ζ3.nx ≤ ζ3.nx + 12; omega) fun c h1 h2 _=>if_neg (by show ¬ c = ζ3.nx + 7; omega)) (if_pos rfl) (by show ζ3.nx + 7 < ζ3.nx + 12; omega) (by rw [hwl]; rw [List.length_append]; show (W.length + 1 + 1) * 8 ≤ _; omega) (by show tb + 1 ≤ ζ3.nx + 12; omega) fun ζ9 r9 n9 k9=>?_
     have n9:ζ9.nx = ζ3.nx + 12 + 1:=n9
     have k9':∀ c,c < ζ3.nx → ¬ blkIs wr2 c → ζ9.f c = ζ3.f c:=fun c h1 h2=>(k9 c (by show c < ζ3.nx + 12; omega) h2).trans (if_neg (by show ¬ c = ζ3.nx + 7; omega))
     have hb9:=(k9' tb (by omega) (fun g=>by have:=wl _ g; omega)).trans hb3
     have t9:=wrong_add t3 r9 n9
     simp -implicitDefEqProofs (disch:=omega) only [go_sem,p0,p43,p44,p45,hb3,c53,hb9]
     exact ⟨EQ.length - (i + 1),by omega,(hJ _ _ _).2 ⟨i + 1,_,W ++ [p] ++ [q.a],rfl,hlt,⟨by exact p0,by exact p43,by exact p44,rfl⟩,t9,by rw [List.length_append,List.length_append]; show W.length + 1 + 1 ≤ _; omega,⟨by have:=EE3.1; show η.nx ≤ ζ9.nx; omega,fun c hc'=>(if_neg (by omega)).trans ((k9' c (by omega) (fun g=>by have:=wl _ g; omega)).trans (EE3.2 c hc'))⟩,by rw [head_or,← et]; cases W <;> rfl⟩⟩
  ·obtain rfl:i = EQ.length:=by omega
   rw [List.drop_length] at et
   have et:W.head?.or none = TOT:=et
   simp -implicitDefEqProofs (disch:=omega) only [go_sem,p0,p43,p44,p45]
   exact k wr W _ tz (by omega) (by rw [← et,Option.or_none]) E
end Go.Proofs.Ytpjmiopplfmcfaa
