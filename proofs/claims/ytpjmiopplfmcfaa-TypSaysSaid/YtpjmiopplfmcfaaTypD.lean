/- What is proved: what the program's check of kinds does; what its kind of an expression, asked from outside, and the document's are. what the program's kind of an expression, asked from outside, and the document's are. TypSays, walked. Conditions: as each theorem says. -/
import Derived.Test.YtpjmiopplfmcfaaTypC
set_option linter.unusedVariables false
set_option linter.unusedSimpArgs false
set_option linter.unusedSectionVars false
namespace Go.Plain
open Go.Eng
set_option autoImplicit false
theorem typesL_drop {l:List Nd} {i:Nat} (hi:i < l.length):typesL (l.take i) (l.drop i) = match (locsT l[i] l[i].locs).or (eqsT (l.take i) l[i] l[i].eqs) with | some a=>some a | none=>typesL (l.take (i + 1)) (l.drop (i + 1)):=by
 rw [List.drop_eq_getElem_cons hi,List.take_succ_eq_append_getElem hi]; rfl
mutual
theorem nmE_known {h:List Nd} {n:Nd}:∀ (e:Tr) (b:Bd),knownE h n e → nmE h n e b = b
 | .mk op nm N a ks,b,g=>by
  unfold knownE at g
  unfold nmE
  rw [g.1]
  exact nmEs_known ks b g.2
theorem nmEs_known {h:List Nd} {n:Nd}:∀ (ks:List Tr) (b:Bd),knownEs h n ks → nmEs h n ks b = b
 | [],b,_=>by unfold nmEs; rfl
 | k :: r,b,g=>by
  unfold knownEs at g
  unfold nmEs
  rw [nmE_known k b g.1]
  exact nmEs_known r b g.2
end
def kindO (o:Sum Nat Nat):Nat:=match o with | .inl _=>0 | .inr k=>k
end Go.Plain
namespace Go.Proofs.Ytpjmiopplfmcfaa
open Go.Eng Go.Plain
set_option autoImplicit false
set_option maxRecDepth 100000
variable {nat:∀ [Deep],Nats}
set_option maxHeartbeats 8000000 in
theorem typCheck_then (U:Usual nat) {l:List Nd} {ls:List (List AV)} {η:HN} {v:AV} {lo:Nat} (ok:okL l) (hmd:∀ n ∈ l,Made n) (kn:∀ i (hi:i < l.length),∀ q ∈ l[i].eqs,knownE (l.take i) l[i] q.e) (ov:OwnA 6 lo η v ls.length ls.flatten) (rl:rdNs tt η l ls) {Q:AV → HN → Prop}
  (k:∀ η',ExtB η.nx η η' → Q (.agg [.int .i64 (faultOf 9 (typesL [] l)).1,.int .i64 (faultOf 9 (typesL [] l)).2]) η'):∃ v' η',CallN Try.prog nat 41 [v] η v' η' ∧ Q v' η':=by
 obtain ⟨hl,okn⟩:=ok
 obtain ⟨lsl,ls6⟩:=rdNs_len rl
 have rv:=own_rdR ov ls6
 refine call_of (PT:=pl41) Try.func41 rfl (U 41 (by decide)) ok41 rfl ?_
 have ln:=fun η' e w=>row_len (η':=η') rv lsl (by omega) e w
 simp -implicitDefEqProofs (disch:=omega) only [go_sem,ln]
 obtain ⟨I,hI⟩:∃ I:Nat → FN → HN → Prop,∀ m φ ζ,I m φ ζ ↔ ∃ i,m = l.length - i ∧ i ≤ l.length ∧ (φ 0 = v ∧ φ 2 = .ptr η.nx 0 ∧ φ 6 = v ∧ φ 7 = .int .i64 l.length ∧ φ 8 = .int .i64 i) ∧ ExtB η.nx η ζ ∧ ζ.f η.nx = .live false [.int .i64 0,.int .i64 0] ∧ η.nx < ζ.nx ∧ typesL (l.take i) (l.drop i) = typesL [] l:=⟨_,fun _ _ _=>Iff.rfl⟩
 refine wpN_loop I l.length ((hI _ _ _).2 ⟨0,rfl,Nat.zero_le _,⟨rfl,rfl,rfl,rfl,rfl⟩,extN (.refl _ _),if_pos rfl,Nat.lt_succ_self _,rfl⟩) ?_
 intro m φ ζ hi
 obtain ⟨i,hm,hi,⟨p0,p2,p6,p7,p8⟩,Ex,c2,nz,en⟩:=(hI _ _ _).1 hi
 by_cases hlt:i < l.length
 ·obtain ⟨hi',ri⟩:=rdNs_at rl i hlt
  obtain ⟨b,rfl,hbv,hbn⟩:∃ b,v = .slice b 0 ls.length (.un 6) ∧ η.f b = .live false ls.flatten ∧ b < η.nx:=by
   obtain ⟨_,⟨_,q⟩ | ⟨c,q1,q2,⟨_,q3,_⟩ | ⟨q3,q4⟩⟩⟩:=ov
   ·omega
   ·omega
   ·exact ⟨c,q3,q4,q2⟩
  obtain ⟨b',off,cap,ro,row,ev,hbv',hbn',hlen,hrow⟩:=rv.at hi'
  cases ev
  rw [hbv] at hbv'
  cases hbv'
  have hbz:ζ.f b = _:=(Ex.2 b hbn).trans hbv
  have okd:=okn _ (List.getElem_mem hlt)
  have mdd:=hmd _ (List.getElem_mem hlt)
  have knd:=kn i hlt
  rw [typesL_drop hlt] at en
  have rtake:=rdNs_take i rl
  generalize hd:l[i] = d at *
  generalize hz:ls[i] = zd at *
  have ri':=ri
  obtain ⟨y1,y2,y3,y4,rfl,-⟩:=ri'
  have hsn:sV d.nm = .str d.nm.1 d.nm.2:=rfl
  rw [hsn] at ri hrow
  rw [Nat.zero_add] at hrow
  have nE:=Ex.1
  simp -implicitDefEqProofs (disch:=omega) only [go_sem,p0,p2,p6,p7,p8,hbz,hrow,repL_s,repL_z,setsL_c]
  have kH:∀ c,c < ζ.nx → ((((ζ.new (.live false [.str d.nm.1 d.nm.2,y1,y2,y3,y4,.int .i64 d.a])).at_ (ζ.nx + 1 + 5)).new (.live false [.slice b 0 i (.un 6),.str d.nm.1 d.nm.2,y1,y2,y3,y4,.int .i64 d.a,.nilslice])).at_ (ζ.nx + 1 + 7)).f c = ζ.f c:=fun c hc=>(if_neg (by show ¬ c = ζ.nx + 1 + 5; omega)).trans (if_neg (by omega))
  have EH:ExtB ζ.nx ζ ((((ζ.new (.live false [.str d.nm.1 d.nm.2,y1,y2,y3,y4,.int .i64 d.a])).at_ (ζ.nx + 1 + 5)).new (.live false [.slice b 0 i (.un 6),.str d.nm.1 d.nm.2,y1,y2,y3,y4,.int .i64 d.a,.nilslice])).at_ (ζ.nx + 1 + 7)):=⟨by show ζ.nx ≤ ζ.nx + 1 + 7; omega,kH⟩
  have T:Trees ζ (.slice b 0 i (.un 6)) (l.take i) d [.str d.nm.1 d.nm.2,y1,y2,y3,y4,.int .i64 d.a]:=⟨⟨_,rdR_take hbz (Nat.lt_of_lt_of_le hbn Ex.1) ls6 (by omega),rdNs_keep (keep_b Ex) Ex.1 (fun _ h=>h) rtake⟩,rdN_ext ri Ex,⟨by rw [List.length_take]; omega,fun d hd=>okn d (List.mem_of_mem_take hd)⟩,okd⟩
  refine thenN_call (typNode_then U T mdd knd (tb:=ζ.nx + 1 + 5) (by omega) EH ⟨by show ζ.nx + 1 + 5 < ζ.nx + 1 + 7; omega,if_pos rfl,.inl ⟨rfl,rfl⟩⟩ fun wr W η4 t4 hW hw x4=>?_)
  have n4:ζ.nx + 1 + 7 ≤ η4.nx:=x4.1
  have hb4:η4.f (ζ.nx + 1 + 5) = .live false [.slice b 0 i (.un 6),.str d.nm.1 d.nm.2,y1,y2,y3,y4,.int .i64 d.a,wr]:=t4.2.1
  have c4:η4.f η.nx = _:=(x4.2 _ (by omega)).trans ((kH _ nz).trans c2)
  rw [← hw] at en
  have lW:=fun η' e w=>row_len (η':=η') t4.2.2.rd (n:=W.length) (by rw [List.length_map]; exact List.length_map ..) (by omega) e w
  cases W with
  | cons a W' =>
   have en:some a = typesL [] l:=en
   rw [← en] at k
   obtain ⟨bw,w1,w2,rfl,-,hbw⟩:=t4.2.2.resolve_left (fun g=>by cases g.2)
   have hbw:η4.f bw = .live false (.int .i64 a :: kdc W'):=hbw
   have gw:(AV.int .i64 a :: kdc W').getD 0 und = .int .i64 a:=rfl
   have gl:(AV.int .i64 a :: kdc W').length = W'.length + 1:=congrArg (· + 1) (List.length_map ..)
   have gl2:(kdc (a :: W')).length = W'.length + 1:=List.length_map ..
   have gl3:(a :: W').length = W'.length + 1:=rfl
   rw [gl2] at hb4 lW
   rw [gl3] at lW
   simp -implicitDefEqProofs (disch:=omega) only [go_sem,p0,p2,p6,p7,p8,hb4,c4,lW,hbw,gw,gl]
   exact k _ ⟨by show η.nx ≤ η4.nx; omega,fun c hc=>(if_neg (by omega)).trans ((x4.2 c (by omega)).trans ((kH c (by omega)).trans (Ex.2 c hc)))⟩
  | nil =>
   have en:typesL (l.take (i + 1)) (l.drop (i + 1)) = typesL [] l:=en
   have l0:([]:List Nat).length = 0:=rfl
   rw [l0] at lW
   simp -implicitDefEqProofs (disch:=omega) only [go_sem,p0,p2,p6,p7,p8,hb4,lW]
   exact ⟨l.length - (i + 1),by omega,(hI _ _ _).2 ⟨i + 1,rfl,hlt,⟨by exact p0,by exact p2,by exact p6,by exact p7,rfl⟩,⟨by omega,fun c hc=>(x4.2 c (by omega)).trans ((kH c (by omega)).trans (Ex.2 c hc))⟩,c4,by omega,en⟩⟩
 ·obtain rfl:i = l.length:=by omega
  rw [List.drop_length] at en
  have en:none = typesL [] l:=en
  rw [← en] at k
  simp -implicitDefEqProofs (disch:=omega) only [go_sem,p0,p2,p6,p7,p8,c2]
  exact k _ (extP Ex)
end Go.Proofs.Ytpjmiopplfmcfaa
namespace Go.Proofs.Ytpjmiopplfmcfaa
open Go.Eng Go.Plain
set_option autoImplicit false
set_option maxRecDepth 100000
variable {nat:∀ [Deep],Nats}
set_option maxHeartbeats 8000000 in
theorem typOf_then (U:Usual nat) {l:List Nd} {ls:List (List AV)} {η:HN} {v:AV} {b:Nat} (ok:okL l) (ev:v = .slice b 0 ls.length (.un 6)) (hbv:η.f b = .live false ls.flatten) (hbn:b < η.nx) (rl:rdNs tt η l ls) {i:Nat} (hlt:i < l.length) {e:Tr} {ze:List AV} (oke:okE e) (wan:wanE e) (kno:knownE (l.take i) l[i] e) (re:rdE tt η e ze) {Q:AV → HN → Prop}
  (k:∀ η',ExtB η.nx η η' → Q (.int .i64 (kindO (exprT (l.take i) l[i] e))) η'):∃ v' η',CallN Try.prog nat 39 [v,.int .i64 i,.agg ze] η v' η' ∧ Q v' η':=by
 subst ev
 obtain ⟨hl,okn⟩:=ok
 obtain ⟨lsl,ls6⟩:=rdNs_len rl
 have rv:RdR 6 η (.slice b 0 ls.length (.un 6)) ls:=RdR.blk ls hbv hbn ls6
 refine call_of (PT:=pl39) Try.func39 rfl (U 39 (by decide)) ok39 rfl ?_
 have ln:=fun η' e w=>row_len (η':=η') rv lsl (by omega) e w
 obtain ⟨hi',ri⟩:=rdNs_at rl i hlt
 obtain ⟨b',off,cap,ro,row,ev,hbv',hbn',hlen,hrow⟩:=rv.at hi'
 cases ev
 rw [hbv] at hbv'
 cases hbv'
 have okd:=okn _ (List.getElem_mem hlt)
 have rtake:=rdNs_take i rl
 generalize l[i] = d at *
 generalize ls[i] = zd at *
 have ri':=ri
 obtain ⟨y1,y2,y3,y4,rfl,-⟩:=ri'
 obtain ⟨f1,f2,f3,f4,f5,rfl⟩:=rdE_cells re
 have hsn:sV d.nm = .str d.nm.1 d.nm.2:=rfl
 rw [hsn] at ri hrow
 rw [Nat.zero_add] at hrow
 obtain ⟨η1,h1⟩:∃ η1,η1 = η.new (.live false [.str f1.1 f1.2,.str f2.1 f2.2,.int .i64 f3,.int .i64 f4,f5]):=⟨_,rfl⟩
 have E1:ExtB η.nx η η1:=by rw [h1]; exact extN (.refl _ _)
 have c1:η1.f η.nx = .live false [.str f1.1 f1.2,.str f2.1 f2.2,.int .i64 f3,.int .i64 f4,f5]:=by rw [h1]; exact if_pos rfl
 have n1:η1.nx = η.nx + 1:=by rw [h1]; rfl
 have hb1:=(E1.2 _ hbn).trans hbv
 simp -implicitDefEqProofs (disch:=omega) only [go_sem,ln,hbv,hrow]
 rw [← h1]
 clear h1
 have kH:∀ c,c < η1.nx → (((η1.at_ (η.nx + 1 + 8)).new (.live false [.slice b 0 i (.un 6),.str d.nm.1 d.nm.2,y1,y2,y3,y4,.int .i64 d.a,.nilslice])).at_ (η.nx + 1 + 10)).f c = η1.f c:=fun c hc=>if_neg (by show ¬ c = η.nx + 1 + 8; omega)
 have EH:ExtB η.nx η (((η1.at_ (η.nx + 1 + 8)).new (.live false [.slice b 0 i (.un 6),.str d.nm.1 d.nm.2,y1,y2,y3,y4,.int .i64 d.a,.nilslice])).at_ (η.nx + 1 + 10)):=⟨by show η.nx ≤ η.nx + 1 + 10; omega,fun c hc=>(kH c (by omega)).trans (E1.2 c hc)⟩
 have c1H:=(kH η.nx (by omega)).trans c1
 have T:Trees η (.slice b 0 i (.un 6)) (l.take i) d [.str d.nm.1 d.nm.2,y1,y2,y3,y4,.int .i64 d.a]:=⟨⟨_,rdR_take hbv hbn ls6 (by omega),rtake⟩,ri,⟨by rw [List.length_take]; omega,fun d hd=>okn d (List.mem_of_mem_take hd)⟩,okd⟩
 refine thenN_call (typExpr_then U T (tb:=η.nx + 1 + 8) (by omega) e oke wan kno _ _ .nilslice [] _ EH ⟨by show η.nx + 1 + 8 < η.nx + 1 + 10; omega,if_pos rfl,.inl ⟨rfl,rfl⟩⟩ (Nat.zero_le _) re (fun q η4 eq x4=>?_) (fun p wr' η4 ep t4 n4 k4=>?_))
 ·rw [eq] at k
  simp -implicitDefEqProofs (disch:=omega) only [go_sem]
  exact k _ (extT EH x4)
 ·rw [ep] at k
  simp -implicitDefEqProofs (disch:=omega) only [go_sem]
  exact k _ ⟨Nat.le_trans EH.1 n4,fun c hc=>(k4 c (Nat.lt_of_lt_of_le hc EH.1) (by omega) (fun g=>g)).trans (EH.2 c hc)⟩
set_option maxHeartbeats 8000000 in
theorem kindOf6_then (U:Usual nat) {l:List Nd} {ls:List (List AV)} {η:HN} {v:AV} (ok:okL l) (sl:SlV v) (rv:RdR 6 η v ls) (rl:rdNs tt η l ls) {i:Nat} (hlt:i < l.length) {e:Tr} {ze:List AV} (hn:∀ v ∈ allOf l[i],okK v.kd) (hh:∀ d ∈ l.take i,∀ v ∈ d.outs,okK v.kd) (oke:okE e) (wan:wanE e) (kno:knownE (l.take i) l[i] e) (re:rdE tt η e ze) {Q:AV → HN → Prop}
  (k:∀ η',ExtB η.nx η η' → Q (.int .i64 (kindO (exprT (l.take i) l[i] e))) η'):∃ v' η',CallN Try.prog nat 43 [v,.int .i64 i,.agg ze] η v' η' ∧ Q v' η':=by
 obtain ⟨hl,okn⟩:=ok
 obtain ⟨lsl,ls6⟩:=rdNs_len rl
 refine call_of (PT:=pl43) Try.func43 rfl (U 43 (by decide)) ok43 rfl ?_
 have ln:=fun η' e w=>row_len (η':=η') rv lsl (by omega) e w
 obtain ⟨hi',ri⟩:=rdNs_at rl i hlt
 obtain ⟨b',n',rfl⟩:∃ b n,v = .slice b 0 n (.un 6):=by
  rcases sl with rfl | ⟨b,rfl⟩ | h
  ·rcases rv with ⟨h,_⟩ | ⟨_,_,_,_,_,h,_⟩
   ·subst h; exact absurd hi' (Nat.not_lt_zero _)
   ·cases h
  ·rcases rv with ⟨h,_⟩ | ⟨_,_,_,_,_,h,h2,h3,h4,h5,h6⟩
   ·subst h; exact absurd hi' (Nat.not_lt_zero _)
   ·injection h with _ _ h9 _
    omega
  ·exact h
 obtain ⟨b'',off,cap,ro,row,ev,hbv,hbn,hlen,hrow⟩:=rv.at hi'
 cases ev
 have okd:=okn _ (List.getElem_mem hlt)
 have rtake:=rdNs_take i rl
 have kn2:=known_pre (r:=l.drop i) e kno
 rw [List.take_append_drop] at kn2
 obtain ⟨i1,i2⟩:=kdE_eq (r:=l.drop i) hn hh e (0,0) wan kno rfl
 rw [List.take_append_drop] at i1 i2
 generalize l[i] = d at *
 generalize ls[i] = zd at *
 have ri':=ri
 obtain ⟨y1,y2,y3,y4,rfl,-⟩:=ri'
 obtain ⟨f1,f2,f3,f4,f5,rfl⟩:=rdE_cells re
 have hsn:sV d.nm = .str d.nm.1 d.nm.2:=rfl
 rw [hsn] at ri hrow
 rw [Nat.zero_add] at hrow
 obtain ⟨η1,h1⟩:∃ η1,η1 = (η.new (.live false [.str f1.1 f1.2,.str f2.1 f2.2,.int .i64 f3,.int .i64 f4,f5])).new (.live false [.int .i64 0,.int .i64 0]):=⟨_,rfl⟩
 have E1:ExtB η.nx η η1:=by rw [h1]; exact extN (extN (.refl _ _))
 have c1:η1.f η.nx = .live false [.str f1.1 f1.2,.str f2.1 f2.2,.int .i64 f3,.int .i64 f4,f5]:=by rw [h1]; exact (if_neg (by show ¬ η.nx = η.nx + 1; omega)).trans (if_pos rfl)
 have c2:BdAt η1 (η.nx + 1) (0,0):=by rw [h1]; exact if_pos rfl
 have n1:η1.nx = η.nx + 2:=by rw [h1]; rfl
 have hb1:=(E1.2 _ hbn).trans hbv
 simp -implicitDefEqProofs (disch:=omega) only [go_sem,ln,hbv,hrow]
 rw [← h1]
 clear h1
 have T1:Trees η (.slice b' 0 i (.un 6)) (l.take i) d [.str d.nm.1 d.nm.2,y1,y2,y3,y4,.int .i64 d.a]:=⟨⟨_,rdR_pre rv (by omega),rtake⟩,ri,⟨by rw [List.length_take]; omega,fun d hd=>okn d (List.mem_of_mem_take hd)⟩,okd⟩
 have T2:Trees η (.slice b' 0 ls.length (.un 6)) l d [.str d.nm.1 d.nm.2,y1,y2,y3,y4,.int .i64 d.a]:=⟨⟨_,rv,rl⟩,ri,⟨hl,okn⟩,okd⟩
 refine dE_call (names6_then U T1 (cb:=η.nx + 1) (by omega) e oke η1 _ (0,0) _ E1 (by omega) c2 (Nat.zero_le _) re fun η2 X2 hb2=>?_)
 rw [nmE_known e (0,0) kno] at hb2
 have n2:=X2.1
 have x2:ExtB η.nx η η2:=extX_B E1 (by omega) X2
 have c12:=(X2.2 _ (by omega) (by omega)).trans c1
 have hbv2:=(x2.2 _ hbn).trans hbv
 have hb2':η2.f (η.nx + 1) = .live false [.int .i64 0,.int .i64 0]:=hb2
 simp -implicitDefEqProofs (disch:=omega) only [go_sem,ln,hb1,hrow,c1,c12,hbv2,hb2']
 refine dE_call (kind6_then U T2 (cb:=η.nx + 1) (by omega) e oke wan kn2 η2 _ (0,0) _ x2 (by omega) hb2 (Nat.zero_le _) re fun η3 X3 hb3=>?_)
 have x3:ExtB η.nx η η3:=extX_B x2 (by omega) X3
 have n3:=X3.1
 have c13:=(X3.2 _ (by omega) (by omega)).trans c12
 have hbv3:=(x3.2 _ hbn).trans hbv
 cases g:exprT (l.take i) d e with
 | inr q =>
  rw [g] at k
  rw [i1 q g] at hb3
  have hb3':η3.f (η.nx + 1) = .live false [.int .i64 0,.int .i64 0]:=hb3
  simp -implicitDefEqProofs (disch:=omega) only [go_sem,ln,hb1,hrow,c1,c12,c13,hbv2,hbv3,hb2',hb3',i1 q g]
  exact k _ x3
 | inl p =>
  rw [g] at k
  rw [i2 p g] at hb3
  have hb3':η3.f (η.nx + 1) = .live false [.int .i64 9,.int .i64 p]:=hb3
  simp -implicitDefEqProofs (disch:=omega) only [go_sem,ln,hb1,hrow,c1,c12,c13,hbv2,hbv3,hb2',hb3']
  exact k _ x3
end Go.Proofs.Ytpjmiopplfmcfaa
namespace Go.Proofs.Ytpjmiopplfmcfaa
open Go.Eng Go.Plain
set_option autoImplicit false
set_option maxRecDepth 100000
variable {nat:∀ [Deep],Nats}
structure Upto6 (l:List Nd):Prop where
 ok:okL l
 made:∀ n ∈ l,Made n
 names:(namesR l).1 = 0
set_option maxHeartbeats 4000000 in
theorem upto6_then (U:Usual nat) {η:HN} {T:By} (hT:T.length ≤ 9223372036854775807) {Q:AV → HN → Prop}
  (k1:∀ l v ls η',RdR 6 η' v ls → rdNs tt η' l ls → ExtB η.nx η η' → Upto6 l → SlV v → Q (.tup [v,.bool true]) η')
  (k2:∀ η',ExtB η.nx η η' → Q (.tup [.nilslice,.bool false]) η'):∃ v η',CallN Try.prog nat 27 [.str T.length (codesL T),.int .i64 6] η v η' ∧ Q v η':=by
 refine call_of (PT:=pl27) Try.func27 rfl (U 27 (by decide)) ok27 rfl ?_
 simp -implicitDefEqProofs (disch:=omega) only [go_sem]
 refine thenN_call (parse_of U (cut_spec U) hT fun v η2 tr E2=>?_)
 obtain ⟨ls,r1,r2⟩:=tree_rd tr
 have sl:=tree_sl tr
 have okl:=parse_ok T
 have md:=parse_made T
 generalize (parseF T).1 = l at *
 generalize hp1:(parseF T).2.1 = pe at *
 generalize hp2:(parseF T).2.2 = pa at *
 have n2:=E2.1
 have E3:ExtB η2.nx η2 (η2.new (.live false [.int .i64 pe,.int .i64 pa])):=extN (.refl _ _)
 have c3:(η2.new (.live false [.int .i64 pe,.int .i64 pa])).f η2.nx = .live false [.int .i64 pe,.int .i64 pa]:=if_pos rfl
 have n3:(η2.new (.live false [.int .i64 pe,.int .i64 pa])).nx = η2.nx + 1:=rfl
 by_cases hpe:pe = 0
 ·have de:decide (pe = 0) = true:=decide_eq_true hpe
  simp -implicitDefEqProofs (disch:=omega) only [go_sem,repL_s,repL_z,setsL_c,c3,de]
  generalize η2.new (.live false [.int .i64 pe,.int .i64 pa]) = η3 at *
  have EE3:=extT E2 E3
  refine thenN_call (names6All_then U okl sl (r1.ext (base:=0) E3) (rdNs_keep (keep_b E3) E3.1 (fun _ h=>h) r2) fun η4 E4=>?_)
  have n4:=E4.1
  have EE4:=extT EE3 E4
  have c4:=(E4.2 _ (by omega)).trans c3
  generalize hN1:(namesR l).1 = ne at *
  generalize hN2:(namesR l).2 = na at *
  have c5:(η4.put η2.nx (.live false [.int .i64 ne,.int .i64 na])).f η2.nx = .live false [.int .i64 ne,.int .i64 na]:=if_pos rfl
  have n5:(η4.put η2.nx (.live false [.int .i64 ne,.int .i64 na])).nx = η4.nx:=rfl
  have E5:ExtB η2.nx η2 (η4.put η2.nx (.live false [.int .i64 ne,.int .i64 na])):=⟨by show η2.nx ≤ η4.nx; omega,fun c hc=>(if_neg (by omega)).trans ((E4.2 c (by omega)).trans (E3.2 c hc))⟩
  by_cases hne:ne = 0
  ·have dn:decide (ne = 0) = true:=decide_eq_true hne
   have hN0:(namesR l).1 = 0:=hN1.trans hne
   simp -implicitDefEqProofs (disch:=omega) only [go_sem,repL_s,repL_z,setsL_c,c4,c5,dn]
   exact k1 l v ls _ (r1.ext (base:=0) E5) (rdNs_keep (keep_b E5) E5.1 (fun _ h=>h) r2) (extT E2 E5) ⟨okl,md,hN0⟩ sl
  ·have dn:decide (ne = 0) = false:=decide_eq_false hne
   simp -implicitDefEqProofs (disch:=omega) only [go_sem,repL_s,repL_z,setsL_c,c4,c5,dn]
   exact k2 _ (extT E2 E5)
 ·have de:decide (pe = 0) = false:=decide_eq_false hpe
  simp -implicitDefEqProofs (disch:=omega) only [go_sem,repL_s,repL_z,setsL_c,c3,de]
  exact k2 _ (extT E2 E3)
theorem bad_same7 (x y:Nat):(eqB Try.prog 26).f (.agg [.int .i64 x,.int .i64 y]) (.agg [.int .i64 x,.int .i64 y]) = some true:=by rw [bad_eq,Nat.beq_refl,Nat.beq_refl]; rfl
attribute [-go_sem] Go.Eng.wp_block in
set_option maxHeartbeats 16000000 in
theorem typSays_spec (U:Usual nat) (hk:∀ [Deep],nat 37 = some trueNat) (η:HN) (T:By) (hT:T.length ≤ 9223372036854775807) :
  ∃ v η',CallN Try.prog nat 12 [.str T.length (codesL T)] η v η' ∧ v = .bool true:=by
 refine call_of (PT:=pl12) Try.func12 rfl (U 12 (by decide)) ok12 rfl ?_
 simp -implicitDefEqProofs (disch:=omega) only [go_sem,Go.Eng.wp_block]
 refine thenN_call ⟨_,_,callN_true hk,?_⟩
 simp -implicitDefEqProofs (disch:=omega) only [go_sem,Go.Eng.wp_block,Bool.not_true]
 by_cases A1:2500 < T.length
 ·simp -implicitDefEqProofs (disch:=omega) only [go_sem,Go.Eng.wp_block]
 simp -implicitDefEqProofs (disch:=omega) only [go_sem,Go.Eng.wp_block]
 refine thenN_call (upto6_then U hT (fun l v ls η2 rv rl E2 up sl=>?_) (fun η2 E2=>?_))
 rotate_left
 ·simp -implicitDefEqProofs (disch:=omega) only [go_sem,Go.Eng.wp_block,Bool.not_false]
 obtain ⟨okl,hmd,hN0⟩:=up
 have hkn:=names_known hN0
 have hkt:∀ i (hi:i < l.length),∀ q ∈ l[i].eqs,knownE (l.take i) l[i] q.e:=fun i hi q hq=>((namesR_0 hN0 hi).eqs q hq).1
 have okl':=okl
 obtain ⟨hl,okn⟩:=okl'
 obtain ⟨lsl,ls6⟩:=rdNs_len rl
 simp -implicitDefEqProofs (disch:=omega) only [go_sem,Go.Eng.wp_block,Bool.not_true]
 refine thenN_call (back_spec U okl rv rl fun x4 η4 ls4 o4 r4 E4=>?_)
 obtain ⟨ls4l,ls46⟩:=rdNs_len r4
 have rv4:=own_rdR o4 ls46
 have n4:=E4.1
 simp -implicitDefEqProofs (disch:=omega) only [go_sem,Go.Eng.wp_block]
 refine thenN_call (typCheck_then U okl hmd hkt o4 r4 fun η5 E5=>?_)
 have n5:=E5.1
 simp -implicitDefEqProofs (disch:=omega) only [go_sem,Go.Eng.wp_block]
 refine thenN_call (bad_then U fun η6 E6=>?_)
 have n6:=E6.1
 have F6:=extT E5 E6
 have G6:=extT E4 F6
 simp -implicitDefEqProofs (disch:=omega) only [go_sem,Go.Eng.wp_block]
 refine thenN_call (types6_then U okl hmd hkn (rv.ext (base:=0) G6) (rdNs_keep (keep_b G6) G6.1 (fun _ h=>h) rl) fun η7 E7=>?_)
 have ec:typesR l = faultOf 9 (typesL [] l):=types_eq hmd hN0
 rw [ec]
 have eb:=bad_same7 (faultOf 9 (typesL [] l)).1 (faultOf 9 (typesL [] l)).2
 have F7:=extT F6 E7
 have G7:=extT G6 E7
 have n7:=E7.1
 have rv:=rv.ext (base:=0) G7
 have rl:=rdNs_keep (keep_b G7) G7.1 (fun _ h=>h) rl
 have rv4:=rv4.ext (base:=0) F7
 have r4:=rdNs_keep (keep_b F7) F7.1 (fun _ h=>h) r4
 simp -implicitDefEqProofs (disch:=omega) only [go_sem,Go.Eng.wp_block,eb]
 have ln:=fun η' e w=>row_len (η':=η') rv lsl (by omega) e w
 obtain ⟨I,hI⟩:∃ I:Nat → FN → HN → Prop,∀ m φ ζ,I m φ ζ ↔ ∃ i,m = l.length - i ∧ i ≤ l.length ∧ (φ 3 = v ∧ φ 5 = x4 ∧ φ 6 = .int .i64 i) ∧ ExtB η7.nx η7 ζ:=⟨_,fun _ _ _=>Iff.rfl⟩
 refine wpN_loop I l.length ((hI _ _ _).2 ⟨0,rfl,Nat.zero_le _,⟨rfl,rfl,rfl⟩,.refl _ _⟩) ?_
 intro m φ ζ hi
 obtain ⟨i,hm,hi,⟨p3,p5,p6⟩,EX⟩:=(hI _ _ _).1 hi
 have nX:=EX.1
 by_cases hlt:i < l.length
 ·obtain ⟨hi',ri⟩:=rdNs_at rl i hlt
  obtain ⟨hi4,ri4⟩:=rdNs_at r4 i hlt
  obtain ⟨b4,ev4,hbv4,hbn4⟩:∃ b,x4 = .slice b 0 ls4.length (.un 6) ∧ η7.f b = .live false ls4.flatten ∧ b < η7.nx:=by
   obtain ⟨_,⟨_,q⟩ | ⟨c,q1,q2,⟨_,q3,_⟩ | ⟨q3,q4⟩⟩⟩:=o4
   ·omega
   ·omega
   ·exact ⟨c,q3,(F7.2 _ q2).trans q4,by have:=F7.1; omega⟩
  obtain ⟨b',off,cap,ro,row,rfl,hbv,hbn,hlen,hrow⟩:=rv.at hi'
  obtain ⟨b4',off4,cap4,ro4,row4,ev4',hbv4',hbn4',hlen4,hrow4⟩:=rv4.at hi4
  have hbz:ζ.f b' = _:=(EX.2 b' hbn).trans hbv
  have okd:=okn _ (List.getElem_mem hlt)
  have mdd:=hmd _ (List.getElem_mem hlt)
  have knd:=hkt i hlt
  have hn9:∀ v ∈ allOf l[i],okK v.kd:=fun v hv=>by
   unfold allOf at hv
   rcases List.mem_append.1 hv with hv | hv
   ·exact (mdd.ins v hv).2
   rcases List.mem_append.1 hv with hv | hv
   ·exact (mdd.outs v hv).2
   ·exact mdd.locs v hv
  have hh9:∀ d ∈ l.take i,∀ v ∈ d.outs,okK v.kd:=fun d hd v hv=>((hmd d (List.mem_of_mem_take hd)).outs v hv).2
  have e44:off4 = 0 ∧ cap4 = .un 6 ∧ b4' = b4:=by
   rw [ev4] at ev4'
   cases ev4'
   exact ⟨rfl,rfl,rfl⟩
  obtain ⟨rfl,rfl,rfl⟩:=e44
  subst ev4
  rw [hbv4] at hbv4'
  cases hbv4'
  obtain ⟨y1,y2,y3,y4,ez,-,r1,r2,r3,qs,rq,rqs⟩:=ri
  obtain ⟨u1,u2,u3,u4,ez4,-,-,-,-,qs4,rq4,rqs4⟩:=ri4
  rw [ez] at hrow
  rw [ez4] at hrow4
  have hbz4:ζ.f b4' = _:=(EX.2 b4' hbn4).trans hbv4
  have lq:=(rdQs_len rqs).1
  have lq4:=(rdQs_len rqs4).1
  have hEl:=okd.2.2.2.2.1
  have hEo:=okd.2.2.2.2.2
  have hEm:=mdd.eqs
  have l4:=fun η' e w=>row_len (η':=η') rq lq (by omega) e w
  simp -implicitDefEqProofs (disch:=omega) only [tailC_s,go_sem,Go.Eng.wp_block,p3,p5,p6,ln]
  obtain ⟨EQ,hEQ⟩:∃ EQ,EQ = l[i].eqs:=⟨_,rfl⟩
  rw [← hEQ] at rqs rqs4 lq lq4 hEl hEo hEm l4 knd
  obtain ⟨J6,hJ6⟩:∃ J:Nat → FN → HN → Prop,∀ m φ ζ6,J m φ ζ6 ↔ ∃ k6,m = EQ.length - k6 ∧ k6 ≤ EQ.length ∧ (φ 3 = .slice b' off ls.length cap ∧ φ 5 = .slice b4' 0 ls4.length (.un 6) ∧ φ 6 = .int .i64 i ∧ φ 7 = .int .i64 k6) ∧ ExtB η7.nx η7 ζ6:=⟨_,fun _ _ _=>Iff.rfl⟩
  refine wpN_loop J6 EQ.length ((hJ6 _ _ _).2 ⟨0,rfl,Nat.zero_le _,⟨by exact p3,by exact p5,by exact p6,rfl⟩,EX⟩) ?_
  clear p3 p5 p6
  intro m φ ζ6 hj6
  obtain ⟨k6,hm6,hk6,⟨p3,p5,p6,p7⟩,E6'⟩:=(hJ6 _ _ _).1 hj6
  have n6':=E6'.1
  have bv6:ζ6.f b' = _:=(E6'.2 _ hbn).trans hbv
  have bp6:ζ6.f b4' = _:=(E6'.2 _ hbn4).trans hbv4
  have g4:row.getD (off + i * 6 + 4) und = y4:=(cell_at hrow 4 (by decide)).trans rfl
  rw [Nat.zero_add] at hrow4 hlen4
  have g44:ls4.flatten.getD (i * 6 + 4) und = u4:=(cell_at hrow4 4 (by decide)).trans rfl
  by_cases hkt6:k6 < EQ.length
  ·obtain ⟨bq,offq,capq,roq,rowq,rfl,hbq,hbqn,hcell⟩:=eqs_row rq rqs (by omega)
   obtain ⟨f1,f2,f3,f4,f5,cq1,cq2,req⟩:=hcell k6 hkt6
   obtain ⟨bq4,offq4,capq4,roq4,rowq4,rfl,hbq4,hbqn4,hcell4⟩:=eqs_row rq4 rqs4 (by omega)
   obtain ⟨h1,h2,h3,h4,h5,cq41,cq42,req4⟩:=hcell4 k6 hkt6
   have okq:=hEo _ (List.getElem_mem hkt6)
   have mdq:=hEm _ (List.getElem_mem hkt6)
   have knq:=knd _ (List.getElem_mem hkt6)
   have bq6:ζ6.f bq = _:=(E6'.2 _ hbqn).trans hbq
   have bq46:ζ6.f bq4 = _:=(E6'.2 _ hbqn4).trans hbq4
   have gqe:=eq_take cq2
   have gqe4:=eq_take cq42
   generalize EQ[k6] = q at *
   simp -implicitDefEqProofs (disch:=omega) only [go_sem,Go.Eng.wp_block,p3,p5,p6,p7,bv6,bp6,g4,g44,l4,bq6,bq46,gqe,gqe4]
   refine dE_call (typOf_then U okl rfl bp6 (by omega) (rdNs_keep (keep_b E6') E6'.1 (fun _ h=>h) r4) hlt okq.2 mdq knq (rdE_keep (keep_b E6') E6'.1 (fun _ h=>h) _ _ req4) fun ζa Ea=>?_)
   have na:=Ea.1
   have EA:=extT E6' Ea
   have bva:=(Ea.2 _ (by omega)).trans bv6
   have bpa:=(Ea.2 _ (by omega)).trans bp6
   have bqa:=(Ea.2 _ (by omega)).trans bq6
   have bq4a:=(Ea.2 _ (by omega)).trans bq46
   simp -implicitDefEqProofs (disch:=omega) only [go_sem,Go.Eng.wp_block,p3,p5,p6,p7,bv6,bp6,g4,g44,l4,bq6,bq46,gqe,gqe4,bva,bpa,bqa,bq4a]
   refine dE_call (kindOf6_then U okl sl (rv.ext (base:=0) EA) (rdNs_keep (keep_b EA) EA.1 (fun _ h=>h) rl) hlt hn9 hh9 okq.2 mdq knq (rdE_keep (keep_b EA) EA.1 (fun _ h=>h) _ _ req) fun ζb Eb=>?_)
   have nb:=Eb.1
   have bvb:=(Eb.2 _ (by omega)).trans bva
   have bpb:=(Eb.2 _ (by omega)).trans bpa
   have bqb:=(Eb.2 _ (by omega)).trans bqa
   have bq4b:=(Eb.2 _ (by omega)).trans bq4a
   generalize kindO (exprT (l.take i) l[i] q.e) = kk
   have dk:decide (kk = kk) = true:=decide_eq_true rfl
   simp -implicitDefEqProofs (disch:=omega) only [go_sem,Go.Eng.wp_block,p3,p5,p6,p7,bv6,bp6,g4,g44,l4,bq6,bq46,gqe,gqe4,bva,bpa,bqa,bq4a,bvb,bpb,bqb,bq4b,dk,Bool.not_true]
   exact ⟨EQ.length - (k6 + 1),by omega,(hJ6 _ _ _).2 ⟨k6 + 1,rfl,hkt6,⟨by exact p3,by exact p5,by exact p6,rfl⟩,extT EA Eb⟩⟩
  ·obtain rfl:k6 = EQ.length:=by omega
   simp -implicitDefEqProofs (disch:=omega) only [go_sem,Go.Eng.wp_block,p3,p5,p6,p7,bv6,g4,l4]
   exact ⟨l.length - (i + 1),by omega,(hI _ _ _).2 ⟨i + 1,rfl,hlt,⟨by exact p3,by exact p5,rfl⟩,E6'⟩⟩
 ·obtain rfl:i = l.length:=by omega
  simp -implicitDefEqProofs (disch:=omega) only [go_sem,Go.Eng.wp_block,p3,p5,p6,ln]
end Go.Proofs.Ytpjmiopplfmcfaa
