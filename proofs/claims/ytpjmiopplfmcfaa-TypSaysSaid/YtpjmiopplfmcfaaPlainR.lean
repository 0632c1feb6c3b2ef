/- What is proved: nothing; the document's checks of names, of clocks as plain functions. what holds of nodes of which the document's check of names tells no fault. the document's clock of a name is the program's, where no fault of names is told. the document's clocks of expressions, by the program's, and their first fault. the document's clocks and their first fault are the program's, where operators have the kids they want. in what is read operators have the kids that they want, inputs and outputs hang on nothing, each declaration has a kind. the document's kinds of expressions, by the program's, and their first fault. Conditions: as each theorem says. -/
import Derived.Test.YtpjmiopplfmcfaaPlain
set_option linter.unusedVariables false
set_option linter.unusedSimpArgs false
set_option linter.unusedSectionVars false
namespace Go.Plain
open Go.Eng
set_option autoImplicit false
abbrev Bd:=Nat × Nat
def failB (e a:Nat) (b:Bd):Bd:=if b.1 = 0 then (e,a) else b
def failIf (c:Bool) (e a:Nat) (b:Bd):Bd:=if c then failB e a b else b
def okExprR (h:List Nd) (n:Nd) (op nm:S) (m:Nat):Bool:=if op = sVar ∨ op = sWhen ∨ op = sMerge then (findV n nm).isSome else if op = sCall then callOk h nm m else true
mutual
def nmE (h:List Nd) (n:Nd):Tr → Bd → Bd
 | .mk op nm _ a ks,b=>nmEs h n ks (failIf (!okExprR h n op nm ks.length) 8 a b)
def nmEs (h:List Nd) (n:Nd):List Tr → Bd → Bd
 | [],b=>b
 | k :: ks,b=>nmEs h n ks (nmE h n k b)
end
def nmPair (v:Vr):List Vr → Bool × Bd → Bool × Bd
 | [],r=>r
 | w :: l,r=>nmPair v l (r.1 || decide (w.nm = v.on),failIf (decide (w.nm = v.nm)) 8 v.a r.2)
def nmVars:List Vr → List Vr → Bd → Bd
 | _,[],b=>b
 | pre,v :: r,b=>nmVars (pre ++ [v]) r (failIf (!(nmPair v pre (decide (v.on = (0,0)),b)).1) 8 v.a (nmPair v pre (decide (v.on = (0,0)),b)).2)
def nmEqs (h:List Nd) (n:Nd):List Eqn → List Eqn → Bd → Bd
 | _,[],b=>b
 | pre,q :: r,b=>nmEqs h n (pre ++ [q]) r (nmE h n q.e (failIf (!(findV n q.nm).isSome || n.ins.any (fun v=>decide (v.nm = q.nm)) || pre.any (fun p=>decide (p.nm = q.nm))) 8 q.a b))
def nmOwn (n:Nd):List Vr → Bd → Bd
 | [],b=>b
 | v :: r,b=>nmOwn n r (failIf (!n.eqs.any fun q=>decide (q.nm = v.nm)) 8 v.a b)
def nmNodeR (h:List Nd) (n:Nd) (b:Bd):Bd :=
 nmOwn n (n.outs ++ n.locs) (nmEqs h n [] n.eqs (nmVars [] (allOf n) (failIf ((h.any fun d=>decide (d.nm = n.nm)) || decide (n.outs.length = 0)) 8 n.a b)))
def nmNodesR (h:List Nd):List Nd → Bd → Bd
 | [],b=>b
 | n :: r,b=>nmNodesR (h ++ [n]) r (nmNodeR h n b)
def namesR (l:List Nd):Bd:=nmNodesR [] l (0,0)
end Go.Plain
namespace Go.Plain
open Go.Eng
set_option autoImplicit false
theorem failB_0 {e a:Nat} {b:Bd} (he:e ≠ 0):(failB e a b).1 ≠ 0:=by
 unfold failB
 split
 ·exact he
 ·assumption
theorem failIf_0 {c:Bool} {e a:Nat} {b:Bd} (he:e ≠ 0) (h:(failIf c e a b).1 = 0):c = false ∧ b.1 = 0:=by
 unfold failIf at h
 cases c with
 | true=>exact absurd h (failB_0 he)
 | false=>exact ⟨rfl,h⟩
mutual
def knownE (h:List Nd) (n:Nd):Tr → Prop
 | .mk op nm _ _ ks=>okExprR h n op nm ks.length = true ∧ knownEs h n ks
def knownEs (h:List Nd) (n:Nd):List Tr → Prop
 | []=>True
 | k :: ks=>knownE h n k ∧ knownEs h n ks
end
mutual
theorem nmE_0 {h:List Nd} {n:Nd}:∀ (e:Tr) (b:Bd),(nmE h n e b).1 = 0 → b.1 = 0 ∧ knownE h n e
 | .mk op nm _ a ks,b,hb=>by
  unfold nmE at hb
  obtain ⟨h1,h2⟩:=nmEs_0 ks _ hb
  obtain ⟨h3,h4⟩:=failIf_0 (by decide) h1
  unfold knownE
  exact ⟨h4,by simpa using h3,h2⟩
theorem nmEs_0 {h:List Nd} {n:Nd}:∀ (ks:List Tr) (b:Bd),(nmEs h n ks b).1 = 0 → b.1 = 0 ∧ knownEs h n ks
 | [],b,hb=>by
  unfold nmEs at hb
  unfold knownEs
  exact ⟨hb,trivial⟩
 | k :: r,b,hb=>by
  unfold nmEs at hb
  obtain ⟨h1,h2⟩:=nmEs_0 r _ hb
  obtain ⟨h3,h4⟩:=nmE_0 k _ h1
  unfold knownEs
  exact ⟨h3,h4,h2⟩
end
theorem nmPair_0 {v:Vr}:∀ (l:List Vr) (r:Bool × Bd),(nmPair v l r).2.1 = 0 → r.2.1 = 0 ∧ ∀ w ∈ l,w.nm ≠ v.nm
 | [],r,h=>⟨h,fun _ h=>by cases h⟩
 | w :: l,r,h=>by
  obtain ⟨h1,h2⟩:=nmPair_0 l _ h
  obtain ⟨h3,h4⟩:=failIf_0 (by decide) h1
  refine ⟨h4,fun x hx=>?_⟩
  rcases List.mem_cons.1 hx with rfl | hx
  ·exact of_decide_eq_false h3
  ·exact h2 x hx
theorem nmPair_1 {v:Vr}:∀ (l:List Vr) (r:Bool × Bd),(nmPair v l r).1 = (r.1 || l.any fun w=>decide (w.nm = v.on))
 | [],r=>by simp [nmPair]
 | w :: l,r=>by
  show (nmPair v l _).1 = _
  rw [nmPair_1 l,List.any_cons,Bool.or_assoc]
def hung:List Vr → List Vr → Prop
 | _,[]=>True
 | pre,v :: r=>((v.on = (0,0) ∨ ∃ w ∈ pre,w.nm = v.on) ∧ ∀ w ∈ pre,w.nm ≠ v.nm) ∧ hung (pre ++ [v]) r
theorem nmVars_0:∀ (l pre:List Vr) (b:Bd),(nmVars pre l b).1 = 0 → b.1 = 0 ∧ hung pre l
 | [],_,b,h=>⟨h,trivial⟩
 | v :: r,pre,b,h=>by
  obtain ⟨h1,h2⟩:=nmVars_0 r _ _ h
  obtain ⟨h3,h4⟩:=failIf_0 (by decide) h1
  obtain ⟨h5,h6⟩:=nmPair_0 _ _ h4
  refine ⟨h5,⟨?_,h6⟩,h2⟩
  rw [nmPair_1] at h3
  have h3:¬ v.on = (0,0) → ∃ x,x ∈ pre ∧ x.nm = v.on:=by simpa using h3
  by_cases e:v.on = (0,0)
  ·exact .inl e
  ·exact .inr (h3 e)
theorem nmEqs_0 {h:List Nd} {n:Nd}:∀ (l pre:List Eqn) (b:Bd),(nmEqs h n pre l b).1 = 0 → b.1 = 0 ∧ ∀ q ∈ l,knownE h n q.e ∧ (findV n q.nm).isSome = true
 | [],_,b,hb=>⟨hb,fun _ h=>by cases h⟩
 | q :: r,pre,b,hb=>by
  obtain ⟨h1,h2⟩:=nmEqs_0 r _ _ hb
  obtain ⟨h3,h4⟩:=nmE_0 _ _ h1
  obtain ⟨h5,h6⟩:=failIf_0 (by decide) h3
  refine ⟨h6,fun x hx=>?_⟩
  rcases List.mem_cons.1 hx with rfl | hx
  ·refine ⟨h4,?_⟩
   have h5:((!(findV n x.nm).isSome || n.ins.any (fun v=>decide (v.nm = x.nm))) || pre.any (fun p=>decide (p.nm = x.nm))) = false:=h5
   cases e:(findV n x.nm).isSome with
   | true=>rfl
   | false=>rw [e] at h5; cases h5
  ·exact h2 x hx
theorem nmOwn_0 {n:Nd}:∀ (l:List Vr) (b:Bd),(nmOwn n l b).1 = 0 → b.1 = 0
 | [],b,hb=>hb
 | v :: r,b,hb=>(failIf_0 (by decide) (nmOwn_0 r _ hb)).2
structure NmOk (h:List Nd) (n:Nd):Prop where
 outs:n.outs.length ≠ 0
 vars:hung [] (allOf n)
 eqs:∀ q ∈ n.eqs,knownE h n q.e ∧ (findV n q.nm).isSome = true
theorem nmNodeR_0 {h:List Nd} {n:Nd} {b:Bd} (hb:(nmNodeR h n b).1 = 0):b.1 = 0 ∧ NmOk h n:=by
 obtain ⟨h2,h3⟩:=nmEqs_0 _ _ _ (nmOwn_0 _ _ hb)
 obtain ⟨h4,h5⟩:=nmVars_0 _ _ _ h2
 obtain ⟨h6,h7⟩:=failIf_0 (by decide) h4
 refine ⟨h7,fun g=>?_,h5,h3⟩
 rw [g] at h6
 simp at h6
theorem nmNodesR_0:∀ (l h:List Nd) (b:Bd),(nmNodesR h l b).1 = 0 → b.1 = 0 ∧ ∀ i (hi:i < l.length),NmOk (h ++ l.take i) l[i]
 | [],h,b,hb=>⟨hb,fun i hi=>by cases hi⟩
 | n :: r,h,b,hb=>by
  obtain ⟨h1,h2⟩:=nmNodesR_0 r _ _ hb
  obtain ⟨h3,h4⟩:=nmNodeR_0 h1
  refine ⟨h3,fun i hi=>?_⟩
  cases i with
  | zero=>simpa using h4
  | succ i =>
   have:=h2 i (by simpa using hi)
   simpa using this
theorem namesR_0 {l:List Nd} (h:(namesR l).1 = 0) {i:Nat} (hi:i < l.length):NmOk (l.take i) l[i]:=by
 have:=(nmNodesR_0 l [] (0,0) h).2 i hi
 simpa using this
end Go.Plain
namespace Go.Plain
open Go.Eng
set_option autoImplicit false
end Go.Plain
namespace Go.Plain
open Go.Eng
set_option autoImplicit false
theorem failIf_id {c:Bool} {e a:Nat} {b:Bd} (h:b.1 ≠ 0):failIf c e a b = b:=by
 unfold failIf
 cases c with
 | true=>exact if_neg h
 | false=>rfl
end Go.Plain
namespace Go.Plain
open Go.Eng
set_option autoImplicit false
end Go.Plain
namespace Go.Plain
open Go.Eng
set_option autoImplicit false
def need (op:S):Option Nat :=
 if op ∈ [sNot,sNeg,sPre,sWhen] then some 1
 else if op ∈ [sMerge,sArrow,sFby,sPlus,sMinus,sTimes,sDiv,sMod,sEq,sNe,sLt,sLe,sGt,sGe,sAnd,sOr,sXor] then some 2
 else if op = sIf then some 3
 else if op ∈ [sInt,sBool,sVar] then some 0 else none
mutual
def wanE:Tr → Prop
 | .mk op _ _ _ ks=>(op = sCall ∨ need op = some ks.length) ∧ wanEs ks
def wanEs:List Tr → Prop
 | []=>True
 | k :: ks=>wanE k ∧ wanEs ks
end
theorem wanEs_iff:∀ ks:List Tr,wanEs ks ↔ ∀ k ∈ ks,wanE k
 | []=>⟨fun _ _ h=>(by cases h),fun _=>by unfold wanEs; trivial⟩
 | k :: ks=>by
  unfold wanEs
  rw [wanEs_iff ks]
  exact ⟨fun h x hx=>by rcases List.mem_cons.1 hx with rfl | hx; exact h.1; exact h.2 x hx,fun h=>⟨h k List.mem_cons_self,fun x hx=>h x (List.mem_cons_of_mem _ hx)⟩⟩
theorem wanEs_app {ks:List Tr} {e:Tr} (h:wanEs ks) (g:wanE e):wanEs (ks ++ [e]):=(wanEs_iff _).2 fun k hk=>by
 rcases List.mem_append.1 hk with hk | hk
 ·exact (wanEs_iff _).1 h k hk
 ·rw [List.mem_singleton.1 hk]; exact g
theorem wanE_c {nm:S} {n a:Nat} {ks:List Tr} (hk:wanEs ks):wanE (.mk sCall nm n a ks):=by unfold wanE; exact ⟨.inl rfl,hk⟩
theorem wanE_0 {op nm:S} {n a:Nat} (h:need op = some 0):wanE (.mk op nm n a []):=by unfold wanE wanEs; exact ⟨.inr h,trivial⟩
theorem wanE_1 {op nm:S} {n a:Nat} {x:Tr} (h:need op = some 1) (hx:wanE x):wanE (.mk op nm n a [x]):=by unfold wanE wanEs wanEs; exact ⟨.inr h,hx,trivial⟩
theorem wanE_2 {op nm:S} {n a:Nat} {x y:Tr} (h:need op = some 2) (hx:wanE x) (hy:wanE y):wanE (.mk op nm n a [x,y]):=by unfold wanE wanEs wanEs wanEs; exact ⟨.inr h,hx,hy,trivial⟩
theorem wanE_3 {op nm:S} {n a:Nat} {x y z:Tr} (h:need op = some 3) (hx:wanE x) (hy:wanE y) (hz:wanE z):wanE (.mk op nm n a [x,y,z]):=by unfold wanE wanEs wanEs wanEs wanEs; exact ⟨.inr h,hx,hy,hz,trivial⟩
variable {L:List Wd} {p:PS}
theorem failP_e {er:Nat} (he:er ≠ 0):(failP L er p).e ≠ 0:=by
 unfold failP
 split
 ·exact he
 ·assumption
theorem takeP_e {s:S} (h:(takeP L s p).e = 0):p.e = 0:=by
 unfold takeP at h
 split at h <;> exact h
theorem wantP_e {s:S} (h:(wantP L s p).e = 0):p.e = 0:=by
 unfold wantP at h
 split at h
 ·exact h
 ·exact absurd h (failP_e (by decide))
theorem nameP_e (h:(nameP L p).2.e = 0):p.e = 0:=by
 unfold nameP at h
 split at h
 ·exact h
 ·exact absurd h (failP_e (by decide))
theorem partP_e (h:(partP L p).e = 0):p.e = 0:=by
 have h:(partQ L p).e = 0:=h
 unfold partQ at h
 split at h
 ·exact absurd h (failP_e (by decide))
 ·exact h
theorem primQ_e (h:(primQ L p).e = 0):p.e = 0:=by
 unfold primQ at h
 split at h
 ·exact partP_e h
 ·exact h
def FnW (φ:PS → Tr × PS):Prop:=∀ p,(φ p).2.e = 0 → p.e = 0 ∧ wanE (φ p).1
def FnsW (G:Option Fns):Prop:=match G with | none=>True | some F=>FnW F.arrow ∧ FnW F.fby ∧ FnW F.un ∧ FnW F.prim
theorem goIn_w {G:Option Fns} {f:Fns → Tr × PS} (h:∀ F,G = some F → (f F).2.e = 0 → wanE (f F).1) (he:(goIn L G p f).2.e = 0):p.e = 0 ∧ wanE (goIn L G p f).1:=by
 unfold goIn inn at he ⊢
 by_cases hp:p.e = 0
 ·rw [if_pos hp] at he ⊢
  cases G with
  | none=>exact absurd he (failP_e (by decide))
  | some F=>exact ⟨hp,h F rfl he⟩
 ·rw [if_neg hp] at he
  cases G with
  | none=>exact absurd he (failP_e (by decide))
  | some F=>exact absurd he hp
theorem exprF_w {G:Option Fns} (g:FnsW G):FnW (exprF L G):=fun p he=>goIn_w (fun F e hf=>by subst e; exact (g.1 p hf).2) he
theorem innerF_w {G:Option Fns} (g:FnsW G):FnW (innerF L G):=fun p he=>goIn_w (fun F e hf=>by subst e; exact (g.2.2.2 p hf).2) he
theorem argsF_w {G:Option Fns} (g:FnsW G):∀ (n:Nat) (l:List Tr) (p:PS),wanEs l → (argsF L G n l p).2.e = 0 → p.e = 0 ∧ wanEs (argsF L G n l p).1
 | 0,l,p,h,he=>⟨he,h⟩
 | n + 1,l,p,h,he=>by
  unfold argsF at he ⊢
  split at he
  ·rename_i h0
   rw [if_pos h0]
   split at he
   ·rename_i h1
    rw [if_pos h1]
    refine ⟨h0,?_⟩
    by_cases h2:(exprF L G p).2.e = 0
    ·exact (argsF_w g n _ _ (wanEs_app h (exprF_w g p h2).2) he).2
    ·exact absurd (of_decide_eq_true h1).1 h2
   ·rename_i h1
    rw [if_neg h1]
    exact ⟨h0,wanEs_app h (exprF_w g p he).2⟩
  ·rename_i h0
   exact absurd he h0
theorem restF_w {G:Option Fns} {w:Wd} (g:FnsW G) (he:(restF L G w p).2.e = 0):p.e = 0 ∧ wanE (restF L G w p).1:=by
 unfold restF at he ⊢
 by_cases q1:p.e = 0 ∧ w.k = 3
 ·rw [if_pos q1] at he ⊢
  exact ⟨q1.1,wanE_0 rfl⟩
 rw [if_neg q1] at he ⊢
 by_cases q2:isP L sTrue p = true
 ·rw [if_pos q2] at he ⊢
  exact ⟨he,wanE_0 rfl⟩
 rw [if_neg q2] at he ⊢
 by_cases q3:isP L sFalse p = true
 ·rw [if_pos q3] at he ⊢
  exact ⟨he,wanE_0 rfl⟩
 rw [if_neg q3] at he ⊢
 by_cases q4:isP L sIf p = true
 ·rw [if_pos q4] at he ⊢
  unfold ifF at he ⊢
  obtain ⟨h3,w3⟩:=exprF_w g _ he
  obtain ⟨h2,w2⟩:=exprF_w g _ (wantP_e h3)
  obtain ⟨h1,w1⟩:=exprF_w g _ (wantP_e h2)
  exact ⟨h1,wanE_3 rfl w1 w2 w3⟩
 rw [if_neg q4] at he ⊢
 by_cases q5:isP L sMerge p = true
 ·rw [if_pos q5] at he ⊢
  unfold mergeF at he ⊢
  obtain ⟨h2,w2⟩:=innerF_w g _ he
  obtain ⟨h1,w1⟩:=innerF_w g _ h2
  exact ⟨nameP_e (p:=adv p) h1,wanE_2 rfl w1 w2⟩
 rw [if_neg q5] at he ⊢
 unfold varF at he ⊢
 dsimp only at he ⊢
 by_cases q6:isP L sLp (nameP L p).2 = true
 ·rw [if_pos q6] at he ⊢
  unfold callF at he ⊢
  by_cases q7:isP L sRp (adv (nameP L p).2) = true
  ·rw [if_pos q7] at he ⊢
   exact ⟨nameP_e (p:=p) he,wanE_c (by unfold wanEs; trivial)⟩
  ·rw [if_neg q7] at he ⊢
   obtain ⟨h1,w1⟩:=argsF_w g L.length [] _ (by unfold wanEs; trivial) (wantP_e he)
   exact ⟨nameP_e (p:=p) h1,wanE_c w1⟩
 ·rw [if_neg q6] at he ⊢
  exact ⟨nameP_e he,wanE_0 rfl⟩
theorem primF_w {G:Option Fns} (g:FnsW G):FnW (primF L G):=fun p he=>by
 unfold primF at he ⊢
 by_cases q1:isP L sLp p = true
 ·rw [if_pos q1] at he ⊢
  obtain ⟨h1,w1⟩:=exprF_w g _ (wantP_e he)
  exact ⟨h1,w1⟩
 ·rw [if_neg q1] at he ⊢
  obtain ⟨h1,w1⟩:=restF_w g he
  exact ⟨primQ_e h1,w1⟩
theorem unF_w {G:Option Fns} (g:FnsW G):FnW (unF L G):=fun p he=>by
 have h:∀ op,need op = some 1 → (unGo L G op p).2.e = 0 → p.e = 0 ∧ wanE (unGo L G op p).1:=fun op ho he=>by
  unfold unGo at he ⊢
  by_cases q:(partP L p).e = 0
  ·rw [if_pos q] at he ⊢
   exact ⟨partP_e q,(goIn_w (fun F e hf=>by subst e; exact wanE_1 ho (g.2.2.1 _ hf).2) he).2⟩
  ·rw [if_neg q] at he
   exact absurd he q
 unfold unF at he ⊢
 by_cases q1:isP L sNot p = true
 ·rw [if_pos q1] at he ⊢
  exact h _ rfl he
 rw [if_neg q1] at he ⊢
 by_cases q2:isP L sMinus p = true
 ·rw [if_pos q2] at he ⊢
  exact h _ rfl he
 rw [if_neg q2] at he ⊢
 by_cases q3:isP L sPre p = true
 ·rw [if_pos q3] at he ⊢
  exact h _ rfl he
 rw [if_neg q3] at he ⊢
 exact primF_w g p he
theorem whenL_w:∀ (n:Nat) (a:Tr) (p:PS),(p.e = 0 → wanE a) → (whenL L n a p).2.e = 0 → p.e = 0 ∧ wanE (whenL L n a p).1
 | 0,_,_,h,he=>⟨he,h he⟩
 | n + 1,a,p,h,he=>by
  unfold whenL at he ⊢
  by_cases q:isP L sWhen p = true
  ·rw [if_pos q] at he ⊢
   have hp:p.e = 0:=(of_decide_eq_true q).1
   exact ⟨hp,(whenL_w n _ _ (fun _=>wanE_1 rfl (h hp)) he).2⟩
  ·rw [if_neg q] at he ⊢
   exact ⟨he,h he⟩
theorem whenF_w {G:Option Fns} (g:FnsW G):FnW (whenF L G):=fun p he=>by
 unfold whenF at he ⊢
 obtain ⟨h1,w1⟩:=whenL_w _ _ _ (fun h=>(unF_w g p h).2) he
 exact ⟨(unF_w g p h1).1,w1⟩
theorem fbyF_w {G:Option Fns} (g:FnsW G):FnW (fbyF L G):=fun p he=>by
 unfold fbyF at he ⊢
 dsimp only at he ⊢
 by_cases q:isP L sFby (whenF L G p).2 = true
 ·rw [if_pos q] at he ⊢
  have h0:=whenF_w g p (of_decide_eq_true q).1
  exact ⟨h0.1,(goIn_w (fun F e hf=>by subst e; exact wanE_2 rfl h0.2 (g.2.1 _ hf).2) he).2⟩
 ·rw [if_neg q] at he ⊢
  exact whenF_w g p he
theorem opF_mem:∀ {ops:List S} {op:S},opF L ops p = some op → op ∈ ops ∧ p.e = 0
 | [],_,h=>by cases h
 | s :: l,op,h=>by
  unfold opF at h
  split at h
  ·rename_i q
   cases h; exact ⟨List.mem_cons_self,(of_decide_eq_true q).1⟩
  ·exact ⟨List.mem_cons_of_mem _ (opF_mem h).1,(opF_mem h).2⟩
theorem opsAt_2:∀ k:Nat,∀ op ∈ opsAt k,need op = some 2
 | 0=>by decide
 | 1=>by decide
 | 2=>by decide
 | 3=>by decide
 | n + 4=>by
  show ∀ op ∈ [sTimes,sDiv,sMod],need op = some 2
  decide
theorem rowL_w {nx:PS → Tr × PS} {ops:List S} {once:Bool} (ho:∀ op ∈ ops,need op = some 2) (hx:FnW nx):∀ (n:Nat) (a:Tr) (p:PS),(p.e = 0 → wanE a) → (rowL L nx ops once n a p).2.e = 0 → p.e = 0 ∧ wanE (rowL L nx ops once n a p).1
 | 0,_,_,h,he=>⟨he,h he⟩
 | n + 1,a,p,h,he=>by
  unfold rowL at he ⊢
  cases e:opF L ops p with
  | none =>
   rw [e] at he
   exact ⟨he,h he⟩
  | some op =>
   rw [e] at he
   obtain ⟨hm,hp⟩:=opF_mem e
   have ho':=ho _ hm
   dsimp only at he ⊢
   refine ⟨hp,?_⟩
   cases once with
   | true =>
    rw [if_pos rfl] at he ⊢
    exact wanE_2 ho' (h hp) (hx _ he).2
   | false =>
    rw [if_neg Bool.false_ne_true] at he ⊢
    exact (rowL_w ho hx n _ _ (fun h2=>wanE_2 ho' (h hp) (hx _ h2).2) he).2
theorem rowF_w {G:Option Fns} (g:FnsW G):∀ n:Nat,FnW (rowF L G n)
 | 0=>fun p=>fbyF_w g p
 | n + 1=>fun p he=>by
  unfold rowF at he ⊢
  obtain ⟨h1,w1⟩:=rowL_w (opsAt_2 _) (rowF_w g n) _ _ _ (fun h=>(rowF_w g n p h).2) he
  exact ⟨(rowF_w g n p h1).1,w1⟩
theorem arrowF_w {G:Option Fns} (g:FnsW G):FnW (arrowF L G):=fun p he=>by
 unfold arrowF at he ⊢
 dsimp only at he ⊢
 by_cases q:isP L sArrow (rowF L G 5 p).2 = true
 ·rw [if_pos q] at he ⊢
  have h0:=rowF_w g 5 p (of_decide_eq_true q).1
  exact ⟨h0.1,(goIn_w (fun F e hf=>by subst e; exact wanE_2 rfl h0.2 (g.1 _ hf).2) he).2⟩
 ·rw [if_neg q] at he ⊢
  exact rowF_w g 5 p he
theorem lvl_w:∀ m:Nat,FnsW (lvl L m)
 | 0=>trivial
 | m + 1=>⟨arrowF_w (lvl_w m),fbyF_w (lvl_w m),unF_w (lvl_w m),primF_w (lvl_w m)⟩
def bareV (v:Vr):Prop:=v.on = (0,0) ∧ (v.kd = 1 ∨ v.kd = 2)
theorem declL_on:∀ (n:Nat) (l:List Vr) (p:PS),(∀ v ∈ l,v.on = (0,0)) → ∀ v ∈ (declL L n l p).1.1,v.on = (0,0)
 | 0,l,p,h=>h
 | n + 1,l,p,h=>by
  have one:∀ v ∈ l ++ [(⟨(nameP L p).1,0,(0,0),false,(wd L p).a⟩:Vr)],v.on = (0,0):=fun v hv=>by
   rcases List.mem_append.1 hv with hv | hv
   ·exact h v hv
   ·rw [List.mem_singleton.1 hv]
  unfold declL
  split
  ·split
   ·exact fun v hv=>by cases hv
   ·split
    ·exact declL_on n _ _ one
    ·exact one
  ·exact h
theorem declF_bare (p:PS):∀ v ∈ (declF L p).1,bareV v:=by
 unfold declF
 dsimp only
 split
 ·intro v hv
  obtain ⟨u,hu,rfl⟩:=List.mem_map.1 hv
  refine ⟨declL_on L.length [] p (fun _ h=>by cases h) u hu,?_⟩
  show (if _ then 1 else 2) = 1 ∨ (if _ then 1 else 2) = 2
  split
  ·exact .inl rfl
  ·exact .inr rfl
 ·exact fun v hv=>by cases hv
theorem declsL_bare:∀ (n:Nat) (l:List Vr) (p:PS),(∀ v ∈ l,bareV v) → ∀ v ∈ (declsL L n l p).1,bareV v
 | 0,l,p,h=>h
 | n + 1,l,p,h=>by
  unfold declsL
  split
  ·exact declsL_bare n _ _ fun v hv=>(List.mem_append.1 hv).elim (h v) (declF_bare _ v)
  ·exact h
theorem declsF_bare (p:PS):∀ v ∈ (declsF L p).1,bareV v:=by
 unfold declsF
 split
 ·exact fun v hv=>by cases hv
 ·exact declsL_bare _ _ _ (declF_bare p)
theorem clockF_kd {d:List Vr × PS} (h:∀ v ∈ d.1,v.kd = 1 ∨ v.kd = 2):∀ v ∈ (clockF L d).1,v.kd = 1 ∨ v.kd = 2:=by
 unfold clockF
 split
 ·intro v hv
  obtain ⟨u,hu,rfl⟩:=List.mem_map.1 hv
  exact h u hu
 ·exact h
theorem localsL_kd:∀ (n:Nat) (l:List Vr) (p:PS),(∀ v ∈ l,v.kd = 1 ∨ v.kd = 2) → ∀ v ∈ (localsL L n l p).1,v.kd = 1 ∨ v.kd = 2
 | 0,l,p,h=>h
 | n + 1,l,p,h=>by
  have one:∀ v ∈ l ++ (clockF L (declF L p)).1,v.kd = 1 ∨ v.kd = 2:=fun v hv=>(List.mem_append.1 hv).elim (h v) (clockF_kd (fun v hv=>(declF_bare p v hv).2) v)
  unfold localsL
  dsimp only
  split
  ·split
   ·exact localsL_kd n _ _ one
   ·exact one
  ·exact h
theorem varsF_kd (q:PS):∀ v ∈ (varsF L q).1,v.kd = 1 ∨ v.kd = 2:=by
 unfold varsF
 split
 ·unfold localsF
  split
  ·exact fun v hv=>by cases hv
  ·exact localsL_kd _ _ _ fun _ h=>by cases h
 ·exact fun v hv=>by cases hv
theorem eqF_w (p:PS) (he:(eqF L p).2.e = 0):p.e = 0 ∧ wanE (eqF L p).1.e:=by
 unfold eqF at he ⊢
 dsimp only at he ⊢
 obtain ⟨h1,w1⟩:=exprF_w (lvl_w 30) _ (wantP_e he)
 exact ⟨nameP_e (wantP_e (p:=(nameP L p).2) h1),w1⟩
theorem eqsL_w:∀ (n:Nat) (l:List Eqn) (p:PS),(p.e = 0 → ∀ q ∈ l,wanE q.e) → (eqsL L n l p).2.e = 0 → p.e = 0 ∧ ∀ q ∈ (eqsL L n l p).1,wanE q.e
 | 0,l,p,h,he=>⟨he,h he⟩
 | n + 1,l,p,h,he=>by
  unfold eqsL at he ⊢
  by_cases q:p.e = 0 ∧ (wd L p).k = 1
  ·rw [if_pos q] at he ⊢
   refine ⟨q.1,(eqsL_w n _ _ (fun h2 x hx=>(List.mem_append.1 hx).elim (h q.1 x) fun hx=>?_) he).2⟩
   rw [List.mem_singleton.1 hx]
   exact (eqF_w p h2).2
  ·rw [if_neg q] at he ⊢
   exact ⟨he,h he⟩
structure Made (n:Nd):Prop where
 ins:∀ v ∈ n.ins,bareV v
 outs:∀ v ∈ n.outs,bareV v
 locs:∀ v ∈ n.locs,v.kd = 1 ∨ v.kd = 2
 eqs:∀ q ∈ n.eqs,wanE q.e
theorem headF_insB (p:PS):∀ v ∈ (headF L p).1.2.1,bareV v:=declsF_bare (wantP L sLp (nameP L (wantP L sNode { p with names:=0 })).2)
theorem headF_outsB (p:PS):∀ v ∈ (headF L p).1.2.2,bareV v:=declsF_bare (wantP L sLp (wantP L sReturns (wantP L sRp (declsF L (wantP L sLp (nameP L (wantP L sNode { p with names:=0 })).2)).2)))
theorem nodeF_eq2 (p:PS):(nodeF L p).2 = takeP L sSemi (wantP L sTel (eqsL L L.length [] (wantP L sLet (varsF L (headF L p).2).2)).2):=rfl
theorem nodeF_made (p:PS) (he:(nodeF L p).2.e = 0):Made (nodeF L p).1:=by
 have h1:=headF_insB (L:=L) p
 have h2:=headF_outsB (L:=L) p
 have h3:=varsF_kd (L:=L) (headF L p).2
 rw [nodeF_eq2] at he
 have h4:=(eqsL_w (L:=L) L.length [] (wantP L sLet (varsF L (headF L p).2).2) (fun _ _ h=>by cases h) (wantP_e (takeP_e he))).2
 rw [nodeF_eq]
 generalize (headF L p).1 = hd at *
 generalize (eqsL L L.length [] (wantP L sLet (varsF L (headF L p).2).2)).1 = es at *
 generalize (varsF L (headF L p).2).1 = vs at *
 exact ⟨h1,h2,h3,h4⟩
theorem nodesL_made:∀ (n:Nat) (l:List Nd) (p:PS),(p.e = 0 → ∀ d ∈ l,Made d) → (nodesL L n l p).2.e = 0 → ∀ d ∈ (nodesL L n l p).1,Made d
 | 0,l,p,h,he=>h he
 | n + 1,l,p,h,he=>by
  unfold nodesL at he ⊢
  by_cases q:p.e = 0 ∧ (l.length = 0 ∨ (wd L p).k ≠ 0)
  ·rw [if_pos q] at he ⊢
   by_cases q2:l.length = 32
   ·rw [if_pos q2] at he
    exact absurd he (failP_e (by decide))
   ·rw [if_neg q2] at he ⊢
    refine nodesL_made n _ _ (fun h2 x hx=>(List.mem_append.1 hx).elim (h q.1 x) fun hx=>?_) he
    rw [List.mem_singleton.1 hx]
    exact nodeF_made p h2
  ·rw [if_neg q] at he ⊢
   exact h he
theorem parse_made (t:By):∀ n ∈ (parseF t).1,Made n:=by
 unfold parseF
 split
 ·unfold treeF
  dsimp only
  split
  ·rename_i he
   exact nodesL_made 34 [] ⟨0,0,0,0,0⟩ (fun _ _ h=>by cases h) he
  ·exact fun _ h=>by cases h
 ·exact fun _ h=>by cases h
end Go.Plain
namespace Go.Plain
open Go.Eng
set_option autoImplicit false
def kdOf (n:Nd) (s:S):Nat:=((findV n s).getD ⟨(0,0),0,(0,0),false,0⟩).kd
def outKd (d:Nd):Nat:=(d.outs.getD 0 ⟨(0,0),0,(0,0),false,0⟩).kd
def insOk:List Vr → List Nat → Bool
 | v :: l,k :: r=>decide (v.kd = k) && insOk l r
 | _,_=>true
def kx (ks:List Nat) (i:Nat):Nat:=ks.getD i 0
def callD (l:List Nd) (nm:S) (ks:List Nat):Bool × Nat:=match l.find? (fun n=>decide (n.nm = nm)) with
 | some d=>(insOk d.ins ks,outKd d)
 | none=>(true,0)
def ownD (l:List Nd) (n:Nd) (op nm:S) (ks:List Nat):Bool × Nat :=
 if op = sInt then (true,2)
 else if op = sBool then (true,1)
 else if op = sVar then (true,kdOf n nm)
 else if op = sNot then (decide (kx ks 0 = 1),1)
 else if op = sNeg then (decide (kx ks 0 = 2),2)
 else if op = sPre then (true,kx ks 0)
 else if op = sPlus ∨ op = sMinus ∨ op = sTimes ∨ op = sDiv ∨ op = sMod then (decide (kx ks 0 = 2 ∧ kx ks 1 = 2),2)
 else if op = sEq ∨ op = sNe then (decide (kx ks 0 = kx ks 1),1)
 else if op = sLt ∨ op = sLe ∨ op = sGt ∨ op = sGe then (decide (kx ks 0 = 2 ∧ kx ks 1 = 2),1)
 else if op = sAnd ∨ op = sOr ∨ op = sXor then (decide (kx ks 0 = 1 ∧ kx ks 1 = 1),1)
 else if op = sArrow ∨ op = sFby then (decide (kx ks 0 = kx ks 1),kx ks 0)
 else if op = sIf then (decide (kx ks 0 = 1 ∧ kx ks 1 = kx ks 2),kx ks 1)
 else if op = sWhen then (decide (kdOf n nm = 1),kx ks 0)
 else if op = sMerge then (decide (kdOf n nm = 1 ∧ kx ks 0 = kx ks 1),kx ks 0)
 else if op = sCall then callD l nm ks
 else (true,0)
mutual
def kdE (l:List Nd) (n:Nd):Tr → Bd → Nat × Bd
 | .mk op nm _ a ks,b=>((ownD l n op nm (kdEs l n ks b).1).2,failIf (!(ownD l n op nm (kdEs l n ks b).1).1) 9 a (kdEs l n ks b).2)
def kdEs (l:List Nd) (n:Nd):List Tr → Bd → List Nat × Bd
 | [],b=>([],b)
 | k :: r,b=>((kdE l n k b).1 :: (kdEs l n r (kdE l n k b).2).1,(kdEs l n r (kdE l n k b).2).2)
end
def kdLs (n:Nd):List Vr → Bd → Bd
 | [],b=>b
 | v :: r,b=>kdLs n r (failIf (!decide (v.on = (0,0)) && !decide (kdOf n v.on = 1)) 9 v.a b)
def kdQs (l:List Nd) (n:Nd):List Eqn → Bd → Bd
 | [],b=>b
 | q :: r,b=>kdQs l n r (failIf (!decide ((kdE l n q.e b).1 = kdOf n q.nm)) 9 q.a (kdE l n q.e b).2)
def kdNs (l:List Nd):List Nd → Bd → Bd
 | [],b=>b
 | n :: r,b=>kdNs l r (kdQs l n n.eqs (kdLs n n.locs b))
def typesR (l:List Nd):Bd:=kdNs l l (0,0)
def bothT (ks:List Nat) (w t:Nat):Nat:=if ks.length = 2 ∧ kx ks 0 = w ∧ kx ks 1 = w then t else 0
def alikeT (ks:List Nat) (n:Nat):Bool:=decide (ks.length = n) && !ks.any fun k=>!decide (k = kx ks 0)
def finT (ok:Bool) (kd:Nat) (ks:List Nat):Nat:=if ok = false then 0 else if kd = 0 ∧ 0 < ks.length then kx ks (ks.length - 1) else kd
def callT (h:List Nd) (nm:S) (ks:List Nat):Nat:=match h.find? (fun n=>decide (n.nm = nm)) with
 | some d=>if d.outs.length = 1 ∧ d.ins.length = ks.length then (if insOk d.ins ks then outKd d else 0) else 0
 | none=>0
def ownT (h:List Nd) (n:Nd) (op nm:S) (ks:List Nat):Nat :=
 if op = sInt then finT (decide (ks.length = 0)) 2 ks
 else if op = sBool then finT (decide (ks.length = 0)) 1 ks
 else if op = sVar then finT (decide (ks.length = 0)) (kdOf n nm) ks
 else if op = sNot then finT (decide (ks.length = 1 ∧ kx ks 0 = 1)) 1 ks
 else if op = sNeg then finT (decide (ks.length = 1 ∧ kx ks 0 = 2)) 2 ks
 else if op = sPre then finT (decide (ks.length = 1)) 0 ks
 else if op = sPlus ∨ op = sMinus ∨ op = sTimes ∨ op = sDiv ∨ op = sMod then bothT ks 2 2
 else if op = sLt ∨ op = sLe ∨ op = sGt ∨ op = sGe then bothT ks 2 1
 else if op = sAnd ∨ op = sOr ∨ op = sXor then bothT ks 1 1
 else if op = sEq ∨ op = sNe then finT (alikeT ks 2) 1 ks
 else if op = sArrow ∨ op = sFby then finT (alikeT ks 2) 0 ks
 else if op = sWhen then finT (decide (ks.length = 1 ∧ kdOf n nm = 1)) 0 ks
 else if op = sIf then finT (decide (ks.length = 3 ∧ kx ks 0 = 1 ∧ kx ks 1 = kx ks 2)) 0 ks
 else if op = sMerge then finT (alikeT ks 2 && decide (kdOf n nm = 1)) 0 ks
 else if op = sCall then callT h nm ks
 else finT false 0 ks
mutual
def exprT (h:List Nd) (n:Nd):Tr → Sum Nat Nat
 | .mk op nm _ a ks=>match exprTs h n ks with
  | .inl p=>.inl p
  | .inr cs=>if ownT h n op nm cs = 1 ∨ ownT h n op nm cs = 2 then .inr (ownT h n op nm cs) else .inl a
def exprTs (h:List Nd) (n:Nd):List Tr → Sum Nat (List Nat)
 | []=>.inr []
 | k :: r=>match exprT h n k with
  | .inl p=>.inl p
  | .inr c=>match exprTs h n r with
   | .inl p=>.inl p
   | .inr cs=>.inr (c :: cs)
end
def locsT (n:Nd):List Vr → Option Nat
 | []=>none
 | v :: r=>if ¬ v.on = (0,0) ∧ ¬ kdOf n v.on = 1 then some v.a else locsT n r
def eqsT (h:List Nd) (n:Nd):List Eqn → Option Nat
 | []=>none
 | q :: r=>match exprT h n q.e with
  | .inl p=>some p
  | .inr k=>if k = kdOf n q.nm then eqsT h n r else some q.a
def typesL (h:List Nd):List Nd → Option Nat
 | []=>none
 | n :: r=>match (locsT n n.locs).or (eqsT h n n.eqs) with
  | some a=>some a
  | none=>typesL (h ++ [n]) r
def okK (k:Nat):Prop:=k = 1 ∨ k = 2
theorem exprT_ok {h:List Nd} {n:Nd}:∀ (e:Tr) {k:Nat},exprT h n e = .inr k → okK k
 | .mk op nm N a ks,k,e=>by
  unfold exprT at e
  split at e
  ·cases e
  ·split at e
   ·rename_i g
    cases e; exact g
   ·cases e
theorem exprTs_ok {h:List Nd} {n:Nd}:∀ (ks:List Tr) {cs:List Nat},exprTs h n ks = .inr cs → cs.length = ks.length ∧ ∀ k ∈ cs,okK k
 | [],cs,e=>by
  unfold exprTs at e
  cases e
  exact ⟨rfl,fun _ h=>by cases h⟩
 | k :: r,cs,e=>by
  unfold exprTs at e
  split at e
  ·cases e
  ·rename_i c g
   split at e
   ·cases e
   ·rename_i cs' g'
    cases e
    obtain ⟨h1,h2⟩:=exprTs_ok r g'
    exact ⟨congrArg (· + 1) h1,fun x hx=>(List.mem_cons.1 hx).elim (fun e=>e ▸ exprT_ok k g) (h2 x)⟩
theorem kd_ok {n:Nd} (hn:∀ v ∈ allOf n,okK v.kd) {s:S} (h:(findV n s).isSome = true):okK (kdOf n s):=by
 unfold kdOf
 cases e:findV n s with
 | none=>rw [e] at h; cases h
 | some v=>exact hn v (List.mem_of_find?_eq_some e)
theorem find_pre {α:Type} {P:α → Bool} {l r:List α} (h:(l.find? P).isSome = true):(l ++ r).find? P = l.find? P:=by
 rw [List.find?_append]
 cases e:l.find? P with
 | none=>rw [e] at h; cases h
 | some x=>rfl
theorem need_mem {op:S} {m:Nat} (h:need op = some m):(m = 1 ∧ op ∈ [sNot,sNeg,sPre,sWhen]) ∨ (m = 2 ∧ op ∈ [sMerge,sArrow,sFby,sPlus,sMinus,sTimes,sDiv,sMod,sEq,sNe,sLt,sLe,sGt,sGe,sAnd,sOr,sXor]) ∨ (m = 3 ∧ op = sIf) ∨ (m = 0 ∧ op ∈ [sInt,sBool,sVar]):=by
 unfold need at h
 split at h
 ·rename_i g
  exact .inl ⟨(Option.some.inj h).symm,g⟩
 split at h
 ·rename_i g
  exact .inr (.inl ⟨(Option.some.inj h).symm,g⟩)
 split at h
 ·rename_i g
  exact .inr (.inr (.inl ⟨(Option.some.inj h).symm,g⟩))
 split at h
 ·rename_i g
  exact .inr (.inr (.inr ⟨(Option.some.inj h).symm,g⟩))
 ·cases h
section
variable {h l:List Nd} {n:Nd} {nm:S} {ks:List Nat}
def Agree (l h:List Nd) (n:Nd) (op nm:S) (ks:List Nat):Prop:=(okK (ownT h n op nm ks) → ownD l n op nm ks = (true,ownT h n op nm ks)) ∧ (¬ okK (ownT h n op nm ks) → (ownD l n op nm ks).1 = false)
theorem agree_yes {op:S} {k:Nat} (hk:okK k) (h1:ownT h n op nm ks = k) (h2:ownD l n op nm ks = (true,k)):Agree l h n op nm ks:=by
 unfold Agree
 rw [h1]
 exact ⟨fun _=>h2,fun g=>absurd hk g⟩
theorem agree_no {op:S} (h1:ownT h n op nm ks = 0) (h2:(ownD l n op nm ks).1 = false):Agree l h n op nm ks:=by
 unfold Agree
 rw [h1]
 exact ⟨fun g=>(by rcases g with g | g <;> exact absurd g (by decide)),fun _=>h2⟩
theorem agree_1 {op:S} (ho:op ∈ [sNot,sNeg,sPre,sWhen]) {a:Nat} (ha:okK a) (hkd:op = sWhen → okK (kdOf n nm)):Agree l h n op nm [a]:=by
 simp only [List.mem_cons,List.not_mem_nil,or_false] at ho
 rcases ho with rfl | rfl | rfl | rfl
 ·rcases ha with rfl | rfl
  ·exact agree_yes (.inl rfl) rfl rfl
  ·exact agree_no rfl rfl
 ·rcases ha with rfl | rfl
  ·exact agree_no rfl rfl
  ·exact agree_yes (.inr rfl) rfl rfl
 ·rcases ha with rfl | rfl
  ·exact agree_yes (.inl rfl) rfl rfl
  ·exact agree_yes (.inr rfl) rfl rfl
 ·have e1:ownT h n sWhen nm [a] = finT (decide (1 = 1 ∧ kdOf n nm = 1)) 0 [a]:=rfl
  have e2:ownD l n sWhen nm [a] = (decide (kdOf n nm = 1),a):=rfl
  rcases hkd rfl with g | g
  ·rw [g] at e1 e2
   rcases ha with rfl | rfl
   ·exact agree_yes (.inl rfl) e1 e2
   ·exact agree_yes (.inr rfl) e1 e2
  ·rw [g] at e1 e2
   exact agree_no e1 (by rw [e2]; rfl)
theorem agree_2 {op:S} (ho:op ∈ [sMerge,sArrow,sFby,sPlus,sMinus,sTimes,sDiv,sMod,sEq,sNe,sLt,sLe,sGt,sGe,sAnd,sOr,sXor]) {a b:Nat} (ha:okK a) (hb:okK b) (hkd:op = sMerge → okK (kdOf n nm)):Agree l h n op nm [a,b]:=by
 by_cases hm:op = sMerge
 ·subst hm
  have e1:ownT h n sMerge nm [a,b] = finT (alikeT [a,b] 2 && decide (kdOf n nm = 1)) 0 [a,b]:=rfl
  have e2:ownD l n sMerge nm [a,b] = (decide (kdOf n nm = 1 ∧ a = b),a):=rfl
  rcases hkd rfl with g | g
  ·rw [g] at e1 e2
   rcases ha with rfl | rfl <;> rcases hb with rfl | rfl
   ·exact agree_yes (.inl rfl) e1 e2
   ·exact agree_no e1 (by rw [e2]; rfl)
   ·exact agree_no e1 (by rw [e2]; rfl)
   ·exact agree_yes (.inr rfl) e1 e2
  ·rw [g] at e1 e2
   have e2:(ownD l n sMerge nm [a,b]).1 = false:=by rw [e2]; show decide (2 = 1 ∧ a = b) = false; exact decide_eq_false fun g:2 = 1 ∧ a = b=>absurd g.1 (by decide)
   rcases ha with rfl | rfl <;> rcases hb with rfl | rfl <;> exact agree_no e1 e2
 ·simp only [List.mem_cons,List.not_mem_nil,or_false,hm,false_or] at ho
  rcases ho with rfl | rfl | rfl | rfl | rfl | rfl | rfl | rfl | rfl | rfl | rfl | rfl | rfl | rfl | rfl | rfl <;> rcases ha with rfl | rfl <;> rcases hb with rfl | rfl <;> first
   | exact agree_no rfl rfl
   | exact agree_yes (.inl rfl) rfl rfl
   | exact agree_yes (.inr rfl) rfl rfl
theorem agree_3 {a b c:Nat} (ha:okK a) (hb:okK b) (hc:okK c):Agree l h n sIf nm [a,b,c]:=by
 rcases ha with rfl | rfl <;> rcases hb with rfl | rfl <;> rcases hc with rfl | rfl <;> first
  | exact agree_no rfl rfl
  | exact agree_yes (.inl rfl) rfl rfl
  | exact agree_yes (.inr rfl) rfl rfl
theorem agree_0 {op:S} (ho:op ∈ [sInt,sBool,sVar]) (hkd:op = sVar → okK (kdOf n nm)):Agree l h n op nm []:=by
 simp only [List.mem_cons,List.not_mem_nil,or_false] at ho
 rcases ho with rfl | rfl | rfl
 ·exact agree_yes (.inr rfl) rfl rfl
 ·exact agree_yes (.inl rfl) rfl rfl
 ·have e1:ownT h n sVar nm [] = finT true (kdOf n nm) []:=rfl
  have e2:ownD l n sVar nm [] = (true,kdOf n nm):=rfl
  refine agree_yes (hkd rfl) (e1.trans ?_) e2
  unfold finT
  rw [if_neg (by decide:¬ true = false),if_neg (fun g=>absurd g.2 (by decide))]
end
theorem own_eq {h r:List Nd} {n:Nd} {op nm:S} {ks:List Nat} {m:Nat} (hm:m = ks.length) (hn:∀ v ∈ allOf n,okK v.kd) (hh:∀ d ∈ h,∀ v ∈ d.outs,okK v.kd) (hk:∀ k ∈ ks,okK k) (hw:op = sCall ∨ need op = some m) (hx:okExprR h n op nm m = true):Agree (h ++ r) h n op nm ks:=by
 have named:op = sVar ∨ op = sWhen ∨ op = sMerge → okK (kdOf n nm):=fun g=>kd_ok hn (by unfold okExprR at hx; rw [if_pos g] at hx; exact hx)
 by_cases hc:op = sCall
 ·subst hc
  have hx:callOk h nm m = true:=hx
  have e1:ownT h n sCall nm ks = callT h nm ks:=rfl
  have e2:ownD (h ++ r) n sCall nm ks = callD (h ++ r) nm ks:=rfl
  unfold callOk at hx
  cases f:h.find? (fun n=>decide (n.nm = nm)) with
  | none=>rw [f] at hx; cases hx
  | some d =>
   rw [f] at hx
   have hx:=of_decide_eq_true hx
   unfold callT at e1
   unfold callD at e2
   rw [find_pre (by rw [f]; rfl),f] at e2
   rw [f] at e1
   dsimp only at e1 e2
   rw [if_pos ⟨hx.1,hx.2.trans hm⟩] at e1
   have ho:okK (outKd d):=by
    have:=hh d (List.mem_of_find?_eq_some f)
    unfold outKd
    match q:d.outs,hx.1 with
    | [v],_=>exact this v (by rw [q]; exact List.mem_cons_self)
   cases i:insOk d.ins ks with
   | true =>
    rw [i,if_pos rfl] at e1
    rw [i] at e2
    exact agree_yes ho e1 e2
   | false =>
    rw [i,if_neg Bool.false_ne_true] at e1
    rw [i] at e2
    exact agree_no e1 (by rw [e2])
 ·obtain hw:=hw.resolve_left hc
  subst hm
  rcases need_mem hw with ⟨e,g⟩ | ⟨e,g⟩ | ⟨e,g⟩ | ⟨e,g⟩
  ·match ks,e with
   | [a],_=>exact agree_1 g (hk a (by simp)) fun e=>named (.inr (.inl e))
  ·match ks,e with
   | [a,b],_=>exact agree_2 g (hk a (by simp)) (hk b (by simp)) fun e=>named (.inr (.inr e))
  ·subst g
   match ks,e with
   | [a,b,c],_=>exact agree_3 (hk a (by simp)) (hk b (by simp)) (hk c (by simp))
  ·match ks,e with
   | [],_=>exact agree_0 g fun e=>named (.inl e)
section
variable {h r:List Nd} {n:Nd}
mutual
theorem kdE_id {l:List Nd} {n:Nd}:∀ (e:Tr) (b:Bd),b.1 ≠ 0 → (kdE l n e b).2 = b
 | .mk op nm N a ks,b,h=>by
  unfold kdE
  dsimp only
  rw [kdEs_id ks b h]
  exact failIf_id h
theorem kdEs_id {l:List Nd} {n:Nd}:∀ (ks:List Tr) (b:Bd),b.1 ≠ 0 → (kdEs l n ks b).2 = b
 | [],b,h=>by unfold kdEs; rfl
 | k :: r,b,h=>by
  unfold kdEs
  dsimp only
  rw [kdE_id k b h]
  exact kdEs_id r b h
end
mutual
theorem kdE_eq (hn:∀ v ∈ allOf n,okK v.kd) (hh:∀ d ∈ h,∀ v ∈ d.outs,okK v.kd):∀ (e:Tr) (b:Bd),wanE e → knownE h n e → b.1 = 0 → (∀ k,exprT h n e = .inr k → kdE (h ++ r) n e b = (k,b)) ∧ (∀ p,exprT h n e = .inl p → (kdE (h ++ r) n e b).2 = (9,p))
 | .mk op nm N a ks,b,hw,hx,hb=>by
  unfold wanE at hw
  unfold knownE at hx
  obtain ⟨i1,i2⟩:=kdEs_eq hn hh ks b hw.2 hx.2 hb
  unfold exprT kdE
  cases g:exprTs h n ks with
  | inl p =>
   refine ⟨fun c h=>(by cases h),fun q h=>?_⟩
   have h:Sum.inl p = (Sum.inl q:Sum Nat Nat):=h
   cases h
   dsimp only
   rw [i2 p g]
   exact failIf_id (Nat.succ_ne_zero 8)
  | inr cs =>
   rw [i1 cs g]
   obtain ⟨hl,hk⟩:=exprTs_ok ks g
   obtain ⟨o1,o2⟩:=own_eq (r:=r) hl.symm hn hh hk hw.1 hx.1
   dsimp only
   by_cases q:okK (ownT h n op nm cs)
   ·have q':ownT h n op nm cs = 1 ∨ ownT h n op nm cs = 2:=q
    rw [if_pos q',o1 q]
    exact ⟨fun k h=>by cases h; rfl,fun p h=>by cases h⟩
   ·have q':¬ (ownT h n op nm cs = 1 ∨ ownT h n op nm cs = 2):=q
    rw [if_neg q',o2 q]
    refine ⟨fun k h=>(by cases h),fun p h=>?_⟩
    cases h
    show failB 9 a b = (9,a)
    exact if_pos hb
theorem kdEs_eq (hn:∀ v ∈ allOf n,okK v.kd) (hh:∀ d ∈ h,∀ v ∈ d.outs,okK v.kd):∀ (ks:List Tr) (b:Bd),wanEs ks → knownEs h n ks → b.1 = 0 → (∀ cs,exprTs h n ks = .inr cs → kdEs (h ++ r) n ks b = (cs,b)) ∧ (∀ p,exprTs h n ks = .inl p → (kdEs (h ++ r) n ks b).2 = (9,p))
 | [],b,_,_,hb=>by
  unfold exprTs kdEs
  exact ⟨fun cs h=>by cases h; rfl,fun p h=>by cases h⟩
 | k :: t,b,hw,hx,hb=>by
  unfold wanEs at hw
  unfold knownEs at hx
  obtain ⟨i1,i2⟩:=kdE_eq hn hh k b hw.1 hx.1 hb
  unfold exprTs kdEs
  cases g:exprT h n k with
  | inl p =>
   refine ⟨fun c h=>(by cases h),fun q h=>?_⟩
   have h:Sum.inl p = (Sum.inl q:Sum Nat (List Nat)):=h
   cases h
   dsimp only
   rw [i2 p g]
   exact kdEs_id t _ (Nat.succ_ne_zero 8)
  | inr c =>
   rw [i1 c g]
   dsimp only
   obtain ⟨j1,j2⟩:=kdEs_eq hn hh t b hw.2 hx.2 hb
   cases g2:exprTs h n t with
   | inl p =>
    refine ⟨fun c h=>(by cases h),fun q h=>?_⟩
    have h:Sum.inl p = (Sum.inl q:Sum Nat (List Nat)):=h
    cases h
    exact j2 p g2
   | inr cs =>
    rw [j1 cs g2]
    refine ⟨fun c' h=>?_,fun q h=>by cases h⟩
    have h:(Sum.inr (c :: cs):Sum Nat (List Nat)) = .inr c':=h
    cases h; rfl
end
theorem kdLs_id:∀ (l:List Vr) (b:Bd),b.1 ≠ 0 → kdLs n l b = b
 | [],_,_=>rfl
 | v :: r,b,h=>by
  unfold kdLs
  rw [failIf_id h]
  exact kdLs_id r b h
theorem kdQs_id {l:List Nd}:∀ (qs:List Eqn) (b:Bd),b.1 ≠ 0 → kdQs l n qs b = b
 | [],_,_=>rfl
 | q :: r,b,h=>by
  unfold kdQs
  rw [kdE_id q.e b h,failIf_id h]
  exact kdQs_id r b h
theorem kdNs_id {l:List Nd}:∀ (ns:List Nd) (b:Bd),b.1 ≠ 0 → kdNs l ns b = b
 | [],_,_=>rfl
 | n :: r,b,h=>by
  unfold kdNs
  rw [kdLs_id _ b h,kdQs_id _ b h]
  exact kdNs_id r b h
theorem kdLs_eq:∀ (l:List Vr),kdLs n l (0,0) = faultOf 9 (locsT n l)
 | []=>rfl
 | v :: r=>by
  unfold kdLs locsT
  by_cases q1:v.on = (0,0)
  ·rw [decide_eq_true q1,if_neg (fun g=>g.1 q1)]
   exact kdLs_eq r
  ·by_cases q2:kdOf n v.on = 1
   ·rw [decide_eq_true q2,if_neg (fun g=>g.2 q2),Bool.and_comm]
    exact kdLs_eq r
   ·rw [decide_eq_false q1,decide_eq_false q2,if_pos ⟨q1,q2⟩]
    show kdLs n r (9,v.a) = (9,v.a)
    exact kdLs_id r _ (Nat.succ_ne_zero 8)
theorem kdQs_eq (hn:∀ v ∈ allOf n,okK v.kd) (hh:∀ d ∈ h,∀ v ∈ d.outs,okK v.kd):∀ (qs:List Eqn),(∀ q ∈ qs,wanE q.e ∧ knownE h n q.e) → kdQs (h ++ r) n qs (0,0) = faultOf 9 (eqsT h n qs)
 | [],_=>rfl
 | q :: t,hq=>by
  obtain ⟨w1,w2⟩:=hq q (List.mem_cons_self ..)
  obtain ⟨i1,i2⟩:=kdE_eq (r:=r) hn hh q.e (0,0) w1 w2 rfl
  unfold kdQs eqsT
  cases g:exprT h n q.e with
  | inl p =>
   rw [i2 p g,failIf_id (by exact Nat.succ_ne_zero 8)]
   exact kdQs_id t _ (Nat.succ_ne_zero 8)
  | inr c =>
   rw [i1 c g]
   dsimp only
   by_cases e:c = kdOf n q.nm
   ·rw [decide_eq_true e,if_pos e]
    exact kdQs_eq hn hh t fun x hx=>hq x (List.mem_cons_of_mem _ hx)
   ·rw [decide_eq_false e,if_neg e]
    show kdQs (h ++ r) n t (9,q.a) = (9,q.a)
    exact kdQs_id t _ (Nat.succ_ne_zero 8)
end
theorem kdNs_eq:∀ (ns h:List Nd),(∀ d ∈ h,∀ v ∈ d.outs,okK v.kd) → (∀ n ∈ ns,∀ v ∈ allOf n,okK v.kd) → (∀ i (hi:i < ns.length),∀ q ∈ ns[i].eqs,wanE q.e ∧ knownE (h ++ ns.take i) ns[i] q.e) → kdNs (h ++ ns) ns (0,0) = faultOf 9 (typesL h ns)
 | [],_,_,_,_=>rfl
 | n :: r,h,hh,hn,hq=>by
  have hn0:=hn n (List.mem_cons_self ..)
  have hq0:=hq 0 (Nat.succ_pos _)
  unfold kdNs typesL
  rw [kdLs_eq]
  cases g:locsT n n.locs with
  | some a =>
   show kdNs _ r (kdQs _ n n.eqs (9,a)) = (9,a)
   rw [kdQs_id _ _ (Nat.succ_ne_zero 8)]
   exact kdNs_id r _ (Nat.succ_ne_zero 8)
  | none =>
   show kdNs _ r (kdQs _ n n.eqs (0,0)) = _
   rw [kdQs_eq hn0 hh n.eqs (fun q h=>by simpa using hq0 q h)]
   rw [Option.none_or]
   cases g2:eqsT h n n.eqs with
   | some a =>
    show kdNs _ r (9,a) = (9,a)
    exact kdNs_id r _ (Nat.succ_ne_zero 8)
   | none =>
    show kdNs _ r (0,0) = _
    have:=kdNs_eq r (h ++ [n]) (fun d hd v hv=>?_) (fun m hm=>hn m (List.mem_cons_of_mem _ hm)) (fun i hi q hqq=>?_)
    ·rw [List.append_assoc] at this
     exact this
    ·rcases List.mem_append.1 hd with hd | hd
     ·exact hh d hd v hv
     ·rw [List.mem_singleton.1 hd] at hv
      exact hn0 v (by unfold allOf; exact List.mem_append_right _ (List.mem_append_left _ hv))
    ·have:=hq (i + 1) (Nat.succ_lt_succ hi) q hqq
     simpa using this
theorem types_eq {l:List Nd} (hm:∀ n ∈ l,Made n) (h0:(namesR l).1 = 0):typesR l = faultOf 9 (typesL [] l):=by
 have:=kdNs_eq l [] (fun _ h=>by cases h) (fun n hn v hv=>?_) (fun i hi q hq=>?_)
 ·exact this
 ·obtain ⟨m1,m2,m3,-⟩:=hm n hn
  unfold allOf at hv
  rcases List.mem_append.1 hv with hv | hv
  ·exact (m1 v hv).2
  rcases List.mem_append.1 hv with hv | hv
  ·exact (m2 v hv).2
  ·exact m3 v hv
 ·refine ⟨(hm _ (List.getElem_mem hi)).eqs q hq,?_⟩
  rw [List.nil_append]
  exact ((namesR_0 h0 hi).eqs q hq).1
theorem knownEs_iff {h:List Nd} {n:Nd}:∀ ks:List Tr,knownEs h n ks ↔ ∀ k ∈ ks,knownE h n k
 | []=>⟨fun _ _ h=>(by cases h),fun _=>by unfold knownEs; trivial⟩
 | k :: ks=>by
  unfold knownEs
  rw [knownEs_iff ks]
  exact ⟨fun h x hx=>by rcases List.mem_cons.1 hx with rfl | hx; exact h.1; exact h.2 x hx,fun h=>⟨h k List.mem_cons_self,fun x hx=>h x (List.mem_cons_of_mem _ hx)⟩⟩
theorem callOk_pre {h r:List Nd} {s:S} {m:Nat} (g:callOk h s m = true):callOk (h ++ r) s m = true:=by
 unfold callOk at g ⊢
 cases f:h.find? (fun n=>decide (n.nm = s)) with
 | none=>rw [f] at g; cases g
 | some d =>
  rw [f] at g
  rw [find_pre (by rw [f]; rfl),f]
  exact g
mutual
theorem known_pre {h r:List Nd} {n:Nd}:∀ (e:Tr),knownE h n e → knownE (h ++ r) n e
 | .mk op nm N a ks,g=>by
  unfold knownE at g ⊢
  refine ⟨?_,knowns_pre ks g.2⟩
  have g1:=g.1
  unfold okExprR at g1 ⊢
  split
  ·rename_i q; rw [if_pos q] at g1; exact g1
  ·rename_i q
   rw [if_neg q] at g1
   split
   ·rename_i q2; rw [if_pos q2] at g1; exact callOk_pre g1
   ·rfl
theorem knowns_pre {h r:List Nd} {n:Nd}:∀ (ks:List Tr),knownEs h n ks → knownEs (h ++ r) n ks
 | [],_=>by unfold knownEs; trivial
 | k :: ks,g=>by
  unfold knownEs at g ⊢
  exact ⟨known_pre k g.1,knowns_pre ks g.2⟩
end
end Go.Plain
