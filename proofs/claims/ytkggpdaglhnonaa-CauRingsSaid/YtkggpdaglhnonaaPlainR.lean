/- What is proved: nothing; the document's checks of names, of clocks as plain functions. what holds of nodes of which the document's check of names tells no fault. the document's clock of a name is the program's, where no fault of names is told. the document's clocks of expressions, by the program's, and their first fault. the document's clocks and their first fault are the program's, where operators have the kids they want. in what is read operators have the kids that they want, inputs and outputs hang on nothing, each declaration has a kind. the document's kinds of expressions, by the program's, and their first fault. nothing; who leans on whom, an order, rings, as plain functions. an order is found just if nothing leans on itself; what an order is; a search by work and seen finds just that. of nodes without a fault of names: an order is found just if no equation's name leans on itself. the document's check of what is late, as plain functions; its names are as many as equations at most. a node that is read has few equations. names in a ring, read as they are written. names in a ring lean on themselves; with a fby at one of them they do not, and have an order that begins there. Conditions: as each theorem says. -/
import Derived.Test.YtkggpdaglhnonaaPlain
import Derived.KernelRfl
set_option linter.unusedVariables false
set_option linter.unusedSimpArgs false
set_option linter.unusedSectionVars false
namespace Go.Plain
open Go.Eng
set_option autoImplicit false
def okExprR (h:List Nd) (n:Nd) (op nm:S) (m:Nat):Bool:=if op = sVar ∨ op = sWhen ∨ op = sMerge then (findV n nm).isSome else if op = sCall then callOk h nm m else true
end Go.Plain
namespace Go.Plain
open Go.Eng
set_option autoImplicit false
mutual
def knownE (h:List Nd) (n:Nd):Tr → Prop
 | .mk op nm _ _ ks=>okExprR h n op nm ks.length = true ∧ knownEs h n ks
def knownEs (h:List Nd) (n:Nd):List Tr → Prop
 | []=>True
 | k :: ks=>knownE h n k ∧ knownEs h n ks
end
def hung:List Vr → List Vr → Prop
 | _,[]=>True
 | pre,v :: r=>((v.on = (0,0) ∨ ∃ w ∈ pre,w.nm = v.on) ∧ ∀ w ∈ pre,w.nm ≠ v.nm) ∧ hung (pre ++ [v]) r
structure NmOk (h:List Nd) (n:Nd):Prop where
 outs:n.outs.length ≠ 0
 vars:hung [] (allOf n)
 eqs:∀ q ∈ n.eqs,knownE h n q.e ∧ (findV n q.nm).isSome = true
end Go.Plain
namespace Go.Plain
open Go.Eng
set_option autoImplicit false
end Go.Plain
namespace Go.Plain
open Go.Eng
set_option autoImplicit false
end Go.Plain
namespace Go.Plain
open Go.Eng
set_option autoImplicit false
end Go.Plain
namespace Go.Plain
open Go.Eng
set_option autoImplicit false
def need (op:S):Option Nat :=
 if op ∈ [sNot,sNeg,sPre,sWhen] then some 1
 else if op ∈ [sMerge,sArrow,sFby,sPlus,sMinus,sTimes,sDiv,sMod,sEq,sNe,sLt,sLe,sGt,sGe,sAnd,sOr,sXor] then some 2
 else if op = sIf then some 3
 else if op ∈ [sInt,sBool,sVar] then some 0 else none
mutual
def wanE:Tr → Prop
 | .mk op _ _ _ ks=>(op = sCall ∨ need op = some ks.length) ∧ wanEs ks
def wanEs:List Tr → Prop
 | []=>True
 | k :: ks=>wanE k ∧ wanEs ks
end
variable {L:List Wd} {p:PS}
def bareV (v:Vr):Prop:=v.on = (0,0) ∧ (v.kd = 1 ∨ v.kd = 2)
structure Made (n:Nd):Prop where
 ins:∀ v ∈ n.ins,bareV v
 outs:∀ v ∈ n.outs,bareV v
 locs:∀ v ∈ n.locs,v.kd = 1 ∨ v.kd = 2
 eqs:∀ q ∈ n.eqs,wanE q.e
end Go.Plain
namespace Go.Plain
open Go.Eng
set_option autoImplicit false
section
variable {h l:List Nd} {n:Nd} {nm:S} {ks:List Nat}
end
section
variable {h r:List Nd} {n:Nd}
end
end Go.Plain
namespace Go.Plain
open Go.Eng
set_option autoImplicit false
mutual
def mnE:Tr → List S
 | .mk op nm _ _ ks=>(if op = sVar ∨ op = sWhen ∨ op = sMerge then [nm] else []) ++ (if op = sPre then [] else if op = sFby then mn1 ks else mnEs ks)
def mn1:List Tr → List S
 | []=>[]
 | k :: _=>mnE k
def mnEs:List Tr → List S
 | []=>[]
 | k :: ks=>mnE k ++ mnEs ks
end
def ownN (n:Nd):List S:=(n.outs ++ n.locs).map Vr.nm
def onN (n:Nd) (s:S):List S:=(ofL n n.locs.length s).map Prod.fst
def eqE (n:Nd) (s:S):Tr:=match n.eqs.find? fun q=>decide (q.nm = s) with | some q=>q.e | none=>E0
def leansF (n:Nd) (s:S):List S:=if (ownN n).contains s then (ownN n).filter fun x=>(mnE (eqE n s)).contains x || (onN n s).contains x else []
def readyF (n:Nd) (done:List S) (s:S):Bool:=!done.contains s && !(leansF n s).any fun x=>!done.contains x
def orderL (n:Nd):Nat → List S → Option (List S)
 | 0,l=>some l
 | k + 1,l=>match (ownN n).find? (readyF n l) with
  | some s=>orderL n k (l ++ [s])
  | none=>none
def orderF (n:Nd):Option (List S):=orderL n (ownN n).length []
def roundL (n:Nd) (s:S):Nat → List S → List S → Option Bool
 | 0,_,_=>none
 | k + 1,seen,work=>match work.getLast? with
  | none=>some false
  | some x=>if x = s then some true else if seen.contains x then roundL n s k seen work.dropLast else roundL n s k (x :: seen) (work.dropLast ++ leansF n x)
end Go.Plain
namespace Go.Plain
open Go.Eng
set_option autoImplicit false
section
variable (names:List S) (lean:S → List S)
def rdyG (done:List S) (s:S):Bool:=!done.contains s && !(lean s).any fun x=>!done.contains x
def ordG:Nat → List S → Option (List S)
 | 0,l=>some l
 | k + 1,l=>match names.find? (rdyG lean l) with
  | some s=>ordG k (l ++ [s])
  | none=>none
def rndG (s:S):Nat → List S → List S → Option Bool
 | 0,_,_=>none
 | k + 1,seen,work=>match work.getLast? with
  | none=>some false
  | some x=>if x = s then some true else if seen.contains x then rndG s k seen work.dropLast else rndG s k (x :: seen) (work.dropLast ++ lean x)
inductive Rch (lean:S → List S):S → S → Prop
 | one {x y:S}:y ∈ lean x → Rch lean x y
 | step {x y z:S}:Rch lean x y → z ∈ lean y → Rch lean x z
variable {names lean}
def Ordr (lean:S → List S) (o:List S):Prop:=∀ i (hi:i < o.length),∀ y ∈ lean o[i],y ∈ o.take i
theorem rdy_iff {done:List S} {s:S}:rdyG lean done s = true ↔ s ∉ done ∧ ∀ x ∈ lean s,x ∈ done:=by
 unfold rdyG
 rw [Bool.and_eq_true,Bool.not_eq_true',Bool.not_eq_true',List.any_eq_false]
 constructor
 ·rintro ⟨h1,h2⟩
  refine ⟨fun g=>?_,fun x hx=>?_⟩
  ·rw [List.contains_iff_mem.2 g] at h1; cases h1
  ·have:=h2 x hx
   cases e:done.contains x with
   | true=>exact List.contains_iff_mem.1 e
   | false=>rw [e] at this; exact absurd rfl this
 ·rintro ⟨h1,h2⟩
  refine ⟨?_,fun x hx=>?_⟩
  ·cases e:done.contains s with
   | true=>exact absurd (List.contains_iff_mem.1 e) h1
   | false=>rfl
  ·rw [List.contains_iff_mem.2 (h2 x hx)]; decide
theorem Ordr.app {o:List S} {s:S} (h:Ordr lean o) (g:∀ x ∈ lean s,x ∈ o):Ordr lean (o ++ [s]):=by
 intro i hi y hy
 rw [List.length_append] at hi
 have hi:i < o.length + 1:=hi
 by_cases e:i < o.length
 ·rw [List.getElem_append_left e] at hy
  rw [List.take_append_of_le_length (Nat.le_of_lt e)]
  exact h i e y hy
 ·obtain rfl:i = o.length:=by omega
  rw [List.getElem_append_right (Nat.le_refl _)] at hy
  simp only [Nat.sub_self,List.getElem_cons_zero] at hy
  rw [List.take_left']
  ·exact g y hy
  ·rfl
theorem ord_good:∀ (k:Nat) (l:List S) {o:List S},ordG names lean k l = some o → Ordr lean l → l.Nodup → (∀ x ∈ l,x ∈ names) → Ordr lean o ∧ o.length = l.length + k ∧ o.Nodup ∧ ∀ x ∈ o,x ∈ names
 | 0,l,o,h,h1,h2,h3=>by
  cases h
  exact ⟨h1,rfl,h2,h3⟩
 | k + 1,l,o,h,h1,h2,h3=>by
  unfold ordG at h
  split at h
  ·rename_i s e
   obtain ⟨g1,g2⟩:=rdy_iff.1 (List.find?_some e)
   obtain ⟨q1,q2,q3,q4⟩:=ord_good k _ h (h1.app g2) (by
    rw [List.nodup_append]
    refine ⟨h2,List.nodup_cons.2 ⟨List.not_mem_nil,List.nodup_nil⟩,fun a ha b hb=>?_⟩
    rw [List.mem_singleton.1 hb]
    exact fun e=>g1 (e ▸ ha)) (fun x hx=>by
    rcases List.mem_append.1 hx with hx | hx
    ·exact h3 x hx
    ·rw [List.mem_singleton.1 hx]; exact List.mem_of_find?_eq_some e)
   refine ⟨q1,?_,q3,q4⟩
   rw [q2,List.length_append]
   show l.length + 1 + k = l.length + (k + 1)
   omega
  ·cases h
theorem len_sub:∀ {l k:List S},l.Nodup → (∀ x ∈ l,x ∈ k) → l.length ≤ k.length
 | [],_,_,_=>Nat.zero_le _
 | a :: l,k,h,g=>by
  obtain ⟨h1,h2⟩:=List.nodup_cons.1 h
  have:=len_sub (l:=l) (k:=k.erase a) h2 fun x hx=>by
   have ne:x ≠ a:=fun e=>h1 (by rw [← e]; exact hx)
   exact (List.mem_erase_of_ne ne).2 (g x (List.mem_cons_of_mem _ hx))
  rw [List.length_erase_of_mem (g a (List.mem_cons_self ..))] at this
  have:0 < k.length:=List.length_pos_of_mem (g a (List.mem_cons_self ..))
  show l.length + 1 ≤ k.length
  omega
theorem all_in {l k:List S} (h:l.Nodup) (g:∀ x ∈ l,x ∈ k) (e:k.length ≤ l.length):∀ x ∈ k,x ∈ l:=by
 intro x hx
 apply Classical.byContradiction
 intro nx
 have:=len_sub (l:=l) (k:=k.erase x) h fun y hy=>by
  have ne:y ≠ x:=fun e=>nx (by rw [← e]; exact hy)
  exact (List.mem_erase_of_ne ne).2 (g y hy)
 rw [List.length_erase_of_mem hx] at this
 have:0 < k.length:=List.length_pos_of_mem hx
 omega
theorem ord_rch {o:List S} (h:Ordr lean o) {x y:S} (g:Rch lean x y):∀ i (hi:i < o.length),o[i] = x → ∃ j,j < i ∧ ∃ hj:j < o.length,o[j] = y:=by
 induction g with
 | one h1 =>
  intro i hi e
  obtain ⟨j,hj,ej⟩:=List.getElem_of_mem (h i hi _ (e ▸ h1))
  rw [List.length_take] at hj
  exact ⟨j,by omega,by omega,by rw [List.getElem_take] at ej; exact ej⟩
 | step _ h1 ih =>
  intro i hi e
  obtain ⟨j,hj,hj',ej⟩:=ih i hi e
  obtain ⟨m,hm,em⟩:=List.getElem_of_mem (h j hj' _ (ej ▸ h1))
  rw [List.length_take] at hm
  exact ⟨m,by omega,by omega,by rw [List.getElem_take] at em; exact em⟩
theorem ord_acy {o:List S} (h:Ordr lean o) {s:S} (hs:s ∈ o):¬ Rch lean s s:=by
 intro g
 have:∀ n i (hi:i < o.length),i < n → o[i] = s → False:=by
  intro n
  induction n with
  | zero=>intro i _ h; exact absurd h (Nat.not_lt_zero _)
  | succ n ih =>
   intro i hi hn e
   obtain ⟨j,hj,hj',ej⟩:=ord_rch h g i hi e
   exact ih j hj' (by omega) ej
 obtain ⟨i,hi,e⟩:=List.getElem_of_mem hs
 exact this _ i hi (Nat.lt_succ_self _) e
theorem last_app {work:List S} {x:S} (h:work.getLast? = some x):work = work.dropLast ++ [x]:=by
 have hne:work ≠ []:=fun e=>by rw [e] at h; cases h
 rw [List.getLast?_eq_some_getLast hne] at h
 rw [← Option.some.inj h]
 exact (List.dropLast_concat_getLast hne).symm
theorem rnd_true {s:S}:∀ (k:Nat) (seen work:List S),(∀ w ∈ work,Rch lean s w) → rndG lean s k seen work = some true → Rch lean s s
 | 0,_,_,_,h=>by cases h
 | k + 1,seen,work,hw,h=>by
  unfold rndG at h
  split at h
  ·cases h
  ·rename_i x e
   have ew:=last_app e
   have hx:Rch lean s x:=hw x (by rw [ew]; exact List.mem_append_right _ (List.mem_singleton.2 rfl))
   have hd:∀ w ∈ work.dropLast,Rch lean s w:=fun w g=>hw w (by rw [ew]; exact List.mem_append_left _ g)
   split at h
   ·rename_i q; exact q ▸ hx
   split at h
   ·exact rnd_true k _ _ hd h
   ·refine rnd_true k _ _ (fun w g=>?_) h
    rcases List.mem_append.1 g with g | g
    ·exact hd w g
    ·exact .step hx g
theorem rnd_false {s:S}:∀ (k:Nat) (seen work:List S),(∀ w ∈ lean s,w ∈ seen ∨ w ∈ work) → (∀ x ∈ seen,∀ y ∈ lean x,y ∈ seen ∨ y ∈ work) → s ∉ seen → rndG lean s k seen work = some false → ¬ Rch lean s s
 | 0,_,_,_,_,_,h=>by cases h
 | k + 1,seen,work,h1,h2,h3,h=>by
  unfold rndG at h
  split at h
  ·rename_i e
   have e:work = []:=List.getLast?_eq_none_iff.1 e
   subst e
   have:∀ x y,Rch lean x y → x = s → y ∈ seen:=by
    intro x y g
    induction g with
    | one g1 =>
     intro e; subst e
     exact (h1 _ g1).resolve_right List.not_mem_nil
    | step _ g1 ih =>
     intro e
     exact (h2 _ (ih e) _ g1).resolve_right List.not_mem_nil
   exact fun g=>h3 (this _ _ g rfl)
  ·rename_i x e
   have ew:=last_app e
   have sp:∀ {w:S},w ∈ work → w ∈ work.dropLast ∨ w = x:=fun {w} g=>by
    rw [ew] at g
    exact (List.mem_append.1 g).imp id fun g=>List.mem_singleton.1 g
   split at h
   ·cases h
   ·rename_i q
    split at h
    ·rename_i c
     have c:=List.contains_iff_mem.1 c
     have mv:∀ {w:S},w ∈ seen ∨ w ∈ work → w ∈ seen ∨ w ∈ work.dropLast:=fun {w} g=>by
      rcases g with g | g
      ·exact .inl g
      ·rcases sp g with g | g
       ·exact .inr g
       ·exact .inl (g ▸ c)
     exact rnd_false k _ _ (fun w g=>mv (h1 w g)) (fun a b c d=>mv (h2 a b c d)) h3 h
    ·have mv:∀ {w:S},w ∈ seen ∨ w ∈ work → w ∈ x :: seen ∨ w ∈ work.dropLast ++ lean x:=fun {w} g=>by
      rcases g with g | g
      ·exact .inl (List.mem_cons_of_mem _ g)
      ·rcases sp g with g | g
       ·exact .inr (List.mem_append_left _ g)
       ·exact .inl (g ▸ List.mem_cons_self ..)
     refine rnd_false k _ _ (fun w g=>mv (h1 w g)) (fun a b c d=>?_) (fun g=>?_) h
     ·rcases List.mem_cons.1 b with b | b
      ·exact .inr (List.mem_append_right _ (b ▸ d))
      ·exact mv (h2 a b c d)
     ·rcases List.mem_cons.1 g with g | g
      ·exact q g.symm
      ·exact h3 g
theorem rnd_some {s:S} {K:Nat} (hK:∀ x,(lean x).length ≤ K) (hl:∀ x,∀ y ∈ lean x,y ∈ names):∀ (k:Nat) (seen work:List S),(∀ w ∈ work,w ∈ names) → (names.filter fun x=>!seen.contains x).length * (K + 1) + work.length < k → ∃ b,rndG lean s k seen work = some b
 | 0,_,_,_,h=>absurd h (Nat.not_lt_zero _)
 | k + 1,seen,work,hw,h=>by
  unfold rndG
  cases e:work.getLast? with
  | none=>exact ⟨_,rfl⟩
  | some x =>
   dsimp only
   have ew:=last_app e
   have hx:x ∈ names:=hw x (by rw [ew]; exact List.mem_append_right _ (List.mem_singleton.2 rfl))
   have hd:∀ w ∈ work.dropLast,w ∈ names:=fun w g=>hw w (by rw [ew]; exact List.mem_append_left _ g)
   have hlw:work.length = work.dropLast.length + 1:=by
    have:=congrArg List.length ew
    rw [List.length_append] at this
    exact this
   split
   ·exact ⟨_,rfl⟩
   split
   ·exact rnd_some hK hl k _ _ hd (by omega)
   ·rename_i c
    refine rnd_some hK hl k _ _ (fun w g=>(List.mem_append.1 g).elim (hd w) (hl x w)) ?_
    have h1:(names.filter fun y=>!(x :: seen).contains y).length < (names.filter fun y=>!seen.contains y).length:=by
     have:(names.filter fun y=>!(x :: seen).contains y) = (names.filter fun y=>!seen.contains y).filter fun y=>!decide (y = x):=by
      rw [List.filter_filter]
      refine List.filter_congr fun y _=>?_
      rw [List.contains_cons]
      by_cases q:y = x
      ·subst q; simp
      ·have:(y == x) = false:=by simpa using q
       rw [this,decide_eq_false q]; simp
     rw [this]
     refine List.length_filter_lt_length_iff_exists.2 ⟨x,List.mem_filter.2 ⟨hx,by simpa using c⟩,by simp⟩
    have h2:=hK x
    rw [List.length_append]
    have h3:((names.filter fun y=>!(x :: seen).contains y).length + 1) * (K + 1) ≤ (names.filter fun y=>!seen.contains y).length * (K + 1):=Nat.mul_le_mul_right _ h1
    rw [Nat.add_mul] at h3
    omega
end
end Go.Plain
namespace Go.Plain
open Go.Eng
set_option autoImplicit false
theorem orderL_G {n:Nd}:∀ (k:Nat) (l:List S),orderL n k l = ordG (ownN n) (leansF n) k l
 | 0,_=>rfl
 | k + 1,l=>by
  unfold orderL ordG
  have:readyF n l = rdyG (leansF n) l:=rfl
  rw [this]
  split
  ·rename_i e; try rw [e]
   exact orderL_G k _
  ·rename_i e; first | rw [e] | rfl
theorem roundL_G {n:Nd} {s:S}:∀ (k:Nat) (a b:List S),roundL n s k a b = rndG (leansF n) s k a b
 | 0,_,_=>rfl
 | k + 1,a,b=>by
  unfold roundL rndG
  split
  ·rename_i e; first | rw [e] | rfl
  ·rename_i e; try rw [e]
   try dsimp only
   rw [roundL_G k,roundL_G k]
theorem leans_own {n:Nd} (x:S):∀ y ∈ leansF n x,y ∈ ownN n:=by
 unfold leansF
 split
 ·exact fun y hy=>(List.mem_filter.1 hy).1
 ·exact fun y hy=>by cases hy
theorem leans_len {n:Nd} (x:S):(leansF n x).length ≤ (ownN n).length:=by
 unfold leansF
 split
 ·exact List.length_filter_le ..
 ·exact Nat.zero_le _
def fuelR (n:Nd):Nat:=(ownN n).length * ((ownN n).length + 1) + (ownN n).length + 1
def roundF (n:Nd) (s:S):Option Bool:=roundL n s (fuelR n) [] (leansF n s)
theorem round_is {n:Nd} {s:S}:∃ b,roundF n s = some b ∧ (b = true ↔ Rch (leansF n) s s):=by
 have h1:((ownN n).filter fun x=>!([]:List S).contains x).length ≤ (ownN n).length:=List.length_filter_le ..
 have h2:=leans_len (n:=n) s
 have h3:((ownN n).filter fun x=>!([]:List S).contains x).length * ((ownN n).length + 1) ≤ (ownN n).length * ((ownN n).length + 1):=Nat.mul_le_mul_right _ h1
 obtain ⟨b,e⟩:=rnd_some (s:=s) (leans_len (n:=n)) (leans_own (n:=n)) (fuelR n) [] (leansF n s) (leans_own s) (by unfold fuelR; omega)
 refine ⟨b,(roundL_G _ _ _).trans e,?_⟩
 cases b with
 | true=>exact ⟨fun _=>rnd_true _ _ _ (fun w hw=>.one hw) e,fun _=>rfl⟩
 | false=>exact ⟨fun h=>(by cases h),fun h=>absurd h (rnd_false _ _ _ (fun w hw=>.inr hw) (fun x hx=>by cases hx) List.not_mem_nil e)⟩
def causQ (n:Nd):List Eqn → Option Nat
 | []=>none
 | q :: r=>if roundF n q.nm = some true then some q.a else causQ n r
def causF:List Nd → Option Nat
 | []=>none
 | n :: r=>match causQ n n.eqs with | some a=>some a | none=>causF r
theorem causQ_none {n:Nd}:∀ {l:List Eqn},causQ n l = none ↔ ∀ q ∈ l,roundF n q.nm ≠ some true
 | []=>⟨fun _ _ h=>(by cases h),fun _=>rfl⟩
 | q :: r=>by
  unfold causQ
  split
  ·rename_i h
   exact ⟨fun g=>(by cases g),fun g=>absurd h (g q (List.mem_cons_self ..))⟩
  ·rename_i h
   rw [causQ_none]
   exact ⟨fun g x hx=>(List.mem_cons.1 hx).elim (fun e=>e ▸ h) (g x),fun g x hx=>g x (List.mem_cons_of_mem _ hx)⟩
theorem causF_none:∀ {l:List Nd},causF l = none ↔ ∀ n ∈ l,causQ n n.eqs = none
 | []=>⟨fun _ _ h=>(by cases h),fun _=>rfl⟩
 | n :: r=>by
  unfold causF
  split
  ·rename_i h
   exact ⟨fun g=>(by cases g),fun g=>by rw [g n (List.mem_cons_self ..)] at h; cases h⟩
  ·rename_i h
   rw [causF_none]
   exact ⟨fun g x hx=>(List.mem_cons.1 hx).elim (fun e=>e ▸ h) (g x),fun g x hx=>g x (List.mem_cons_of_mem _ hx)⟩
end Go.Plain
namespace Go.Plain
open Go.Eng
set_option autoImplicit false
end Go.Plain
namespace Go.Plain
open Go.Eng
set_option autoImplicit false
variable {L:List Wd} {p:PS}
end Go.Plain
namespace Go.Plain
open Go.Eng
set_option autoImplicit false
set_option maxRecDepth 100000
def wB (k:Nat):By:=[119,UInt8.ofNat (97 + k)]
theorem w_all:∀ k,k < 20 → ∀ c ∈ wB k,nameB c = true:=by decide +kernel
theorem w_kept:∀ k,k < 20 → keptS (sS (wB k)) = false:=by decide +kernel
theorem w_inj:∀ i,i < 20 → ∀ j,j < 20 → sS (wB i) = sS (wB j) → i = j:=by decide +kernel
theorem w_y:∀ i,i < 20 → sS (wB i) ≠ sY:=by decide +kernel
theorem w_is {k:Nat} (h:k < 20):IsNm (wB k):=⟨⟨_,_,rfl,rfl⟩,w_all k h,w_kept k h,Nat.le_of_ble_eq_true rfl⟩
def preR:By:=[110,111,100,101,32,102,40,120,58,32,105,110,116,41,32,114,101,116,117,114,110,115,32,40,121,58,32,105,110,116,41,59,32,118,97,114,32]
def colI:By:=[58,32,105,110,116,59,32]
def letY:By:=[108,101,116,32,121,32,61,32,120,59,32]
def oneP:By:=[32,61,32,49,32,43,32]
def nilF:By:=[32,61,32,48,32,102,98,121,32]
def semiB:By:=[59,32]
def telR:By:=[116,101,108]
theorem cut_preR {a:Nat} {r:By} {l:List Wd}:cutT a (preR ++ r) l = cutT (a + 37) (r) (l ++ [kwd sNode a,nam sF (a + 5),sgn sLp (a + 6),nam sX (a + 7),sgn sColon (a + 8),kwd sInt (a + 10),sgn sRp (a + 13),kwd sReturns (a + 15),sgn sLp (a + 23),nam sY (a + 24),sgn sColon (a + 25),kwd sInt (a + 27),sgn sRp (a + 30),sgn sSemi (a + 31),kwd sVar (a + 33)]):=by
 show cutT a (110 :: 111 :: 100 :: 101 :: 32 :: 102 :: 40 :: 120 :: 58 :: 32 :: 105 :: 110 :: 116 :: 41 :: 32 :: 114 :: 101 :: 116 :: 117 :: 114 :: 110 :: 115 :: 32 :: 40 :: 121 :: 58 :: 32 :: 105 :: 110 :: 116 :: 41 :: 59 :: 32 :: 118 :: 97 :: 114 :: 32 :: (r)) l = _
 refine (cutN (x:=[110,111,100,101]) (a':=a + 4) (r:=32 :: 102 :: 40 :: 120 :: 58 :: 32 :: 105 :: 110 :: 116 :: 41 :: 32 :: 114 :: 101 :: 116 :: 117 :: 114 :: 110 :: 115 :: 32 :: 40 :: 121 :: 58 :: 32 :: 105 :: 110 :: 116 :: 41 :: 59 :: 32 :: 118 :: 97 :: 114 :: 32 :: (r)) wd_node rfl rfl).trans ?_
 refine (cutS (a':=a + 5) (r:=102 :: 40 :: 120 :: 58 :: 32 :: 105 :: 110 :: 116 :: 41 :: 32 :: 114 :: 101 :: 116 :: 117 :: 114 :: 110 :: 115 :: 32 :: 40 :: 121 :: 58 :: 32 :: 105 :: 110 :: 116 :: 41 :: 59 :: 32 :: 118 :: 97 :: 114 :: 32 :: (r)) rfl rfl).trans ?_
 refine (cutN (x:=[102]) (a':=a + 6) (r:=40 :: 120 :: 58 :: 32 :: 105 :: 110 :: 116 :: 41 :: 32 :: 114 :: 101 :: 116 :: 117 :: 114 :: 110 :: 115 :: 32 :: 40 :: 121 :: 58 :: 32 :: 105 :: 110 :: 116 :: 41 :: 59 :: 32 :: 118 :: 97 :: 114 :: 32 :: (r)) wd_f rfl rfl).trans ?_
 refine (cutG (c:=40) (t:=sLp) (a':=a + 7) (r:=120 :: 58 :: 32 :: 105 :: 110 :: 116 :: 41 :: 32 :: 114 :: 101 :: 116 :: 117 :: 114 :: 110 :: 115 :: 32 :: 40 :: 121 :: 58 :: 32 :: 105 :: 110 :: 116 :: 41 :: 59 :: 32 :: 118 :: 97 :: 114 :: 32 :: (r)) (by decide) (by kernel_rfl) rfl).trans ?_
 refine (cutN (x:=[120]) (a':=a + 8) (r:=58 :: 32 :: 105 :: 110 :: 116 :: 41 :: 32 :: 114 :: 101 :: 116 :: 117 :: 114 :: 110 :: 115 :: 32 :: 40 :: 121 :: 58 :: 32 :: 105 :: 110 :: 116 :: 41 :: 59 :: 32 :: 118 :: 97 :: 114 :: 32 :: (r)) wd_x rfl rfl).trans ?_
 refine (cutG (c:=58) (t:=sColon) (a':=a + 9) (r:=32 :: 105 :: 110 :: 116 :: 41 :: 32 :: 114 :: 101 :: 116 :: 117 :: 114 :: 110 :: 115 :: 32 :: 40 :: 121 :: 58 :: 32 :: 105 :: 110 :: 116 :: 41 :: 59 :: 32 :: 118 :: 97 :: 114 :: 32 :: (r)) (by decide) (by kernel_rfl) rfl).trans ?_
 refine (cutS (a':=a + 10) (r:=105 :: 110 :: 116 :: 41 :: 32 :: 114 :: 101 :: 116 :: 117 :: 114 :: 110 :: 115 :: 32 :: 40 :: 121 :: 58 :: 32 :: 105 :: 110 :: 116 :: 41 :: 59 :: 32 :: 118 :: 97 :: 114 :: 32 :: (r)) rfl rfl).trans ?_
 refine (cutN (x:=[105,110,116]) (a':=a + 13) (r:=41 :: 32 :: 114 :: 101 :: 116 :: 117 :: 114 :: 110 :: 115 :: 32 :: 40 :: 121 :: 58 :: 32 :: 105 :: 110 :: 116 :: 41 :: 59 :: 32 :: 118 :: 97 :: 114 :: 32 :: (r)) wd_int rfl rfl).trans ?_
 refine (cutG (c:=41) (t:=sRp) (a':=a + 14) (r:=32 :: 114 :: 101 :: 116 :: 117 :: 114 :: 110 :: 115 :: 32 :: 40 :: 121 :: 58 :: 32 :: 105 :: 110 :: 116 :: 41 :: 59 :: 32 :: 118 :: 97 :: 114 :: 32 :: (r)) (by decide) (by kernel_rfl) rfl).trans ?_
 refine (cutS (a':=a + 15) (r:=114 :: 101 :: 116 :: 117 :: 114 :: 110 :: 115 :: 32 :: 40 :: 121 :: 58 :: 32 :: 105 :: 110 :: 116 :: 41 :: 59 :: 32 :: 118 :: 97 :: 114 :: 32 :: (r)) rfl rfl).trans ?_
 refine (cutN (x:=[114,101,116,117,114,110,115]) (a':=a + 22) (r:=32 :: 40 :: 121 :: 58 :: 32 :: 105 :: 110 :: 116 :: 41 :: 59 :: 32 :: 118 :: 97 :: 114 :: 32 :: (r)) wd_returns rfl rfl).trans ?_
 refine (cutS (a':=a + 23) (r:=40 :: 121 :: 58 :: 32 :: 105 :: 110 :: 116 :: 41 :: 59 :: 32 :: 118 :: 97 :: 114 :: 32 :: (r)) rfl rfl).trans ?_
 refine (cutG (c:=40) (t:=sLp) (a':=a + 24) (r:=121 :: 58 :: 32 :: 105 :: 110 :: 116 :: 41 :: 59 :: 32 :: 118 :: 97 :: 114 :: 32 :: (r)) (by decide) (by kernel_rfl) rfl).trans ?_
 refine (cutN (x:=[121]) (a':=a + 25) (r:=58 :: 32 :: 105 :: 110 :: 116 :: 41 :: 59 :: 32 :: 118 :: 97 :: 114 :: 32 :: (r)) wd_y rfl rfl).trans ?_
 refine (cutG (c:=58) (t:=sColon) (a':=a + 26) (r:=32 :: 105 :: 110 :: 116 :: 41 :: 59 :: 32 :: 118 :: 97 :: 114 :: 32 :: (r)) (by decide) (by kernel_rfl) rfl).trans ?_
 refine (cutS (a':=a + 27) (r:=105 :: 110 :: 116 :: 41 :: 59 :: 32 :: 118 :: 97 :: 114 :: 32 :: (r)) rfl rfl).trans ?_
 refine (cutN (x:=[105,110,116]) (a':=a + 30) (r:=41 :: 59 :: 32 :: 118 :: 97 :: 114 :: 32 :: (r)) wd_int rfl rfl).trans ?_
 refine (cutG (c:=41) (t:=sRp) (a':=a + 31) (r:=59 :: 32 :: 118 :: 97 :: 114 :: 32 :: (r)) (by decide) (by kernel_rfl) rfl).trans ?_
 refine (cutG (c:=59) (t:=sSemi) (a':=a + 32) (r:=32 :: 118 :: 97 :: 114 :: 32 :: (r)) (by decide) (by kernel_rfl) rfl).trans ?_
 refine (cutS (a':=a + 33) (r:=118 :: 97 :: 114 :: 32 :: (r)) rfl rfl).trans ?_
 refine (cutN (x:=[118,97,114]) (a':=a + 36) (r:=32 :: (r)) wd_var rfl rfl).trans ?_
 refine (cutS (a':=a + 37) (r:=(r)) rfl rfl).trans ?_
 simp only [List.append_assoc,List.cons_append,List.nil_append]
 rfl
theorem cut_colI {a:Nat} {r:By} {l:List Wd}:cutT a (colI ++ r) l = cutT (a + 7) (r) (l ++ [sgn sColon a,kwd sInt (a + 2),sgn sSemi (a + 5)]):=by
 show cutT a (58 :: 32 :: 105 :: 110 :: 116 :: 59 :: 32 :: (r)) l = _
 refine (cutG (c:=58) (t:=sColon) (a':=a + 1) (r:=32 :: 105 :: 110 :: 116 :: 59 :: 32 :: (r)) (by decide) (by kernel_rfl) rfl).trans ?_
 refine (cutS (a':=a + 2) (r:=105 :: 110 :: 116 :: 59 :: 32 :: (r)) rfl rfl).trans ?_
 refine (cutN (x:=[105,110,116]) (a':=a + 5) (r:=59 :: 32 :: (r)) wd_int rfl rfl).trans ?_
 refine (cutG (c:=59) (t:=sSemi) (a':=a + 6) (r:=32 :: (r)) (by decide) (by kernel_rfl) rfl).trans ?_
 refine (cutS (a':=a + 7) (r:=(r)) rfl rfl).trans ?_
 simp only [List.append_assoc,List.cons_append,List.nil_append]
 rfl
theorem cut_letY {a:Nat} {r:By} {l:List Wd}:cutT a (letY ++ r) l = cutT (a + 11) (r) (l ++ [kwd sLet a,nam sY (a + 4),sgn sEq (a + 6),nam sX (a + 8),sgn sSemi (a + 9)]):=by
 show cutT a (108 :: 101 :: 116 :: 32 :: 121 :: 32 :: 61 :: 32 :: 120 :: 59 :: 32 :: (r)) l = _
 refine (cutN (x:=[108,101,116]) (a':=a + 3) (r:=32 :: 121 :: 32 :: 61 :: 32 :: 120 :: 59 :: 32 :: (r)) wd_let rfl rfl).trans ?_
 refine (cutS (a':=a + 4) (r:=121 :: 32 :: 61 :: 32 :: 120 :: 59 :: 32 :: (r)) rfl rfl).trans ?_
 refine (cutN (x:=[121]) (a':=a + 5) (r:=32 :: 61 :: 32 :: 120 :: 59 :: 32 :: (r)) wd_y rfl rfl).trans ?_
 refine (cutS (a':=a + 6) (r:=61 :: 32 :: 120 :: 59 :: 32 :: (r)) rfl rfl).trans ?_
 refine (cutG (c:=61) (t:=sEq) (a':=a + 7) (r:=32 :: 120 :: 59 :: 32 :: (r)) (by decide) (by kernel_rfl) rfl).trans ?_
 refine (cutS (a':=a + 8) (r:=120 :: 59 :: 32 :: (r)) rfl rfl).trans ?_
 refine (cutN (x:=[120]) (a':=a + 9) (r:=59 :: 32 :: (r)) wd_x rfl rfl).trans ?_
 refine (cutG (c:=59) (t:=sSemi) (a':=a + 10) (r:=32 :: (r)) (by decide) (by kernel_rfl) rfl).trans ?_
 refine (cutS (a':=a + 11) (r:=(r)) rfl rfl).trans ?_
 simp only [List.append_assoc,List.cons_append,List.nil_append]
 rfl
theorem cut_onep {a:Nat} {r:By} {l:List Wd}:cutT a (oneP ++ r) l = cutT (a + 7) (r) (l ++ [sgn sEq (a + 1),num sOne 1 (a + 3),sgn sPlus (a + 5)]):=by
 show cutT a (32 :: 61 :: 32 :: 49 :: 32 :: 43 :: 32 :: (r)) l = _
 refine (cutS (a':=a + 1) (r:=61 :: 32 :: 49 :: 32 :: 43 :: 32 :: (r)) rfl rfl).trans ?_
 refine (cutG (c:=61) (t:=sEq) (a':=a + 2) (r:=32 :: 49 :: 32 :: 43 :: 32 :: (r)) (by decide) (by kernel_rfl) rfl).trans ?_
 refine (cutS (a':=a + 3) (r:=49 :: 32 :: 43 :: 32 :: (r)) rfl rfl).trans ?_
 refine (cutD (c:=49) (v:=1) (t:=sOne) (a':=a + 4) (r:=32 :: 43 :: 32 :: (r)) rfl rfl ⟨by kernel_rfl,by kernel_rfl⟩ (by kernel_rfl) rfl).trans ?_
 refine (cutS (a':=a + 5) (r:=43 :: 32 :: (r)) rfl rfl).trans ?_
 refine (cutG (c:=43) (t:=sPlus) (a':=a + 6) (r:=32 :: (r)) (by decide) (by kernel_rfl) rfl).trans ?_
 refine (cutS (a':=a + 7) (r:=(r)) rfl rfl).trans ?_
 simp only [List.append_assoc,List.cons_append,List.nil_append]
 rfl
theorem cut_nilf {a:Nat} {r:By} {l:List Wd}:cutT a (nilF ++ r) l = cutT (a + 9) (r) (l ++ [sgn sEq (a + 1),num sNil 0 (a + 3),kwd sFby (a + 5)]):=by
 show cutT a (32 :: 61 :: 32 :: 48 :: 32 :: 102 :: 98 :: 121 :: 32 :: (r)) l = _
 refine (cutS (a':=a + 1) (r:=61 :: 32 :: 48 :: 32 :: 102 :: 98 :: 121 :: 32 :: (r)) rfl rfl).trans ?_
 refine (cutG (c:=61) (t:=sEq) (a':=a + 2) (r:=32 :: 48 :: 32 :: 102 :: 98 :: 121 :: 32 :: (r)) (by decide) (by kernel_rfl) rfl).trans ?_
 refine (cutS (a':=a + 3) (r:=48 :: 32 :: 102 :: 98 :: 121 :: 32 :: (r)) rfl rfl).trans ?_
 refine (cutD (c:=48) (v:=0) (t:=sNil) (a':=a + 4) (r:=32 :: 102 :: 98 :: 121 :: 32 :: (r)) rfl rfl ⟨by kernel_rfl,by kernel_rfl⟩ (by kernel_rfl) rfl).trans ?_
 refine (cutS (a':=a + 5) (r:=102 :: 98 :: 121 :: 32 :: (r)) rfl rfl).trans ?_
 refine (cutN (x:=[102,98,121]) (a':=a + 8) (r:=32 :: (r)) wd_fby rfl rfl).trans ?_
 refine (cutS (a':=a + 9) (r:=(r)) rfl rfl).trans ?_
 simp only [List.append_assoc,List.cons_append,List.nil_append]
 rfl
theorem cut_semi {a:Nat} {r:By} {l:List Wd}:cutT a (semiB ++ r) l = cutT (a + 2) (r) (l ++ [sgn sSemi a]):=by
 show cutT a (59 :: 32 :: (r)) l = _
 refine (cutG (c:=59) (t:=sSemi) (a':=a + 1) (r:=32 :: (r)) (by decide) (by kernel_rfl) rfl).trans ?_
 refine (cutS (a':=a + 2) (r:=(r)) rfl rfl).trans ?_
 rfl
theorem cut_telB {a:Nat} {r:By} {l:List Wd}:cutT a (telR ++ []) l = cutT (a + 3) ([]) (l ++ [kwd sTel a]):=by
 show cutT a (116 :: 101 :: 108 :: ([])) l = _
 refine (cutN (x:=[116,101,108]) (a':=a + 3) (r:=([])) wd_tel rfl rfl).trans ?_
 rfl
section
variable (n cut:Nat) (fb:Bool)
def nxt (n i:Nat):Nat:=(i + 1) % n
def isCut (cut:Nat) (fb:Bool) (i:Nat):Bool:=fb && decide (i = cut)
def vB (i:Nat):By:=wB i ++ colI
def gB (i:Nat):By:=wB i ++ ((if isCut cut fb i then nilF else oneP) ++ (wB (nxt n i) ++ semiB))
def ringB:By:=preR ++ (repB vB 0 n ++ (letY ++ (repB (gB n cut fb) 0 n ++ telR)))
noncomputable def vW (c i:Nat):List Wd:=[nam (sS (wB i)) c,sgn sColon (c + 2),kwd sInt (c + 4),sgn sSemi (c + 7)]
noncomputable def gW (c i:Nat):List Wd:=if isCut cut fb i then [nam (sS (wB i)) c,sgn sEq (c + 3),num sNil 0 (c + 5),kwd sFby (c + 7),nam (sS (wB (nxt n i))) (c + 11),sgn sSemi (c + 13)]
 else [nam (sS (wB i)) c,sgn sEq (c + 3),num sOne 1 (c + 5),sgn sPlus (c + 7),nam (sS (wB (nxt n i))) (c + 9),sgn sSemi (c + 11)]
def gl (i:Nat):Nat:=if isCut cut fb i then 15 else 13
variable {n cut fb}
theorem span_colI {r:By}:spanL nameB (colI ++ r) = 0:=rfl
theorem span_oneP {r:By}:spanL nameB (oneP ++ r) = 0:=rfl
theorem span_nilF {r:By}:spanL nameB (nilF ++ r) = 0:=rfl
theorem span_semi {r:By}:spanL nameB (semiB ++ r) = 0:=rfl
theorem cut_v {i:Nat} (hi:i < 20) (a:Nat) (r:By) (l:List Wd):cutT a (vB i ++ r) l = cutT (a + 9) r (l ++ vW a i):=by
 unfold vB
 rw [List.append_assoc,cutT_name (w_is hi) span_colI,cut_colI]
 rw [show a + (wB i).length + 7 = a + 9 from rfl]
 unfold vW
 simp only [List.append_assoc,List.cons_append,List.nil_append]
 rfl
theorem nxt_lt {n i:Nat} (h:0 < n):nxt n i < n:=Nat.mod_lt _ h
theorem cut_g {i:Nat} (h0:0 < n) (hn:n ≤ 20) (hi:i < n) (a:Nat) (r:By) (l:List Wd):cutT a (gB n cut fb i ++ r) l = cutT (a + gl cut fb i) r (l ++ gW n cut fb a i):=by
 have h1:=nxt_lt (i:=i) h0
 unfold gB gW gl
 cases isCut cut fb i with
 | true =>
  simp only [List.append_assoc,if_true]
  rw [cutT_name (w_is (by omega)) span_nilF,cut_nilf,cutT_name (w_is (by omega)) span_semi,cut_semi]
  rw [show a + (wB i).length + 9 + (wB (nxt n i)).length + 2 = a + 15 from rfl]
  simp only [List.append_assoc,List.cons_append,List.nil_append]
  rfl
 | false =>
  simp only [List.append_assoc,if_neg Bool.false_ne_true]
  rw [cutT_name (w_is (by omega)) span_oneP,cut_onep,cutT_name (w_is (by omega)) span_semi,cut_semi]
  rw [show a + (wB i).length + 7 + (wB (nxt n i)).length + 2 = a + 13 from rfl]
  simp only [List.append_assoc,List.cons_append,List.nil_append]
  rfl
noncomputable def rowV:Nat → Nat → Nat → List Wd
 | _,_,0=>[]
 | c,i,m + 1=>vW c i ++ rowV (c + 9) (i + 1) m
noncomputable def rowG (n cut:Nat) (fb:Bool):Nat → Nat → Nat → List Wd
 | _,_,0=>[]
 | c,i,m + 1=>gW n cut fb c i ++ rowG n cut fb (c + gl cut fb i) (i + 1) m
theorem cut_rowV:∀ (m a i:Nat) (r:By) (l:List Wd),i + m ≤ 20 → ∃ c,cutT a (repB vB i m ++ r) l = cutT c r (l ++ rowV a i m)
 | 0,a,i,r,l,_=>⟨a,by rw [show rowV a i 0 = [] from rfl,List.append_nil]; rfl⟩
 | m + 1,a,i,r,l,h=>by
  obtain ⟨c,e⟩:=cut_rowV m (a + 9) (i + 1) r (l ++ vW a i) (by omega)
  refine ⟨c,?_⟩
  show cutT a ((vB i ++ repB vB (i + 1) m) ++ r) l = _
  rw [List.append_assoc,cut_v (by omega),e,List.append_assoc]; rfl
theorem cut_rowG (h0:0 < n) (hn:n ≤ 20):∀ (m a i:Nat) (r:By) (l:List Wd),i + m ≤ n → ∃ c,cutT a (repB (gB n cut fb) i m ++ r) l = cutT c r (l ++ rowG n cut fb a i m)
 | 0,a,i,r,l,_=>⟨a,by rw [show rowG n cut fb a i 0 = [] from rfl,List.append_nil]; rfl⟩
 | m + 1,a,i,r,l,h=>by
  obtain ⟨c,e⟩:=cut_rowG h0 hn m (a + gl cut fb i) (i + 1) r (l ++ gW n cut fb a i) (by omega)
  refine ⟨c,?_⟩
  show cutT a ((gB n cut fb i ++ repB (gB n cut fb) (i + 1) m) ++ r) l = _
  rw [List.append_assoc,cut_g h0 hn (by omega),e,List.append_assoc]; rfl
theorem v_len (i:Nat):(vB i).length ≤ 9:=Nat.le_refl 9
theorem g_len (i:Nat):(gB n cut fb i).length ≤ 15:=by
 unfold gB
 simp only [List.length_append]
 cases isCut cut fb i with
 | true=>exact Nat.le_refl 15
 | false=>exact Nat.le_of_ble_eq_true rfl
theorem rep_leR {f:Nat → By} {s:Nat} (hf:∀ i,(f i).length ≤ s):∀ m i,(repB f i m).length ≤ m * s
 | 0,i=>Nat.zero_le _
 | m + 1,i=>by
  show (f i ++ repB f (i + 1) m).length ≤ _
  have:=hf i
  have:=rep_leR hf m (i + 1)
  rw [List.length_append,Nat.add_mul]; omega
theorem ring_len (hn:n ≤ 20):(ringB n cut fb).length ≤ 1000:=by
 unfold ringB
 have h1:=rep_leR v_len n 0
 have h2:=rep_leR (f:=gB n cut fb) g_len n 0
 simp only [List.length_append]
 show 37 + (_ + (11 + (_ + 3))) ≤ 1000
 omega
theorem rowV_len:∀ m c i,m ≤ (rowV c i m).length
 | 0,_,_=>Nat.zero_le _
 | m + 1,c,i=>by
  have:=rowV_len m (c + 9) (i + 1)
  show m + 1 ≤ (vW c i ++ rowV _ (i + 1) m).length
  have:1 ≤ (vW c i).length:=Nat.succ_le_succ (Nat.zero_le _)
  rw [List.length_append]; omega
theorem rowG_len:∀ m c i,m ≤ (rowG n cut fb c i m).length
 | 0,_,_=>Nat.zero_le _
 | m + 1,c,i=>by
  have:=rowG_len m (c + gl cut fb i) (i + 1)
  show m + 1 ≤ (gW n cut fb c i ++ rowG n cut fb _ (i + 1) m).length
  have:1 ≤ (gW n cut fb c i).length:=by
   unfold gW
   split <;> exact Nat.succ_le_succ (Nat.zero_le _)
  rw [List.length_append]; omega
noncomputable def locsR:Nat → Nat → Nat → List Vr
 | _,_,0=>[]
 | c,i,m + 1=>⟨sS (wB i),2,(0,0),false,c⟩ :: locsR (c + 9) (i + 1) m
noncomputable def eqR (n cut:Nat) (fb:Bool) (c i:Nat):Eqn:=⟨sS (wB i),if isCut cut fb i then .mk sFby (0,0) 0 (c + 7) [.mk sInt (0,0) 0 (c + 5) [],.mk sVar (sS (wB (nxt n i))) 0 (c + 11) []] else .mk sPlus (0,0) 0 (c + 7) [.mk sInt (0,0) 1 (c + 5) [],.mk sVar (sS (wB (nxt n i))) 0 (c + 9) []],c⟩
noncomputable def eqsR (n cut:Nat) (fb:Bool):Nat → Nat → Nat → List Eqn
 | _,_,0=>[]
 | c,i,m + 1=>eqR n cut fb c i :: eqsR n cut fb (c + gl cut fb i) (i + 1) m
variable {L:List Wd}
theorem loc_readR:∀ (m k q k0 c i fu a1:Nat) (l:List Vr) (r:List Wd),L.drop k = rowV c i (m + 1) ++ (kwd sLet a1 :: r) → k0 + m < 64 → m + 1 ≤ fu →
  ∃ k' a2,localsL L fu l (pl k q k0) = (l ++ locsR c i (m + 1),pl k' q (k0 + m + 1)) ∧ L.getD k' W0 = sgn sSemi a2 ∧ L.drop (k' + 1) = kwd sLet a1 :: r
 | m,k,q,k0,c,i,0,a1,l,r,h,hn,hf=>absurd hf (by omega)
 | 0,k,q,k0,c,i,fu + 1,a1,l,r,h,hn,hf=>by
  have h:L.drop k = nam (sS (wB i)) c :: sgn sColon (c + 2) :: kwd sInt (c + 4) :: sgn sSemi (c + 7) :: kwd sLet a1 :: r:=h
  have e1:=decl_one (L:=L) (q:=q) (n:=k0) false (gw0 h) (gw h 1) (gw h 2) (len_pos h) (by omega)
  have h2:L.drop (k + 3 + 1) = kwd sLet a1 :: r:=dw (ws:=[_,_,_,_]) h
  have ec:clockF L (declF L (pl k q k0)) = ([⟨sS (wB i),2,(0,0),false,c⟩],pl (k + 3) q (k0 + 1)):=by
   rw [e1]
   unfold clockF
   dsimp only
   rw [is_sgn (gw h 3),if_neg (by decide)]; rfl
  refine ⟨_,_,?_,gw h 3,h2⟩
  unfold localsL
  rw [if_pos rfl]
  dsimp only
  rw [ec]
  dsimp only
  rw [if_neg]
  ·rfl
  ·rintro ⟨_,g⟩
   have:wd L (adv (pl (k + 3) q (k0 + 1))) = kwd sLet a1:=gw0 h2
   rw [this] at g
   cases g
 | m + 1,k,q,k0,c,i,fu + 1,a1,l,r,h,hn,hf=>by
  have h:L.drop k = nam (sS (wB i)) c :: sgn sColon (c + 2) :: kwd sInt (c + 4) :: sgn sSemi (c + 7) :: (rowV (c + 9) (i + 1) (m + 1) ++ (kwd sLet a1 :: r)):=h
  have e1:=decl_one (L:=L) (q:=q) (n:=k0) false (gw0 h) (gw h 1) (gw h 2) (len_pos h) (by omega)
  have h2:L.drop (k + 3 + 1) = rowV (c + 9) (i + 1) (m + 1) ++ (kwd sLet a1 :: r):=dw (ws:=[_,_,_,_]) h
  have g3:L.getD (k + 3 + 1) W0 = nam (sS (wB (i + 1))) (c + 9):=gw0 h2
  have ec:clockF L (declF L (pl k q k0)) = ([⟨sS (wB i),2,(0,0),false,c⟩],pl (k + 3) q (k0 + 1)):=by
   rw [e1]
   unfold clockF
   dsimp only
   rw [is_sgn (gw h 3),if_neg (by decide)]; rfl
  obtain ⟨k',a3,e3,g4,h4⟩:=loc_readR m (k + 3 + 1) q (k0 + 1) (c + 9) (i + 1) fu a1 (l ++ [⟨sS (wB i),2,(0,0),false,c⟩]) r h2 (by omega) (by omega)
  refine ⟨k',a3,?_,g4,h4⟩
  conv=>lhs; unfold localsL
  rw [if_pos rfl]
  dsimp only
  rw [ec]
  dsimp only
  rw [if_pos]
  ·show localsL L fu _ (pl (k + 3 + 1) q (k0 + 1)) = _
   rw [e3,List.append_assoc,show k0 + 1 + m + 1 = k0 + (m + 1) + 1 by omega]; rfl
  ·refine ⟨by rw [is_sgn (gw h 3)]; rfl,?_⟩
   have:wd L (adv (pl (k + 3) q (k0 + 1))) = _:=g3
   rw [this]; rfl
theorem eq_readR {k c i q k0:Nat} {r:List Wd} (h:L.drop k = gW n cut fb c i ++ r):∃ q',eqF L (pl k q k0) = (eqR n cut fb c i,pl (k + 6) q' k0) ∧ L.drop (k + 6) = r:=by
 unfold gW at h
 unfold eqR
 cases hb:isCut cut fb i with
 | true =>
  rw [hb] at h
  have h:L.drop k = nam (sS (wB i)) c :: sgn sEq (c + 3) :: num sNil 0 (c + 5) :: kwd sFby (c + 7) :: nam (sS (wB (nxt n i))) (c + 11) :: sgn sSemi (c + 13) :: r:=h
  have h6:L.drop (k + 6) = r:=dw (ws:=[_,_,_,_,_,_]) h
  have a1:whenF L (lvl L 29) (pl (k + 2) 0 k0) = (.mk sInt (0,0) 0 (c + 5) [],pl (k + 3) 1 k0):=when_stop ((un_prim (noun_num (gw h 2))).trans (prim_num (gw h 2) (by decide))) (by rw [is_kwd (gw h 3)]; rfl)
  have a2:fbyF L (lvl L 28) (pl (k + 4) 2 k0) = (.mk sVar (sS (wB (nxt n i))) 0 (c + 11) [],pl (k + 5) 3 k0):=fby_atom (prim_var (gw h 4) (by decide) (by rw [is_sgn (gw h 5)]; rfl)) (noun_nam (gw h 4)) (by rw [is_sgn (gw h 5)]; rfl) (by rw [is_sgn (gw h 5)]; rfl)
  have a3:fbyF L (lvl L 29) (pl (k + 2) 0 k0) = (.mk sFby (0,0) 0 (c + 7) [.mk sInt (0,0) 0 (c + 5) [],.mk sVar (sS (wB (nxt n i))) 0 (c + 11) []],pl (k + 5) 3 k0):=by
   unfold fbyF
   rw [a1]
   dsimp only
   rw [is_kwd (gw h 3),decide_eq_true rfl,if_pos rfl,eat_pl (by decide) (by rw [is_kwd (gw h 3)]; rfl)]
   have:goIn L (lvl L 29) (pl (k + 3 + 1) (1 + 1) k0) (fun F=>(Tr.mk sFby (0,0) 0 (wd L (pl (k + 3) 1 k0)).a [.mk sInt (0,0) 0 (c + 5) [],(F.fby (pl (k + 3 + 1) (1 + 1) k0)).1],(F.fby (pl (k + 3 + 1) (1 + 1) k0)).2)) = (Tr.mk sFby (0,0) 0 (wd L (pl (k + 3) 1 k0)).a [.mk sInt (0,0) 0 (c + 5) [],(fbyF L (lvl L 28) (pl (k + 4) 2 k0)).1],(fbyF L (lvl L 28) (pl (k + 4) 2 k0)).2):=rfl
   rw [this,a2,wd_pl (gw h 3)]; rfl
  have e2:exprF L (lvl L 30) (pl (k + 2) 0 k0) = (_,pl (k + 5) 3 k0):=arrow_fby a3 (calm_sgn (gw h 5) (by decide))
  refine ⟨3,?_,h6⟩
  have:=eq_at (L:=L) (q:=q) (gw0 h) (gw h 1) e2 (gw h 5)
  rw [this]; rfl
 | false =>
  rw [hb] at h
  have h:L.drop k = nam (sS (wB i)) c :: sgn sEq (c + 3) :: num sOne 1 (c + 5) :: sgn sPlus (c + 7) :: nam (sS (wB (nxt n i))) (c + 9) :: sgn sSemi (c + 11) :: r:=h
  have h6:L.drop (k + 6) = r:=dw (ws:=[_,_,_,_,_,_]) h
  obtain ⟨fu,hfu⟩:=len_pos h
  have a1:rowF L (lvl L 29) 1 (pl (k + 2) 0 k0) = (.mk sInt (0,0) 1 (c + 5) [],pl (k + 3) 1 k0):=row_stop (fby_atom (prim_num (gw h 2) (by decide)) (noun_num (gw h 2)) (by rw [is_sgn (gw h 3)]; rfl) (by rw [is_sgn (gw h 3)]; rfl)) (by
   show opF L [sTimes,sDiv,sMod] _ = none
   unfold opF; rw [is_sgn (gw h 3)]; unfold opF; rw [is_sgn (gw h 3)]; unfold opF; rw [is_sgn (gw h 3)]; rfl)
  have a2:rowF L (lvl L 29) 1 (pl (k + 4) 2 k0) = (.mk sVar (sS (wB (nxt n i))) 0 (c + 9) [],pl (k + 5) 3 k0):=row_calm (fby_atom (prim_var (gw h 4) (by decide) (by rw [is_sgn (gw h 5)]; rfl)) (noun_nam (gw h 4)) (by rw [is_sgn (gw h 5)]; rfl) (by rw [is_sgn (gw h 5)]; rfl)) (calm_sgn (gw h 5) (by decide)) 1
  have a3:rowF L (lvl L 29) 2 (pl (k + 2) 0 k0) = (.mk sPlus (0,0) 0 (c + 7) [.mk sInt (0,0) 1 (c + 5) [],.mk sVar (sS (wB (nxt n i))) 0 (c + 9) []],pl (k + 5) 3 k0):=by
   show rowL L (rowF L (lvl L 29) 1) [sPlus,sMinus] false L.length _ _ = _
   rw [a1,hfu]
   unfold rowL
   have:opF L [sPlus,sMinus] (pl (k + 3) 1 k0) = some sPlus:=by
    unfold opF
    rw [is_sgn (gw h 3)]; rfl
   rw [this]
   dsimp only
   rw [if_neg Bool.false_ne_true,eat_pl (by decide) (by rw [is_sgn (gw h 3)]; rfl),a2,wd_pl (gw h 3)]
   exact rowL_stop (opF_calm fun s hs=>calm_sgn (gw h 5) (by decide) s (opsAt_all (m:=3) hs)) _
  have e2:exprF L (lvl L 30) (pl (k + 2) 0 k0) = (_,pl (k + 5) 3 k0):=arrow_row (m:=2) (by decide) a3 (calm_sgn (gw h 5) (by decide))
  refine ⟨3,?_,h6⟩
  have:=eq_at (L:=L) (q:=q) (gw0 h) (gw h 1) e2 (gw h 5)
  rw [this]; rfl
theorem eqs_readR:∀ (m k q k0 c i fu:Nat) (l:List Eqn) (r:List Wd),L.drop k = rowG n cut fb c i m ++ r → ∃ k' q',eqsL L (fu + m) l (pl k q k0) = eqsL L fu (l ++ eqsR n cut fb c i m) (pl k' q' k0) ∧ L.drop k' = r
 | 0,k,q,k0,c,i,fu,l,r,h=>⟨k,q,by rw [show eqsR n cut fb c i 0 = [] from rfl,List.append_nil]; rfl,h⟩
 | m + 1,k,q,k0,c,i,fu,l,r,h=>by
  have h:L.drop k = (gW n cut fb c i ++ rowG n cut fb (c + gl cut fb i) (i + 1) m) ++ r:=h
  rw [List.append_assoc] at h
  obtain ⟨q',e1,h1⟩:=eq_readR (q:=q) (k0:=k0) h
  have g0:L.getD k W0 = nam (sS (wB i)) c:=by
   have:gW n cut fb c i = nam (sS (wB i)) c :: (gW n cut fb c i).tail:=by unfold gW; split <;> rfl
   rw [this] at h
   exact gw0 h
  obtain ⟨k2,q2,e2,h2⟩:=eqs_readR m (k + 6) q' k0 _ (i + 1) fu (l ++ [eqR n cut fb c i]) r h1
  refine ⟨k2,q2,?_,h2⟩
  rw [← Nat.add_assoc,eqs_s g0 e1,e2,List.append_assoc]; rfl
noncomputable def ringN (n cut:Nat) (fb:Bool) (c1 c2 ax ay:Nat):Nd:=⟨sF,[⟨sX,2,(0,0),false,7⟩],[⟨sY,2,(0,0),false,24⟩],locsR c1 0 n,⟨sY,.mk sVar sX 0 ax [],ay⟩ :: eqsR n cut fb c2 0 n,0⟩
theorem ring_tree (h0:0 < n) (hn:n ≤ 20):∃ c1 c2 ax ay,parseF (ringB n cut fb) = ([ringN n cut fb c1 c2 ax ay],0,0):=by
 have hl:=ring_len (n:=n) (cut:=cut) (fb:=fb) hn
 unfold parseF
 rw [cutF_T (by omega)]
 obtain ⟨c1,e1⟩:=cut_rowV n 37 0 (letY ++ (repB (gB n cut fb) 0 n ++ telR)) [kwd sNode 0,nam sF 5,sgn sLp 6,nam sX 7,sgn sColon 8,kwd sInt 10,sgn sRp 13,kwd sReturns 15,sgn sLp 23,nam sY 24,sgn sColon 25,kwd sInt 27,sgn sRp 30,sgn sSemi 31,kwd sVar 33] (by omega)
 obtain ⟨c2,e2⟩:=cut_rowG (n:=n) (cut:=cut) (fb:=fb) h0 hn n (c1 + 11) 0 telR ([kwd sNode 0,nam sF 5,sgn sLp 6,nam sX 7,sgn sColon 8,kwd sInt 10,sgn sRp 13,kwd sReturns 15,sgn sLp 23,nam sY 24,sgn sColon 25,kwd sInt 27,sgn sRp 30,sgn sSemi 31,kwd sVar 33] ++ rowV 37 0 n ++ [kwd sLet c1,nam sY (c1 + 4),sgn sEq (c1 + 6),nam sX (c1 + 8),sgn sSemi (c1 + 9)]) (by omega)
 have e:cutT 0 (ringB n cut fb) [] = ([kwd sNode 0,nam sF 5,sgn sLp 6,nam sX 7,sgn sColon 8,kwd sInt 10,sgn sRp 13,kwd sReturns 15,sgn sLp 23,nam sY 24,sgn sColon 25,kwd sInt 27,sgn sRp 30,sgn sSemi 31,kwd sVar 33] ++ (rowV 37 0 n ++ (kwd sLet c1 :: nam sY (c1 + 4) :: sgn sEq (c1 + 6) :: nam sX (c1 + 8) :: sgn sSemi (c1 + 9) :: (rowG n cut fb (c1 + 11) 0 n ++ [kwd sTel c2,endW (c2 + 3)]))),0,0):=by
  unfold ringB
  rw [cut_preR,List.nil_append,show 0 + 37 = 37 from rfl]
  refine e1.trans ?_
  rw [cut_letY,e2,← List.append_nil telR,cut_telB (r:=[]),cutT_end]
  simp only [List.append_assoc,List.cons_append,List.nil_append]
 rw [e,if_pos rfl]
 have lV:=rowV_len n 37 0
 have lG:=rowG_len (n:=n) (cut:=cut) (fb:=fb) n (c1 + 11) 0
 generalize hL:[kwd sNode 0,nam sF 5,sgn sLp 6,nam sX 7,sgn sColon 8,kwd sInt 10,sgn sRp 13,kwd sReturns 15,sgn sLp 23,nam sY 24,sgn sColon 25,kwd sInt 27,sgn sRp 30,sgn sSemi 31,kwd sVar 33] ++ (rowV 37 0 n ++ (kwd sLet c1 :: nam sY (c1 + 4) :: sgn sEq (c1 + 6) :: nam sX (c1 + 8) :: sgn sSemi (c1 + 9) :: (rowG n cut fb (c1 + 11) 0 n ++ [kwd sTel c2,endW (c2 + 3)]))) = L
 have hlen:2 * n + 4 ≤ L.length:=by
  rw [← hL]
  simp only [List.length_append,List.length_cons]
  omega
 have h:L.drop 0 = kwd sNode 0 :: nam sF 5 :: sgn sLp 6 :: nam sX 7 :: sgn sColon 8 :: kwd sInt 10 :: sgn sRp 13 :: kwd sReturns 15 :: sgn sLp 23 :: nam sY 24 :: sgn sColon 25 :: kwd sInt 27 :: sgn sRp 30 :: sgn sSemi 31 :: kwd sVar 33 ::  (rowV 37 0 n ++ (kwd sLet c1 :: nam sY (c1 + 4) :: sgn sEq (c1 + 6) :: nam sX (c1 + 8) :: sgn sSemi (c1 + 9) :: (rowG n cut fb (c1 + 11) 0 n ++ [kwd sTel c2,endW (c2 + 3)]))):=by rw [← hL]; rfl
 have g:∀ i,L.getD (0 + i) W0 = _:=gw h
 have h15:L.drop 15 = rowV 37 0 n ++ (kwd sLet c1 :: nam sY (c1 + 4) :: sgn sEq (c1 + 6) :: nam sX (c1 + 8) :: sgn sSemi (c1 + 9) :: (rowG n cut fb (c1 + 11) 0 n ++ [kwd sTel c2,endW (c2 + 3)])):=dw (ws:=[_,_,_,_,_,_,_,_,_,_,_,_,_,_,_]) h
 obtain ⟨m,rfl⟩:∃ m,n = m + 1:=⟨n - 1,by omega⟩
 have hp:=len_pos h
 have d1:declsF L (pl 3 0 0) = ([⟨sX,2,(0,0),false,7⟩],pl 6 0 1):=by
  refine decls_of (g 3) ?_
  rw [decl_one (L:=L) false (g 3) (g 4) (g 5) hp (by decide),decls_end (g 6)]; rfl
 have d2:declsF L (pl 9 0 1) = ([⟨sY,2,(0,0),false,24⟩],pl 12 0 2):=by
  refine decls_of (g 9) ?_
  rw [decl_one (L:=L) false (g 9) (g 10) (g 11) hp (by decide),decls_end (g 12)]; rfl
 obtain ⟨k3,a3,e3,g3,h3⟩:=loc_readR (L:=L) m 15 0 2 37 0 L.length c1 [] _ h15 (by omega) (by omega)
 have d3:varsF L (pl 14 0 2) = (locsR 37 0 (m + 1),pl (k3 + 1) 0 (2 + m + 1)):=by
  unfold varsF
  rw [is_kwd (g 14),decide_eq_true rfl,if_pos rfl,show adv (pl 14 0 2) = pl 15 0 2 from rfl]
  have:localsF L (pl 15 0 2) = localsL L L.length [] (pl 15 0 2):=by
   unfold localsF
   rw [if_neg]
   have g15:L.getD 15 W0 = nam (sS (wB 0)) 37:=gw0 h15
   rw [is_nam g15]; decide
  rw [this,e3]
  dsimp only
  rw [want_sgn g3]; rfl
 have e5:exprF L (lvl L 30) (pl (k3 + 4) 0 (2 + m + 1)) = (.mk sVar sX 0 (c1 + 8) [],pl (k3 + 5) 1 (2 + m + 1)) :=
  arrow_atom (prim_var (gw h3 3) (by decide) (by rw [is_sgn (gw h3 4)]; rfl)) (noun_nam (gw h3 3)) (calm_sgn (gw h3 4) (by decide))
 have e6:=eq_at (L:=L) (k:=k3 + 2) (q:=0) (gw h3 1) (gw h3 2) e5 (gw h3 4)
 have h4:L.drop (k3 + 6) = rowG (m + 1) cut fb (c1 + 11) 0 (m + 1) ++ [kwd sTel c2,endW (c2 + 3)]:=dw (ws:=[_,_,_,_,_]) h3
 obtain ⟨f4,hf4⟩:∃ f4,L.length = f4 + (m + 1) + 1:=⟨L.length - 1 - (m + 1),by omega⟩
 obtain ⟨k4,q4,e4,h4'⟩:=eqs_readR (L:=L) (n:=m + 1) (cut:=cut) (fb:=fb) (m + 1) (k3 + 6) 1 (2 + m + 1) (c1 + 11) 0 f4 [⟨sY,.mk sVar sX 0 (c1 + 8) [],c1 + 4⟩] _ h4
 have e7:eqsL L L.length [] (pl (k3 + 1 + 1) 0 (2 + m + 1)) = (⟨sY,.mk sVar sX 0 (c1 + 8) [],c1 + 4⟩ :: eqsR (m + 1) cut fb (c1 + 11) 0 (m + 1),pl k4 q4 (2 + m + 1)):=by
  rw [hf4,eqs_s (gw h3 1) e6]
  refine e4.trans ?_
  rw [eqs_end (gw0 h4')]; rfl
 have nd:=node_at (L:=L) (k:=0) (q:=0) (n:=0) (k1:=6) (k2:=12) (k3:=k3 + 1) (k4:=k4) (k5:=k4 + 1) (n1:=1) (n2:=2) (n3:=2 + m + 1) (g 0) (g 1) (g 2) d1 (g 6) (g 7) (g 8) d2 (g 12) (g 13) d3 (gw0 h3) e7 (gw0 h4') (by
  unfold takeP
  rw [is_end (gw h4' 1)]; rfl)
 refine ⟨37,c1 + 11,c1 + 8,c1 + 4,?_⟩
 unfold treeF
 rw [show (⟨0,0,0,0,0⟩:PS) = pl 0 0 0 from rfl,nodes_s (by decide) (.inl rfl) nd,nodes_end (by exact Nat.succ_ne_zero 0) (by rw [gw h4' 1]; rfl)]
 dsimp only
 rw [if_pos rfl]; rfl
end
end Go.Plain
namespace Go.Plain
open Go.Eng
set_option autoImplicit false
set_option maxRecDepth 100000
section
variable {n cut c1 c2 ax ay:Nat} {fb:Bool}
noncomputable def wS (i:Nat):S:=sS (wB i)
theorem nxt_if {n i:Nat} (hi:i < n):nxt n i = if i + 1 = n then 0 else i + 1:=by
 unfold nxt
 split
 ·rename_i h; rw [h,Nat.mod_self]
 ·exact Nat.mod_eq_of_lt (by omega)
theorem locsR_nm:∀ (m c i:Nat),(locsR c i m).map Vr.nm = (List.range m).map fun k=>wS (i + k)
 | 0,_,_=>rfl
 | m + 1,c,i=>by
  show wS i :: (locsR (c + 9) (i + 1) m).map Vr.nm = _
  rw [locsR_nm m,List.range_succ_eq_map,List.map_cons,List.map_map]
  congr 1
  refine List.map_congr_left fun k _=>?_
  show wS (i + 1 + k) = wS (i + (k + 1))
  rw [Nat.add_right_comm,Nat.add_assoc]
theorem ring_own:ownN (ringN n cut fb c1 c2 ax ay) = sY :: (List.range n).map wS:=by
 show sY :: (locsR c1 0 n).map Vr.nm = _
 rw [locsR_nm]
 simp only [Nat.zero_add]
theorem locsR_on:∀ (m c i:Nat),∀ v ∈ locsR c i m,v.on = (0,0)
 | 0,_,_=>fun _ h=>by cases h
 | m + 1,c,i=>fun v hv=>by
  rcases List.mem_cons.1 hv with rfl | hv
  ·rfl
  ·exact locsR_on m _ _ v hv
theorem ring_on {s:S}:onN (ringN n cut fb c1 c2 ax ay) s = []:=by
 unfold onN
 cases (ringN n cut fb c1 c2 ax ay).locs.length with
 | zero=>rfl
 | succ k =>
  unfold ofL
  cases e:findV (ringN n cut fb c1 c2 ax ay) s with
  | none=>rfl
  | some v =>
   have hv:=List.mem_of_find?_eq_some e
   have:v.on = (0,0):=by
    have hv:v ∈ (⟨sX,2,(0,0),false,7⟩:Vr) :: ⟨sY,2,(0,0),false,24⟩ :: locsR c1 0 n:=hv
    rcases List.mem_cons.1 hv with rfl | hv
    ·rfl
    rcases List.mem_cons.1 hv with rfl | hv
    ·rfl
    exact locsR_on _ _ _ v hv
   dsimp only
   rw [if_pos this]; rfl
theorem eqsR_find (hn:n ≤ 20):∀ (m c i k:Nat),i ≤ k → k < i + m → i + m ≤ n → ∃ c',(eqsR n cut fb c i m).find? (fun q=>decide (q.nm = wS k)) = some (eqR n cut fb c' k)
 | 0,c,i,k,h1,h2,h3=>absurd h2 (by omega)
 | m + 1,c,i,k,h1,h2,h3=>by
  by_cases e:i = k
  ·subst e
   exact ⟨c,List.find?_cons_of_pos (decide_eq_true rfl)⟩
  ·obtain ⟨c',h⟩:=eqsR_find hn m (c + gl cut fb i) (i + 1) k (by omega) (by omega) (by omega)
   refine ⟨c',?_⟩
   show (List.find? _ (_ :: _)) = _
   rw [List.find?_cons_of_neg,h]
   intro g
   have g:=of_decide_eq_true g
   exact e (w_inj i (by omega) k (by omega) g)
theorem ring_leans_y (hn:n ≤ 20):leansF (ringN n cut fb c1 c2 ax ay) sY = []:=by
 unfold leansF
 rw [ring_on,ring_own]
 have e:eqE (ringN n cut fb c1 c2 ax ay) sY = .mk sVar sX 0 ax []:=rfl
 rw [e]
 have m:mnE (.mk sVar sX 0 ax []) = [sX]:=rfl
 rw [m]
 split
 ·rw [List.filter_eq_nil_iff]
  intro x hx g
  have g:x = sX:=by simpa using g
  subst g
  rcases List.mem_cons.1 hx with hx | hx
  ·exact absurd hx (by decide)
  ·obtain ⟨k,hk,e⟩:=List.mem_map.1 hx
   have hk:=List.mem_range.1 hk
   have:∀ k,k < 20 → sS (wB k) ≠ sX:=by decide +kernel
   exact this k (by omega) e
 ·rfl
theorem w_own {k:Nat} (hk:k < n):wS k ∈ ownN (ringN n cut fb c1 c2 ax ay):=by
 rw [ring_own]
 exact List.mem_cons_of_mem _ (List.mem_map.2 ⟨k,List.mem_range.2 hk,rfl⟩)
theorem ring_eq (hn:n ≤ 20) {k:Nat} (hk:k < n):∃ c',eqE (ringN n cut fb c1 c2 ax ay) (wS k) = (eqR n cut fb c' k).e:=by
 obtain ⟨c',e⟩:=eqsR_find (cut:=cut) (fb:=fb) hn n c2 0 k (by omega) (by omega) (by omega)
 refine ⟨c',?_⟩
 unfold eqE
 have:(ringN n cut fb c1 c2 ax ay).eqs.find? (fun q=>decide (q.nm = wS k)) = some (eqR n cut fb c' k):=by
  show List.find? _ (_ :: _) = _
  rw [List.find?_cons_of_neg (by exact fun g=>w_y k (by omega) (of_decide_eq_true g).symm)]
  exact e
 rw [this]
theorem filter_one {l:List S} {x:S} (h:l.Nodup) (hx:x ∈ l):l.filter (fun y=>decide (y = x)) = [x]:=by
 induction l with
 | nil=>cases hx
 | cons a l ih =>
  obtain ⟨h1,h2⟩:=List.nodup_cons.1 h
  rcases List.mem_cons.1 hx with rfl | hx
  ·rw [List.filter_cons_of_pos (by exact decide_eq_true rfl)]
   congr 1
   rw [List.filter_eq_nil_iff]
   intro y hy g
   exact h1 (of_decide_eq_true g ▸ hy)
  ·rw [List.filter_cons_of_neg (by exact fun g=>h1 (of_decide_eq_true g ▸ hx))]
   exact ih h2 hx
theorem ring_nodup (hn:n ≤ 20):(ownN (ringN n cut fb c1 c2 ax ay)).Nodup:=by
 rw [ring_own]
 refine List.nodup_cons.2 ⟨fun h=>?_,?_⟩
 ·obtain ⟨k,hk,e⟩:=List.mem_map.1 h
  exact w_y k (by have:=List.mem_range.1 hk; omega) e
 ·rw [List.Nodup,List.pairwise_map]
  refine List.Pairwise.imp_of_mem ?_ (List.pairwise_lt_range (n:=n))
  intro a b ha hb hab e
  have ha:=List.mem_range.1 ha
  have hb:=List.mem_range.1 hb
  have:=w_inj a (by omega) b (by omega) e
  omega
theorem ring_leans (hn:n ≤ 20) {k:Nat} (hk:k < n):leansF (ringN n cut fb c1 c2 ax ay) (wS k) = if isCut cut fb k then [] else [wS (nxt n k)]:=by
 obtain ⟨c',e⟩:=ring_eq (cut:=cut) (fb:=fb) (c1:=c1) (c2:=c2) (ax:=ax) (ay:=ay) hn hk
 unfold leansF
 rw [ring_on,e,List.contains_iff_mem.2 (w_own hk),if_pos rfl]
 unfold eqR
 dsimp only
 cases isCut cut fb k with
 | true =>
  have m:∀ a b,mnE (if (true:Bool) = true then .mk sFby (0,0) 0 a [.mk sInt (0,0) 0 b [],.mk sVar (sS (wB (nxt n k))) 0 (c' + 11) []] else .mk sPlus (0,0) 0 (c' + 7) [.mk sInt (0,0) 1 (c' + 5) [],.mk sVar (sS (wB (nxt n k))) 0 (c' + 9) []]) = []:=fun _ _=>rfl
  rw [m,if_pos rfl,List.filter_eq_nil_iff]
  intro x _ g
  simp at g
 | false =>
  have m:∀ a b,mnE (if (false:Bool) = true then .mk sFby (0,0) 0 a [.mk sInt (0,0) 0 b [],.mk sVar (sS (wB (nxt n k))) 0 (c' + 11) []] else .mk sPlus (0,0) 0 (c' + 7) [.mk sInt (0,0) 1 (c' + 5) [],.mk sVar (sS (wB (nxt n k))) 0 (c' + 9) []]) = [wS (nxt n k)]:=fun _ _=>rfl
  rw [m,if_neg Bool.false_ne_true]
  refine Eq.trans (List.filter_congr fun x _=>?_) (filter_one (x:=wS (nxt n k)) (ring_nodup hn) (w_own (nxt_lt (by omega))))
  by_cases g:x = wS (nxt n k)
  ·subst g; simp
  ·simp [g]
theorem ring_rch (h0:0 < n) (hn:n ≤ 20):∀ m,0 < m → Rch (leansF (ringN n cut false c1 c2 ax ay)) (wS 0) (wS (m % n))
 | 0,h=>absurd h (by decide)
 | 1,_=>.one (by
  rw [ring_leans hn h0,show isCut cut false 0 = false from rfl,if_neg Bool.false_ne_true]
  exact List.mem_singleton.2 rfl)
 | m + 2,_=>.step (ring_rch h0 hn (m + 1) (Nat.succ_pos _)) (by
  rw [ring_leans hn (Nat.mod_lt _ h0),show isCut cut false ((m + 1) % n) = false from rfl,if_neg Bool.false_ne_true]
  refine List.mem_singleton.2 ?_
  unfold nxt
  rw [Nat.mod_add_mod])
theorem ring_none (h0:0 < n) (hn:n ≤ 20):orderF (ringN n cut false c1 c2 ax ay) = none ∧ ∃ a,causF [ringN n cut false c1 c2 ax ay] = some a:=by
 have hr:Rch (leansF (ringN n cut false c1 c2 ax ay)) (wS 0) (wS 0):=by
  have:=ring_rch (cut:=cut) (c1:=c1) (c2:=c2) (ax:=ax) (ay:=ay) h0 hn n h0
  rw [Nat.mod_self] at this
  exact this
 refine ⟨?_,?_⟩
 ·cases e:orderF (ringN n cut false c1 c2 ax ay) with
  | none=>rfl
  | some o =>
   have e:ordG (ownN (ringN n cut false c1 c2 ax ay)) (leansF (ringN n cut false c1 c2 ax ay)) (ownN (ringN n cut false c1 c2 ax ay)).length [] = some o:=(orderL_G _ _).symm.trans e
   obtain ⟨o1,o2,o3,o4⟩:=ord_good _ _ e (fun i hi=>(by cases hi)) List.nodup_nil (fun _ h=>by cases h)
   have:wS 0 ∈ o:=all_in o3 o4 (by rw [o2]; simp) _ (w_own h0)
   exact absurd hr (ord_acy o1 this)
 ·cases e:causF [ringN n cut false c1 c2 ax ay] with
  | some a=>exact ⟨a,rfl⟩
  | none =>
   have:=causQ_none.1 (causF_none.1 e _ (List.mem_cons_self ..))
   obtain ⟨c',h⟩:=eqsR_find (cut:=cut) (fb:=false) hn n c2 0 0 (by omega) (by omega) (by omega)
   have hm:eqR n cut false c' 0 ∈ (ringN n cut false c1 c2 ax ay).eqs:=List.mem_cons_of_mem _ (List.mem_of_find?_eq_some h)
   have h1:=this _ hm
   obtain ⟨b,e1,e2⟩:=round_is (n:=ringN n cut false c1 c2 ax ay) (s:=wS 0)
   rw [e2.2 hr] at e1
   exact absurd e1 h1
def ixR (n cut i:Nat):Nat:=if i ≤ cut then cut - i else cut + n - i
theorem ixR_mod {n cut i:Nat} (hc:cut < n) (hi:i < n):ixR n cut i = (cut + n - i) % n:=by
 unfold ixR
 split
 ·rw [show cut + n - i = cut - i + n by omega,Nat.add_mod_right,Nat.mod_eq_of_lt (by omega)]
 ·rw [Nat.mod_eq_of_lt (by omega)]
noncomputable def ordR (n cut i:Nat):List S:=sY :: (List.range i).map fun k=>wS (ixR n cut k)
theorem find_only {l:List S} {P:S → Bool} {x:S} (hx:x ∈ l) (h:P x = true) (g:∀ y ∈ l,P y = true → y = x):l.find? P = some x:=by
 cases e:l.find? P with
 | none =>
  have:=List.find?_eq_none.1 e x hx
  exact absurd h this
 | some y=>rw [g y (List.mem_of_find?_eq_some e) (List.find?_some e)]
theorem ordR_mem {i p:Nat} (hn:n ≤ 20) (hc:cut < n) (hi:i ≤ n) (hp:p < n):wS p ∈ ordR n cut i ↔ ∃ k,k < i ∧ ixR n cut k = p:=by
 unfold ordR
 constructor
 ·intro h
  rcases List.mem_cons.1 h with h | h
  ·exact absurd h (w_y p (by omega))
  ·obtain ⟨k,hk,e⟩:=List.mem_map.1 h
   have hk:=List.mem_range.1 hk
   refine ⟨k,hk,?_⟩
   have:ixR n cut k < n:=by unfold ixR; split <;> omega
   exact w_inj _ (by omega) _ (by omega) e
 ·rintro ⟨k,hk,rfl⟩
  exact List.mem_cons_of_mem _ (List.mem_map.2 ⟨k,List.mem_range.2 hk,rfl⟩)
theorem ring_step {i:Nat} (hn:n ≤ 20) (hc:cut < n) (hi:i < n):(ownN (ringN n cut true c1 c2 ax ay)).find? (readyF (ringN n cut true c1 c2 ax ay) (ordR n cut i)) = some (wS (ixR n cut i)):=by
 have hx:ixR n cut i < n:=by unfold ixR; split <;> omega
 have rd:∀ {p:Nat},p < n → (readyF (ringN n cut true c1 c2 ax ay) (ordR n cut i) (wS p) = true ↔ p = ixR n cut i):=fun {p} hp=>by
  have e:readyF (ringN n cut true c1 c2 ax ay) (ordR n cut i) (wS p) = rdyG (leansF (ringN n cut true c1 c2 ax ay)) (ordR n cut i) (wS p):=rfl
  rw [e,rdy_iff,ordR_mem hn hc (by omega) hp,ring_leans hn hp]
  by_cases q:p = cut
  ·have:isCut cut true p = true:=decide_eq_true q
   rw [this,if_pos rfl]
   constructor
   ·rintro ⟨h1,-⟩
    by_cases z:i = 0
    ·subst z; unfold ixR; rw [if_pos (Nat.zero_le _)]; omega
    ·exact absurd ⟨0,by omega,by unfold ixR; rw [if_pos (Nat.zero_le _)]; omega⟩ h1
   ·intro h
    refine ⟨?_,fun _ h=>by cases h⟩
    rintro ⟨k,hk,e⟩
    unfold ixR at h e
    split at h <;> split at e <;> omega
  ·have:isCut cut true p = false:=decide_eq_false q
   rw [this,if_neg Bool.false_ne_true]
   have hnx:nxt n p < n:=nxt_lt (by omega)
   have hl:(∀ x ∈ [wS (nxt n p)],x ∈ ordR n cut i) ↔ ∃ k,k < i ∧ ixR n cut k = nxt n p:=by
    rw [← ordR_mem hn hc (by omega) hnx]
    exact ⟨fun h=>h _ (List.mem_singleton.2 rfl),fun h x hx=>by rw [List.mem_singleton.1 hx]; exact h⟩
   rw [hl,nxt_if hp]
   constructor
   ·rintro ⟨h1,k,hk,ek⟩
    by_cases z:k + 1 = i
    ·subst z
     unfold ixR at ek ⊢
     split at ek <;> split at ek <;> split <;> omega
    ·refine absurd ⟨k + 1,by omega,?_⟩ h1
     unfold ixR at ek ⊢
     split at ek <;> split at ek <;> split <;> omega
   ·intro h
    refine ⟨?_,i - 1,?_,?_⟩
    ·rintro ⟨k,hk,e⟩
     unfold ixR at h e
     split at h <;> split at e <;> omega
    ·unfold ixR at h
     split at h <;> omega
    ·unfold ixR at h ⊢
     split at h <;> split <;> split <;> omega
 refine find_only (w_own hx) ((rd hx).2 rfl) fun y hy g=>?_
 rw [ring_own] at hy
 rcases List.mem_cons.1 hy with rfl | hy
 ·have e:readyF (ringN n cut true c1 c2 ax ay) (ordR n cut i) sY = rdyG (leansF (ringN n cut true c1 c2 ax ay)) (ordR n cut i) sY:=rfl
  rw [e,rdy_iff] at g
  exact absurd (List.mem_cons_self ..) g.1
 ·obtain ⟨p,hp,rfl⟩:=List.mem_map.1 hy
  rw [(rd (List.mem_range.1 hp)).1 g]
theorem ordR_succ (i:Nat):ordR n cut (i + 1) = ordR n cut i ++ [wS (ixR n cut i)]:=by
 unfold ordR
 rw [List.range_succ,List.map_append]; rfl
theorem ring_orders (hn:n ≤ 20) (hc:cut < n):∀ (k i:Nat),i + k = n → orderL (ringN n cut true c1 c2 ax ay) k (ordR n cut i) = some (ordR n cut n)
 | 0,i,h=>by
  obtain rfl:i = n:=by omega
  rfl
 | k + 1,i,h=>by
  unfold orderL
  rw [ring_step hn hc (by omega)]
  dsimp only
  rw [← ordR_succ]
  exact ring_orders hn hc k (i + 1) (by omega)
theorem ring_order (hn:n ≤ 20) (hc:cut < n):orderF (ringN n cut true c1 c2 ax ay) = some (ordR n cut n):=by
 unfold orderF
 have hl:(ownN (ringN n cut true c1 c2 ax ay)).length = n + 1:=by rw [ring_own]; simp
 rw [hl]
 unfold orderL
 have:(ownN (ringN n cut true c1 c2 ax ay)).find? (readyF (ringN n cut true c1 c2 ax ay) []) = some sY:=by
  rw [ring_own,List.find?_cons_of_pos]
  have e:readyF (ringN n cut true c1 c2 ax ay) [] sY = rdyG (leansF (ringN n cut true c1 c2 ax ay)) [] sY:=rfl
  rw [e,rdy_iff,ring_leans_y hn]
  exact ⟨List.not_mem_nil,fun _ h=>by cases h⟩
 rw [this]
 exact ring_orders hn hc n 0 (by omega)
theorem eqsR_nm:∀ (m c i:Nat),∀ q ∈ eqsR n cut fb c i m,∃ k,i ≤ k ∧ k < i + m ∧ q.nm = wS k
 | 0,_,_=>fun _ h=>by cases h
 | m + 1,c,i=>fun q hq=>by
  rcases List.mem_cons.1 hq with rfl | hq
  ·exact ⟨i,Nat.le_refl _,by omega,rfl⟩
  ·obtain ⟨k,h1,h2,h3⟩:=eqsR_nm m _ _ q hq
   exact ⟨k,by omega,by omega,h3⟩
theorem ring_calm (hn:n ≤ 20) (hc:cut < n):causF [ringN n cut true c1 c2 ax ay] = none:=by
 rw [causF_none]
 intro d hd
 rw [List.mem_singleton.1 hd,causQ_none]
 intro q hq g
 have ho:=ring_order (c1:=c1) (c2:=c2) (ax:=ax) (ay:=ay) hn hc
 obtain ⟨b,e1,e2⟩:=round_is (n:=ringN n cut true c1 c2 ax ay) (s:=q.nm)
 rw [g] at e1
 have hr:=e2.1 (Option.some.inj e1).symm
 have e:ordG (ownN (ringN n cut true c1 c2 ax ay)) (leansF (ringN n cut true c1 c2 ax ay)) (ownN (ringN n cut true c1 c2 ax ay)).length [] = some (ordR n cut n):=(orderL_G _ _).symm.trans ho
 obtain ⟨o1,o2,o3,o4⟩:=ord_good _ _ e (fun i hi=>(by cases hi)) List.nodup_nil (fun _ h=>by cases h)
 have hq:q ∈ (⟨sY,.mk sVar sX 0 ax [],ay⟩:Eqn) :: eqsR n cut true c2 0 n:=hq
 have own:q.nm ∈ ownN (ringN n cut true c1 c2 ax ay):=by
  rcases List.mem_cons.1 hq with rfl | hq
  ·rw [ring_own]; exact List.mem_cons_self ..
  ·obtain ⟨k,h1,h2,h3⟩:=eqsR_nm _ _ _ q hq
   rw [h3]
   exact w_own (by omega)
 exact ord_acy o1 (all_in o3 o4 (by rw [o2]; simp) _ own) hr
end
end Go.Plain
