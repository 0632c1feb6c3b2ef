/- What is proved: several slices that grow side by side; bytes as texts. Conditions: none. -/
import Derived.Test.YtkggpdaglhnonaaWM
set_option linter.unusedVariables false
set_option linter.unusedSimpArgs false
set_option linter.unusedSectionVars false
namespace Go.Eng
set_option autoImplicit false
theorem app_sep {s w base n m:Nat} {η:HN} {x y:AV} {l k:List AV} (hs:0 < s) (hx:OwnA s base η x n l) (hy:RdA s η y m k) (hm:0 < m) (hlen:(n + m) * w ≤ 140737488355328) (hb:base ≤ η.nx) :
  ∃ η',apSrcN s w x y η = .ok (.slice η.nx 0 (n + m) (.un s)) η' ∧ OwnA s base η' (.slice η.nx 0 (n + m) (.un s)) (n + m) (l ++ k) ∧ η'.nx = η.nx + 1 ∧ ∀ b,b < η.nx → ¬ blkIs x b → η'.f b = η.f b:=by
 obtain ⟨b,off,cap,ro,row,rfl,h1,h2,h3,h4,h5⟩:∃ b off cap ro row,y = .slice b off m cap ∧ η.f b = .live ro row ∧ b < η.nx ∧ off + m * s ≤ row.length ∧ k.length = m * s ∧ (row.drop off).take (m * s) = k:=by
  rcases hy with ⟨h,_⟩ | h
  ·omega
  ·exact h
 have hpos:0 < m * s:=Nat.mul_pos hm hs
 rw [apSrc_sl,if_neg (by omega),h1,rowN_at,if_pos h3,h5,apRow_s]
 have out:∀ (η1:HN),η1.nx = η.nx → (∀ b,b < η.nx → ¬ blkIs x b → η1.f b = η.f b) → OwnA s base (η1.new (.live false (l ++ k))) (.slice η.nx 0 (n + m) (.un s)) (n + m) (l ++ k) ∧ (η1.new (.live false (l ++ k))).nx = η.nx + 1 ∧ ∀ b,b < η.nx → ¬ blkIs x b → (η1.new (.live false (l ++ k))).f b = η.f b:=fun η1 e1 e2 =>
  ⟨⟨by rw [List.length_append,hx.1,h4,Nat.add_mul],.inr ⟨η.nx,hb,by show η.nx < η1.nx + 1; omega,.inr ⟨rfl,by show (if η.nx = η1.nx then _ else _) = _; rw [if_pos e1.symm]⟩⟩⟩,by show η1.nx + 1 = _; omega,fun b hb hne=>by show (if b = η1.nx then _ else _) = _; rw [if_neg (by omega)]; exact e2 b hb hne⟩
 obtain ⟨h0,⟨rfl,rfl⟩ | ⟨c,hc1,hc2,⟨rfl,rfl,row2,hr⟩ | ⟨rfl,hr⟩⟩⟩:=hx
 ·obtain rfl:l = []:=List.eq_nil_of_length_eq_zero (by omega)
  rw [Nat.zero_add] at hlen
  have e:apN s w .nilslice m k η = .ok (.slice η.nx 0 (0 + m) (.un s)) (η.new (.live false ([] ++ k))):=by
   show (if m = 0 then _ else if m * w ≤ _ then _ else _) = _
   rw [if_neg (by omega),if_pos hlen,Nat.zero_add]; rfl
  exact ⟨_,e,out η rfl fun _ _ _=>rfl⟩
 ·obtain rfl:l = []:=List.eq_nil_of_length_eq_zero (by omega)
  have e:apN s w (.slice c 0 0 (.kn 0)) m k η = .ok (.slice η.nx 0 (0 + m) (.un s)) (η.new (.live false ([] ++ k))):=by
   show (if (0 + m) * w ≤ _ then (if m = 0 then _ else apKn c 0 0 s m 0 k (η.f c) η) else _) = _
   rw [if_pos hlen,if_neg (by omega),apKn_new (by omega),hr,rowN_at,if_pos (by omega)]
   simp [apNewN]
  exact ⟨_,e,out η rfl fun _ _ _=>rfl⟩
 ·have e:apN s w (.slice c 0 n (.un s)) m k η = .ok (.slice η.nx 0 (n + m) (.un s)) ((η.put c .none).new (.live false (l ++ k))):=by
   show (if (n + m) * w ≤ _ then (if m = 0 then _ else if s = s then apUn c 0 n s m k (η.f c) η else _) else _) = _
   rw [if_pos hlen,if_neg (by omega),if_pos rfl,hr,apUn_at,if_neg (by omega),if_pos ⟨by omega,h4⟩]
   rfl
  exact ⟨_,e,out (η.put c .none) rfl fun b _ hne=>by show (if b = c then _ else _) = _; rw [if_neg (fun q=>hne q.symm)]⟩
structure Grow (T:Nat → Nat) (lo:Nat) (η:HN) (t s:Nat) (x:AV) (n:Nat) (l:List AV):Prop where
 own:OwnA s lo η x n l
 tag:∀ b,blkIs x b → T b = t
section
variable {P:Program} {C:Spec} {d:Option Nat} {φ:FN}
end
theorem RdA.lits {s n:Nat} {η:HN} {row:List AV} {c:Cp} (h:row.length = n * s):RdA s (η.new (.live false row)) (.slice η.nx 0 n c) n row:=.inr ⟨η.nx,0,c,false,row,rfl,by show (if η.nx = η.nx then _ else _) = _; rw [if_pos rfl],Nat.lt_succ_self _,by omega,h,by rw [List.drop_zero,List.take_of_length_le (by omega)]⟩
end Go.Eng
namespace Go.Eng
set_option autoImplicit false
end Go.Eng
namespace Go.Eng
set_option autoImplicit false
end Go.Eng
namespace Go.Eng
set_option autoImplicit false
section
variable {P:Program} {φ:FN} {η:HN}
@[go_sem] theorem op_makeMap {t:TypeId}:opR P (.makeMap t none) φ η = .ok (.map η.nx) (η.new (.mp [])):=rfl
@[go_sem] theorem op_lookup {t:TypeId} {x k:Operand} {ok:Bool}:opR P (.lookup t x k ok) φ η = lkN P (tdOf P t) (opd φ x) (opd φ k) ok η:=rfl
@[go_sem] theorem op_mapUpdate {t:TypeId} {m k v:Operand}:opR P (.mapUpdate t m k v) φ η = muN P (tdOf P t) (opd φ m) (opd φ k) (opd φ v) η:=rfl
noncomputable def lkD (q:Option (AV → AV → Option Bool)) (z:Option AV) (x k:AV) (ok:Bool) (η:HN):RES:=match q,z with | some q,some z=>lkE q ok z k (esN x η) η | _,_=>.no
noncomputable def muD (q:Option (AV → AV → Option Bool)) (b:Nat) (k v:AV) (η:HN):RES:=match q with | some q=>muE q b k v (esB (η.f b)) η | none=>.no
@[go_sem] theorem lkN_m {key elem:Nat} {x k:AV} {ok:Bool}:lkN P (.map key elem) x k ok η = lkD (keyD (tdOf P key)) (zeroT P elem) x k ok η:=rfl
@[go_sem] theorem muN_m {key elem b:Nat} {k v:AV}:muN P (.map key elem) (.map b) k v η = muD (keyD (tdOf P key)) b k v η:=rfl
@[go_sem] theorem keyD_str:keyD .str = some qStr:=rfl
def MapS (es:List (AV × AV)) (M:Nat × Nat → Option AV):Prop:=∀ s:Nat × Nat,fndN qStr (.str s.1 s.2) es = some (M s)
theorem MapS.nil:MapS [] fun _=>none:=fun _=>rfl
theorem qStr_s (s t:Nat × Nat):qStr (.str s.1 s.2) (.str t.1 t.2) = some (strEq s.1 s.2 t.1 t.2):=rfl
theorem strEq_iff (s t:Nat × Nat):strEq s.1 s.2 t.1 t.2 = decide (s = t):=by
 obtain ⟨a,b⟩:=s
 obtain ⟨c,d⟩:=t
 unfold strEq
 dsimp only
 rw [Bool.eq_iff_iff,decide_eq_true_iff,Prod.mk.injEq]
 by_cases h:a = c
 ·subst h
  rw [show Nat.beq a a = true from beq_true.2 rfl,ifB_true]
  exact ⟨fun g=>⟨rfl,beq_true.1 g⟩,fun g=>beq_true.2 g.2⟩
 ·rw [show Nat.beq a c = false from beq_false.2 h,ifB_false]
  exact ⟨fun g=>(Bool.noConfusion g),fun g=>absurd g.1 h⟩
def KeyS (es:List (AV × AV)):Prop:=∀ e ∈ es,∃ s:Nat × Nat,e.1 = .str s.1 s.2
theorem KeyS.put {es es':List (AV × AV)} {k:Nat × Nat} {v:AV} (h:KeyS es) (e:putM qStr (.str k.1 k.2) v es = some es'):KeyS es':=by
 induction es generalizing es' with
 | nil=>cases e; exact fun x hx=>⟨k,by rw [List.mem_singleton.1 hx]⟩
 | cons x r ih =>
  obtain ⟨t,ht⟩:=h x List.mem_cons_self
  unfold putM at e
  rw [ht,qStr_s] at e
  cases hq:strEq k.1 k.2 t.1 t.2 with
  | true =>
   rw [hq] at e
   cases e
   intro y hy
   rcases List.mem_cons.1 hy with rfl | hy
   ·exact ⟨k,rfl⟩
   ·exact h y (List.mem_cons_of_mem _ hy)
  | false =>
   rw [hq] at e
   dsimp only at e
   cases hr:putM qStr (.str k.1 k.2) v r with
   | none=>rw [hr] at e; cases e
   | some r' =>
    rw [hr] at e
    cases e
    intro y hy
    rcases List.mem_cons.1 hy with rfl | hy
    ·exact ⟨t,ht⟩
    ·exact ih (fun z hz=>h z (List.mem_cons_of_mem _ hz)) hr y hy
theorem MapS.put {es:List (AV × AV)} {M:Nat × Nat → Option AV} (hk:KeyS es) (h:MapS es M) (k:Nat × Nat) (v:AV):∃ es',putM qStr (.str k.1 k.2) v es = some es' ∧ KeyS es' ∧ MapS es' fun s=>if s = k then some v else M s:=by
 have key:∀ (es:List (AV × AV)),KeyS es → ∃ es',putM qStr (.str k.1 k.2) v es = some es' ∧ ∀ s:Nat × Nat,∀ o,fndN qStr (.str s.1 s.2) es = some o → fndN qStr (.str s.1 s.2) es' = some (if s = k then some v else o):=by
  intro es
  induction es with
  | nil =>
   refine fun _=>⟨_,rfl,fun s o ho=>?_⟩
   cases ho
   unfold fndN
   rw [qStr_s,strEq_iff]
   by_cases e:s = k
   ·rw [if_pos e,decide_eq_true e]
   ·rw [if_neg e,decide_eq_false e]; rfl
  | cons x r ih =>
   intro hk
   obtain ⟨t,ht⟩:=hk x List.mem_cons_self
   obtain ⟨r',h1,h2⟩:=ih fun z hz=>hk z (List.mem_cons_of_mem _ hz)
   by_cases e:k = t
   ·refine ⟨(.str k.1 k.2,v) :: r,by unfold putM; rw [ht,qStr_s,strEq_iff,decide_eq_true e],fun s o ho=>?_⟩
    unfold fndN at ho ⊢
    rw [ht,qStr_s,strEq_iff] at ho
    rw [qStr_s,strEq_iff]
    by_cases e2:s = k
    ·rw [if_pos e2,decide_eq_true e2]
    ·rw [decide_eq_false (fun g=>e2 (g.trans e.symm))] at ho
     rw [if_neg e2,decide_eq_false e2]
     exact ho
   ·refine ⟨x :: r',by unfold putM; rw [ht,qStr_s,strEq_iff,decide_eq_false e,h1],fun s o ho=>?_⟩
    unfold fndN at ho ⊢
    rw [ht,qStr_s,strEq_iff] at ho ⊢
    by_cases e2:s = t
    ·rw [decide_eq_true e2] at ho ⊢
     have:s ≠ k:=fun g=>e (g.symm.trans e2)
     rw [if_neg this]
     exact ho
    ·rw [decide_eq_false e2] at ho ⊢
     exact h2 s o ho
 obtain ⟨es',h1,h2⟩:=key es hk
 exact ⟨es',h1,hk.put h1,fun s=>h2 s _ (h s)⟩
def MapAt (η:HN) (b:Nat) (M:Nat × Nat → Option AV):Prop:=∃ es,η.f b = .mp es ∧ KeyS es ∧ MapS es M
theorem MapAt.new:MapAt (η.new (.mp [])) η.nx fun _=>none:=⟨[],by show (if η.nx = η.nx then _ else _) = _; rw [if_pos rfl],(fun _ h=>by cases h),MapS.nil⟩
theorem MapAt.eq {η':HN} {b:Nat} {M:Nat × Nat → Option AV} (h:MapAt η b M) (e:η'.f b = η.f b):MapAt η' b M:=by
 obtain ⟨es,h1,h2⟩:=h
 exact ⟨es,e.trans h1,h2⟩
theorem MapAt.look {b:Nat} {M:Nat × Nat → Option AV} (h:MapAt η b M) (s:Nat × Nat) (ok:Bool) (z:AV):lkD (some qStr) (some z) (.map b) (.str s.1 s.2) ok η = .ok (lkV ok z (M s)) η:=by
 obtain ⟨es,h1,h2,h3⟩:=h
 show lkE qStr ok z (.str s.1 s.2) (esB (η.f b)) η = _
 rw [h1]
 show lkO ok z (fndN qStr (.str s.1 s.2) es) η = _
 rw [h3 s]; rfl
theorem MapAt.upd {b:Nat} {M:Nat × Nat → Option AV} (h:MapAt η b M) (s:Nat × Nat) (v:AV):∃ es,muD (some qStr) b (.str s.1 s.2) v η = .ok und (η.put b (.mp es)) ∧ MapAt (η.put b (.mp es)) b fun t=>if t = s then some v else M t:=by
 obtain ⟨es,h1,h2,h3⟩:=h
 obtain ⟨es',e1,e2,e3⟩:=h3.put h2 s v
 refine ⟨es',?_,es',by show (if b = b then _ else _) = _; rw [if_pos rfl],e2,e3⟩
 show muE qStr b _ v (esB (η.f b)) η = _
 rw [h1]
 show muO b (putM qStr (.str s.1 s.2) v es) η = _
 rw [e1]; rfl
end
end Go.Eng
