/- What is proved: the evaluator's operators, loads, stores and conversions do what the model's do. Conditions: none. -/
import Derived.Test.YtdeejbnhlbddgaaGreatDoorWB
import Derived.ChangeKeysEq
import Derived.Laws.BytesString
import Derived.Laws.Cells
import Derived.Lib.Strings
import Derived.Laws.IdiomStrings
set_option linter.unusedVariables false
set_option linter.unusedSimpArgs false
set_option linter.unusedSectionVars false
namespace Go.Eng
set_option autoImplicit false
variable [Deep] [Env]
section ops
variable {P:Program} {ρ:Ren} {h:H} {w:World} {t:TypeId}
theorem shOp_ok (op:BinOp) (k yk:IntKind) (a b:Nat) (ha:a<modN k) (_hb:b<modN yk) (hsh:isSh op=true) {v:AV} {h':H} (e:(shOp op).f k a yk b h=.val v h') :
    h'=h∧∃u,(binOp op t (.int k (sgn k a)) (.int yk (sgn yk b))).run P w=.ok u w∧VR ρ v u:=by
  cases op<;>first|(cases hsh;done)|skip
  case shl =>
    obtain⟨h0,e⟩:=ifB_t (show ifB (nneg yk b) (mkI k (shlN k a (minN b (bitsN k))) h) (.fail 4)=.val v h' from e)
    have e:=(mkI_eq k _ h).symm.trans e;cases e
    rw[sgn_nneg h0]
    have h1:=shl_ok k a (minN b (bitsN k)) ha
    refine⟨rfl,.int k (k.wrap (sgn k a*2 ^ (min b k.bits))),?_,VR_int.2 ⟨h1.2,by rw[←h1.1,minN_eq,bitsN_eq]⟩⟩
    have:¬((b:Int)<0):=by omega
    simp [binOp,Op.shift,this]
  case shr =>
    obtain⟨h0,e⟩:=ifB_t (show ifB (nneg yk b) (mkI k (shrN k a (minN b (bitsN k))) h) (.fail 4)=.val v h' from e)
    have e:=(mkI_eq k _ h).symm.trans e;cases e
    rw[sgn_nneg h0]
    have h1:=shr_ok k a (minN b (bitsN k)) ha
    refine⟨rfl,.int k ((sgn k a).fdiv (2 ^ (min b k.bits))),?_,VR_int.2 ⟨h1.2,by rw[←h1.1,minN_eq,bitsN_eq]⟩⟩
    have:¬((b:Int)<0):=by omega
    simp [binOp,Op.shift,this]
theorem strOp_ok (op:BinOp) (a b:ByteArray) {v:AV} {h':H} (e:(strOp op).f a.data.toList.length (codesL a.data.toList) b.data.toList.length (codesL b.data.toList) h=.val v h') :
    h'=h∧∃u,(binOp op t (.string a) (.string b)).run P w=.ok u w∧VR ρ v u:=by
  have heq:=strEq_eq a.data.toList b.data.toList
  have hlt:=strLt_eq a.data.toList b.data.toList
  have e1:a.toList=a.data.toList:=ByteArray.toList_eq a
  have e2:b.toList=b.data.toList:=ByteArray.toList_eq b
  cases op<;>first|exact(fail_val e).elim|skip
  case add =>
    obtain⟨h0,e⟩:=ifB_t (show ifB (Nat.ble _ 9223372036854775807) (mkS _ _ h) (.fail 3)=.val v h' from e)
    have e:=(mkS_eq _ _ h).symm.trans e;cases e
    have hs:¬(((a.size+b.size:Nat):Int)>IntKind.i64.max):=by
      have h1:a.data.toList.length+b.data.toList.length≤9223372036854775807:=ble_true.1 h0
      have h2:IntKind.i64.max=9223372036854775807:=rfl
      have h3:a.size=a.data.toList.length:=by simp
      have h4:b.size=b.data.toList.length:=by simp
      rw[h2];omega
    refine⟨rfl,.string (a++b),?_,VR_str.2 ⟨a++b,rfl,?_,?_⟩⟩
    · simp only[binOp,Op.stringOp];rw[Sem.run_ite,if_neg hs];rfl
    · simp [ByteArray.data_append]
    · rw[strCat_eq];simp [ByteArray.data_append]
  case eql =>
    have e:=(mkB_eq _ h).symm.trans e;cases e
    refine⟨rfl,.bool (a.toList == b.toList),by simp [binOp,Op.stringOp],VR_bool.2 ?_⟩
    rw[heq,e1,e2]
  case neq =>
    have e:=(mkB_eq _ h).symm.trans e;cases e
    refine⟨rfl,.bool (!(a.toList == b.toList)),by simp only[binOp,Op.stringOp];rfl,VR_bool.2 ?_⟩
    rw[heq,e1,e2]
  case lss =>
    have e:=(mkB_eq _ h).symm.trans e;cases e
    refine⟨rfl,.bool (Op.bytesLess a.toList b.toList),by simp only[binOp,Op.stringOp];rfl,VR_bool.2 ?_⟩
    rw[hlt,e1,e2]
  case leq =>
    have e:=(mkB_eq _ h).symm.trans e;cases e
    refine⟨rfl,.bool (Op.bytesLess a.toList b.toList||(a.toList == b.toList)),by simp only[binOp,Op.stringOp];rfl,VR_bool.2 ?_⟩
    rw[hlt,heq,e1,e2];cases Op.bytesLess a.data.toList b.data.toList<;>rfl
  case gtr =>
    have e:=(mkB_eq _ h).symm.trans e;cases e
    refine⟨rfl,.bool (!(Op.bytesLess a.toList b.toList||(a.toList == b.toList))),by simp only[binOp,Op.stringOp];rfl,VR_bool.2 ?_⟩
    rw[hlt,heq,e1,e2];cases Op.bytesLess a.data.toList b.data.toList<;>rfl
  case geq =>
    have e:=(mkB_eq _ h).symm.trans e;cases e
    refine⟨rfl,.bool (!(Op.bytesLess a.toList b.toList)),by simp only[binOp,Op.stringOp];rfl,VR_bool.2 ?_⟩
    rw[hlt,e1,e2]
theorem part_rel {xs:List AV} {us:List Value} {off s b:Nat} {a:Bool} {x:AV} (ht:tyOf P t=some (s,b,a)) (hx:VL ρ xs us) (ho:∀u∈us,u.oneCell'=true) (hp:partO a s xs off=some x) :
    ∃u,(part t ⟨us⟩ off).run P w=.ok u w∧VR ρ x u:=by
  unfold part
  unfold partO at hp
  simp only[Sem.run_bind,run_isAgg ht,Result.andThen_ok]
  cases a with
  |true =>
    rw[ifB_true,ltake_eq,ldrop_eq]at hp
    cases hp
    refine⟨.agg ⟨(us.drop off).take s⟩,?_,?_⟩
    · simp only[if_true,Sem.run_bind,run_size ht,Result.andThen_ok,Sem.run_pure]
      congr 2
      apply Array.ext'
      simp
    · exact VR_agg.2 ⟨_,rfl,(hx.drop off).take s,fun u hu=>ho u (List.mem_of_mem_drop (List.mem_of_mem_take hu))⟩
  |false =>
    rw[ifB_false,lget?_eq]at hp
    obtain⟨u,hu,hv⟩:=hx.get off x hp
    refine⟨u,?_,hv⟩
    have:(⟨us⟩:Array Value)[off]?=some u:=by simpa using hu
    simp only[Bool.false_eq_true,if_false,this,Sem.run_pure]
end ops
end Go.Eng
namespace Go.Eng
set_option autoImplicit false
variable [Deep] [Env]
section
variable {P:Program} {ρ:Ren} {w:World}
theorem oB_some {o:Option Bool} {t:Option Bool} {b:Bool} (e:oB o t (some false) none=some b):(o=some true∧t=some b)∨(o=some false∧b=false):=by
  cases o with
  |none=>cases e
  |some c=>cases c with
    |true=>exact .inl ⟨rfl,e⟩
    |false=>exact .inr ⟨rfl,by cases e;rfl⟩
theorem o2_some {x y:Option AV} {q:Q} {b:Bool} (e:o2 x y q=some b):∃a c,x=some a∧y=some c∧q a c=some b:=by
  cases x with
  |none=>cases e
  |some a=>cases y with
    |none=>cases e
    |some c=>exact⟨a,c,rfl,rfl,e⟩
theorem q2_some {g:List AV→List AV→Option Bool} {x y:AV} {b:Bool} (e:q2 g x y=some b):∃xs ys,x=.agg xs∧y=.agg ys∧g xs ys=some b:=by
  cases x<;>first|(cases e;done)|skip
  cases y<;>first|(cases e;done)|skip
  exact⟨_,_,rfl,rfl,e⟩
theorem cellsOf_ty {e s b:Nat} {a:Bool} (h:tyOf P e=some (s,b,a)):P.cellsOf e=s:=by
  obtain⟨i,d,h1,_,h3,_⟩:=tyOf_some h
  simp [Program.cellsOf,h1,h3]
def QOk (P:Program) (ρ:Ren) (w:World) (D:Nat) (t:TypeId) (q:Q):Prop :=
  ∀(x y:AV) (u v:Value) (b:Bool),VR ρ x u→VR ρ y v→q x y=some b→(Op.equalIn D t u v).run P w=.ok b w
theorem elems_ok {D e s c:Nat} {a:Bool} {q:Q} (he:tyOf P e=some (s,c,a)) (hq:QOk P ρ w D e q) {xs ys:List AV} {us vs:List Value} (hx:VL ρ xs us) (hy:VL ρ ys vs)
    (ox:∀u∈us,u.oneCell'=true) (oy:∀u∈vs,u.oneCell'=true):∀(n i:Nat) (b:Bool),qElems q a s xs ys n i=some b→(Op.eqItems D e (P.cellsOf e) ⟨us⟩ ⟨vs⟩ (List.range' i n)).run P w=.ok b w:=by
  intro n
  induction n with
  |zero=>intro i b h;cases h;simp [Op.eqItems]
  |succ n ih =>
    intro i b h
    have e0:qElems q a s xs ys (n+1) i=oB (o2 (partO a s xs (i*s)) (partO a s ys (i*s)) q) (qElems q a s xs ys n (i+1)) (some false) none:=rfl
    rw[e0]at h
    have step:∀c,o2 (partO a s xs (i*s)) (partO a s ys (i*s)) q=some c→∃u v,(part e ⟨us⟩ (i*P.cellsOf e)).run P w=.ok u w∧(part e ⟨vs⟩ (i*P.cellsOf e)).run P w=.ok v w∧(Op.equalIn D e u v).run P w=.ok c w:=by
      intro c hc
      obtain⟨x,y,h1,h2,h3⟩:=o2_some hc
      rw[cellsOf_ty he]
      obtain⟨u,hu,ru⟩:=part_rel (P:=P) (w:=w) he hx ox h1
      obtain⟨v,hv,rv⟩:=part_rel (P:=P) (w:=w) he hy oy h2
      exact⟨u,v,hu,hv,hq x y u v c ru rv h3⟩
    rcases oB_some h with ⟨h1,h2⟩|⟨h1,rfl⟩
    · obtain⟨u,v,p1,p2,p3⟩:=step _ h1
      rw[List.range'_succ]
      simp only[Op.eqItems,Sem.run_bind,p1,p2,p3,Result.andThen_ok]
      simpa using ih (i+1) b h2
    · obtain⟨u,v,p1,p2,p3⟩:=step _ h1
      rw[List.range'_succ]
      simp only[Op.eqItems,Sem.run_bind,p1,p2,p3,Result.andThen_ok]
      simp
theorem fields_ok {D:Nat} {ih:TypeId→Bx Q} (hq:∀t,QOk P ρ w D t (ih t).f) {xs ys:List AV} {us vs:List Value} (hx:VL ρ xs us) (hy:VL ρ ys vs)
    (ox:∀u∈us,u.oneCell'=true) (oy:∀u∈vs,u.oneCell'=true):∀(l:List Field) (fs:List FD) (b:Bool),fdsOf P l=some fs→(qFields ih fs).f xs ys=some b→(Op.eqFields D ⟨us⟩ ⟨vs⟩ l).run P w=.ok b w:=by
  intro l
  induction l with
  |nil=>intro fs b h e;unfold fdsOf at h;cases h;cases e;simp [Op.eqFields]
  |cons f l ihl =>
    intro fs b h e
    have hg:=fds_get h 0
    unfold fdsOf at h
    split at h
    · rename_i d ds h1 h2
      cases h
      obtain⟨f',c,hf,hty,hoff,hty',hbl⟩:=hg d (by simp)
      simp at hf;subst hf
      have e0:(qFields ih (d::ds)).f xs ys=(ifB d.blank (qFields ih ds) ⟨fun xs ys=>oB (o2 (partO d.agg d.size xs d.off) (partO d.agg d.size ys d.off) (ih d.ty).f) ((qFields ih ds).f xs ys) (some false) none⟩).f xs ys:=rfl
      rw[e0]at e
      unfold Op.eqFields
      by_cases hb:f.name = "_"
      · have:d.blank=true:=by rw[hbl];simpa using hb
        rw[this,ifB_true]at e
        simp only[hb,ne_eq,not_true_eq_false,if_false]
        exact ihl ds b h2 e
      · have:d.blank=false:=by rw[hbl];simpa using hb
        rw[this,ifB_false]at e
        simp only[hb,ne_eq,not_false_eq_true,if_true]
        have step:∀c,o2 (partO d.agg d.size xs d.off) (partO d.agg d.size ys d.off) (ih d.ty).f=some c→∃u v,(part f.type ⟨us⟩ f.offset).run P w=.ok u w∧(part f.type ⟨vs⟩ f.offset).run P w=.ok v w∧(Op.equalIn D f.type u v).run P w=.ok c w:=by
          intro c hc
          obtain⟨x,y,h1,h2,h3⟩:=o2_some hc
          rw[←hoff]
          obtain⟨u,hu,ru⟩:=part_rel (P:=P) (w:=w) hty hx ox h1
          obtain⟨v,hv,rv⟩:=part_rel (P:=P) (w:=w) hty hy oy h2
          rw[←hty']
          exact⟨u,v,by rw[hty'];exact hu,by rw[hty'];exact hv,hq d.ty x y u v c ru rv h3⟩
        rcases oB_some e with ⟨h3,h4⟩|⟨h3,rfl⟩
        · obtain⟨u,v,p1,p2,p3⟩:=step _ h3
          simp only[Sem.run_bind,p1,p2,p3,Result.andThen_ok]
          simpa using ihl ds b h2 h4
        · obtain⟨u,v,p1,p2,p3⟩:=step _ h3
          simp only[Sem.run_bind,p1,p2,p3,Result.andThen_ok]
          simp
    · cases h
theorem beq_bytes (a b:ByteArray):(a == b)=(a.data.toList == b.data.toList):=by
  rw[beq_toListBytes,ByteArray.toList_eq,ByteArray.toList_eq]
theorem eqv_ok:∀(d D:Nat) (t:TypeId),d≤D→QOk P ρ w D t (eqvF P d t).f:=by
  intro d
  induction d with
  |zero=>intro D t _ x y u v b _ _ e;cases e
  |succ d ih =>
    intro D t hD x y u v b hx hy e
    obtain⟨D,rfl⟩:∃D',D=D'+1:=⟨D-1,by omega⟩
    have ih:∀t,QOk P ρ w D t (eqvF P d t).f:=fun t=>ih D t (by omega)
    cases htd:tdOf P t
    all_goals (
      have e:(TD.rec (motive:=fun _=>Bx Q) ⟨qBool⟩ (fun _=>⟨qInt⟩) ⟨qStr⟩ ⟨qPtr⟩ (fun _ _ _=>⟨qSlice⟩) (fun n elem size agg=>⟨q2 (fun xs ys=>qElems (eqvF P d elem).f agg size xs ys n 0)⟩)
        (fun fs=>ifB (P.stoodInHeld t) ⟨fun _ _=>none⟩ ⟨q2 (qFields (eqvF P d) fs).f⟩) ⟨qIface⟩ ⟨qFunc⟩ (fun _ _=>⟨qMap⟩) ⟨fun _ _=>none⟩ (tdOf P t):Bx Q).f x y=some b:=e
      rw[htd]at e)
    case other=>cases e
    case bool =>
      cases x<;>first|(cases e;done)|skip
      cases y<;>first|(cases e;done)|skip
      obtain rfl:=VR_bool.1 hx;obtain rfl:=VR_bool.1 hy
      cases e
      simp [Op.equalIn,run_underlying (td_bool htd),beqB_eq]
    case int k0 =>
      cases x with
      |int k n =>
        cases y with
        |int k' m =>
          obtain⟨h1,rfl⟩:=VR_int.1 hx;obtain⟨h2,rfl⟩:=VR_int.1 hy
          have e2:ifB (keq k k') (some (Nat.beq n m)) none=some b:=e
          rw[ifB_eq]at e2
          by_cases hk:keq k k'=true
          · rw[if_pos hk]at e2
            have hk:=(keq_iff k k').1 hk
            subst hk
            cases e2
            simp [Op.equalIn,run_underlying (td_int htd),eq_ok k n m h1 h2]
          · rw[if_neg hk]at e2;cases e2
        |_=>cases e
      |sym k n =>
        cases y with
        |sym k' m =>
          obtain⟨h1,rfl⟩:=VR_sym.1 hx;obtain⟨h2,rfl⟩:=VR_sym.1 hy
          have e2:ifB (keq k k') (ifB (seEq n m) (some true) none) none=some b:=e
          rw[ifB_eq]at e2
          by_cases hk:keq k k'=true
          · rw[if_pos hk]at e2
            have hk:=(keq_iff k k').1 hk
            subst hk
            cases hs:seEq n m with
            |false=>rw[hs]at e2;cases e2
            |true =>
              rw[hs]at e2
              cases e2
              obtain rfl:=seEq_sound n m hs
              simp [Op.equalIn,run_underlying (td_int htd)]
          · rw[if_neg hk]at e2;cases e2
        |_=>cases e
      |_=>cases e
    case str =>
      cases x with
      |str n1 v1 =>
        cases y with
        |str n2 v2 =>
          obtain⟨s1,rfl,rfl,rfl⟩:=VR_str.1 hx;obtain⟨s2,rfl,rfl,rfl⟩:=VR_str.1 hy
          have e:some (strEq s1.data.toList.length (codesL s1.data.toList) s2.data.toList.length (codesL s2.data.toList))=some b:=e
          rw[strEq_eq]at e
          cases e
          have:(Op.equalIn (D+1) t (.string s1) (.string s2)).run P w=.ok (s1 == s2) w:=by simp [Op.equalIn,run_underlying (td_str htd)]
          rw[this,beq_bytes]
        |_=>cases e
      |_=>cases e
    case ptr =>
      obtain⟨el,hu⟩:=td_ptr htd
      cases x<;>first|(cases e;done)|skip
      all_goals (cases y<;>first|(cases e;done)|skip)
      · unfold VR at hx hy;subst hx;subst hy;cases e;simp [Op.equalIn,run_underlying hu]
      · unfold VR at hx;subst hx;obtain⟨_,_,_,_,rfl⟩:=VR_ptr.1 hy;cases e;simp [Op.equalIn,run_underlying hu]
      · unfold VR at hy;subst hy;obtain⟨_,_,_,_,rfl⟩:=VR_ptr.1 hx;cases e;simp [Op.equalIn,run_underlying hu]
    case slice el s c =>
      have hu:=(td_slice htd).1
      cases x<;>first|(cases e;done)|skip
      all_goals (cases y<;>first|(cases e;done)|skip)
      · unfold VR at hx hy;subst hx;subst hy;cases e;simp [Op.equalIn,run_underlying hu]
      · unfold VR at hx;subst hx;obtain⟨_,_,_,_,_,_,rfl,_⟩:=VR_slice.1 hy;cases e;simp [Op.equalIn,run_underlying hu]
      · unfold VR at hy;subst hy;obtain⟨_,_,_,_,_,_,rfl,_⟩:=VR_slice.1 hx;cases e;simp [Op.equalIn,run_underlying hu]
    case iface =>
      obtain⟨ms,hu⟩:=td_iface htd
      cases x<;>first|(cases e;done)|skip
      all_goals (cases y<;>first|(cases e;done)|skip)
      · unfold VR at hx;subst hy;obtain⟨_,rfl,_⟩:=hx;cases e;simp [Op.equalIn,run_underlying hu]
      · unfold VR at hy;subst hx;obtain⟨_,rfl,_⟩:=hy;cases e;simp [Op.equalIn,run_underlying hu]
      · unfold VR at hx hy;subst hx;subst hy;cases e;simp [Op.equalIn,run_underlying hu]
    case func =>
      obtain⟨_,_,_,hu⟩:=td_func htd
      cases x<;>first|(cases e;done)|skip
      all_goals (cases y<;>first|(cases e;done)|skip)
      · unfold VR at hy;subst hy;obtain⟨_,_,rfl,_⟩:=VR_func.1 hx;cases e;simp [Op.equalIn,run_underlying hu]
      · unfold VR at hx;subst hx;obtain⟨_,_,rfl,_⟩:=VR_func.1 hy;cases e;simp [Op.equalIn,run_underlying hu]
      · unfold VR at hx hy;subst hx;subst hy;cases e;simp [Op.equalIn,run_underlying hu]
    case map k0 e0 =>
      have hu:=td_map htd
      cases x<;>first|(cases e;done)|skip
      all_goals (cases y<;>first|(cases e;done)|skip)
      · unfold VR at hy;subst hy;obtain⟨_,_,rfl⟩:=VR_map.1 hx;cases e;simp [Op.equalIn,run_underlying hu]
      · unfold VR at hx;subst hx;obtain⟨_,_,rfl⟩:=VR_map.1 hy;cases e;simp [Op.equalIn,run_underlying hu]
      · unfold VR at hx hy;subst hx;subst hy;cases e;simp [Op.equalIn,run_underlying hu]
    case array n el s a =>
      obtain⟨hu,c,he⟩:=td_array htd
      obtain⟨xs,ys,rfl,rfl,e⟩:=q2_some e
      obtain⟨us,rfl,hx1,hx2⟩:=VR_agg.1 hx
      obtain⟨vs,rfl,hy1,hy2⟩:=VR_agg.1 hy
      obtain⟨i,dd,hi,_,_,_,_⟩:=tyOf_some he
      rw[run_equalIn_array w D _ _ hu hi,List.range_eq_range']
      exact elems_ok he (ih el) hx1 hy1 hx2 hy2 n 0 b e
    case struct fs =>
      obtain⟨f,hu,hfs⟩:=td_struct htd
      cases hst:P.stoodInHeld t with
      |true=>rw[hst]at e;cases e
      |false =>
        rw[hst]at e
        obtain⟨xs,ys,rfl,rfl,e⟩:=q2_some e
        obtain⟨us,rfl,hx1,hx2⟩:=VR_agg.1 hx
        obtain⟨vs,rfl,hy1,hy2⟩:=VR_agg.1 hy
        have hf:P.fieldsOf t=f:=by simp [Program.fieldsOf,hu]
        rw[run_equalIn_struct w D t _ _ (by rw[hf];exact hu) hst,hf]
        exact fields_ok ih hx1 hy1 hx2 hy2 f.toList fs b hfs e
theorem binOp_eql_gen {t:TypeId} {u v:Value} (h1:∀k n,u≠.int k n) (h2:∀s,u≠.string s) (h3:∀k n,u≠.float k n) (h4:∀k n m,u≠.complex k n m):binOp .eql t u v=(do pure (.bool (←Op.equal t u v))):=by
  cases u<;>first|exact absurd rfl (h1 _ _)|exact absurd rfl (h2 _)|exact absurd rfl (h3 _ _)|exact absurd rfl (h4 _ _ _)|(cases v<;>rfl)
theorem binOp_neq_gen {t:TypeId} {u v:Value} (h1:∀k n,u≠.int k n) (h2:∀s,u≠.string s) (h3:∀k n,u≠.float k n) (h4:∀k n m,u≠.complex k n m):binOp .neq t u v=(do pure (.bool (!(←Op.equal t u v)))):=by
  cases u<;>first|exact absurd rfl (h1 _ _)|exact absurd rfl (h2 _)|exact absurd rfl (h3 _ _)|exact absurd rfl (h4 _ _ _)|(cases v<;>rfl)
theorem eqRes_ok {t:TypeId} {op:BinOp} {okNil:Bool} {h h':H} {x y:AV} {u v:Value} {z:AV} (hx:VR ρ x u) (hy:VR ρ y v)
    (hu:(∀k n,u≠.int k n)∧(∀s,u≠.string s)∧(∀k n,u≠.float k n)∧(∀k n m,u≠.complex k n m)) (o1 o2:Operand) (hk:okNil=true→isConstO o1=true∨isConstO o2=true)
    (e:(eqG P op t okNil).f x y h=.val z h') :
    h'=h∧∃r,(do eqGuard op t o1 o2 u v;binOp op t u v:Sem Value).run P w=.ok r w∧VR ρ z r:=by
  unfold eqG at e
  cases hg:goodEq P t okNil with
  |false=>rw[hg]at e;exact(fail_val e).elim
  |true =>
    rw[hg,ifB_true]at e
    -- the guard says nothing
    have guard:∀b,(eqB P t).f x y=some b→(eqGuard op t o1 o2 u v).run P w=.ok () w:=by
      intro b hb
      unfold goodEq at hg
      have hb:(TD.rec (motive:=fun _=>Bx Q) ⟨qBool⟩ (fun _=>⟨qInt⟩) ⟨qStr⟩ ⟨qPtr⟩ (fun _ _ _=>⟨qSlice⟩) (fun n elem size agg=>⟨q2 (fun xs ys=>qElems (eqvF P 19 elem).f agg size xs ys n 0)⟩)
        (fun fs=>ifB (P.stoodInHeld t) ⟨fun _ _=>none⟩ ⟨q2 (qFields (eqvF P 19) fs).f⟩) ⟨qIface⟩ ⟨qFunc⟩ (fun _ _=>⟨qMap⟩) ⟨fun _ _=>none⟩ (tdOf P t):Bx Q).f x y=some b:=hb
      have plain:(∀a c,¬(u=.agg a∧v=.agg c))→¬(u=.nilIface∧v=.nilIface)→(eqGuard op t o1 o2 u v).run P w=.ok () w:=by
        intro h1 h2
        cases op<;>(try rfl)
        all_goals (
          cases u<;>(try rfl)
          all_goals (cases v<;>first|rfl|exact absurd ⟨rfl,rfl⟩ (h1 _ _)|exact absurd ⟨rfl,rfl⟩ h2))
      by_cases ha:∃a c,u=.agg a∧v=.agg c
      · obtain⟨a,c,rfl,rfl⟩:=ha
        have hm:P.eqGuardType P.depth t=false:=by
          have hq:∃l,x=.agg l:=by
            cases x<;>(unfold VR at hx)<;>first|exact⟨_,rfl⟩|(cases hx;done)|(obtain⟨_,hx⟩:=hx;cases hx;done)|(obtain⟨_,hx,_⟩:=hx;cases hx;done)|(obtain⟨_,_,_,_,hx⟩:=hx;cases hx;done)|(obtain⟨_,_,_,_,_,_,hx,_⟩:=hx;cases hx;done)|(obtain⟨_,_,hx,_⟩:=hx;cases hx;done)|(obtain⟨_,_,hx⟩:=hx;cases hx;done)
          obtain⟨l,rfl⟩:=hq
          cases htd:tdOf P t<;>rw[htd]at hb hg<;>first
            |(have hg:Bool.not (P.eqGuardType P.depth t)=true:=hg;cases hq:P.eqGuardType P.depth t with
                |false=>rfl
                |true=>rw[hq]at hg;cases hg)
            |(cases hb;done)
        exact run_eqGuard_agg w op t o1 o2 a c hm
      · by_cases hn:u=.nilIface∧v=.nilIface
        · obtain⟨rfl,rfl⟩:=hn
          have hok:okNil=true:=by
            have hq:x=.nilIface:=by
              cases x<;>(unfold VR at hx)<;>first|rfl|(cases hx;done)|(obtain⟨_,hx⟩:=hx;cases hx;done)|(obtain⟨_,hx,_⟩:=hx;cases hx;done)|(obtain⟨_,_,_,_,hx⟩:=hx;cases hx;done)|(obtain⟨_,_,_,_,_,_,hx,_⟩:=hx;cases hx;done)|(obtain⟨_,_,hx,_⟩:=hx;cases hx;done)|(obtain⟨_,_,hx⟩:=hx;cases hx;done)
            subst hq
            cases htd:tdOf P t<;>rw[htd]at hb hg<;>first
              |exact hg
              |(cases hb;done)
              |(cases hst:P.stoodInHeld t<;>rw[hst]at hb<;>cases hb)
          have hcn:∀o:Operand,isConstO o=true→∃c,o=.const c:=fun o ho=>by cases o<;>first|exact⟨_,rfl⟩|cases ho
          rcases hk hok with h1|h1
          · obtain⟨c,rfl⟩:=hcn _ h1
            cases op<;>rfl
          · obtain⟨c,rfl⟩:=hcn _ h1
            cases op<;>first|rfl|(cases o1<;>rfl)
        · exact plain (fun a c hh=>ha ⟨a,c,hh⟩) hn
    have eqv:=eqv_ok (P:=P) (ρ:=ρ) (w:=w) 20 10000 t (by omega) x y u v
    obtain⟨h1,h2,h3,h4⟩:=hu
    cases op<;>first|exact(fail_val e).elim|skip
    case eql =>
      obtain⟨b,hb,e⟩:=osome_val (show osome 7 ((eqB P t).f x y) (fun b=>mkB (ifB false (Bool.not b) b) h)=.val z h' from e)
      have e:=(mkB_eq _ h).symm.trans e;cases e
      refine⟨rfl,.bool b,?_,VR_bool.2 rfl⟩
      rw[Sem.run_bind,guard b hb,Result.andThen_ok,binOp_eql_gen h1 h2 h3 h4]
      simp only[Sem.run_bind,Op.equal,Op.maxDepth,eqv b hx hy hb,Result.andThen_ok,Sem.run_pure]
    case neq =>
      obtain⟨b,hb,e⟩:=osome_val (show osome 7 ((eqB P t).f x y) (fun b=>mkB (ifB true (Bool.not b) b) h)=.val z h' from e)
      have e:=(mkB_eq _ h).symm.trans e;cases e
      refine⟨rfl,.bool (!b),?_,VR_bool.2 rfl⟩
      rw[Sem.run_bind,guard b hb,Result.andThen_ok,binOp_neq_gen h1 h2 h3 h4]
      simp only[Sem.run_bind,Op.equal,Op.maxDepth,eqv b hx hy hb,Result.andThen_ok,Sem.run_pure]
end
end Go.Eng
namespace Go.Eng
set_option autoImplicit false
variable [Deep] [Env]
section
variable {P:Program} {ρ:Ren} {w:World}
theorem ltN_iff {k:IntKind} {a b:Nat} (ha:a<modN k) (hb:b<modN k):ltN k a b=true↔sgn k a<sgn k b:=by
  rw[←lt_ok k a b ha hb,decide_eq_true_iff]
theorem uni_ok {k:IntKind} {a b n:Nat} (h:uni k a b=true) (h1:a≤n) (h2:n≤b):b<modN k∧sgn k a≤sgn k n∧sgn k n≤sgn k b:=by
  unfold uni at h
  rw[ifB_eq]at h
  split at h
  · rename_i hq
    rw[beqB_eq]at hq
    have hq:nneg k a=nneg k b:=by simpa using hq
    rw[ifB_eq]at h
    split at h
    · have hb:b<modN k:=ble_true.1 h
      refine⟨hb,?_⟩
      rw[sgn_cases k a,sgn_cases k n,sgn_cases k b]
      cases hn:nneg k a with
      |true =>
        have ha':=nneg_lt.1 hn
        rw[hq]at hn
        have hb':=nneg_lt.1 hn
        rw[if_pos ha',if_pos (by omega),if_pos hb']
        omega
      |false =>
        have ha':¬a<halfN k:=fun e=>by rw[nneg_lt.2 e]at hn;cases hn
        rw[if_neg ha',if_neg (by omega),if_neg (by omega)]
        omega
    · cases h
  · cases h
theorem cmpF_ok (op:BinOp) {k:IntKind} {a b c d n m:Nat} {h h':H} {z:AV} (u1:uni k a b=true) (u2:uni k c d=true) (n1:a≤n) (n2:n≤b) (m1:c≤m) (m2:m≤d)
    (e:(cmpF op).f k a b c d h=.val z h'):isSh op=false∧(intOp op).f k n m h=.val z h':=by
  obtain⟨hb,s1,s2⟩:=uni_ok u1 n1 n2
  obtain⟨hd,s3,s4⟩:=uni_ok u2 m1 m2
  have t1:ltN k b c=true→ltN k n m=true:=fun q=>(ltN_iff (by omega) (by omega)).2 (by have:=(ltN_iff hb (by omega)).1 q;omega)
  have t2:ltN k a d=false→ltN k n m=false:=fun q=>by
    cases hq:ltN k n m with
    |false=>rfl
    |true =>
      have h1:=(ltN_iff (by omega) (by omega)).1 hq
      have:=(ltN_iff (k:=k) (a:=a) (b:=d) (by omega) (by omega)).2 (by omega)
      rw[this]at q;cases q
  have t3:ltN k d a=true→ltN k m n=true:=fun q=>(ltN_iff (by omega) (by omega)).2 (by have:=(ltN_iff hd (by omega)).1 q;omega)
  have t4:ltN k c b=false→ltN k m n=false:=fun q=>by
    cases hq:ltN k m n with
    |false=>rfl
    |true =>
      have h1:=(ltN_iff (by omega) (by omega)).1 hq
      have:=(ltN_iff (k:=k) (a:=c) (b:=b) (by omega) (by omega)).2 (by omega)
      rw[this]at q;cases q
  have lt:∀{a b c d n m:Nat} {t f:RV},(ltN k b c=true→ltN k n m=true)→(ltN k a d=false→ltN k n m=false)→ltR k a b c d t f=.val z h'→(ltN k n m=true∧t=.val z h')∨(ltN k n m=false∧f=.val z h'):=by
    intro a b c d n m t f q1 q2 e
    unfold ltR at e
    cases h1:ltN k b c with
    |true=>rw[h1]at e;exact .inl ⟨q1 h1,e⟩
    |false =>
      rw[h1,ifB_false]at e
      cases h2:ltN k a d with
      |true=>rw[h2]at e;exact(fail_val e).elim
      |false=>rw[h2]at e;exact .inr ⟨q2 h2,e⟩
  have ne:∀{t:RV},neR k a b c d t=.val z h'→Nat.beq n m=false∧t=.val z h':=by
    intro t e
    unfold neR at e
    cases h1:ltN k b c with
    |true =>
      rw[h1]at e
      refine⟨beq_false.2 fun q=>?_,e⟩
      have:=(ltN_iff (by omega) (by omega)).1 (t1 h1)
      rw[q]at this;omega
    |false =>
      rw[h1,ifB_false]at e
      cases h2:ltN k d a with
      |true =>
        rw[h2]at e
        refine⟨beq_false.2 fun q=>?_,e⟩
        have:=(ltN_iff (by omega) (by omega)).1 (t3 h2)
        rw[q]at this;omega
      |false=>rw[h2]at e;exact(fail_val e).elim
  cases op<;>first|exact(fail_val e).elim|refine⟨rfl,?_⟩
  case eql =>
    obtain⟨q1,q2⟩:=ne (show neR k a b c d (mkB false h)=.val z h' from e)
    show mkB (Nat.beq n m) h=.val z h'
    rw[q1];exact q2
  case neq =>
    obtain⟨q1,q2⟩:=ne (show neR k a b c d (mkB true h)=.val z h' from e)
    show mkB (Bool.not (Nat.beq n m)) h=.val z h'
    rw[q1];exact q2
  case lss =>
    show mkB (ltN k n m) h=.val z h'
    rcases lt t1 t2 (show ltR k a b c d (mkB true h) (mkB false h)=.val z h' from e) with ⟨q1,q2⟩|⟨q1,q2⟩<;>(rw[q1];exact q2)
  case gtr =>
    show mkB (ltN k m n) h=.val z h'
    rcases lt t3 t4 (show ltR k c d a b (mkB true h) (mkB false h)=.val z h' from e) with ⟨q1,q2⟩|⟨q1,q2⟩<;>(rw[q1];exact q2)
  case leq =>
    show mkB (Bool.not (ltN k m n)) h=.val z h'
    rcases lt t3 t4 (show ltR k c d a b (mkB false h) (mkB true h)=.val z h' from e) with ⟨q1,q2⟩|⟨q1,q2⟩<;>(rw[q1];exact q2)
  case geq =>
    show mkB (Bool.not (ltN k n m)) h=.val z h'
    rcases lt t1 t2 (show ltR k a b c d (mkB false h) (mkB true h)=.val z h' from e) with ⟨q1,q2⟩|⟨q1,q2⟩<;>(rw[q1];exact q2)
theorem cmpN_ok {t:TypeId} {op:BinOp} {k k':IntKind} {a b c d n m:Nat} {h h':H} {z:AV} (o1 o2:Operand) (n1:a≤n) (n2:n≤b) (m1:c≤m) (m2:m≤d)
    (e:cmpN op k a b k' c d h=.val z h'):h'=h∧∃r,(do eqGuard op t o1 o2 (.int k (sgn k n)) (.int k' (sgn k' m));binOp op t (.int k (sgn k n)) (.int k' (sgn k' m)):Sem Value).run P w=.ok r w∧VR ρ z r:=by
  unfold cmpN at e
  obtain⟨hk,e1⟩:=ifB_t e
  obtain⟨u1,e2⟩:=ifB_t e1
  obtain⟨u2,e3⟩:=ifB_t e2
  obtain rfl:=(keq_iff k k').1 hk
  obtain⟨hs,e⟩:=cmpF_ok op u1 u2 n1 n2 m1 m2 e3
  obtain⟨hb,_⟩:=uni_ok u1 n1 n2
  obtain⟨hd,_⟩:=uni_ok u2 m1 m2
  obtain⟨q1,r,q2,q3⟩:=intOp_ok (P:=P) (ρ:=ρ) (w:=w) (t:=t) op k n m (by omega) (by omega) hs e
  refine⟨q1,r,?_,q3⟩
  have:eqGuard op t o1 o2 (.int k (sgn k n)) (.int k (sgn k m))=pure ():=by cases op<;>rfl
  rw[this];simpa using q2
theorem VR_rng {k:IntKind} {a b:Nat} {u:Value}:VR ρ (.rng k a b) u↔∃n,a≤n∧n≤b∧n<modN k∧u=.int k (sgn k n):=by unfold VR;exact Iff.rfl
theorem symF_ok (op:BinOp) {k:IntKind} {a b:SE} {h h':H} {z:AV} (e:(symF op).f k a b h=.val z h'):isSh op=false∧∃r:SE,z=.sym k r∧(intOp op).f k a.val b.val h=.val (.int k r.val) h':=by
  cases op<;>first|exact(fail_val e).elim|refine⟨rfl,?_⟩
  case add=>cases (show RV.val (.sym k (.op .add k a b)) h=.val z h' from e);exact⟨_,rfl,mkI_eq k _ h⟩
  case sub=>cases (show RV.val (.sym k (.op .sub k a b)) h=.val z h' from e);exact⟨_,rfl,mkI_eq k _ h⟩
  case mul=>cases (show RV.val (.sym k (.op .mul k a b)) h=.val z h' from e);exact⟨_,rfl,mkI_eq k _ h⟩
  case and=>cases (show RV.val (.sym k (.op .and k a b)) h=.val z h' from e);exact⟨_,rfl,mkI_eq k _ h⟩
  case xor=>cases (show RV.val (.sym k (.op .xor k a b)) h=.val z h' from e);exact⟨_,rfl,mkI_eq k _ h⟩
  case or =>
    have e:ifB (ifB (isShr a) (isShl b) false) (symV k (.op .or k b a) h) (symV k (.op .or k a b) h)=.val z h':=e
    rw[ifB_eq]at e
    split at e
    · cases (show RV.val (.sym k (.op .or k b a)) h=.val z h' from e)
      refine⟨_,rfl,(mkI_eq k _ h).trans ?_⟩
      show RV.val (.int k (Nat.lor a.val b.val)) h=.val (.int k (Nat.lor b.val a.val)) h
      rw[show Nat.lor a.val b.val=Nat.lor b.val a.val from Nat.or_comm _ _]
    · cases (show RV.val (.sym k (.op .or k a b)) h=.val z h' from e);exact⟨_,rfl,mkI_eq k _ h⟩
theorem symSh_ok (op:BinOp) {k k':IntKind} {a:SE} {b:Nat} {h h':H} {z:AV} (e:(symSh op).f k a k' b h=.val z h'):∃r:SE,z=.sym k r∧(shOp op).f k a.val k' b h=.val (.int k r.val) h':=by
  cases op<;>first|exact(fail_val e).elim|skip
  case shl =>
    obtain⟨h1,e⟩:=ifB_t (show ifB (nneg k' b) (symV k (.op .shl k a (.c b)) h) (.fail 95)=.val z h' from e)
    cases (show RV.val (.sym k (.op .shl k a (.c b))) h=.val z h' from e)
    refine⟨_,rfl,?_⟩
    show ifB (nneg k' b) (mkI k (shlN k a.val (minN b (bitsN k))) h) (.fail 4)=_
    rw[h1,ifB_true,mkI_eq];rfl
  case shr =>
    obtain⟨h1,e⟩:=ifB_t (show ifB (nneg k' b) (symV k (.op .shr k a (.c b)) h) (.fail 95)=.val z h' from e)
    cases (show RV.val (.sym k (.op .shr k a (.c b))) h=.val z h' from e)
    refine⟨_,rfl,?_⟩
    show ifB (nneg k' b) (mkI k (shrN k a.val (minN b (bitsN k))) h) (.fail 4)=_
    rw[h1,ifB_true,mkI_eq];rfl
theorem symN_ok {t:TypeId} {op:BinOp} {k k':IntKind} {a b:SE} {h h':H} {z:AV} (o1 o2:Operand) (ha:a.val<modN k) (hb:b.val<modN k')
    (e:symN op k a k' b h=.val z h'):h'=h∧∃r,(do eqGuard op t o1 o2 (.int k (sgn k a.val)) (.int k' (sgn k' b.val));binOp op t (.int k (sgn k a.val)) (.int k' (sgn k' b.val)):Sem Value).run P w=.ok r w∧VR ρ z r:=by
  unfold symN at e
  obtain⟨_,e1⟩:=ifB_f e
  obtain⟨hk,e2⟩:=ifB_t e1
  obtain rfl:=(keq_iff k k').1 hk
  obtain⟨hs,r,rfl,e3⟩:=symF_ok op e2
  obtain⟨q1,x,q2,q3⟩:=intOp_ok (P:=P) (ρ:=ρ) (w:=w) (t:=t) op k a.val b.val ha hb hs e3
  refine⟨q1,x,?_,VR_sym.2 (VR_int.1 q3)⟩
  have:eqGuard op t o1 o2 (.int k (sgn k a.val)) (.int k (sgn k b.val))=pure ():=by cases op<;>rfl
  rw[this];simpa using q2
theorem bin_ok {t:TypeId} {op:BinOp} {okNil:Bool} {h h':H} {x y:AV} {u v:Value} {z:AV} (hx:VR ρ x u) (hy:VR ρ y v) (o1 o2:Operand) (hk:okNil=true→isConstO o1=true∨isConstO o2=true)
    (e:(binA P op t okNil).f x y h=.val z h'):h'=h∧∃r,(do eqGuard op t o1 o2 u v;binOp op t u v:Sem Value).run P w=.ok r w∧VR ρ z r:=by
  have gen:(eqG P op t okNil).f x y h=.val z h'→((∀k n,u≠.int k n)∧(∀s,u≠.string s)∧(∀k n,u≠.float k n)∧(∀k n m,u≠.complex k n m))→h'=h∧∃r,(do eqGuard op t o1 o2 u v;binOp op t u v:Sem Value).run P w=.ok r w∧VR ρ z r :=
    fun e hu=>eqRes_ok hx hy hu o1 o2 hk e
  cases x with
  |int k a =>
    obtain⟨ha,rfl⟩:=VR_int.1 hx
    cases y with
    |int k' b =>
      obtain⟨hb,rfl⟩:=VR_int.1 hy
      have e:(intG op).f k a k' b h=.val z h':=e
      have g:∀{r:Value},(binOp op t (.int k (sgn k a)) (.int k' (sgn k' b))).run P w=.ok r w→(do eqGuard op t o1 o2 (.int k (sgn k a)) (.int k' (sgn k' b));binOp op t (.int k (sgn k a)) (.int k' (sgn k' b)):Sem Value).run P w=.ok r w:=by
        intro r hr
        have:eqGuard op t o1 o2 (.int k (sgn k a)) (.int k' (sgn k' b))=pure ():=by cases op<;>rfl
        rw[this];simpa using hr
      unfold intG at e
      cases hs:isSh op with
      |true =>
        rw[hs,ifB_true]at e
        obtain⟨q1,r,q2,q3⟩:=shOp_ok (P:=P) (ρ:=ρ) (w:=w) (t:=t) op k k' a b ha hb hs e
        exact⟨q1,r,g q2,q3⟩
      |false =>
        rw[hs,ifB_false]at e
        obtain⟨hk',e2⟩:=ifB_t (show ifB (keq k k') ((intOp op).f k a b h) (.fail 10)=.val z h' from e)
        obtain rfl:=(keq_iff k k').1 hk'
        obtain⟨q1,r,q2,q3⟩:=intOp_ok (P:=P) (ρ:=ρ) (w:=w) (t:=t) op k a b ha hb hs e2
        exact⟨q1,r,g q2,q3⟩
    |rng k' c d =>
      obtain⟨m,m1,m2,_,rfl⟩:=VR_rng.1 hy
      exact cmpN_ok o1 o2 (Nat.le_refl _) (Nat.le_refl _) m1 m2 (show cmpN op k a a k' c d h=.val z h' from e)
    |sym k' b =>
      obtain⟨hb,rfl⟩:=VR_sym.1 hy
      have e:ifB (Nat.beq a a) (symN op k (.c a) k' b h) (.fail 90)=.val z h':=e
      rw[Nat.beq_refl,ifB_true]at e
      exact symN_ok (a:=.c a) o1 o2 ha hb e
    |_=>exact(fail_val e).elim
  |sym k a =>
    obtain⟨ha,rfl⟩:=VR_sym.1 hx
    cases y with
    |int k' b =>
      obtain⟨hb,rfl⟩:=VR_int.1 hy
      have e:ifB (isSh op) ((symSh op).f k a k' b h) (symN op k a k' (.c b) h)=.val z h':=e
      cases hs:isSh op with
      |true =>
        rw[hs,ifB_true]at e
        obtain⟨r,rfl,e2⟩:=symSh_ok op e
        obtain⟨q1,x,q2,q3⟩:=shOp_ok (P:=P) (ρ:=ρ) (w:=w) (t:=t) op k k' a.val b ha hb hs e2
        refine⟨q1,x,?_,VR_sym.2 (VR_int.1 q3)⟩
        have:eqGuard op t o1 o2 (.int k (sgn k a.val)) (.int k' (sgn k' b))=pure ():=by cases op<;>rfl
        rw[this];simpa using q2
      |false =>
        rw[hs,ifB_false]at e
        exact symN_ok (b:=.c b) o1 o2 ha hb e
    |sym k' b =>
      obtain⟨hb,rfl⟩:=VR_sym.1 hy
      exact symN_ok o1 o2 ha hb (show symN op k a k' b h=.val z h' from e)
    |_=>exact(fail_val e).elim
  |rng k a b =>
    obtain⟨n,n1,n2,hnn,rfl⟩:=VR_rng.1 hx
    cases y with
    |int k' c =>
      obtain⟨hb,rfl⟩:=VR_int.1 hy
      exact cmpN_ok o1 o2 n1 n2 (Nat.le_refl _) (Nat.le_refl _) (show cmpN op k a b k' c c h=.val z h' from e)
    |rng k' c d =>
      obtain⟨m,m1,m2,_,rfl⟩:=VR_rng.1 hy
      exact cmpN_ok o1 o2 n1 n2 m1 m2 (show cmpN op k a b k' c d h=.val z h' from e)
    |sym k' c =>
      obtain⟨hb,rfl⟩:=VR_sym.1 hy
      have e:ifB (Nat.beq a b) (symN op k (.c a) k' c h) (.fail 90)=.val z h':=e
      obtain⟨hab,e⟩:=ifB_t e
      have hab:=beq_true.1 hab
      have hn:n=a:=by omega
      subst hn
      exact symN_ok (a:=.c n) o1 o2 hnn hb e
    |_=>exact(fail_val e).elim
  |str n s =>
    obtain⟨a,rfl,rfl,rfl⟩:=VR_str.1 hx
    cases y with
    |str m s' =>
      obtain⟨b,rfl,rfl,rfl⟩:=VR_str.1 hy
      obtain⟨q1,r,q2,q3⟩:=strOp_ok (P:=P) (ρ:=ρ) (w:=w) (t:=t) op a b e
      have:eqGuard op t o1 o2 (.string a) (.string b)=pure ():=by cases op<;>rfl
      exact⟨q1,r,by rw[this];simpa using q2,q3⟩
    |_=>exact(fail_val e).elim
  |tup l=>exact(fail_val e).elim
  |_ =>
    refine gen e ?_
    have hx':=hx
    unfold VR at hx'
    first
      |(subst hx';simp;done)
      |(obtain⟨_,rfl⟩:=hx';simp;done)
      |(obtain⟨_,rfl,_⟩:=hx';simp;done)
      |(obtain⟨_,_,rfl⟩:=hx';simp;done)
      |(obtain⟨_,_,_,_,rfl⟩:=hx';simp;done)
      |(obtain⟨_,_,rfl,_⟩:=hx';simp;done)
      |(obtain⟨_,_,_,_,_,_,rfl,_⟩:=hx';simp;done)
theorem un_ok {op:UnOp} {h h':H} {x:AV} {u:Value} {z:AV} (hx:VR ρ x u) (e:(unA op).f x h=.val z h'):h'=h∧∃r,(Op.unary op u).run P w=.ok r w∧VR ρ z r:=by
  cases op<;>first|exact(fail_val e).elim|skip
  case neg =>
    cases x with
    |int k a =>
      obtain⟨ha,rfl⟩:=VR_int.1 hx
      have e:=(mkI_eq k _ h).symm.trans e;cases e
      have h1:=neg_ok k a ha
      exact⟨rfl,.int k (k.wrap (0-sgn k a)),by simp only[Op.unary,Op.intArith];rfl,VR_int.2 ⟨h1.2,by rw[h1.1];rfl⟩⟩
    |sym k a =>
      obtain⟨ha,rfl⟩:=VR_sym.1 hx
      cases (show RV.val (.sym k (.op .neg k a (.c 0))) h=.val z h' from e)
      have h1:=neg_ok k a.val ha
      exact⟨rfl,.int k (k.wrap (0-sgn k a.val)),by simp only[Op.unary,Op.intArith];rfl,VR_sym.2 ⟨h1.2,by rw[h1.1];rfl⟩⟩
    |_=>exact(fail_val e).elim
  case xor =>
    cases x with
    |int k a =>
      obtain⟨ha,rfl⟩:=VR_int.1 hx
      have e:=(mkI_eq k _ h).symm.trans e;cases e
      have h1:=xorAll_ok k a ha
      exact⟨rfl,.int k (k.wrap ((BitVec.ofInt k.bits (if k.signed then -1 else k.max) ^^^ BitVec.ofInt k.bits (sgn k a)).toNat:Int)),by simp only[Op.unary,Op.intBits];rfl,VR_int.2 ⟨h1.1,by rw[h1.2];rfl⟩⟩
    |sym k a =>
      obtain⟨ha,rfl⟩:=VR_sym.1 hx
      cases (show RV.val (.sym k (.op .not k a (.c 0))) h=.val z h' from e)
      have h1:=xorAll_ok k a.val ha
      exact⟨rfl,.int k (k.wrap ((BitVec.ofInt k.bits (if k.signed then -1 else k.max) ^^^ BitVec.ofInt k.bits (sgn k a.val)).toNat:Int)),by simp only[Op.unary,Op.intBits];rfl,VR_sym.2 ⟨h1.1,by rw[h1.2];rfl⟩⟩
    |_=>exact(fail_val e).elim
  case not =>
    cases x with
    |bool b =>
      obtain rfl:=VR_bool.1 hx
      have e:=(mkB_eq _ h).symm.trans e;cases e
      exact⟨rfl,.bool (!b),rfl,VR_bool.2 rfl⟩
    |_=>exact(fail_val e).elim
theorem bytesOf_val {v:AV} {h:H}:∀{l:List AV} {k:Nat→RV},bytesOf l k=.val v h→∃bs:List UInt8,l=bs.map (fun b=>AV.int .u8 b.toNat)∧k (codesL bs)=.val v h∨¬(∀x∈l,∃n,x=.int .u8 n∧n<256)
  | [],k,e=>⟨[],.inl ⟨rfl,e⟩⟩
  |x::l,k,e=>by
    have e0:bytesOf (x::l) k=(AV.rec (motive_1:=fun _=>((Nat→RV)→RV)→(Nat→RV)→RV) (motive_2:=fun _=>PUnit) (fun _ _ _=>.fail 21) (fun kd n ih k=>ifB (keq kd .u8) (ih fun m=>forceN (Nat.add n (Nat.mul 256 m)) k) (.fail 21)) (fun _ _ _ _=>.fail 21) (fun _ _=>.fail 21) (fun _ _ _ _=>.fail 21) (fun _ _=>.fail 21) (fun _ _ _ _ _ _=>.fail 21) (fun _ _ _ _ _ _ _=>.fail 21) (fun _ _=>.fail 21) (fun _ _ _ _ _=>.fail 21) (fun _ _=>.fail 21) (fun _ _ _ _=>.fail 21) (fun _ _ _ _=>.fail 21) (fun _ _ _=>.fail 21) (fun _ _=>.fail 21) (fun _ _ _ _ _=>.fail 21) (fun _ _ _ _=>.fail 21) PUnit.unit (fun _ _ _ _=>PUnit.unit) x:((Nat→RV)→RV)→(Nat→RV)→RV) (bytesOf l) k:=rfl
    rw[e0]at e
    cases x with
    |int kd n =>
      obtain⟨hk,e2⟩:=ifB_t (show ifB (keq kd .u8) (bytesOf l fun m=>forceN (Nat.add n (Nat.mul 256 m)) k) (.fail 21)=.val v h from e)
      obtain rfl:=(keq_iff kd .u8).1 hk
      by_cases hn:n<256
      · obtain⟨bs,h1|h1⟩:=bytesOf_val e2
        · obtain⟨rfl,h2⟩:=h1
          rw[forceN_eq]at h2
          have hb:(UInt8.ofNat n).toNat=n:=UInt8.toNat_ofNat_of_lt' hn
          refine⟨UInt8.ofNat n::bs,.inl ⟨?_,?_⟩⟩
          · rw[List.map_cons,hb]
          · rw[codesL_cons,hb];exact h2
        · exact⟨[],.inr fun hall=>h1 fun y hy=>hall y (by simp [hy])⟩
      · exact⟨[],.inr fun hall=>by
          obtain⟨m,hm,hlt⟩:=hall (.int .u8 n) (by simp)
          cases hm;exact hn hlt⟩
    |_=>exact(fail_val e).elim
theorem byteCells_eq:∀(l:List UInt8),byteCells l.length (codesL l)=l.map (fun b=>AV.int .u8 b.toNat)
  | []=>rfl
  |b::l=>by
    have h1:=b.toNat_lt
    have e:byteCells (b::l).length (codesL (b::l))=forceN ((b.toNat+256*codesL l)%256) fun c=>AV.int .u8 c::byteCells l.length ((b.toNat+256*codesL l)/256):=rfl
    rw[e,forceN_eq,show(b.toNat+256*codesL l)%256=b.toNat by omega,show(b.toNat+256*codesL l)/256=codesL l by omega,byteCells_eq l]
    rfl
theorem VL_bytes (ρ:Ren):∀(l:List UInt8),VL ρ (l.map (fun b=>AV.int .u8 b.toNat)) (l.map fun b=>Value.int .u8 b.toNat)
  | []=>VL.nil
  |b::l=>VL.cons (VR_int.2 ⟨b.toNat_lt,by rw[lit_u8 b.toNat_lt]⟩) (VL_bytes ρ l)
end
end Go.Eng
namespace Go.Eng
set_option autoImplicit false
variable [Deep] [Env]
section
variable {P:Program} {ρ:Ren} {h:H} {w:World}
theorem HR.live (hr:HR ρ h w) {b B o N sz:Nat} {ro:Bool} {cs:T AV} (he:ρ b=some (B,o,N)) (hb:hget h b=.live ro sz cs) :
    ∃(c:Array Value) (e:TypeId) (fz:Nat×Nat),w.heap[B]?=some (.cells c e fz)∧c.size=N∧o+sz≤N∧(ro=false→fz.1=fz.2∨N≤fz.1) ∧
      ∀i,i<sz→∃u,c[o+i]?=some u∧VR ρ (cget cs i) u∧u.oneCell'=true:=by
  have:=hr.blk b B o N he
  rw[hb]at this
  exact this
theorem Addr.add_none (B o n:Nat):(⟨B,o,none⟩:Addr).add n=⟨B,o+n,none⟩:=by
  unfold Addr.add
  split
  · rename_i h;subst h;rfl
  · rfl
theorem cell_at {B i:Nat} {c:Array Value} {e:TypeId} {fz:Nat×Nat} (hB:w.heap[B]?=some (.cells c e fz)):w.cell? ⟨B,i,none⟩=c[i]?:=by
  simp [World.cell?,hB]
theorem load_row {b B o N sz off n:Nat} {ro:Bool} {cs:T AV} (hr:HR ρ h w) (he:ρ b=some (B,o,N)) (hb:hget h b=.live ro sz cs) (hn:off+n≤sz) :
    ∃us:List Value,(loadCells ⟨B,o+off,none⟩ n).run P w=.ok ⟨us⟩ w∧VL ρ ((List.range n).map fun j=>cget cs (off+j)) us∧(∀u∈us,u.oneCell'=true)∧us.length=n ∧
      ∀j u,us[j]?=some u→w.cell? ((⟨B,o+off,none⟩:Addr).add j)=some u:=by
  obtain⟨c,e,fz,h1,h2,h3,h4,h5⟩:=hr.live he hb
  have hcell:∀j,j<n→∃u,w.cell? ((⟨B,o+off,none⟩:Addr).add j)=some u∧VR ρ (cget cs (off+j)) u∧u.oneCell'=true:=by
    intro j hj
    obtain⟨u,a1,a2,a3⟩:=h5 (off+j) (by omega)
    refine⟨u,?_,a2,a3⟩
    rw[Addr.add_none,cell_at h1,Nat.add_assoc];exact a1
  let f:Nat→Value:=fun j=>(w.cell? ((⟨B,o+off,none⟩:Addr).add j)).getD undef
  have hf:∀j,j<n→w.cell? ((⟨B,o+off,none⟩:Addr).add j)=some (f j):=by
    intro j hj
    obtain⟨u,a1,_⟩:=hcell j hj
    show _=some (Option.getD _ _)
    rw[a1];rfl
  refine⟨(List.range n).map f,?_,?_,?_,by simp,?_⟩
  · rw[run_loadCells w _ n f hf]
  · refine VL.mk (by simp) fun i a hi=>?_
    have hi':i<n:=by
      have:=(List.getElem?_eq_some_iff.1 hi).1;simpa using this
    simp [hi']at hi ⊢
    subst hi
    obtain⟨u,a1,a2,_⟩:=hcell i hi'
    have:=hf i hi'
    rw[a1]at this
    cases this
    exact a2
  · intro u hu
    obtain⟨j,hj,rfl⟩:=List.mem_map.1 hu
    obtain⟨u,a1,_,a3⟩:=hcell j (List.mem_range.1 hj)
    have:=hf j (List.mem_range.1 hj)
    rw[a1]at this
    cases this
    exact a3
  · intro j u hu
    have hj:j<n:=by have:=(List.getElem?_eq_some_iff.1 hu).1;simpa using this
    simp [hj]at hu
    subst hu
    exact hf j hj
theorem load_row' {b B o N sz off n:Nat} {ro:Bool} {cs:T AV} {a:Addr} (hr:HR ρ h w) (he:ρ b=some (B,o,N)) (hb:hget h b=.live ro sz cs) (hn:off+n≤sz) (ha:a=⟨B,o+off,none⟩∨n=0) :
    ∃us:List Value,(loadCells a n).run P w=.ok ⟨us⟩ w∧VL ρ ((List.range n).map fun j=>cget cs (off+j)) us∧(∀u∈us,u.oneCell'=true)∧us.length=n:=by
  rcases ha with rfl|rfl
  · obtain⟨us,h1,h2,h3,h4,_⟩:=load_row (P:=P) hr he hb hn
    exact⟨us,h1,h2,h3,h4⟩
  · exact⟨[],by simp [loadCells,loadCellsFrom],VL.nil,by simp,rfl⟩
noncomputable def spl (c:Array Value) (i:Nat) (vs:List Value):Array Value:=⟨c.toList.take i++vs++c.toList.drop (i+vs.length)⟩
theorem spl_size (c:Array Value) (i:Nat) (vs:List Value) (h:i+vs.length≤c.size):(spl c i vs).size=c.size:=by
  simp [spl];omega
theorem spl_get (c:Array Value) (i:Nat) (vs:List Value) (h:i+vs.length≤c.size) (j:Nat):(spl c i vs)[j]?=if i≤j∧j<i+vs.length then vs[j-i]? else c[j]?:=by
  unfold spl
  rw[←Array.getElem?_toList]
  simp only[List.append_assoc]
  rw[List.getElem?_append]
  have hl:(c.toList.take i).length=i:=by simp;omega
  rw[hl]
  by_cases h1:j<i
  · rw[if_pos h1,if_neg (by omega),List.getElem?_take,if_pos h1,Array.getElem?_toList]
  · rw[if_neg h1,List.getElem?_append]
    by_cases h2:j<i+vs.length
    · rw[if_pos (by omega),if_pos (by omega)]
    · rw[if_neg (by omega),if_neg (by omega),List.getElem?_drop,show i+vs.length+(j-i-vs.length)=j by omega,Array.getElem?_toList]
theorem spl_nil (c:Array Value) (i:Nat):spl c i []=c:=by
  unfold spl
  simp
theorem run_storeRow (B:Nat) (e:TypeId) (fz:Nat×Nat):∀(vs:List Value) (off i:Nat) (c:Array Value) (w:World),w.heap[B]?=some (.cells c e fz)→off+i+vs.length≤c.size →
    (∀j,j<c.size→¬(fz.1≤j∧j<fz.2))→(∀u∈vs,u.oneCell'=true) →
    (storeCells ⟨B,off,none⟩ vs i).run P w=.ok () { w with heap:=w.heap.setIfInBounds B (.cells (spl c (off+i) vs) e fz) }
  | [],off,i,c,w,h1,_,_,_=>by
    have:w.heap.setIfInBounds B (.cells (spl c (off+i) []) e fz)=w.heap:=by
      rw[spl_nil]
      apply Array.ext_getElem?
      intro j
      by_cases hj:j=B
      · subst hj
        rw[Array.getElem?_setIfInBounds_self_of_lt (Array.getElem?_eq_some_iff.1 h1).1,h1]
      · rw[Array.getElem?_setIfInBounds_ne (Ne.symm hj)]
    rw[this]
    simp [storeCells]
  |v::vs,off,i,c,w,h1,h2,h3,h4=>by
    have hB:=(Array.getElem?_eq_some_iff.1 h1).1
    have hlt:off+i<c.size:=by simp at h2;omega
    have hc:w.cell? ((⟨B,off,none⟩:Addr).add i)=some c[off+i]:=by rw[Addr.add_none,cell_at h1];simp [hlt]
    have hf:w.frozen? ((⟨B,off,none⟩:Addr).add i)=false:=by
      rw[Addr.add_none]
      have:=h3 (off+i) hlt
      simp only[World.frozen?,h1]
      simp only[not_and,Nat.not_lt]at this
      by_cases hh:fz.1≤off+i
      · simp [hh,this hh]
      · simp [hh]
    have hset:w.setCell ((⟨B,off,none⟩:Addr).add i) v={ w with heap:=w.heap.setIfInBounds B (.cells (c.setIfInBounds (off+i) v) e fz) }:=by
      rw[Addr.add_none]
      simp only[World.setCell]
      congr 1
      apply Array.ext_getElem?
      intro j
      rw[Array.getElem?_modify]
      by_cases hj:B=j
      · subst hj
        rw[if_pos rfl,h1,Array.getElem?_setIfInBounds_self_of_lt hB]
        simp
      · rw[if_neg hj,Array.getElem?_setIfInBounds_ne hj]
    have hs:=run_store P w ((⟨B,off,none⟩:Addr).add i) v .plain (h4 v (by simp))
    rw[hc]at hs
    simp only[hf,Bool.false_eq_true,if_false]at hs
    have ih:=run_storeRow B e fz vs off (i+1) (c.setIfInBounds (off+i) v) { w with heap:=w.heap.setIfInBounds B (.cells (c.setIfInBounds (off+i) v) e fz) }
      (Array.getElem?_setIfInBounds_self_of_lt hB) (by simp at h2 ⊢;omega) (by simpa using h3) (fun u hu=>h4 u (by simp [hu]))
    unfold storeCells
    simp only[Sem.run_bind,hs,Result.andThen_ok,hset]
    rw[ih]
    congr 2
    apply Array.ext_getElem?
    intro j
    by_cases hj:B=j
    · subst hj
      rw[Array.getElem?_setIfInBounds_self_of_lt (by simpa using hB),Array.getElem?_setIfInBounds_self_of_lt hB]
      congr 2
      apply Array.ext_getElem?
      intro m
      rw[spl_get _ _ _ (by simp at h2 ⊢;omega),spl_get _ _ _ (by simpa [Nat.add_assoc] using h2)]
      simp only[List.length_cons]
      by_cases hm:m=off+i
      · subst hm
        rw[if_neg (by omega),if_pos (by omega),Array.getElem?_setIfInBounds_self_of_lt hlt]
        simp
      · rw[Array.getElem?_setIfInBounds_ne (Ne.symm hm)]
        by_cases hm2:off+(i+1)≤m∧m<off+(i+1)+vs.length
        · rw[if_pos hm2,if_pos (by omega)]
          obtain⟨q,hq⟩:∃q,m-(off+i)=q+1:=⟨m-(off+i)-1,by omega⟩
          rw[hq,show m-(off+(i+1))=q by omega]
          simp
        · rw[if_neg hm2,if_neg (by omega)]
    · rw[Array.getElem?_setIfInBounds_ne hj,Array.getElem?_setIfInBounds_ne hj,Array.getElem?_setIfInBounds_ne hj]
theorem store_row {b B o N sz off:Nat} {cs:T AV} {l:List AV} {us:List Value} {a:Addr} (hr:HR ρ h w) (he:ρ b=some (B,o,N)) (hb:hget h b=.live false sz cs) (hn:off+l.length≤sz)
    (hv:VL ρ l us) (ho:∀u∈us,u.oneCell'=true) (ha:a=⟨B,o+off,none⟩∨l=[]) :
    ∃w',(storeCells a us).run P w=.ok () w'∧St ρ ρ h ⟨h.nx,trSet Deep.d b h.m (.live false sz (csetsD l cs off))⟩ w w':=by
  obtain⟨c,e,fz,h1,h2,h3,h4,h5⟩:=hr.live he hb
  have hlen:=hv.length
  have key:St ρ ρ h ⟨h.nx,trSet Deep.d b h.m (.live false sz (csetsD l cs off))⟩ w { w with heap:=w.heap.setIfInBounds B (.cells (spl c (o+off) us) e fz) }:=by
    refine St.write hr he (by rw[hb];trivial) ?_ trivial
    have hB:=(Array.getElem?_eq_some_iff.1 h1).1
    refine⟨spl c (o+off) us,e,fz,Array.getElem?_setIfInBounds_self_of_lt hB,?_,h3,h4,fun i hi=>?_⟩
    · rw[spl_size _ _ _ (by omega)];exact h2
    · rw[cget_csets,spl_get _ _ _ (by omega)]
      by_cases hi2:off≤i∧i<off+l.length
      · rw[if_pos hi2,if_pos (by omega)]
        obtain⟨u,hu,hvu⟩:=hv.get (i-off) (l[i-off]'(by omega)) (by simp)
        refine⟨u,?_,?_,ho u (List.mem_of_getElem? hu)⟩
        · rw[show o+i-(o+off)=i-off by omega];exact hu
        · rw[List.getD_eq_getElem?_getD,List.getElem?_eq_getElem (by omega)];exact hvu
      · rw[if_neg hi2,if_neg (by omega)]
        exact h5 i hi
  rcases ha with rfl|rfl
  · refine⟨_,?_,key⟩
    have:=run_storeRow (P:=P) B e fz us (o+off) 0 c w h1 (by omega) (fun j hj hh=>by have:=h4 rfl;rw[h2]at hj;omega) ho
    simpa using this
  · have hus:us=[]:=List.eq_nil_of_length_eq_zero (by simpa using hlen)
    subst hus
    refine⟨_,?_,key⟩
    have hB:=(Array.getElem?_eq_some_iff.1 h1).1
    have:w.heap.setIfInBounds B (.cells (spl c (o+off) []) e fz)=w.heap:=by
      rw[spl_nil]
      apply Array.ext_getElem?
      intro j
      by_cases hj:j=B
      · subst hj
        rw[Array.getElem?_setIfInBounds_self_of_lt hB,h1]
      · rw[Array.getElem?_setIfInBounds_ne (Ne.symm hj)]
    rw[this]
    simp [storeCells]
noncomputable def blkOf (l:List AV):Blk:=.live false l.length (csetsD l .e 0)
theorem newB_val {x:Blk} {k:Nat→H→RV} {v:AV} {h':H} (e:newB h x k=.val v h'):h.nx<mostBlocks∧k h.nx ⟨h.nx+1,trSet Deep.d h.nx h.m x⟩=.val v h':=by
  unfold newB at e
  obtain⟨h1,e⟩:=ifB_t e
  rw[forceN_eq]at e
  unfold putB at e
  rw[trP_eq]at e
  exact⟨ble_true.1 h1,e⟩
theorem newBlk_val {l:List AV} {k:Nat→H→RV} {v:AV} {h':H} (e:newBlk h l k=.val v h'):h.nx<mostBlocks∧k h.nx ⟨h.nx+1,trSet Deep.d h.nx h.m (blkOf l)⟩=.val v h':=by
  unfold newBlk at e
  rw[csets_eq,forceN_eq,llen_eq]at e
  exact newB_val e
theorem setB_eq (b:Nat) (x:Blk) (k:H→RV):setB h b x k=k ⟨h.nx,trSet Deep.d b h.m x⟩:=by
  unfold setB putB;rw[trP_eq]
theorem new_rowF {l:List AV} {us rest:List Value} {e:TypeId} {fz:Nat×Nat} (hr:HR ρ h w) (hn:ρ h.nx=none) (hm:h.nx<mostBlocks) (hv:VL ρ l us) (ho:∀u∈us,u.oneCell'=true)
    (hf:fz.1=fz.2∨us.length+rest.length≤fz.1) :
    St ρ (ρ.add h.nx (w.heap.size,0,us.length+rest.length)) h ⟨h.nx+1,trSet Deep.d h.nx h.m (blkOf l)⟩ w { w with heap:=w.heap.push (.cells ⟨us++rest⟩ e fz) }:=by
  have hlen:=hv.length
  refine St.push hr hn hm ⟨⟨us++rest⟩,e,fz,?_,by simp,by omega,fun _=>hf,fun i hi=>?_⟩ trivial
  · simp
  · rw[cget_csets,if_pos (by omega)]
    obtain⟨u,hu,hvu⟩:=hv.get i (l[i]) (by simp)
    refine⟨u,?_,?_,ho u (List.mem_of_getElem? hu)⟩
    · have hlt:=(List.getElem?_eq_some_iff.1 hu).1
      show(⟨us++rest⟩:Array Value)[0+i]?=some u
      rw[Nat.zero_add,←Array.getElem?_toList,List.getElem?_append_left hlt];exact hu
    · rw[Nat.sub_zero,List.getD_eq_getElem?_getD,List.getElem?_eq_getElem hi]
      exact VR.mono (Ren.le_add _ hn) _ _ hvu
theorem new_row {l:List AV} {us rest:List Value} {e:TypeId} (hr:HR ρ h w) (hn:ρ h.nx=none) (hm:h.nx<mostBlocks) (hv:VL ρ l us) (ho:∀u∈us,u.oneCell'=true) :
    St ρ (ρ.add h.nx (w.heap.size,0,us.length+rest.length)) h ⟨h.nx+1,trSet Deep.d h.nx h.m (blkOf l)⟩ w { w with heap:=w.heap.push (.cells ⟨us++rest⟩ e) } :=
  new_rowF hr hn hm hv ho (.inl rfl)
theorem new_row' {l:List AV} {us:List Value} {e:TypeId} (hr:HR ρ h w) (hn:ρ h.nx=none) (hm:h.nx<mostBlocks) (hv:VL ρ l us) (ho:∀u∈us,u.oneCell'=true) :
    St ρ (ρ.add h.nx (w.heap.size,0,us.length)) h ⟨h.nx+1,trSet Deep.d h.nx h.m (blkOf l)⟩ w { w with heap:=w.heap.push (.cells ⟨us⟩ e) }:=by
  have:=new_row (rest:=[]) (e:=e) hr hn hm hv ho
  simpa using this
theorem run_newRow {e:TypeId} {cs:Array Value}:(newRow e cs).run P w=.ok ⟨w.heap.size,0,none⟩ { w with heap:=w.heap.push (.cells cs e) }:=by
  simp [newRow]
theorem VR_new {b N:Nat} (B:Nat):VR (ρ.add b (B,0,N)) (.ptr b 0) (.pointer (some ⟨B,0,none⟩)):=VR_ptr.2 ⟨B,0,N,Ren.add_same _ _ _,rfl⟩
end
end Go.Eng
namespace Go.Eng
set_option autoImplicit false
variable [Deep] [Env]
def OpOK (P:Program) (ρ:Ren) (h:H) (w:World) (s:Sem Next) (v:AV) (h':H):Prop :=
  ∃nx u ρ' w',s.run P w=.ok nx w'∧(nx=.value u∨(nx=.skip∧u=undef))∧VR ρ' v u∧St ρ ρ' h h' w w'
section
variable {P:Program} {ρ:Ren} {h h':H} {w:World} {v:AV}
theorem OpOK.ofV {s:Sem Value} (x:VOK P ρ h w s v h'):OpOK P ρ h w (do pure (.value (←s))) v h':=by
  obtain⟨u,ρ',w',h1,h2,h3⟩:=x
  exact⟨.value u,u,ρ',w',by simp [h1],.inl rfl,h2,h3⟩
theorem OpOK.value {u:Value} (hr:HR ρ h w) (hv:VR ρ v u):OpOK P ρ h w (pure (.value u)) v h :=
  ⟨.value u,u,ρ,w,rfl,.inl rfl,hv,St.refl hr⟩
section
variable {fr:Fr} {a:Act} {call:Caller}
abbrev Rel1 (P:Program) (ρ:Ren) (fr:Fr) (a:Act) (x:Operand):Prop:=VR ρ (ov P fr x) (a.eval x)
theorem move_ok {x:Operand} (hr:HR ρ h w) (hx:Rel1 P ρ fr a x) (e:(eMove P x).f call fr h=.val v h'):OpOK P ρ h w (pure (.value (a.eval x))) v h':=by
  have e:=(mkV_eq (ov P fr x) h).symm.trans e
  cases e
  exact .value hr hx
theorem pick_ok {c x y:Operand} (hr:HR ρ h w) (hc:Rel1 P ρ fr a c) (hx:Rel1 P ρ fr a x) (hy:Rel1 P ρ fr a y) (e:(ePick P c x y).f call fr h=.val v h') :
    OpOK P ρ h w (do pure (.value (if ←Go.asBool (a.eval c) then a.eval x else a.eval y))) v h':=by
  obtain⟨b,hb,e⟩:=asBoolV_val (show asBoolV (ov P fr c) (fun c=>ifB c (mkV (ov P fr x) h) (mkV (ov P fr y) h))=.val v h' from e)
  unfold Rel1 at hc
  rw[hb]at hc
  have hc:=VR_bool.1 hc
  rw[mkV_eq,mkV_eq]at e
  cases b with
  |true=>rw[ifB_true]at e;cases e;exact⟨_,_,ρ,w,by simp [hc,Go.asBool],.inl rfl,hx,St.refl hr⟩
  |false=>rw[ifB_false]at e;cases e;exact⟨_,_,ρ,w,by simp [hc,Go.asBool],.inl rfl,hy,St.refl hr⟩
theorem alloc_ok {t:TypeId} (hr:HR ρ h w) (hn:ρ h.nx=none) (e:(eAlloc P t).f call fr h=.val v h'):VOK P ρ h w (Instr.alloc t true (.tuple #[])) v h':=by
  unfold eAlloc at e
  cases hz:zeroT P t with
  |none=>rw[hz]at e;exact(fail_val e).elim
  |some z =>
    rw[hz]at e
    obtain⟨hm,e⟩:=newBlk_val e
    cases e
    obtain⟨i,u,h1,h2,h3,h4,h5⟩:=zero_rel ρ hz
    obtain⟨q1,q2⟩:=cells_rel h3 (cellsA_of h4)
    refine⟨_,_,_,?_,VR_new w.heap.size,new_row' (e:=t) hr hn hm q1 q2⟩
    simp [Instr.alloc,run_zero h1 h2,newVar,run_newRow]
theorem box_ok {t:TypeId} {x:Operand} (hr:HR ρ h w) (hn:ρ h.nx=none) (hx:Rel1 P ρ fr a x) (e:(eBox P x).f call fr h=.val v h'):VOK P ρ h w (Instr.box t (a.eval x)) v h':=by
  have e:forceV (ov P fr x) (fun a=>cellsK a fun l=>newBlk h l fun b h=>.val (.ptr b 0) h)=.val v h':=e
  rw[forceV_eq]at e
  obtain⟨l,hl,e⟩:=cellsK_val e
  obtain⟨hm,e⟩:=newBlk_val e
  cases e
  obtain⟨q1,q2⟩:=cells_rel hx hl
  refine⟨_,_,_,?_,VR_new w.heap.size,new_row' (e:=t) hr hn hm q1 q2⟩
  simp [Instr.box,newVar,run_newRow]
theorem loadAt_ok {t:TypeId} {agg:Bool} {s c b off:Nat} {ad:Value} (ht:tyOf P t=some (s,c,agg)) (hr:HR ρ h w) (hx:VR ρ (.ptr b off) ad)
    (e:loadAt agg (ifB agg s 1) b off h=.val v h'):h'=h∧∃u,(Instr.loadAt t ad).run P w=.ok u w∧VR ρ v u:=by
  obtain⟨B,o,N,he,rfl⟩:=VR_ptr.1 hx
  obtain⟨ro,sz,cs,hb,e⟩:=withB_val e
  have run:∀{u:Value},(loadVar t ⟨B,o+off,none⟩).run P w=.ok u w→(Instr.loadAt t (.pointer (some ⟨B,o+off,none⟩))).run P w=.ok u w:=by
    intro u hu;simp [Instr.loadAt,Instr.sureAddr,hu]
  cases agg with
  |true =>
    rw[ifB_true]at e
    obtain⟨hn,e⟩:=ifB_t e
    rw[cgets_eq]at e
    cases e
    obtain⟨us,h1,h2,h3,_⟩:=load_row (P:=P) hr he hb (ble_true.1 hn)
    refine⟨rfl,.agg ⟨us⟩,run ?_,VR_agg.2 ⟨us,rfl,h2,h3⟩⟩
    simp only[loadVar,Sem.run_bind,run_isAgg ht,Result.andThen_ok,if_true,run_size ht]
    rw[ifB_true]at h1
    simp [h1]
  |false =>
    rw[ifB_false]at e
    obtain⟨hn,e⟩:=ifB_t e
    rw[mkV_eq]at e
    cases e
    obtain⟨c,e,fz,h1,h2,h3,h4,h5⟩:=hr.live he hb
    obtain⟨u,a1,a2,_⟩:=h5 off (ble_true.1 hn)
    refine⟨rfl,u,run ?_,a2⟩
    have:w.cell? ⟨B,o+off,none⟩=some u:=by rw[cell_at h1];exact a1
    simp [loadVar,run_isAgg ht,this]
theorem loadA_ok {t:TypeId} {x:AV} {ad:Value} (hr:HR ρ h w) (hx:VR ρ x ad) (e:(loadA P t).f x h=.val v h'):h'=h∧∃u,(Instr.loadAt t ad).run P w=.ok u w∧VR ρ v u:=by
  unfold loadA at e
  cases ht:tyOf P t with
  |none=>rw[ht]at e;exact(fail_val e).elim
  |some y =>
    obtain⟨s,c,agg⟩:=y
    rw[ht]at e
    simp only[forceN_eq]at e
    cases agg with
    |true =>
      obtain⟨b,o,rfl,e⟩:=asPtr_val (show asPtr x (fun b off=>loadAt true s b off h)=.val v h' from e)
      exact loadAt_ok ht hr hx e
    |false =>
      obtain⟨b,o,rfl,e⟩:=asPtr_val (show asPtr x (fun b off=>loadAt false 1 b off h)=.val v h' from e)
      exact loadAt_ok ht hr hx e
theorem storeAt_ok {t:TypeId} {x y:Operand} (hr:HR ρ h w) (hx:Rel1 P ρ fr a x) (hy:Rel1 P ρ fr a y) (e:(eStore P t x y).f call fr h=.val v h') :
    OpOK P ρ h w (do Instr.storeAt t (a.eval x) (a.eval y);pure .skip) v h':=by
  have e:forceV (ov P fr y) (fun v=>(storeA P t).f (ov P fr x) v h)=.val v h':=e
  rw[forceV_eq]at e
  unfold storeA at e
  cases ht:tyOf P t with
  |none=>rw[ht]at e;exact(fail_val e).elim
  |some z =>
    obtain⟨s,c,agg⟩:=z
    rw[ht]at e
    simp only[forceN_eq]at e
    obtain⟨b,off,hp,e⟩:=asPtr_val e
    unfold Rel1 at hx
    rw[hp]at hx
    obtain⟨B,o,N,he,hx⟩:=VR_ptr.1 hx
    obtain⟨l,hl,e⟩:=cellsK_val e
    obtain⟨q1,q2⟩:=cells_rel hy hl
    unfold storeAt at e
    obtain⟨ro,sz,cs,hb,e⟩:=withB_val e
    obtain⟨hro,e⟩:=ifB_f e
    subst hro
    obtain⟨hsz,e⟩:=ifB_t e
    obtain⟨hfit,e⟩:=ifB_t e
    rw[csets_eq,setB_eq]at e
    cases e
    have hlen:l.length=s:=by rw[←beq_true.1 hsz,llen_eq]
    obtain⟨w',h1,h2⟩:=store_row (P:=P) hr he hb (by rw[hlen];exact ble_true.1 hfit) q1 q2 (.inl rfl)
    refine⟨.skip,undef,ρ,w',?_,.inr ⟨rfl,rfl⟩,VR_und,h2⟩
    have hcs:(a.eval y).cells.size=s:=by have:=q1.length;simp at this;omega
    simp [Instr.storeAt,Instr.sureAddr,hx,storeVar,run_size ht,hcs,h1]
theorem nilChk_ok {x:AV} {u:Value} (hx:VR ρ x u) (e:nilChk x h=.val v h'):h'=h∧v=x∧((∃b o,x=.ptr b o)∨∃f p q,x=.func f p q):=by
  cases x<;>first|exact(fail_val e).elim|skip
  · cases e;exact⟨rfl,rfl,.inl ⟨_,_,rfl⟩⟩
  · cases e;exact⟨rfl,rfl,.inr ⟨_,_,_,rfl⟩⟩
theorem fieldAddr_ok {s:TypeId} {x:Operand} {f:Nat} (hr:HR ρ h w) (hx:Rel1 P ρ fr a x) (e:(eFieldAddr P s x f).f call fr h=.val v h'):VOK P ρ h w (Instr.fieldAt s (a.eval x) f) v h':=by
  unfold eFieldAddr at e
  cases htd:tdOf P s<;>rw[htd]at e<;>first|exact(fail_val e).elim|skip
  rename_i fs
  obtain⟨F,hu,hfs⟩:=td_struct htd
  have e:(Option.rec (motive:=fun _=>E) (eFail 60) (fun fd=>ifB (Nat.beq fd.size 0) (eFail 60) (forceN fd.off fun fo=>⟨fun _ fr h=>asPtr ((operandR P x).f fr) fun b off=>forceN (Nat.add off fo) fun o=>.val (.ptr b o) h⟩)) (lget? fs f)).f call fr h=.val v h':=e
  cases hf:lget? fs f with
  |none=>rw[hf]at e;exact(fail_val e).elim
  |some fd =>
    rw[hf]at e
    have e:(ifB (Nat.beq fd.size 0) (eFail 60) (forceN fd.off fun fo=>⟨fun _ fr h=>asPtr ((operandR P x).f fr) fun b off=>forceN (Nat.add off fo) fun o=>.val (.ptr b o) h⟩)).f call fr h=.val v h':=e
    rw[lget?_eq]at hf
    obtain⟨g,c,h1,h2,h3,_,_⟩:=fds_get hfs f fd hf
    cases hz:Nat.beq fd.size 0 with
    |true=>rw[hz]at e;exact(fail_val e).elim
    |false =>
      rw[hz,ifB_false,forceN_eq]at e
      obtain⟨b,off,hp,e⟩:=asPtr_val e
      rw[forceN_eq]at e
      cases e
      have hx':VR ρ (.ptr b off) (a.eval x):=by rw[←hp];exact hx
      obtain⟨B,o,N,he,hx'⟩:=VR_ptr.1 hx'
      refine .same hr (u:=.pointer (some ⟨B,o+(off+fd.off),none⟩)) ?_ (VR_ptr.2 ⟨B,o,N,he,rfl⟩)
      have hg:F[f]?=some g:=by simpa using h1
      have hne:¬fd.size=0:=beq_false.1 hz
      simp [Instr.fieldAt,run_underlying hu,hg,hx',Instr.sureAddr,Go.fieldPlace,run_size h2,hne,Addr.add_none,h3,Nat.add_assoc]
theorem field_ok {s:TypeId} {x:Operand} {f:Nat} (hr:HR ρ h w) (hx:Rel1 P ρ fr a x) (e:(eField P s x f).f call fr h=.val v h'):VOK P ρ h w (Instr.field s (a.eval x) f) v h':=by
  unfold eField at e
  cases htd:tdOf P s<;>rw[htd]at e<;>first|exact(fail_val e).elim|skip
  rename_i fs
  obtain⟨F,hu,hfs⟩:=td_struct htd
  have e:(Option.rec (motive:=fun _=>E) (eFail 61) (fun fd=>⟨fun _ fr h=>asAgg ((operandR P x).f fr) fun cs=>osome 61 (partO fd.agg fd.size cs fd.off) fun x=>mkV x h⟩) (lget? fs f)).f call fr h=.val v h':=e
  cases hf:lget? fs f with
  |none=>rw[hf]at e;exact(fail_val e).elim
  |some fd =>
    rw[hf]at e
    have e:asAgg (ov P fr x) (fun cs=>osome 61 (partO fd.agg fd.size cs fd.off) fun x=>mkV x h)=.val v h':=e
    rw[lget?_eq]at hf
    obtain⟨g,c,h1,h2,h3,_,_⟩:=fds_get hfs f fd hf
    obtain⟨l,hp,e⟩:=asAgg_val e
    obtain⟨y,hy,e⟩:=osome_val e
    rw[mkV_eq]at e
    cases e
    have hx':VR ρ (.agg l) (a.eval x):=by rw[←hp];exact hx
    obtain⟨us,hx',q1,q2⟩:=VR_agg.1 hx'
    obtain⟨u,r1,r2⟩:=part_rel (P:=P) (w:=w) h2 q1 q2 hy
    refine .same hr (u:=u) ?_ r2
    have hg:F[f]?=some g:=by simpa using h1
    rw[h3]at r1
    simp [Instr.field,run_underlying hu,hg,hx',Go.asAgg,r1]
theorem idxTo_val {b off i n size:Nat} (e:idxTo b off i n size h=.val v h'):i<n∧h'=h∧v=.ptr b (off+i*size):=by
  unfold idxTo at e
  obtain⟨h1,e⟩:=ifB_t e
  rw[forceN_eq]at e
  cases e
  exact⟨ble_true.1 h1,rfl,rfl⟩
theorem indexAddr_ok {t:TypeId} {x i:Operand} (hr:HR ρ h w) (hx:Rel1 P ρ fr a x) (hi:Rel1 P ρ fr a i) (e:(eIndexAddr P t x i).f call fr h=.val v h'):VOK P ρ h w (Instr.indexAt t (a.eval x) (a.eval i)) v h':=by
  have e:(indexAddrA P t).f (ov P fr x) (ov P fr i) h=.val v h':=e
  unfold indexAddrA at e
  cases htd:tdOf P t<;>rw[htd]at e<;>first|exact(fail_val e).elim|skip
  case slice el size bytes =>
    obtain⟨hu,ag,he⟩:=td_slice htd
    obtain⟨kd,n,hp,hnn,e⟩:=intIdx_val (show intIdx (ov P fr i) _=.val v h' from e)
    have hi':VR ρ (.int kd n) (a.eval i):=by rw[←hp];exact hi
    obtain⟨_,hi'⟩:=VR_int.1 hi'
    rw[sgn_nneg hnn]at hi'
    rcases asSl_val e with ⟨_,e⟩|⟨b,off,len,cap,hq,e⟩
    · exact(fail_val e).elim
    · obtain⟨h1,rfl,rfl⟩:=idxTo_val e
      have hx':VR ρ (.slice b off len cap) (a.eval x):=by rw[←hq];exact hx
      obtain⟨B,o,N,c,ad,hb,hx',hlc,had,_⟩:=VR_slice.1 hx'
      have had:ad=⟨B,o+off,none⟩:=had.resolve_right (by omega)
      subst had
      refine .same hr (u:=.pointer (some ⟨B,o+(off+n*size),none⟩)) ?_ (VR_ptr.2 ⟨B,o,N,hb,rfl⟩)
      have hc:(0:Int)≤n∧(n:Int)<len:=by omega
      simp [Instr.indexAt,hi',asIntOf,run_underlying hu,hx',hc.1,h1,run_size he,Addr.add_none,Nat.add_assoc]
  case array m el size ag =>
    obtain⟨hu,by_,he⟩:=td_array htd
    obtain⟨kd,n,hp,hnn,e⟩:=intIdx_val (show intIdx (ov P fr i) _=.val v h' from e)
    have hi':VR ρ (.int kd n) (a.eval i):=by rw[←hp];exact hi
    obtain⟨_,hi'⟩:=VR_int.1 hi'
    rw[sgn_nneg hnn]at hi'
    obtain⟨b,off,hq,e⟩:=asPtr_val e
    obtain⟨h1,rfl,rfl⟩:=idxTo_val e
    have hx':VR ρ (.ptr b off) (a.eval x):=by rw[←hq];exact hx
    obtain⟨B,o,N,hb,hx'⟩:=VR_ptr.1 hx'
    refine .same hr (u:=.pointer (some ⟨B,o+(off+n*size),none⟩)) ?_ (VR_ptr.2 ⟨B,o,N,hb,rfl⟩)
    have hc:(0:Int)≤n∧(n:Int)<m:=by omega
    simp [Instr.indexAt,hi',asIntOf,run_underlying hu,hx',Instr.sureAddr,hc.1,h1,run_size he,Addr.add_none,Nat.add_assoc]
theorem extract_ok {x:Operand} {i:Nat} (hr:HR ρ h w) (hx:Rel1 P ρ fr a x) (e:(eExtract P x i).f call fr h=.val v h'):VOK P ρ h w (Instr.extract (a.eval x) i) v h':=by
  obtain⟨l,hp,e⟩:=asTup_val (show asTup (ov P fr x) _=.val v h' from e)
  obtain⟨y,hy,e⟩:=osome_val e
  rw[mkV_eq]at e
  cases e
  have hx':VR ρ (.tup l) (a.eval x):=by rw[←hp];exact hx
  obtain⟨us,hx',q1⟩:=VR_tup.1 hx'
  rw[lget?_eq]at hy
  obtain⟨u,hu,hv⟩:=q1.get i v hy
  refine .same hr (u:=u) ?_ hv
  have:(⟨us⟩:Array Value)[i]?=some u:=by simpa using hu
  simp [Instr.extract,hx',this]
end
end
end Go.Eng
namespace Go.Eng
set_option autoImplicit false
variable [Deep] [Env]
section
variable {P:Program} {ρ:Ren} {h h':H} {w:World} {v:AV} {fr:Fr} {a:Act} {call:Caller}
theorem int_of {i:Operand} {kd:IntKind} {n:Nat} (hi:Rel1 P ρ fr a i) (hp:ov P fr i=.int kd n) (hnn:nneg kd n=true):a.eval i=.int kd (n:Int):=by
  have hi':VR ρ (.int kd n) (a.eval i):=by rw[←hp];exact hi
  obtain⟨_,hi'⟩:=VR_int.1 hi'
  rwa [sgn_nneg hnn]at hi'
theorem index_ok {t:TypeId} {x i:Operand} (hr:HR ρ h w) (hx:Rel1 P ρ fr a x) (hi:Rel1 P ρ fr a i) (e:(eIndex P t x i).f call fr h=.val v h'):VOK P ρ h w (Instr.index t (a.eval x) (a.eval i)) v h':=by
  have e:(indexA P t).f (ov P fr x) (ov P fr i) h=.val v h':=e
  unfold indexA at e
  cases htd:tdOf P t<;>rw[htd]at e<;>first|exact(fail_val e).elim|skip
  case str =>
    obtain⟨kd,n,hp,hnn,e⟩:=intIdx_val (show intIdx (ov P fr i) _=.val v h' from e)
    have hi':=int_of hi hp hnn
    obtain⟨len,s,hq,e⟩:=asStr_val e
    obtain⟨h1,e⟩:=ifB_t e
    have h1:n<len:=ble_true.1 h1
    rw[mkI_eq]at e
    cases e
    have hx':VR ρ (.str len s) (a.eval x):=by rw[←hq];exact hx
    obtain⟨by_,hxe,rfl,rfl⟩:=VR_str.1 hx'
    have hlt:=(by_.data.toList[n]'h1).toNat_lt
    refine .same hr (u:=.int .u8 ((by_.data.toList[n]'h1).toNat:Int)) ?_ (VR_int.2 ⟨?_,?_⟩)
    · have hsz:n<by_.size:=by simpa using h1
      have hb:=ByteArray.getElem?_lt' by_ n hsz
      have hb2:by_[n]=by_.data.toList[n]'h1:=by simp [ByteArray.getElem_eq_getElem_data]
      rw[hb2]at hb
      simp [Instr.index,hi',asIntOf,run_underlying (td_str htd),hxe,hb]
    · rw[strAt_eq _ _ h1];exact hlt
    · rw[strAt_eq _ _ h1,lit_u8 hlt]
  case array m el size ag =>
    obtain⟨hu,c,he⟩:=td_array htd
    obtain⟨kd,n,hp,hnn,e⟩:=intIdx_val (show intIdx (ov P fr i) _=.val v h' from e)
    have hi':=int_of hi hp hnn
    obtain⟨l,hq,e⟩:=asAgg_val e
    obtain⟨h1,e⟩:=ifB_t e
    have h1:n<m:=ble_true.1 h1
    obtain⟨y,hy,e⟩:=osome_val e
    rw[mkV_eq]at e
    cases e
    have hx':VR ρ (.agg l) (a.eval x):=by rw[←hq];exact hx
    obtain⟨us,hx',q1,q2⟩:=VR_agg.1 hx'
    obtain⟨u,r1,r2⟩:=part_rel (P:=P) (w:=w) he q1 q2 hy
    refine .same hr (u:=u) ?_ r2
    have hc:(0:Int)≤n:=by omega
    have r1:(part el ⟨us⟩ (n*size)).run P w=.ok u w:=r1
    simp [Instr.index,hi',asIntOf,run_underlying hu,hx',hc,h1,run_size he,r1]
theorem push_list:∀(bs acc:List UInt8),(bs.foldl (fun(s:ByteArray) b=>s.push b) ⟨⟨acc⟩⟩)=⟨⟨acc++bs⟩⟩
  | [],acc=>by simp
  |b::bs,acc=>by
    have:(⟨⟨acc⟩⟩:ByteArray).push b=⟨⟨acc++[b]⟩⟩:=by simp [ByteArray.push]
    rw[List.foldl_cons,this,push_list bs (acc++[b])]
    simp
theorem VL_bytes_inv:∀{bs:List UInt8} {us:List Value},VL ρ (bs.map (fun b=>AV.int .u8 b.toNat)) us→us=bs.map fun b=>Value.int .u8 b.toNat
  | [],us,h=>by unfold VL at h;exact h
  |b::bs,us,h=>by
    obtain⟨u,r,rfl,h1,h2⟩:∃u r,us=u::r∧VR ρ (.int .u8 b.toNat) u∧VL ρ (bs.map (fun b=>AV.int .u8 b.toNat)) r:=by unfold VL at h;exact h
    obtain⟨_,rfl⟩:=VR_int.1 h1
    rw[lit_u8 b.toNat_lt,VL_bytes_inv h2];rfl
theorem VL_ints {l:List AV} {us:List Value} (h:VL ρ l us) (hk:∀x∈l,∃n,x=.int .u8 n):∀x∈l,∃n,x=.int .u8 n∧n<256:=by
  intro x hx
  obtain⟨n,rfl⟩:=hk x hx
  obtain⟨i,hi⟩:=List.getElem?_of_mem hx
  obtain⟨u,_,hv⟩:=h.get i _ hi
  exact⟨n,rfl,(VR_int.1 hv).1⟩
theorem bytesOf_kinds:∀{l:List AV} {k:Nat→RV},bytesOf l k=.val v h→∀x∈l,∃n,x=.int .u8 n
  | [],_,_=>by simp
  |x::l,k,e=>by
    intro y hy
    have e0:bytesOf (x::l) k=(AV.rec (motive_1:=fun _=>((Nat→RV)→RV)→(Nat→RV)→RV) (motive_2:=fun _=>PUnit) (fun _ _ _=>.fail 21) (fun kd n ih k=>ifB (keq kd .u8) (ih fun m=>forceN (Nat.add n (Nat.mul 256 m)) k) (.fail 21)) (fun _ _ _ _=>.fail 21) (fun _ _=>.fail 21) (fun _ _ _ _=>.fail 21) (fun _ _=>.fail 21) (fun _ _ _ _ _ _=>.fail 21) (fun _ _ _ _ _ _ _=>.fail 21) (fun _ _=>.fail 21) (fun _ _ _ _ _=>.fail 21) (fun _ _=>.fail 21) (fun _ _ _ _=>.fail 21) (fun _ _ _ _=>.fail 21) (fun _ _ _=>.fail 21) (fun _ _=>.fail 21) (fun _ _ _ _ _=>.fail 21) (fun _ _ _ _=>.fail 21) PUnit.unit (fun _ _ _ _=>PUnit.unit) x:((Nat→RV)→RV)→(Nat→RV)→RV) (bytesOf l) k:=rfl
    rw[e0]at e
    cases x with
    |int kd n =>
      obtain⟨hk,e2⟩:=ifB_t (show ifB (keq kd .u8) (bytesOf l fun m=>forceN (Nat.add n (Nat.mul 256 m)) k) (.fail 21)=.val v h from e)
      obtain rfl:=(keq_iff kd .u8).1 hk
      rcases List.mem_cons.1 hy with rfl|hy
      · exact⟨n,rfl⟩
      · exact bytesOf_kinds e2 y hy
    |_=>exact(fail_val e).elim
theorem run_toString {bs:List UInt8} {ad:Addr} {len c:Nat} (hl:(loadCells ad len).run P w=.ok ⟨bs.map fun b=>Value.int .u8 b.toNat⟩ w) :
    (Conv.bytesToString (.slice (some ad) len c)).run P w=.ok (.string ⟨⟨bs⟩⟩) w:=by
  simp only[Conv.bytesToString,Sem.run_bind,hl,Result.andThen_ok]
  rw[←Array.forIn_toList]
  have key:∀(bs:List UInt8) (acc:ByteArray),(forIn (bs.map fun b=>Value.int .u8 b.toNat) acc (fun c s=>(match c with
      |.int .u8 n=>pure (ForInStep.yield (s.push (UInt8.ofNat n.toNat)))
      |_=>stuck "bytesToString: byte expected" : Sem (ForInStep ByteArray)))).run P w=.ok (bs.foldl (fun s b=>s.push b) acc) w:=by
    intro bs
    induction bs with
    |nil=>intro acc;simp
    |cons b bs ih =>
      intro acc
      simp only[List.map_cons,List.forIn_cons,Sem.run_bind,List.foldl_cons]
      have:UInt8.ofNat (Int.toNat (b.toNat:Int))=b:=by simp
      simp only[this,Sem.run_pure,Result.andThen_ok]
      exact ih _
  have h2:=key bs ByteArray.empty
  have h3:bs.foldl (fun(s:ByteArray) b=>s.push b) ByteArray.empty=⟨⟨bs⟩⟩:=push_list bs []
  rw[h3]at h2
  have e:((⟨bs.map fun b=>Value.int .u8 b.toNat⟩:Array Value).toList)=bs.map fun b=>Value.int .u8 b.toNat:=rfl
  rw[e]
  have h4:∀{s:Sem ByteArray},s.run P w=.ok ⟨⟨bs⟩⟩ w→(s.run P w).andThen (fun r w'=>(pure (.string r):Sem Value).run P w')=.ok (.string ⟨⟨bs⟩⟩) w:=by
    intro s hs;rw[hs];rfl
  refine h4 ?_
  exact h2
theorem isU8_und {e:TypeId} (h:isU8 P e=true):P.underlying e=some (.int .u8):=by
  unfold isU8 at h
  cases htd:tdOf P e<;>rw[htd]at h<;>first|(cases h;done)|skip
  rename_i k
  obtain rfl:=(keq_iff k .u8).1 h
  exact td_int htd
theorem toStr_ok {src dst:TypeId} {x:AV} {u:Value} (hr:HR ρ h w) (hx:VR ρ x u) (hd:P.underlying dst=some .string) (e:(toStr P src).f x h=.val v h') :
    h'=h∧∃r,(convert src dst u).run P w=.ok r w∧VR ρ v r:=by
  unfold toStr at e
  cases htd:tdOf P src<;>rw[htd]at e<;>first|exact(fail_val e).elim|skip
  case str =>
    cases x with
    |str n s =>
      cases e
      obtain⟨b,rfl,h1,h2⟩:=VR_str.1 hx
      exact⟨rfl,.string b,by simp [convert,run_underlying (td_str htd),run_underlying hd],hx⟩
    |_=>exact(fail_val e).elim
  case slice el s c =>
    have h3:=(td_slice htd).1
    have e:(ifB (isU8 P el) (⟨toStrB⟩:Bx (AV→H→RV)) ⟨fun _ _=>.fail 24⟩).f x h=.val v h':=e
    cases hu8:isU8 P el with
    |false=>rw[hu8]at e;exact(fail_val e).elim
    |true =>
      rw[hu8,ifB_true]at e
      have h4:=isU8_und hu8
      cases x with
      |nilslice =>
        cases e
        obtain rfl:=VR_nilslice.1 hx
        exact⟨rfl,.string ByteArray.empty,by simp [convert,run_underlying h3,run_underlying hd,run_underlying h4,Conv.bytesToString],VR_str.2 ⟨ByteArray.empty,rfl,rfl,rfl⟩⟩
      |slice b o l c =>
        obtain⟨ro,sz,cs,hb,e⟩:=withB_val (show withB h b (fun _ sz cs=>ifB (Nat.ble (Nat.add o l) sz) (cgets cs l o fun l'=>bytesOf l' fun v=>.val (.str l v) h) (.fail 22))=.val v h' from e)
        obtain⟨hfit,e⟩:=ifB_t e
        rw[cgets_eq]at e
        obtain⟨B,o',N,cp,ad,hbb,rfl,hlc,had,_⟩:=VR_slice.1 hx
        have had' : ad = ⟨B, o' + o, none⟩ ∨ l = 0 := by rcases had with h | h
                                                         · exact .inl h
                                                         · exact .inr (by omega)
        obtain⟨us,h1,h2,_,_⟩:=load_row' (P:=P) hr hbb hb (ble_true.1 hfit) had'
        have hk:=VL_ints h2 (bytesOf_kinds e)
        obtain⟨bs,hbs|hbs⟩:=bytesOf_val e
        · obtain⟨hbs,e⟩:=hbs
          cases e
          rw[hbs]at h2
          have hus:=VL_bytes_inv h2
          subst hus
          refine⟨rfl,.string ⟨⟨bs⟩⟩,?_,VR_str.2 ⟨⟨⟨bs⟩⟩,rfl,?_,rfl⟩⟩
          · rw[run_convert_bytes_string w src dst el _ _ _ h3 h4 hd]
            exact run_toString h1
          · have:=congrArg List.length hbs
            simpa using this.symm
        · exact absurd hk hbs
      |_=>exact(fail_val e).elim
theorem mark_ok {b B o N off:Nat} {cs:T AV} {sz:Nat} (hr:HR ρ h w) (he:ρ b=some (B,o,N)) (hb:hget h b=.live false sz cs) :
    ∃w',(markStringish ⟨B,o+off,none⟩).run P w=.ok () w'∧St ρ ρ h h w w':=by
  obtain⟨cc,e,fz,h1,h2,h3,h4,h5⟩:=hr.live he hb
  have hB:=(Array.getElem?_eq_some_iff.1 h1).1
  have hh:∀x,hget ⟨h.nx,trSet Deep.d b h.m (.live false sz cs)⟩ x=if x=b then .live false sz cs else hget ⟨h.nx,trSet Deep.d b h.m (.live false sz cs)⟩ x:=by
    intro x
    by_cases hx:x=b
    · subst hx;rw[if_pos rfl,hget_set (hr.dom _ _ he) (hr.dom _ _ he),if_pos rfl]
    · rw[if_neg hx]
  let fz':Nat×Nat:=if fz.1 == fz.2 then(cc.size,cc.size+1) else(min fz.1 cc.size,max fz.2 (cc.size+1))
  have hf:fz'.1=fz'.2∨N≤fz'.1:=by
    right
    show N≤(if fz.1 == fz.2 then(cc.size,cc.size+1) else(min fz.1 cc.size,max fz.2 (cc.size+1))).1
    split
    · simp [h2]
    · rename_i hne
      have:=(h4 rfl).resolve_left (by simpa using hne)
      simp only
      omega
  have hw:∃w',(markStringish ⟨B,o+off,none⟩).run P w=.ok () w'∧w'={ w with heap:=w.heap.setIfInBounds B (.cells cc e fz') }:=by
    refine⟨_,?_,rfl⟩
    have hsh:w.shape? B=some (e,cc.size):=by simp [World.shape?,h1]
    simp only[markStringish,Sem.run_bind,run_shape,hsh,Result.andThen_ok,run_freeze]
    congr 1
    simp only[World.freeze,Nat.succ_ne_zero,if_false]
    congr 1
    apply Array.ext_getElem?
    intro j
    rw[Array.getElem?_modify]
    by_cases hj:B=j
    · subst hj
      rw[if_pos rfl,h1,Array.getElem?_setIfInBounds_self_of_lt hB]
      rfl
    · rw[if_neg hj,Array.getElem?_setIfInBounds_ne hj]
  obtain⟨w',hw1,rfl⟩:=hw
  refine⟨_,hw1,?_⟩
  have st:=St.write (obj:=.cells cc e fz') hr he (by rw[hb];trivial) (x:=.live false sz cs) ⟨cc,e,fz',Array.getElem?_setIfInBounds_self_of_lt hB,h2,h3,fun _=>hf,h5⟩ trivial
  have same:∀b',b'<mostBlocks→hget ⟨h.nx,trSet Deep.d b h.m (.live false sz cs)⟩ b'=hget h b':=by
    intro b' hb'
    rw[hget_set (hr.dom _ _ he) hb']
    by_cases hx:b'=b
    · subst hx;rw[if_pos rfl,hb]
    · rw[if_neg hx]
  exact ⟨⟨st.le, ⟨fun b' B' o' N' e' => by rw [← same b' (hr.dom _ _ e')]; exact st.hr.blk b' B' o' N' e',
      fun b1 b2 B' o1 N1 o2 N2 e1 e2 l1 l2=>hr.inj b1 b2 B' o1 N1 o2 N2 e1 e2 l1 l2,hr.dom⟩,
    fun b' B' o' N' e' hw'=>.inr ⟨b',o',N',e',hw'⟩,fun b' B' o' N' e' hl hw'=>⟨e',hl,hw'⟩,st.size,st.keep,st.still⟩,st.new,Nat.le_refl _,id,fun _ _ _ e=>e,fun _ _ _ _=>rfl⟩
theorem isIntT_und {t:TypeId} (h:isIntT P t=true):∃k,P.underlying t=some (.int k):=by
  unfold isIntT at h
  cases htd:tdOf P t<;>rw[htd]at h<;>first|(cases h;done)|skip
  exact⟨_,td_int htd⟩
theorem isStrT_und {t:TypeId} (h:isStrT P t=true):P.underlying t=some .string:=by
  unfold isStrT at h
  cases htd:tdOf P t<;>rw[htd]at h<;>first|(cases h;done)|skip
  exact td_str htd
theorem St.drew (hr:HR ρ h w):St ρ ρ h h w w.drew:=St.drawn hr rfl ⟨rfl,rfl,rfl⟩
theorem conv_op_ok {src dst:TypeId} {x:Operand} (hr:HR ρ h w) (hn:ρ h.nx=none) (hx:Rel1 P ρ fr a x) (e:(eConv P src dst x).f call fr h=.val v h'):VOK P ρ h w (convert src dst (a.eval x)) v h':=by
  have e:(convA P src dst).f (ov P fr x) h=.val v h':=e
  unfold convA at e
  cases htd:tdOf P dst<;>rw[htd]at e<;>first|exact(fail_val e).elim|skip
  case int k' =>
    have hd:=td_int htd
    unfold Rel1 at hx
    have e:(ifB (isIntT P src) ⟨fun x h=>convInt k' x h⟩ ⟨fun _ _=>.fail 24⟩:Bx (AV→H→RV)).f (ov P fr x) h=.val v h':=e
    cases hsi:isIntT P src with
    |false=>rw[hsi]at e;exact(fail_val e).elim
    |true =>
      rw[hsi,ifB_true]at e
      obtain⟨k0,hs⟩:=isIntT_und hsi
      cases hq:ov P fr x with
      |int k n =>
        rw[hq]at e hx
        obtain⟨hnn,hxe⟩:=VR_int.1 hx
        have e:=(mkI_eq k' _ h).symm.trans e
        cases e
        have h1:=conv_ok k k' n hnn
        refine .same hr (u:=.int k' (k'.wrap (sgn k n))) ?_ (VR_int.2 ⟨h1.2,by rw[h1.1]⟩)
        simp [convert,run_underlying hs,run_underlying hd,hxe,Conv.intToInt]
      |sym k n =>
        rw[hq]at e hx
        obtain⟨hnn,hxe⟩:=VR_sym.1 hx
        cases (show RV.val (.sym k' (.cv k k' n)) h=.val v h' from e)
        have h1:=conv_ok k k' n.val hnn
        refine .same hr (u:=.int k' (k'.wrap (sgn k n.val))) ?_ (VR_sym.2 ⟨h1.2,by rw[h1.1];rfl⟩)
        simp [convert,run_underlying hs,run_underlying hd,hxe,Conv.intToInt]
      |_=>rw[hq]at e;exact(fail_val e).elim
  case str =>
    obtain⟨rfl,u,h1,h2⟩:=toStr_ok hr hx (td_str htd) e
    exact .same hr h1 h2
  case slice el s c =>
    have hd:=(td_slice htd).1
    dsimp only at e
    cases hu8:isU8 P el with
    |false=>rw[hu8]at e;exact(fail_val e).elim
    |true =>
      rw[hu8]at e
      have h4:=isU8_und hu8
      cases hsd:Nat.beq src dst with
      |true =>
        rw[hsd]at e
        have e2:asSl (ov P fr x) (.fail 24) (fun b o l c=>withB h b fun ro _ _=>ifB ro (.fail 24) (ifB (Nat.beq l 0) (.fail 24) (.val (.slice b o l c) h)))=.val v h':=e
        obtain rfl:src=dst:=beq_true.1 hsd
        clear e
        rcases asSl_val e2 with ⟨_,e⟩|⟨b,o,l,c,hq,e⟩
        · exact(fail_val e).elim
        · obtain⟨ro,sz,cs,hb,e⟩:=withB_val e
          obtain⟨hro,e⟩:=ifB_f e
          subst hro
          rw[ifB_false]at e
          obtain⟨hl0,e⟩:=ifB_f e
          cases e
          unfold Rel1 at hx
          rw[hq]at hx
          obtain⟨B,o',N,cp,ad,hbb,hxe,hlc,had,hcap⟩:=VR_slice.1 hx
          have hl0:=beq_false.1 hl0
          have had:ad=⟨B,o'+o,none⟩:=had.resolve_right (by omega)
          subst had
          obtain⟨w',h1,h2⟩:=mark_ok (P:=P) (off:=o) hr hbb hb
          refine⟨_,ρ,w',?_,hx,h2⟩
          simp [convert,run_underlying hd,run_underlying h4,hxe,h1]
      |false =>
        rw[hsd]at e
        have e:(ifB (isStrT P src) ⟨fun x h=>asStr x fun n v=>forceL (byteCells n v) fun l=>newBlk h l fun b h=>.val (.slice b 0 n (.un 1)) h⟩ ⟨fun _ _=>.fail 24⟩:Bx (AV→H→RV)).f (ov P fr x) h=.val v h':=e
        cases hss:isStrT P src with
        |false=>rw[hss]at e;exact(fail_val e).elim
        |true =>
          rw[hss,ifB_true]at e
          obtain⟨n,sv,hq,e⟩:=asStr_val e
          rw[forceL_eq]at e
          obtain⟨hm,e⟩:=newBlk_val e
          cases e
          unfold Rel1 at hx
          rw[hq]at hx
          obtain⟨bs,hxe,rfl,rfl⟩:=VR_str.1 hx
          have hr1:=(St.drew hr).hr
          have hsz:bs.data.toList.length=bs.size:=rfl
          have hrun:=run_bytes_of_string (P:=P) w src dst el bs (isStrT_und hss) hd h4
          have hge:=grownCap_ge w bs.size 0 el
          rw[byteCells_eq]
          have hrow:bytesRow bs (grownCap w bs.size 0 el)=⟨(bs.data.toList.map fun b=>Value.int .u8 b.toNat)++List.replicate (grownCap w bs.size 0 el-bs.size) (.int .u8 0)⟩:=by
            unfold bytesRow
            apply Array.ext'
            simp
          rw[hrow]at hrun
          have hsz2:((bs.data.toList.map fun b=>Value.int .u8 b.toNat).length+(List.replicate (grownCap w bs.size 0 el-bs.size) (Value.int .u8 0)).length)=grownCap w bs.size 0 el:=by
            simp only[List.length_map,List.length_replicate];omega
          have st:=new_rowF (e:=el) (rest:=List.replicate (grownCap w bs.size 0 el-bs.size) (.int .u8 0)) (fz:=(grownCap w bs.size 0 el,grownCap w bs.size 0 el+1)) hr1 hn hm (VL_bytes ρ bs.data.toList) (by intro u hu;obtain⟨b,_,rfl⟩:=List.mem_map.1 hu;rfl) (.inr (Nat.le_of_eq hsz2))
          rw[hsz2]at st
          refine⟨.slice (some ⟨w.heap.size,0,none⟩) bs.size (grownCap w bs.size 0 el),_,_,?_,?_,(St.drew hr).trans st⟩
          · rw[hxe,hrun]
            have e5:(⟨(bs.data.toList.map fun b=>Value.int .u8 b.toNat)++List.replicate (grownCap w bs.size 0 el-bs.size) (.int .u8 0)⟩:Array Value).size=grownCap w bs.size 0 el:=by
              rw[←hsz2];simp
            rw[e5]
            rfl
          · refine VR_slice.2 ⟨_,_,_,_,_,Ren.add_same _ _ _,rfl,by omega,.inl rfl,?_⟩
            show 0+0+_*1=_
            omega
end
end Go.Eng
