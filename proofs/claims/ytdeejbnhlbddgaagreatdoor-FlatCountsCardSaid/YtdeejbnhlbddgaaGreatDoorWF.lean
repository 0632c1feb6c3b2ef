/- What is proved: what the evaluator answers at a call, the model answers too, in every order that it may draw. Conditions: none. -/
import Derived.Test.YtdeejbnhlbddgaaGreatDoorWE
import Derived.Tactics
import GoSem.ClaimChange
import Derived.ChangeSame
set_option linter.unusedVariables false
set_option linter.unusedSimpArgs false
set_option linter.unusedSectionVars false
namespace Go.Eng
set_option autoImplicit false
variable [Deep] [Env]
def toExit (e:Ex):Exit:=match e with|.normal=>.normal|.exit id=>.exit id|.ret=>.ret
section
variable {P:Program} {n:Nat} {call:Caller}
def Good (P:Program) (n:Nat) (call:Caller) (c:Code) (k:C):Prop:=∀fr h e fr' h',k.f call fr h=.ok e fr' h'→∀(ρ:Ren) (a:Act) (w:World),HR ρ h w→GR P ρ→Fresh ρ h→FR ρ n fr a →
  ∀(Q:Exit→Act→World→Prop),(∀ρ' a' w',St ρ ρ' h h' w w'→FR ρ' n fr' a'→Q (toExit e) a' w')→c.wp P Q a w
theorem dstOf_eq (ops:Array Oper) (j:Nat):dstOf ops.toList j=(ops[j]?).bind (·.dst):=by
  unfold dstOf
  rw[lget?_eq,←Array.getElem?_toList]
  cases ops.toList[j]?<;>rfl
theorem VR_isBool {ρ:Ren} {x:AV} {b:Bool} (h:VR ρ x (.bool b)):x=.bool b:=by
  cases x<;>unfold VR at h<;>first
    |(cases h;rfl)
    |(obtain⟨_,h⟩:=h;cases h;done)
    |(obtain⟨_,_,h⟩:=h;cases h;done)
    |(obtain⟨_,h,_⟩:=h;cases h;done)
    |(obtain⟨_,_,_,_,h⟩:=h;cases h;done)
    |(obtain⟨_,_,_,_,_,_,h,_⟩:=h;cases h;done)
    |(obtain⟨_,_,h,_⟩:=h;cases h;done)
    |(cases h;done)
theorem asBool_eq {x:AV} {g:Bool→Bool}:asBool x g false=true↔∃b,x=.bool b∧g b=true:=by
  cases x<;>first|(constructor<;>intro h<;>first|(cases h;done)|(obtain⟨b,h,_⟩:=h;cases h))|skip
  rename_i b
  constructor
  · intro h;exact⟨b,rfl,h⟩
  · rintro⟨b',h,h'⟩;cases h;exact h'
theorem want_eqR {ρ:Ren} {fr:Fr} {a:Act} (ops:Array Oper) (o:Oper) (hf:∀j w d,o.guard=some (j,w)→(ops[j]?).bind (·.dst)=some d→VR ρ (slot fr d) (a.tmps.getD d undef)):(wantA ops.toList o.guard).f fr=Region.wanted o (yielded ops a.tmps):=by
  unfold Region.wanted
  cases hg:o.guard with
  |none=>rfl
  |some g =>
    obtain⟨j,w⟩:=g
    have e1:(wantA ops.toList (some (j,w))).f fr=match dstOf ops.toList j with|some d=>asBool (slot fr d) (fun b=>beqB b w) false|none=>false:=by
      unfold wantA
      dsimp only
      cases dstOf ops.toList j<;>rfl
    rw[e1,dstOf_eq]
    unfold yielded
    cases hd:(ops[j]?).bind (·.dst) with
    |none=>simp [hd]
    |some d =>
      have hv:=hf j w d hg hd
      simp only[hd,Option.bind_some]
      rw[Bool.eq_iff_iff,asBool_eq]
      constructor
      · rintro⟨b,hb,hw⟩
        rw[hb,VR_bool]at hv
        have:a.tmps[d]?=some (.bool b):=by
          cases h:a.tmps[d]? with
          |none=>simp [h,undef]at hv
          |some u=>simp [h]at hv;rw[hv]
        rw[this]
        rw[beqB_eq]at hw
        simpa using hw
      · intro h
        cases hq:a.tmps[d]? with
        |none=>rw[hq]at h;cases h
        |some u =>
          rw[hq]at h
          cases u<;>first|(cases h;done)|skip
          rename_i b
          have hu:a.tmps.getD d undef=.bool b:=by simp [hq]
          rw[hu]at hv
          exact⟨b,VR_isBool hv,by rw[beqB_eq];simpa using h⟩
theorem want_eq {ρ:Ren} {fr:Fr} {a:Act} (ops:Array Oper) (o:Oper) (hf:FR ρ n fr a):(wantA ops.toList o.guard).f fr=Region.wanted o (yielded ops a.tmps) :=
  want_eqR ops o fun _ _ d _ _=>hf.at_ d
theorem wpOp_of {Q:Exit→Act→World→Prop} {ops:Array Oper} {i:Nat} {o:Oper} {a:Act} {w:World} {K:Act→World→Prop} (hi:ops[i]?=some o)
    (h1:Region.wanted o (yielded ops a.tmps)=true→o.wp P a w K Q) (h2:Region.wanted o (yielded ops a.tmps)=false→K (a.put o.dst undef) w):wpOp P ops Q i K a w:=by
  unfold wpOp
  rw[hi]
  dsimp only
  cases h:Region.wanted o (yielded ops a.tmps) with
  |true=>rw[if_pos rfl];exact .inl (h1 h)
  |false=>rw[if_neg (by simp)];exact h2 h
theorem stepA_ok {all:List Oper} {o:Oper} {k:C} {fr fr':Fr} {h h':H} {e:Ex} (x:(stepA P n all o k).f call fr h=.ok e fr' h') :
    ((wantA all o.guard).f fr=true∧∃v h1,(evOp P o.op).f call fr h=.val v h1∧(∀d,o.dst=some d→d<n)∧k.f call (frPut o.dst v fr) h1=.ok e fr' h') ∨
    ((wantA all o.guard).f fr=false∧(∀d,o.dst=some d→d<n)∧k.f call (frPut o.dst und fr) h=.ok e fr' h'):=by
  unfold stepA at x
  have go:rvk ((evOp P o.op).f call fr h) (fun v h=>(putA n o.dst).f v fr fun fr=>k.f call fr h) .fail=.ok e fr' h' →
      ∃v h1,(evOp P o.op).f call fr h=.val v h1∧(∀d,o.dst=some d→d<n)∧k.f call (frPut o.dst v fr) h1=.ok e fr' h':=fun x =>
    let ⟨v,h1,x1,x2⟩:=rvk_ok x
    ⟨v,h1,x1,putA_val x2⟩
  cases hg:o.guard with
  |none=>rw[hg]at x;exact .inl ⟨rfl,go x⟩
  |some g =>
    rw[hg]at x
    dsimp only at x
    cases hw:(wantA all (some g)).f fr with
    |true=>rw[hw,ifB_true]at x;exact .inl ⟨rfl,go x⟩
    |false=>rw[hw,ifB_false]at x;exact .inr ⟨rfl,putA_val x⟩
theorem opsA_wp (C:CallOK P call) (ops:Array Oper):∀(l:List Oper) (i0:Nat),(∀j,l[j]?=ops[i0+j]?)→∀fr h e fr' h',(opsA P n ops.toList l).f call fr h=.ok e fr' h' →
    ∀(ρ:Ren) (a:Act) (w:World),HR ρ h w→GR P ρ→Fresh ρ h→FR ρ n fr a →
    ∀(Q:Exit→Act→World→Prop),(∀ρ' a' w',St ρ ρ' h h' w w'→FR ρ' n fr' a'→Q (toExit e) a' w')→wpOps P ops Q (List.range' i0 l.length) a w
  | [],i0,_,fr,h,e,fr',h',x,ρ,a,w,hr,_,_,hf,Q,k=>by
    have x:R.ok .normal fr h=.ok e fr' h':=x
    cases x
    exact k ρ a w (St.refl hr) hf
  |o::l,i0,hl,fr,h,e,fr',h',x,ρ,a,w,hr,hg,hn,hf,Q,k=>by
    have x:(stepA P n ops.toList o (opsA P n ops.toList l)).f call fr h=.ok e fr' h':=x
    have ho:ops[i0]?=some o:=by have:=hl 0;simpa using this.symm
    have hl':∀j,l[j]?=ops[i0+1+j]?:=fun j=>by have:=hl (j+1);rw[show i0+1+j=i0+(j+1) by omega];simpa using this
    rw[List.length_cons,List.range'_succ,wpOps_cons]
    have hw:=want_eq ops o hf
    rcases stepA_ok x with ⟨x0,v,h1,x1,x2,x3⟩|⟨x0,x2,x3⟩
    · refine wpOp_of ho (fun _=>?_) (fun h=>by rw[←hw,x0]at h;cases h)
      refine op_wp C hr hn hf hg x1 fun u ρ' w' hv st=>?_
      exact opsA_wp C ops l (i0+1) hl' _ _ _ _ _ x3 ρ' _ w' st.hr (hg.mono st.le) (hn.step st) ((hf.mono st.le).put hv x2) Q fun ρ'' a' w'' st' hf'=>k ρ'' a' w'' (st.trans st') hf'
    · refine wpOp_of ho (fun h=>by rw[←hw,x0]at h;cases h) (fun _=>?_)
      exact opsA_wp C ops l (i0+1) hl' _ _ _ _ _ x3 ρ _ w hr hg hn (hf.put VR_und x2) Q k
theorem region_good (C:CallOK P call) (id:Nat) (ops:Array Oper):Good P n call (.region id ops false) (opsA P n ops.toList ops.toList):=by
  intro fr h e fr' h' x ρ a w hr hg hn hf Q k
  refine wp_region ?_
  have:=opsA_wp C ops ops.toList 0 (fun j=>by simp) fr h e fr' h' x ρ a w hr hg hn hf Q k
  rw[List.range_eq_range']
  simpa using this
end
end Go.Eng
namespace Go.Eng
set_option autoImplicit false
variable [Deep] [Env]
section
variable {P:Program} {n:Nat} {call:Caller}
def InLoop (P:Program) (c:Code) (Q:Exit→Act→World→Prop) (a:Act) (w:World):Prop :=
  ∀(b:Frame) (k:List Item) (cs:List Frame),∃e a' w',Q e a' w'∧Arrives P (lone (b.at a (.code c::.inLoop c::k)) cs w) b k cs e a' w'
theorem InLoop.step {c:Code} {Q:Exit→Act→World→Prop} {a:Act} {w:World} (h:c.wp P (Exit.then (InLoop P c Q) Q) a w):InLoop P c Q a w:=by
  intro b k cs
  obtain⟨e,a₁,w₁,hq,harr⟩:=h b (.inLoop c::k) cs
  cases e with
  |normal =>
    obtain⟨e₂,a₂,w₂,hq₂,harr₂⟩:=hq b k cs
    exact⟨e₂,a₂,w₂,hq₂,.of_steps (Steps.trans harr (.one step_inLoop)) harr₂⟩
  |exit id=>exact⟨_,a₁,w₁,hq,.pass (x:=.inLoop c) rfl (fun _ _=>.inl (by simp)) harr⟩
  |goto l=>exact⟨_,a₁,w₁,hq,.pass (x:=.inLoop c) rfl (fun _ _=>.inl (by simp)) harr⟩
  |ret=>exact⟨_,a₁,w₁,hq,.pass (x:=.inLoop c) rfl (fun _ _=>.inl (by simp)) harr⟩
  |panic ch=>exact⟨_,a₁,w₁,hq,.pass (x:=.inLoop c) rfl (fun _ _=>.inl (by simp)) harr⟩
  |outgrown=>exact⟨_,a₁,w₁,hq,.pass (x:=.inLoop c) rfl (fun _ _=>.inl (by simp)) harr⟩
theorem InLoop.loop {c:Code} {Q:Exit→Act→World→Prop} {a:Act} {w:World} (h:InLoop P c Q a w):(Code.loop c).wp P Q a w :=
  fun b k cs=>let ⟨e,a',w',q,r⟩:=h b k cs;⟨e,a',w',q,.of_steps (.one step_loop) r⟩
theorem Rk_ok {r:R} {k:Ex→Fr→H→R} {e:Ex} {fr:Fr} {h:H} (x:Rk r k=.ok e fr h):∃e1 fr1 h1,r=.ok e1 fr1 h1∧k e1 fr1 h1=.ok e fr h:=by
  cases r with
  |fail w=>exact nomatch (show R.fail w=.ok e fr h from x)
  |ok e1 fr1 h1=>exact⟨e1,fr1,h1,rfl,x⟩
theorem good_skip:Good P n call .skip ⟨fun _ fr h=>.ok .normal fr h⟩:=by
  intro fr h e fr' h' x ρ a w hr hg hn hf Q k
  cases (show R.ok .normal fr h=.ok e fr' h' from x)
  exact wp_skip (k ρ a w (St.refl hr) hf)
theorem good_exit (id:Nat):Good P n call (.exit id) ⟨fun _ fr h=>.ok (.exit id) fr h⟩:=by
  intro fr h e fr' h' x ρ a w hr hg hn hf Q k
  cases (show R.ok (.exit id) fr h=.ok e fr' h' from x)
  exact wp_exit (k ρ a w (St.refl hr) hf)
theorem good_ret:Good P n call .ret ⟨fun _ fr h=>.ok .ret fr h⟩:=by
  intro fr h e fr' h' x ρ a w hr hg hn hf Q k
  cases (show R.ok .ret fr h=.ok e fr' h' from x)
  exact wp_ret (k ρ a w (St.refl hr) hf)
theorem good_fail {c:Code} (w:Nat):Good P n call c (kFail w):=fun _ _ _ _ _ x=>nomatch (show R.fail w=.ok _ _ _ from x)
theorem good_seq {ca cb:Code} {ka kb:C} (ga:Good P n call ca ka) (gb:Good P n call cb kb):Good P n call (.seq ca cb) (kSeq ka kb):=by
  intro fr h e fr' h' x ρ a w hr hg hn hf Q k
  obtain⟨e1,fr1,h1,x1,x2⟩:=Rk_ok (show Rk (ka.f call fr h) (fun e fr h=>seqK e (kb.f call) fr h)=.ok e fr' h' from x)
  refine wp_seq (ga _ _ _ _ _ x1 ρ a w hr hg hn hf _ fun ρ' a' w' st hf'=>?_)
  cases e1 with
  |normal=>exact gb _ _ _ _ _ x2 ρ' a' w' st.hr (hg.mono st.le) (hn.step st) hf' Q fun ρ'' a'' w'' st' hf''=>k ρ'' a'' w'' (st.trans st') hf''
  |exit id=>cases (show R.ok (.exit id) fr1 h1=.ok e fr' h' from x2);exact k ρ' a' w' st hf'
  |ret=>cases (show R.ok .ret fr1 h1=.ok e fr' h' from x2);exact k ρ' a' w' st hf'
theorem asBool_R {x:AV} {g:Bool→R} {wy:Nat} {e:Ex} {fr:Fr} {h:H} (q:asBool x g (.fail wy)=.ok e fr h):∃b,x=.bool b∧g b=.ok e fr h:=by
  cases x<;>first|exact nomatch (show R.fail wy=.ok e fr h from q)|exact⟨_,rfl,q⟩
theorem good_cond {c:Operand} {ca cb:Code} {ka kb:C} (ga:Good P n call ca ka) (gb:Good P n call cb kb):Good P n call (.cond c ca cb) (kCond c ka kb):=by
  intro fr h e fr' h' x ρ a w hr hg hn hf Q k
  unfold kCond at x
  split at x
  · rename_i t
    obtain⟨b,hb,x⟩:=asBool_R (show asBool (slot fr t) (fun c=>ifB c (ka.f call fr h) (kb.f call fr h)) (.fail 67)=.ok e fr' h' from x)
    have hv:=hf.at_ t
    rw[hb,VR_bool]at hv
    cases b with
    |true=>exact wp_cond_true hv (ga _ _ _ _ _ x ρ a w hr hg hn hf Q k)
    |false=>exact wp_cond_false hv (gb _ _ _ _ _ x ρ a w hr hg hn hf Q k)
  · exact wp_cond_true rfl (ga _ _ _ _ _ x ρ a w hr hg hn hf Q k)
  · exact wp_cond_false rfl (gb _ _ _ _ _ x ρ a w hr hg hn hf Q k)
  · exact nomatch (show R.fail 67=.ok e fr' h' from x)
theorem good_block {i:Nat} {c:Code} {kc:C} (g:Good P n call c kc):Good P n call (.block i c) (kBlock i kc):=by
  intro fr h e fr' h' x ρ a w hr hg hn hf Q k
  obtain⟨e1,fr1,h1,x1,x2⟩:=Rk_ok (show Rk (kc.f call fr h) (fun e fr h=>blkK e i fr h)=.ok e fr' h' from x)
  refine wp_block (g _ _ _ _ _ x1 ρ a w hr hg hn hf _ fun ρ' a' w' st hf'=>?_)
  cases e1 with
  |normal=>cases (show R.ok .normal fr1 h1=.ok e fr' h' from x2);exact k ρ' a' w' st hf'
  |exit j =>
    have x2:ifB (Nat.beq j i) (R.ok .normal fr1 h1) (.ok (.exit j) fr1 h1)=.ok e fr' h':=x2
    rw[ifB_eq]at x2
    by_cases hj:j=i
    · rw[if_pos (beq_true.2 hj)]at x2
      cases x2
      show Exit.inBlock i Q (.exit j) a' w'
      rw[Exit.inBlock,if_pos hj]
      exact k ρ' a' w' st hf'
    · rw[if_neg (fun q=>hj (beq_true.1 q))]at x2
      cases x2
      show Exit.inBlock i Q (.exit j) a' w'
      rw[Exit.inBlock,if_neg hj]
      exact k ρ' a' w' st hf'
  |ret=>cases (show R.ok .ret fr1 h1=.ok e fr' h' from x2);exact k ρ' a' w' st hf'
theorem loopN_succ (b:C) (m:Nat) (fr:Fr) (h:H):loopN b (m+1) call fr h=Rk (b.f call fr h) fun e fr h=>seqK e (loopN b m call) fr h:=rfl
theorem good_loopN {c:Code} {kc:C} (g:Good P n call c kc):∀(m:Nat) fr h e fr' h',loopN kc m call fr h=.ok e fr' h'→∀(ρ:Ren) (a:Act) (w:World),HR ρ h w→GR P ρ→Fresh ρ h→FR ρ n fr a →
    ∀(Q:Exit→Act→World→Prop),(∀ρ' a' w',St ρ ρ' h h' w w'→FR ρ' n fr' a'→Q (toExit e) a' w')→InLoop P c Q a w:=by
  intro m
  induction m with
  |zero=>intro fr h e fr' h' x;exact nomatch (show R.fail 68=.ok e fr' h' from x)
  |succ m ih =>
    intro fr h e fr' h' x ρ a w hr hg hn hf Q k
    rw[loopN_succ]at x
    obtain⟨e1,fr1,h1,x1,x2⟩:=Rk_ok x
    refine InLoop.step (g _ _ _ _ _ x1 ρ a w hr hg hn hf _ fun ρ' a' w' st hf'=>?_)
    cases e1 with
    |normal=>exact ih _ _ _ _ _ x2 ρ' a' w' st.hr (hg.mono st.le) (hn.step st) hf' Q fun ρ'' a'' w'' st' hf''=>k ρ'' a'' w'' (st.trans st') hf''
    |exit id=>cases (show R.ok (.exit id) fr1 h1=.ok e fr' h' from x2);exact k ρ' a' w' st hf'
    |ret=>cases (show R.ok .ret fr1 h1=.ok e fr' h' from x2);exact k ρ' a' w' st hf'
theorem good_loop {c:Code} {kc:C} (g:Good P n call c kc):Good P n call (.loop c) (kLoop kc) :=
  fun fr h e fr' h' x ρ a w hr hg hn hf Q k=>(good_loopN g Deep.loops fr h e fr' h' (show loopN kc Deep.loops call fr h=.ok e fr' h' from x) ρ a w hr hg hn hf Q k).loop
theorem loadA_ptr {t:TypeId} {x:AV} {h h':H} {v:AV} (e:(loadA P t).f x h=.val v h'):∃b o,x=.ptr b o:=by
  unfold loadA at e
  cases ht:tyOf P t with
  |none=>rw[ht]at e;exact(fail_val e).elim
  |some y =>
    obtain⟨s,c,agg⟩:=y
    rw[ht]at e
    dsimp only at e
    rw[forceN_eq]at e
    cases agg with
    |true=>obtain⟨b,o,hx,_⟩:=asPtr_val e;exact⟨b,o,hx⟩
    |false=>obtain⟨b,o,hx,_⟩:=asPtr_val e;exact⟨b,o,hx⟩
def resOne (tmps:Array Value):ResultVar→Sem Value
  |.tmp t=>pure (tmps.getD t undef)
  |.cell a t=>do loadVar t (←asAddr (tmps.getD a undef))
theorem rvs_ok {ρ:Ren} {w:World} {h:H} {fr:Fr} {a:Act} (hr:HR ρ h w) (hf:FR ρ n fr a):∀(l:List ResultVar) (k:List AV→RV) (v:AV) (h':H),(rvs P l).f fr h k=.val v h' →
    ∃vs us,k vs=.val v h'∧VL ρ vs us∧(l.mapM (resOne a.tmps)).run P w=.ok us w
  | [],k,v,h',e=>⟨[],[],e,VL.nil,by simp⟩
  |.tmp t::l,k,v,h',e=>by
    have e:forceV (slot fr t) (fun a=>(rvs P l).f fr h fun l=>k (a::l))=.val v h':=e
    rw[forceV_eq]at e
    obtain⟨vs,us,h1,h2,h3⟩:=rvs_ok hr hf l _ v h' e
    exact⟨_,_,h1,VL.cons (hf.at_ t) h2,by simp [List.mapM_cons,resOne,h3]⟩
  |.cell ad t::l,k,v,h',e=>by
    have e:rvk ((loadA P t).f (slot fr ad) h) (fun v _=>(rvs P l).f fr h fun l=>k (v::l)) .fail=.val v h':=e
    obtain⟨v1,h1,e1,e2⟩:=rvk_val e
    obtain⟨b,o,hq⟩:=loadA_ptr e1
    have hv:=hf.at_ ad
    obtain⟨rfl,u,h2,h3⟩:=loadA_ok (P:=P) hr hv e1
    obtain⟨vs,us,h4,h5,h6⟩:=rvs_ok hr hf l _ v h' e2
    rw[hq]at hv
    obtain⟨B,o',N,_,hp⟩:=VR_ptr.1 hv
    rw[hp]at h2
    have h2:(loadVar t ⟨B,o'+o,none⟩).run P w=.ok u w:=by simpa [Instr.loadAt,Instr.sureAddr] using h2
    refine⟨_,_,h4,VL.cons h3 h5,?_⟩
    simp [List.mapM_cons,resOne,hp,asAddr,h2,h6]
theorem resA_ok {fn:Func} {ρ:Ren} {w:World} {h h':H} {fr:Fr} {a:Act} {v:AV} (hr:HR ρ h w) (hf:FR ρ n fr a) (e:(resA P fn).f fr h=.val v h') :
    h'=h∧∃u,(results fn a.tmps).run P w=.ok u w∧VR ρ v u:=by
  have e:(rvs P fn.results.toList).f fr h (fun l=>mkRes l h)=.val v h':=e
  obtain⟨vs,us,h1,h2,h3⟩:=rvs_ok hr hf _ _ v h' e
  have hrun:(results fn a.tmps).run P w=.ok (if hh:us.toArray.size=1 then us.toArray[0] else .tuple us.toArray) w:=by
    have hm:∀f:ResultVar→Sem Value,(∀x,f x=resOne a.tmps x)→(fn.results.mapM f).run P w=.ok us.toArray w:=by
      intro f hf
      obtain rfl:f=resOne a.tmps:=funext hf
      rw[Array.mapM_eq_mapM_toList]
      simp [h3]
    unfold results
    simp only[Sem.run_bind]
    rw[hm _ (by intro x;cases x<;>rfl)]
    rfl
  rw[hrun]
  have hlen:=h2.length
  match vs,h1,h2,hlen with
  | [],h1,h2,hlen =>
    have:us=[]:=List.eq_nil_of_length_eq_zero (by simpa using hlen)
    subst this
    cases (show RV.val (.tup []) h=.val v h' from h1)
    exact⟨rfl,_,rfl,VR_tup.2 ⟨[],by simp,VL.nil⟩⟩
  | [x],h1,h2,hlen =>
    cases (show RV.val x h=.val v h' from h1)
    unfold VL at h2
    obtain⟨u,r,rfl,h4,h5⟩:=h2
    unfold VL at h5
    subst h5
    exact⟨rfl,u,by simp,h4⟩
  |x::y::l,h1,h2,hlen =>
    cases (show RV.val (.tup (x::y::l)) h=.val v h' from h1)
    refine⟨rfl,_,rfl,?_⟩
    rw[dif_neg (by simp [hlen])]
    exact VR_tup.2 ⟨us,rfl,h2⟩
theorem args0_val:∀(l:List AV) (i:Nat) (fr:Fr) (k:Fr→RV) (v:AV) (h:H),i+l.length≤512→args0 l i fr k=.val v h →
    ∃fr1,k fr1=.val v h∧∀t,slot fr1 t=if i≤t∧t<i+l.length then l.getD (t-i) und else slot fr t
  | [],i,fr,k,v,h,_,e=>⟨fr,e,fun t=>by rw[if_neg (by simp)]⟩
  |x::l,i,fr,k,v,h,hl,e=>by
    have e:(trP AV RV 3 i).f fr x (fun fr=>args0 l (i+1) fr k)=.val v h:=e
    rw[trP_eq]at e
    simp only[List.length_cons]at hl
    obtain⟨fr1,h1,h2⟩:=args0_val l (i+1) _ k v h (by omega) e
    refine⟨fr1,h1,fun t=>?_⟩
    rw[h2,slot_put (by omega)]
    simp only[List.length_cons]
    by_cases ht:t=i
    · subst ht
      rw[if_neg (by omega),if_pos rfl,if_pos (by omega)]
      simp
    · by_cases h3:i+1≤t∧t<i+1+l.length
      · rw[if_pos h3,if_pos (by omega)]
        obtain⟨q,hq⟩:∃q,t-i=q+1:=⟨t-i-1,by omega⟩
        rw[hq,show t-(i+1)=q by omega]
        simp
      · rw[if_neg h3,if_neg ht,if_neg (by omega)]
theorem slot_fr0 (t:Nat):slot fr0 t=und:=by
  by_cases h:t<512
  · rw[slot_lt h];exact trGet_new 3 t und
  · exact slot_ge (by omega)
end
end Go.Eng
namespace Go.Eng
set_option autoImplicit false
variable [Deep] [Env]
section
variable {P:Program}
def DrawsOK (P:Program):Prop:=∀n call id ops,CallOK P call→regOk P ops=true→Good P n call (.region id ops true) (kDraw P n ops.toList)
theorem evC_good (D:DrawsOK P) {n:Nat} {call:Caller} (C:CallOK P call):∀c:Code,codeOk P c=true→Good P n call c (evC P n c)
  |.skip,_=>good_skip
  |.region id ops true,h=>D n call id ops C (by simpa [codeOk] using h)
  |.region id ops false,_=>region_good C id ops
  |.seq a b,h=>by
    have h:codeOk P a=true∧codeOk P b=true:=by simpa [codeOk] using h
    exact good_seq (evC_good D C a h.1) (evC_good D C b h.2)
  |.cond c a b,h=>by
    have h:codeOk P a=true∧codeOk P b=true:=by simpa [codeOk] using h
    exact good_cond (evC_good D C a h.1) (evC_good D C b h.2)
  |.block i b,h=>good_block (evC_good D C b (by simpa [codeOk] using h))
  |.loop b,h=>good_loop (evC_good D C b (by simpa [codeOk] using h))
  |.rangeFunc ..,_=>good_fail 69
  |.exit id,_=>good_exit id
  |.scope _,_=>good_fail 70
  |.label _,_=>good_fail 71
  |.goto _,_=>good_fail 72
  |.ret,_=>good_ret
  |.refuse _,_=>good_fail 73
theorem callFunc_run {f:FuncId} {fn:Func} {us:Array Value} {w:World} (hf:P.funcs[f]?=some fn) (hb:fn.body.isNone=false) (hn:(fn.name == "runtime.NumGoroutine")=false) :
    (callFunc f us).run P w=.ok (.enter f us) w:=by
  unfold callFunc
  simp only[Sem.run_bind,run_program,Result.andThen_ok,hf,hn,hb,Bool.false_eq_true,if_false,Sem.run_pure]
theorem entry_ok (D:DrawsOK P) {call:Caller} (C:CallOK P call) {f:FuncId} {fn:Func} {c:Code} (hf:P.funcs[f]?=some fn) (hb:fn.body=some c) (hc:codeOk P c=true)
    {args:List AV} {us:List Value} {h h':H} {v:AV} {ρ:Ren} {w:World} (e:(entry P fn (evC P fn.ntmps c)).f call args h=.val v h') (hr:HR ρ h w) (hg:GR P ρ) (hn:Fresh ρ h) (hv:VL ρ args us) :
    Calls P f ⟨us⟩ w fun e w'=>∃u ρ',e=.returned u∧VR ρ' v u∧St ρ ρ' h h' w w':=by
  unfold entry at e
  cases h5:Nat.ble fn.ntmps 512 with
  |false=>rw[h5]at e;exact(fail_val e).elim
  |true =>
    rw[h5,ifB_true]at e
    obtain⟨h6,e⟩:=ifB_t (show ifB (Nat.ble (llen args) fn.ntmps) (args0 args 0 fr0 fun fr=>endA P fn ((evC P fn.ntmps c).f call fr h)) (.fail 74)=.val v h' from e)
    have h5:=ble_true.1 h5
    have h6:=ble_true.1 h6
    rw[llen_eq]at h6
    obtain⟨fr1,e,hs⟩:=args0_val args 0 fr0 _ v h' (by omega) e
    have hlen:=hv.length
    have hfr:FR ρ fn.ntmps fr1 { tmps:=⟨us⟩++Array.replicate (fn.ntmps-(⟨us⟩:Array Value).size) undef,defers:=[] }:=by
      refine⟨?_,h5,fun t=>?_,rfl⟩
      · simp;omega
      · rw[hs t]
        by_cases ht:t<args.length
        · rw[if_pos (by omega)]
          obtain⟨u,hu,hvu⟩:=hv.get t (args[t]) (by simp [ht])
          have:((⟨us⟩:Array Value)++Array.replicate (fn.ntmps-(⟨us⟩:Array Value).size) undef).getD t undef=u:=by
            have hlt:t<us.length:=by omega
            simp only[Array.getD_eq_getD_getElem?,Array.getElem?_append,List.size_toArray,hlt,if_true,List.getElem?_toArray,hu,Option.getD_some]
          rw[this]
          have:args.getD (t-0) und=args[t]:=by simp [ht]
          rw[this];exact hvu
        · rw[if_neg (by omega),slot_fr0]
          have:((⟨us⟩:Array Value)++Array.replicate (fn.ntmps-(⟨us⟩:Array Value).size) undef).getD t undef=undef:=by
            have hlt:¬t<us.length:=by omega
            simp only[Array.getD_eq_getD_getElem?,Array.getElem?_append,List.size_toArray,hlt,if_false,Array.getElem?_replicate]
            split<;>rfl
          rw[this]
          exact VR_und
    refine calls_of_wp hf hb ?_
    unfold endA at e
    cases hrun:(evC P fn.ntmps c).f call fr1 h with
    |fail y=>rw[hrun]at e;exact(fail_val e).elim
    |ok x fr2 h2 =>
      rw[hrun]at e
      refine evC_good D C c hc fr1 h x fr2 h2 hrun ρ _ w hr hg hn hfr _ fun ρ' a' w' st hf'=>?_
      cases x with
      |normal =>
        obtain⟨rfl,u,k1,k2⟩:=resA_ok st.hr hf' (show(resA P fn).f fr2 h2=.val v h' from e)
        exact⟨hf'.defers,u,k1,u,ρ',rfl,k2,st⟩
      |exit id=>exact(fail_val (show RV.fail 75=.val v h' from e)).elim
      |ret =>
        obtain⟨rfl,u,k1,k2⟩:=resA_ok st.hr hf' (show(resA P fn).f fr2 h2=.val v h' from e)
        exact⟨hf'.defers,u,k1,u,ρ',rfl,k2,st⟩
def NatOK (P:Program) (f:FuncId) (g:List AV→H→RV):Prop:=∀args h v h',g args h=.val v h'→∀(ρ:Ren) (w:World) (us:List Value),HR ρ h w→GR P ρ→Fresh ρ h→VL ρ args us →
  (callFunc f ⟨us⟩).run P w=.ok (.enter f ⟨us⟩) w∧Calls P f ⟨us⟩ w fun e w'=>∃u ρ',e=.returned u∧VR ρ' v u∧St ρ ρ' h h' w w'
def NatsOK (P:Program) (nat:Nats):Prop:=∀f g,nat f=some g→NatOK P f g
theorem noNats_ok:NatsOK P noNats:=fun _ _ h=>nomatch h
theorem callN_ok (D:DrawsOK P) {nat:Nats} (hnat:NatsOK P nat):∀n,CallOK P (callN P nat n)
  |0=>fun f args h v h' e=>(fail_val (show RV.fail 78=.val v h' from e)).elim
  |n+1=>fun f args h v h' e ρ w us hr hg hn hv=>by
    have ih:=callN_ok D hnat n
    have e:Option.rec (motive:=fun _=>RV) ((bodyOf P f).f (callN P nat n) args h) (fun g=>g args h) (nat f)=.val v h':=e
    cases hq:nat f with
    |some g=>rw[hq]at e;exact hnat f g hq args h v h' e ρ w us hr hg hn hv
    |none =>
      rw[hq]at e
      have e:(bodyOf P f).f (callN P nat n) args h=.val v h':=e
      unfold bodyOf at e
      rw[lget?_eq]at e
      cases hf:P.funcs.toList[f]? with
      |none=>rw[hf]at e;exact(fail_val e).elim
      |some fn =>
        rw[hf]at e
        dsimp only at e
        have hf:P.funcs[f]?=some fn:=by rw[←Array.getElem?_toList];exact hf
        cases hb:fn.body with
        |none=>rw[hb]at e;exact(fail_val e).elim
        |some c =>
          rw[hb]at e
          dsimp only at e
          cases hnm:fn.name == "runtime.NumGoroutine" with
          |true=>rw[hnm]at e;exact(fail_val e).elim
          |false =>
            rw[hnm,ifB_false]at e
            cases hok:funcOk P fn with
            |false=>rw[hok]at e;exact(fail_val e).elim
            |true =>
            rw[hok,ifB_true]at e
            exact⟨callFunc_run hf (by rw[hb];rfl) hnm,entry_ok D ih hf hb (by simpa [funcOk,hb] using hok) e hr hg hn hv⟩
end
end Go.Eng
namespace Go.Eng
set_option autoImplicit false
variable [Deep] [Env]
def HI (g:H→RV):Prop:=(∃v,∀h,g h=.val v h)∨∀h v h',g h≠.val v h'
theorem HI.val (v:AV):HI fun h=>.val v h:=.inl ⟨v,fun _=>rfl⟩
theorem HI.fail (w:Nat):HI fun _=>.fail w:=.inr fun _ _ _ e=>nomatch e
theorem HI.of {g g':H→RV} (e:∀h,g h=g' h) (x:HI g'):HI g:=by
  have:g=g':=funext e
  rw[this];exact x
theorem HI.ifB {b:Bool} {g g':H→RV} (x:HI g) (y:HI g'):HI fun h=>ifB b (g h) (g' h):=by
  cases b
  · exact y
  · exact x
theorem HI.mkV (x:AV):HI fun h=>mkV x h:=.of (mkV_eq x) (.val x)
theorem HI.mkI (k:IntKind) (n:Nat):HI fun h=>mkI k n h:=.of (mkI_eq k n) (.val _)
theorem HI.mkB (b:Bool):HI fun h=>mkB b h:=.of (mkB_eq b) (.val _)
theorem HI.mkS (n s:Nat):HI fun h=>mkS n s h:=.of (mkS_eq n s) (.val _)
theorem HI.mkLen (n:Nat):HI fun h=>mkLen n h:=.ifB (.val _) (.fail _)
theorem HI.forceN {n:Nat} {k:Nat→H→RV} (x:HI (k n)):HI fun h=>forceN n fun n=>k n h:=.of (fun h=>forceN_eq n fun n=>k n h) x
theorem HI.forceV {n:AV} {k:AV→H→RV} (x:HI (k n)):HI fun h=>forceV n fun n=>k n h:=.of (fun h=>forceV_eq n fun n=>k n h) x
theorem HI.osome {α:Type} {w:Nat} {o:Option α} {k:α→H→RV} (x:∀a,HI (k a)):HI fun h=>osome w o fun a=>k a h:=by
  cases o with
  |none=>exact .fail w
  |some a=>exact x a
section
variable {x:AV}
theorem HI.asPtr {k:Nat→Nat→H→RV} (y:∀b o,HI (k b o)):HI fun h=>asPtr x fun b o=>k b o h:=by
  cases x<;>first|exact .fail _|exact y _ _
theorem HI.intIdx {k:Nat→H→RV} (y:∀a,HI (k a)):HI fun h=>intIdx x fun a=>k a h:=by
  cases x<;>first|exact .fail _|skip
  rename_i kd a
  exact HI.ifB (b:=nneg kd a) (y a) (.fail _)
theorem HI.asSl {n:H→RV} {k:Nat→Nat→Nat→Cp→H→RV} (z:HI n) (y:∀a b c d,HI (k a b c d)):HI fun h=>asSl x (n h) fun a b c d=>k a b c d h:=by
  cases x<;>first|exact .fail _|exact z|exact y _ _ _ _
theorem HI.asStr {k:Nat→Nat→H→RV} (y:∀b o,HI (k b o)):HI fun h=>asStr x fun b o=>k b o h:=by
  cases x<;>first|exact .fail _|exact y _ _
theorem HI.asAgg {k:List AV→H→RV} (y:∀b,HI (k b)):HI fun h=>asAgg x fun b=>k b h:=by
  cases x<;>first|exact .fail _|exact y _
theorem HI.asTup {k:List AV→H→RV} (y:∀b,HI (k b)):HI fun h=>asTup x fun b=>k b h:=by
  cases x<;>first|exact .fail _|exact y _
theorem HI.asBoolV {k:Bool→H→RV} (y:∀b,HI (k b)):HI fun h=>asBoolV x fun b=>k b h:=by
  cases x<;>first|exact .fail _|exact y _
end
section
variable {P:Program} {fr:Fr} {call:Caller}
theorem ogets_eq (fr:Fr):∀(l:List Operand) (k:List AV→RV),(ogets P l).f fr k=k (l.map (ov P fr))
  | [],_=>rfl
  |o::l,k=>by
    have e1:(ogets P (o::l)).f fr k=forceV (ov P fr o) fun a=>(ogets P l).f fr fun r=>k (a::r):=rfl
    rw[e1,forceV_eq]
    exact ogets_eq fr l _
theorem HI.cellsK {x:AV} {k:List AV→H→RV} (y:∀l,HI (k l)):HI fun h=>cellsK x fun l=>k l h:=by
  cases x<;>first|exact .fail _|exact y _
theorem HI.forceL {α:Type} {l:List α} {k:List α→H→RV} (y:HI (k l)):HI fun h=>forceL l fun l=>k l h:=.of (fun h=>forceL_eq l fun l=>k l h) y
theorem HI.fill {place:Nat→Option (Nat×Nat)}:∀(l:List (Nat×Operand)) (cs:List AV) (k:List AV→H→RV),(∀cs,HI (k cs))→HI fun h=>(fillA P place l).f fr cs fun cs=>k cs h
  | [],cs,k,y=>y cs
  |p::l,cs,k,y=>by
    have e:∀h,(fillA P place (p::l)).f fr cs (fun cs=>k cs h)=Eng.osome 28 (place p.1) fun os=>Eng.forceV ((operandR P p.2).f fr) fun a=>Eng.cellsK a fun l' =>
      Eng.ifB (Nat.beq (llen l') os.2) (Eng.ifB (Nat.ble (Nat.add os.1 os.2) (llen cs)) (Eng.forceL (splice cs os.1 l' os.2) fun cs=>(fillA P place l).f fr cs fun cs=>k cs h) (.fail 28)) (.fail 28):=fun _=>rfl
    refine .of e (.osome fun os=>.forceV (.cellsK fun l'=>.ifB (.ifB (.forceL ?_) (.fail _)) (.fail _)))
    exact HI.fill l _ k y
theorem HI.bnds {lo hi:Option AV} {len top:Nat} {k:Nat→Nat→H→RV} (y:∀a b,HI (k a b)):HI fun h=>bnds lo hi len top fun a b=>k a b h:=by
  have bnd1:∀(o:Option AV) (d:Nat) (k:Nat→H→RV),(∀a,HI (k a))→HI fun h=>bnd o d fun a=>k a h:=by
    intro o d k y
    cases o with
    |none=>exact y d
    |some v=>exact HI.intIdx y
  exact bnd1 lo 0 _ fun a=>bnd1 hi len _ fun b=>.ifB (.ifB (y a b) (.fail _)) (.fail _)
theorem HI.slTo {b off l hh c size:Nat}:HI fun h=>slTo b off l hh c size h:=.ifB (.val _) (.forceN (.forceN (.forceN (.val _))))
theorem HI.slCap {b off len c size:Nat} {lo hi mx:Option AV}:HI fun h=>slCap b off len c size lo hi mx h:=by
  cases mx with
  |none=>exact HI.bnds fun _ _=>.slTo
  |some m=>exact HI.intIdx fun m=>.ifB (.bnds fun _ _=>.slTo) (.fail _)
theorem HI.slUnk {b off len es size:Nat} {lo hi mx:Option AV}:HI fun h=>slUnk b off len es size lo hi mx h:=by
  refine .ifB (g:=fun h=>Option.rec (motive:=fun _=>RV) _ _ mx) ?_ (.fail _)
  cases mx with
  |none=>exact HI.bnds fun _ _=>.forceN (.forceN (.val _))
  |some m=>exact HI.intIdx fun m=>.ifB (.bnds fun _ _=>.slTo) (.fail _)
theorem HI.slNil {lo hi mx:Option AV}:HI fun h=>slNil lo hi mx h:=by
  cases mx with
  |none=>exact HI.bnds fun _ _=>.val _
  |some m=>exact HI.intIdx fun m=>.ifB (.bnds fun _ _=>.val _) (.fail _)
theorem HI.slHd {b off len:Nat} {cap:Cp} {lo hi mx:Option AV} {r:H→RV} (y:HI r):HI fun h=>slHd b off len cap lo hi mx r h:=by
  cases mx with
  |some l=>exact y
  |none =>
    cases lo with
    |some m=>exact y
    |none =>
      cases hi with
      |none=>exact y
      |some z=>exact HI.intIdx fun m=>.ifB (.val _) y
theorem HI.slSl {size:Nat} {x:AV} {lo hi mx:Option AV}:HI fun h=>slSl size x lo hi mx h:=by
  refine .asSl .slNil fun b off len cap=>.slHd ?_
  cases cap with
  |kn c=>exact .slCap
  |un es=>exact .slUnk
theorem HI.sliceA {t:TypeId} {x:AV} {lo hi mx:Option AV}:HI ((sliceA P t).f x lo hi mx):=by
  unfold Eng.sliceA
  cases htd:tdOf P t<;>first|exact .fail _|skip
  case str =>
    cases mx with
    |none=>exact HI.asStr fun n v=>.bnds fun _ _=>.mkS _ _
    |some m=>exact .fail _
  case slice=>exact .slSl
  case array=>exact HI.asPtr fun _ _=>.slCap
theorem HI.intOp (op:BinOp) (k:IntKind) (a b:Nat):HI ((intOp op).f k a b):=by
  cases op<;>first|exact .fail _|exact .mkI _ _|exact .mkB _|exact .ifB (.fail _) (.mkI _ _)
theorem HI.strOp (op:BinOp) (n v m w:Nat):HI ((strOp op).f n v m w):=by
  cases op<;>first|exact .fail _|exact .mkB _|exact .ifB (.mkS _ _) (.fail _)
theorem HI.shOp (op:BinOp) (k:IntKind) (a:Nat) (k':IntKind) (b:Nat):HI ((shOp op).f k a k' b):=by
  cases op<;>first|exact .fail _|exact .ifB (.mkI _ _) (.fail _)
theorem HI.intG (op:BinOp) (k:IntKind) (a:Nat) (k':IntKind) (b:Nat):HI ((intG op).f k a k' b):=by
  unfold Eng.intG
  cases isSh op with
  |true=>exact .shOp op k a k' b
  |false=>exact .ifB (.intOp op k a b) (.fail _)
theorem HI.eqRes {neg:Bool} {o:Option Bool}:HI fun h=>eqRes neg o h:=.osome fun _=>.mkB _
theorem HI.eqG {op:BinOp} {t:TypeId} {q:Bool} {x y:AV}:HI ((eqG P op t q).f x y):=by
  unfold Eng.eqG
  cases goodEq P t q with
  |false=>exact .fail _
  |true=>cases op<;>first|exact .fail _|exact .eqRes
theorem HI.ltR {k:IntKind} {a b c d:Nat} {x y:Bool}:HI fun h=>Eng.ltR k a b c d (Eng.mkB x h) (Eng.mkB y h):=HI.ifB (HI.mkB _) (HI.ifB (HI.fail _) (HI.mkB _))
theorem HI.cmpN {op:BinOp} {k k':IntKind} {a b c d:Nat}:HI fun h=>Eng.cmpN op k a b k' c d h:=by
  refine .ifB (.ifB (.ifB ?_ (.fail _)) (.fail _)) (.fail _)
  cases op<;>first|exact .fail _|exact HI.ltR|exact HI.ifB (HI.mkB _) (HI.ifB (HI.mkB _) (HI.fail _))
theorem HI.symV {k:IntKind} {e:SE}:HI fun h=>Eng.symV k e h:=HI.val _
theorem HI.symF {op:BinOp} {k:IntKind} {a b:SE}:HI ((Eng.symF op).f k a b):=by
  cases op<;>first|exact .fail _|exact HI.symV|exact HI.ifB HI.symV HI.symV
theorem HI.symSh {op:BinOp} {k:IntKind} {a:SE} {k':IntKind} {b:Nat}:HI ((Eng.symSh op).f k a k' b):=by
  cases op<;>first|exact .fail _|exact HI.ifB HI.symV (HI.fail _)
theorem HI.symN {op:BinOp} {k k':IntKind} {a b:SE}:HI fun h=>Eng.symN op k a k' b h:=HI.ifB (HI.fail _) (HI.ifB HI.symF (HI.fail _))
theorem HI.symR {op:BinOp} {k:IntKind} {a:SE} {y:AV}:HI fun h=>Eng.symR op k a y h:=by
  cases y<;>first|exact .fail _|exact HI.ifB HI.symSh HI.symN|exact HI.symN
theorem HI.cmpR {op:BinOp} {k:IntKind} {a b:Nat} {y:AV}:HI (Eng.cmpR op k a b y):=by
  cases y<;>first|exact .fail _|exact HI.cmpN|exact HI.ifB HI.symN (HI.fail _)
theorem HI.binA {op:BinOp} {t:TypeId} {q:Bool} {x y:AV}:HI ((binA P op t q).f x y):=by
  cases x<;>first|exact .fail _|exact HI.eqG|exact HI.cmpR|exact HI.symR|skip
  case int k a=>cases y<;>first|exact .fail _|exact .intG _ _ _ _ _|exact HI.cmpN|exact HI.cmpR (y:=.sym _ _)
  case str n v=>cases y<;>first|exact .fail _|exact .strOp _ _ _ _ _
theorem HI.unA {op:UnOp} {x:AV}:HI ((unA op).f x):=by
  cases op<;>first|exact .fail _|(cases x<;>first|exact .fail _|exact .mkI _ _|exact .mkB _|exact HI.symV)
theorem HI.idxTo {b off i n size:Nat}:HI fun h=>idxTo b off i n size h:=.ifB (.forceN (.val _)) (.fail _)
theorem pure_like {op:Op} (hc:cls P op=.pure):HI ((evOp P op).f call fr):=by
  unfold evOp
  cases lall (goodO P) op.operands.toList with
  |false=>exact .fail _
  |true =>
    rw[ifB_true]
    unfold cls at hc
    cases op<;>first|exact .fail _|(cases hc;done)|skip
    case move x=>exact .mkV _
    case assign x=>exact .mkV _
    case pick c a b=>exact HI.asBoolV fun c=>.ifB (.mkV _) (.mkV _)
    case build t parts =>
      show HI ((eBuild P t parts).f call fr)
      unfold eBuild
      cases zeroT P t with
      |none=>exact .fail _
      |some z =>
        cases htd:tdOf P t<;>dsimp only<;>first|exact .fail _|skip
        case array=>exact HI.fill _ _ _ fun _=>.val _
        case struct=>exact HI.fill _ _ _ fun _=>.val _
    case nilCheck x =>
      show HI (nilChk (ov P fr x))
      cases ov P fr x<;>first|exact .fail _|exact .val _
    case binOp op t x y cf=>exact HI.binA
    case unOp op t x=>exact HI.unA
    case convert src dst x =>
      show HI ((convA P src dst).f (ov P fr x))
      dsimp only at hc
      unfold convA
      cases htd:tdOf P dst<;>rw[htd]at hc<;>first|exact .fail _|(cases hc;done)|skip
      case int k =>
        dsimp only
        cases isIntT P src with
        |false=>exact .fail _
        |true =>
          show HI fun h=>convInt k (ov P fr x) h
          cases ov P fr x<;>first|exact .fail _|exact .mkI _ _|exact HI.symV
      case slice a b c =>
        have hc:ifB (Nat.beq src dst) Cls.read Cls.alloc=.pure:=hc
        rw[ifB_eq]at hc
        split at hc<;>cases hc
    case makeInterface t x =>
      show HI ((eIface P t x).f call fr)
      unfold eIface
      rw[ifB_eq]
      split
      · exact .forceV (.val _)
      · exact .fail _
    case makeFunc f a b =>
      cases f<;>first|exact .fail _|skip
      rename_i f
      exact .of (fun h=>(ogets_eq fr _ _).trans (ogets_eq fr _ _)) (.val _)
    case slice t x lo hi mx =>
      show HI ((eSlice P t x lo hi mx).f call fr)
      unfold eSlice
      rw[ifB_eq]
      split
      · exact .fail _
      · exact HI.sliceA
    case fieldAddr s x f =>
      show HI ((eFieldAddr P s x f).f call fr)
      unfold eFieldAddr
      cases htd:tdOf P s<;>dsimp only<;>first|exact .fail _|skip
      rename_i fs
      cases lget? fs f with
      |none=>exact .fail _
      |some fd =>
        dsimp only
        rw[ifB_eq]
        split
        · exact .fail _
        · rw[forceN_eq];exact HI.asPtr fun _ _=>.forceN (.val _)
    case field s x f =>
      show HI ((eField P s x f).f call fr)
      unfold eField
      cases htd:tdOf P s<;>dsimp only<;>first|exact .fail _|skip
      rename_i fs
      cases lget? fs f with
      |none=>exact .fail _
      |some fd=>exact HI.asAgg fun _=>.osome fun _=>.mkV _
    case indexAddr t x i =>
      show HI ((indexAddrA P t).f (ov P fr x) (ov P fr i))
      unfold indexAddrA
      cases htd:tdOf P t<;>dsimp only<;>first|exact .fail _|skip
      case slice=>exact HI.intIdx fun _=>.asSl (.fail _) fun _ _ _ _=>.idxTo
      case array=>exact HI.intIdx fun _=>.asPtr fun _ _=>.idxTo
    case index t x i =>
      show HI ((indexA P t).f (ov P fr x) (ov P fr i))
      unfold indexA
      cases htd:tdOf P t<;>dsimp only<;>first|exact .fail _|skip
      case str=>exact HI.intIdx fun _=>.asStr fun _ _=>.ifB (.mkI _ _) (.fail _)
      case array=>exact HI.intIdx fun _=>.asAgg fun _=>.ifB (.osome fun _=>.mkV _) (.fail _)
    case extract x i=>exact HI.asTup fun _=>.osome fun _=>.mkV _
    case call c =>
      show HI ((eCall P c).f call fr)
      unfold eCall
      dsimp only at hc
      cases hcc:c.callee with
      |value f=>rw[hcc]at hc;cases hc
      |invoke r m=>exact .fail _
      |builtin b =>
        rw[hcc]at hc
        dsimp only at hc ⊢
        unfold cBuiltin
        cases b<;>first|(cases hc;done)|skip
        case cap =>
          split
          · rename_i x t ts _ _
            show HI ((capA P t).f (ov P fr x))
            unfold capA
            cases htd:tdOf P t<;>dsimp only<;>first|exact .fail _|skip
            case slice =>
              refine .asSl (.mkLen 0) fun _ _ _ c=>?_
              cases c with
              |kn c=>exact .mkLen c
              |un s=>exact .fail _
            case array=>exact .mkLen _
          · exact .fail _
          · exact .fail _
        case min =>
          split
          · exact .fail _
          · rename_i x y t t2 ts _ _
            show HI fun h=>minA (ov P fr x) (ov P fr y) h
            cases ov P fr x<;>first|exact .fail _|skip
            cases ov P fr y<;>first|exact .fail _|skip
            exact HI.ifB (.mkI _ _) (.fail _)
          · exact .fail _
theorem read_like {op:Op} (hc:cls P op=.read) {h h':H} {v:AV} (e:(evOp P op).f call fr h=.val v h'):h'=h:=by
  unfold evOp at e
  cases hgd:lall (goodO P) op.operands.toList with
  |false=>rw[hgd]at e;exact(fail_val e).elim
  |true =>
    rw[hgd,ifB_true]at e
    unfold cls at hc
    cases op<;>first|exact(fail_val e).elim|(cases hc;done)|skip
    case load t x =>
      have e:(loadA P t).f (ov P fr x) h=.val v h':=e
      unfold loadA at e
      cases ht:tyOf P t with
      |none=>rw[ht]at e;exact(fail_val e).elim
      |some y =>
        obtain⟨s,c,agg⟩:=y
        rw[ht]at e
        dsimp only at e
        rw[forceN_eq]at e
        cases agg with
        |true =>
          obtain⟨b,o,hx,e⟩:=asPtr_val e
          obtain⟨ro,sz,cs,hb,e⟩:=withB_val e
          obtain⟨_,e⟩:=ifB_t e
          rw[cgets_eq]at e
          cases e;rfl
        |false =>
          obtain⟨b,o,hx,e⟩:=asPtr_val e
          obtain⟨ro,sz,cs,hb,e⟩:=withB_val e
          obtain⟨_,e⟩:=ifB_t e
          rw[mkV_eq]at e
          cases e;rfl
    case lookup t x i ok =>
      have e:(eLookup P t x i ok).f call fr h=.val v h':=e
      unfold eLookup at e
      cases htd:tdOf P t<;>rw[htd]at e<;>first|exact(fail_val e).elim|skip
      rename_i key elem
      dsimp only at e
      cases hk:isKeyT P key with
      |false=>rw[hk]at e;exact(fail_val e).elim
      |true =>
        rw[hk,ifB_true]at e
        cases hz:zeroT P elem with
        |none=>rw[hz]at e;exact(fail_val e).elim
        |some z =>
          rw[hz]at e
          have e:forceV (ov P fr i) (fun k=>mapEs (ov P fr x) h fun es=>mpFind (keyQ P key).f k es (fun v=>ifB ok (.val (.tup [v,.bool true]) h) (.val v h)) (ifB ok (.val (.tup [z,.bool false]) h) (.val z h)))=.val v h':=e
          rw[forceV_eq]at e
          have two:∀(a b:AV),ifB ok (RV.val a h) (.val b h)=.val v h'→h'=h:=by
            intro a b e
            rw[ifB_eq]at e
            split at e<;>(cases e;rfl)
          have key:∀es,mpFind (keyQ P key).f (ov P fr i) es (fun v=>ifB ok (.val (.tup [v,.bool true]) h) (.val v h)) (ifB ok (.val (.tup [z,.bool false]) h) (.val z h))=.val v h'→h'=h:=by
            intro es
            induction es with
            |nil=>exact two _ _
            |cons y es ih =>
              intro e
              obtain⟨b,_,e⟩:=osome_val (show osome 49 ((keyQ P key).f (ov P fr i) y.1) (fun b=>ifB b (ifB ok (.val (.tup [y.2,.bool true]) h) (.val y.2 h)) (mpFind (keyQ P key).f (ov P fr i) es (fun v=>ifB ok (.val (.tup [v,.bool true]) h) (.val v h)) (ifB ok (.val (.tup [z,.bool false]) h) (.val z h))))=.val v h' from e)
              cases b with
              |true=>exact two _ _ e
              |false=>exact ih e
          rcases mapEs_val e with ⟨_,e⟩|⟨_,es,_,_,e⟩
          · exact key _ e
          · exact key _ e
    case convert src dst x =>
      have e:(convA P src dst).f (ov P fr x) h=.val v h':=e
      dsimp only at hc
      unfold convA at e
      cases htd:tdOf P dst<;>rw[htd]at hc e<;>first|exact(fail_val e).elim|(cases hc;done)|skip
      case str =>
        have e:(toStr P src).f (ov P fr x) h=.val v h':=e
        unfold toStr at e
        cases hts:tdOf P src<;>rw[hts]at e<;>first|exact(fail_val e).elim|skip
        case str =>
          have e:toStrS (ov P fr x) h=.val v h':=e
          cases hq:ov P fr x<;>rw[hq]at e<;>first|exact(fail_val e).elim|(cases (show RV.val _ h=.val v h' from e);rfl)
        case slice el _ _ =>
          dsimp only at e
          cases hu:isU8 P el with
          |false=>rw[hu]at e;exact(fail_val e).elim
          |true =>
            rw[hu,ifB_true]at e
            have e:toStrB (ov P fr x) h=.val v h':=e
            cases hq:ov P fr x<;>rw[hq]at e<;>first|exact(fail_val e).elim|(cases (show RV.val _ h=.val v h' from e);rfl)|skip
            rename_i b o l cp
            obtain⟨ro,sz,cs,hb,e⟩:=withB_val (show withB h b (fun _ sz cs=>ifB (Nat.ble (Nat.add o l) sz) (cgets cs l o fun l'=>bytesOf l' fun v=>.val (.str l v) h) (.fail 22))=.val v h' from e)
            obtain⟨_,e⟩:=ifB_t e
            rw[cgets_eq]at e
            have key:∀(l':List AV) (k:Nat→RV),(∀m,k m=.val v h'→h'=h)→bytesOf l' k=.val v h'→h'=h:=by
              intro l'
              induction l' with
              |nil=>intro k hk e;exact hk _ e
              |cons y l' ih =>
                intro k hk e
                cases y<;>first|exact(fail_val e).elim|skip
                rename_i kd n
                obtain⟨_,e⟩:=ifB_t (show ifB (keq kd .u8) (bytesOf l' fun m=>forceN (Nat.add n (Nat.mul 256 m)) k) (.fail 21)=.val v h' from e)
                exact ih _ (fun m e=>by rw[forceN_eq]at e;exact hk _ e) e
            exact key _ _ (fun m e=>by cases e;rfl) e
      case slice el s c =>
        have hc:ifB (Nat.beq src dst) Cls.read Cls.alloc=.read:=hc
        cases hsd:Nat.beq src dst with
        |false=>rw[hsd]at hc;cases hc
        |true =>
          dsimp only at e
          rw[hsd]at e
          cases hu:isU8 P el with
          |false=>rw[hu]at e;exact(fail_val e).elim
          |true =>
            rw[hu]at e
            rcases asSl_val (show asSl (ov P fr x) (.fail 24) (fun b o l c=>withB h b fun ro _ _=>ifB ro (.fail 24) (ifB (Nat.beq l 0) (.fail 24) (.val (.slice b o l c) h)))=.val v h' from e) with ⟨_,e⟩|⟨b,o,l,c,hq,e⟩
            · exact(fail_val e).elim
            · obtain⟨ro,sz,cs,hb,e⟩:=withB_val e
              obtain⟨_,e⟩:=ifB_f e
              obtain⟨_,e⟩:=ifB_f e
              cases e;rfl
    case call c =>
      have e:(eCall P c).f call fr h=.val v h':=e
      unfold eCall at e
      dsimp only at hc
      cases hcc:c.callee with
      |value f=>rw[hcc]at hc;cases hc
      |invoke r m=>rw[hcc]at e;exact(fail_val e).elim
      |builtin b =>
        rw[hcc]at hc e
        dsimp only at hc e
        unfold cBuiltin at e
        cases b<;>first|(cases hc;done)|skip
        case len =>
          split at e
          · rename_i x t ts _ _
            have e:(lenA P t).f (ov P fr x) h=.val v h':=e
            unfold lenA at e
            cases htd:tdOf P t<;>rw[htd]at e<;>first|exact(fail_val e).elim|skip
            case str =>
              obtain⟨_,_,_,e⟩:=asStr_val e
              exact(mkLen_val e).1
            case slice =>
              rcases asSl_val e with ⟨_,e⟩|⟨_,_,_,_,_,e⟩
              · exact(mkLen_val e).1
              · exact(mkLen_val e).1
            case array=>exact(mkLen_val e).1
            case map =>
              rcases mapEs_val e with ⟨_,e⟩|⟨_,_,_,_,e⟩
              · rw[forceN_eq]at e;exact(mkLen_val e).1
              · rw[forceN_eq]at e;exact(mkLen_val e).1
          · exact(fail_val e).elim
          · exact(fail_val e).elim
def AL (g:H→RV):Prop:=(∃(x:Blk) (vf:Nat→AV),∀h,g h=newB h x fun b h=>.val (vf b) h)∨∀h v h',g h≠.val v h'
theorem AL.fail (w:Nat):AL fun _=>.fail w:=.inr fun _ _ _ e=>nomatch e
theorem AL.of {g g':H→RV} (e:∀h,g h=g' h) (x:AL g'):AL g:=by
  have:g=g':=funext e
  rw[this];exact x
theorem AL.newB {x:Blk} {vf:Nat→AV}:AL fun h=>newB h x fun b h=>.val (vf b) h:=.inl ⟨x,vf,fun _=>rfl⟩
theorem AL.newBlk {l:List AV} {vf:Nat→AV}:AL fun h=>newBlk h l fun b h=>.val (vf b) h :=
  .of (g':=fun h=>Eng.newB h (blkOf l) fun b h=>.val (vf b) h) (fun h=>by unfold Eng.newBlk;rw[csets_eq,forceN_eq,llen_eq];rfl) .newB
theorem AL.ifB {b:Bool} {g g':H→RV} (x:AL g) (y:AL g'):AL fun h=>ifB b (g h) (g' h):=by
  cases b
  · exact y
  · exact x
theorem AL.forceV {n:AV} {k:AV→H→RV} (x:AL (k n)):AL fun h=>forceV n fun n=>k n h:=.of (fun h=>forceV_eq n fun n=>k n h) x
theorem AL.forceL {α:Type} {l:List α} {k:List α→H→RV} (y:AL (k l)):AL fun h=>forceL l fun l=>k l h:=.of (fun h=>forceL_eq l fun l=>k l h) y
theorem AL.cellsK {x:AV} {k:List AV→H→RV} (y:∀l,AL (k l)):AL fun h=>cellsK x fun l=>k l h:=by
  cases x<;>first|exact .fail _|exact y _
theorem AL.osome {α:Type} {w:Nat} {o:Option α} {k:α→H→RV} (x:∀a,AL (k a)):AL fun h=>osome w o fun a=>k a h:=by
  cases o with
  |none=>exact .fail w
  |some a=>exact x a
theorem AL.asStr {x:AV} {k:Nat→Nat→H→RV} (y:∀b o,AL (k b o)):AL fun h=>asStr x fun b o=>k b o h:=by
  cases x<;>first|exact .fail _|exact y _ _
theorem AL.intIdx {x:AV} {k:Nat→H→RV} (y:∀a,AL (k a)):AL fun h=>intIdx x fun a=>k a h:=by
  cases x<;>first|exact .fail _|skip
  rename_i kd a
  exact AL.ifB (b:=nneg kd a) (y a) (.fail _)
theorem AL.fill {place:Nat→Option (Nat×Nat)}:∀(l:List (Nat×Operand)) (cs:List AV) (k:List AV→H→RV),(∀cs,AL (k cs))→AL fun h=>(fillA P place l).f fr cs fun cs=>k cs h
  | [],cs,k,y=>y cs
  |p::l,cs,k,y=>by
    have e:∀h,(fillA P place (p::l)).f fr cs (fun cs=>k cs h)=Eng.osome 28 (place p.1) fun os=>Eng.forceV ((operandR P p.2).f fr) fun a=>Eng.cellsK a fun l' =>
      Eng.ifB (Nat.beq (llen l') os.2) (Eng.ifB (Nat.ble (Nat.add os.1 os.2) (llen cs)) (Eng.forceL (splice cs os.1 l' os.2) fun cs=>(fillA P place l).f fr cs fun cs=>k cs h) (.fail 28)) (.fail 28):=fun _=>rfl
    refine .of e (.osome fun os=>.forceV (.cellsK fun l'=>.ifB (.ifB (.forceL ?_) (.fail _)) (.fail _)))
    exact AL.fill l _ k y
theorem alloc_like {op:Op} (hc:cls P op=.alloc):AL ((evOp P op).f call fr):=by
  unfold evOp
  cases lall (goodO P) op.operands.toList with
  |false=>exact .fail _
  |true =>
    rw[ifB_true]
    unfold cls at hc
    cases op<;>first|exact .fail _|(cases hc;done)|skip
    case alloc t =>
      show AL ((eAlloc P t).f call fr)
      unfold eAlloc
      cases zeroT P t with
      |none=>exact .fail _
      |some z=>exact .newBlk
    case box t x=>exact .forceV (.cellsK fun _=>.newBlk)
    case buildSlice t l parts =>
      show AL ((eBuildSlice P t l parts).f call fr)
      unfold eBuildSlice
      cases htd:tdOf P t<;>dsimp only<;>first|exact .fail _|skip
      rename_i el size bytes
      cases Nat.beq (Nat.mul l size) 0 with
      |true =>
        rw[ifB_true]
        split
        · show AL fun h=>Eng.newBlk h [] fun b h=>.val (.slice b 0 l (.kn l)) h
          exact AL.newBlk (vf:=fun b=>.slice b 0 l (.kn l))
        · exact .fail _
      |false =>
        rw[ifB_false]
        cases Nat.ble (Nat.mul l size) 16777216 with
        |false=>exact .fail _
        |true =>
          rw[ifB_true]
          cases zeroT P el with
          |none=>exact .fail _
          |some z=>exact AL.fill _ _ _ fun _=>.newBlk
    case convert src dst x =>
      show AL ((convA P src dst).f (ov P fr x))
      dsimp only at hc
      unfold convA
      cases htd:tdOf P dst<;>rw[htd]at hc<;>first|exact .fail _|(cases hc;done)|skip
      case slice el b c =>
        have hc:ifB (Nat.beq src dst) Cls.read Cls.alloc=.alloc:=hc
        dsimp only
        cases hsd:Nat.beq src dst with
        |true=>rw[hsd]at hc;cases hc
        |false =>
          cases isU8 P el with
          |false=>exact .fail _
          |true =>
            rw[ifB_true,ifB_false]
            cases isStrT P src with
            |false=>exact .fail _
            |true=>exact AL.asStr fun _ _=>.forceL .newBlk
    case makeMap t r =>
      cases r with
      |none=>exact .newB
      |some x=>exact .fail _
    case makeSlice t l c =>
      show AL ((eMkSlice P t l c).f call fr)
      unfold eMkSlice
      cases htd:tdOf P t<;>dsimp only<;>first|exact .fail _|skip
      rename_i el size bytes
      cases zeroT P el with
      |none=>exact .fail _
      |some z=>exact AL.intIdx fun l=>.intIdx fun c=>.ifB (.ifB (.fail _) (.ifB (.forceL .newBlk) (.fail _))) (.fail _)
    case call c =>
      cases hcc:c.callee<;>simp only[hcc]at hc<;>first|(cases hc;done)|skip
      rename_i b
      cases b<;>cases hc
end
end Go.Eng
namespace Go.Eng
set_option autoImplicit false
variable [Deep] [Env]
open Classical in
noncomputable def withRest (ρ:Ren) (f:Nat→Blk) (h h':H) (b:Nat):Blk:=if(∃x,ρ b=some x)∧hget h b=.dead then f b else hget h' b
section
variable {ρ ρ':Ren} {f g f':Nat→Blk} {h h':H} {w w':World}
theorem lv_dead {b:Blk} (h:¬lv b):b=.dead:=by cases b with
  |dead=>rfl
  |live _ _ _=>exact absurd trivial h
  |mp _=>exact absurd trivial h
theorem HF.sub (hf:HF ρ f w) (sub:∀b x,ρ b=some x→hget h b=.dead∨hget h b=f b):HR ρ h w:=by
  have old:∀b x,ρ b=some x→lv (hget h b)→hget h b=f b:=fun b x e l=>(sub b x e).resolve_left fun q=>by rw[q]at l;exact l
  refine⟨fun b B o N e=>?_,fun b b' B o N o' N' e e' l l'=>?_,hf.dom⟩
  · rcases sub b _ e with q|q
    · rw[q];trivial
    · rw[q];exact hf.blk b B o N e
  · exact hf.inj b b' B o N o' N' e e' (by rw[←old b _ e l.lv];exact l) (by rw[←old b' _ e' l'];exact l')
theorem SF.congr (s:SF ρ ρ' f f' w w') (q:∀b x,ρ' b=some x→f' b=g b):SF ρ ρ' f g w w' where
  le:=s.le
  hr:=⟨fun b B o N e=>by rw[←q b _ e];exact s.hr.blk b B o N e,fun b b' B o N o' N' e e' l l'=>s.hr.inj b b' B o N o' N' e e' (by rw[q b _ e];exact l) (by rw[q b' _ e'];exact l'),s.hr.dom⟩
  rng:=fun b B o N e hw=>s.rng b B o N e (by rw[q b _ e];exact hw)
  ro:=fun b B o N e hl hw=>s.ro b B o N e (by rw[q b _ e];exact hl) (by rw[q b _ e];exact hw)
  size:=s.size
  keep:=s.keep
  still:=s.still
theorem SF.frame (hf:HF ρ f w) (sub:∀b x,ρ b=some x→hget h b=.dead∨hget h b=f b) (st:St ρ ρ' h h' w w'):SF ρ ρ' f (withRest ρ f h h') w w':=by
  have old:∀b x,ρ b=some x→lv (hget h b)→hget h b=f b:=fun b x e l=>(sub b x e).resolve_left fun q=>by rw[q]at l;exact l
  have frm:∀b,((∃x,ρ b=some x)∧hget h b=.dead)→withRest ρ f h h' b=f b:=fun b c=>if_pos c
  have non:∀b,¬((∃x,ρ b=some x)∧hget h b=.dead)→withRest ρ f h h' b=hget h' b:=fun b c=>if_neg c
  have apart:∀b B o N,ρ b=some (B,o,N)→hget h b=.dead→lv (f b)→∀b1 o1 N1,ρ b1=some (B,o1,N1)→¬wl (hget h b1):=by
    intro b B o N e hd hl b1 o1 N1 e1 hw1
    have h1:=old b1 _ e1 hw1.lv
    have h2:b1=b:=hf.inj b1 b B o1 N1 o N e1 e (by rw[←h1];exact hw1) hl
    subst h2
    rw[hd]at hw1
    exact hw1
  have apart1:∀b B o N,ρ b=some (B,o,N)→hget h b=.dead→wl (f b)→∀b1 o1 N1,ρ b1=some (B,o1,N1)→¬lv (hget h b1):=by
    intro b B o N e hd hw b1 o1 N1 e1 hl1
    have h1:=old b1 _ e1 hl1
    have h2:b=b1:=hf.inj b b1 B o N o1 N1 e e1 hw (by rw[←h1];exact hl1)
    subst h2
    rw[hd]at hl1
    exact hl1
  have get:∀b x y,ρ b=some x→ρ' b=some y→x=y:=fun b x y e e'=>Option.some.inj ((st.le b x e).symm.trans e')
  have mix:∀b b' B o N o' N',((∃x,ρ b=some x)∧hget h b=.dead)→ρ' b=some (B,o,N)→ρ' b'=some (B,o',N')→lv (f b)→wl (hget h' b')→False:=by
    intro b b' B o N o' N' c e e' l hw
    obtain⟨⟨x,ex⟩,hd⟩:=c
    obtain rfl:=get b x _ ex e
    have hlt:=(hf.blk b B o N ex).lt l
    rcases st.rng b' B o' N' e' hw with h1|⟨b0,o0,N0,e0,w0⟩
    · omega
    · exact apart b B o N ex hd l b0 o0 N0 e0 w0
  have mix1:∀b b' B o N o' N',((∃x,ρ b=some x)∧hget h b=.dead)→ρ' b=some (B,o,N)→ρ' b'=some (B,o',N')→wl (f b)→lv (hget h' b')→False:=by
    intro b b' B o N o' N' c e e' l l'
    by_cases hw:wl (hget h' b')
    · exact mix b b' B o N o' N' c e e' l.lv hw
    · obtain⟨⟨x,ex⟩,hd⟩:=c
      obtain rfl:=get b x _ ex e
      obtain⟨e1,l1,_⟩:=st.ro b' B o' N' e' l' hw
      exact apart1 b B o N ex hd l b' o' N' e1 l1
  refine⟨st.le,⟨fun b B o N e=>?_,fun b b' B o N o' N' e e' l l'=>?_,st.hr.dom⟩,fun b B o N e hw=>?_,fun b B o N e hl hw=>?_,st.size,fun B hB hn=>?_,st.still⟩
  · by_cases c:(∃x,ρ b=some x)∧hget h b=.dead
    · rw[frm b c]
      obtain⟨⟨x,ex⟩,hd⟩:=c
      obtain rfl:=get b x _ ex e
      have hb:=hf.blk b B o N ex
      by_cases hl:lv (f b)
      · exact hb.mono st.le (st.keep B (hb.lt hl) fun b1 o1 N1 e1 hw=>apart b B o N ex hd hl b1 o1 N1 e1 hw)
      · rw[lv_dead hl];trivial
    · rw[non b c];exact st.hr.blk b B o N e
  · by_cases c:(∃x,ρ b=some x)∧hget h b=.dead<;>by_cases c':(∃x,ρ b'=some x)∧hget h b'=.dead
    · rw[frm b c]at l
      rw[frm b' c']at l'
      obtain⟨⟨x,ex⟩,_⟩:=c
      obtain⟨⟨y,ey⟩,_⟩:=c'
      obtain rfl:=get b x _ ex e
      obtain rfl:=get b' y _ ey e'
      exact hf.inj b b' B o N o' N' ex ey l l'
    · rw[frm b c]at l
      rw[non b' c']at l'
      exact(mix1 b b' B o N o' N' c e e' l l').elim
    · rw[non b c]at l
      rw[frm b' c']at l'
      exact(mix b' b B o' N' o N c' e' e l' l).elim
    · rw[non b c]at l
      rw[non b' c']at l'
      exact st.hr.inj b b' B o N o' N' e e' l l'
  · by_cases c:(∃x,ρ b=some x)∧hget h b=.dead
    · rw[frm b c]at hw
      obtain⟨⟨x,ex⟩,_⟩:=c
      obtain rfl:=get b x _ ex e
      exact .inr ⟨b,o,N,ex,hw⟩
    · rw[non b c]at hw
      rcases st.rng b B o N e hw with h1|⟨b0,o0,N0,e0,w0⟩
      · exact .inl h1
      · exact .inr ⟨b0,o0,N0,e0,by rw[←old b0 _ e0 w0.lv];exact w0⟩
  · by_cases c:(∃x,ρ b=some x)∧hget h b=.dead
    · rw[frm b c]at hl hw
      obtain⟨⟨x,ex⟩,_⟩:=c
      obtain rfl:=get b x _ ex e
      exact⟨ex,hl,hw⟩
    · rw[non b c]at hl hw
      obtain⟨e1,l1,w1⟩:=st.ro b B o N e hl hw
      have q:=old b _ e1 l1
      rw[q]at l1 w1
      exact⟨e1,l1,w1⟩
  · exact st.keep B hB fun b o N e hw=>hn b o N e (by rw[←old b _ e hw.lv];exact hw)
end
mutual
theorem avEq_sound:∀(a y:AV),avEq a y=true→a=y
  |.bool b,y,h=>by cases y<;>first|(cases h;done)|(rw[eq_of_beq ((beqB_eq _ _).symm.trans h)])
  |.int k n,y,h=>by
    cases y<;>first|(cases h;done)|skip
    rename_i k' n'
    obtain⟨h1,h2⟩:=and2_true (show and2 (keq k k') (Nat.beq n n')=true from h)
    rw[beq_true.1 h2]
    cases k<;>cases k'<;>first|rfl|(cases h1;done)
  |.str n v,y,h=>by
    cases y<;>first|(cases h;done)|skip
    rename_i n' v'
    obtain⟨h1,h2⟩:=and2_true (show and2 (Nat.beq n n') (Nat.beq v v')=true from h)
    rw[beq_true.1 h1,beq_true.1 h2]
  |.nilptr,y,h=>by cases y<;>first|(cases h;done)|rfl
  |.ptr b o,y,h=>by
    cases y<;>first|(cases h;done)|skip
    rename_i n' v'
    obtain⟨h1,h2⟩:=and2_true (show and2 (Nat.beq b n') (Nat.beq o v')=true from h)
    rw[beq_true.1 h1,beq_true.1 h2]
  |.nilslice,y,h=>by cases y<;>first|(cases h;done)|rfl
  |.slice b o l c,y,h=>by
    cases y<;>first|(cases h;done)|skip
    rename_i b' o' l' c'
    obtain⟨h1,h2⟩:=and2_true (show and2 (Nat.beq b b') (and2 (Nat.beq o o') (and2 (Nat.beq l l') (cpEq c c')))=true from h)
    obtain⟨h2,h3⟩:=and2_true h2
    obtain⟨h3,h4⟩:=and2_true h3
    rw[beq_true.1 h1,beq_true.1 h2,beq_true.1 h3]
    cases c<;>cases c'<;>first|(cases h4;done)|(rw[beq_true.1 (show Nat.beq _ _=true from h4)])
  |.func f a b,y,h=>by
    cases y<;>first|(cases h;done)|skip
    rename_i f' a' b'
    obtain⟨h1,h2⟩:=and2_true (show and2 (Nat.beq f f') (and2 (avEq (.agg a) (.agg a')) (avEq (.agg b) (.agg b')))=true from h)
    obtain⟨h2,h3⟩:=and2_true h2
    rw[beq_true.1 h1,avEqs_sound a a' h2,avEqs_sound b b' h3]
  |.nilFunc,y,h=>by cases y<;>first|(cases h;done)|rfl
  |.iface t v,y,h=>by
    cases y<;>first|(cases h;done)|skip
    rename_i t' v'
    obtain⟨h1,h2⟩:=and2_true (show and2 (Nat.beq t t') (avEq v v')=true from h)
    rw[beq_true.1 h1,avEq_sound v v' h2]
  |.nilIface,y,h=>by cases y<;>first|(cases h;done)|rfl
  |.agg l,y,h=>by
    cases y<;>first|(cases h;done)|skip
    rename_i k
    rw[avEqs_sound l k h]
  |.tup l,y,h=>by
    cases y<;>first|(cases h;done)|skip
    rename_i k
    rw[avEqs_sound l k h]
  |.map b,y,h=>by
    cases y<;>first|(cases h;done)|skip
    rename_i b'
    rw[beq_true.1 (show Nat.beq b b'=true from h)]
  |.nilmap,y,h=>by cases y<;>first|(cases h;done)|rfl
  |.rng k a b,y,h=>by
    cases y<;>first|(cases h;done)|skip
    rename_i k' a' b'
    obtain⟨h1,h2⟩:=and2_true (show and2 (keq k k') (and2 (Nat.beq a a') (Nat.beq b b'))=true from h)
    obtain⟨h2,h3⟩:=and2_true h2
    rw[beq_true.1 h2,beq_true.1 h3]
    cases k<;>cases k'<;>first|rfl|(cases h1;done)
  |.sym k e,y,h=>by
    cases y<;>first|(cases h;done)|skip
    rename_i k' e'
    obtain⟨h1,h2⟩:=and2_true (show and2 (keq k k') (seEq e e')=true from h)
    rw[(keq_iff k k').1 h1,seEq_sound e e' h2]
theorem avEqs_sound:∀(l k:List AV),avEq (.agg l) (.agg k)=true→l=k
  | [],k,h=>by
    cases k with
    |nil=>rfl
    |cons a k=>cases h
  |a::l,k,h=>by
    cases k with
    |nil=>cases h
    |cons b k =>
      obtain⟨h1,h2⟩:=and2_true (show and2 (avEq a b) (avEq (.agg l) (.agg k))=true from h)
      rw[avEq_sound a b h1,avEqs_sound l k h2]
end
section
variable {P:Program} {n:Nat} {call:Caller}
theorem befF_spec (look:Nat→Nat) (o:Oper) (i:Nat) (h:(befF look o).testBit i=true):∃e∈o.after,Region.binds .any e=true∧(i=e.on∨(look e.on).testBit i=true):=by
  have key:∀(l:List Edge) (s:Nat),(l.foldl (fun s e=>if Region.binds .any e then s ||| 2 ^ e.on ||| look e.on else s) s).testBit i=true →
      s.testBit i=true∨∃e∈l,Region.binds .any e=true∧(i=e.on∨(look e.on).testBit i=true):=by
    intro l
    induction l with
    |nil=>intro s h;exact .inl h
    |cons e l ih =>
      intro s h
      rw[List.foldl_cons]at h
      rcases ih _ h with h1|⟨e',he',h2⟩
      · by_cases hb:Region.binds .any e=true
        · rw[if_pos hb,Nat.testBit_or,Nat.testBit_or,Bool.or_eq_true,Bool.or_eq_true,Nat.testBit_two_pow]at h1
          rcases h1 with (h1|h1)|h1
          · exact .inl h1
          · exact .inr ⟨e,by simp,hb,.inl (by simpa using (of_decide_eq_true h1).symm)⟩
          · exact .inr ⟨e,by simp,hb,.inr h1⟩
        · rw[if_neg hb]at h1;exact .inl h1
      · exact .inr ⟨e',by simp [he'],h2⟩
  rcases key o.after.toList 0 h with h1|⟨e,he,h2⟩
  · simp at h1
  · exact⟨e,by simpa using he,h2⟩
theorem befL_spec:∀(rest:List Oper) (j:Nat) (acc:List Nat),acc.length=j→(∀i,i<j→(befL rest j acc).getD i 0=acc.getD (j-1-i) 0) ∧
    ∀q o,rest[q]?=some o→(befL rest j acc).getD (j+q) 0=befF (fun i=>if i<j+q then(befL rest j acc).getD i 0 else 0) o
  | [],j,acc,hl=>by
    refine⟨fun i hi=>?_,fun q o h=>by simp at h⟩
    show acc.reverse.getD i 0=_
    rw[List.getD_eq_getElem?_getD,List.getD_eq_getElem?_getD,List.getElem?_reverse (by omega),hl]
  |o::rest,j,acc,hl=>by
    have e1:befL (o::rest) j acc=befL rest (j+1) (befF (fun i=>if i<j then acc.getD (j-1-i) 0 else 0) o::acc):=by
      show forceN _ _=_
      rw[forceN_eq]
    obtain⟨h1,h2⟩:=befL_spec rest (j+1) (befF (fun i=>if i<j then acc.getD (j-1-i) 0 else 0) o::acc) (by simp [hl])
    rw[←e1]at h1 h2
    have h3:∀i,i<j→(befL (o::rest) j acc).getD i 0=acc.getD (j-1-i) 0:=by
      intro i hi
      rw[h1 i (by omega)]
      obtain⟨q,hq⟩:∃q,j+1-1-i=q+1:=⟨j-i-1,by omega⟩
      rw[hq,show j-1-i=q by omega]
      rfl
    refine⟨h3,fun q o' ho=>?_⟩
    cases q with
    |zero =>
      have ho:o=o':=by simpa using ho
      subst ho
      rw[Nat.add_zero,h1 j (by omega),show j+1-1-j=0 by omega]
      have q:∀(a:Nat) (l:List Nat),(a::l).getD 0 0=a:=fun _ _=>rfl
      rw[q]
      congr 1
      funext i
      by_cases hi:i<j
      · rw[if_pos hi,if_pos hi,h3 i hi]
      · rw[if_neg hi,if_neg hi]
    |succ q =>
      have:=h2 q o' (by simpa using ho)
      rw[show j+(q+1)=j+1+q by omega]
      exact this
def bef (ops:Array Oper) (j i:Nat):Bool:=((befs ops.toList).getD j 0).testBit i
theorem bef_spec {ops:Array Oper} {j i:Nat} {o:Oper} (ho:ops[j]?=some o) (h:bef ops j i=true):∃e∈o.after,Region.binds .any e=true∧(i=e.on∨(e.on<j∧bef ops e.on i=true)):=by
  have:=(befL_spec ops.toList 0 [] rfl).2 j o (by simpa using ho)
  rw[Nat.zero_add]at this
  unfold bef befs at h
  rw[this]at h
  obtain⟨e,he,hb,h1⟩:=befF_spec _ _ _ h
  refine⟨e,he,hb,h1.imp id fun h1=>?_⟩
  by_cases hl:e.on<j
  · rw[if_pos hl]at h1;exact⟨hl,h1⟩
  · rw[if_neg hl]at h1;simp at h1
theorem bef_closed {ops:Array Oper} {S:Nat→Prop} (clo:∀j o,ops[j]?=some o→S j→∀e∈o.after,Region.binds .any e=true→S e.on) :
    ∀(j:Nat) (o:Oper),ops[j]?=some o→(∀e∈o.after,Region.binds .any e=true→S e.on)→∀i,bef ops j i=true→S i:=by
  intro j
  induction j using Nat.strongRecOn with
  |_ j ih =>
    intro o ho hS i h
    obtain⟨e,he,hb,h1|⟨h1,h2⟩⟩:=bef_spec ho h
    · rw[h1];exact hS e he hb
    · have hlt:=(Array.getElem?_eq_some_iff.1 ho).1
      obtain⟨o',ho'⟩:∃o',ops[e.on]?=some o':=⟨_,Array.getElem?_eq_getElem (by omega)⟩
      exact ih e.on h1 o' ho' (clo e.on o' ho' (hS e he hb)) i h2
noncomputable def isE (P:Program) (o:Oper):Bool:=isCls (cls P o.op) .eff
noncomputable def effs (P:Program) (l:List Oper):Nat:=(l.filter (isE P)).length
def Fact (P:Program) (call:Caller) (all:List Oper) (bs:List Nat) (nx0 j:Nat) (o:Oper) (fr:Fr) (h:H) (v:AV) (h1:H) (G:Rec→Prop):Prop:=match cls P o.op with
  |.alloc=>∃h2,(evOp P o.op).f call fr ⟨nx0+j,h.m⟩=.val v h2∧h1=⟨h.nx,h2.m⟩
  |.eff=>(evOp P o.op).f call fr h=.val v h1
  |.read=>(evOp P o.op).f call fr h=.val v h1∧(calm P all bs j=true∨G ⟨evOp P o.op,fr,v,effLo P all bs j,effHi P all bs j⟩)
  |.pure=>(evOp P o.op).f call fr h=.val v h1
theorem Fact.mono {all:List Oper} {bs:List Nat} {nx0 j:Nat} {o:Oper} {fr:Fr} {h h1:H} {v:AV} {G G':Rec→Prop} (g:∀r,G r→G' r) (x:Fact P call all bs nx0 j o fr h v h1 G):Fact P call all bs nx0 j o fr h v h1 G':=by
  unfold Fact at *
  split at x
  · exact x
  · exact x
  · exact⟨x.1,x.2.imp id (g _)⟩
  · exact x
structure Told (P:Program) (n:Nat) (call:Caller) (all:List Oper) (bs:List Nat) (nx0 j:Nat) (o:Oper) (fr:Fr) (h:H) (v:AV) (fr1:Fr) (h1:H) (G:Rec→Prop):Prop where
  dst:∀d,o.dst=some d→d<n
  put:fr1=frPut o.dst v fr
  what:((wantA all o.guard).f fr=true∧Fact P call all bs nx0 j o fr h v h1 G)∨((wantA all o.guard).f fr=false∧v=und∧h1=h)
theorem Told.mono {all:List Oper} {bs:List Nat} {nx0 j:Nat} {o:Oper} {fr fr1:Fr} {h h1:H} {v:AV} {G G':Rec→Prop} (g:∀r,G r→G' r) (x:Told P n call all bs nx0 j o fr h v fr1 h1 G):Told P n call all bs nx0 j o fr h v fr1 h1 G' :=
  ⟨x.dst,x.put,x.what.imp (fun y=>⟨y.1,y.2.mono g⟩) id⟩
theorem stepD_ok {all:List Oper} {bs:List Nat} {nx0 j:Nat} {o:Oper} {k:D} {fr fr':Fr} {h h':H} {hs:List H} {rs:List Rec} {e:Ex} (x:(stepD P n all bs j o k).f call nx0 fr h hs rs=.ok e fr' h') :
    ∃v fr1 h1 rs1,Told P n call all bs nx0 j o fr h v fr1 h1 (·∈rs1)∧(∀r∈rs,r∈rs1)∧k.f call nx0 fr1 h1 (if isE P o=true then h1::hs else hs) rs1=.ok e fr' h':=by
  have doit:∀a:D,a=(match cls P o.op with
      |.alloc=>dAlloc (evOp P o.op) (putA n o.dst) j k
      |.eff=>dEff (evOp P o.op) (putA n o.dst) k
      |.read=>ifB (calm P all bs j) (dPure (evOp P o.op) (putA n o.dst) k) (dRead (evOp P o.op) (putA n o.dst) (effLo P all bs j) (effHi P all bs j) k)
      |.pure=>dPure (evOp P o.op) (putA n o.dst) k)→(wantA all o.guard).f fr=true→a.f call nx0 fr h hs rs=.ok e fr' h' →
      ∃v fr1 h1 rs1,Told P n call all bs nx0 j o fr h v fr1 h1 (·∈rs1)∧(∀r∈rs,r∈rs1)∧k.f call nx0 fr1 h1 (if isE P o=true then h1::hs else hs) rs1=.ok e fr' h':=by
    intro a ha hw x
    subst ha
    cases hc:cls P o.op with
    |alloc =>
      simp only[hc]at x
      obtain⟨v,h2,x1,x2⟩:=rvk_ok (show rvk ((evOp P o.op).f call fr ⟨Nat.add nx0 j,h.m⟩) (fun v h2=>(putA n o.dst).f v fr fun fr=>k.f call nx0 fr ⟨h.nx,h2.m⟩ hs rs) .fail=.ok e fr' h' from x)
      obtain⟨x3,x4⟩:=putA_val x2
      have hE:¬isE P o=true:=by unfold isE;rw[hc];simp [isCls]
      exact⟨v,_,⟨h.nx,h2.m⟩,rs,⟨x3,rfl,.inl ⟨hw,by unfold Fact;rw[hc];exact⟨h2,x1,rfl⟩⟩⟩,fun _ h=>h,by rw[if_neg hE];exact x4⟩
    |eff =>
      simp only[hc]at x
      obtain⟨v,h2,x1,x2⟩:=rvk_ok (show rvk ((evOp P o.op).f call fr h) (fun v h=>(putA n o.dst).f v fr fun fr=>k.f call nx0 fr h (h::hs) rs) .fail=.ok e fr' h' from x)
      obtain⟨x3,x4⟩:=putA_val x2
      have hE:isE P o=true:=by unfold isE;rw[hc];rfl
      exact⟨v,_,h2,rs,⟨x3,rfl,.inl ⟨hw,by unfold Fact;rw[hc];exact x1⟩⟩,fun _ h=>h,by rw[if_pos hE];exact x4⟩
    |read =>
      simp only[hc]at x
      have hE:¬isE P o=true:=by unfold isE;rw[hc];simp [isCls]
      cases hcm:calm P all bs j with
      |true =>
        rw[hcm]at x
        obtain⟨v,h2,x1,x2⟩:=rvk_ok (show rvk ((evOp P o.op).f call fr h) (fun v h=>(putA n o.dst).f v fr fun fr=>k.f call nx0 fr h hs rs) .fail=.ok e fr' h' from x)
        obtain⟨x3,x4⟩:=putA_val x2
        exact⟨v,_,h2,rs,⟨x3,rfl,.inl ⟨hw,by unfold Fact;rw[hc];exact⟨x1,.inl hcm⟩⟩⟩,fun _ h=>h,by rw[if_neg hE];exact x4⟩
      |false =>
        rw[hcm]at x
        obtain⟨v,h2,x1,x2⟩:=rvk_ok (show rvk ((evOp P o.op).f call fr h) (fun v h=>(putA n o.dst).f v fr fun fr'=>k.f call nx0 fr' h hs (⟨evOp P o.op,fr,v,effLo P all bs j,effHi P all bs j⟩::rs)) .fail=.ok e fr' h' from x)
        obtain⟨x3,x4⟩:=putA_val x2
        exact⟨v,_,h2,⟨evOp P o.op,fr,v,effLo P all bs j,effHi P all bs j⟩::rs,⟨x3,rfl,.inl ⟨hw,by unfold Fact;rw[hc];exact⟨x1,.inr (by simp)⟩⟩⟩,fun _ h=>List.mem_cons_of_mem _ h,by rw[if_neg hE];exact x4⟩
    |pure =>
      simp only[hc]at x
      obtain⟨v,h2,x1,x2⟩:=rvk_ok (show rvk ((evOp P o.op).f call fr h) (fun v h=>(putA n o.dst).f v fr fun fr=>k.f call nx0 fr h hs rs) .fail=.ok e fr' h' from x)
      obtain⟨x3,x4⟩:=putA_val x2
      have hE:¬isE P o=true:=by unfold isE;rw[hc];simp [isCls]
      exact⟨v,_,h2,rs,⟨x3,rfl,.inl ⟨hw,by unfold Fact;rw[hc];exact x1⟩⟩,fun _ h=>h,by rw[if_neg hE];exact x4⟩
  unfold stepD at x
  cases hg:o.guard with
  |none =>
    rw[hg]at x
    exact doit _ rfl (by rw[hg];rfl) x
  |some g =>
    rw[hg]at x
    cases hw:(wantA all (some g)).f fr with
    |true =>
      refine doit _ rfl (by rw[hg];exact hw) ?_
      have x:ifB ((wantA all (some g)).f fr) _ _=R.ok e fr' h':=x
      rw[hw]at x
      exact x
    |false =>
      have x:ifB ((wantA all (some g)).f fr) _ ((putA n o.dst).f und fr fun fr=>k.f call nx0 fr h (ifB (isCls (cls P o.op) .eff) (h::hs) hs) rs)=R.ok e fr' h':=x
      rw[hw,ifB_false]at x
      obtain⟨x3,x4⟩:=putA_val x
      refine⟨und,_,h,rs,⟨x3,rfl,.inr ⟨by rw[hg];exact hw,rfl,rfl⟩⟩,fun _ h=>h,?_⟩
      rw[ifB_eq]at x4
      exact x4
theorem opsD_ok {all:List Oper} {bs:List Nat} {nx0:Nat}:∀(l:List Oper) (j:Nat) (fr:Fr) (h:H) (hs:List H) (rs:List Rec) (e:Ex) (fr':Fr) (h':H),(opsD P n all bs l j).f call nx0 fr h hs rs=.ok e fr' h' →
    e=.normal∧∃(F:Nat→Fr) (Hh:Nat→H) (V:Nat→AV) (hsF:List H),F 0=fr∧Hh 0=h∧F l.length=fr'∧Hh l.length=h' ∧
      (∀(q:Nat) (r:H),hs.reverse[q]?=some r→hsF.reverse[q]?=some r) ∧
      (∀(i:Nat) (o:Oper),l[i]?=some o→isE P o=true→hsF.reverse[hs.length+effs P (l.take i)]?=some (Hh (i+1))) ∧
      (∀r∈rs,sameIn call r hsF (Nat.sub (llen hsF) 1)=true) ∧
      (∀(i:Nat) (o:Oper),l[i]?=some o→Told P n call all bs nx0 (j+i) o (F i) (Hh i) (V i) (F (i+1)) (Hh (i+1)) (fun r=>sameIn call r hsF (Nat.sub (llen hsF) 1)=true))
  | [],j,fr,h,hs,rs,e,fr',h',x=>by
    have x:ifB (sameAll call hs (Nat.sub (llen hs) 1) rs) (.ok .normal fr h) (.fail 85)=R.ok e fr' h':=x
    cases hq:sameAll call hs (Nat.sub (llen hs) 1) rs with
    |false=>rw[hq]at x;exact nomatch (show R.fail 85=.ok e fr' h' from x)
    |true =>
      rw[hq,ifB_true]at x
      cases x
      refine⟨rfl,fun _=>fr,fun _=>h,fun _=>und,hs,rfl,rfl,rfl,rfl,fun _ _ e=>e,fun i o e=>by simp at e,?_,fun i o e=>by simp at e⟩
      intro r hr
      have key:∀rs:List Rec,sameAll call hs (Nat.sub (llen hs) 1) rs=true→∀r∈rs,sameIn call r hs (Nat.sub (llen hs) 1)=true:=by
        intro rs
        induction rs with
        |nil=>intro _ r hr;cases hr
        |cons r0 rs ih =>
          intro hq r hr
          obtain⟨h1,h2⟩:=and2_true (show and2 (sameIn call r0 hs (Nat.sub (llen hs) 1)) (sameAll call hs (Nat.sub (llen hs) 1) rs)=true from hq)
          rcases List.mem_cons.1 hr with rfl|hr
          · exact h1
          · exact ih h2 r hr
      exact key rs hq r hr
  |o::l,j,fr,h,hs,rs,e,fr',h',x=>by
    obtain⟨v,fr1,h1,rs1,t,hrs,x1⟩:=stepD_ok (show(stepD P n all bs j o (opsD P n all bs l (Nat.succ j))).f call nx0 fr h hs rs=.ok e fr' h' from x)
    obtain⟨he,F,Hh,V,hsF,f0,g0,f1,g1,k1,k2,k3,k4⟩:=opsD_ok l (j+1) fr1 h1 _ rs1 e fr' h' x1
    have hpre:∀(q:Nat) (r:H),hs.reverse[q]?=some r→(if isE P o=true then h1::hs else hs).reverse[q]?=some r:=by
      intro q r hq
      split
      · have:=(List.getElem?_eq_some_iff.1 hq).1
        rw[List.reverse_cons,List.getElem?_append_left this];exact hq
      · exact hq
    refine⟨he,fun i=>Nat.casesOn i fr fun i=>F i,fun i=>Nat.casesOn i h fun i=>Hh i,fun i=>Nat.casesOn i v fun i=>V i,hsF,rfl,rfl,f1,g1,fun q r hq=>k1 q r (hpre q r hq),?_,fun r hr=>k3 r (hrs r hr),?_⟩
    · intro i o' ho hE
      cases i with
      |zero =>
        have ho:o=o':=by simpa using ho
        subst ho
        rw[if_pos hE]at k1
        refine k1 _ _ ?_
        show(h1::hs).reverse[hs.length+0]?=some (Hh 0)
        rw[g0,List.reverse_cons,Nat.add_zero,List.getElem?_append_right (by simp)]
        simp
      |succ i =>
        have:=k2 i o' (by simpa using ho) hE
        have e2:hs.length+effs P ((o::l).take (i+1))=(if isE P o=true then h1::hs else hs).length+effs P (l.take i):=by
          unfold effs
          rw[List.take_succ_cons]
          by_cases hq:isE P o=true
          · rw[List.filter_cons_of_pos hq,if_pos hq,List.length_cons,List.length_cons];omega
          · rw[List.filter_cons_of_neg hq,if_neg hq]
        rw[e2];exact this
    · intro i o' ho
      cases i with
      |zero =>
        have ho:o=o':=by simpa using ho
        subst ho
        show Told P n call all bs nx0 (j+0) o fr h v (F 0) (Hh 0) _
        rw[f0,g0]
        exact t.mono fun r hr=>k3 r hr
      |succ i =>
        have:=k4 i o' (by simpa using ho)
        rw[show j+1+i=j+(i+1) by omega]at this
        exact this
theorem sameIn_spec {r:Rec}:∀(hs:List H),sameIn call r hs (Nat.sub (llen hs) 1)=true→∀(q:Nat) (g:H),hs.reverse[q]?=some g→r.lo≤q→q≤r.hi→sameAt call r g=true
  | [],_,q,g,hq,_,_=>by simp at hq
  |h::hs,x,q,g,hq,h1,h2=>by
    have x:ifB (and2 (Nat.ble r.lo hs.length) (Nat.ble hs.length r.hi)) (and2 (sameAt call r h) (sameIn call r hs (Nat.sub hs.length 1))) (sameIn call r hs (Nat.sub hs.length 1))=true:=by
      have:llen (h::hs)-1=hs.length:=by rw[llen_eq];simp
      have x:=x
      rw[show Nat.sub (llen (h::hs)) 1=hs.length from this]at x
      exact x
    have rest:sameIn call r hs (Nat.sub (llen hs) 1)=true:=by
      rw[llen_eq]
      rw[ifB_eq]at x
      split at x
      · exact(and2_true x).2
      · exact x
    rw[List.reverse_cons]at hq
    by_cases hlt:q<hs.length
    · rw[List.getElem?_append_left (by simpa using hlt)]at hq
      exact sameIn_spec hs rest q g hq h1 h2
    · have hle:=(List.getElem?_eq_some_iff.1 hq).1
      have hqe:q=hs.length:=by simp at hle;omega
      subst hqe
      rw[List.getElem?_append_right (by simp)]at hq
      have hg:h=g:=by simpa using hq
      subst hg
      have c:and2 (Nat.ble r.lo hs.length) (Nat.ble hs.length r.hi)=true:=by rw[ble_true.2 h1,ble_true.2 h2];rfl
      rw[c,ifB_true]at x
      exact(and2_true x).1
theorem sameAt_spec {r:Rec} {g:H} (x:sameAt call r g=true):∃h1,r.e.f call r.fr g=.val r.v h1:=by
  unfold sameAt at x
  cases hq:r.e.f call r.fr g with
  |fail w=>rw[hq]at x;cases x
  |val v h1 =>
    rw[hq]at x
    have:=avEq_sound v r.v x
    exact⟨h1,by rw[this]⟩
end
end Go.Eng
namespace Go.Eng
set_option autoImplicit false
variable [Deep] [Env]
theorem countP_le {α:Type} {p q:α→Bool}:∀(l:List α),(∀x∈l,p x=true→q x=true)→(l.filter p).length≤(l.filter q).length
  | [],_=>by simp
  |a::l,h=>by
    have ih:=countP_le l fun x hx=>h x (List.mem_cons_of_mem _ hx)
    by_cases hp:p a=true
    · rw[List.filter_cons_of_pos hp,List.filter_cons_of_pos (h a (by simp) hp)]
      simpa using ih
    · rw[List.filter_cons_of_neg hp]
      by_cases hq:q a=true
      · rw[List.filter_cons_of_pos hq,List.length_cons];omega
      · rw[List.filter_cons_of_neg hq];exact ih
theorem countP_lt {α:Type} {p q:α→Bool}:∀(l:List α),(∀x∈l,p x=true→q x=true)→(∃x∈l,q x=true∧p x=false)→(l.filter p).length<(l.filter q).length
  | [],_,h=>by obtain⟨x,hx,_⟩:=h;cases hx
  |a::l,h,hx=>by
    have h':∀x∈l,p x=true→q x=true:=fun x hx=>h x (List.mem_cons_of_mem _ hx)
    obtain⟨x,hm,hq,hp⟩:=hx
    have le:=countP_le l h'
    rcases List.mem_cons.1 hm with rfl|hm
    · rw[List.filter_cons_of_pos hq,List.filter_cons_of_neg (by rw[hp];simp),List.length_cons];omega
    · have ih:=countP_lt l h' ⟨x,hm,hq,hp⟩
      by_cases hpa:p a=true
      · rw[List.filter_cons_of_pos hpa,List.filter_cons_of_pos (h a (by simp) hpa)]
        simpa using ih
      · rw[List.filter_cons_of_neg hpa]
        by_cases hqa:q a=true
        · rw[List.filter_cons_of_pos hqa,List.length_cons];omega
        · rw[List.filter_cons_of_neg hqa];exact ih
theorem count_idx {g:Oper→Bool}:∀(l:List Oper) (s p:Nat),((l.zipIdx s).filter fun(x:Oper×Nat)=>g x.1&&decide (x.2<s+p)).length=((l.take p).filter g).length
  | [],s,p=>by simp
  |a::l,s,p=>by
    rw[List.zipIdx_cons]
    cases p with
    |zero =>
      rw[List.take_zero,List.filter_nil,List.length_nil,List.length_eq_zero_iff,List.filter_eq_nil_iff]
      intro x hx
      have:s≤x.2:=by
        rcases List.mem_cons.1 hx with rfl|hx
        · exact Nat.le_refl _
        · have:=List.le_snd_of_mem_zipIdx hx;omega
      simp;intro _;omega
    |succ p =>
      have ih:=count_idx (g:=g) l (s+1) p
      rw[show s+1+p=s+(p+1) by omega]at ih
      rw[List.take_succ_cons]
      by_cases hg:g a=true
      · rw[List.filter_cons_of_pos (by simp [hg]),List.filter_cons_of_pos hg,List.length_cons,List.length_cons,ih]
      · rw[List.filter_cons_of_neg (by simp [hg]),List.filter_cons_of_neg hg,ih]
theorem exMax {p:Nat→Prop}:∀(j:Nat),(∃i,i<j∧p i)→∃i,i<j∧p i∧∀i',i'<j→p i'→i'≤i
  |0,h=>by obtain⟨i,hi,_⟩:=h;omega
  |j+1,h=>by
    by_cases hj:p j
    · exact⟨j,by omega,hj,fun i' hi' _=>by omega⟩
    · obtain⟨i,hi,hp⟩:=h
      have hij:i<j:=by
        have:i≠j:=fun e=>hj (e▸hp)
        omega
      obtain⟨k,h1,h2,h3⟩:=exMax j ⟨i,hij,hp⟩
      refine⟨k,by omega,h2,fun i' hi' hp'=>?_⟩
      by_cases e:i'=j
      · subst e;exact absurd hp' hj
      · exact h3 i' (by omega) hp'
section
variable {P:Program} {n:Nat} {call:Caller} {ops:Array Oper} {nx0:Nat} {F:Nat→Fr} {Hh:Nat→H} {V:Nat→AV}
structure Canon (P:Program) (n:Nat) (call:Caller) (ops:Array Oper) (nx0:Nat) (F:Nat→Fr) (Hh:Nat→H) (V:Nat→AV) (G:Rec→Prop):Prop where
  told:∀i o,ops[i]?=some o→Told P n call ops.toList (befs ops.toList) nx0 i o (F i) (Hh i) (V i) (F (i+1)) (Hh (i+1)) G
  reads:∀r,G r→∀p,(p=0∨∃q o,p=q+1∧ops[q]?=some o∧isE P o=true)→r.lo≤effs P (ops.toList.take p)→effs P (ops.toList.take p)≤r.hi→∃h1,r.e.f call r.fr (Hh p)=.val r.v h1
structure RegOK (P:Program) (ops:Array Oper):Prop where
  edge:∀j o,ops[j]?=some o→∀e∈o.after,Region.binds .any e=true→e.on<j
  pair:∀i j x y,i<j→ops[i]?=some x→ops[j]?=some y→bef ops j i=true∨(x.apart ops y=true∧(isE P y=true→isE P x=false))
theorem regOk_spec (h:regOk P ops=true):RegOK P ops:=by
  unfold regOk at h
  obtain⟨h1,h2⟩:=Bool.and_eq_true_iff.1 h
  refine⟨fun j o ho e he hb=>?_,fun i j x y hij hx hy=>?_⟩
  · unfold edgesOk at h1
    have:=List.all_eq_true.1 h1 j (List.mem_range.2 (Array.getElem?_eq_some_iff.1 ho).1)
    rw[ho]at this
    have:=List.all_eq_true.1 (show(o.after.toList.all fun e=>!Region.binds .any e||Nat.blt e.on j)=true from this) e (by simpa using he)
    rw[hb]at this
    simpa using this
  · have:=List.all_eq_true.1 h2 j (List.mem_range.2 (Array.getElem?_eq_some_iff.1 hy).1)
    have:=List.all_eq_true.1 this i (List.mem_range.2 hij)
    simp only[hx,hy]at this
    rcases Bool.or_eq_true_iff.1 (show(bef ops j i||(x.apart ops y&&!(isCls (cls P y.op) .eff&&isCls (cls P x.op) .eff)))=true from this) with h|h
    · exact .inl h
    · obtain⟨h3,h4⟩:=Bool.and_eq_true_iff.1 h
      refine .inr ⟨h3,fun hy=>?_⟩
      have hy:isCls (cls P y.op) .eff=true:=hy
      rw[hy,Bool.true_and,Bool.not_eq_true']at h4
      exact h4
def AW (P:Program) (ops:Array Oper) (F:Nat→Fr) (i:Nat):Prop:=∃o,ops[i]?=some o∧cls P o.op=.alloc∧(wantA ops.toList o.guard).f (F i)=true
open Classical in
noncomputable def over (P:Program) (ops:Array Oper) (nx0:Nat) (F:Nat→Fr) (Hh:Nat→H) (S:Nat→Prop) (p b:Nat):Blk :=
  if ∃i,b=nx0+i∧p≤i∧AW P ops F i∧S i then hget (Hh (b-nx0+1)) b else hget (Hh p) b
theorem over_in {S:Nat→Prop} {p i:Nat} (h1:p≤i) (h2:AW P ops F i) (h3:S i):over P ops nx0 F Hh S p (nx0+i)=hget (Hh (i+1)) (nx0+i):=by
  unfold over
  rw[if_pos ⟨i,rfl,h1,h2,h3⟩,show nx0+i-nx0=i by omega]
theorem over_out {S:Nat→Prop} {p b:Nat} (h:∀i,b=nx0+i→p≤i→AW P ops F i→¬S i):over P ops nx0 F Hh S p b=hget (Hh p) b:=by
  unfold over
  rw[if_neg]
  rintro⟨i,h1,h2,h3,h4⟩
  exact h i h1 h2 h3 h4
theorem over_congr {S S':Nat→Prop} {p b:Nat} (h:∀i,b=nx0+i→p≤i→AW P ops F i→(S i↔S' i)):over P ops nx0 F Hh S p b=over P ops nx0 F Hh S' p b:=by
  by_cases c:∃i,b=nx0+i∧p≤i∧AW P ops F i∧S i
  · obtain⟨i,rfl,h2,h3,h4⟩:=c
    rw[over_in h2 h3 h4,over_in h2 h3 ((h i rfl h2 h3).1 h4)]
  · rw[over_out fun i e1 e2 e3 e4=>c ⟨i,e1,e2,e3,e4⟩,over_out fun i e1 e2 e3 e4=>c ⟨i,e1,e2,e3,(h i e1 e2 e3).2 e4⟩]
section
variable {G:Rec→Prop} (K:Canon P n call ops nx0 F Hh V G)
include K
theorem Canon.alloc {i:Nat} {o:Oper} (ho:ops[i]?=some o) (hc:cls P o.op=.alloc) (hw:(wantA ops.toList o.guard).f (F i)=true) :
    ∃(x:Blk) (vf:Nat→AV),nx0+i<mostBlocks∧V i=vf (nx0+i)∧Hh (i+1)=⟨(Hh i).nx,trSet Deep.d (nx0+i) (Hh i).m x⟩∧∀h,(evOp P o.op).f call (F i) h=newB h x fun b h=>.val (vf b) h:=by
  rcases(K.told i o ho).what with ⟨_,h2⟩|⟨h1,_⟩
  · unfold Fact at h2
    rw[hc]at h2
    obtain⟨h3,e1,e2⟩:=h2
    rcases alloc_like (fr:=F i) (call:=call) hc with ⟨x,vf,q⟩|q
    · rw[q]at e1
      obtain⟨hm,e1⟩:=newB_val e1
      obtain⟨e3,e4⟩:=RV.val.inj e1
      rw[←e4]at e2
      exact⟨x,vf,hm,e3.symm,e2,q⟩
    · exact(q _ _ _ e1).elim
  · rw[hw]at h1;cases h1
theorem Canon.still {i:Nat} {o:Oper} (ho:ops[i]?=some o) (hc:cls P o.op=.read∨cls P o.op=.pure∨(wantA ops.toList o.guard).f (F i)=false):Hh (i+1)=Hh i:=by
  rcases(K.told i o ho).what with ⟨h1,h2⟩|⟨_,_,h3⟩
  · unfold Fact at h2
    rcases hc with hc|hc|hc
    · rw[hc]at h2;exact read_like hc h2.1
    · rw[hc]at h2
      rcases pure_like (fr:=F i) (call:=call) hc with ⟨v,q⟩|q
      · exact(RV.val.inj ((q _).symm.trans h2)).2.symm
      · exact(q _ _ _ h2).elim
    · rw[hc]at h1;cases h1
  · exact h3
omit K in
theorem effs_le {l:List Oper} {a b:Nat} (h:a≤b):effs P (l.take a)≤effs P (l.take b):=by
  unfold effs
  have e:l.take a=(l.take b).take a:=by rw[List.take_take,Nat.min_eq_left h]
  rw[e]
  exact((List.take_sublist _ _).filter _).length_le
omit K in
theorem effs_succ {l:List Oper} {q:Nat} {o:Oper} (ho:l[q]?=some o) (hE:isE P o=true):effs P (l.take (q+1))=effs P (l.take q)+1:=by
  unfold effs
  rw[List.take_add_one,ho]
  simp [List.filter_append,hE]
theorem Canon.calm {j p:Nat} (hj:j≤ops.size) (cm:calm0 P ops.toList (befs ops.toList) j=true) (hp:p=0∨∃q o,p=q+1∧ops[q]?=some o∧isE P o=true)
    (h1:effLo P ops.toList (befs ops.toList) j≤effs P (ops.toList.take p)) (h2:effs P (ops.toList.take p)≤effHi P ops.toList (befs ops.toList) j):Hh j=Hh p:=by
  unfold calm0 at cm
  obtain⟨c1,c2⟩:=and2_true cm
  obtain⟨c2,c3⟩:=and2_true c2
  have c1:=beq_true.1 c1
  have c2:effLo P ops.toList (befs ops.toList) j=effs P (ops.toList.take j):=beq_true.1 c2
  have e:effs P (ops.toList.take p)=effs P (ops.toList.take j):=by omega
  have hle:p≤j:=by
    rcases hp with rfl|⟨q,o,rfl,ho,hE⟩
    · exact Nat.zero_le _
    · rcases Nat.lt_or_ge q j with h|h
      · exact h
      · have:=effs_succ (l:=ops.toList) (by simpa using ho) hE
        have:=effs_le (P:=P) (l:=ops.toList) h
        omega
  have go:∀d,p+d≤j→Hh (p+d)=Hh p:=by
    intro d
    induction d with
    |zero=>intro _;rfl
    |succ d ih =>
      intro hd
      have hlt:p+d<ops.size:=by omega
      obtain⟨o,ho⟩:∃o,ops[p+d]?=some o:=⟨_,Array.getElem?_eq_getElem hlt⟩
      rw[show p+(d+1)=p+d+1 by omega,←ih (by omega)]
      refine K.still ho ?_
      cases hc:cls P o.op with
      |read=>exact .inl rfl
      |pure=>exact .inr (.inl rfl)
      |eff =>
        have hE:isE P o=true:=by unfold isE;rw[hc];rfl
        have a1:=effs_succ (l:=ops.toList) (by simpa using ho) hE
        have a2:=effs_le (P:=P) (l:=ops.toList) (show p+d+1≤j by omega)
        have a3:=effs_le (P:=P) (l:=ops.toList) (show p≤p+d by omega)
        omega
      |alloc =>
        have:((ops.toList.take j).any fun o=>isCls (cls P o.op) .alloc)=true:=by
          refine List.any_eq_true.2 ⟨o,?_,by rw[hc];rfl⟩
          refine List.mem_of_getElem? (i:=p+d) ?_
          rw[List.getElem?_take,if_pos (by omega)]
          simpa using ho
        rw[this]at c3
        cases c3
  have:=go (j-p) (by omega)
  rwa [show p+(j-p)=j by omega]at this
omit K in
theorem calmF_spec {j:Nat} (cm:calmF P ops.toList (befs ops.toList) j=true):(∀(i:Nat) (o:Oper),ops[i]?=some o→isE P o=false)∧∀(i:Nat) (o:Oper),i<j→ops[i]?=some o→cls P o.op=.alloc→bef ops j i=true:=by
  unfold calmF at cm
  obtain⟨c1,c2⟩:=and2_true cm
  refine⟨fun i o ho=>?_,fun i o hi ho hc=>?_⟩
  · cases hq:isE P o with
    |false=>rfl
    |true =>
      have:(ops.toList.any fun o=>isCls (cls P o.op) .eff)=true:=List.any_eq_true.2 ⟨o,List.mem_of_getElem? (i:=i) (by simpa using ho),hq⟩
      rw[this]at c1
      cases c1
  · have hm:(o,i)∈(ops.toList.take j).zipIdx:=by
      rw[List.mk_mem_zipIdx_iff_getElem?,List.getElem?_take,if_pos hi]
      simpa using ho
    have h:=List.all_eq_true.1 c2 _ hm
    dsimp only at h
    rw[hc]at h
    exact h
theorem Canon.between {p:Nat}:∀(d:Nat),p+d≤ops.size→(∀i o,p≤i→i<p+d→ops[i]?=some o→isE P o=false) →
    (Hh (p+d)).nx=(Hh p).nx∧∀b,b<mostBlocks→hget (Hh (p+d)) b=over P ops nx0 F Hh (· < p+d) p b
  |0,_,_=>⟨rfl,fun b _=>by rw[over_out (fun i _ h2 _ h4=>by omega)];rfl⟩
  |d+1,hle,hno=>by
    obtain⟨h1,h2⟩:=Canon.between d (by omega) fun i o a b c=>hno i o a (by omega) c
    obtain⟨o,ho⟩:∃o,ops[p+d]?=some o:=⟨_,Array.getElem?_eq_getElem (by omega)⟩
    have hE:=hno (p+d) o (by omega) (by omega) ho
    show(Hh (p+d+1)).nx=_∧∀b,b<mostBlocks→hget (Hh (p+d+1)) b=over P ops nx0 F Hh (· < p+d+1) p b
    by_cases hst:cls P o.op=.read∨cls P o.op=.pure∨(wantA ops.toList o.guard).f (F (p+d))=false
    · rw[K.still ho hst]
      refine⟨h1,fun b hb=>?_⟩
      rw[h2 b hb]
      refine over_congr fun i e1 e2 e3=>⟨fun q=>by omega,fun q=>?_⟩
      have:i≠p+d:=by
        rintro rfl
        obtain⟨o',ho',hc,hw⟩:=e3
        rw[ho]at ho';cases ho'
        rcases hst with h|h|h
        · rw[h]at hc;cases hc
        · rw[h]at hc;cases hc
        · rw[h]at hw;cases hw
      omega
    · have hc:cls P o.op=.alloc:=by
        cases hq:cls P o.op with
        |alloc=>rfl
        |read=>exact absurd (.inl hq) hst
        |pure=>exact absurd (.inr (.inl hq)) hst
        |eff=>unfold isE at hE;rw[hq]at hE;cases hE
      have hw:(wantA ops.toList o.guard).f (F (p+d))=true:=by
        cases hq:(wantA ops.toList o.guard).f (F (p+d)) with
        |true=>rfl
        |false=>exact absurd (.inr (.inr hq)) hst
      have haw:AW P ops F (p+d):=⟨o,ho,hc,hw⟩
      obtain⟨x,vf,hm,_,e2,_⟩:=K.alloc ho hc hw
      refine⟨by rw[e2];exact h1,fun b hb=>?_⟩
      by_cases hbn:b=nx0+(p+d)
      · subst hbn
        rw[over_in (by omega) haw (by show p+d<p+d+1;omega)]
      · rw[e2,hget_set hm hb,if_neg hbn,h2 b hb]
        refine over_congr fun i e1 e2 e3=>⟨fun q=>by omega,fun q=>?_⟩
        have:i≠p+d:=by rintro rfl;exact hbn e1
        omega
theorem Canon.slot (hn:n≤512) (t:Nat):∀(j:Nat),j≤ops.size →
    (∀i o,i<j→ops[i]?=some o→o.dst=some t→(∀i' o',i'<j→ops[i']?=some o'→o'.dst=some t→i'≤i)→Eng.slot (F j) t=V i) ∧
    ((∀i o,i<j→ops[i]?=some o→o.dst≠some t)→Eng.slot (F j) t=Eng.slot (F 0) t)
  |0,_=>⟨fun i o h=>by omega,fun _=>rfl⟩
  |j+1,hj=>by
    obtain⟨h1,h2⟩:=Canon.slot hn t j (by omega)
    obtain⟨o,ho⟩:∃o,ops[j]?=some o:=⟨_,Array.getElem?_eq_getElem (by omega)⟩
    have tl:=K.told j o ho
    by_cases hd:o.dst=some t
    · have hs:Eng.slot (F (j+1)) t=V j:=by
        rw[tl.put,hd]
        have:=tl.dst t hd
        show Eng.slot (trSet 3 t (F j) (V j)) t=V j
        rw[slot_put (Nat.lt_of_lt_of_le this hn),if_pos rfl]
      refine⟨fun i o' hi ho' hd' hmax=>?_,fun hno=>absurd hd (hno j o (by omega) ho)⟩
      have:=hmax j o (by omega) ho hd
      have:i=j:=by omega
      subst this
      exact hs
    · have hs:Eng.slot (F (j+1)) t=Eng.slot (F j) t:=by
        rw[tl.put]
        cases hq:o.dst with
        |none=>rfl
        |some d =>
          have:=tl.dst d hq
          show Eng.slot (trSet 3 d (F j) (V j)) t=_
          rw[slot_put (Nat.lt_of_lt_of_le this hn),if_neg]
          rintro rfl
          exact hd hq
      rw[hs]
      refine⟨fun i o' hi ho' hd' hmax=>?_,fun hno=>h2 fun i o' hi=>hno i o' (by omega)⟩
      have:i≠j:=by rintro rfl;rw[ho]at ho';cases ho';exact hd hd'
      exact h1 i o' (by omega) ho' hd' fun i' o2 hi'=>hmax i' o2 (by omega)
end
structure Inv (P:Program) (n:Nat) (ops:Array Oper) (F:Nat→Fr) (Hh:Nat→H) (V:Nat→AV) (ρ0:Ren) (h0:H) (w0:World) (S:Nat→Prop) (p:Nat) (ρ:Ren) (a:Act) (w:World):Prop where
  ple:p≤ops.size
  base:p=0∨∃q o,p=q+1∧ops[q]?=some o∧isE P o=true
  effS:∀i o,ops[i]?=some o→isE P o=true→(i<p↔S i)
  clo:∀j o,ops[j]?=some o→S j→∀e∈o.after,Region.binds .any e=true→S e.on
  sf:SF ρ0 ρ (hget h0) (over P ops h0.nx F Hh S p) w0 w
  dom:∀b x,ρ b=some x→ρ0 b=some x∨(h0.nx≤b∧b<(Hh p).nx)
  un:∀i o,ops[i]?=some o→cls P o.op=.alloc→¬S i→ρ (h0.nx+i)=none
  nx:(Hh 0).nx≤(Hh p).nx
  clean:Clean (Hh p)
  dd:∀b,b<h0.nx→b<mostBlocks→hget h0 b=.dead→hget (Hh p) b=.dead
  um:∀b,b<h0.nx→b<mostBlocks→ρ0 b=none→hget (Hh p) b=hget h0 b
  rsv:∀i,p≤i→AW P ops F i→hget (Hh p) (h0.nx+i)=.dead
  late:∀i,i<p→AW P ops F i→¬S i→hget (Hh p) (h0.nx+i)=hget (Hh (i+1)) (h0.nx+i)
  fr1:∀t i o,S i→ops[i]?=some o→o.dst=some t→(∀i' o',S i'→ops[i']?=some o'→o'.dst=some t→i'≤i)→VR ρ (V i) (a.tmps.getD t undef)
  fr0:∀t,(∀i o,S i→ops[i]?=some o→o.dst≠some t)→VR ρ (slot (F 0) t) (a.tmps.getD t undef)
  asz:a.tmps.size=n
  adef:a.defers=[]
theorem Inv.slots {ρ0:Ren} {h0:H} {w0:World} {S:Nat→Prop} {p:Nat} {ρ:Ren} {a:Act} {w:World} {G:Rec→Prop} (K:Canon P n call ops h0.nx F Hh V G) (I:Inv P n ops F Hh V ρ0 h0 w0 S p ρ a w) (hn:n≤512) {j t:Nat} (hj:j≤ops.size)
    (h1:∀i o,i<j→ops[i]?=some o→o.dst=some t→S i) (h2:∀i o,S i→ops[i]?=some o→o.dst=some t→i<j):VR ρ (slot (F j) t) (a.tmps.getD t undef):=by
  by_cases c:∃i,i<j∧∃o,ops[i]?=some o∧o.dst=some t
  · obtain⟨i,hi,⟨o,ho,hd⟩,hmax⟩:=exMax j c
    rw[(K.slot hn t j hj).1 i o hi ho hd fun i' o' hi' ho' hd'=>hmax i' hi' ⟨o',ho',hd'⟩]
    exact I.fr1 t i o (h1 i o hi ho hd) ho hd fun i' o' hS ho' hd'=>hmax i' (h2 i' o' hS ho' hd') ⟨o',ho',hd'⟩
  · rw[(K.slot hn t j hj).2 fun i o hi ho hd=>c ⟨i,hi,o,ho,hd⟩]
    exact I.fr0 t fun i o hS ho hd=>c ⟨i,h2 i o hS ho hd,o,ho,hd⟩
theorem getD_put {a:Act} {dst:Option Nat} {u:Value} {t:Nat} (h:dst≠some t):(a.put dst u).tmps.getD t undef=a.tmps.getD t undef:=by
  cases dst with
  |none=>rfl
  |some d =>
    have:d≠t:=fun e=>h (by rw[e])
    simp [Act.put,Array.getElem?_setIfInBounds_ne this]
theorem getD_put_same {a:Act} {t:Nat} {u:Value} (h:t<a.tmps.size):(a.put (some t) u).tmps.getD t undef=u:=by
  simp [Act.put,h]
end
end Go.Eng
namespace Go.Eng
set_option autoImplicit false
variable [Deep] [Env]
noncomputable def dT:Hp:=trNew Blk .dead Deep.d
theorem hget_dT {nx b:Nat}:hget ⟨nx,dT⟩ b=.dead:=show trGet Deep.d b (trNew Blk Blk.dead Deep.d)=Blk.dead from trGet_new Deep.d b Blk.dead
theorem newB_eq {h:H} {x:Blk} {k:Nat→H→RV} (hm:h.nx<mostBlocks):newB h x k=k h.nx ⟨h.nx+1,trSet Deep.d h.nx h.m x⟩:=by
  unfold newB
  rw[ble_true.2 (show Nat.succ h.nx≤mostBlocks from hm),ifB_true,forceN_eq]
  unfold putB
  rw[trP_eq]
section
variable {P:Program} {n:Nat} {call:Caller} {ops:Array Oper} {F:Nat→Fr} {Hh:Nat→H} {V:Nat→AV} {G:Rec→Prop} {ρ0:Ren} {h0:H} {w0:World}
  {S:Nat→Prop} {p:Nat} {ρ:Ren} {a:Act} {w:World} {j:Nat} {o:Oper}
structure Turn (ops:Array Oper) (S:Nat→Prop) (j:Nat) (o:Oper):Prop where
  ho:ops[j]?=some o
  nS:¬S j
  aft:∀e∈o.after,Region.binds .any e=true→S e.on
structure Ground (P:Program) (n:Nat) (call:Caller) (ops:Array Oper) (F:Nat→Fr) (Hh:Nat→H) (V:Nat→AV) (G:Rec→Prop) (ρ0:Ren) (h0:H):Prop where
  K:Canon P n call ops h0.nx F Hh V G
  R:RegOK P ops
  most:n≤512
  fresh:Fresh ρ0 h0
  n0:h0.nx≤(Hh 0).nx
  room:∀i o,ops[i]?=some o→cls P o.op=.alloc→h0.nx+i<(Hh 0).nx
  hG:∀i o,ops[i]?=some o→cls P o.op=.read→(wantA ops.toList o.guard).f (F i)=true→calmF P ops.toList (befs ops.toList) i=true∨G ⟨evOp P o.op,F i,V i,effLo P ops.toList (befs ops.toList) i,effHi P ops.toList (befs ops.toList) i⟩
section
variable (B:Ground P n call ops F Hh V G ρ0 h0) (I:Inv P n ops F Hh V ρ0 h0 w0 S p ρ a w) (T:Turn ops S j o)
include I T in
theorem befS {i:Nat} (h:bef ops j i=true):S i:=bef_closed I.clo j o T.ho T.aft i h
include B I T in
theorem lower {i:Nat} {x:Oper} (hi:i<j) (hx:ops[i]?=some x):S i∨(x.apart ops o=true∧(isE P o=true→isE P x=false)) :=
  (B.R.pair i j x o hi hx T.ho).imp (fun h=>befS I T h) id
include B I T in
theorem upper {i:Nat} {y:Oper} (hi:j<i) (hy:ops[i]?=some y) (hS:S i):o.apart ops y=true∧(isE P y=true→isE P o=false) :=
  (B.R.pair j i o y hi T.ho hy).resolve_left fun h=>T.nS (bef_closed I.clo i y hy (I.clo i y hy hS) j h)
include B I T in
theorem looks {t:Nat} (ht:t∈o.looksAt ops):VR ρ (slot (F j) t) (a.tmps.getD t undef):=by
  have hlt:=(Array.getElem?_eq_some_iff.1 T.ho).1
  refine I.slots B.K B.most (by omega) (fun i x hi hx hd=>?_) (fun i y hS hy hd=>?_)
  · rcases lower B I T hi hx with h|⟨h,_⟩
    · exact h
    · exact absurd ht ((Oper.apart_spec h).1 t hd)
  · have hne:i≠j:=fun e=>T.nS (e▸hS)
    by_cases hi:i<j
    · exact hi
    · exact absurd ht ((Oper.apart_spec (upper B I T (by omega) hy hS).1).2.2 t hd)
include B I T in
theorem reads_ops:∀x∈o.op.operands.toList,goodO P x=true→GR P ρ→Rel1 P ρ (F j) a x:=by
  intro x hx hgd hg
  have hf0:FR ρ n fr0 { tmps:=Array.replicate n undef,defers:=[] }:=by
    refine⟨by simp,B.most,fun t=>?_,rfl⟩
    have:(Array.replicate n undef).getD t undef=undef:=by
      simp only[Array.getD_eq_getD_getElem?,Array.getElem?_replicate]
      split<;>rfl
    have hs:slot fr0 t=und:=by
      by_cases h:t<512
      · rw[slot_lt h];exact trGet_new 3 t und
      · exact slot_ge (by omega)
    rw[hs]
    show VR ρ und ((Array.replicate n undef).getD t undef)
    rw[this];exact VR_und
  have h0:=operand_rel hf0 hg x hgd
  cases x with
  |tmp t=>exact looks B I T (List.mem_append_left _ (List.mem_filterMap.2 ⟨.tmp t,hx,rfl⟩))
  |const v =>
    have e:ov P (F j) (.const v)=ov P fr0 (.const v):=by
      unfold ov operandR
      dsimp only
      cases cv v<;>rfl
    show VR ρ (ov P (F j) (.const v)) v
    rw[e];exact h0
  |global g=>exact h0
  |func f=>exact h0
include B I T in
theorem guard_eq:(wantA ops.toList o.guard).f (F j)=Region.wanted o (yielded ops a.tmps) :=
  want_eqR ops o fun g x d hg hd=>looks B I T (by
    unfold Oper.looksAt
    rw[hg]
    exact List.mem_append_right _ (by simp [hd]))
include I in
theorem freshI (B:Ground P n call ops F Hh V G ρ0 h0) {b:Nat} (hb:(Hh p).nx≤b):ρ b=none:=by
  cases hq:ρ b with
  |none=>rfl
  |some x =>
    have h1:=B.n0
    have h2:=I.nx
    rcases I.dom b x hq with h|h
    · rw[B.fresh.none b (by omega)]at h;cases h
    · omega
include I in
theorem lohi (T:Turn ops S j o):effLo P ops.toList (befs ops.toList) j≤effs P (ops.toList.take p)∧effs P (ops.toList.take p)≤effHi P ops.toList (befs ops.toList) j:=by
  have hc:=count_idx (g:=isE P) ops.toList 0 p
  have mem:∀x∈ops.toList.zipIdx,ops[x.2]?=some x.1:=fun x hx=>by
    rw[←Array.getElem?_toList];exact List.mk_mem_zipIdx_iff_getElem?.1 hx
  have c1:effLo P ops.toList (befs ops.toList) j≤effs P (ops.toList.take p):=by
    have key:=countP_le (p:=fun(x:Oper×Nat)=>isE P x.1&&bef ops j x.2) (q:=fun(x:Oper×Nat)=>isE P x.1&&decide (x.2<0+p)) ops.toList.zipIdx fun x hx h=>by
      obtain⟨h1,h2⟩:=Bool.and_eq_true_iff.1 h
      have:=(I.effS x.2 x.1 (mem x hx) h1).2 (befS I T h2)
      simp [h1,this]
    rw[hc]at key
    exact key
  have c2:effs P (ops.toList.take p)≤effHi P ops.toList (befs ops.toList) j:=by
    have key:=countP_le (p:=fun(x:Oper×Nat)=>isE P x.1&&decide (x.2<0+p)) (q:=fun(x:Oper×Nat)=>isE P x.1&&!bef ops x.2 j) ops.toList.zipIdx fun x hx h=>by
      obtain⟨h1,h2⟩:=Bool.and_eq_true_iff.1 h
      have hS:=(I.effS x.2 x.1 (mem x hx) h1).1 (by simpa using h2)
      have:bef ops x.2 j=false:=by
        cases hq:bef ops x.2 j with
        |false=>rfl
        |true=>exact absurd (bef_closed I.clo x.2 x.1 (mem x hx) (I.clo x.2 x.1 (mem x hx) hS) j hq) T.nS
      simp [h1,this]
    rw[hc]at key
    exact key
  exact⟨c1,c2⟩
theorem Inv.next {p':Nat} {ρ':Ren} {w':World} {u:Value} (B:Ground P n call ops F Hh V G ρ0 h0) (I:Inv P n ops F Hh V ρ0 h0 w0 S p ρ a w) (T:Turn ops S j o) (ple:p'≤ops.size)
    (base:p'=0∨∃q o,p'=q+1∧ops[q]?=some o∧isE P o=true)
    (effS:∀i o,ops[i]?=some o→isE P o=true→(i<p'↔(S i∨i=j)))
    (sf:SF ρ ρ' (over P ops h0.nx F Hh S p) (over P ops h0.nx F Hh (fun i=>S i∨i=j) p') w w')
    (dom:∀b x,ρ' b=some x→ρ b=some x∨(h0.nx≤b∧b<(Hh p').nx))
    (un:∀i o,ops[i]?=some o→cls P o.op=.alloc→¬(S i∨i=j)→ρ' (h0.nx+i)=none)
    (nx:(Hh p).nx≤(Hh p').nx) (clean:Clean (Hh p')) (dd:∀b,b<h0.nx→b<mostBlocks→hget (Hh p) b=.dead→hget (Hh p') b=.dead)
    (um:∀b,b<h0.nx→b<mostBlocks→ρ b=none→hget (Hh p') b=hget (Hh p) b)
    (rsv:∀i,p'≤i→AW P ops F i→hget (Hh p') (h0.nx+i)=.dead)
    (late:∀i,i<p'→AW P ops F i→¬(S i∨i=j)→hget (Hh p') (h0.nx+i)=hget (Hh (i+1)) (h0.nx+i)) (hv:VR ρ' (V j) u) :
    Inv P n ops F Hh V ρ0 h0 w0 (fun i=>S i∨i=j) p' ρ' (a.put o.dst u) w' where
  ple:=ple
  base:=base
  effS:=effS
  clo:=fun i x hx hS e he hb=>by
    rcases hS with hS|rfl
    · exact .inl (I.clo i x hx hS e he hb)
    · rw[T.ho]at hx;cases hx
      exact .inl (T.aft e he hb)
  sf:=I.sf.trans sf
  dom:=fun b x e=>by
    rcases dom b x e with h|h
    · rcases I.dom b x h with h|h
      · exact .inl h
      · exact .inr ⟨h.1,by omega⟩
    · exact .inr h
  un:=un
  nx:=Nat.le_trans I.nx nx
  clean:=clean
  dd:=fun b h1 h2 h3=>dd b h1 h2 (I.dd b h1 h2 h3)
  um:=fun b h1 h2 h3=>by
    have:ρ b=none:=by
      cases hq:ρ b with
      |none=>rfl
      |some x =>
        rcases I.dom b x hq with h|h
        · rw[h3]at h;cases h
        · omega
    rw[um b h1 h2 this,I.um b h1 h2 h3]
  rsv:=rsv
  late:=late
  fr1:=fun t i x hS hx hd hmax=>by
    by_cases hij:i=j
    · subst hij
      rw[T.ho]at hx;cases hx
      rw[hd,getD_put_same (by rw[I.asz];exact(B.K.told i o T.ho).dst t hd)]
      exact hv
    · have hS:S i:=hS.resolve_right hij
      have hod:o.dst≠some t:=fun hod=>by
        have h1:=hmax j o (.inr rfl) T.ho hod
        exact(Oper.apart_spec (upper B I T (by omega) hx hS).1).2.1 t hod hd
      rw[getD_put hod]
      exact VR.mono sf.le _ _ (I.fr1 t i x hS hx hd fun i' o' hS'=>hmax i' o' (.inl hS'))
  fr0:=fun t hno=>by
    rw[getD_put (hno j o (.inr rfl) T.ho)]
    exact VR.mono sf.le _ _ (I.fr0 t fun i x hS=>hno i x (.inl hS))
  asz:=by
    have:=I.asz
    cases o.dst<;>simp [Act.put,this]
  adef:=by
    have:=I.adef
    cases o.dst<;>simp [Act.put,this]
structure AtEff (P:Program) (ops:Array Oper) (F:Nat→Fr) (Hh:Nat→H) (h0:H) (S:Nat→Prop) (p:Nat) (ρ:Ren) (j:Nat):Prop where
  pj:p≤j
  effS:∀i o,ops[i]?=some o→isE P o=true→(i<j+1↔(S i∨i=j))
  nx:(Hh j).nx=(Hh p).nx
  same:∀b x,ρ b=some x→(∀i,b=h0.nx+i→j<i→AW P ops F i→¬S i)→hget (Hh j) b=over P ops h0.nx F Hh S p b
  low:∀i,i<j→AW P ops F i→¬S i→hget (Hh j) (h0.nx+i)=hget (Hh (i+1)) (h0.nx+i)
  gone:∀i,j≤i→AW P ops F i→hget (Hh j) (h0.nx+i)=.dead
  base:∀b,b<mostBlocks→(∀i,b=h0.nx+i→¬AW P ops F i)→hget (Hh j) b=hget (Hh p) b
theorem atEff (B:Ground P n call ops F Hh V G ρ0 h0) (I:Inv P n ops F Hh V ρ0 h0 w0 S p ρ a w) (T:Turn ops S j o) (hE:isE P o=true):AtEff P ops F Hh h0 S p ρ j:=by
  have hlt:=(Array.getElem?_eq_some_iff.1 T.ho).1
  have pj:p≤j:=by
    rcases I.base with h|⟨q,x,h,hx,hxE⟩
    · omega
    · have hS:=(I.effS q x hx hxE).1 (by omega)
      have hne:q≠j:=fun e=>T.nS (e▸hS)
      by_cases hq:q<j
      · omega
      · have:=(upper B I T (by omega) hx hS).2 hxE
        rw[hE]at this;cases this
  have low:∀i x,i<j→ops[i]?=some x→isE P x=true→S i:=fun i x hi hx h=>by
    rcases lower B I T hi hx with h1|⟨_,h1⟩
    · exact h1
    · have h2:=h1 hE
      rw[h]at h2;cases h2
  have noE:∀i x,p≤i→i<j→ops[i]?=some x→isE P x=false:=fun i x h1 h2 hx=>by
    cases hq:isE P x with
    |false=>rfl
    |true =>
      have:=(I.effS i x hx hq).2 (low i x h2 hx hq)
      omega
  obtain⟨d,rfl⟩:∃d,j=p+d:=⟨j-p,by omega⟩
  obtain⟨e1,e2⟩:=B.K.between d (by omega) noE
  have room:∀i,AW P ops F i→h0.nx+i<mostBlocks:=fun i hi=>by
    obtain⟨x,hx,hc,hw⟩:=hi
    obtain⟨_,_,hm,_⟩:=B.K.alloc hx hc hw
    exact hm
  refine⟨pj,fun i x hx hxE=>⟨fun h=>?_,fun h=>?_⟩,e1,fun b x hx hno=>?_,fun i hi haw hS=>?_,fun i hi haw=>?_,fun b hb hno=>?_⟩
  · by_cases hij:i=p+d
    · exact .inr hij
    · exact .inl (low i x (by omega) hx hxE)
  · rcases h with h|h
    · by_cases hij:i<p+d+1
      · exact hij
      · have:=(upper B I T (by omega) hx h).2 hxE
        rw[hE]at this;cases this
    · omega
  · rw[e2 b (I.sf.hr.dom b x hx)]
    refine over_congr fun i q1 q2 q3=>⟨fun h=>?_,fun h=>?_⟩
    · by_cases hS:S i
      · exact hS
      · obtain⟨y,hy,hc,_⟩:=q3
        have:=I.un i y hy hc hS
        rw[←q1,hx]at this;cases this
    · have hne:i≠p+d:=fun e=>T.nS (e▸h)
      by_cases hij:i<p+d
      · exact hij
      · exact absurd h (hno i q1 (by omega) q3)
  · rw[e2 _ (room i haw)]
    by_cases hp:p≤i
    · exact over_in hp haw hi
    · rw[over_out (fun i' q1 q2 q3 q4=>by omega)]
      exact I.late i (by omega) haw hS
  · rw[e2 _ (room i haw),over_out (fun i' q1 q2 q3 q4=>by have q4:i'<p+d:=q4;omega)]
    exact I.rsv i (by omega) haw
  · rw[e2 b hb,over_out (fun i q1 q2 q3 _=>hno i q1 q3)]
end
end
end Go.Eng
namespace Go.Eng
set_option autoImplicit false
variable [Deep] [Env]
section
variable {P:Program} {n:Nat} {call:Caller} {ops:Array Oper} {F:Nat→Fr} {Hh:Nat→H} {V:Nat→AV} {G:Rec→Prop} {ρ0:Ren} {h0:H} {w0:World}
  {S:Nat→Prop} {p:Nat} {ρ:Ren} {a:Act} {w:World} {j:Nat} {o:Oper}
theorem Inv.plain {h h':H} {ρ':Ren} {w':World} {u:Value} (B:Ground P n call ops F Hh V G ρ0 h0) (I:Inv P n ops F Hh V ρ0 h0 w0 S p ρ a w) (T:Turn ops S j o) (hE:isE P o=false)
    (sub:∀b x,ρ b=some x→hget h b=.dead∨hget h b=over P ops h0.nx F Hh S p b) (st:St ρ ρ' h h' w w')
    (fin:∀b x,ρ' b=some x→withRest ρ (over P ops h0.nx F Hh S p) h h' b=over P ops h0.nx F Hh (fun i=>S i∨i=j) p b)
    (dom:∀b x,ρ' b=some x→ρ b=some x∨(h0.nx≤b∧b<(Hh p).nx)) (un:∀i o,ops[i]?=some o→cls P o.op=.alloc→¬(S i∨i=j)→ρ' (h0.nx+i)=none) (hv:VR ρ' (V j) u) :
    Inv P n ops F Hh V ρ0 h0 w0 (fun i=>S i∨i=j) p ρ' (a.put o.dst u) w' :=
  Inv.next B I T I.ple I.base (fun i x hx hxE=>⟨fun h=>.inl ((I.effS i x hx hxE).1 h),fun h=>by
      rcases h with h|rfl
      · exact(I.effS _ x hx hxE).2 h
      · rw[T.ho]at hx;cases hx;rw[hE]at hxE;cases hxE⟩)
    ((SF.frame I.sf.hr sub st).congr fin) dom un (Nat.le_refl _) I.clean (fun _ _ _ e=>e) (fun _ _ _ _=>rfl) I.rsv (fun i h1 h2 h3=>I.late i h1 h2 fun h=>h3 (.inl h)) hv
theorem over_noaw (h:¬AW P ops F j) {nx0 b:Nat}:over P ops nx0 F Hh S p b=over P ops nx0 F Hh (fun i=>S i∨i=j) p b :=
  over_congr fun i _ _ h3=>⟨.inl,fun h4=>h4.resolve_right fun e=>h (e▸h3)⟩
theorem notE {x:Cls} (h:cls P o.op=x) (hx:isCls x .eff=false):isE P o=false:=by unfold isE;rw[h];exact hx
theorem notAW (T:Turn ops S j o) (h:cls P o.op≠.alloc∨(wantA ops.toList o.guard).f (F j)=false):¬AW P ops F j:=by
  rintro⟨x,hx,hc,hw⟩
  rw[T.ho]at hx;cases hx
  rcases h with h|h
  · exact h hc
  · rw[hw]at h;cases h
theorem isFnCall_of {op:Op} (h:cls P op≠.eff):isFnCall op=false:=by
  cases op<;>first|rfl|skip
  rename_i c
  unfold isFnCall
  unfold cls at h
  dsimp only at h ⊢
  cases hc:c.callee with
  |builtin b=>first|rfl|simp [hc]
  |value f=>rw[hc]at h;exact absurd rfl h
  |invoke r m=>rw[hc]at h;exact absurd rfl h
theorem turn_wp (C:CallOK P call) (B:Ground P n call ops F Hh V G ρ0 h0) (hg0:GR P ρ0) (I:Inv P n ops F Hh V ρ0 h0 w0 S p ρ a w) (T:Turn ops S j o) {K:Act→World→Prop} {Q:Exit→Act→World→Prop}
    (k:∀p' ρ' a' w',Inv P n ops F Hh V ρ0 h0 w0 (fun i=>S i∨i=j) p' ρ' a' w'→K a' w'):wpOp P ops Q j K a w:=by
  have hlt:=(Array.getElem?_eq_some_iff.1 T.ho).1
  have hg:GR P ρ:=hg0.mono I.sf.le
  have RR:∀x∈o.op.operands.toList,goodO P x=true→Rel1 P ρ (F j) a x:=fun x hx hgd=>reads_ops B I T x hx hgd hg
  have hgd:=guard_eq B I T
  have tl:=B.K.told j o T.ho
  have dom0:∀b x,ρ b=some x→b<mostBlocks:=fun b x e=>I.sf.hr.dom b x e
  have room:∀i,AW P ops F i→h0.nx+i<mostBlocks∧h0.nx+i<(Hh p).nx:=fun i hi=>by
    obtain⟨x,hx,hc,hw⟩:=hi
    obtain⟨_,_,hm,_⟩:=B.K.alloc hx hc hw
    exact⟨hm,Nat.lt_of_lt_of_le (B.room i x hx hc) I.nx⟩
  have outP:∀b,(∀i,b=h0.nx+i→p≤i→AW P ops F i→¬S i)→over P ops h0.nx F Hh S p b=hget (Hh p) b:=fun b h=>over_out h
  refine wpOp_of T.ho (fun hw=>?_) (fun hw=>?_)
  · -- wanted
    rw[←hgd]at hw
    rcases tl.what with ⟨_,fact⟩|⟨hw',_⟩
    case inr=>rw[hw]at hw';cases hw'
    unfold Fact at fact
    cases hc:cls P o.op with
    |pure =>
      rw[hc]at fact
      have hE:=notE hc rfl
      have naw:¬AW P ops F j:=notAW T (.inl (by rw[hc];intro e;cases e))
      rcases pure_like (fr:=F j) (call:=call) hc with ⟨v,q⟩|q
      case inr=>exact(q _ _ _ fact).elim
      have hv:V j=v:=(RV.val.inj ((q _).symm.trans fact)).1.symm
      subst hv
      have sub:∀b x,ρ b=some x→hget ⟨(Hh p).nx,dT⟩ b=.dead∨hget ⟨(Hh p).nx,dT⟩ b=over P ops h0.nx F Hh S p b:=fun _ _ _=>.inl hget_dT
      refine op_wp1 (isFnCall_of (P:=P) (by rw[hc];intro e;cases e)) (HF.sub I.sf.hr sub) (freshI I B (Nat.le_refl _)) RR (q _) fun u ρ' w' hv st=>?_
      have new:∀b x,ρ' b=some x→ρ b=some x:=fun b x e=>(st.new b x e).resolve_right fun h=>absurd h.1 (by have:=h.2;show¬(Hh p).nx≤b;have:b<(Hh p).nx:=this;omega)
      refine k p ρ' _ w' (Inv.plain B I T hE sub st (fun b x e=>?_) (fun b x e=>.inl (new b x e)) (fun i x hx hxc hS=>?_) hv)
      · have:withRest ρ (over P ops h0.nx F Hh S p) ⟨(Hh p).nx,dT⟩ ⟨(Hh p).nx,dT⟩ b=over P ops h0.nx F Hh S p b:=if_pos ⟨⟨x,new b x e⟩,hget_dT⟩
        rw[this];exact over_noaw naw
      · cases hq:ρ' (h0.nx+i) with
        |none=>rfl
        |some y=>have:=I.un i x hx hxc (fun h=>hS (.inl h));rw[new _ _ hq]at this;cases this
    |read =>
      rw[hc]at fact
      have hE:=notE hc rfl
      have naw:¬AW P ops F j:=notAW T (.inl (by rw[hc];intro e;cases e))
      have lh:=lohi I T
      obtain⟨g,gnx,sub,q⟩:∃g:H,g.nx=(Hh p).nx∧(∀b x,ρ b=some x→hget g b=.dead∨hget g b=over P ops h0.nx F Hh S p b)∧(evOp P o.op).f call (F j) g=.val (V j) g:=by
        rcases B.hG j o T.ho hc hw with cm|hG
        · obtain⟨noE,allB⟩:=calmF_spec cm
          obtain rfl:p=0:=by
            rcases I.base with h|⟨q,x,_,hx,hxE⟩
            · exact h
            · rw[noE q x hx]at hxE;cases hxE
          have bt:=B.K.between (p:=0) j (by omega) fun i x _ _ hx=>noE i x hx
          rw[Nat.zero_add]at bt
          obtain⟨b1,b2⟩:=bt
          have q:=fact.1
          have e:=read_like hc q
          rw[e]at q
          refine⟨Hh j,b1,fun b x e=>?_,q⟩
          rw[b2 b (dom0 b x e)]
          by_cases c:∃i,b=h0.nx+i∧0≤i∧AW P ops F i∧S i
          · obtain⟨i,rfl,h2,h3,h4⟩:=c
            by_cases hij:i<j
            · rw[over_in h2 h3 hij,over_in h2 h3 h4];exact .inr rfl
            · rw[over_out fun k e1 _ _ e4=>by omega]
              exact .inl (I.rsv i h2 h3)
          · rw[over_out (S:=S) fun i e1 e2 e3 e4=>c ⟨i,e1,e2,e3,e4⟩,over_out fun i e1 e2 e3 e4=>?_]
            · exact .inr rfl
            · have e4:i<j:=e4
              obtain⟨y,hy,hyc,hyw⟩:=e3
              exact c ⟨i,e1,e2,⟨y,hy,hyc,hyw⟩,befS I T (allB i y e4 hy hyc)⟩
        · obtain⟨h1,q⟩:=B.K.reads _ hG p I.base lh.1 lh.2
          have q:(evOp P o.op).f call (F j) (Hh p)=.val (V j) h1:=q
          obtain rfl:=read_like hc q
          refine⟨Hh p,rfl,fun b x e=>?_,q⟩
          by_cases c:∃i,b=h0.nx+i∧p≤i∧AW P ops F i∧S i
          · obtain⟨i,rfl,h2,h3,h4⟩:=c
            exact .inl (I.rsv i h2 h3)
          · exact .inr (outP b fun i e1 e2 e3 e4=>c ⟨i,e1,e2,e3,e4⟩).symm
      refine op_wp1 (isFnCall_of (P:=P) (by rw[hc];intro e;cases e)) (HF.sub I.sf.hr sub) (freshI I B (Nat.le_of_eq gnx.symm)) RR q fun u ρ' w' hv st=>?_
      have new:∀b x,ρ' b=some x→ρ b=some x:=fun b x e=>(st.new b x e).resolve_right fun h=>absurd h.1 (by have:=h.2;omega)
      refine k p ρ' _ w' (Inv.plain B I T hE sub st (fun b x e=>?_) (fun b x e=>.inl (new b x e)) (fun i x hx hxc hS=>?_) hv)
      · rw[←over_noaw (S:=S) (p:=p) (Hh:=Hh) naw]
        by_cases c:hget g b=.dead
        · exact if_pos ⟨⟨x,new b x e⟩,c⟩
        · have:withRest ρ (over P ops h0.nx F Hh S p) g g b=hget g b:=if_neg fun h=>c h.2
          rw[this]
          exact(sub b x (new b x e)).resolve_left c
      · cases hq:ρ' (h0.nx+i) with
        |none=>rfl
        |some y=>have:=I.un i x hx hxc (fun h=>hS (.inl h));rw[new _ _ hq]at this;cases this
    |alloc =>
      have hE:=notE hc rfl
      have aw:AW P ops F j:=⟨o,T.ho,hc,hw⟩
      obtain⟨x,vf,hm,hV,hH,q⟩:=B.K.alloc T.ho hc hw
      have q:=q ⟨h0.nx+j,dT⟩
      rw[newB_eq hm]at q
      have q:(evOp P o.op).f call (F j) ⟨h0.nx+j,dT⟩=.val (V j) ⟨h0.nx+j+1,trSet Deep.d (h0.nx+j) dT x⟩:=by rw[q,hV]
      have sub:∀b x,ρ b=some x→hget ⟨h0.nx+j,dT⟩ b=.dead∨hget ⟨h0.nx+j,dT⟩ b=over P ops h0.nx F Hh S p b:=fun _ _ _=>.inl hget_dT
      have hnone:=I.un j o T.ho hc T.nS
      refine op_wp1 (isFnCall_of (P:=P) (by rw[hc];intro e;cases e)) (HF.sub I.sf.hr sub) hnone RR q fun u ρ' w' hv st=>?_
      have new:∀b x,ρ' b=some x→ρ b=some x∨b=h0.nx+j:=fun b x e=>(st.new b x e).imp id fun h=>by
        have h1:h0.nx+j≤b:=h.1
        have h2:b<h0.nx+j+1:=h.2
        omega
      refine k p ρ' _ w' (Inv.plain B I T hE sub st (fun b y e=>?_) (fun b y e=>(new b y e).imp id fun h=>⟨by omega,by rw[h];exact(room j aw).2⟩) (fun i y hy hyc hS=>?_) hv)
      · rcases new b y e with h|h
        · have hne:b≠h0.nx+j:=fun e'=>by rw[e',hnone]at h;cases h
          have:withRest ρ (over P ops h0.nx F Hh S p) ⟨h0.nx+j,dT⟩ ⟨h0.nx+j+1,trSet Deep.d (h0.nx+j) dT x⟩ b=over P ops h0.nx F Hh S p b:=if_pos ⟨⟨y,h⟩,hget_dT⟩
          rw[this]
          exact over_congr fun i e1 _ _=>⟨.inl,fun h4=>h4.resolve_right fun e'=>hne (by rw[e1,e'])⟩
        · subst h
          have:withRest ρ (over P ops h0.nx F Hh S p) ⟨h0.nx+j,dT⟩ ⟨h0.nx+j+1,trSet Deep.d (h0.nx+j) dT x⟩ (h0.nx+j)=hget ⟨h0.nx+j+1,trSet Deep.d (h0.nx+j) dT x⟩ (h0.nx+j) :=
            if_neg fun h=>by obtain⟨⟨z,hz⟩,_⟩:=h;rw[hnone]at hz;cases hz
          have hov:over P ops h0.nx F Hh (fun i=>S i∨i=j) p (h0.nx+j)=hget (Hh (j+1)) (h0.nx+j):=by
            by_cases pj:p≤j
            · exact over_in pj aw (.inr rfl)
            · rw[over_out (fun i q1 q2 q3 q4=>by omega)]
              exact I.late j (by omega) aw T.nS
          rw[this,hov,hH]
          have e1:=hget_set (h:=⟨h0.nx+j,dT⟩) (nx:=h0.nx+j+1) (x:=x) hm hm
          have e2:=hget_set (h:=Hh j) (nx:=(Hh j).nx) (x:=x) hm hm
          rw[if_pos rfl]at e1 e2
          rw[e1,e2]
      · cases hq:ρ' (h0.nx+i) with
        |none=>rfl
        |some z =>
          rcases new _ _ hq with h|h
          · have:=I.un i y hy hyc (fun h=>hS (.inl h));rw[h]at this;cases this
          · exact absurd (.inr (by omega)) hS
    |eff =>
      rw[hc]at fact
      have hE:isE P o=true:=by unfold isE;rw[hc];rfl
      have A:=atEff B I T hE
      have nxp:=I.nx
      have n0:=B.n0
      have cleanj:Clean (Hh j):=fun b hb hm=>by
        rw[A.base b hm (fun i e haw=>by have:=(room i haw).2;rw[A.nx]at hb;omega)]
        exact I.clean b (by rw[←A.nx];exact hb) hm
      have freshj:Fresh ρ (Hh j):=⟨fun b hb=>freshI I B (by rw[←A.nx];exact hb),cleanj⟩
      have inCase:∀i,p≤i→AW P ops F i→S i→¬i<j→j<i:=fun i _ _ hS hij=>by
        have:i≠j:=fun e=>T.nS (e▸hS)
        omega
      have sub:∀b x,ρ b=some x→hget (Hh j) b=.dead∨hget (Hh j) b=over P ops h0.nx F Hh S p b:=fun b x e=>by
        by_cases c:∃i,b=h0.nx+i∧j<i∧AW P ops F i∧S i
        · obtain⟨i,rfl,h2,h3,h4⟩:=c
          exact .inl (A.gone i (by omega) h3)
        · exact .inr (A.same b x e fun i e1 e2 e3 e4=>c ⟨i,e1,e2,e3,e4⟩)
      refine op_wpR C (HF.sub I.sf.hr sub) freshj RR hg fact fun u ρ' w' hv st=>?_
      have low:∀b x,ρ' b=some x→b<(Hh j).nx→ρ b=some x:=fun b x e hb=>(st.new b x e).resolve_right fun h=>by omega
      have nxj:=st.nx
      refine k (j+1) ρ' _ w' (Inv.next B I T (by omega) (.inr ⟨j,o,rfl,T.ho,hE⟩) A.effS ((SF.frame I.sf.hr sub st).congr fun b x e=>?_) (fun b x e=>(st.new b x e).imp id fun h=>⟨?_,h.2⟩) (fun i y hy hyc hS=>?_)
        (by rw[←A.nx];exact nxj) (st.clean cleanj) (fun b h1 h2 h3=>?_) (fun b h1 h2 h3=>?_) (fun i h1 h2=>?_) (fun i h1 h2 h3=>?_) hv)
      · have hm:b<mostBlocks:=st.hr.dom b x e
        by_cases c:∃i,b=h0.nx+i∧j+1≤i∧AW P ops F i∧S i
        · obtain⟨i,rfl,h2,h3,h4⟩:=c
          rw[over_in h2 h3 (.inl h4)]
          have hq:ρ (h0.nx+i)=some x:=low _ x e (by have:=(room i h3).2;rw[A.nx];exact this)
          have:withRest ρ (over P ops h0.nx F Hh S p) (Hh j) (Hh (j+1)) (h0.nx+i)=over P ops h0.nx F Hh S p (h0.nx+i):=if_pos ⟨⟨x,hq⟩,A.gone i (by omega) h3⟩
          rw[this,over_in (by have:=A.pj;omega) h3 h4]
        · have no:∀i,b=h0.nx+i→j<i→AW P ops F i→¬S i:=fun i e1 e2 e3 e4=>c ⟨i,e1,e2,e3,e4⟩
          rw[over_out (fun i e1 e2 e3 e4=>no i e1 e2 e3 (e4.resolve_right (by omega)))]
          by_cases d:(∃x,ρ b=some x)∧hget (Hh j) b=.dead
          · have hs:hget (Hh j) b=over P ops h0.nx F Hh S p b:=by
              obtain⟨⟨y,hy⟩,_⟩:=d
              exact A.same b y hy no
            have:withRest ρ (over P ops h0.nx F Hh S p) (Hh j) (Hh (j+1)) b=over P ops h0.nx F Hh S p b:=if_pos d
            rw[this,←hs,d.2]
            refine(st.dd b ?_ hm d.2).symm
            obtain⟨⟨y,hy⟩,_⟩:=d
            by_cases hb:b<(Hh j).nx
            · exact hb
            · rw[freshj.none b (by omega)]at hy;cases hy
          · exact if_neg d
      · have:=h.1
        have e1:=A.nx
        omega
      · cases hq:ρ' (h0.nx+i) with
        |none=>rfl
        |some z =>
          have h1:=low _ z hq (by have:=B.room i y hy hyc;have e1:=A.nx;omega)
          have:=I.un i y hy hyc (fun h=>hS (.inl h))
          rw[h1]at this;cases this
      · refine st.dd b (by have e1:=A.nx;omega) h2 ?_
        rw[A.base b h2 (fun i e _=>by omega)]
        exact h3
      · rw[st.um b (by have e1:=A.nx;omega) h2 h3]
        exact A.base b h2 (fun i e _=>by omega)
      · have:=A.gone i (by omega) h2
        exact st.dd _ (by have:=(room i h2).2;have e1:=A.nx;omega) (room i h2).1 this
      · have hS:¬S i:=fun h=>h3 (.inl h)
        have hij:i<j:=by
          have:i≠j:=fun e=>h3 (.inr e)
          omega
        obtain⟨y,hy,hyc,_⟩:=id h2
        rw[st.um _ (by have:=(room i h2).2;have e1:=A.nx;omega) (room i h2).1 (I.un i y hy hyc hS)]
        exact A.low i hij h2 hS
  · -- not wanted
    rw[←hgd]at hw
    rcases tl.what with ⟨hw',_⟩|⟨_,hV,hH⟩
    case inl=>rw[hw]at hw';cases hw'
    have naw:¬AW P ops F j:=notAW T (.inr hw)
    have hv:VR ρ (V j) undef:=by rw[hV];exact VR_und
    have un:∀i y,ops[i]?=some y→cls P y.op=.alloc→¬(S i∨i=j)→ρ (h0.nx+i)=none:=fun i y hy hyc hS=>I.un i y hy hyc fun h=>hS (.inl h)
    cases hE:isE P o with
    |false =>
      refine k p ρ _ w (Inv.next B I T I.ple I.base (fun i x hx hxE=>⟨fun h=>.inl ((I.effS i x hx hxE).1 h),fun h=>?_⟩) ((SF.refl I.sf.hr).congr fun b x e=>over_noaw naw) (fun b x e=>.inl e) un (Nat.le_refl _) I.clean (fun _ _ _ e=>e) (fun _ _ _ _=>rfl) I.rsv (fun i h1 h2 h3=>I.late i h1 h2 fun h=>h3 (.inl h)) hv)
      rcases h with h|rfl
      · exact(I.effS i x hx hxE).2 h
      · rw[T.ho]at hx;cases hx;rw[hE]at hxE;cases hxE
    |true =>
      have A:=atEff B I T hE
      have cleanj:Clean (Hh j):=fun b hb hm=>by
        rw[A.base b hm (fun i e haw=>by have:=(room i haw).2;rw[A.nx]at hb;omega)]
        exact I.clean b (by rw[←A.nx];exact hb) hm
      refine k (j+1) ρ _ w (Inv.next B I T (by omega) (.inr ⟨j,o,rfl,T.ho,hE⟩) A.effS ((SF.refl I.sf.hr).congr fun b x e=>?_) (fun b x e=>.inl e) un (by rw[hH,A.nx];exact Nat.le_refl _) (by rw[hH];exact cleanj)
        (fun b h1 h2 h3=>?_) (fun b h1 h2 h3=>by rw[hH];exact A.base b h2 (fun i e _=>by omega)) (fun i h1 h2=>?_) (fun i h1 h2 h3=>?_) hv)
      · have hm:=dom0 b x e
        by_cases c:∃i,b=h0.nx+i∧j+1≤i∧AW P ops F i∧S i
        · obtain⟨i,rfl,h2,h3,h4⟩:=c
          rw[over_in h2 h3 (.inl h4),over_in (by have:=A.pj;omega) h3 h4]
        · have no:∀i,b=h0.nx+i→j<i→AW P ops F i→¬S i:=fun i e1 e2 e3 e4=>c ⟨i,e1,e2,e3,e4⟩
          rw[over_out (S:=fun i=>S i∨i=j) (fun i e1 e2 e3 e4=>no i e1 e2 e3 (e4.resolve_right (by omega))),hH]
          exact(A.same b x e no).symm
      · rw[hH,A.base b h2 (fun i e _=>by omega)]
        exact h3
      · rw[hH];exact A.gone i (by omega) h2
      · rw[hH]
        have hij:i<j:=by
          have:i≠j:=fun e=>h3 (.inr e)
          omega
        exact A.low i hij h2 fun h=>h3 (.inl h)
theorem any_wp (C:CallOK P call) (B:Ground P n call ops F Hh V G ρ0 h0) (hg0:GR P ρ0) {Q:Exit→Act→World→Prop}
    (fin:∀p ρ a w,Inv P n ops F Hh V ρ0 h0 w0 (fun i=>i<ops.size) p ρ a w→Q .normal a w) :
    ∀(fuel:Nat) (listed:Array Bool) (p:Nat) (ρ:Ren) (a:Act) (w:World),listed.size=ops.size→((List.range ops.size).filter fun i=>!listed.getD i false).length≤fuel →
      Inv P n ops F Hh V ρ0 h0 w0 (fun i=>listed.getD i false=true) p ρ a w→wpAny P .any ops Q fuel listed a w:=by
  have same:∀(listed:Array Bool) (i:Nat),listed.size=ops.size→i<ops.size→listed.getD i true=listed.getD i false:=fun listed i h1 h2=>by
    simp only[Array.getD_eq_getD_getElem?]
    rw[Array.getElem?_eq_getElem (by omega)]
    rfl
  have out:∀(listed:Array Bool) (i:Nat),listed.getD i false=true→i<listed.size:=fun listed i h=>by
    by_cases hi:i<listed.size
    · exact hi
    · simp only[Array.getD_eq_getD_getElem?]at h
      rw[Array.getElem?_eq_none (by omega)]at h
      cases h
  have done:∀(listed:Array Bool) p ρ a w,listed.size=ops.size→(∀i,i<ops.size→listed.getD i false=true)→Inv P n ops F Hh V ρ0 h0 w0 (fun i=>listed.getD i false=true) p ρ a w→Q .normal a w:=by
    intro listed p ρ a w h1 h2 I
    have:(fun i=>listed.getD i false=true)=fun i=>i<ops.size:=funext fun i=>propext ⟨fun h=>by have:=out listed i h;omega,h2 i⟩
    rw[this]at I
    exact fin p ρ a w I
  have rdy:∀(listed:Array Bool),listed.size=ops.size→(∃i,i<ops.size∧listed.getD i false=false)→∃i,i∈Region.ready .any ops listed:=by
    intro listed hs hex
    have key:∀i,i<ops.size→listed.getD i false=false→∃i,i∈Region.ready .any ops listed:=by
      intro i
      induction i using Nat.strongRecOn with
      |_ i ih =>
        intro hi hl
        by_cases c:∃q,q<i∧listed.getD q false=false
        · obtain⟨q,hq,hql⟩:=c
          exact ih q hq (by omega) hql
        · obtain⟨o,ho⟩:∃o,ops[i]?=some o:=⟨_,Array.getElem?_eq_getElem hi⟩
          refine⟨i,mem_ready.2 ⟨by rw[same listed i hs hi];exact hl,o,ho,fun e he hb=>?_⟩⟩
          have:=B.R.edge i o ho e he hb
          cases hq:listed.getD e.on false with
          |true=>rfl
          |false=>exact absurd ⟨e.on,this,hq⟩ c
    obtain⟨i,hi,hl⟩:=hex
    exact key i hi hl
  intro fuel
  induction fuel with
  |zero =>
    intro listed p ρ a w hs hc I
    have all:∀i,i<ops.size→listed.getD i false=true:=fun i hi=>by
      cases hq:listed.getD i false with
      |true=>rfl
      |false =>
        have h0:=List.eq_nil_of_length_eq_zero (Nat.le_zero.1 hc)
        have:i∈((List.range ops.size).filter fun i=>!listed.getD i false):=List.mem_filter.2 ⟨List.mem_range.2 hi,by rw[hq];rfl⟩
        rw[h0]at this;cases this
    refine⟨?_,done listed p ρ a w hs all I⟩
    rw[List.eq_nil_iff_forall_not_mem]
    intro i hi
    obtain⟨h1,o,ho,_⟩:=mem_ready.1 hi
    have hlt:=(Array.getElem?_eq_some_iff.1 ho).1
    rw[same listed i hs hlt,all i hlt]at h1
    cases h1
  |succ fuel ih =>
    intro listed p ρ a w hs hc I
    refine⟨fun hr=>?_,fun j hj=>?_⟩
    · refine done listed p ρ a w hs (fun i hi=>?_) I
      cases hq:listed.getD i false with
      |true=>rfl
      |false =>
        obtain⟨q,hq⟩:=rdy listed hs ⟨i,hi,hq⟩
        rw[hr]at hq;cases hq
    · obtain⟨h1,o,ho,h2⟩:=mem_ready.1 hj
      have hlt:=(Array.getElem?_eq_some_iff.1 ho).1
      rw[same listed j hs hlt]at h1
      refine turn_wp C B hg0 I ⟨ho,by rw[h1];simp,h2⟩ fun p' ρ' a' w' I'=>?_
      have hput:∀i,(listed.setIfInBounds j true).getD i false=true↔(listed.getD i false=true∨i=j):=fun i=>by
        by_cases hij:i=j
        · subst hij
          simp [Array.getElem?_setIfInBounds_self_of_lt (show i<listed.size by omega)]
        · simp [Array.getElem?_setIfInBounds_ne (Ne.symm hij),hij]
      refine ih _ p' ρ' a' w' (by simp [hs]) ?_ ?_
      · have lt:=countP_lt (p:=fun i=>!(listed.setIfInBounds j true).getD i false) (q:=fun i=>!listed.getD i false) (List.range ops.size)
          (fun i _ h=>by
            cases hq:listed.getD i false with
            |false=>rfl
            |true=>have:=(hput i).2 (.inl hq);rw[this]at h;cases h)
          ⟨j,List.mem_range.2 hlt,by rw[h1];rfl,by rw[(hput j).2 (.inr rfl)];rfl⟩
        omega
      · have:(fun i=>(listed.setIfInBounds j true).getD i false=true)=fun i=>listed.getD i false=true∨i=j:=funext fun i=>propext (hput i)
        rw[this];exact I'
end
theorem draws_ok {P:Program} (hm:P.follows .mixedOrders=true):DrawsOK P:=by
  intro n call id ops C hreg fr h e fr' h' x ρ a w hr hg hn hf Q k
  have x:forceN (Nat.add h.nx (resN P ops.toList)) (fun nx=>startD (opsD P n ops.toList (befs ops.toList) ops.toList 0) call fr h nx)=.ok e fr' h':=x
  rw[forceN_eq]at x
  obtain⟨rfl,F,Hh,V,hsF,f0,g0,f1,g1,k1,k2,_,k4⟩:=opsD_ok _ _ _ _ _ _ _ _ _ (show(opsD P n ops.toList (befs ops.toList) ops.toList 0).f call h.nx fr ⟨Nat.add h.nx (resN P ops.toList),h.m⟩ [⟨Nat.add h.nx (resN P ops.toList),h.m⟩] []=.ok e fr' h' from x)
  have hsz:ops.toList.length=ops.size:=by simp
  rw[hsz]at f1 g1
  have hres:∀(i:Nat) (o:Oper),ops[i]?=some o→cls P o.op=.alloc→resN P ops.toList=ops.size:=fun i o ho hc=>by
    unfold resN
    have:(ops.toList.any fun o=>isCls (cls P o.op) .alloc)=true:=List.any_eq_true.2 ⟨o,by simpa using Array.mem_of_getElem? ho,by rw[hc];rfl⟩
    rw[this,ifB_true,llen_eq,hsz]
  have base:(Hh 0).nx=h.nx+resN P ops.toList:=by rw[g0];rfl
  have K0:Canon P n call ops h.nx F Hh V (fun r=>sameIn call r hsF (Nat.sub (llen hsF) 1)=true):=by
    refine⟨fun i o ho=>by have:=k4 i o (by simpa using ho);rwa [Nat.zero_add]at this,fun r hG p hp h1 h2=>?_⟩
    refine sameAt_spec (sameIn_spec hsF hG (effs P (ops.toList.take p)) (Hh p) ?_ h1 h2)
    rcases hp with rfl|⟨q,o,rfl,ho,hE⟩
    · have:=k1 0 ⟨Nat.add h.nx (resN P ops.toList),h.m⟩ (by simp)
      rw[g0]
      simpa [effs] using this
    · have:=k2 q o (by simpa using ho) hE
      have e2:effs P (ops.toList.take (q+1))=1+effs P (ops.toList.take q):=by
        unfold effs
        rw[List.take_add_one,show ops.toList[q]?=some o by simpa using ho]
        simp [List.filter_append,hE]
        omega
      rw[e2]
      simpa using this
  have K:Canon P n call ops h.nx F Hh V (fun r=>sameIn call r hsF (Nat.sub (llen hsF) 1)=true∨∃j o h1,ops[j]?=some o∧calm0 P ops.toList (befs ops.toList) j=true∧(evOp P o.op).f call (F j) (Hh j)=.val (V j) h1 ∧
      r=⟨evOp P o.op,F j,V j,effLo P ops.toList (befs ops.toList) j,effHi P ops.toList (befs ops.toList) j⟩):=by
    refine⟨fun i o ho=>(K0.told i o ho).mono fun r h=>.inl h,fun r hG p hp h1 h2=>?_⟩
    rcases hG with hG|⟨j,o,h3,ho,cm,q,rfl⟩
    · exact K0.reads r hG p hp h1 h2
    · have hj:=(Array.getElem?_eq_some_iff.1 ho).1
      have e:=K0.calm (Nat.le_of_lt hj) cm hp h1 h2
      rw[e]at q
      exact⟨h3,q⟩
  have B:Ground P n call ops F Hh V (fun r=>sameIn call r hsF (Nat.sub (llen hsF) 1)=true∨∃j o h1,ops[j]?=some o∧calm0 P ops.toList (befs ops.toList) j=true∧(evOp P o.op).f call (F j) (Hh j)=.val (V j) h1 ∧
      r=⟨evOp P o.op,F j,V j,effLo P ops.toList (befs ops.toList) j,effHi P ops.toList (befs ops.toList) j⟩) ρ h:=by
    refine⟨K,regOk_spec hreg,hf.most,hn,by omega,fun i o ho hc=>?_,fun i o ho hc hw=>?_⟩
    · have:=(Array.getElem?_eq_some_iff.1 ho).1
      rw[base,hres i o ho hc];omega
    · rcases(K.told i o ho).what with ⟨_,h2⟩|⟨h1,_⟩
      · unfold Fact at h2;rw[hc]at h2
        rcases h2.2 with c|g
        · cases hq:calm0 P ops.toList (befs ops.toList) i with
          |true=>exact .inr (.inr ⟨i,o,_,ho,hq,h2.1,rfl⟩)
          |false =>
            unfold calm at c
            rw[hq]at c
            exact .inl c
        · exact .inr g
      · rw[hw]at h1;cases h1
  have hget0:∀b,hget (Hh 0) b=hget h b:=fun b=>by rw[g0];rfl
  refine wp_region_any hm ?_
  refine any_wp (w0:=w) C B hg ?_ ops.size (Array.replicate ops.size false) 0 ρ a _ (by simp) (by exact Nat.le_trans (List.length_filter_le _ _) (by simp)) ?_
  · intro p ρ' a' w' I
    obtain⟨d,hd⟩:∃d,ops.size=p+d:=⟨ops.size-p,by have:=I.ple;omega⟩
    have noE:∀i o,p≤i→i<p+d→ops[i]?=some o→isE P o=false:=fun i o h1 h2 ho=>by
      cases hq:isE P o with
      |false=>rfl
      |true=>have:=(I.effS i o ho hq).2 (by show i<ops.size;omega);omega
    obtain⟨e1,e2⟩:=K.between d (by omega) noE
    rw[←hd]at e1 e2
    rw[g1]at e1 e2
    have room:∀i,AW P ops F i→h.nx+i<(Hh p).nx:=fun i hi=>by
      obtain⟨y,hy,hc,hw⟩:=hi
      exact Nat.lt_of_lt_of_le (B.room i y hy hc) I.nx
    have st:St ρ ρ' h h' w w':=by
      have nxp:=I.nx
      refine⟨I.sf.congr fun b x q=>(e2 b (I.sf.hr.dom b x q)).symm,fun b x q=>by rw[e1];exact I.dom b x q,by rw[e1];omega,fun _ b hb hmb=>?_,fun b hb hmb hdd=>?_,fun b hb hmb hn0=>?_⟩
      · rw[e2 b hmb,over_out (fun i q1 q2 q3 _=>by have:=room i q3;rw[e1]at hb;omega)]
        exact I.clean b (by rw[←e1];exact hb) hmb
      · rw[e2 b hmb,over_out (fun i q1 q2 q3 _=>by omega)]
        exact I.dd b hb hmb hdd
      · rw[e2 b hmb,over_out (fun i q1 q2 q3 _=>by omega)]
        exact I.um b hb hmb hn0
    refine k ρ' a' w' st ⟨I.asz,hf.most,fun t=>?_,I.adef⟩
    rw[←f1]
    exact I.slots K hf.most (Nat.le_refl _) (fun i o hi _ _=>hi) (fun i o hi _ _=>hi)
  · have hno:∀i,¬((Array.replicate ops.size false).getD i false=true):=fun i=>by
      simp only[Array.getD_eq_getD_getElem?,Array.getElem?_replicate]
      split<;>simp
    refine⟨Nat.zero_le _,.inl rfl,fun i o ho hE=>⟨fun q=>by omega,fun q=>absurd q (hno i)⟩,fun j o ho q=>absurd q (hno j),?_,fun b x q=>.inl q,fun i o ho hc _=>hn.none _ (by omega),Nat.le_refl _,?_,fun b _ _ q=>by rw[hget0];exact q,fun b _ _ _=>hget0 b,fun i _ haw=>?_,fun i q _ _=>by omega,
      fun t i o q=>absurd q (hno i),fun t _=>?_,hf.size,hf.defers⟩
    · refine(SF.drawn (w':={ w with drawn:=w.drawn+1 }) hr rfl ⟨rfl,rfl,rfl⟩).congr fun b x q=>?_
      rw[over_out (fun i _ _ _ q=>hno i q)]
      exact(hget0 b).symm
    · intro b hb hmb
      rw[hget0]
      exact hn.clean b (by omega) hmb
    · rw[hget0]
      obtain⟨y,hy,hc,hw⟩:=haw
      obtain⟨_,_,hmb,_⟩:=K.alloc hy hc hw
      exact hn.clean _ (by omega) hmb
    · rw[f0];exact hf.at_ t
end Go.Eng
namespace Go.Eng
set_option autoImplicit false
variable [Deep] [Env]
def Kept (w w':World):Prop:=w.heap.size≤w'.heap.size∧(∀B,B<w.heap.size→w'.heap[B]?=w.heap[B]?)∧Still w w'
theorem Kept.but {w w':World} (h:Kept w w') (may:MemPlace→Prop):w.keptBut w' may:=by
  refine⟨h.2.2.2.1,h.2.2.2.2,fun i hi=>?_⟩
  rw[h.2.1 i hi]
  cases w.heap[i]? with
  |none=>rfl
  |some o =>
    cases o with
    |cells c t fr=>exact⟨rfl,rfl,rfl,fun _ _=>rfl⟩
    |map es clock=>exact .inr ⟨rfl,rfl⟩
    |_=>rfl
section
variable {P:Program}
def ren0 (P:Program):Ren:=fun b=>if b<P.globals.size then some (b,0,0) else none
theorem hget_h0 (b:Nat):hget (h0 P) b=Blk.dead:=show trGet Deep.d b (trNew Blk Blk.dead Deep.d)=Blk.dead from trGet_new Deep.d b Blk.dead
theorem start_ok (hsz:P.globals.size≤mostBlocks) (w:World):HR (ren0 P) (h0 P) w∧GR P (ren0 P)∧Fresh (ren0 P) (h0 P):=by
  refine⟨⟨fun b B o N _=>by rw[hget_h0];trivial,fun b b' B o N o' N' _ _ l=>by rw[hget_h0]at l;exact l.elim,fun b x e=>?_⟩,fun g hg=>⟨0,if_pos hg⟩,⟨fun b hb=>if_neg (by have:P.globals.size≤b:=hb;omega),fun b _ _=>hget_h0 b⟩⟩
  unfold ren0 at e
  split at e
  · rename_i hb
    omega
  · cases e
theorem engine_calls (hok:progOk P=true) (hsz:P.globals.size≤mostBlocks) {nat:Nats} (hnat:NatsOK P nat) {n:Nat} {f:FuncId} {args:List AV} {us:List Value} {v:AV} {h':H} (hv:VL (ren0 P) args us)
    (e:(callN P nat n).f f args (h0 P)=.val v h') (w:World):Calls P f ⟨us⟩ w fun e w'=>∃u ρ',e=.returned u∧VR ρ' v u∧Kept w w':=by
  have h1:P.follows .mixedOrders=true:=hok
  obtain⟨k1,k2,k3⟩:=start_ok hsz w
  refine(callN_ok (draws_ok h1) hnat n f args (h0 P) v h' e (ren0 P) w us k1 k2 k3 hv).2.mono fun e' w' hh=>?_
  obtain⟨u,ρ',he,hu,st⟩:=hh
  refine⟨u,ρ',he,hu,st.size,fun B hB=>st.keep B hB fun b o N _ hw=>?_,st.still⟩
  rw[hget_h0]at hw
  exact hw
noncomputable def okRes (r:RV):Bool:=rvk r (fun v _=>asBool v (fun b=>b) false) (fun _=>false)
noncomputable def runA (P:Program) (nat:Nats) (n:Nat) (f:FuncId) (args:List AV):Bool:=okRes ((callN P nat n).f f args (h0 P))
theorem runA_calls (hok:progOk P=true) (hsz:P.globals.size≤mostBlocks) {nat:Nats} (hnat:NatsOK P nat) {n:Nat} {f:FuncId} {args:List AV} {us:List Value} (hv:VL (ren0 P) args us)
    (e:runA P nat n f args=true) (w:World):Calls P f ⟨us⟩ w fun e w'=>e=.returned (.bool true)∧Kept w w':=by
  unfold runA at e
  cases hr:(callN P nat n).f f args (h0 P) with
  |fail y=>rw[hr]at e;cases e
  |val v h' =>
    rw[hr]at e
    obtain⟨b,hb,hb'⟩:=asBool_eq.1 (show asBool v (fun b=>b) false=true from e)
    subst hb
    have hb':b=true:=hb'
    subst hb'
    refine(engine_calls hok hsz hnat hv hr w).mono fun e' w' hh=>?_
    obtain⟨u,ρ',he,hu,hk⟩:=hh
    rw[VR_bool.1 hu]at he
    exact⟨he,hk⟩
theorem runB_calls (hok:progOk P=true) (hsz:P.globals.size≤mostBlocks) {n:Nat} {f:FuncId} (e:runB P n f=true) (w:World):Calls P f #[] w fun e w'=>e=.returned (.bool true)∧Kept w w' :=
  runA_calls hok hsz noNats_ok (args:=[]) (us:=[]) VL.nil (show runA P noNats n f []=true from e) w
noncomputable def trueNat (args:List AV) (h:H):RV:=List.rec (motive:=fun _=>RV) (.val (.bool true) h) (fun _ _ _=>.fail 91) args
theorem Kept.st {ρ:Ren} {h:H} {w w':World} (hr:HR ρ h w) (k:Kept w w'):St ρ ρ h h w w' where
  le:=.refl ρ
  hr:=⟨fun b B o N e=>by
      have hb:=hr.blk b B o N e
      by_cases hl:lv (hget h b)
      · exact hb.mono (.refl ρ) (k.2.1 B (hb.lt hl))
      · rw[lv_dead hl];trivial,hr.inj,hr.dom⟩
  rng:=fun b B o N e hw=>.inr ⟨b,o,N,e,hw⟩
  ro:=fun _ _ _ _ e hl hw=>⟨e,hl,hw⟩
  size:=k.1
  keep:=fun B hB _=>k.2.1 B hB
  still:=k.2.2
  new:=fun _ _ e=>.inl e
  nx:=Nat.le_refl _
  clean:=id
  dd:=fun _ _ _ e=>e
  um:=fun _ _ _ _=>rfl
def hasBody (P:Program) (f:FuncId):Bool:=match P.funcs[f]? with|some fn=>!fn.body.isNone&&!(fn.name == "runtime.NumGoroutine")|none=>false
theorem trueNat_ok {f:FuncId} (hb:hasBody P f=true) (hc:∀w,Calls P f #[] w fun e w'=>e=.returned (.bool true)∧Kept w w'):NatOK P f trueNat:=by
  intro args h v h' e ρ w us hr _ _ hv
  cases args with
  |cons a l=>exact(fail_val (show RV.fail 91=.val v h' from e)).elim
  |nil =>
    cases (show RV.val (.bool true) h=.val v h' from e)
    unfold VL at hv
    subst hv
    unfold hasBody at hb
    cases hf:P.funcs[f]? with
    |none=>rw[hf]at hb;cases hb
    |some fn =>
      rw[hf]at hb
      obtain⟨h1,h2⟩:=Bool.and_eq_true_iff.1 (show(!fn.body.isNone&&!(fn.name == "runtime.NumGoroutine"))=true from hb)
      refine⟨callFunc_run hf (by simpa using h1) (by simpa using h2),(hc w).mono fun e' w' hh=>?_⟩
      exact⟨.bool true,ρ,hh.1,VR_bool.2 rfl,hh.2.st hr⟩
theorem arg_int {ρ:Ren} {k:IntKind} {n:Int} (h:k.wrap n=n):VR ρ (.int k (res k n)) (.int k n):=VR_int.2 ⟨res_lt k n,by rw[sgn_res,h]⟩
end
instance (priority:=low) noEnv:Env:=⟨fun _=>0,fun _ _=>0⟩
end Go.Eng
namespace Go.Eng
set_option autoImplicit false
variable [Deep] [Env]
open Go.ChangeShapes Go.WideShapes
section
variable {H:Type} {enc:TypeId×Value→H} {P:Program}
theorem post_of_kept {f:Func} {s:ChangeSpec} {apart fresh handsOn:Bool} {W W':World} {args:Array Value} {v:Value} {ds gs:List (DataW H)} {before pa pv:List MemPlace}
    (hW:DataW.Whole enc P f.params.toList s.vars apart W args.toList ds gs before)
    (hres:∀(b:Nat) (sp:Nat→Bool),DataW.TrodAll enc P W' b sp handsOn f.resultTypes.toList (v.resultList f.resultTypes.size) (s.fn H (ds++gs)).results [])
    (hargs:∀sp:Nat→Bool,(∀p∈before,sp p.block=true)→DataW.TrodAll enc P W' 0 sp true f.params.toList args.toList (s.fn H (ds++gs)).args pa)
    (hvars:∀sp:Nat→Bool,(∀p∈before,sp p.block=true)→DataW.TrodVars enc P W' sp s.vars (s.fn H (ds++gs)).vars pv)
    (hps:before=pa++pv) (hk:Kept W W'):s.post enc P f apart fresh handsOn false W args v W':=by
  have inOld:∀p∈before,decide (p.block<W.heap.size)=true:=fun p hp=>decide_eq_true (hW.lt p hp)
  have part:∀p,p∈before→p∈before∧(p∈([]:List MemPlace)∨p∈pa∨p∈pv):=fun p hp=>⟨hp,.inr (List.mem_append.1 (hps▸hp))⟩
  exact⟨ds,gs,before,[],pa,pv,hW,hres _ _,hargs (fun b=>decide (b<W.heap.size)) inOld,hvars (fun b=>decide (b<W.heap.size)) inOld,hk.but _,nofun⟩
end
end Go.Eng
