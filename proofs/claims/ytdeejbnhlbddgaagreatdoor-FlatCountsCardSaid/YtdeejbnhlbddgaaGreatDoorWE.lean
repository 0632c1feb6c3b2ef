/- What is proved: the evaluator's appends, maps and all operations together do what the model's do. Conditions: none. -/
import Derived.Test.YtdeejbnhlbddgaaGreatDoorWD
import Derived.MapKept
set_option linter.unusedVariables false
set_option linter.unusedSimpArgs false
set_option linter.unusedSectionVars false
namespace Go.Eng
set_option autoImplicit false
variable [Deep] [Env]
section
variable {P:Program} {ρ:Ren} {h h':H} {w:World} {v:AV} {ts:Array TypeId} {ty t el:TypeId} {us:Array Value} {x y:AV} {u u':Value} {size bytes:Nat} {ag:Bool} {i:TypeInfo} {zu:Value}
theorem cell_heap {w':World} (hh:w'.heap=w.heap) (ad:Addr):w'.cell? ad=w.cell? ad:=by unfold World.cell?;rw[hh]
theorem first_row {b off len m sz:Nat} {cap:Cp} {ro:Bool} {cs:T AV} (hr:HR ρ h w) (hx:VR ρ (.slice b off len cap) u) (hb:hget h b=.live ro sz cs) (hml:m≤len) (hfit:off+m*size≤sz) :
    ∃olds:List Value,VL ρ ((List.range (m*size)).map fun j=>cget cs (off+j)) olds∧(∀z∈olds,z.oneCell'=true)∧olds.length=m*size ∧
      ∀w':World,w'.heap=w.heap→(Builtin.firstCells size m u).run P w'=.ok ⟨olds⟩ w':=by
  obtain⟨B,o,N,c,ad,he,rfl,hlc,had,hcap⟩:=VR_slice.1 hx
  obtain⟨olds,h1,h2,h3,h4,h5⟩:=load_row (P:=P) hr he hb hfit
  refine⟨olds,h2,h3,h4,fun w' hw=>?_⟩
  rcases had with rfl|hc
  · exact run_firstCells_some (P:=P) w' size m _ len c olds h4 fun j z hz=>by rw[cell_heap hw];exact h5 j z hz
  · have hm:m=0:=by omega
    subst hm
    rw[Nat.zero_mul]at h4
    have:=List.eq_nil_of_length_eq_zero h4
    subst this
    exact run_firstCells_some (P:=P) w' size 0 _ len c [] (by simp) (by simp)
structure Ap (P:Program) (ts:Array TypeId) (us:Array Value) (t el:TypeId) (size bytes:Nat) (ag:Bool) (i:TypeInfo) (zu u u':Value):Prop where
  hund:P.underlying t=some (.slice el)
  hsize:tyOf P el=some (size,bytes,ag)
  h1:P.info? el=some i
  h2:i.zero=some zu
  ht:ts[0]?=some t
  hu:us[0]?=some u
  hu':us[1]?=some u'
  hb0:bytes≠0
  hs0:size≠0
  hzs:zu.cells.size=size
  hz1:∀z∈zu.cells.toList,z.oneCell'=true
theorem new_rowT {l:List AV} {cs:T AV} {vs rest:List Value} {e:TypeId} (hr:HR ρ h w) (hn:ρ h.nx=none) (hm:h.nx<mostBlocks) (hv:VL ρ l vs) (ho:∀u∈vs,u.oneCell'=true)
    (hcs:∀i,i<l.length→l[i]?=some (cget cs i)) :
    St ρ (ρ.add h.nx (w.heap.size,0,vs.length+rest.length)) h ⟨h.nx+1,trSet Deep.d h.nx h.m (.live false l.length cs)⟩ w { w with heap:=w.heap.push (.cells ⟨vs++rest⟩ e) }:=by
  have hlen:=hv.length
  refine St.push hr hn hm ⟨⟨vs++rest⟩,e,(0,0),?_,by simp,by omega,fun _=>.inl rfl,fun i hi=>?_⟩ trivial
  · simp
  · obtain⟨u,hu,hvu⟩:=hv.get i _ (hcs i hi)
    refine⟨u,?_,VR.mono (Ren.le_add _ hn) _ _ hvu,ho u (List.mem_of_getElem? hu)⟩
    have hlt:=(List.getElem?_eq_some_iff.1 hu).1
    show(⟨vs++rest⟩:Array Value)[0+i]?=some u
    rw[Nat.zero_add,←Array.getElem?_toList,List.getElem?_append_left hlt];exact hu
theorem blkOf_cells (l:List AV):∀i,i<l.length→l[i]?=some (cget (csetsD l .e 0) i):=fun i hi=>by
  rw[cget_csets,if_pos (by omega),Nat.sub_zero,List.getD_eq_getElem?_getD,List.getElem?_eq_getElem hi];rfl
theorem grow_ok {cs':T AV} {base:Option Addr} {len c n:Nat} {lo l:List AV} {olds vs:List Value} (A:Ap P ts us t el size bytes ag i zu (.slice base len c) u') (S:Src P w ts zu size u' n vs) (hr:HR ρ h w) (hn:ρ h.nx=none) (hm:h.nx<mostBlocks)
    (hb:(len+n)*bytes≤140737488355328) (hv:VL ρ l vs) (ho:∀z∈vs,z.oneCell'=true) (hl:l.length=n*size) (hvo:VL ρ lo olds) (hoo:∀z∈olds,z.oneCell'=true) (hlo:lo.length=len*size)
    (hold:∀w':World,w'.heap=w.heap→(Builtin.firstCells size len (.slice base len c)).run P w'=.ok ⟨olds⟩ w') (hfit:c<len+n) (hz:n≠0)
    (hcs:∀i,i<(lo++l).length→(lo++l)[i]?=some (cget cs' i)) :
    VOK P ρ h w (Builtin.append_ ts ty us) (.slice h.nx 0 (len+n) (.un size)) ⟨h.nx+1,trSet Deep.d h.nx h.m (.live false (lo++l).length cs')⟩:=by
  have hrun:=run_append_grow (ty:=ty) S A.hund A.hsize A.h1 A.h2 A.ht A.hu A.hu' hb A.hb0 A.hs0 A.hzs hold hfit hz
  have hge:=grownCap_ge w (len+n) c el
  have st:=new_rowT (e:=el) (rest:=repU (grownCap w (len+n) c el-(len+n)) zu.cells) (St.drew hr).hr hn hm (hvo.append hv) (fun z hz=>(List.mem_append.1 hz).elim (hoo z) (ho z)) hcs
  refine⟨_,_,_,hrun,VR_slice.2 ⟨w.heap.size,0,_,grownCap w (len+n) c el,⟨w.heap.size,0,none⟩,Ren.add_same _ _ _,rfl,hge,.inl rfl,?_⟩,(St.drew hr).trans st⟩
  show 0+0+grownCap w (len+n) c el*size=_
  have e1:=hvo.length
  have e2:=hv.length
  rw[List.length_append,repU_length,A.hzs,e1,e2,hl,hlo,←Nat.add_mul,←Nat.add_mul]
  rw[show len+n+(grownCap w (len+n) c el-(len+n))=grownCap w (len+n) c el by omega,Nat.zero_add]
theorem appendCells_ok {n:Nat} {l:List AV} {vs:List Value} (A:Ap P ts us t el size bytes ag i zu u u') (S:Src P w ts zu size u' n vs) (hr:HR ρ h w) (hn:ρ h.nx=none) (hx:VR ρ x u) (hv:VL ρ l vs) (ho:∀z∈vs,z.oneCell'=true)
    (hl:l.length=n*size) (e:appendCells size bytes x n l h=.val v h'):VOK P ρ h w (Builtin.append_ ts ty us) v h':=by
  unfold appendCells at e
  rcases asSl_val e with ⟨hq,e⟩|⟨b,off,len,cap,hq,e⟩<;>rw[hq]at hx
  · obtain rfl:=VR_nilslice.1 hx
    cases hn0:Nat.beq n 0 with
    |true =>
      obtain rfl:n=0:=beq_true.1 hn0
      rw[hn0,ifB_true]at e
      cases e
      exact .same hr (run_append_nil0 S A.hund A.hsize A.h1 A.ht A.hu A.hu') (VR_nilslice.2 rfl)
    |false =>
      have hn0':=beq_false.1 hn0
      rw[hn0,ifB_false]at e
      obtain⟨hroom,e⟩:=ifB_t e
      obtain⟨hm,e⟩:=newBlk_val e
      cases e
      have:=grow_ok (ty:=ty) (lo:=[]) (olds:=[]) A S hr hn hm (by rw[Nat.zero_add];exact okRoom_iff.1 hroom) hv ho hl VL.nil (by simp) (by simp) (fun w' _=>by simp [Builtin.firstCells]) (by omega) hn0' (blkOf_cells _)
      rw[Nat.zero_add]at this
      exact this
  · obtain⟨hroom,e⟩:=ifB_t e
    have hroom:=okRoom_iff.1 hroom
    have hroomn:n*bytes≤140737488355328:=Nat.le_trans (Nat.mul_le_mul_right _ (Nat.le_add_left ..)) hroom
    obtain⟨B,o,N,c,ad,he,hue,hlc,had,hcap⟩:=VR_slice.1 hx
    subst hue
    cases hn0:Nat.beq n 0 with
    |true =>
      obtain rfl:n=0:=beq_true.1 hn0
      rw[hn0,ifB_true]at e
      cases e
      have hvs:vs=[]:=List.eq_nil_of_length_eq_zero (by rw[hv.length,hl,Nat.zero_mul])
      subst hvs
      exact .same hr (run_append_in S A.hund A.hsize A.h1 A.h2 A.ht A.hu A.hu' hroomn A.hb0 A.hzs (by omega) (by simp [storeCells])) hx
    |false =>
      have hn0':=beq_false.1 hn0
      rw[hn0,ifB_false]at e
      have inn:∀{cap':Cp} {other:RV},len+n≤c→CapOk cap' (o+off) c N→(∀ro sz cs,hget h b=.live ro sz cs→off+len*size+n*size≤sz∨other≠.val v h') →
          apIn b off len size n cap' l h other=.val v h'→(VOK P ρ h w (Builtin.append_ ts ty us) v h'):=by
        intro cap' other hfit hcap' hoth e
        unfold apIn at e
        obtain⟨ro,sz,cs,hb,e⟩:=withB_val e
        obtain⟨hro,e⟩:=ifB_f e
        subst hro
        have hfit2:off+len*size+n*size≤sz:=by
          rcases hoth _ _ _ hb with h|h
          · exact h
          · cases hq2:Nat.ble (Nat.add (Nat.add off (Nat.mul len size)) (Nat.mul n size)) sz with
            |true=>exact ble_true.1 hq2
            |false=>rw[hq2,ifB_false]at e;exact absurd e h
        rw[ble_true.2 (show Nat.add (Nat.add off (Nat.mul len size)) (Nat.mul n size)≤sz from hfit2),ifB_true,forceN_eq,csets_eq,setB_eq]at e
        cases e
        have had:ad=⟨B,o+off,none⟩:=had.resolve_right (by omega)
        subst had
        obtain⟨w',k1,k2⟩:=store_row (P:=P) (off:=off+len*size) hr he hb (by rw[hl];exact hfit2) hv ho (.inl rfl)
        refine⟨_,ρ,w',run_append_in S A.hund A.hsize A.h1 A.h2 A.ht A.hu A.hu' hroomn A.hb0 A.hzs hfit (by rw[Addr.add_none,Nat.add_assoc];exact k1),VR_slice.2 ⟨B,o,N,c,_,he,rfl,hfit,.inl rfl,hcap'⟩,k2⟩
      cases cap with
      |kn c' =>
        obtain rfl:c=c':=hcap
        have e:ifB (Nat.ble (Nat.add len n) c) (apIn b off len size n (.kn c) l h (.fail 39)) (apNew b off len size n l h)=.val v h':=e
        cases hfit:Nat.ble (Nat.add len n) c with
        |true =>
          rw[hfit,ifB_true]at e
          exact inn (cap':=.kn c) (ble_true.1 hfit) rfl (fun _ _ _ _=>.inr (by intro x;cases x)) e
        |false =>
          rw[hfit,ifB_false]at e
          have hfit':c<len+n:=Nat.lt_of_not_le fun hh=>by rw[ble_true.2 (show Nat.add len n≤c from hh)]at hfit;cases hfit
          unfold apNew at e
          obtain⟨ro,sz,cs,hb,e⟩:=withB_val e
          obtain⟨hfo,e⟩:=ifB_t e
          rw[cgets_eq,forceN_eq,lapp_eq]at e
          obtain⟨hm,e⟩:=newBlk_val e
          cases e
          obtain⟨olds,q1,q2,q3,q4⟩:=first_row (P:=P) (size:=size) hr hx hb (Nat.le_refl _) (ble_true.1 hfo)
          exact grow_ok A S hr hn hm hroom hv ho hl q1 q2 (by simp) q4 hfit' hn0' (blkOf_cells _)
      |un es =>
        have hcap:(o+off)+c*es=N:=hcap
        have e:ifB (Nat.beq es size) (apIn b off len size n (.un size) l h (apMove b off len size n l h)) (.fail 39)=.val v h':=e
        obtain⟨hes,e⟩:=ifB_t e
        obtain rfl:=beq_true.1 hes
        have hsp:0<es:=Nat.pos_of_ne_zero A.hs0
        have e0:=e
        unfold apIn at e
        obtain⟨ro,sz,cs,hb,e⟩:=withB_val e
        obtain⟨hro,e⟩:=ifB_f e
        subst hro
        obtain⟨cc,te,fz,l1,l2,l3,l4,l5⟩:=hr.live he hb
        cases hfi:Nat.ble (Nat.add (Nat.add off (Nat.mul len es)) (Nat.mul n es)) sz with
        |true =>
          have hfi:off+len*es+n*es≤sz:=ble_true.1 hfi
          have hfit:len+n≤c:=Nat.le_of_mul_le_mul_right (by rw[Nat.add_mul];omega) hsp
          exact inn (cap':=.un es) hfit hcap (fun ro sz' cs' hb'=>.inl (by rw[hb]at hb';cases hb';exact hfi)) e0
        |false =>
          rw[hfi,ifB_false]at e
          unfold apMove at e
          obtain⟨ro2,sz2,cs2,hb2,e⟩:=withB_val e
          rw[hb]at hb2
          cases hb2
          rw[ifB_false]at e
          obtain⟨hend,e⟩:=ifB_t e
          have hend:off+len*es≤sz:=ble_true.1 hend
          obtain⟨olds,q1,q2,q3,q4⟩:=first_row (P:=P) (size:=es) hr hx hb (Nat.le_refl _) hend
          have key:∃cs',(∀i,i<(((List.range (len*es)).map fun j=>cget cs (off+j))++l).length→(((List.range (len*es)).map fun j=>cget cs (off+j))++l)[i]?=some (cget cs' i)) ∧
              (setB h b .dead fun h=>newB h (.live false ((len+n)*es) cs') fun b' h=>.val (.slice b' 0 (len+n) (.un es)) h)=.val v h':=by
            rw[forceN_eq,forceN_eq]at e
            dsimp only at e
            rw[ifB_eq]at e
            split at e
            · rename_i h0
              rw[csets_eq]at e
              refine⟨_,?_,e⟩
              obtain rfl:off=0:=beq_true.1 h0
              intro i hi
              rw[cget_csets,show Nat.mul len es=len*es from rfl]
              have hlr:((List.range (len*es)).map fun j=>cget cs (0+j)).length=len*es:=by simp
              rw[List.length_append,hlr]at hi
              by_cases hi2:i<len*es
              · rw[List.getElem?_append_left (by rw[hlr];exact hi2),if_neg (by omega)]
                simp [hi2]
              · rw[List.getElem?_append_right (by rw[hlr];omega),hlr,if_pos (by omega),List.getD_eq_getElem?_getD,List.getElem?_eq_getElem (by omega)]
                rfl
            · rw[cgets_eq,lapp_eq,csets_eq]at e
              exact⟨_,blkOf_cells _,e⟩
          obtain⟨cs',hcs,e⟩:=key
          rw[setB_eq]at e
          obtain⟨hm,e⟩:=newB_val e
          cases e
          have hll:(((List.range (len*es)).map fun j=>cget cs (off+j))++l).length=(len+n)*es:=by
            rw[List.length_append,hl,Nat.add_mul];simp
          by_cases hfit:len+n≤c
          · have had:ad=⟨B,o+off,none⟩:=had.resolve_right (by omega)
            subst had
            have hlv:=hv.length
            have hcn:(len+n)*es≤c*es:=Nat.mul_le_mul_right _ hfit
            have hroomN:o+off+len*es+vs.length≤cc.size:=by rw[hlv,hl,l2];rw[Nat.add_mul]at hcn;omega
            have hBh:=(Array.getElem?_eq_some_iff.1 l1).1
            have hst:=run_storeRow (P:=P) B te fz vs (o+off+len*es) 0 cc w l1 (by simpa using hroomN) (fun j hj hh=>by have:=l4 rfl;rw[l2]at hj;omega) ho
            rw[Nat.add_zero]at hst
            have st:=St.kill (x:=.live false ((len+n)*es) cs') (o2:=o+off) (obj:=.cells (spl cc (o+off+len*es) vs) te fz) hr he (by rw[hb];trivial) hn hm ?_ trivial
            · refine⟨_,_,_,run_append_in S A.hund A.hsize A.h1 A.h2 A.ht A.hu A.hu' hroomn A.hb0 A.hzs hfit (by rw[Addr.add_none];exact hst),VR_slice.2 ⟨B,o+off,N,c,_,Ren.add_same _ _ _,rfl,hfit,.inl rfl,hcap⟩,st⟩
            · refine⟨spl cc (o+off+len*es) vs,te,fz,Array.getElem?_setIfInBounds_self_of_lt hBh,by rw[spl_size _ _ _ hroomN];exact l2,by rw[Nat.add_mul]at hcn ⊢;omega,fun _=>l4 rfl,fun i hi=>?_⟩
              have hci:=hcs i (by rw[hll];exact hi)
              rw[spl_get _ _ _ hroomN]
              have hlr:((List.range (len*es)).map fun j=>cget cs (off+j)).length=len*es:=by simp
              by_cases hi2:i<len*es
              · rw[if_neg (by omega)]
                rw[List.getElem?_append_left (by rw[hlr];exact hi2)]at hci
                simp [hi2]at hci
                obtain⟨z,z1,z2,z3⟩:=l5 (off+i) (by omega)
                refine⟨z,by rw[Nat.add_assoc];exact z1,?_,z3⟩
                rw[←hci]
                exact VR.mono (Ren.le_add _ hn) _ _ z2
              · rw[Nat.add_mul]at hi
                rw[if_pos (by omega)]
                rw[List.getElem?_append_right (by rw[hlr];omega),hlr]at hci
                obtain⟨z,z1,z2⟩:=hv.get _ _ hci
                exact⟨z,by rw[show o+off+i-(o+off+len*es)=i-len*es by omega];exact z1,VR.mono (Ren.le_add _ hn) _ _ z2,ho z (List.mem_of_getElem? z1)⟩
          · have sd:=St.drop hr he
            obtain⟨u1,ρ1,w1,k1,k2,k3⟩:=grow_ok (ty:=ty) (h:=⟨h.nx,trSet Deep.d b h.m .dead⟩) A S sd.hr hn hm hroom hv ho hl q1 q2 (by simp) q4 (by omega) hn0' hcs
            rw[hll]at k3
            exact⟨u1,ρ1,w1,k1,k2,sd.trans k3⟩
end
end Go.Eng
namespace Go.Eng
set_option autoImplicit false
variable [Deep] [Env]
section
variable {P:Program} {ρ:Ren} {h h':H} {w:World} {v:AV} {ts:Array TypeId} {ty t t2:TypeId} {us:Array Value} {x y:AV} {u u':Value}
theorem isSeqT_und {t:TypeId} (h:isSeqT P t=true):∃d,P.underlying t=some d∧(d=.string∨∃e,d=.slice e):=by
  unfold isSeqT at h
  cases htd:tdOf P t<;>rw[htd]at h<;>first|(cases h;done)|skip
  · exact⟨_,td_str htd,.inl rfl⟩
  · exact⟨_,(td_slice htd).1,.inr ⟨_,rfl⟩⟩
theorem append_ok (hr:HR ρ h w) (hn:ρ h.nx=none) (ht:ts[0]?=some t) (ht2:ts[1]?=some t2) (hu:us[0]?=some u) (hu':us[1]?=some u') (hx:VR ρ x u) (hy:VR ρ y u') (e:(appendA P t t2).f x y h=.val v h') :
    VOK P ρ h w (Builtin.append_ ts ty us) v h':=by
  unfold appendA at e
  cases htd:tdOf P t<;>rw[htd]at e<;>first|exact(fail_val e).elim|skip
  case slice el size bytes =>
    obtain⟨hund,ag,hsize⟩:=td_slice htd
    dsimp only at e
    cases hsb:Nat.beq (Nat.mul size bytes) 0 with
    |true=>rw[hsb]at e;exact(fail_val e).elim
    |false =>
      have hsb':size*bytes≠0:=beq_false.1 hsb
      rw[hsb,ifB_false]at e
      cases hzt:zeroT P el with
      |none=>rw[hzt]at e;exact(fail_val e).elim
      |some z =>
        rw[hzt]at e
        dsimp only at e
        obtain⟨i,zu,h1,h2,h3,h4,h5⟩:=zero_rel ρ hzt
        obtain⟨q1,q2⟩:=cells_rel h3 (cellsA_of h4)
        obtain⟨ie,de,g1,_,g3,_⟩:=tyOf_some hsize
        rw[h1]at g1
        cases g1
        have A:Ap P ts us t el size bytes ag i zu u u':=⟨hund,hsize,h1,h2,ht,hu,hu',fun hh=>hsb' (by rw[hh,Nat.mul_zero]),fun hh=>hsb' (by rw[hh,Nat.zero_mul]),by rw[h5,g3],q2⟩
        cases hi:isIntT P t2 with
        |true =>
          rw[hi,ifB_true]at e
          obtain⟨k,hk⟩:=isIntT_und hi
          have e:apZeros size bytes z x y h=.val v h':=e
          unfold apZeros at e
          obtain⟨kd,n,hq,hnn,e⟩:=intIdx_val e
          obtain⟨hroom,e⟩:=ifB_t e
          rw[forceL_eq]at e
          rw[hq]at hy
          obtain⟨_,hy'⟩:=VR_int.1 hy
          rw[sgn_nneg hnn]at hy'
          have hlen:(lrep n (cellsA z)).length=n*size:=by
            have:=(VL_rep q1 n).length
            rw[repU_length,h5,g3]at this
            exact this.symm
          exact appendCells_ok A (.inr ⟨t2,k,kd,ht2,hk,hy',rfl⟩) hr hn hx (VL_rep q1 n) (one_rep q2 n) hlen e
        |false =>
          rw[hi,ifB_false]at e
          cases hs:isSeqT P t2 with
          |false=>rw[hs]at e;exact(fail_val e).elim
          |true =>
            rw[hs,ifB_true]at e
            obtain⟨d,hd,hd2⟩:=isSeqT_und hs
            have e:apSrc size bytes x y h=.val v h':=e
            unfold apSrc at e
            cases y with
            |str n s =>
              obtain⟨bs,rfl,rfl,rfl⟩:=VR_str.1 hy
              have e:ifB (Nat.beq size 1) (forceL (byteCells bs.data.toList.length (codesL bs.data.toList)) fun l=>appendCells size bytes x bs.data.toList.length l h) (.fail 40)=.val v h':=e
              obtain⟨h1s,e⟩:=ifB_t e
              obtain rfl:=beq_true.1 h1s
              rw[forceL_eq,byteCells_eq]at e
              refine appendCells_ok A (vs:=bs.data.toList.map fun b=>Value.int .u8 b.toNat) (.inl ⟨t2,d,ht2,hd,hd2,?_,fun w' _=>?_⟩) hr hn hx (VL_bytes ρ _) (by intro z hz;obtain⟨b,_,rfl⟩:=List.mem_map.1 hz;rfl) (by simp) e
              · simp [Builtin.lenOf]
              · rw[run_firstStr,List.take_length]
            |nilslice =>
              obtain rfl:=VR_nilslice.1 hy
              have e:appendCells size bytes x 0 [] h=.val v h':=e
              exact appendCells_ok A (vs:=[]) (.inl ⟨t2,d,ht2,hd,hd2,by simp [Builtin.lenOf],fun w' _=>by simp [Builtin.firstCells]⟩) hr hn hx VL.nil (by simp) (by simp) e
            |slice b off len cap =>
              have e:ifB (Nat.beq len 0) (appendCells size bytes x 0 [] h) (withB h b (fun _ sz cs=>ifB (Nat.ble (Nat.add off (Nat.mul len size)) sz) (cgets cs (Nat.mul len size) off fun new=>appendCells size bytes x len new h) (.fail 40)))=.val v h':=e
              cases hl0:Nat.beq len 0 with
              |true =>
                rw[hl0,ifB_true]at e
                obtain rfl:=beq_true.1 hl0
                obtain⟨B,o,N,c,ad,he,rfl,_⟩:=VR_slice.1 hy
                exact appendCells_ok A (vs:=[]) (.inl ⟨t2,d,ht2,hd,hd2,by simp [Builtin.lenOf],fun w' _=>run_firstCells_some (P:=P) w' size 0 _ 0 c [] (by simp) (by simp)⟩) hr hn hx VL.nil (by simp) (by simp) e
              |false =>
              rw[hl0,ifB_false]at e
              obtain⟨ro,sz,cs,hb,e⟩:=withB_val e
              obtain⟨hfit,e⟩:=ifB_t e
              rw[cgets_eq]at e
              obtain⟨olds,r1,r2,r3,r4⟩:=first_row (P:=P) (size:=size) hr hy hb (Nat.le_refl _) (ble_true.1 hfit)
              obtain⟨B,o,N,c,ad,he,rfl,_⟩:=VR_slice.1 hy
              exact appendCells_ok A (.inl ⟨t2,d,ht2,hd,hd2,by simp [Builtin.lenOf],r4⟩) hr hn hx r1 r2 (by simp) e
            |_=>exact(fail_val e).elim
end
end Go.Eng
namespace Go.Eng
set_option autoImplicit false
variable [Deep] [Env]
section
variable {P:Program} {ρ:Ren} {h h':H} {w:World} {v:AV} {t kt:TypeId} {x y k:AV} {u u' ku:Value}
def KeyT (d:TypeDesc):Prop:=match d with|.bool=>True|.int _=>True|.string=>True|_=>False
theorem run_checkKey' {d:TypeDesc} (hd:P.underlying kt=some d) (hk:KeyT d) (em:Bool) (n:Nat) (u:Value):(Instr.checkKey em (n+1) kt u).run P w=.ok () w:=by
  unfold Instr.checkKey
  simp only[Sem.run_bind,run_underlying hd,Result.andThen_ok]
  cases d<;>first|exact hk.elim|(cases u<;>simp)
theorem keyQ_und {q:Q} {x y:AV} {b:Bool} (hq:(keyQ P kt).f=q) (e:q x y=some b):∃d,P.underlying kt=some d∧KeyT d∧∀{ρ:Ren} {u u':Value},VR ρ x u→VR ρ y u'→Instr.sameNow d u u'=some b:=by
  subst hq
  unfold keyQ at e
  cases htd:tdOf P kt<;>rw[htd]at e<;>first|(cases e;done)|skip
  case bool =>
    refine⟨_,td_bool htd,trivial,fun{ρ u u'} hx hy=>?_⟩
    have e:qBool x y=some b:=e
    cases x<;>first|(cases e;done)|skip
    cases y<;>first|(cases e;done)|skip
    cases e
    obtain rfl:=VR_bool.1 hx
    obtain rfl:=VR_bool.1 hy
    simp [Instr.sameNow,beqB_eq]
  case int kd =>
    refine⟨_,td_int htd,trivial,fun{ρ u u'} hx hy=>?_⟩
    have e:qInt x y=some b:=e
    cases x<;>first|(cases e;done)|skip
    case int =>
      cases y<;>first|(cases e;done)|skip
      rename_i k1 n1 k2 n2 _
      have e:ifB (keq k1 k2) (some (Nat.beq n1 n2)) none=some b:=e
      cases hk:keq k1 k2 with
      |false=>rw[hk]at e;cases e
      |true =>
        rw[hk]at e
        cases e
        obtain rfl:=(keq_iff k1 k2).1 hk
        obtain⟨l1,rfl⟩:=VR_int.1 hx
        obtain⟨l2,rfl⟩:=VR_int.1 hy
        simp only[Instr.sameNow,if_true]
        congr 1
        cases hb:Nat.beq n1 n2 with
        |true=>obtain rfl:=beq_true.1 hb;simp
        |false =>
          have:=beq_false.1 hb
          simp
          exact fun h=>this (sgn_inj l1 l2 h)
    case sym =>
      cases y<;>first|(cases e;done)|skip
      rename_i k1 n1 k2 n2 _
      have e2:ifB (keq k1 k2) (ifB (seEq n1 n2) (some true) none) none=some b:=e
      cases hk:keq k1 k2 with
      |false=>rw[hk]at e2;cases e2
      |true =>
        rw[hk]at e2
        obtain rfl:=(keq_iff k1 k2).1 hk
        cases hs:seEq n1 n2 with
        |false=>rw[hs]at e2;cases e2
        |true =>
          rw[hs]at e2
          cases e2
          obtain rfl:=seEq_sound n1 n2 hs
          obtain⟨l1,rfl⟩:=VR_sym.1 hx
          obtain⟨l2,rfl⟩:=VR_sym.1 hy
          simp [Instr.sameNow]
  case str =>
    refine⟨_,td_str htd,trivial,fun{ρ u u'} hx hy=>?_⟩
    have e:qStr x y=some b:=e
    cases x<;>first|(cases e;done)|skip
    cases y<;>first|(cases e;done)|skip
    cases e
    obtain⟨b1,rfl,rfl,rfl⟩:=VR_str.1 hx
    obtain⟨b2,rfl,rfl,rfl⟩:=VR_str.1 hy
    simp only[Instr.sameNow]
    rw[strEq_eq]
    congr 1
    rw[Bool.eq_iff_iff,MapKept.bytes_beq]
    constructor
    · rintro rfl;simp
    · intro h
      have:=eq_of_beq h
      cases b1;cases b2;simp at this;rw[this]
theorem isKeyT_und (h:isKeyT P kt=true):∃d,P.underlying kt=some d∧KeyT d:=by
  unfold isKeyT at h
  cases htd:tdOf P kt<;>rw[htd]at h<;>first|(cases h;done)|skip
  · exact⟨_,td_bool htd,trivial⟩
  · exact⟨_,td_int htd,trivial⟩
  · exact⟨_,td_str htd,trivial⟩
theorem MR_cons {e:AV×AV} {es:List (AV×AV)} {l:List MapEntry} (h:MR ρ (e::es) l):∃m r,l=m::r∧VR ρ e.1 m.key∧VR ρ e.2 m.val∧MR ρ es r:=by
  obtain⟨h1,h2⟩:=h
  cases l with
  |nil=>have:=h1.length;simp at this
  |cons m r =>
    simp only[List.map_cons]at h1 h2
    unfold VL at h1 h2
    obtain⟨u,r1,e1,a1,a2⟩:=h1
    obtain⟨u',r2,e2,b1,b2⟩:=h2
    cases e1
    cases e2
    exact⟨m,r,rfl,a1,b1,a2,b2⟩
theorem MR_nil {l:List MapEntry} (h:MR ρ [] l):l=[]:=by
  have:=h.1.length
  exact List.eq_nil_of_length_eq_zero (by simpa using this)
theorem mpFind_ok {d:TypeDesc} (hd:P.underlying kt=some d) (hk:VR ρ k ku) {f:AV→RV} {n:RV}:∀(es:List (AV×AV)) (l:List MapEntry) (i:Nat),MR ρ es l→mpFind (keyQ P kt).f k es f n=.val v h' →
    (∃j x m,Instr.findNow d ku l i=some (some (j,m))∧VR ρ x m∧f x=.val v h')∨(Instr.findNow d ku l i=some none∧n=.val v h')
  | [],l,i,hm,e=>by
    have hl:=MR_nil hm
    subst hl
    exact .inr ⟨rfl,e⟩
  |p::es,l,i,hm,e=>by
    obtain⟨m,r,rfl,a1,a2,a3⟩:=MR_cons hm
    have e:osome 49 ((keyQ P kt).f k p.1) (fun b=>ifB b (f p.2) (mpFind (keyQ P kt).f k es f n))=.val v h':=e
    obtain⟨b,hb,e⟩:=osome_val e
    obtain⟨d',hd',_,hs⟩:=keyQ_und rfl hb
    rw[hd]at hd'
    cases hd'
    have hs:=hs hk a1
    cases b with
    |true=>exact .inl ⟨i,p.2,m.val,by simp [Instr.findNow,hs],a2,e⟩
    |false =>
      have:=mpFind_ok hd hk es r (i+1) a3 e
      simpa [Instr.findNow,hs] using this
theorem lookup_ok {key el:TypeId} {z:AV} {zu:Value} {ok:Bool} (hr:HR ρ h w) (hund:P.underlying t=some (.map key el)) (hkt:isKeyT P key=true) (hz:VR ρ z zu) {i:TypeInfo} (h1:P.info? el=some i) (h2:i.zero=some zu) (hx:VR ρ x u) (hk:VR ρ k ku)
    (e:mapEs x h (fun es=>mpFind (keyQ P key).f k es (fun v=>ifB ok (.val (.tup [v,.bool true]) h) (.val v h)) (ifB ok (.val (.tup [z,.bool false]) h) (.val z h)))=.val v h') :
    VOK P ρ h w (Instr.lookup t u ku ok) v h':=by
  obtain⟨d,hd,hkd⟩:=isKeyT_und (P:=P) hkt
  have fin:∀{x1:AV} {u1:Value} {b:Bool},VR ρ x1 u1→(ifB ok (.val (.tup [x1,.bool b]) h) (.val x1 h):RV)=.val v h'→h'=h∧VR ρ v (if ok=true then .tuple #[u1,.bool b] else u1):=by
    intro x1 u1 b hv e
    cases ok with
    |true=>obtain⟨e1,e2⟩:=RV.val.inj (show RV.val (.tup [x1,.bool b]) h=.val v h' from e);exact⟨e2.symm,by rw[←e1];exact VR_tup.2 ⟨[u1,.bool b],rfl,.cons hv (.cons (VR_bool.2 rfl) .nil)⟩⟩
    |false=>obtain⟨e1,e2⟩:=RV.val.inj (show RV.val x1 h=.val v h' from e);exact⟨e2.symm,by rw[←e1];exact hv⟩
  rcases mapEs_val e with ⟨hq,e⟩|⟨b,es,hq,hb,e⟩<;>rw[hq]at hx
  · have hx:u=.map none:=by unfold VR at hx;exact hx
    subst hx
    obtain⟨rfl,hv⟩:=fin hz (show(ifB ok (.val (.tup [z,.bool false]) h) (.val z h):RV)=.val v h' from e)
    exact .same hr (by simp [Instr.lookup,run_underlying hund,run_checkKey' hd hkd,Instr.findKey,run_underlying hd,Instr.findNow,run_zero h1 h2]) hv
  · obtain⟨B,he,rfl⟩:=VR_map.1 hx
    obtain⟨l,clock,g1,g2⟩:=hr.map he hb
    rcases mpFind_ok hd hk es l.toList 0 g2 e with ⟨j,x1,m,f1,f2,f3⟩|⟨f1,f3⟩
    · obtain⟨rfl,hv⟩:=fin f2 f3
      exact .same hr (by simp [Instr.lookup,run_underlying hund,run_getObj_at g1,run_checkKey' hd hkd,Instr.findKey,run_underlying hd,f1]) hv
    · obtain⟨rfl,hv⟩:=fin hz f3
      exact .same hr (by simp [Instr.lookup,run_underlying hund,run_getObj_at g1,run_checkKey' hd hkd,Instr.findKey,run_underlying hd,f1,run_zero h1 h2]) hv
end
end Go.Eng
namespace Go.Eng
set_option autoImplicit false
variable [Deep] [Env]
section
variable {P:Program} {ρ:Ren} {h h':H} {w:World} {v:AV} {t kt:TypeId} {x y k:AV} {u u' ku vu:Value}
theorem MR.cons {e:AV×AV} {es:List (AV×AV)} {m:MapEntry} {l:List MapEntry} (h1:VR ρ e.1 m.key) (h2:VR ρ e.2 m.val) (h:MR ρ es l):MR ρ (e::es) (m::l):=⟨VL.cons h1 h.1,VL.cons h2 h.2⟩
theorem mpPut_ok {d:TypeDesc} (hd:P.underlying kt=some d) (hk:VR ρ k ku) (hv:VR ρ y vu):∀(es:List (AV×AV)) (c:List (AV×AV)→RV) (l:List MapEntry) (i:Nat),MR ρ es l→mpPut (keyQ P kt).f k y es c=.val v h' →
    (∃j m es',l[j]?=some m∧Instr.findNow d ku l i=some (some (i+j,m.val))∧Instr.sameNow d ku m.key=some true∧MR ρ es' (l.modify j fun e=>{ e with key:=ku,val:=vu })∧c es'=.val v h') ∨
    (∃es',Instr.findNow d ku l i=some none∧(∀m:MapEntry,m.key=ku→m.val=vu→MR ρ es' (l++[m]))∧c es'=.val v h')
  | [],c,l,i,hm,e=>by
    have hl:=MR_nil hm
    subst hl
    exact .inr ⟨_,rfl,fun m h1 h2=>MR.cons (by rw[h1];exact hk) (by rw[h2];exact hv) ⟨VL.nil,VL.nil⟩,e⟩
  |p::es,c,l,i,hm,e=>by
    obtain⟨m,r,rfl,a1,a2,a3⟩:=MR_cons hm
    have e:osome 49 ((keyQ P kt).f k p.1) (fun b=>ifB b (c ((k,y)::es)) (mpPut (keyQ P kt).f k y es fun r=>c (p::r)))=.val v h':=e
    obtain⟨b,hb,e⟩:=osome_val e
    obtain⟨d',hd',_,hs⟩:=keyQ_und rfl hb
    rw[hd]at hd'
    cases hd'
    have hs:=hs hk a1
    cases b with
    |true=>exact .inl ⟨0,m,_,rfl,by simp [Instr.findNow,hs],hs,by rw[List.modify_zero_cons];exact MR.cons hk hv a3,e⟩
    |false =>
      rcases mpPut_ok hd hk hv es (fun r=>c (p::r)) r (i+1) a3 e with ⟨j,m',es',f1,f2,f3,f4,f5⟩|⟨es',f1,f2,f3⟩
      · refine .inl ⟨j+1,m',_,by simpa using f1,?_,f3,?_,f5⟩
        · simp [Instr.findNow,hs,f2];omega
        · rw[List.modify_succ_cons];exact MR.cons a1 a2 f4
      · exact .inr ⟨_,by simp [Instr.findNow,hs,f1],fun m' q1 q2=>MR.cons a1 a2 (f2 m' q1 q2),f3⟩
theorem same_bits {d:TypeDesc} {n:Nat} (hs:Instr.sameNow d u u'=some true):Instr.sameBits n u' u=true:=by
  cases d<;>cases u<;>cases u'<;>simp_all [Instr.sameNow,Instr.sameBits]
  rename_i a b
  have hab:=(MapKept.bytes_beq a b).1 (by assumption)
  exact(MapKept.bytes_beq b a).2 hab.symm
theorem mapUpdate_ok {key el:TypeId} (hr:HR ρ h w) (hund:P.underlying t=some (.map key el)) (hkt:isKeyT P key=true) (hx:VR ρ x u) (hk:VR ρ k ku) (hv:VR ρ y vu)
    (e:asMap x (fun b=>mpk (hget h b) fun es=>mpPut (keyQ P key).f k y es fun es=>setB h b (.mp es) fun h=>.val und h)=.val v h') :
    v=und∧∃w',(Instr.mapUpdate t u ku vu).run P w=.ok () w'∧St ρ ρ h h' w w':=by
  obtain⟨d,hd,hkd⟩:=isKeyT_und (P:=P) hkt
  obtain⟨b,hq,e⟩:=asMap_val e
  rw[hq]at hx
  obtain⟨es,hb,e⟩:=mpk_val e
  obtain⟨B,he,rfl⟩:=VR_map.1 hx
  obtain⟨l,clock,g1,g2⟩:=hr.map he hb
  have hB:=(Array.getElem?_eq_some_iff.1 g1).1
  rcases mpPut_ok hd hk hv es _ l.toList 0 g2 e with ⟨j,m,es',f1,f2,f3,f4,f5⟩|⟨es',f1,f2,f5⟩
  · rw[setB_eq]at f5
    obtain⟨e1,e2⟩:=RV.val.inj f5
    refine⟨e1.symm,{ w with heap:=w.heap.setIfInBounds B (.map (l.modify j fun e=>{ e with key:=ku,val:=vu }) clock) },?_,?_⟩
    · have hj:l[j]?=some m:=by simpa using f1
      simp [Instr.mapUpdate,run_underlying hund,run_getObj_at g1,run_checkKey' hd hkd,Instr.findKey,run_underlying hd,f2,hj,Instr.keyThatStays,same_bits f3,MapKept.run_setObj_map _ g1]
    · rw[←e2]
      refine St.write hr he (by rw[hb];trivial) ⟨_,clock,Array.getElem?_setIfInBounds_self_of_lt hB,?_⟩ trivial
      simpa using f4
  · rw[setB_eq]at f5
    obtain⟨e1,e2⟩:=RV.val.inj f5
    refine⟨e1.symm,{ w with heap:=w.heap.setIfInBounds B (.map (l.push { key:=ku,val:=vu,born:=clock }) (clock+1)) },?_,?_⟩
    · simp [Instr.mapUpdate,run_underlying hund,run_getObj_at g1,run_checkKey' hd hkd,Instr.findKey,run_underlying hd,f1,MapKept.run_setObj_map _ g1]
    · rw[←e2]
      refine St.write hr he (by rw[hb];trivial) ⟨_,clock+1,Array.getElem?_setIfInBounds_self_of_lt hB,?_⟩ trivial
      have:=f2 { key:=ku,val:=vu,born:=clock } rfl rfl
      simpa using this
end
end Go.Eng
namespace Go.Eng
set_option autoImplicit false
variable [Deep] [Env]
section
variable {P:Program} {ρ:Ren} {h h':H} {w:World} {v:AV} {fr:Fr} {a:Act} {call:Caller} {t:TypeId}
theorem mkMap_ok {r:Option Operand} (hr:HR ρ h w) (hn:ρ h.nx=none) (e:(eMkMap P t r).f call fr h=.val v h'):VOK P ρ h w (Instr.makeMap t (r.map a.eval)) v h':=by
  cases r with
  |some x=>exact(fail_val e).elim
  |none =>
    obtain⟨hm,e⟩:=newB_val (show newB h (.mp []) (fun b h=>.val (.map b) h)=.val v h' from e)
    cases e
    have st:=St.push (x:=.mp []) (obj:=.map #[] 0) (o:=0) (N:=0) hr hn hm ⟨#[],0,by simp,VL.nil,VL.nil⟩ trivial
    refine⟨.map (some w.heap.size),_,_,by simp [Instr.makeMap],VR_map.2 ⟨w.heap.size,Ren.add_same _ _ _,rfl⟩,st⟩
theorem eLookup_ok {x i:Operand} {ok:Bool} (hr:HR ρ h w) (hx:Rel1 P ρ fr a x) (hi:Rel1 P ρ fr a i) (e:(eLookup P t x i ok).f call fr h=.val v h'):VOK P ρ h w (Instr.lookup t (a.eval x) (a.eval i) ok) v h':=by
  unfold eLookup at e
  cases htd:tdOf P t<;>rw[htd]at e<;>first|exact(fail_val e).elim|skip
  case map key el =>
    dsimp only at e
    cases hk:isKeyT P key with
    |false=>rw[hk]at e;exact(fail_val e).elim
    |true =>
      rw[hk,ifB_true]at e
      cases hz:zeroT P el with
      |none=>rw[hz]at e;exact(fail_val e).elim
      |some z =>
        rw[hz]at e
        obtain⟨j,u,h1,h2,h3,_,_⟩:=zero_rel ρ hz
        have e:=(forceV_eq (ov P fr i) _).symm.trans e
        exact lookup_ok hr (td_map htd) hk h3 h1 h2 hx hi e
theorem eMapUpdate_ok {m k x:Operand} (hr:HR ρ h w) (hm:Rel1 P ρ fr a m) (hk:Rel1 P ρ fr a k) (hx:Rel1 P ρ fr a x) (e:(eMapUpdate P t m k x).f call fr h=.val v h') :
    OpOK P ρ h w (do Instr.mapUpdate t (a.eval m) (a.eval k) (a.eval x);pure .skip) v h':=by
  unfold eMapUpdate at e
  cases htd:tdOf P t<;>rw[htd]at e<;>first|exact(fail_val e).elim|skip
  case map key el =>
    dsimp only at e
    cases hkt:isKeyT P key with
    |false=>rw[hkt]at e;exact(fail_val e).elim
    |true =>
      rw[hkt,ifB_true]at e
      have e:=(forceV_eq (ov P fr k) _).symm.trans e
      have e:=(forceV_eq (ov P fr x) _).symm.trans e
      obtain⟨rfl,w',h1,h2⟩:=mapUpdate_ok hr (td_map htd) hkt hm hk hx e
      exact⟨.skip,undef,ρ,w',by simp [h1],.inr ⟨rfl,rfl⟩,VR_und,h2⟩
end
end Go.Eng
namespace Go.Eng
set_option autoImplicit false
variable [Deep] [Env]
section
variable {P:Program} {ρ:Ren} {h h':H} {w:World} {v:AV} {n:Nat} {fr:Fr} {a:Act} {call:Caller}
def isFnCall (op:Op):Bool:=match op with|.call c=>(match c.callee with|.builtin _=>false|_=>true)|_=>false
theorem evOp_okR {o:Oper} (hc:isFnCall o.op=false) (hr:HR ρ h w) (hn:ρ h.nx=none) (RR:∀x∈o.op.operands.toList,goodO P x=true→Rel1 P ρ fr a x) (e:(evOp P o.op).f call fr h=.val v h'):OpOK P ρ h w (execOp a.eval o) v h':=by
  unfold evOp at e
  cases hgd:lall (goodO P) o.op.operands.toList with
  |false=>rw[hgd]at e;exact(fail_val e).elim
  |true =>
    rw[hgd,ifB_true]at e
    have good:=(lall_iff _ _).1 hgd
    have R:∀x∈o.op.operands.toList,Rel1 P ρ fr a x:=fun x hx=>RR x hx (good x hx)
    unfold execOp
    cases hop:o.op<;>rw[hop]at e R hc<;>first|exact(fail_val e).elim|skip
    case move x=>exact move_ok hr (R x (by simp [Op.operands])) e
    case assign x=>exact move_ok hr (R x (by simp [Op.operands])) e
    case pick c x y=>exact pick_ok hr (R c (by simp [Op.operands])) (R x (by simp [Op.operands])) (R y (by simp [Op.operands])) e
    case alloc t=>exact .ofV (alloc_ok hr hn e)
    case box t x=>exact .ofV (box_ok hr hn (R x (by simp [Op.operands])) e)
    case load t x =>
      obtain⟨rfl,u,h1,h2⟩:=loadA_ok hr (R x (by simp [Op.operands])) e
      exact .ofV (.same hr h1 h2)
    case store t x y=>exact storeAt_ok hr (R x (by simp [Op.operands])) (R y (by simp [Op.operands])) e
    case convert src dst x=>exact .ofV (conv_op_ok hr hn (R x (by simp [Op.operands])) e)
    case makeInterface t x=>exact .ofV (iface_ok hr (R x (by simp [Op.operands])) e)
    case makeSlice t l c=>exact .ofV (makeSlice_ok hr hn (R l (by simp [Op.operands])) (R c (by simp [Op.operands])) e)
    case fieldAddr s x f=>exact .ofV (fieldAddr_ok hr (R x (by simp [Op.operands])) e)
    case field s x f=>exact .ofV (field_ok hr (R x (by simp [Op.operands])) e)
    case indexAddr s x f=>exact .ofV (indexAddr_ok hr (R x (by simp [Op.operands])) (R f (by simp [Op.operands])) e)
    case index s x f=>exact .ofV (index_ok hr (R x (by simp [Op.operands])) (R f (by simp [Op.operands])) e)
    case extract x f=>exact .ofV (extract_ok hr (R x (by simp [Op.operands])) e)
    case makeMap t r=>exact .ofV (mkMap_ok hr hn e)
    case lookup t x k ok=>exact .ofV (eLookup_ok hr (R x (by simp [Op.operands])) (R k (by simp [Op.operands])) e)
    case mapUpdate t m k x=>exact eMapUpdate_ok hr (R m (by simp [Op.operands])) (R k (by simp [Op.operands])) (R x (by simp [Op.operands])) e
    case build t parts=>exact .ofV (build_ok hr (fun p hp=>R p.2 (by simp [Op.operands];exact⟨p.1,by simpa using hp⟩)) e)
    case buildSlice t l parts=>exact .ofV (buildSlice_ok hr hn (fun p hp=>R p.2 (by simp [Op.operands];exact⟨p.1,by simpa using hp⟩)) e)
    case makeFunc f x y=>exact .ofV (mkFunc_ok hr (fun p hp=>R p (by simp [Op.operands];exact .inl (by simpa using hp))) (fun p hp=>R p (by simp [Op.operands];exact .inr (by simpa using hp))) e)
    case unOp op t x =>
      obtain⟨rfl,r,h1,h2⟩:=un_ok (P:=P) (w:=w) (R x (by simp [Op.operands])) e
      exact .ofV (.same hr h1 h2)
    case slice t x lo hi mx =>
      have e:(ifB (noHi hi mx) (eFail 26) ⟨fun _ fr h=>(sliceA P t).f ((operandR P x).f fr) ((ogetO P lo).f fr) ((ogetO P hi).f fr) ((ogetO P mx).f fr) h⟩:E).f call fr h=.val v h':=e
      cases hno:noHi hi mx with
      |true=>rw[hno]at e;exact(fail_val e).elim
      |false =>
        rw[hno,ifB_false]at e
        have orr:∀(q:Option Operand),(∀y,q=some y→Rel1 P ρ fr a y)→OR ρ ((ogetO P q).f fr) (q.map a.eval):=by
          intro q hq
          cases q with
          |none=>trivial
          |some y=>exact hq y rfl
        exact .ofV (slice_ok hr (R x (by simp [Op.operands])) (orr lo fun y hy=>R y (by simp [Op.operands,hy])) (orr hi fun y hy=>R y (by simp [Op.operands,hy])) (orr mx fun y hy=>R y (by simp [Op.operands,hy]))
          (by intro hh; cases hi with
              |some y=>simp at hh
              |none=>cases mx with
                |none=>rfl
                |some y=>exact absurd hno (by simp [noHi])) e)
    case binOp op t x y cf =>
      obtain⟨rfl,r,h1,h2⟩:=bin_ok (P:=P) (w:=w) (R x (by simp [Op.operands])) (R y (by simp [Op.operands])) x y
        (by intro hh; rw [ifB_eq] at hh; cases hx : isConstO x with
            |true=>exact .inl rfl
            |false=>rw[hx]at hh;exact .inr (by simpa using hh)) e
      exact .ofV (.same hr h1 h2)
    case nilCheck x =>
      have hx:=R x (by simp [Op.operands])
      obtain⟨rfl,rfl,hh⟩:=nilChk_ok hx e
      rcases hh with ⟨b,o,hh⟩|⟨f,p,q,hh⟩
      · have hx':=hx
        unfold Rel1 at hx'
        rw[hh]at hx'
        obtain⟨B,o',N,he,hu⟩:=VR_ptr.1 hx'
        refine⟨.value (a.eval x),a.eval x,ρ,w,?_,.inl rfl,hx,St.refl hr⟩
        simp [hu]
      · have hx':=hx
        unfold Rel1 at hx'
        rw[hh]at hx'
        obtain⟨p',q',hu,_⟩:=VR_func.1 hx'
        refine⟨.value (a.eval x),a.eval x,ρ,w,?_,.inl rfl,hx,St.refl hr⟩
        simp [hu]
    case call c =>
      have e:(eCall P c).f call fr h=.val v h':=e
      unfold eCall at e
      cases hcc:c.callee with
      |value f=>rw[isFnCall,hcc]at hc;cases hc
      |invoke r m=>rw[isFnCall,hcc]at hc;cases hc
      |builtin b =>
        rw[hcc]at e
        dsimp only at e
        have R:∀x∈c.args.toList,Rel1 P ρ fr a x:=fun x hx=>R x (by simpa [Op.operands,Call.operands,hcc] using hx)
        simp only[resolve,hcc,invoke,pure_bind]
        unfold cBuiltin at e
        split at e
        · rename_i x t ts h1 h2
          have hu:(c.args.map a.eval)[0]?=some (a.eval x):=by rw[←Array.getElem?_toList,Array.toList_map,h1];rfl
          have ht:c.argTypes[0]?=some t:=by rw[←Array.getElem?_toList,h2];rfl
          have hx:Rel1 P ρ fr a x:=R x (by rw[h1];simp)
          cases b<;>first|exact(fail_val e).elim|skip
          case len=>exact .ofV (len_ok hr ht hu hx e)
          case cap=>exact .ofV (cap_ok hr ht hu hx e)
          case clear=>exact .ofV (clear_ok hr ht hu hx e)
        · rename_i x y t t2 ts h1 h2
          have hu:(c.args.map a.eval)[0]?=some (a.eval x):=by rw[←Array.getElem?_toList,Array.toList_map,h1];rfl
          have hu':(c.args.map a.eval)[1]?=some (a.eval y):=by rw[←Array.getElem?_toList,Array.toList_map,h1];rfl
          have ht:c.argTypes[0]?=some t:=by rw[←Array.getElem?_toList,h2];rfl
          have ht2:c.argTypes[1]?=some t2:=by rw[←Array.getElem?_toList,h2];rfl
          have hx:Rel1 P ρ fr a x:=R x (by rw[h1];simp)
          have hy:Rel1 P ρ fr a y:=R y (by rw[h1];simp)
          cases b<;>first|exact(fail_val e).elim|skip
          case append=>exact .ofV (append_ok hr hn ht ht2 hu hu' hx hy e)
          case copy=>exact .ofV (copy_ok hr ht hu hu' hx hy e)
          case min=>exact .ofV (min_ok hr (by rw[Array.toList_map,h1];rfl) hx hy e)
        · exact(fail_val e).elim
end
end Go.Eng
namespace Go.Eng
set_option autoImplicit false
variable [Deep] [Env]
structure Fresh (ρ:Ren) (h:H):Prop where
  none:∀b,h.nx≤b→ρ b=.none
  clean:Clean h
theorem Fresh.step {ρ ρ':Ren} {h h':H} {w w':World} (hf:Fresh ρ h) (st:St ρ ρ' h h' w w'):Fresh ρ' h':=by
  refine⟨fun b hb=>?_,st.clean hf.clean⟩
  cases hq:ρ' b with
  |none=>rfl
  |some x =>
    rcases st.new b x hq with h1|⟨_,h2⟩
    · have:=hf.none b (Nat.le_trans st.nx hb);rw[this]at h1;cases h1
    · omega
def CallOK (P:Program) (call:Caller):Prop:=∀f args h v h',call.f f args h=.val v h'→∀(ρ:Ren) (w:World) (us:List Value),HR ρ h w→GR P ρ→Fresh ρ h→VL ρ args us →
  (callFunc f ⟨us⟩).run P w=.ok (.enter f ⟨us⟩) w∧Calls P f ⟨us⟩ w fun e w'=>∃u ρ',e=.returned u∧VR ρ' v u∧St ρ ρ' h h' w w'
section
variable {P:Program} {ρ:Ren} {h h':H} {w:World} {v:AV} {n:Nat} {fr:Fr} {a:Act} {call:Caller} {K:Act→World→Prop} {Q:Exit→Act→World→Prop}
theorem cGo_val {fv:AV} {l:List AV} (e:cGo fv call l h=.val v h'):∃f p q,fv=.func f p q∧call.f f (p++(l++q)) h=.val v h':=by
  cases fv<;>first|exact(fail_val e).elim|skip
  rename_i f p q
  have e:forceL (lapp p (lapp l q)) (fun l=>call.f f l h)=.val v h':=e
  rw[forceL_eq,lapp_eq,lapp_eq]at e
  exact⟨f,p,q,rfl,e⟩
theorem op_wp1 {o:Oper} (hc:isFnCall o.op=false) (hr:HR ρ h w) (hn:ρ h.nx=none) (RR:∀x∈o.op.operands.toList,goodO P x=true→Rel1 P ρ fr a x) (e:(evOp P o.op).f call fr h=.val v h')
    (k:∀u ρ' w',VR ρ' v u→St ρ ρ' h h' w w'→K (a.put o.dst u) w'):o.wp P a w K Q:=by
  obtain⟨nx,u,ρ',w',h1,h2,h3,h4⟩:=evOp_okR hc hr hn RR e
  unfold Oper.wp
  rw[h1]
  rcases h2 with rfl|⟨rfl,rfl⟩
  · exact k _ _ _ h3 h4
  · exact k _ _ _ h3 h4
theorem op_wpR {o:Oper} (C:CallOK P call) (hr:HR ρ h w) (hn:Fresh ρ h) (RR:∀x∈o.op.operands.toList,goodO P x=true→Rel1 P ρ fr a x) (hg:GR P ρ) (e:(evOp P o.op).f call fr h=.val v h')
    (k:∀u ρ' w',VR ρ' v u→St ρ ρ' h h' w w'→K (a.put o.dst u) w'):o.wp P a w K Q:=by
  cases hc:isFnCall o.op with
  |false=>exact op_wp1 hc hr (hn.none _ (Nat.le_refl _)) RR e k
  |true =>
    unfold evOp at e
    cases hgd:lall (goodO P) o.op.operands.toList with
    |false=>rw[hgd]at e;exact(fail_val e).elim
    |true =>
      rw[hgd,ifB_true]at e
      have good:=(lall_iff _ _).1 hgd
      have R:∀x∈o.op.operands.toList,Rel1 P ρ fr a x:=fun x hx=>RR x hx (good x hx)
      cases hop:o.op<;>rw[hop]at e R hc<;>first|(cases hc;done)|skip
      case call c =>
        have e:(eCall P c).f call fr h=.val v h':=e
        unfold eCall at e
        cases hcc:c.callee with
        |builtin b=>rw[isFnCall,hcc]at hc;cases hc
        |invoke r m=>rw[hcc]at e;exact(fail_val e).elim
        |value f =>
          rw[hcc]at e
          have e:(ogets P c.args.toList).f fr (fun l=>cGo (ov P fr f) call l h)=.val v h':=e
          have e:=ogets_val fr _ _ e
          obtain⟨fn,p,q,hq,e⟩:=cGo_val e
          have Rf:Rel1 P ρ fr a f:=R f (by simp [Op.operands,Call.operands,hcc])
          have Ra:∀x∈c.args.toList,Rel1 P ρ fr a x:=fun x hx=>R x (by simp [Op.operands,Call.operands,hcc];exact .inr (by simpa using hx))
          unfold Rel1 at Rf
          rw[hq]at Rf
          obtain⟨p',q',hfe,hp,hq'⟩:=VR_func.1 Rf
          obtain⟨h1,h2⟩:=C fn _ h v h' e ρ w (p'++(c.args.toList.map a.eval++q')) hr hg hn (hp.append ((VL.ofMap _ Ra).append hq'))
          unfold Oper.wp
          have hrun:(execOp a.eval o).run P w=.ok (.enter fn ⟨p'++(c.args.toList.map a.eval++q')⟩) w:=by
            rw[←h1]
            unfold execOp
            rw[hop]
            have:(⟨p'++(c.args.toList.map a.eval++q')⟩:Array Value)=⟨p'⟩++c.args.map a.eval++⟨q'⟩:=by apply Array.ext';simp
            rw[this]
            simp [resolve,hcc,hfe,Deferred.ofValue,invoke]
          rw[hrun,Oper.upon_enter]
          refine h2.mono fun en w' hh=>?_
          obtain⟨u,ρ',rfl,k1,k2⟩:=hh
          exact k u ρ' w' k1 k2
theorem op_wp {o:Oper} (C:CallOK P call) (hr:HR ρ h w) (hn:Fresh ρ h) (hf:FR ρ n fr a) (hg:GR P ρ) (e:(evOp P o.op).f call fr h=.val v h')
    (k:∀u ρ' w',VR ρ' v u→St ρ ρ' h h' w w'→K (a.put o.dst u) w'):o.wp P a w K Q :=
  op_wpR C hr hn (fun x _ hx=>operand_rel hf hg x hx) hg e k
end
end Go.Eng
