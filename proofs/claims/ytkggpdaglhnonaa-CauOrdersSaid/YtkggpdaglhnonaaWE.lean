/- What is proved: the evaluator's appends, maps and all operations together do what the model's do. Conditions: none. -/
import Derived.Test.YtkggpdaglhnonaaWD
import Derived.MapKept
set_option linter.unusedVariables false
set_option linter.unusedSimpArgs false
set_option linter.unusedSectionVars false
namespace Go.Eng
set_option autoImplicit false
variable [Deep] [Env]
section
variable {P:Program} {ρ:Ren} {h h':H} {w:World} {v:AV} {ts:Array TypeId} {ty t el:TypeId} {us:Array Value} {x y:AV} {u u':Value} {size bytes:Nat} {ag:Bool} {i:TypeInfo} {zu:Value}
theorem zsf {w':World} (hh:w'.heap=w.heap) (ad:Addr):w'.cell? ad=w.cell? ad:=by unfold World.cell?;rw[hh]
theorem zip {b off len m sz:Nat} {cap:Cp} {ro:Bool} {cs:T AV} (hr:HR ρ h w) (hx:VR ρ (.slice b off len cap) u) (hb:hget h b=.live ro sz cs) (hml:m≤len) (hfit:off+m*size≤sz) :
    ∃olds:List Value,VL ρ ((List.range (m*size)).map fun j=>cget cs (off+j)) olds∧(∀z∈olds,z.oneCell'=true)∧olds.length=m*size ∧
      ∀w':World,w'.heap=w.heap→(Builtin.firstCells size m u).run P w'=.ok ⟨olds⟩ w':=by
  obtain⟨B,o,N,c,ad,he,rfl,hlc,had,hcap⟩:=zaN.1 hx
  obtain⟨olds,h1,h2,h3,h4,h5⟩:=zkj (P:=P) hr he hb hfit
  refine⟨olds,h2,h3,h4,fun w' hw=>?_⟩
  rcases had with rfl|hc
  · exact run_firstCells_some (P:=P) w' size m _ len c olds h4 fun j z hz=>by rw[zsf hw];exact h5 j z hz
  · have hm:m=0:=by omega
    subst hm
    rw[Nat.zero_mul]at h4
    have:=List.eq_nil_of_length_eq_zero h4
    subst this
    exact run_firstCells_some (P:=P) w' size 0 _ len c [] (by simp) (by simp)
structure Ap (P:Program) (ts:Array TypeId) (us:Array Value) (t el:TypeId) (size bytes:Nat) (ag:Bool) (i:TypeInfo) (zu u u':Value):Prop where
  hund:P.underlying t=some (.slice el)
  hsize:zcj P el=some (size,bytes,ag)
  h1:P.info? el=some i
  h2:i.zero=some zu
  ht:ts[0]?=some t
  hu:us[0]?=some u
  hu':us[1]?=some u'
  hb0:bytes≠0
  hs0:size≠0
  hzs:zu.cells.size=size
  hz1:∀z∈zu.cells.toList,z.oneCell'=true
theorem ztD {l:List AV} {cs:T AV} {vs rest:List Value} {e:TypeId} (hr:HR ρ h w) (hn:ρ h.nx=none) (hm:h.nx<zae) (hv:VL ρ l vs) (ho:∀u∈vs,u.oneCell'=true)
    (hcs:∀i,i<l.length→l[i]?=some (cget cs i)) :
    St ρ (ρ.add h.nx (w.heap.size,0,vs.length+rest.length)) h ⟨h.nx+1,zaK Deep.d h.nx h.m (.live false l.length cs)⟩ w { w with heap:=w.heap.push (.cells ⟨vs++rest⟩ e) }:=by
  have hlen:=hv.length
  refine St.push hr hn hm ⟨⟨vs++rest⟩,e,(0,0),?_,by simp,by omega,fun _=>.inl rfl,fun i hi=>?_⟩ trivial
  · simp
  · obtain⟨u,hu,hvu⟩:=hv.get i _ (hcs i hi)
    refine⟨u,?_,VR.mono (Ren.le_add _ hn) _ _ hvu,ho u (List.mem_of_getElem? hu)⟩
    have hlt:=(List.getElem?_eq_some_iff.1 hu).1
    show(⟨vs++rest⟩:Array Value)[0+i]?=some u
    rw[Nat.zero_add,←Array.getElem?_toList,List.getElem?_append_left hlt];exact hu
theorem zfR (l:List AV):∀i,i<l.length→l[i]?=some (cget (zcF l .e 0) i):=fun i hi=>by
  rw[zbF,if_pos (by omega),Nat.sub_zero,List.getD_eq_getElem?_getD,List.getElem?_eq_getElem hi];rfl
theorem zm5 {cs':T AV} {base:Option Addr} {len c n:Nat} {lo l:List AV} {olds vs:List Value} (A:Ap P ts us t el size bytes ag i zu (.slice base len c) u') (S:Src P w ts zu size u' n vs) (hr:HR ρ h w) (hn:ρ h.nx=none) (hm:h.nx<zae)
    (hb:(len+n)*bytes≤140737488355328) (hv:VL ρ l vs) (ho:∀z∈vs,z.oneCell'=true) (hl:l.length=n*size) (hvo:VL ρ lo olds) (hoo:∀z∈olds,z.oneCell'=true) (hlo:lo.length=len*size)
    (hold:∀w':World,w'.heap=w.heap→(Builtin.firstCells size len (.slice base len c)).run P w'=.ok ⟨olds⟩ w') (hfit:c<len+n) (hz:n≠0)
    (hcs:∀i,i<(lo++l).length→(lo++l)[i]?=some (cget cs' i)) :
    VOK P ρ h w (Builtin.append_ ts ty us) (.slice h.nx 0 (len+n) (.un size)) ⟨h.nx+1,zaK Deep.d h.nx h.m (.live false (lo++l).length cs')⟩:=by
  have hrun:=run_append_grow (ty:=ty) S A.hund A.hsize A.h1 A.h2 A.ht A.hu A.hu' hb A.hb0 A.hs0 A.hzs hold hfit hz
  have hge:=grownCap_ge w (len+n) c el
  have st:=ztD (e:=el) (rest:=zkU (grownCap w (len+n) c el-(len+n)) zu.cells) (St.drew hr).hr hn hm (hvo.append hv) (fun z hz=>(List.mem_append.1 hz).elim (hoo z) (ho z)) hcs
  refine⟨_,_,_,hrun,zaN.2 ⟨w.heap.size,0,_,grownCap w (len+n) c el,⟨w.heap.size,0,none⟩,Ren.add_same _ _ _,rfl,hge,.inl rfl,?_⟩,(St.drew hr).trans st⟩
  show 0+0+grownCap w (len+n) c el*size=_
  have e1:=hvo.length
  have e2:=hv.length
  rw[List.length_append,zcL,A.hzs,e1,e2,hl,hlo,←Nat.add_mul,←Nat.add_mul]
  rw[show len+n+(grownCap w (len+n) c el-(len+n))=grownCap w (len+n) c el by omega,Nat.zero_add]
theorem zci {n:Nat} {l:List AV} {vs:List Value} (A:Ap P ts us t el size bytes ag i zu u u') (S:Src P w ts zu size u' n vs) (hr:HR ρ h w) (hn:ρ h.nx=none) (hx:VR ρ x u) (hv:VL ρ l vs) (ho:∀z∈vs,z.oneCell'=true)
    (hl:l.length=n*size) (e:zaT size bytes x n l h=.val v h'):VOK P ρ h w (Builtin.append_ ts ty us) v h':=by
  unfold zaT at e
  rcases zcR e with ⟨hq,e⟩|⟨b,off,len,cap,hq,e⟩<;>rw[hq]at hx
  · obtain rfl:=zbd.1 hx
    cases hn0:Nat.beq n 0 with
    |true =>
      obtain rfl:n=0:=zai.1 hn0
      rw[hn0,zac]at e
      cases e
      exact .same hr (zhO S A.hund A.hsize A.h1 A.ht A.hu A.hu') (zbd.2 rfl)
    |false =>
      have hn0':=zav.1 hn0
      rw[hn0,zah]at e
      obtain⟨hroom,e⟩:=za8 e
      obtain⟨hm,e⟩:=zcr e
      cases e
      have:=zm5 (ty:=ty) (lo:=[]) (olds:=[]) A S hr hn hm (by rw[Nat.zero_add];exact zgC.1 hroom) hv ho hl VL.nil (by simp) (by simp) (fun w' _=>by simp [Builtin.firstCells]) (by omega) hn0' (zfR _)
      rw[Nat.zero_add]at this
      exact this
  · obtain⟨hroom,e⟩:=za8 e
    have hroom:=zgC.1 hroom
    have hroomn:n*bytes≤140737488355328:=Nat.le_trans (Nat.mul_le_mul_right _ (Nat.le_add_left ..)) hroom
    obtain⟨B,o,N,c,ad,he,hue,hlc,had,hcap⟩:=zaN.1 hx
    subst hue
    cases hn0:Nat.beq n 0 with
    |true =>
      obtain rfl:n=0:=zai.1 hn0
      rw[hn0,zac]at e
      cases e
      have hvs:vs=[]:=List.eq_nil_of_length_eq_zero (by rw[hv.length,hl,Nat.zero_mul])
      subst hvs
      exact .same hr (zeg S A.hund A.hsize A.h1 A.h2 A.ht A.hu A.hu' hroomn A.hb0 A.hzs (by omega) (by simp [storeCells])) hx
    |false =>
      have hn0':=zav.1 hn0
      rw[hn0,zah]at e
      have inn:∀{cap':Cp} {other:RV},len+n≤c→zxG cap' (o+off) c N→(∀ro sz cs,hget h b=.live ro sz cs→off+len*size+n*size≤sz∨other≠.val v h') →
          zuA b off len size n cap' l h other=.val v h'→(VOK P ρ h w (Builtin.append_ ts ty us) v h'):=by
        intro cap' other hfit hcap' hoth e
        unfold zuA at e
        obtain⟨ro,sz,cs,hb,e⟩:=zbe e
        obtain⟨hro,e⟩:=zgJ e
        subst hro
        have hfit2:off+len*size+n*size≤sz:=by
          rcases hoth _ _ _ hb with h|h
          · exact h
          · cases hq2:Nat.ble (Nat.add (Nat.add off (Nat.mul len size)) (Nat.mul n size)) sz with
            |true=>exact zad.1 hq2
            |false=>rw[hq2,zah]at e;exact absurd e h
        rw[zad.2 (show Nat.add (Nat.add off (Nat.mul len size)) (Nat.mul n size)≤sz from hfit2),zac,zak,zbi,zeI]at e
        cases e
        have had:ad=⟨B,o+off,none⟩:=had.resolve_right (by omega)
        subst had
        obtain⟨w',k1,k2⟩:=zf0 (P:=P) (off:=off+len*size) hr he hb (by rw[hl];exact hfit2) hv ho (.inl rfl)
        refine⟨_,ρ,w',zeg S A.hund A.hsize A.h1 A.h2 A.ht A.hu A.hu' hroomn A.hb0 A.hzs hfit (by rw[Addr.add_none,Nat.add_assoc];exact k1),zaN.2 ⟨B,o,N,c,_,he,rfl,hfit,.inl rfl,hcap'⟩,k2⟩
      cases cap with
      |kn c' =>
        obtain rfl:c=c':=hcap
        have e:ifB (Nat.ble (Nat.add len n) c) (zuA b off len size n (.kn c) l h (.fail 39)) (zuz b off len size n l h)=.val v h':=e
        cases hfit:Nat.ble (Nat.add len n) c with
        |true =>
          rw[hfit,zac]at e
          exact inn (cap':=.kn c) (zad.1 hfit) rfl (fun _ _ _ _=>.inr (by intro x;cases x)) e
        |false =>
          rw[hfit,zah]at e
          have hfit':c<len+n:=Nat.lt_of_not_le fun hh=>by rw[zad.2 (show Nat.add len n≤c from hh)]at hfit;cases hfit
          unfold zuz at e
          obtain⟨ro,sz,cs,hb,e⟩:=zbe e
          obtain⟨hfo,e⟩:=za8 e
          rw[zbL,zak,zcq]at e
          obtain⟨hm,e⟩:=zcr e
          cases e
          obtain⟨olds,q1,q2,q3,q4⟩:=zip (P:=P) (size:=size) hr hx hb (Nat.le_refl _) (zad.1 hfo)
          exact zm5 A S hr hn hm hroom hv ho hl q1 q2 (by simp) q4 hfit' hn0' (zfR _)
      |un es =>
        have hcap:(o+off)+c*es=N:=hcap
        have e:ifB (Nat.beq es size) (zuA b off len size n (.un size) l h (ziM b off len size n l h)) (.fail 39)=.val v h':=e
        obtain⟨hes,e⟩:=za8 e
        obtain rfl:=zai.1 hes
        have hsp:0<es:=Nat.pos_of_ne_zero A.hs0
        have e0:=e
        unfold zuA at e
        obtain⟨ro,sz,cs,hb,e⟩:=zbe e
        obtain⟨hro,e⟩:=zgJ e
        subst hro
        obtain⟨cc,te,fz,l1,l2,l3,l4,l5⟩:=hr.live he hb
        cases hfi:Nat.ble (Nat.add (Nat.add off (Nat.mul len es)) (Nat.mul n es)) sz with
        |true =>
          have hfi:off+len*es+n*es≤sz:=zad.1 hfi
          have hfit:len+n≤c:=Nat.le_of_mul_le_mul_right (by rw[Nat.add_mul];omega) hsp
          exact inn (cap':=.un es) hfit hcap (fun ro sz' cs' hb'=>.inl (by rw[hb]at hb';cases hb';exact hfi)) e0
        |false =>
          rw[hfi,zah]at e
          unfold ziM at e
          obtain⟨ro2,sz2,cs2,hb2,e⟩:=zbe e
          rw[hb]at hb2
          cases hb2
          rw[zah]at e
          obtain⟨hend,e⟩:=za8 e
          have hend:off+len*es≤sz:=zad.1 hend
          obtain⟨olds,q1,q2,q3,q4⟩:=zip (P:=P) (size:=es) hr hx hb (Nat.le_refl _) hend
          have key:∃cs',(∀i,i<(((List.range (len*es)).map fun j=>cget cs (off+j))++l).length→(((List.range (len*es)).map fun j=>cget cs (off+j))++l)[i]?=some (cget cs' i)) ∧
              (ziZ h b .dead fun h=>newB h (.live false ((len+n)*es) cs') fun b' h=>.val (.slice b' 0 (len+n) (.un es)) h)=.val v h':=by
            rw[zak,zak]at e
            dsimp only at e
            rw[zbz]at e
            split at e
            · rename_i h0
              rw[zbi]at e
              refine⟨_,?_,e⟩
              obtain rfl:off=0:=zai.1 h0
              intro i hi
              rw[zbF,show Nat.mul len es=len*es from rfl]
              have hlr:((List.range (len*es)).map fun j=>cget cs (0+j)).length=len*es:=by simp
              rw[List.length_append,hlr]at hi
              by_cases hi2:i<len*es
              · rw[List.getElem?_append_left (by rw[hlr];exact hi2),if_neg (by omega)]
                simp [hi2]
              · rw[List.getElem?_append_right (by rw[hlr];omega),hlr,if_pos (by omega),List.getD_eq_getElem?_getD,List.getElem?_eq_getElem (by omega)]
                rfl
            · rw[zbL,zcq,zbi]at e
              exact⟨_,zfR _,e⟩
          obtain⟨cs',hcs,e⟩:=key
          rw[zeI]at e
          obtain⟨hm,e⟩:=zhq e
          cases e
          have hll:(((List.range (len*es)).map fun j=>cget cs (off+j))++l).length=(len+n)*es:=by
            rw[List.length_append,hl,Nat.add_mul];simp
          by_cases hfit:len+n≤c
          · have had:ad=⟨B,o+off,none⟩:=had.resolve_right (by omega)
            subst had
            have hlv:=hv.length
            have hcn:(len+n)*es≤c*es:=Nat.mul_le_mul_right _ hfit
            have hroomN:o+off+len*es+vs.length≤cc.size:=by rw[hlv,hl,l2];rw[Nat.add_mul]at hcn;omega
            have hBh:=(Array.getElem?_eq_some_iff.1 l1).1
            have hst:=zeK (P:=P) B te fz vs (o+off+len*es) 0 cc w l1 (by simpa using hroomN) (fun j hj hh=>by have:=l4 rfl;rw[l2]at hj;omega) ho
            rw[Nat.add_zero]at hst
            have st:=St.kill (x:=.live false ((len+n)*es) cs') (o2:=o+off) (obj:=.cells (spl cc (o+off+len*es) vs) te fz) hr he (by rw[hb];trivial) hn hm ?_ trivial
            · refine⟨_,_,_,zeg S A.hund A.hsize A.h1 A.h2 A.ht A.hu A.hu' hroomn A.hb0 A.hzs hfit (by rw[Addr.add_none];exact hst),zaN.2 ⟨B,o+off,N,c,_,Ren.add_same _ _ _,rfl,hfit,.inl rfl,hcap⟩,st⟩
            · refine⟨spl cc (o+off+len*es) vs,te,fz,Array.getElem?_setIfInBounds_self_of_lt hBh,by rw[zjO _ _ _ hroomN];exact l2,by rw[Nat.add_mul]at hcn ⊢;omega,fun _=>l4 rfl,fun i hi=>?_⟩
              have hci:=hcs i (by rw[hll];exact hi)
              rw[zgx _ _ _ hroomN]
              have hlr:((List.range (len*es)).map fun j=>cget cs (off+j)).length=len*es:=by simp
              by_cases hi2:i<len*es
              · rw[if_neg (by omega)]
                rw[List.getElem?_append_left (by rw[hlr];exact hi2)]at hci
                simp [hi2]at hci
                obtain⟨z,z1,z2,z3⟩:=l5 (off+i) (by omega)
                refine⟨z,by rw[Nat.add_assoc];exact z1,?_,z3⟩
                rw[←hci]
                exact VR.mono (Ren.le_add _ hn) _ _ z2
              · rw[Nat.add_mul]at hi
                rw[if_pos (by omega)]
                rw[List.getElem?_append_right (by rw[hlr];omega),hlr]at hci
                obtain⟨z,z1,z2⟩:=hv.get _ _ hci
                exact⟨z,by rw[show o+off+i-(o+off+len*es)=i-len*es by omega];exact z1,VR.mono (Ren.le_add _ hn) _ _ z2,ho z (List.mem_of_getElem? z1)⟩
          · have sd:=St.drop hr he
            obtain⟨u1,ρ1,w1,k1,k2,k3⟩:=zm5 (ty:=ty) (h:=⟨h.nx,zaK Deep.d b h.m .dead⟩) A S sd.hr hn hm hroom hv ho hl q1 q2 (by simp) q4 (by omega) hn0' hcs
            rw[hll]at k3
            exact⟨u1,ρ1,w1,k1,k2,sd.trans k3⟩
end
end Go.Eng
namespace Go.Eng
set_option autoImplicit false
variable [Deep] [Env]
section
variable {P:Program} {ρ:Ren} {h h':H} {w:World} {v:AV} {ts:Array TypeId} {ty t t2:TypeId} {us:Array Value} {x y:AV} {u u':Value}
theorem zph {t:TypeId} (h:zjv P t=true):∃d,P.underlying t=some d∧(d=.string∨∃e,d=.slice e):=by
  unfold zjv at h
  cases htd:zaz P t<;>rw[htd]at h<;>first|(cases h;done)|skip
  · exact⟨_,zeH htd,.inl rfl⟩
  · exact⟨_,(zbu htd).1,.inr ⟨_,rfl⟩⟩
theorem zsx (hr:HR ρ h w) (hn:ρ h.nx=none) (ht:ts[0]?=some t) (ht2:ts[1]?=some t2) (hu:us[0]?=some u) (hu':us[1]?=some u') (hx:VR ρ x u) (hy:VR ρ y u') (e:(ze8 P t t2).f x y h=.val v h') :
    VOK P ρ h w (Builtin.append_ ts ty us) v h':=by
  unfold ze8 at e
  cases htd:zaz P t<;>rw[htd]at e<;>first|exact(zab e).elim|skip
  case slice el size bytes =>
    obtain⟨hund,ag,hsize⟩:=zbu htd
    dsimp only at e
    cases hsb:Nat.beq (Nat.mul size bytes) 0 with
    |true=>rw[hsb]at e;exact(zab e).elim
    |false =>
      have hsb':size*bytes≠0:=zav.1 hsb
      rw[hsb,zah]at e
      cases hzt:zaS P el with
      |none=>rw[hzt]at e;exact(zab e).elim
      |some z =>
        rw[hzt]at e
        dsimp only at e
        obtain⟨i,zu,h1,h2,h3,h4,h5⟩:=zec ρ hzt
        obtain⟨q1,q2⟩:=zcg h3 (zdp h4)
        obtain⟨ie,de,g1,_,g3,_⟩:=zbM hsize
        rw[h1]at g1
        cases g1
        have A:Ap P ts us t el size bytes ag i zu u u':=⟨hund,hsize,h1,h2,ht,hu,hu',fun hh=>hsb' (by rw[hh,Nat.mul_zero]),fun hh=>hsb' (by rw[hh,Nat.zero_mul]),by rw[h5,g3],q2⟩
        cases hi:zev P t2 with
        |true =>
          rw[hi,zac]at e
          obtain⟨k,hk⟩:=zjx hi
          have e:znn size bytes z x y h=.val v h':=e
          unfold znn at e
          obtain⟨kd,n,hq,hnn,e⟩:=zbk e
          obtain⟨hroom,e⟩:=za8 e
          rw[za3]at e
          rw[hq]at hy
          obtain⟨_,hy'⟩:=zbb.1 hy
          rw[zba hnn]at hy'
          have hlen:(lrep n (zaX z)).length=n*size:=by
            have:=(zjJ q1 n).length
            rw[zcL,h5,g3]at this
            exact this.symm
          exact zci A (.inr ⟨t2,k,kd,ht2,hk,hy',rfl⟩) hr hn hx (zjJ q1 n) (zj8 q2 n) hlen e
        |false =>
          rw[hi,zah]at e
          cases hs:zjv P t2 with
          |false=>rw[hs]at e;exact(zab e).elim
          |true =>
            rw[hs,zac]at e
            obtain⟨d,hd,hd2⟩:=zph hs
            have e:zuy size bytes x y h=.val v h':=e
            unfold zuy at e
            cases y with
            |str n s =>
              obtain⟨bs,rfl,rfl,rfl⟩:=VR_str.1 hy
              have e:ifB (Nat.beq size 1) (forceL (byteCells bs.data.toList.length (zaj bs.data.toList)) fun l=>zaT size bytes x bs.data.toList.length l h) (.fail 40)=.val v h':=e
              obtain⟨h1s,e⟩:=za8 e
              obtain rfl:=zai.1 h1s
              rw[za3,ze6]at e
              refine zci A (vs:=bs.data.toList.map fun b=>Value.int .u8 b.toNat) (.inl ⟨t2,d,ht2,hd,hd2,?_,fun w' _=>?_⟩) hr hn hx (zhz ρ _) (by intro z hz;obtain⟨b,_,rfl⟩:=List.mem_map.1 hz;rfl) (by simp) e
              · simp [Builtin.lenOf]
              · rw[zeL,List.take_length]
            |nilslice =>
              obtain rfl:=zbd.1 hy
              have e:zaT size bytes x 0 [] h=.val v h':=e
              exact zci A (vs:=[]) (.inl ⟨t2,d,ht2,hd,hd2,by simp [Builtin.lenOf],fun w' _=>by simp [Builtin.firstCells]⟩) hr hn hx VL.nil (by simp) (by simp) e
            |slice b off len cap =>
              have e:ifB (Nat.beq len 0) (zaT size bytes x 0 [] h) (zed h b (fun _ sz cs=>ifB (Nat.ble (Nat.add off (Nat.mul len size)) sz) (cgets cs (Nat.mul len size) off fun new=>zaT size bytes x len new h) (.fail 40)))=.val v h':=e
              cases hl0:Nat.beq len 0 with
              |true =>
                rw[hl0,zac]at e
                obtain rfl:=zai.1 hl0
                obtain⟨B,o,N,c,ad,he,rfl,_⟩:=zaN.1 hy
                exact zci A (vs:=[]) (.inl ⟨t2,d,ht2,hd,hd2,by simp [Builtin.lenOf],fun w' _=>run_firstCells_some (P:=P) w' size 0 _ 0 c [] (by simp) (by simp)⟩) hr hn hx VL.nil (by simp) (by simp) e
              |false =>
              rw[hl0,zah]at e
              obtain⟨ro,sz,cs,hb,e⟩:=zbe e
              obtain⟨hfit,e⟩:=za8 e
              rw[zbL]at e
              obtain⟨olds,r1,r2,r3,r4⟩:=zip (P:=P) (size:=size) hr hy hb (Nat.le_refl _) (zad.1 hfit)
              obtain⟨B,o,N,c,ad,he,rfl,_⟩:=zaN.1 hy
              exact zci A (.inl ⟨t2,d,ht2,hd,hd2,by simp [Builtin.lenOf],r4⟩) hr hn hx r1 r2 (by simp) e
            |_=>exact(zab e).elim
end
end Go.Eng
namespace Go.Eng
set_option autoImplicit false
variable [Deep] [Env]
section
variable {P:Program} {ρ:Ren} {h h':H} {w:World} {v:AV} {t kt:TypeId} {x y k:AV} {u u' ku:Value}
def KeyT (d:TypeDesc):Prop:=match d with|.bool=>True|.int _=>True|.string=>True|_=>False
theorem zcy {d:TypeDesc} (hd:P.underlying kt=some d) (hk:KeyT d) (em:Bool) (n:Nat) (u:Value):(Instr.checkKey em (n+1) kt u).run P w=.ok () w:=by
  unfold Instr.checkKey
  simp only[Sem.run_bind,run_underlying hd,Result.andThen_ok]
  cases d<;>first|exact hk.elim|(cases u<;>simp)
theorem zn8 {q:Q} {x y:AV} {b:Bool} (hq:(zkV P kt).f=q) (e:q x y=some b):∃d,P.underlying kt=some d∧KeyT d∧∀{ρ:Ren} {u u':Value},VR ρ x u→VR ρ y u'→Instr.sameNow d u u'=some b:=by
  subst hq
  unfold zkV at e
  cases htd:zaz P kt<;>rw[htd]at e<;>first|(cases e;done)|skip
  case bool =>
    refine⟨_,zjK htd,trivial,fun{ρ u u'} hx hy=>?_⟩
    have e:zoR x y=some b:=e
    cases x<;>first|(cases e;done)|skip
    cases y<;>first|(cases e;done)|skip
    cases e
    obtain rfl:=VR_bool.1 hx
    obtain rfl:=VR_bool.1 hy
    simp [Instr.sameNow,zgS]
  case int kd =>
    refine⟨_,zgY htd,trivial,fun{ρ u u'} hx hy=>?_⟩
    have e:qInt x y=some b:=e
    cases x<;>first|(cases e;done)|skip
    case int =>
      cases y<;>first|(cases e;done)|skip
      rename_i k1 n1 k2 n2 _
      have e:ifB (keq k1 k2) (some (Nat.beq n1 n2)) none=some b:=e
      cases hk:keq k1 k2 with
      |false=>rw[hk]at e;cases e
      |true =>
        rw[hk]at e
        cases e
        obtain rfl:=(za1 k1 k2).1 hk
        obtain⟨l1,rfl⟩:=zbb.1 hx
        obtain⟨l2,rfl⟩:=zbb.1 hy
        simp only[Instr.sameNow,if_true]
        congr 1
        cases hb:Nat.beq n1 n2 with
        |true=>obtain rfl:=zai.1 hb;simp
        |false =>
          have:=zav.1 hb
          simp
          exact fun h=>this (zjR l1 l2 h)
    case sym =>
      cases y<;>first|(cases e;done)|skip
      rename_i k1 n1 k2 n2 _
      have e2:ifB (keq k1 k2) (ifB (ziR n1 n2) (some true) none) none=some b:=e
      cases hk:keq k1 k2 with
      |false=>rw[hk]at e2;cases e2
      |true =>
        rw[hk]at e2
        obtain rfl:=(za1 k1 k2).1 hk
        cases hs:ziR n1 n2 with
        |false=>rw[hs]at e2;cases e2
        |true =>
          rw[hs]at e2
          cases e2
          obtain rfl:=zb6 n1 n2 hs
          obtain⟨l1,rfl⟩:=zc2.1 hx
          obtain⟨l2,rfl⟩:=zc2.1 hy
          simp [Instr.sameNow]
  case str =>
    refine⟨_,zeH htd,trivial,fun{ρ u u'} hx hy=>?_⟩
    have e:zhU x y=some b:=e
    cases x<;>first|(cases e;done)|skip
    cases y<;>first|(cases e;done)|skip
    cases e
    obtain⟨b1,rfl,rfl,rfl⟩:=VR_str.1 hx
    obtain⟨b2,rfl,rfl,rfl⟩:=VR_str.1 hy
    simp only[Instr.sameNow]
    rw[zjM]
    congr 1
    rw[Bool.eq_iff_iff,MapKept.bytes_beq]
    constructor
    · rintro rfl;simp
    · intro h
      have:=eq_of_beq h
      cases b1;cases b2;simp at this;rw[this]
theorem zjw (h:zeX P kt=true):∃d,P.underlying kt=some d∧KeyT d:=by
  unfold zeX at h
  cases htd:zaz P kt<;>rw[htd]at h<;>first|(cases h;done)|skip
  · exact⟨_,zjK htd,trivial⟩
  · exact⟨_,zgY htd,trivial⟩
  · exact⟨_,zeH htd,trivial⟩
theorem zsJ {e:AV×AV} {es:List (AV×AV)} {l:List MapEntry} (h:MR ρ (e::es) l):∃m r,l=m::r∧VR ρ e.1 m.key∧VR ρ e.2 m.val∧MR ρ es r:=by
  obtain⟨h1,h2⟩:=h
  cases l with
  |nil=>have:=h1.length;simp at this
  |cons m r =>
    simp only[List.map_cons]at h1 h2
    unfold VL at h1 h2
    obtain⟨u,r1,e1,a1,a2⟩:=h1
    obtain⟨u',r2,e2,b1,b2⟩:=h2
    cases e1
    cases e2
    exact⟨m,r,rfl,a1,b1,a2,b2⟩
theorem zvy {l:List MapEntry} (h:MR ρ [] l):l=[]:=by
  have:=h.1.length
  exact List.eq_nil_of_length_eq_zero (by simpa using this)
theorem zlz {d:TypeDesc} (hd:P.underlying kt=some d) (hk:VR ρ k ku) {f:AV→RV} {n:RV}:∀(es:List (AV×AV)) (l:List MapEntry) (i:Nat),MR ρ es l→zeS (zkV P kt).f k es f n=.val v h' →
    (∃j x m,Instr.findNow d ku l i=some (some (j,m))∧VR ρ x m∧f x=.val v h')∨(Instr.findNow d ku l i=some none∧n=.val v h')
  | [],l,i,hm,e=>by
    have hl:=zvy hm
    subst hl
    exact .inr ⟨rfl,e⟩
  |p::es,l,i,hm,e=>by
    obtain⟨m,r,rfl,a1,a2,a3⟩:=zsJ hm
    have e:osome 49 ((zkV P kt).f k p.1) (fun b=>ifB b (f p.2) (zeS (zkV P kt).f k es f n))=.val v h':=e
    obtain⟨b,hb,e⟩:=zcA e
    obtain⟨d',hd',_,hs⟩:=zn8 rfl hb
    rw[hd]at hd'
    cases hd'
    have hs:=hs hk a1
    cases b with
    |true=>exact .inl ⟨i,p.2,m.val,by simp [Instr.findNow,hs],a2,e⟩
    |false =>
      have:=zlz hd hk es r (i+1) a3 e
      simpa [Instr.findNow,hs] using this
theorem zre {key el:TypeId} {z:AV} {zu:Value} {ok:Bool} (hr:HR ρ h w) (hund:P.underlying t=some (.map key el)) (hkt:zeX P key=true) (hz:VR ρ z zu) {i:TypeInfo} (h1:P.info? el=some i) (h2:i.zero=some zu) (hx:VR ρ x u) (hk:VR ρ k ku)
    (e:zmT x h (fun es=>zeS (zkV P key).f k es (fun v=>ifB ok (.val (.tup [v,.bool true]) h) (.val v h)) (ifB ok (.val (.tup [z,.bool false]) h) (.val z h)))=.val v h') :
    VOK P ρ h w (Instr.lookup t u ku ok) v h':=by
  obtain⟨d,hd,hkd⟩:=zjw (P:=P) hkt
  have fin:∀{x1:AV} {u1:Value} {b:Bool},VR ρ x1 u1→(ifB ok (.val (.tup [x1,.bool b]) h) (.val x1 h):RV)=.val v h'→h'=h∧VR ρ v (if ok=true then .tuple #[u1,.bool b] else u1):=by
    intro x1 u1 b hv e
    cases ok with
    |true=>obtain⟨e1,e2⟩:=RV.val.inj (show RV.val (.tup [x1,.bool b]) h=.val v h' from e);exact⟨e2.symm,by rw[←e1];exact zoy.2 ⟨[u1,.bool b],rfl,.cons hv (.cons (VR_bool.2 rfl) .nil)⟩⟩
    |false=>obtain⟨e1,e2⟩:=RV.val.inj (show RV.val x1 h=.val v h' from e);exact⟨e2.symm,by rw[←e1];exact hv⟩
  rcases zgg e with ⟨hq,e⟩|⟨b,es,hq,hb,e⟩<;>rw[hq]at hx
  · have hx:u=.map none:=by unfold VR at hx;exact hx
    subst hx
    obtain⟨rfl,hv⟩:=fin hz (show(ifB ok (.val (.tup [z,.bool false]) h) (.val z h):RV)=.val v h' from e)
    exact .same hr (by simp [Instr.lookup,run_underlying hund,zcy hd hkd,Instr.findKey,run_underlying hd,Instr.findNow,zee h1 h2]) hv
  · obtain⟨B,he,rfl⟩:=zjI.1 hx
    obtain⟨l,clock,g1,g2⟩:=hr.map he hb
    rcases zlz hd hk es l.toList 0 g2 e with ⟨j,x1,m,f1,f2,f3⟩|⟨f1,f3⟩
    · obtain⟨rfl,hv⟩:=fin f2 f3
      exact .same hr (by simp [Instr.lookup,run_underlying hund,zcx g1,zcy hd hkd,Instr.findKey,run_underlying hd,f1]) hv
    · obtain⟨rfl,hv⟩:=fin hz f3
      exact .same hr (by simp [Instr.lookup,run_underlying hund,zcx g1,zcy hd hkd,Instr.findKey,run_underlying hd,f1,zee h1 h2]) hv
end
end Go.Eng
namespace Go.Eng
set_option autoImplicit false
variable [Deep] [Env]
section
variable {P:Program} {ρ:Ren} {h h':H} {w:World} {v:AV} {t kt:TypeId} {x y k:AV} {u u' ku vu:Value}
theorem MR.cons {e:AV×AV} {es:List (AV×AV)} {m:MapEntry} {l:List MapEntry} (h1:VR ρ e.1 m.key) (h2:VR ρ e.2 m.val) (h:MR ρ es l):MR ρ (e::es) (m::l):=⟨VL.cons h1 h.1,VL.cons h2 h.2⟩
theorem zn2 {d:TypeDesc} (hd:P.underlying kt=some d) (hk:VR ρ k ku) (hv:VR ρ y vu):∀(es:List (AV×AV)) (c:List (AV×AV)→RV) (l:List MapEntry) (i:Nat),MR ρ es l→zmS (zkV P kt).f k y es c=.val v h' →
    (∃j m es',l[j]?=some m∧Instr.findNow d ku l i=some (some (i+j,m.val))∧Instr.sameNow d ku m.key=some true∧MR ρ es' (l.modify j fun e=>{ e with key:=ku,val:=vu })∧c es'=.val v h') ∨
    (∃es',Instr.findNow d ku l i=some none∧(∀m:MapEntry,m.key=ku→m.val=vu→MR ρ es' (l++[m]))∧c es'=.val v h')
  | [],c,l,i,hm,e=>by
    have hl:=zvy hm
    subst hl
    exact .inr ⟨_,rfl,fun m h1 h2=>MR.cons (by rw[h1];exact hk) (by rw[h2];exact hv) ⟨VL.nil,VL.nil⟩,e⟩
  |p::es,c,l,i,hm,e=>by
    obtain⟨m,r,rfl,a1,a2,a3⟩:=zsJ hm
    have e:osome 49 ((zkV P kt).f k p.1) (fun b=>ifB b (c ((k,y)::es)) (zmS (zkV P kt).f k y es fun r=>c (p::r)))=.val v h':=e
    obtain⟨b,hb,e⟩:=zcA e
    obtain⟨d',hd',_,hs⟩:=zn8 rfl hb
    rw[hd]at hd'
    cases hd'
    have hs:=hs hk a1
    cases b with
    |true=>exact .inl ⟨0,m,_,rfl,by simp [Instr.findNow,hs],hs,by rw[List.modify_zero_cons];exact MR.cons hk hv a3,e⟩
    |false =>
      rcases zn2 hd hk hv es (fun r=>c (p::r)) r (i+1) a3 e with ⟨j,m',es',f1,f2,f3,f4,f5⟩|⟨es',f1,f2,f3⟩
      · refine .inl ⟨j+1,m',_,by simpa using f1,?_,f3,?_,f5⟩
        · simp [Instr.findNow,hs,f2];omega
        · rw[List.modify_succ_cons];exact MR.cons a1 a2 f4
      · exact .inr ⟨_,by simp [Instr.findNow,hs,f1],fun m' q1 q2=>MR.cons a1 a2 (f2 m' q1 q2),f3⟩
theorem zql {d:TypeDesc} {n:Nat} (hs:Instr.sameNow d u u'=some true):Instr.sameBits n u' u=true:=by
  cases d<;>cases u<;>cases u'<;>simp_all [Instr.sameNow,Instr.sameBits]
  rename_i a b
  have hab:=(MapKept.bytes_beq a b).1 (by assumption)
  exact(MapKept.bytes_beq b a).2 hab.symm
theorem zlB {key el:TypeId} (hr:HR ρ h w) (hund:P.underlying t=some (.map key el)) (hkt:zeX P key=true) (hx:VR ρ x u) (hk:VR ρ k ku) (hv:VR ρ y vu)
    (e:zxx x (fun b=>mpk (hget h b) fun es=>zmS (zkV P key).f k y es fun es=>ziZ h b (.mp es) fun h=>.val und h)=.val v h') :
    v=und∧∃w',(Instr.mapUpdate t u ku vu).run P w=.ok () w'∧St ρ ρ h h' w w':=by
  obtain⟨d,hd,hkd⟩:=zjw (P:=P) hkt
  obtain⟨b,hq,e⟩:=zss e
  rw[hq]at hx
  obtain⟨es,hb,e⟩:=zq2 e
  obtain⟨B,he,rfl⟩:=zjI.1 hx
  obtain⟨l,clock,g1,g2⟩:=hr.map he hb
  have hB:=(Array.getElem?_eq_some_iff.1 g1).1
  rcases zn2 hd hk hv es _ l.toList 0 g2 e with ⟨j,m,es',f1,f2,f3,f4,f5⟩|⟨es',f1,f2,f5⟩
  · rw[zeI]at f5
    obtain⟨e1,e2⟩:=RV.val.inj f5
    refine⟨e1.symm,{ w with heap:=w.heap.setIfInBounds B (.map (l.modify j fun e=>{ e with key:=ku,val:=vu }) clock) },?_,?_⟩
    · have hj:l[j]?=some m:=by simpa using f1
      simp [Instr.mapUpdate,run_underlying hund,zcx g1,zcy hd hkd,Instr.findKey,run_underlying hd,f2,hj,Instr.keyThatStays,zql f3,MapKept.run_setObj_map _ g1]
    · rw[←e2]
      refine St.write hr he (by rw[hb];trivial) ⟨_,clock,Array.getElem?_setIfInBounds_self_of_lt hB,?_⟩ trivial
      simpa using f4
  · rw[zeI]at f5
    obtain⟨e1,e2⟩:=RV.val.inj f5
    refine⟨e1.symm,{ w with heap:=w.heap.setIfInBounds B (.map (l.push { key:=ku,val:=vu,born:=clock }) (clock+1)) },?_,?_⟩
    · simp [Instr.mapUpdate,run_underlying hund,zcx g1,zcy hd hkd,Instr.findKey,run_underlying hd,f1,MapKept.run_setObj_map _ g1]
    · rw[←e2]
      refine St.write hr he (by rw[hb];trivial) ⟨_,clock+1,Array.getElem?_setIfInBounds_self_of_lt hB,?_⟩ trivial
      have:=f2 { key:=ku,val:=vu,born:=clock } rfl rfl
      simpa using this
end
end Go.Eng
namespace Go.Eng
set_option autoImplicit false
variable [Deep] [Env]
section
variable {P:Program} {ρ:Ren} {h h':H} {w:World} {v:AV} {fr:Fr} {a:Act} {call:Caller} {t:TypeId}
theorem ztJ {r:Option Operand} (hr:HR ρ h w) (hn:ρ h.nx=none) (e:(zrW P t r).f call fr h=.val v h'):VOK P ρ h w (Instr.makeMap t (r.map a.eval)) v h':=by
  cases r with
  |some x=>exact(zab e).elim
  |none =>
    obtain⟨hm,e⟩:=zhq (show newB h (.mp []) (fun b h=>.val (.map b) h)=.val v h' from e)
    cases e
    have st:=St.push (x:=.mp []) (obj:=.map #[] 0) (o:=0) (N:=0) hr hn hm ⟨#[],0,by simp,VL.nil,VL.nil⟩ trivial
    refine⟨.map (some w.heap.size),_,_,by simp [Instr.makeMap],zjI.2 ⟨w.heap.size,Ren.add_same _ _ _,rfl⟩,st⟩
theorem zpw {x i:Operand} {ok:Bool} (hr:HR ρ h w) (hx:zc0 P ρ fr a x) (hi:zc0 P ρ fr a i) (e:(ze3 P t x i ok).f call fr h=.val v h'):VOK P ρ h w (Instr.lookup t (a.eval x) (a.eval i) ok) v h':=by
  unfold ze3 at e
  cases htd:zaz P t<;>rw[htd]at e<;>first|exact(zab e).elim|skip
  case map key el =>
    dsimp only at e
    cases hk:zeX P key with
    |false=>rw[hk]at e;exact(zab e).elim
    |true =>
      rw[hk,zac]at e
      cases hz:zaS P el with
      |none=>rw[hz]at e;exact(zab e).elim
      |some z =>
        rw[hz]at e
        obtain⟨j,u,h1,h2,h3,_,_⟩:=zec ρ hz
        have e:=(zaP (ov P fr i) _).symm.trans e
        exact zre hr (zjc htd) hk h3 h1 h2 hx hi e
theorem zky {m k x:Operand} (hr:HR ρ h w) (hm:zc0 P ρ fr a m) (hk:zc0 P ρ fr a k) (hx:zc0 P ρ fr a x) (e:(zd5 P t m k x).f call fr h=.val v h') :
    zuG P ρ h w (do Instr.mapUpdate t (a.eval m) (a.eval k) (a.eval x);pure .skip) v h':=by
  unfold zd5 at e
  cases htd:zaz P t<;>rw[htd]at e<;>first|exact(zab e).elim|skip
  case map key el =>
    dsimp only at e
    cases hkt:zeX P key with
    |false=>rw[hkt]at e;exact(zab e).elim
    |true =>
      rw[hkt,zac]at e
      have e:=(zaP (ov P fr k) _).symm.trans e
      have e:=(zaP (ov P fr x) _).symm.trans e
      obtain⟨rfl,w',h1,h2⟩:=zlB hr (zjc htd) hkt hm hk hx e
      exact⟨.skip,undef,ρ,w',by simp [h1],.inr ⟨rfl,rfl⟩,zfx,h2⟩
end
end Go.Eng
namespace Go.Eng
set_option autoImplicit false
variable [Deep] [Env]
section
variable {P:Program} {ρ:Ren} {h h':H} {w:World} {v:AV} {n:Nat} {fr:Fr} {a:Act} {call:Caller}
def zdD (op:Op):Bool:=match op with|.call c=>(match c.callee with|.builtin _=>false|_=>true)|_=>false
theorem zt1 {o:Oper} (hc:zdD o.op=false) (hr:HR ρ h w) (hn:ρ h.nx=none) (RR:∀x∈o.op.operands.toList,ze0 P x=true→zc0 P ρ fr a x) (e:(zbY P o.op).f call fr h=.val v h'):zuG P ρ h w (execOp a.eval o) v h':=by
  unfold zbY at e
  cases hgd:lall (ze0 P) o.op.operands.toList with
  |false=>rw[hgd]at e;exact(zab e).elim
  |true =>
    rw[hgd,zac]at e
    have good:=(zhs _ _).1 hgd
    have R:∀x∈o.op.operands.toList,zc0 P ρ fr a x:=fun x hx=>RR x hx (good x hx)
    unfold execOp
    cases hop:o.op<;>rw[hop]at e R hc<;>first|exact(zab e).elim|skip
    case move x=>exact zq4 hr (R x (by simp [Op.operands])) e
    case assign x=>exact zq4 hr (R x (by simp [Op.operands])) e
    case pick c x y=>exact zwy hr (R c (by simp [Op.operands])) (R x (by simp [Op.operands])) (R y (by simp [Op.operands])) e
    case alloc t=>exact .ofV (zuD hr hn e)
    case box t x=>exact .ofV (box_ok hr hn (R x (by simp [Op.operands])) e)
    case load t x =>
      obtain⟨rfl,u,h1,h2⟩:=zn5 hr (R x (by simp [Op.operands])) e
      exact .ofV (.same hr h1 h2)
    case store t x y=>exact zoJ hr (R x (by simp [Op.operands])) (R y (by simp [Op.operands])) e
    case convert src dst x=>exact .ofV (zpx hr hn (R x (by simp [Op.operands])) e)
    case makeInterface t x=>exact .ofV (ztQ hr (R x (by simp [Op.operands])) e)
    case makeSlice t l c=>exact .ofV (zlC hr hn (R l (by simp [Op.operands])) (R c (by simp [Op.operands])) e)
    case fieldAddr s x f=>exact .ofV (zlQ hr (R x (by simp [Op.operands])) e)
    case field s x f=>exact .ofV (ztY hr (R x (by simp [Op.operands])) e)
    case indexAddr s x f=>exact .ofV (zlM hr (R x (by simp [Op.operands])) (R f (by simp [Op.operands])) e)
    case index s x f=>exact .ofV (ztO hr (R x (by simp [Op.operands])) (R f (by simp [Op.operands])) e)
    case extract x f=>exact .ofV (zpu hr (R x (by simp [Op.operands])) e)
    case makeMap t r=>exact .ofV (ztJ hr hn e)
    case lookup t x k ok=>exact .ofV (zpw hr (R x (by simp [Op.operands])) (R k (by simp [Op.operands])) e)
    case mapUpdate t m k x=>exact zky hr (R m (by simp [Op.operands])) (R k (by simp [Op.operands])) (R x (by simp [Op.operands])) e
    case build t parts=>exact .ofV (zup hr (fun p hp=>R p.2 (by simp [Op.operands];exact⟨p.1,by simpa using hp⟩)) e)
    case buildSlice t l parts=>exact .ofV (zkG hr hn (fun p hp=>R p.2 (by simp [Op.operands];exact⟨p.1,by simpa using hp⟩)) e)
    case makeFunc f x y=>exact .ofV (zq6 hr (fun p hp=>R p (by simp [Op.operands];exact .inl (by simpa using hp))) (fun p hp=>R p (by simp [Op.operands];exact .inr (by simpa using hp))) e)
    case unOp op t x =>
      obtain⟨rfl,r,h1,h2⟩:=un_ok (P:=P) (w:=w) (R x (by simp [Op.operands])) e
      exact .ofV (.same hr h1 h2)
    case slice t x lo hi mx =>
      have e:(ifB (noHi hi mx) (zao 26) ⟨fun _ fr h=>(sliceA P t).f ((zag P x).f fr) ((zlq P lo).f fr) ((zlq P hi).f fr) ((zlq P mx).f fr) h⟩:E).f call fr h=.val v h':=e
      cases hno:noHi hi mx with
      |true=>rw[hno]at e;exact(zab e).elim
      |false =>
        rw[hno,zah]at e
        have orr:∀(q:Option Operand),(∀y,q=some y→zc0 P ρ fr a y)→OR ρ ((zlq P q).f fr) (q.map a.eval):=by
          intro q hq
          cases q with
          |none=>trivial
          |some y=>exact hq y rfl
        exact .ofV (zta hr (R x (by simp [Op.operands])) (orr lo fun y hy=>R y (by simp [Op.operands,hy])) (orr hi fun y hy=>R y (by simp [Op.operands,hy])) (orr mx fun y hy=>R y (by simp [Op.operands,hy]))
          (by intro hh; cases hi with
              |some y=>simp at hh
              |none=>cases mx with
                |none=>rfl
                |some y=>exact absurd hno (by simp [noHi])) e)
    case binOp op t x y cf =>
      obtain⟨rfl,r,h1,h2⟩:=bin_ok (P:=P) (w:=w) (R x (by simp [Op.operands])) (R y (by simp [Op.operands])) x y
        (by intro hh; rw [zbz] at hh; cases hx : za6 x with
            |true=>exact .inl rfl
            |false=>rw[hx]at hh;exact .inr (by simpa using hh)) e
      exact .ofV (.same hr h1 h2)
    case nilCheck x =>
      have hx:=R x (by simp [Op.operands])
      obtain⟨rfl,rfl,hh⟩:=zq0 hx e
      rcases hh with ⟨b,o,hh⟩|⟨f,p,q,hh⟩
      · have hx':=hx
        unfold zc0 at hx'
        rw[hh]at hx'
        obtain⟨B,o',N,he,hu⟩:=zea.1 hx'
        refine⟨.value (a.eval x),a.eval x,ρ,w,?_,.inl rfl,hx,St.refl hr⟩
        simp [hu]
      · have hx':=hx
        unfold zc0 at hx'
        rw[hh]at hx'
        obtain⟨p',q',hu,_⟩:=ziN.1 hx'
        refine⟨.value (a.eval x),a.eval x,ρ,w,?_,.inl rfl,hx,St.refl hr⟩
        simp [hu]
    case call c =>
      have e:(zgN P c).f call fr h=.val v h':=e
      unfold zgN at e
      cases hcc:c.callee with
      |value f=>rw[zdD,hcc]at hc;cases hc
      |invoke r m=>rw[zdD,hcc]at hc;cases hc
      |builtin b =>
        rw[hcc]at e
        dsimp only at e
        have R:∀x∈c.args.toList,zc0 P ρ fr a x:=fun x hx=>R x (by simpa [Op.operands,Call.operands,hcc] using hx)
        simp only[resolve,hcc,invoke,pure_bind]
        unfold zgn at e
        split at e
        · rename_i x t ts h1 h2
          have hu:(c.args.map a.eval)[0]?=some (a.eval x):=by rw[←Array.getElem?_toList,Array.toList_map,h1];rfl
          have ht:c.argTypes[0]?=some t:=by rw[←Array.getElem?_toList,h2];rfl
          have hx:zc0 P ρ fr a x:=R x (by rw[h1];simp)
          cases b<;>first|exact(zab e).elim|skip
          case len=>exact .ofV (len_ok hr ht hu hx e)
          case cap=>exact .ofV (cap_ok hr ht hu hx e)
          case clear=>exact .ofV (zuh hr ht hu hx e)
        · rename_i x y t t2 ts h1 h2
          have hu:(c.args.map a.eval)[0]?=some (a.eval x):=by rw[←Array.getElem?_toList,Array.toList_map,h1];rfl
          have hu':(c.args.map a.eval)[1]?=some (a.eval y):=by rw[←Array.getElem?_toList,Array.toList_map,h1];rfl
          have ht:c.argTypes[0]?=some t:=by rw[←Array.getElem?_toList,h2];rfl
          have ht2:c.argTypes[1]?=some t2:=by rw[←Array.getElem?_toList,h2];rfl
          have hx:zc0 P ρ fr a x:=R x (by rw[h1];simp)
          have hy:zc0 P ρ fr a y:=R y (by rw[h1];simp)
          cases b<;>first|exact(zab e).elim|skip
          case append=>exact .ofV (zsx hr hn ht ht2 hu hu' hx hy e)
          case copy=>exact .ofV (zxh hr ht hu hu' hx hy e)
          case min=>exact .ofV (min_ok hr (by rw[Array.toList_map,h1];rfl) hx hy e)
        · exact(zab e).elim
end
end Go.Eng
namespace Go.Eng
set_option autoImplicit false
variable [Deep] [Env]
structure Fresh (ρ:Ren) (h:H):Prop where
  none:∀b,h.nx≤b→ρ b=.none
  clean:Clean h
theorem Fresh.step {ρ ρ':Ren} {h h':H} {w w':World} (hf:Fresh ρ h) (st:St ρ ρ' h h' w w'):Fresh ρ' h':=by
  refine⟨fun b hb=>?_,st.clean hf.clean⟩
  cases hq:ρ' b with
  |none=>rfl
  |some x =>
    rcases st.new b x hq with h1|⟨_,h2⟩
    · have:=hf.none b (Nat.le_trans st.nx hb);rw[this]at h1;cases h1
    · omega
def zfA (P:Program) (call:Caller):Prop:=∀f args h v h',call.f f args h=.val v h'→∀(ρ:Ren) (w:World) (us:List Value),HR ρ h w→GR P ρ→Fresh ρ h→VL ρ args us →
  (callFunc f ⟨us⟩).run P w=.ok (.enter f ⟨us⟩) w∧Calls P f ⟨us⟩ w fun e w'=>∃u ρ',e=.returned u∧VR ρ' v u∧St ρ ρ' h h' w w'
section
variable {P:Program} {ρ:Ren} {h h':H} {w:World} {v:AV} {n:Nat} {fr:Fr} {a:Act} {call:Caller} {K:Act→World→Prop} {Q:Exit→Act→World→Prop}
theorem zxs {fv:AV} {l:List AV} (e:cGo fv call l h=.val v h'):∃f p q,fv=.func f p q∧call.f f (p++(l++q)) h=.val v h':=by
  cases fv<;>first|exact(zab e).elim|skip
  rename_i f p q
  have e:forceL (lapp p (lapp l q)) (fun l=>call.f f l h)=.val v h':=e
  rw[za3,zcq,zcq]at e
  exact⟨f,p,q,rfl,e⟩
theorem znS {o:Oper} (hc:zdD o.op=false) (hr:HR ρ h w) (hn:ρ h.nx=none) (RR:∀x∈o.op.operands.toList,ze0 P x=true→zc0 P ρ fr a x) (e:(zbY P o.op).f call fr h=.val v h')
    (k:∀u ρ' w',VR ρ' v u→St ρ ρ' h h' w w'→K (a.put o.dst u) w'):o.wp P a w K Q:=by
  obtain⟨nx,u,ρ',w',h1,h2,h3,h4⟩:=zt1 hc hr hn RR e
  unfold Oper.wp
  rw[h1]
  rcases h2 with rfl|⟨rfl,rfl⟩
  · exact k _ _ _ h3 h4
  · exact k _ _ _ h3 h4
theorem zuU {o:Oper} (C:zfA P call) (hr:HR ρ h w) (hn:Fresh ρ h) (RR:∀x∈o.op.operands.toList,ze0 P x=true→zc0 P ρ fr a x) (hg:GR P ρ) (e:(zbY P o.op).f call fr h=.val v h')
    (k:∀u ρ' w',VR ρ' v u→St ρ ρ' h h' w w'→K (a.put o.dst u) w'):o.wp P a w K Q:=by
  cases hc:zdD o.op with
  |false=>exact znS hc hr (hn.none _ (Nat.le_refl _)) RR e k
  |true =>
    unfold zbY at e
    cases hgd:lall (ze0 P) o.op.operands.toList with
    |false=>rw[hgd]at e;exact(zab e).elim
    |true =>
      rw[hgd,zac]at e
      have good:=(zhs _ _).1 hgd
      have R:∀x∈o.op.operands.toList,zc0 P ρ fr a x:=fun x hx=>RR x hx (good x hx)
      cases hop:o.op<;>rw[hop]at e R hc<;>first|(cases hc;done)|skip
      case call c =>
        have e:(zgN P c).f call fr h=.val v h':=e
        unfold zgN at e
        cases hcc:c.callee with
        |builtin b=>rw[zdD,hcc]at hc;cases hc
        |invoke r m=>rw[hcc]at e;exact(zab e).elim
        |value f =>
          rw[hcc]at e
          have e:(ogets P c.args.toList).f fr (fun l=>cGo (ov P fr f) call l h)=.val v h':=e
          have e:=zga fr _ _ e
          obtain⟨fn,p,q,hq,e⟩:=zxs e
          have Rf:zc0 P ρ fr a f:=R f (by simp [Op.operands,Call.operands,hcc])
          have Ra:∀x∈c.args.toList,zc0 P ρ fr a x:=fun x hx=>R x (by simp [Op.operands,Call.operands,hcc];exact .inr (by simpa using hx))
          unfold zc0 at Rf
          rw[hq]at Rf
          obtain⟨p',q',hfe,hp,hq'⟩:=ziN.1 Rf
          obtain⟨h1,h2⟩:=C fn _ h v h' e ρ w (p'++(c.args.toList.map a.eval++q')) hr hg hn (hp.append ((VL.ofMap _ Ra).append hq'))
          unfold Oper.wp
          have hrun:(execOp a.eval o).run P w=.ok (.enter fn ⟨p'++(c.args.toList.map a.eval++q')⟩) w:=by
            rw[←h1]
            unfold execOp
            rw[hop]
            have:(⟨p'++(c.args.toList.map a.eval++q')⟩:Array Value)=⟨p'⟩++c.args.map a.eval++⟨q'⟩:=by apply Array.ext';simp
            rw[this]
            simp [resolve,hcc,hfe,Deferred.ofValue,invoke]
          rw[hrun,Oper.upon_enter]
          refine h2.mono fun en w' hh=>?_
          obtain⟨u,ρ',rfl,k1,k2⟩:=hh
          exact k u ρ' w' k1 k2
theorem op_wp {o:Oper} (C:zfA P call) (hr:HR ρ h w) (hn:Fresh ρ h) (hf:FR ρ n fr a) (hg:GR P ρ) (e:(zbY P o.op).f call fr h=.val v h')
    (k:∀u ρ' w',VR ρ' v u→St ρ ρ' h h' w w'→K (a.put o.dst u) w'):o.wp P a w K Q :=
  zuU C hr hn (fun x _ hx=>zhY hf hg x hx) hg e k
end
end Go.Eng
