/- What is proved: the evaluator's slices, literals, lengths, copies and appends do what the model's do. Conditions: none. -/
import Derived.Test.YtdeejbnhlbddgaaGreatDoorWC
import Derived.Great.BuildSlice
import Derived.Laws.MakeOwn
set_option linter.unusedVariables false
set_option linter.unusedSimpArgs false
set_option linter.unusedSectionVars false
namespace Go.Eng
set_option autoImplicit false
variable [Deep] [Env]
section
variable {P:Program} {ρ:Ren} {h h':H} {w:World} {v:AV} {fr:Fr} {a:Act} {call:Caller}
def BI (o:Option AV) (d n:Nat):Prop:=match o with|none=>n=d|some x=>∃kd,x=.int kd n∧nneg kd n=true
def BU (u:Option Value) (d n:Nat):Prop:=match u with|none=>n=d|some x=>∃kd,x=.int kd (n:Int)
def OR (ρ:Ren) (o:Option AV) (u:Option Value):Prop:=match o,u with|none,none=>True|some x,some y=>VR ρ x y|_,_=>False
theorem BI.unit {o:Option AV} {u:Option Value} {d n:Nat} (hb:BI o d n) (hr:OR ρ o u):BU u d n:=by
  cases o with
  |none=>cases u with
    |none=>exact hb
    |some y=>exact hr.elim
  |some x=>cases u with
    |none=>exact hr.elim
    |some y =>
      obtain⟨kd,rfl,hn⟩:=hb
      obtain⟨_,h2⟩:=VR_int.1 (show VR ρ (.int kd n) y from hr)
      rw[sgn_nneg hn]at h2
      exact⟨kd,h2⟩
theorem bnd_val {o:Option AV} {d:Nat} {k:Nat→RV} (e:bnd o d k=.val v h):∃n,BI o d n∧k n=.val v h:=by
  cases o with
  |none=>exact⟨d,rfl,e⟩
  |some x =>
    obtain⟨kd,n,rfl,h1,h2⟩:=intIdx_val (show intIdx x k=.val v h from e)
    exact⟨n,⟨kd,rfl,h1⟩,h2⟩
theorem bnds_val {lo hi:Option AV} {len top:Nat} {k:Nat→Nat→RV} (e:bnds lo hi len top k=.val v h):∃l hh,BI lo 0 l∧BI hi len hh∧l≤hh∧hh≤top∧k l hh=.val v h:=by
  unfold bnds at e
  obtain⟨l,h1,e⟩:=bnd_val e
  obtain⟨hh,h2,e⟩:=bnd_val e
  obtain⟨h3,e⟩:=ifB_t e
  obtain⟨h4,e⟩:=ifB_t e
  exact⟨l,hh,h1,h2,ble_true.1 h3,ble_true.1 h4,e⟩
theorem run_bound {u:Value} {kd:IntKind} {n y:Nat} {code:BoundsCode} (hu:u=.int kd (n:Int)) (hn:n≤y):(Instr.sliceBound u y code).run P w=.ok n w:=by
  subst hu
  have:(0:Int)≤n∧(n:Int)≤y:=by omega
  simp [Instr.sliceBound,asIntOf,this]
theorem run_bounds {isS:Bool} {len cap l hh m:Nat} {lo hi mx:Option Value} (hl:BU lo 0 l) (hh1:BU hi len hh) (hm:BU mx cap m) (h1:l≤hh) (h2:hh≤m) (h3:m≤cap) (hx:hi=none→mx=none) :
    (Instr.sliceBounds isS len cap lo hi mx).run P w=.ok (l,hh,m) w:=by
  cases mx with
  |none =>
    have hm:m=cap:=hm
    subst hm
    cases hi with
    |none =>
      have hh1:hh=len:=hh1
      subst hh1
      cases lo with
      |none=>have hl:l=0:=hl;subst hl;simp [Instr.sliceBounds]
      |some u=>obtain⟨kd,hu⟩:=hl;simp [Instr.sliceBounds,run_bound hu h1]
    |some y =>
      obtain⟨ky,hy⟩:=hh1
      cases lo with
      |none=>have hl:l=0:=hl;subst hl;simp [Instr.sliceBounds,run_bound hy h2]
      |some u=>obtain⟨kd,hu⟩:=hl;simp [Instr.sliceBounds,run_bound hu h1,run_bound hy h2]
  |some z =>
    obtain⟨kz,hz⟩:=hm
    cases hi with
    |none=>cases hx rfl
    |some y =>
      obtain⟨ky,hy⟩:=hh1
      cases lo with
      |none=>have hl:l=0:=hl;subst hl;simp [Instr.sliceBounds,run_bound hy h2,run_bound hz h3]
      |some u=>obtain⟨kd,hu⟩:=hl;simp [Instr.sliceBounds,run_bound hu h1,run_bound hy h2,run_bound hz h3]
theorem slTo_ok {b off l hh c size B o N:Nat} {ad:Addr} (hb:ρ b=some (B,o,N)) (had:ad=⟨B,o+off,none⟩∨c=0) (h1:l≤hh) (h2:hh≤c) (e:slTo b off l hh c size h=.val v h') :
    h'=h∧VR ρ v (.slice (some (if c=l then ad else ad.add (l*size))) (hh-l) (c-l)):=by
  unfold slTo at e
  rw[ifB_eq]at e
  split at e
  · rename_i hc
    have hc:=beq_true.1 hc
    cases e
    refine⟨rfl,VR_slice.2 ⟨B,o,N,c-l,if c=l then ad else ad.add (l*size),hb,?_,Nat.zero_le _,.inr (by omega),show c-l=0 by omega⟩⟩
    rw[show hh-l=0 by omega]
  · rename_i hc
    have hc:c≠l:=fun x=>hc (beq_true.2 x)
    simp only[forceN_eq]at e
    cases e
    refine⟨rfl,VR_slice.2 ⟨B,o,N,c-l,ad.add (l*size),hb,?_,by show hh-l≤c-l;omega,.inl ?_,rfl⟩⟩
    · rw[if_neg hc];rfl
    · rw[had.resolve_right (by omega),Addr.add_none,Nat.add_assoc];rfl
theorem slHd_val {b off len:Nat} {cap:Cp} {lo hi mx:Option AV} {r:H→RV} (e:slHd b off len cap lo hi mx r h=.val v h') :
    (lo=none∧mx=none∧∃kd m,hi=some (.int kd m)∧nneg kd m=true∧m≤len∧h'=h∧v=.slice b off m cap)∨r h=.val v h':=by
  cases mx with
  |some l=>exact .inr e
  |none =>
    cases lo with
    |some m=>exact .inr e
    |none =>
      cases hi with
      |none=>exact .inr e
      |some y =>
        obtain⟨kd,m,rfl,h1,e⟩:=intIdx_val (show intIdx y (fun m=>ifB (Nat.ble m len) (.val (.slice b off m cap) h) (r h))=.val v h' from e)
        rw[ifB_eq]at e
        split at e
        · rename_i h2
          cases e
          exact .inl ⟨rfl,rfl,kd,m,rfl,h1,ble_true.1 h2,rfl,rfl⟩
        · exact .inr e
theorem slice_ok {t:TypeId} {x:AV} {u:Value} {lo hi mx:Option AV} {lu hu mu:Option Value} (hr:HR ρ h w) (hx:VR ρ x u) (hlo:OR ρ lo lu) (hhi:OR ρ hi hu) (hmx:OR ρ mx mu)
    (hno:hu=none→mu=none) (e:(sliceA P t).f x lo hi mx h=.val v h'):VOK P ρ h w (Instr.sliceAt t u lu hu mu) v h':=by
  unfold sliceA at e
  cases htd:tdOf P t<;>rw[htd]at e<;>first|exact(fail_val e).elim|skip
  case str =>
    have e:noMx mx (asStr x fun n s=>slStr n s lo hi h)=.val v h':=e
    cases mx with
    |some y=>exact(fail_val e).elim
    |none =>
      cases mu with
      |some y=>exact hmx.elim
      |none =>
        obtain⟨n,s,hq,e⟩:=asStr_val (show asStr x (fun n s=>slStr n s lo hi h)=.val v h' from e)
        rw[hq]at hx
        unfold slStr at e
        obtain⟨l,hh,b1,b2,h1,h2,e⟩:=bnds_val e
        rw[mkS_eq]at e
        cases e
        obtain⟨bs,rfl,rfl,rfl⟩:=VR_str.1 hx
        have hrun:=run_bounds (P:=P) (w:=w) (isS:=false) (mx:=none) (b1.unit hlo) (b2.unit hhi) rfl h1 h2 (Nat.le_refl _) (fun _=>rfl)
        have hsz:bs.data.toList.length=bs.size:=rfl
        rw[hsz]at hrun h2
        have hc:(bs.extract l hh).data.toList=(bs.data.toList.drop l).take (hh-l):=by
          simp [ByteArray.data_extract]
        refine .same hr (u:=.string (bs.extract l hh)) ?_ (VR_str.2 ⟨_,rfl,?_,?_⟩)
        · have hund:=td_str htd
          simp [Instr.sliceAt,Instr.slice,run_underlying hund,hrun]
        · rw[hc];simp;show min _ _=Nat.sub hh l;have:(Nat.sub hh l)=hh-l:=rfl;have:=hsz;simp at this;omega
        · rw[hc,←strCut_eq];rfl
  case slice el size by_ =>
    obtain⟨hund,ag,hsize⟩:=td_slice htd
    have e:slSl size x lo hi mx h=.val v h':=e
    unfold slSl at e
    rcases asSl_val e with ⟨hq,e⟩|⟨b,off,len,cap,hq,e⟩<;>rw[hq]at hx
    · obtain rfl:=VR_nilslice.1 hx
      have fin:∀{l hh:Nat},(Instr.sliceBounds true 0 0 lu hu mu).run P w=.ok (l,hh,0) w→l≤hh→hh≤0→VOK P ρ h w (Instr.sliceAt t (.slice none 0 0) lu hu mu) .nilslice h:=by
        intro l hh hrun h1 h2
        have hl:l=0:=by omega
        have hh0:hh=0:=by omega
        subst hl;subst hh0
        exact .same hr (u:=.slice none 0 0) (by simp [Instr.sliceAt,Instr.slice,run_underlying hund,hrun,run_size hsize]) (VR_nilslice.2 rfl)
      unfold slNil at e
      cases mx with
      |none =>
        cases mu with
        |some y=>exact hmx.elim
        |none =>
          obtain⟨l,hh,b1,b2,h1,h2,e⟩:=bnds_val (show bnds lo hi 0 0 (fun _ _=>.val .nilslice h)=.val v h' from e)
          cases e
          exact fin (run_bounds (b1.unit hlo) (b2.unit hhi) rfl h1 h2 (Nat.le_refl _) hno) h1 h2
      |some y =>
        cases mu with
        |none=>exact hmx.elim
        |some y' =>
          obtain⟨kd,m,hqy,hn,e⟩:=intIdx_val (show intIdx y _=.val v h' from e)
          rw[hqy]at hmx
          obtain⟨hm0,e⟩:=ifB_t e
          obtain rfl:=beq_true.1 hm0
          obtain⟨l,hh,b1,b2,h1,h2,e⟩:=bnds_val e
          cases e
          have bm:BU (some y') 0 0:=BI.unit (o:=some (.int kd 0)) ⟨kd,rfl,hn⟩ hmx
          exact fin (run_bounds (b1.unit hlo) (b2.unit hhi) bm h1 h2 (Nat.le_refl _) hno) h1 h2
    · obtain⟨B,o,N,c,ad,hb,rfl,hlc,had,hcap⟩:=VR_slice.1 hx
      have fin:∀{l hh m:Nat},(Instr.sliceBounds true len c lu hu mu).run P w=.ok (l,hh,m) w →
          (Instr.sliceAt t (.slice (some ad) len c) lu hu mu).run P w=.ok (.slice (some (if m=l then ad else ad.add (l*size))) (hh-l) (m-l)) w:=by
        intro l hh m hrun
        by_cases hml:m=l<;>simp [Instr.sliceAt,Instr.slice,run_underlying hund,hrun,run_size hsize,hml]
      have had0:∀{m:Nat},m≤c→ad=⟨B,o+off,none⟩∨m=0:=fun hm=>by
        rcases had with h|h
        · exact .inl h
        · exact .inr (by omega)
      have e:slHd b off len cap lo hi mx (Cp.rec (motive:=fun _=>H→RV) (fun c h=>slCap b off len c size lo hi mx h) (fun es h=>slUnk b off len es size lo hi mx h) cap) h=.val v h':=e
      rcases slHd_val e with ⟨rfl,rfl,kd,m,rfl,hn,hml,rfl,rfl⟩|e
      · cases lu with
        |some y=>exact hlo.elim
        |none =>
          cases mu with
          |some y=>exact hmx.elim
          |none =>
            have b2:BI (some (AV.int kd m)) len m:=⟨kd,rfl,hn⟩
            have f:=fin (run_bounds (P:=P) (w:=w) (isS:=true) (len:=len) (cap:=c) (l:=0) (hh:=m) (m:=c) (lo:=none) (mx:=none) rfl (b2.unit hhi) rfl (Nat.zero_le _) (Nat.le_trans hml hlc) (Nat.le_refl _) hno)
            refine .same hr f (VR_slice.2 ⟨B,o,N,c,_,hb,rfl,Nat.le_trans hml hlc,?_,hcap⟩)
            by_cases hc0:c=0
            · exact .inr hc0
            · rw[if_neg hc0,had.resolve_right hc0,Addr.add_none,Nat.zero_mul];exact .inl rfl
      cases cap with
      |kn c' =>
        have hcap:c=c':=hcap
        subst hcap
        have e:slCap b off len c size lo hi mx h=.val v h':=e
        unfold slCap at e
        cases mx with
        |none =>
          cases mu with
          |some y=>exact hmx.elim
          |none =>
            obtain⟨l,hh,b1,b2,h1,h2,e⟩:=bnds_val (show bnds lo hi len c (fun l hh=>slTo b off l hh c size h)=.val v h' from e)
            obtain⟨rfl,hv⟩:=slTo_ok hb (had0 (Nat.le_refl _)) h1 h2 e
            exact .same hr (fin (run_bounds (b1.unit hlo) (b2.unit hhi) rfl h1 h2 (Nat.le_refl _) hno)) hv
        |some y =>
          cases mu with
          |none=>exact hmx.elim
          |some y' =>
            obtain⟨kd,m,hqy,hn,e⟩:=intIdx_val (show intIdx y _=.val v h' from e)
            rw[hqy]at hmx
            obtain⟨hm0,e⟩:=ifB_t e
            have hm0:=ble_true.1 hm0
            obtain⟨l,hh,b1,b2,h1,h2,e⟩:=bnds_val e
            have bm:BU (some y') c m:=BI.unit (o:=some (.int kd m)) ⟨kd,rfl,hn⟩ hmx
            obtain⟨rfl,hv⟩:=slTo_ok hb (had0 hm0) h1 h2 e
            exact .same hr (fin (run_bounds (b1.unit hlo) (b2.unit hhi) bm h1 h2 hm0 hno)) hv
      |un es =>
        have hcap:(o+off)+c*es=N:=hcap
        have e:slUnk b off len es size lo hi mx h=.val v h':=e
        unfold slUnk at e
        obtain⟨hes,e⟩:=ifB_t e
        obtain rfl:=beq_true.1 hes
        cases mx with
        |none =>
          cases mu with
          |some y=>exact hmx.elim
          |none =>
            obtain⟨l,hh,b1,b2,h1,h2,e⟩:=bnds_val (show bnds lo hi len len (fun l hh=>forceN (Nat.add off (Nat.mul l es)) fun o=>forceN (Nat.sub hh l) fun n=>.val (.slice b o n (.un es)) h)=.val v h' from e)
            simp only[forceN_eq]at e
            cases e
            refine .same hr (fin (run_bounds (b1.unit hlo) (b2.unit hhi) rfl h1 (Nat.le_trans h2 hlc) (Nat.le_refl _) hno)) (VR_slice.2 ⟨B,o,N,c-l,_,hb,rfl,by show hh-l≤c-l;omega,?_,?_⟩)
            · by_cases hcl:c=l
              · exact .inr (by omega)
              · rw[if_neg hcl,had.resolve_right (by omega),Addr.add_none,Nat.add_assoc];exact .inl rfl
            · show o+(off+l*es)+(c-l)*es=N
              have:c*es=l*es+(c-l)*es:=by rw[←Nat.add_mul];congr 1;omega
              have:l*es+(c-l)*es=c*es:=this.symm
              omega
        |some y =>
          cases mu with
          |none=>exact hmx.elim
          |some y' =>
            obtain⟨kd,m,hqy,hn,e⟩:=intIdx_val (show intIdx y _=.val v h' from e)
            rw[hqy]at hmx
            obtain⟨hm0,e⟩:=ifB_t e
            have hm0:=Nat.le_trans (ble_true.1 hm0) hlc
            obtain⟨l,hh,b1,b2,h1,h2,e⟩:=bnds_val e
            have bm:BU (some y') c m:=BI.unit (o:=some (.int kd m)) ⟨kd,rfl,hn⟩ hmx
            obtain⟨rfl,hv⟩:=slTo_ok hb (had0 hm0) h1 h2 e
            exact .same hr (fin (run_bounds (b1.unit hlo) (b2.unit hhi) bm h1 h2 hm0 hno)) hv
  case array n el size ag =>
    obtain⟨hund,by_,hsize⟩:=td_array htd
    obtain⟨b,off,hq,e⟩:=asPtr_val (show asPtr x (fun b off=>slCap b off n n size lo hi mx h)=.val v h' from e)
    rw[hq]at hx
    obtain⟨B,o,N,hb,rfl⟩:=VR_ptr.1 hx
    have fin:∀{l hh m:Nat},(Instr.sliceBounds false n n lu hu mu).run P w=.ok (l,hh,m) w →
        (Instr.sliceAt t (.pointer (some ⟨B,o+off,none⟩)) lu hu mu).run P w=.ok (.slice (some (if m=l then⟨B,o+off,none⟩ else(⟨B,o+off,none⟩:Addr).add (l*size))) (hh-l) (m-l)) w:=by
      intro l hh m hrun
      by_cases hml:m=l<;>simp [Instr.sliceAt,Instr.sureAddr,run_underlying hund,hrun,run_size hsize,hml]
    unfold slCap at e
    cases mx with
    |none =>
      cases mu with
      |some y=>exact hmx.elim
      |none =>
        obtain⟨l,hh,b1,b2,h1,h2,e⟩:=bnds_val (show bnds lo hi n n (fun l hh=>slTo b off l hh n size h)=.val v h' from e)
        obtain⟨rfl,hv⟩:=slTo_ok hb (.inl rfl) h1 h2 e
        exact .same hr (fin (run_bounds (b1.unit hlo) (b2.unit hhi) rfl h1 h2 (Nat.le_refl _) hno)) hv
    |some y =>
      cases mu with
      |none=>exact hmx.elim
      |some y' =>
        obtain⟨kd,m,hqy,hn,e⟩:=intIdx_val (show intIdx y _=.val v h' from e)
        rw[hqy]at hmx
        obtain⟨hm0,e⟩:=ifB_t e
        have hm0:=ble_true.1 hm0
        obtain⟨l,hh,b1,b2,h1,h2,e⟩:=bnds_val e
        have bm:BU (some y') n m:=BI.unit (o:=some (.int kd m)) ⟨kd,rfl,hn⟩ hmx
        obtain⟨rfl,hv⟩:=slTo_ok hb (.inl rfl) h1 h2 e
        exact .same hr (fin (run_bounds (b1.unit hlo) (b2.unit hhi) bm h1 h2 hm0 hno)) hv
end
end Go.Eng
namespace Go.Eng
set_option autoImplicit false
variable [Deep] [Env]
theorem lrep_succ {α:Type} (n:Nat) (l:List α):lrep (n+1) l=l++lrep n l:=by
  show lapp l (lrep n l)=_
  rw[lapp_eq]
theorem lrep_length {α:Type} (l:List α):∀n:Nat,(lrep n l).length=n*l.length
  |0=>by rw[Nat.zero_mul];rfl
  |n+1=>by rw[lrep_succ,List.length_append,lrep_length l n,Nat.add_mul];omega
theorem lrep_get {α:Type} (l:List α):∀(n i:Nat),i<n*l.length→(lrep n l)[i]?=l[i%l.length]?
  |0,i,h=>by simp at h
  |n+1,i,h=>by
    rw[lrep_succ]
    have hpos:0<l.length:=by
      cases l with
      |nil=>simp at h
      |cons=>simp
    by_cases hi:i<l.length
    · rw[List.getElem?_append_left hi,Nat.mod_eq_of_lt hi]
    · have h2:(n+1)*l.length=n*l.length+l.length:=Nat.succ_mul ..
      have h3:i%l.length=(i-l.length)%l.length:=Nat.mod_eq_sub_mod (by omega)
      rw[List.getElem?_append_right (by omega),lrep_get l n (i-l.length) (by omega),h3]
def repU (n:Nat) (us:Array Value):List Value:=(List.range (n*us.size)).map (us[·%us.size]!)
theorem repU_arr (n:Nat) (us:Array Value):(Array.range (n*us.size)).map (us[·%us.size]!)=⟨repU n us⟩:=by
  unfold repU
  apply Array.ext'
  simp
theorem repU_length (n:Nat) (us:Array Value):(repU n us).length=n*us.size:=by simp [repU]
theorem repU_get (n:Nat) (us:Array Value) (i:Nat) (h:i<n*us.size):(repU n us)[i]?=us.toList[i%us.size]?:=by
  have hpos:0<us.size:=Nat.pos_of_ne_zero fun e=>by rw[e]at h;simp at h
  have hlt:=Nat.mod_lt i hpos
  simp only[repU,List.getElem?_map,List.getElem?_range h,Option.map_some]
  rw[getElem!_pos us _ hlt,Array.getElem?_toList,Array.getElem?_eq_getElem hlt]
theorem VL_rep {ρ:Ren} {l:List AV} {us:Array Value} (h:VL ρ l us.toList) (n:Nat):VL ρ (lrep n l) (repU n us):=by
  have hlen:=h.length
  have hlen:us.size=l.length:=by simpa using hlen
  refine VL.mk (by rw[lrep_length,repU_length,hlen]) fun i a hi=>?_
  have hlt:i<n*l.length:=by
    have:=(List.getElem?_eq_some_iff.1 hi).1
    rwa [lrep_length]at this
  rw[lrep_get l n i hlt]at hi
  rw[repU_get n us i (by rw[hlen];exact hlt),hlen]
  exact h.get _ _ hi
theorem one_rep {us:Array Value} (h:∀u∈us.toList,u.oneCell'=true) (n:Nat):∀u∈repU n us,u.oneCell'=true:=by
  intro u hu
  obtain⟨i,hi⟩:=List.mem_iff_getElem?.1 hu
  have hlt:i<n*us.size:=by
    have:=(List.getElem?_eq_some_iff.1 hi).1
    rwa [repU_length]at this
  rw[repU_get n us i hlt]at hi
  exact h u (List.mem_of_getElem? hi)
theorem fold_set (off:Nat):∀(l:List Value) (k:Nat) (cs:Array Value),off+k+l.length≤cs.size →
    (l.zipIdx k).foldl (fun cs (x:Value×Nat)=>cs.setIfInBounds (off+x.2) x.1) cs=spl cs (off+k) l
  | [],k,cs,_=>by rw[spl_nil];rfl
  |v::l,k,cs,h=>by
    simp at h
    rw[List.zipIdx_cons,List.foldl_cons,fold_set off l (k+1) _ (by simp;omega)]
    apply Array.ext_getElem?
    intro m
    rw[spl_get _ _ _ (by simp;omega),spl_get _ _ _ (by simp;omega)]
    simp only[List.length_cons]
    by_cases hm:m=off+k
    · subst hm
      rw[if_neg (by omega),if_pos (by omega),Array.getElem?_setIfInBounds_self_of_lt (by omega)]
      simp
    · rw[Array.getElem?_setIfInBounds_ne (Ne.symm hm)]
      by_cases hm2:off+(k+1)≤m∧m<off+(k+1)+l.length
      · rw[if_pos hm2,if_pos (by omega)]
        obtain⟨q,hq⟩:∃q,m-(off+k)=q+1:=⟨m-(off+k)-1,by omega⟩
        rw[hq,show m-(off+(k+1))=q by omega]
        simp
      · rw[if_neg hm2,if_neg (by omega)]
theorem splice_eq (cs:List AV) (off:Nat) (l:List AV) (n:Nat):splice cs off l n=cs.take off++(l++cs.drop (off+n)):=by
  unfold splice
  rw[lapp_eq,lapp_eq,ltake_eq,ldrop_eq];rfl
section
variable {P:Program} {ρ:Ren} {h h':H} {w:World} {v:AV} {fr:Fr} {a:Act} {call:Caller}
theorem fill_val {place:Nat→Option (Nat×Nat)}:∀(parts:List (Nat×Operand)) (cs:List AV) (us:Array Value) (k:List AV→RV),VL ρ cs us.toList→(∀u∈us.toList,u.oneCell'=true) →
    (∀p∈parts,Rel1 P ρ fr a p.2)→(fillA P place parts).f fr cs k=.val v h' →
    ∃cs' us',Instr.fill place us (parts.map fun p=>(p.1,a.eval p.2))=some us'∧VL ρ cs' us'.toList∧(∀u∈us'.toList,u.oneCell'=true)∧us'.size=us.size∧k cs'=.val v h'
  | [],cs,us,k,hv,ho,_,e=>⟨cs,us,rfl,hv,ho,rfl,e⟩
  |p::parts,cs,us,k,hv,ho,hp,e=>by
    have e:osome 28 (place p.1) (fun os=>forceV (ov P fr p.2) fun a=>cellsK a fun l =>
      ifB (Nat.beq (llen l) os.2) (ifB (Nat.ble (Nat.add os.1 os.2) (llen cs)) (forceL (splice cs os.1 l os.2) fun cs=>(fillA P place parts).f fr cs k) (.fail 28)) (.fail 28))=.val v h':=e
    obtain⟨⟨off,size⟩,hpl,e⟩:=osome_val e
    rw[forceV_eq]at e
    obtain⟨l,hl,e⟩:=cellsK_val e
    obtain⟨h1,e⟩:=ifB_t e
    obtain⟨h2,e⟩:=ifB_t e
    have h1:=beq_true.1 h1
    have h2:=ble_true.1 h2
    rw[llen_eq]at h1 h2
    have h2:off+size≤cs.length:=h2
    have h1:l.length=size:=h1
    rw[forceL_eq,splice_eq]at e
    obtain⟨q1,q2⟩:=cells_rel (hp p (by simp)) hl
    have hsz:(a.eval p.2).cells.size=size:=by have:=q1.length;simp at this;omega
    have hus:us.size=cs.length:=by have:=hv.length;simpa using this
    have hsp:VL ρ (cs.take off++(l++cs.drop (off+size))) (spl us off (a.eval p.2).cells.toList).toList:=by
      unfold spl
      simp only[List.append_assoc]
      refine(hv.take off).append (q1.append ?_)
      have:(a.eval p.2).cells.toList.length=size:=by simpa using hsz
      rw[this]
      exact hv.drop _
    have hone:∀u∈(spl us off (a.eval p.2).cells.toList).toList,u.oneCell'=true:=by
      intro u hu
      unfold spl at hu
      simp only[List.mem_append]at hu
      rcases hu with (hu|hu)|hu
      · exact ho u (List.mem_of_mem_take hu)
      · exact q2 u hu
      · exact ho u (List.mem_of_mem_drop hu)
    obtain⟨cs',us',r1,r2,r3,r4,r5⟩:=fill_val parts _ _ k hsp hone (fun x hx=>hp x (by simp [hx])) e
    refine⟨cs',us',?_,r2,r3,?_,r5⟩
    · show Instr.fill place us ((p.1,a.eval p.2)::parts.map fun p=>(p.1,a.eval p.2))=some us'
      unfold Instr.fill
      rw[hpl]
      have hc:¬((a.eval p.2).cells.size≠size∨off+(a.eval p.2).cells.size>us.size):=by rw[hsz,hus];omega
      have hc':((decide ((a.eval p.2).cells.size≠size))||decide (off+(a.eval p.2).cells.size>us.size))=false:=by
        rw[hsz,hus];simp;omega
      have hf:=fold_set off (a.eval p.2).cells.toList 0 us (by simp;omega)
      have hz:(a.eval p.2).cells.zipIdx.foldl (fun cs (x:Value×Nat)=>cs.setIfInBounds (off+x.2) x.1) us=spl us off (a.eval p.2).cells.toList:=by
        rw[←Array.foldl_toList]
        have:(a.eval p.2).cells.zipIdx.toList=(a.eval p.2).cells.toList.zipIdx 0:=by simp
        rw[this]
        exact hf
      simp only[hc']
      rw[if_neg (by simp)]
      rw[←r1]
      congr 1
    · rw[r4,spl_size _ _ _ (by simp;omega)]
theorem parts_map (parts:Array (Nat×Operand)):(parts.map fun(i,x)=>(i,a.eval x)).toList=parts.toList.map fun p=>(p.1,a.eval p.2):=by simp
theorem places_eq:∀{l:List Field} {fs:List FD},fdsOf P l=some fs→l.mapM (fun f=>(P.info? f.type).map fun i=>(f.offset,i.size))=some (fs.map fun d=>(d.off,d.size))
  | [],fs,h=>by unfold fdsOf at h;cases h;rfl
  |f::l,fs,h=>by
    unfold fdsOf at h
    split at h
    · rename_i x xs h1 h2
      cases h
      unfold fdOf at h1
      split at h1
      · rename_i s b a hs
        cases h1
        obtain⟨i,d,e1,_,e3,_⟩:=tyOf_some hs
        simp [List.mapM_cons,e1,places_eq h2,e3]
      · cases h1
    · cases h
theorem fieldPlace_eq (fs:List FD):fieldPlace fs=fun i=>((fs.map fun d=>(d.off,d.size)).toArray)[i]?:=by
  funext i
  unfold fieldPlace
  rw[lget?_eq]
  simp only[List.getElem?_toArray,List.getElem?_map]
  cases fs[i]?<;>rfl
theorem build_ok {t:TypeId} {parts:Array (Nat×Operand)} (hr:HR ρ h w) (hp:∀p∈parts.toList,Rel1 P ρ fr a p.2) (e:(eBuild P t parts).f call fr h=.val v h') :
    VOK P ρ h w (Instr.build t (parts.map fun(i,x)=>(i,a.eval x))) v h':=by
  unfold eBuild at e
  cases hz:zeroT P t with
  |none=>rw[hz]at e;exact(fail_val e).elim
  |some z =>
    rw[hz]at e
    obtain⟨i,u,h1,h2,h3,h4,h5⟩:=zero_rel ρ hz
    obtain⟨q1,q2⟩:=cells_rel h3 (cellsA_of h4)
    dsimp only at e
    cases htd:tdOf P t<;>rw[htd]at e<;>first|exact(fail_val e).elim|skip
    case array n el size ag =>
      obtain⟨hund,by_,hsize⟩:=td_array htd
      obtain⟨ie,de,g1,_,g3,_⟩:=tyOf_some hsize
      have e:(fillA P (fun i=>some (Nat.mul i size,size)) parts.toList).f fr (cellsA z) (fun cs=>.val (.agg cs) h)=.val v h':=e
      obtain⟨cs',us',r1,r2,r3,r4,r5⟩:=fill_val parts.toList _ u.cells _ q1 q2 hp e
      cases r5
      refine .same hr (u:=.agg us') ?_ (VR_agg.2 ⟨us'.toList,by simp,r2,r3⟩)
      refine run_build w t _ _ ?_
      unfold Program.built
      rw[h1,hund]
      simp only[h2,g1]
      rw[parts_map,g3]
      exact r1
    case struct fs =>
      obtain⟨F,hund,hfs⟩:=td_struct htd
      have e:(fillA P (fieldPlace fs) parts.toList).f fr (cellsA z) (fun cs=>.val (.agg cs) h)=.val v h':=e
      obtain⟨cs',us',r1,r2,r3,r4,r5⟩:=fill_val parts.toList _ u.cells _ q1 q2 hp e
      cases r5
      refine .same hr (u:=.agg us') ?_ (VR_agg.2 ⟨us'.toList,by simp,r2,r3⟩)
      refine run_build w t _ _ ?_
      unfold Program.built
      rw[h1,hund]
      simp only[h2,places_eq hfs]
      rw[parts_map,←fieldPlace_eq]
      exact r1
end
end Go.Eng
namespace Go.Eng
set_option autoImplicit false
variable [Deep] [Env]
section
variable {P:Program} {ρ:Ren} {h h':H} {w:World} {v:AV} {fr:Fr} {a:Act} {call:Caller}
theorem buildSlice_ok {t:TypeId} {len:Nat} {parts:Array (Nat×Operand)} (hr:HR ρ h w) (hn:ρ h.nx=none) (hp:∀p∈parts.toList,Rel1 P ρ fr a p.2) (e:(eBuildSlice P t len parts).f call fr h=.val v h') :
    VOK P ρ h w (Instr.buildSlice t len (parts.map fun(i,x)=>(i,a.eval x))) v h':=by
  unfold eBuildSlice at e
  cases htd:tdOf P t<;>rw[htd]at e<;>first|exact(fail_val e).elim|skip
  case slice el size by_ =>
    obtain⟨hund,ag,hsize⟩:=td_slice htd
    dsimp only at e
    cases hz0:Nat.beq (Nat.mul len size) 0 with
    |true =>
      have hz:len*size=0:=beq_true.1 hz0
      rw[hz0,ifB_true]at e
      cases hpl:parts.toList with
      |cons x y=>simp only[hpl]at e;exact(fail_val e).elim
      |nil =>
        simp only[hpl]at e
        obtain⟨hm,e⟩:=newBlk_val e
        cases e
        have hpa:parts=#[]:=by simpa using hpl
        subst hpa
        have st:=new_row' (e:=el) (us:=[]) hr hn hm VL.nil (by simp)
        refine⟨.slice (some ⟨w.heap.size,0,none⟩) len len,_,_,?_,VR_slice.2 ⟨_,_,_,len,_,Ren.add_same _ _ _,rfl,Nat.le_refl _,.inl rfl,rfl⟩,st⟩
        have e0:(Array.map (fun _=>(default:Value)) (Array.range 0))=⟨[]⟩:=by simp [Array.range]
        simp [Instr.buildSlice,run_underlying hund,run_size hsize,hz,Instr.fill,newRow]
        rw[e0]
    |false =>
      have hz:¬len*size=0:=beq_false.1 hz0
      rw[hz0,ifB_false]at e
      cases hb:Nat.ble (Nat.mul len size) 16777216 with
      |false=>rw[hb]at e;exact(fail_val e).elim
      |true =>
        have hb':len*size≤16777216:=ble_true.1 hb
        rw[hb,ifB_true]at e
        cases hzt:zeroT P el with
        |none=>rw[hzt]at e;exact(fail_val e).elim
        |some z =>
          rw[hzt]at e
          obtain⟨i,u,h1,h2,h3,h4,h5⟩:=zero_rel ρ hzt
          obtain⟨q1,q2⟩:=cells_rel h3 (cellsA_of h4)
          have e:(fillA P (fun i=>some (Nat.mul i size,size)) parts.toList).f fr (lrep len (cellsA z)) (fun cs=>newBlk h cs fun b h=>.val (.slice b 0 len (.kn len)) h)=.val v h':=e
          obtain⟨ie,de,g1,_,g3,_⟩:=tyOf_some hsize
          rw[h1]at g1
          cases g1
          have hv:=VL_rep q1 len
          obtain⟨cs',us',r1,r2,r3,r4,r5⟩:=fill_val parts.toList _ ⟨repU len u.cells⟩ _ hv (one_rep q2 len) hp e
          obtain⟨hm,r5⟩:=newBlk_val r5
          cases r5
          have st:=new_row' (e:=el) hr hn hm r2 r3
          refine⟨.slice (some ⟨w.heap.size,0,none⟩) len len,_,_,?_,VR_slice.2 ⟨_,_,_,len,_,Ren.add_same _ _ _,rfl,Nat.le_refl _,.inl rfl,rfl⟩,st⟩
          have:=run_buildSlice w t el len (parts.map fun(i,x)=>(i,a.eval x)) us' i u hund h1 h2 (by rw[g3];omega) (by rw[g3];exact hz)
            (by rw[parts_map,←r1,←repU_arr,h5,g3];rfl)
          rw[this]
          rfl
theorem okRoom_iff {m b:Nat}:okRoom m b=true↔m*b≤140737488355328:=ble_true
theorem nneg_i64 {n:Nat} (h:n≤9223372036854775807):nneg .i64 n=true:=ble_true.2 (show n+1≤9223372036854775808 by omega)
theorem wrap_small' {n:Nat} (h:n≤9223372036854775807):IntKind.i64.wrap (n:Int)=n:=by
  rw[nat_ok .i64 n (show n<18446744073709551616 by omega),sgn_nneg (nneg_i64 h)]
theorem makeSlice_ok {t:TypeId} {l c:Operand} (hr:HR ρ h w) (hn:ρ h.nx=none) (hl:Rel1 P ρ fr a l) (hc:Rel1 P ρ fr a c) (e:(eMkSlice P t l c).f call fr h=.val v h') :
    VOK P ρ h w (Instr.makeSlice t (a.eval l) (a.eval c)) v h':=by
  unfold eMkSlice at e
  cases htd:tdOf P t<;>rw[htd]at e<;>first|exact(fail_val e).elim|skip
  case slice el size bytes =>
    obtain⟨hund,ag,hsize⟩:=td_slice htd
    dsimp only at e
    cases hzt:zeroT P el with
    |none=>rw[hzt]at e;exact(fail_val e).elim
    |some z =>
      rw[hzt]at e
      obtain⟨i,u,h1,h2,h3,h4,h5⟩:=zero_rel ρ hzt
      obtain⟨q1,q2⟩:=cells_rel h3 (cellsA_of h4)
      obtain⟨kl,ln,hql,hnl,e⟩:=intIdx_val (show intIdx (ov P fr l) (fun l=>intIdx ((operandR P c).f fr) fun c =>
        ifB (Nat.ble l c) (ifB (Nat.beq bytes 0) (.fail 59) (ifB (okRoom c bytes) (forceL (lrep c (cellsA z)) fun cs=>newBlk h cs fun b h=>.val (.slice b 0 l (.kn c)) h) (.fail 59))) (.fail 59))=.val v h' from e)
      obtain⟨kc,cn,hqc,hnc,e⟩:=intIdx_val e
      obtain⟨hlc,e⟩:=ifB_t e
      obtain⟨hb0,e⟩:=ifB_f e
      obtain⟨hroom,e⟩:=ifB_t e
      have hlc:=ble_true.1 hlc
      have hb0:=beq_false.1 hb0
      have hroom:=okRoom_iff.1 hroom
      rw[forceL_eq]at e
      obtain⟨hm,e⟩:=newBlk_val e
      cases e
      have el_:=int_of hl hql hnl
      have ec_:=int_of hc hqc hnc
      have hcb:cn≤140737488355328:=Nat.le_trans (Nat.le_mul_of_pos_right cn (Nat.pos_of_ne_zero hb0)) hroom
      have hlb:ln*bytes≤140737488355328:=Nat.le_trans (Nat.mul_le_mul_right _ hlc) hroom
      obtain⟨ie,de,g1,_,g3,g4,_⟩:=tyOf_some hsize
      rw[h1]at g1
      cases g1
      have st:=new_row' (e:=el) hr hn hm (VL_rep q1 cn) (one_rep q2 cn)
      refine⟨.slice (some ⟨w.heap.size,0,none⟩) ln cn,_,_,?_,VR_slice.2 ⟨_,_,_,cn,_,Ren.add_same _ _ _,rfl,hlc,.inl rfl,rfl⟩,st⟩
      rw[el_,ec_]
      have hrun:=run_make (P:=P) w t el i u hund h1 h2 kl kc (ln:Int) (cn:Int) (by omega) (by omega)
        (by rw [g4]; have : ((bytes : Int) * (cn : Int)) = ((cn * bytes : Nat) : Int) := by rw [Nat.mul_comm]; simp
            rw[this];omega) (by omega)
      simp only[Int.toNat_natCast]at hrun
      rw[hrun]
      have hrow:madeCells u.cells (cn*i.size)=⟨repU cn u.cells⟩:=by
        rw[←repU_arr,h5]
        unfold madeCells
        rw[h5]
      rw[hrow]
      rfl
theorem iface_ok {t:TypeId} {x:Operand} (hr:HR ρ h w) (hx:Rel1 P ρ fr a x) (e:(eIface P t x).f call fr h=.val v h'):VOK P ρ h w (Instr.makeInterface t (a.eval x)) v h':=by
  unfold eIface at e
  have key:∀{d:TypeDesc},P.underlying t=some d→(∀ms,d≠.interface ms)→forceV (ov P fr x) (fun a=>RV.val (.iface t a) h)=RV.val v h'→VOK P ρ h w (Instr.makeInterface t (a.eval x)) v h':=by
    intro d hd hne e
    rw[forceV_eq]at e
    cases e
    refine .same hr (u:=.iface t (a.eval x)) ?_ (by unfold VR;exact⟨_,rfl,hx⟩)
    cases d<;>first|(exact absurd rfl (hne _))|simp [Instr.makeInterface,run_underlying hd]
  cases htd:tdOf P t<;>rw[htd]at e<;>first|exact(fail_val e).elim|skip
  · exact key (td_bool htd) (by intro _ h;cases h) e
  · exact key (td_int htd) (by intro _ h;cases h) e
  · exact key (td_str htd) (by intro _ h;cases h) e
  · obtain⟨_,hd⟩:=td_ptr htd;exact key hd (by intro _ h;cases h) e
  · exact key (td_slice htd).1 (by intro _ h;cases h) e
  · exact key (td_array htd).1 (by intro _ h;cases h) e
  · obtain⟨_,hd,_⟩:=td_struct htd;exact key hd (by intro _ h;cases h) e
  · obtain⟨_,_,_,hd⟩:=td_func htd;exact key hd (by intro _ h;cases h) e
  · exact key (td_map htd) (by intro _ h;cases h) e
theorem mkFunc_ok {fn : Fn} {first captured : Array Operand} (hr : HR ρ h w) (h1 : ∀ x ∈ first.toList, Rel1 P ρ fr a x) (h2 : ∀ x ∈ captured.toList, Rel1 P ρ fr a x) (e : (eMkFunc P fn first captured).f call fr h = .val v h') :
    VOK P ρ h w (Instr.makeFunc fn (first.map a.eval) (captured.map a.eval)) v h':=by
  cases fn<;>first|exact(fail_val e).elim|skip
  case func f =>
    have e:(ogets P first.toList).f fr (fun l=>(ogets P captured.toList).f fr fun c=>.val (.func f l c) h)=.val v h':=e
    have e:=ogets_val fr captured.toList _ (ogets_val fr first.toList _ e)
    cases e
    refine .same hr (u:=.func (.func f) (first.map a.eval) (captured.map a.eval)) rfl (VR_func.2 ⟨(first.map a.eval).toList,(captured.map a.eval).toList,rfl,?_,?_⟩)
    · rw[Array.toList_map];exact VL.ofMap _ h1
    · rw[Array.toList_map];exact VL.ofMap _ h2
end
end Go.Eng
namespace Go.Eng
set_option autoImplicit false
variable [Deep] [Env]
section
variable {P:Program} {ρ:Ren} {h h':H} {w:World} {v:AV} {fr:Fr} {a:Act} {call:Caller} {ts:Array TypeId} {ty t:TypeId} {us:Array Value} {x y:AV} {u u':Value}
theorem mkLen_val {n:Nat} (e:mkLen n h=.val v h'):h'=h∧v=.int .i64 n∧n≤9223372036854775807:=by
  unfold mkLen at e
  obtain⟨h1,e⟩:=ifB_t e
  cases e
  exact⟨rfl,rfl,ble_true.1 h1⟩
theorem VR_len {n:Nat} (h:n≤9223372036854775807):VR ρ (.int .i64 n) (goInt n):=by
  refine VR_int.2 ⟨show n<18446744073709551616 by omega,?_⟩
  rw[sgn_nneg (nneg_i64 h)];rfl
theorem mapEs_val {k:List (AV×AV)→RV} (e:mapEs x h k=.val v h'):(x=.nilmap∧k []=.val v h')∨∃b es,x=.map b∧hget h b=.mp es∧k es=.val v h':=by
  cases x<;>first|exact(fail_val e).elim|exact .inl ⟨rfl,e⟩|skip
  rename_i b
  obtain⟨es,h1,h2⟩:=mpk_val (show mpk (hget h b) k=.val v h' from e)
  exact .inr ⟨b,es,rfl,h1,h2⟩
theorem HR.map (hr:HR ρ h w) {b B:Nat} {es:List (AV×AV)} (he:ρ b=some (B,0,0)) (hb:hget h b=.mp es):∃(l:Array MapEntry) (clock:Nat),w.heap[B]?=some (.map l clock)∧MR ρ es l.toList:=by
  have:=hr.blk b B 0 0 he
  rw[hb]at this
  exact this
theorem run_getObj_at {B:Nat} {es:Array MapEntry} {clock:Nat} (hB:w.heap[B]?=some (.map es clock)):(getObj B).run P w=.ok (.map es clock) w:=by simp [getObj,Sem.run,hB]
theorem len_ok (hr:HR ρ h w) (ht:ts[0]?=some t) (hu:us[0]?=some u) (hx:VR ρ x u) (e:(lenA P t).f x h=.val v h'):VOK P ρ h w (Builtin.len_ ts ty us) v h':=by
  unfold lenA at e
  cases htd:tdOf P t<;>rw[htd]at e<;>first|exact(fail_val e).elim|skip
  case str =>
    obtain⟨n,s,hq,e⟩:=asStr_val (show asStr x (fun n _=>mkLen n h)=.val v h' from e)
    obtain⟨rfl,rfl,hn⟩:=mkLen_val e
    rw[hq]at hx
    obtain⟨bs,rfl,rfl,rfl⟩:=VR_str.1 hx
    exact .same hr (u:=goInt bs.size) (by simp [Builtin.len_,ht,hu,run_underlying (td_str htd)]) (VR_len hn)
  case slice el size by_ =>
    rcases asSl_val (show asSl x (mkLen 0 h) (fun _ _ n _=>mkLen n h)=.val v h' from e) with ⟨hq,e⟩|⟨b,off,len,cap,hq,e⟩<;>rw[hq]at hx<;>obtain⟨rfl,rfl,hn⟩:=mkLen_val e
    · obtain rfl:=VR_nilslice.1 hx
      exact .same hr (u:=goInt 0) (by simp [Builtin.len_,ht,hu,run_underlying (td_slice htd).1]) (VR_len hn)
    · obtain⟨B,o,N,c,ad,hb,rfl,hlc,had,hcap⟩:=VR_slice.1 hx
      exact .same hr (u:=goInt len) (by simp [Builtin.len_,ht,hu,run_underlying (td_slice htd).1]) (VR_len hn)
  case array n el size ag =>
    obtain⟨rfl,rfl,hn⟩:=mkLen_val (show mkLen n h=.val v h' from e)
    exact .same hr (u:=goInt n) (by simp [Builtin.len_,ht,hu,run_underlying (td_array htd).1]) (VR_len hn)
  case map k el =>
    rcases mapEs_val (show mapEs x h (fun es=>forceN (llen es) fun n=>mkLen n h)=.val v h' from e) with ⟨hq,e⟩|⟨b,es,hq,hb,e⟩<;>rw[hq]at hx<;>rw[forceN_eq,llen_eq]at e<;>obtain⟨rfl,rfl,hn⟩:=mkLen_val e
    · have hx:u=.map none:=by unfold VR at hx;exact hx
      subst hx
      exact .same hr (u:=goInt 0) (by simp [Builtin.len_,ht,hu,run_underlying (td_map htd)]) (VR_len hn)
    · obtain⟨B,he,rfl⟩:=VR_map.1 hx
      obtain⟨l,clock,h1,h2,_⟩:=hr.map he hb
      have hlen:es.length=l.size:=by have:=h2.length;simpa using this.symm
      refine .same hr (u:=goInt l.size) (by simp [Builtin.len_,ht,hu,run_underlying (td_map htd),run_getObj_at h1]) ?_
      rw[←hlen];exact VR_len hn
theorem cap_ok (hr:HR ρ h w) (ht:ts[0]?=some t) (hu:us[0]?=some u) (hx:VR ρ x u) (e:(capA P t).f x h=.val v h'):VOK P ρ h w (Builtin.cap_ ts ty us) v h':=by
  unfold capA at e
  cases htd:tdOf P t<;>rw[htd]at e<;>first|exact(fail_val e).elim|skip
  case slice el size by_ =>
    rcases asSl_val (show asSl x (mkLen 0 h) (fun _ _ _ c=>Cp.rec (motive:=fun _=>RV) (fun c=>mkLen c h) (fun _=>.fail 43) c)=.val v h' from e) with ⟨hq,e⟩|⟨b,off,len,cap,hq,e⟩<;>rw[hq]at hx
    · obtain⟨rfl,rfl,hn⟩:=mkLen_val e
      obtain rfl:=VR_nilslice.1 hx
      exact .same hr (u:=goInt 0) (by simp [Builtin.cap_,ht,hu,run_underlying (td_slice htd).1]) (VR_len hn)
    · obtain⟨B,o,N,c,ad,hb,rfl,hlc,had,hcap⟩:=VR_slice.1 hx
      cases cap with
      |un s=>exact(fail_val e).elim
      |kn c' =>
        obtain rfl:c=c':=hcap
        obtain⟨rfl,rfl,hn⟩:=mkLen_val (show mkLen c h=.val v h' from e)
        exact .same hr (u:=goInt c) (by simp [Builtin.cap_,ht,hu,run_underlying (td_slice htd).1]) (VR_len hn)
  case array n el size ag =>
    obtain⟨rfl,rfl,hn⟩:=mkLen_val (show mkLen n h=.val v h' from e)
    exact .same hr (u:=goInt n) (by simp [Builtin.cap_,ht,hu,run_underlying (td_array htd).1]) (VR_len hn)
theorem min_ok (hr:HR ρ h w) (hu:us.toList=[u,u']) (hx:VR ρ x u) (hy:VR ρ y u') (e:minA x y h=.val v h'):VOK P ρ h w (Builtin.min_ ts ty us) v h':=by
  cases x with
  |int k p =>
    have e:minV k p y h=.val v h':=e
    cases y with
    |int k' q =>
      have e1:ifB (keq k k') (mkI k (ifB (ltN k q p) q p) h) (.fail 47)=.val v h':=e
      obtain⟨hk,e2⟩:=ifB_t e1
      have hk:=(keq_iff k k').1 hk
      subst hk
      have e3:=(mkI_eq k _ h).symm.trans e2
      cases e3
      obtain⟨hp,rfl⟩:=VR_int.1 hx
      obtain⟨hq,rfl⟩:=VR_int.1 hy
      refine .same hr (u:=.int k (if sgn k q<sgn k p then sgn k q else sgn k p)) (by simp [Builtin.min_,hu,Builtin.min2]) ?_
      have:=lt_ok k q p hq hp
      rw[ifB_eq,←this]
      by_cases hl:sgn k q<sgn k p
      · simp only[hl,decide_true,if_true];exact VR_int.2 ⟨hq,rfl⟩
      · simp only[hl,decide_false,if_false,Bool.false_eq_true];exact VR_int.2 ⟨hp,rfl⟩
    |_=>exact(fail_val e).elim
  |_=>exact(fail_val e).elim
end
end Go.Eng
namespace Go.Eng
set_option autoImplicit false
variable [Deep] [Env]
theorem byteCells_take:∀(n:Nat) (l:List UInt8),n≤l.length→byteCells n (codesL l)=(l.take n).map (fun b=>AV.int .u8 b.toNat)
  |0,_,_=>rfl
  |n+1,[],h=>by simp at h
  |n+1,b::l,h=>by
    have e:byteCells (n+1) (codesL (b::l))=forceN (Nat.mod (codesL (b::l)) 256) fun c=>.int .u8 c::byteCells n (Nat.div (codesL (b::l)) 256):=rfl
    have hb:=b.toNat_lt
    have h1:Nat.mod (codesL (b::l)) 256=b.toNat:=by rw[codesL_cons];show(b.toNat+256*codesL l)%256=_;omega
    have h2:Nat.div (codesL (b::l)) 256=codesL l:=by rw[codesL_cons];show(b.toNat+256*codesL l)/256=_;omega
    rw[e,forceN_eq,h1,h2,byteCells_take n l (by simpa using h)]
    rfl
section
variable {P:Program} {ρ:Ren} {h h':H} {w:World} {v:AV} {fr:Fr} {a:Act} {call:Caller} {ts:Array TypeId} {ty t:TypeId} {us:Array Value} {x y:AV} {u u':Value}
theorem run_firstStr (bs:ByteArray) (size n:Nat):(Builtin.firstCells size n (.string bs)).run P w=.ok ⟨(bs.data.toList.take n).map fun b=>Value.int .u8 b.toNat⟩ w:=by
  simp only[Builtin.firstCells,Sem.run_pure]
  congr 1
  apply Array.ext'
  simp [ByteArray.data_extract]
theorem cpTo_ok {size b off n len:Nat} {cap:Cp} {l:List AV} {vs:List Value} (hr:HR ρ h w) (hx:VR ρ (.slice b off len cap) u) (hv:VL ρ l vs) (ho:∀z∈vs,z.oneCell'=true) (hnl:n≤len)
    (hl:l.length=n*size) (e:cpTo size b off n l h=.val v h') :
    n≤9223372036854775807∧v=.int .i64 n∧∃ad c' w',u=.slice (some ad) len c'∧(storeCells ad vs).run P w=.ok () w'∧St ρ ρ h h' w w':=by
  unfold cpTo at e
  obtain⟨ro,sz,cs,hb,e⟩:=withB_val e
  obtain⟨hro,e⟩:=ifB_f e
  subst hro
  obtain⟨hfit,e⟩:=ifB_t e
  rw[csets_eq,setB_eq]at e
  obtain⟨rfl,rfl,hn⟩:=mkLen_val e
  obtain⟨B,o,N,c',ad,he,rfl,hlc,had,hcap⟩:=VR_slice.1 hx
  have hfit:off+n*size≤sz:=ble_true.1 hfit
  obtain⟨w',h1,h2⟩:=store_row (P:=P) hr he hb (by rw[hl];exact hfit) hv ho (by
    rcases had with h|h
    · exact .inl h
    · refine .inr (List.eq_nil_of_length_eq_zero ?_)
      rw[hl,show n=0 by omega,Nat.zero_mul])
  exact⟨hn,rfl,ad,c',w',rfl,h1,h2⟩
theorem copy_ok (hr:HR ρ h w) (ht:ts[0]?=some t) (hu:us[0]?=some u) (hu':us[1]?=some u') (hx:VR ρ x u) (hy:VR ρ y u') (e:(copyA P t).f x y h=.val v h'):VOK P ρ h w (Builtin.copy_ ts ty us) v h':=by
  unfold copyA at e
  cases htd:tdOf P t<;>rw[htd]at e<;>first|exact(fail_val e).elim|skip
  case slice el size by_ =>
    obtain⟨hund,ag,hsize⟩:=td_slice htd
    rcases asSl_val (show asSl x (cpNil y h) (fun b off len _=>cpSrc size b off len y h)=.val v h' from e) with ⟨hq,e⟩|⟨b,off,len,cap,hq,e⟩<;>rw[hq]at hx
    · obtain rfl:=VR_nilslice.1 hx
      have fin:(Builtin.copy_ ts ty us).run P w=.ok (goInt 0) w→mkLen 0 h=.val v h'→VOK P ρ h w (Builtin.copy_ ts ty us) v h':=by
        intro hrun e
        obtain⟨rfl,rfl,hn⟩:=mkLen_val e
        exact .same hr hrun (VR_len hn)
      cases y with
      |str n s =>
        obtain⟨bs,rfl,rfl,rfl⟩:=VR_str.1 hy
        refine fin ?_ e
        have:=run_firstStr (P:=P) (w:=w) bs size 0
        simp [Builtin.copy_,ht,hu,hu',run_underlying hund,Builtin.lenOf,run_size hsize,this]
      |nilslice =>
        obtain rfl:=VR_nilslice.1 hy
        refine fin ?_ e
        simp [Builtin.copy_,ht,hu,hu',run_underlying hund,Builtin.lenOf,run_size hsize,Builtin.firstCells]
      |slice b' o' l' c' =>
        obtain⟨B,o,N,c,ad,hb,rfl,hlc,had,hcap⟩:=VR_slice.1 hy
        refine fin ?_ e
        have:(loadCells ad 0).run P w=.ok #[] w:=by simp [loadCells,loadCellsFrom]
        simp [Builtin.copy_,ht,hu,hu',run_underlying hund,Builtin.lenOf,run_size hsize,Builtin.firstCells,this]
      |_=>exact(fail_val e).elim
    · cases y with
      |str n s =>
        obtain⟨bs,rfl,rfl,rfl⟩:=VR_str.1 hy
        have e:ifB (Nat.beq size 1) (forceN (minN bs.data.toList.length len) (fun n=>forceL (byteCells n (codesL bs.data.toList)) fun l=>cpTo size b off n l h)) (.fail 45)=.val v h':=e
        obtain⟨h1s,e⟩:=ifB_t e
        obtain rfl:size=1:=beq_true.1 h1s
        rw[forceN_eq,forceL_eq,minN_eq,byteCells_take _ _ (Nat.min_le_left ..)]at e
        have hb1:=VL_bytes ρ (bs.data.toList.take (min bs.data.toList.length len))
        have hsz:bs.data.toList.length=bs.size:=rfl
        rw[hsz]at e hb1
        obtain⟨hn,rfl,ad,c,w',rfl,k1,k2⟩:=cpTo_ok (P:=P) hr hx hb1 (by intro z hz;obtain⟨b,_,rfl⟩:=List.mem_map.1 hz;rfl) (Nat.min_le_right ..) (by simp) e
        refine⟨goInt ((min bs.size len:Nat):Int),ρ,w',?_,VR_len hn,k2⟩
        have hmin:Nat.min bs.size len=min bs.size len:=rfl
        have hf:=run_firstStr (P:=P) (w:=w) bs 1 (min bs.size len)
        simp only[Builtin.copy_,ht,hu,hu',Sem.run_bind,run_underlying hund,Result.andThen_ok,Builtin.lenOf,Sem.run_pure,run_size hsize,hmin,hf,k1]
      |nilslice =>
        obtain rfl:=VR_nilslice.1 hy
        obtain⟨rfl,rfl,hn⟩:=mkLen_val (show mkLen 0 h=.val v h' from e)
        obtain⟨B,o,N,c,ad,hb,rfl,hlc,had,hcap⟩:=VR_slice.1 hx
        refine .same hr (u:=goInt 0) ?_ (VR_len hn)
        simp [Builtin.copy_,ht,hu,hu',run_underlying hund,Builtin.lenOf,run_size hsize,Builtin.firstCells,storeCells]
      |slice b' off' len' cap' =>
        have e:forceN (minN len' len) (fun n=>withB h b' fun _ sz' cs'=>ifB (Nat.ble (Nat.add off' (Nat.mul n size)) sz') (cgets cs' (Nat.mul n size) off' fun l=>cpTo size b off n l h) (.fail 45))=.val v h':=e
        rw[forceN_eq,minN_eq]at e
        obtain⟨ro',sz',cs',hb',e⟩:=withB_val e
        obtain⟨hfit',e⟩:=ifB_t e
        rw[cgets_eq]at e
        obtain⟨B',o',N',c',ad',he',rfl,hlc',had',hcap'⟩:=VR_slice.1 hy
        have hfit':off'+(min len' len)*size≤sz':=ble_true.1 hfit'
        obtain⟨vs,g1,g2,g3,g4⟩:=load_row' (P:=P) (n:=(min len' len)*size) hr he' hb' hfit' (by
          rcases had' with h|h
          · exact .inl h
          · exact .inr (by rw[show min len' len=0 by omega,Nat.zero_mul]))
        obtain⟨hn,rfl,ad,c,w',rfl,k1,k2⟩:=cpTo_ok (P:=P) hr hx g2 g3 (Nat.min_le_right ..) (by simp) e
        refine⟨goInt ((min len' len:Nat):Int),ρ,w',?_,VR_len hn,k2⟩
        have hmin:Nat.min len' len=min len' len:=rfl
        simp [Builtin.copy_,ht,hu,hu',run_underlying hund,Builtin.lenOf,run_size hsize,Builtin.firstCells,hmin,g1,k1]
      |_=>exact(fail_val e).elim
theorem clear_ok (hr:HR ρ h w) (ht:ts[0]?=some t) (hu:us[0]?=some u) (hx:VR ρ x u) (e:(clearA P t).f x h=.val v h'):VOK P ρ h w (Builtin.clear_ ts ty us) v h':=by
  unfold clearA at e
  cases htd:tdOf P t<;>rw[htd]at e<;>first|exact(fail_val e).elim|skip
  case slice el size by_ =>
    obtain⟨hund,ag,hsize⟩:=td_slice htd
    dsimp only at e
    cases hzt:zeroT P el with
    |none=>rw[hzt]at e;exact(fail_val e).elim
    |some z =>
      rw[hzt]at e
      obtain⟨i,zu,h1,h2,h3,h4,h5⟩:=zero_rel ρ hzt
      obtain⟨q1,q2⟩:=cells_rel h3 (cellsA_of h4)
      obtain⟨ie,de,g1,_,g3,_⟩:=tyOf_some hsize
      rw[h1]at g1
      cases g1
      rcases asSl_val (show asSl x (.val und h) (fun b off len _=>ifB (Nat.beq len 0) (.val und h) (forceL (lrep len (cellsA z)) fun l=>clrTo size b off len l h))=.val v h' from e) with ⟨hq,e⟩|⟨b,off,len,cap,hq,e⟩<;>rw[hq]at hx
      · obtain rfl:=VR_nilslice.1 hx
        cases e
        exact .same hr (u:=.tuple #[]) (by simp [Builtin.clear_,ht,hu,run_underlying hund]) VR_und
      · obtain⟨B,o,N,c',ad,he,rfl,hlc,had,hcap⟩:=VR_slice.1 hx
        cases hl0:Nat.beq len 0 with
        |true =>
          obtain rfl:len=0:=beq_true.1 hl0
          rw[hl0,ifB_true]at e
          cases e
          exact .same hr (u:=.tuple #[]) (by simp [Builtin.clear_,ht,hu,run_underlying hund]) VR_und
        |false =>
          have hl0':=beq_false.1 hl0
          rw[hl0,ifB_false,forceL_eq]at e
          unfold clrTo at e
          obtain⟨ro,sz,cs,hb,e⟩:=withB_val e
          obtain⟨hro,e⟩:=ifB_f e
          subst hro
          obtain⟨hfit,e⟩:=ifB_t e
          rw[csets_eq,setB_eq]at e
          cases e
          have hfit:off+len*size≤sz:=ble_true.1 hfit
          have hlen:(lrep len (cellsA z)).length=len*size:=by
            have:=(VL_rep q1 len).length
            rw[repU_length,h5,g3]at this
            exact this.symm
          obtain⟨w',k1,k2⟩:=store_row (P:=P) hr he hb (by rw[hlen];exact hfit) (VL_rep q1 len) (one_rep q2 len) (.inl (had.resolve_right (by omega)))
          refine⟨.tuple #[],ρ,w',?_,VR_und,k2⟩
          have hz:Builtin.zeroCells zu.cells len=⟨repU len zu.cells⟩:=repU_arr len zu.cells
          obtain⟨m,rfl⟩:∃m,len=m+1:=⟨len-1,by omega⟩
          simp [Builtin.clear_,ht,hu,run_underlying hund,run_zero h1 h2,hz,k1]
end
end Go.Eng
namespace Go.Eng
set_option autoImplicit false
variable [Deep] [Env]
section
variable {P:Program} {ρ:Ren} {h h':H} {w:World} {v:AV} {ts:Array TypeId} {ty t el:TypeId} {us:Array Value} {x y:AV} {u u':Value} {size bytes:Nat} {ag:Bool} {i:TypeInfo} {zu:Value}
def Src (P:Program) (w:World) (ts:Array TypeId) (zu:Value) (size:Nat) (u':Value) (n:Nat) (vs:List Value):Prop :=
  (∃t2 d,ts[1]?=some t2∧P.underlying t2=some d∧(d=.string∨∃e,d=.slice e)∧(Builtin.lenOf u').run P w=.ok n w∧∀w':World,w'.heap=w.heap→(Builtin.firstCells size n u').run P w'=.ok ⟨vs⟩ w') ∨
  (∃t2 k kd,ts[1]?=some t2∧P.underlying t2=some (.int k)∧u'=.int kd (n:Int)∧vs=repU n zu.cells)
theorem run_append_in {ad:Addr} {len c n:Nat} {vs:List Value} {w':World} (S:Src P w ts zu size u' n vs) (hund:P.underlying t=some (.slice el)) (hsize:tyOf P el=some (size,bytes,ag))
    (h1:P.info? el=some i) (h2:i.zero=some zu) (ht:ts[0]?=some t) (hu:us[0]?=some (.slice (some ad) len c)) (hu':us[1]?=some u') (hb:n*bytes≤140737488355328) (hb0:bytes≠0) (hzs:zu.cells.size=size)
    (hfit:len+n≤c) (hst:(storeCells (ad.add (len*size)) vs).run P w=.ok () w'):(Builtin.append_ ts ty us).run P w=.ok (.slice (some ad) (len+n) c) w':=by
  obtain⟨ie,de,g1,_,g3,g4,_⟩:=tyOf_some hsize
  rw[h1]at g1
  cases g1
  rcases S with ⟨t2,d,a1,a2,a3,a4,a5⟩|⟨t2,k,kd,a1,a2,rfl,rfl⟩
  · have a5:=a5 w rfl
    rcases a3 with rfl|⟨e,rfl⟩<;>simp [Builtin.append_,ht,hu,hu',a1,run_underlying hund,run_underlying a2,run_size hsize,a4,a5,hfit,hst]
  · have hn:n≤140737488355328:=Nat.le_trans (Nat.le_mul_of_pos_right n (Nat.pos_of_ne_zero hb0)) hb
    have hw:=wrap_small' (n:=n) (by omega)
    have n1:¬((n:Int)<0):=by omega
    have n2:¬(281474976710656<(n:Int)*(bytes:Int)):=by
      have:((n:Int)*(bytes:Int))=((n*bytes:Nat):Int):=by simp
      rw[this];omega
    by_cases hz:n*size=0
    · have hv:repU n zu.cells=[]:=List.eq_nil_of_length_eq_zero (by rw[repU_length,hzs];exact hz)
      rw[hv]at hst
      simp [Builtin.append_,ht,hu,hu',a1,run_underlying hund,run_underlying a2,run_size hsize,asInt,asIntOf,hw,run_info h1,g4,n1,n2,hfit,hz,hst]
    · have hzc:Builtin.zeroCells zu.cells n=⟨repU n zu.cells⟩:=repU_arr n zu.cells
      simp [Builtin.append_,ht,hu,hu',a1,run_underlying hund,run_underlying a2,run_size hsize,asInt,asIntOf,hw,run_info h1,g4,n1,n2,hfit,hz,run_zero h1 h2,hzc,hst]
theorem run_append_nil0 {vs:List Value} (S:Src P w ts zu size u' 0 vs) (hund:P.underlying t=some (.slice el)) (hsize:tyOf P el=some (size,bytes,ag))
    (h1:P.info? el=some i) (ht:ts[0]?=some t) (hu:us[0]?=some (.slice none 0 0)) (hu':us[1]?=some u') :
    (Builtin.append_ ts ty us).run P w=.ok (.slice none 0 0) w:=by
  rcases S with ⟨t2,d,a1,a2,a3,a4,a5⟩|⟨t2,k,kd,a1,a2,rfl,rfl⟩
  · have a5:=a5 w rfl
    rcases a3 with rfl|⟨e,rfl⟩<;>simp [Builtin.append_,ht,hu,hu',a1,run_underlying hund,run_underlying a2,run_size hsize,a4,a5]
  · have hw:=wrap_small' (n:=0) (by omega)
    simp at hw
    simp [Builtin.append_,ht,hu,hu',a1,run_underlying hund,run_underlying a2,run_size hsize,asInt,asIntOf,hw,run_info h1]
theorem run_append_grow {base:Option Addr} {len c n:Nat} {vs olds:List Value} (S:Src P w ts zu size u' n vs) (hund:P.underlying t=some (.slice el)) (hsize:tyOf P el=some (size,bytes,ag))
    (h1:P.info? el=some i) (h2:i.zero=some zu) (ht:ts[0]?=some t) (hu:us[0]?=some (.slice base len c)) (hu':us[1]?=some u') (hb:(len+n)*bytes≤140737488355328) (hb0:bytes≠0) (hs0:size≠0) (hzs:zu.cells.size=size)
    (hold:∀w':World,w'.heap=w.heap→(Builtin.firstCells size len (.slice base len c)).run P w'=.ok ⟨olds⟩ w') (hfit:c<len+n) (hz:n≠0) :
    (Builtin.append_ ts ty us).run P w=.ok (.slice (some ⟨w.heap.size,0,none⟩) (len+n) (grownCap w (len+n) c el)) { w.drew with heap:=w.drew.heap.push (.cells ⟨(olds++vs)++repU (grownCap w (len+n) c el-(len+n)) zu.cells⟩ el) }:=by
  obtain⟨ie,de,g1,_,g3,g4,_⟩:=tyOf_some hsize
  rw[h1]at g1
  cases g1
  have hnf:¬(len+n≤c):=by omega
  have hlen:len+n≤140737488355328:=Nat.le_trans (Nat.le_mul_of_pos_right _ (Nat.pos_of_ne_zero hb0)) hb
  have h63:¬(9223372036854775807<((len:Int)+(n:Int))):=by omega
  have h48:¬(281474976710656<Builtin.nextslicecap (len+n) c*bytes):=by have:=growslice_fits hfit hb;omega
  have hold':=hold w.drew rfl
  have hrest:Builtin.zeroCells zu.cells (grownCap w (len+n) c el-(len+n))=⟨repU (grownCap w (len+n) c el-(len+n)) zu.cells⟩:=repU_arr _ _
  unfold grownCap at hrest
  rcases S with ⟨t2,d,a1,a2,a3,a4,a5⟩|⟨t2,k,kd,a1,a2,rfl,rfl⟩
  · have a5:=a5 w.drew rfl
    rcases a3 with rfl|⟨e,rfl⟩<;>(
      simp [Builtin.append_,ht,hu,hu',a1,run_underlying hund,run_underlying a2,run_size hsize,run_info h1,g4,a4,a5,hnf,h63,h48,hold',Question.forced,run_zero h1 h2,hrest,newRow,grownCap,hb0]
      rfl)
  · have hn:n≤140737488355328:=by omega
    have hw:=wrap_small' (n:=n) (by omega)
    have n1:¬((n:Int)<0):=by omega
    have hbn:n*bytes≤140737488355328:=Nat.le_trans (Nat.mul_le_mul_right _ (by omega)) hb
    have n2:¬(281474976710656<(n:Int)*(bytes:Int)):=by
      have:((n:Int)*(bytes:Int))=((n*bytes:Nat):Int):=by simp
      rw[this];omega
    have hz':¬n*size=0:=Nat.mul_ne_zero hz hs0
    have hzc:Builtin.zeroCells zu.cells n=⟨repU n zu.cells⟩:=repU_arr n zu.cells
    simp [Builtin.append_,ht,hu,hu',a1,run_underlying hund,run_underlying a2,run_size hsize,asInt,asIntOf,hw,run_info h1,g4,n1,n2,hnf,h63,h48,hold',Question.forced,run_zero h1 h2,hrest,newRow,grownCap,hb0,hz',hzc]
    rfl
end
end Go.Eng
