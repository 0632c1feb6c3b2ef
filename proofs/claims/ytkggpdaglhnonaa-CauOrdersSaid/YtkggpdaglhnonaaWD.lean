/- What is proved: the evaluator's slices, literals, lengths, copies and appends do what the model's do. Conditions: none. -/
import Derived.Test.YtkggpdaglhnonaaWC
import Derived.Great.BuildSlice
import Derived.Laws.MakeOwn
set_option linter.unusedVariables false
set_option linter.unusedSimpArgs false
set_option linter.unusedSectionVars false
namespace Go.Eng
set_option autoImplicit false
variable [Deep] [Env]
section
variable {P:Program} {ρ:Ren} {h h':H} {w:World} {v:AV} {fr:Fr} {a:Act} {call:Caller}
def BI (o:Option AV) (d n:Nat):Prop:=match o with|none=>n=d|some x=>∃kd,x=.int kd n∧nneg kd n=true
def BU (u:Option Value) (d n:Nat):Prop:=match u with|none=>n=d|some x=>∃kd,x=.int kd (n:Int)
def OR (ρ:Ren) (o:Option AV) (u:Option Value):Prop:=match o,u with|none,none=>True|some x,some y=>VR ρ x y|_,_=>False
theorem BI.unit {o:Option AV} {u:Option Value} {d n:Nat} (hb:BI o d n) (hr:OR ρ o u):BU u d n:=by
  cases o with
  |none=>cases u with
    |none=>exact hb
    |some y=>exact hr.elim
  |some x=>cases u with
    |none=>exact hr.elim
    |some y =>
      obtain⟨kd,rfl,hn⟩:=hb
      obtain⟨_,h2⟩:=zbb.1 (show VR ρ (.int kd n) y from hr)
      rw[zba hn]at h2
      exact⟨kd,h2⟩
theorem zsi {o:Option AV} {d:Nat} {k:Nat→RV} (e:bnd o d k=.val v h):∃n,BI o d n∧k n=.val v h:=by
  cases o with
  |none=>exact⟨d,rfl,e⟩
  |some x =>
    obtain⟨kd,n,rfl,h1,h2⟩:=zbk (show intIdx x k=.val v h from e)
    exact⟨n,⟨kd,rfl,h1⟩,h2⟩
theorem zda {lo hi:Option AV} {len top:Nat} {k:Nat→Nat→RV} (e:bnds lo hi len top k=.val v h):∃l hh,BI lo 0 l∧BI hi len hh∧l≤hh∧hh≤top∧k l hh=.val v h:=by
  unfold bnds at e
  obtain⟨l,h1,e⟩:=zsi e
  obtain⟨hh,h2,e⟩:=zsi e
  obtain⟨h3,e⟩:=za8 e
  obtain⟨h4,e⟩:=za8 e
  exact⟨l,hh,h1,h2,zad.1 h3,zad.1 h4,e⟩
theorem zcz {u:Value} {kd:IntKind} {n y:Nat} {code:BoundsCode} (hu:u=.int kd (n:Int)) (hn:n≤y):(Instr.sliceBound u y code).run P w=.ok n w:=by
  subst hu
  have:(0:Int)≤n∧(n:Int)≤y:=by omega
  simp [Instr.sliceBound,asIntOf,this]
theorem zbR {isS:Bool} {len cap l hh m:Nat} {lo hi mx:Option Value} (hl:BU lo 0 l) (hh1:BU hi len hh) (hm:BU mx cap m) (h1:l≤hh) (h2:hh≤m) (h3:m≤cap) (hx:hi=none→mx=none) :
    (Instr.sliceBounds isS len cap lo hi mx).run P w=.ok (l,hh,m) w:=by
  cases mx with
  |none =>
    have hm:m=cap:=hm
    subst hm
    cases hi with
    |none =>
      have hh1:hh=len:=hh1
      subst hh1
      cases lo with
      |none=>have hl:l=0:=hl;subst hl;simp [Instr.sliceBounds]
      |some u=>obtain⟨kd,hu⟩:=hl;simp [Instr.sliceBounds,zcz hu h1]
    |some y =>
      obtain⟨ky,hy⟩:=hh1
      cases lo with
      |none=>have hl:l=0:=hl;subst hl;simp [Instr.sliceBounds,zcz hy h2]
      |some u=>obtain⟨kd,hu⟩:=hl;simp [Instr.sliceBounds,zcz hu h1,zcz hy h2]
  |some z =>
    obtain⟨kz,hz⟩:=hm
    cases hi with
    |none=>cases hx rfl
    |some y =>
      obtain⟨ky,hy⟩:=hh1
      cases lo with
      |none=>have hl:l=0:=hl;subst hl;simp [Instr.sliceBounds,zcz hy h2,zcz hz h3]
      |some u=>obtain⟨kd,hu⟩:=hl;simp [Instr.sliceBounds,zcz hu h1,zcz hy h2,zcz hz h3]
theorem zhJ {b off l hh c size B o N:Nat} {ad:Addr} (hb:ρ b=some (B,o,N)) (had:ad=⟨B,o+off,none⟩∨c=0) (h1:l≤hh) (h2:hh≤c) (e:slTo b off l hh c size h=.val v h') :
    h'=h∧VR ρ v (.slice (some (if c=l then ad else ad.add (l*size))) (hh-l) (c-l)):=by
  unfold slTo at e
  rw[zbz]at e
  split at e
  · rename_i hc
    have hc:=zai.1 hc
    cases e
    refine⟨rfl,zaN.2 ⟨B,o,N,c-l,if c=l then ad else ad.add (l*size),hb,?_,Nat.zero_le _,.inr (by omega),show c-l=0 by omega⟩⟩
    rw[show hh-l=0 by omega]
  · rename_i hc
    have hc:c≠l:=fun x=>hc (zai.2 x)
    simp only[zak]at e
    cases e
    refine⟨rfl,zaN.2 ⟨B,o,N,c-l,ad.add (l*size),hb,?_,by show hh-l≤c-l;omega,.inl ?_,rfl⟩⟩
    · rw[if_neg hc];rfl
    · rw[had.resolve_right (by omega),Addr.add_none,Nat.add_assoc];rfl
theorem ztd {b off len:Nat} {cap:Cp} {lo hi mx:Option AV} {r:H→RV} (e:slHd b off len cap lo hi mx r h=.val v h') :
    (lo=none∧mx=none∧∃kd m,hi=some (.int kd m)∧nneg kd m=true∧m≤len∧h'=h∧v=.slice b off m cap)∨r h=.val v h':=by
  cases mx with
  |some l=>exact .inr e
  |none =>
    cases lo with
    |some m=>exact .inr e
    |none =>
      cases hi with
      |none=>exact .inr e
      |some y =>
        obtain⟨kd,m,rfl,h1,e⟩:=zbk (show intIdx y (fun m=>ifB (Nat.ble m len) (.val (.slice b off m cap) h) (r h))=.val v h' from e)
        rw[zbz]at e
        split at e
        · rename_i h2
          cases e
          exact .inl ⟨rfl,rfl,kd,m,rfl,h1,zad.1 h2,rfl,rfl⟩
        · exact .inr e
theorem zta {t:TypeId} {x:AV} {u:Value} {lo hi mx:Option AV} {lu hu mu:Option Value} (hr:HR ρ h w) (hx:VR ρ x u) (hlo:OR ρ lo lu) (hhi:OR ρ hi hu) (hmx:OR ρ mx mu)
    (hno:hu=none→mu=none) (e:(sliceA P t).f x lo hi mx h=.val v h'):VOK P ρ h w (Instr.sliceAt t u lu hu mu) v h':=by
  unfold sliceA at e
  cases htd:zaz P t<;>rw[htd]at e<;>first|exact(zab e).elim|skip
  case str =>
    have e:noMx mx (asStr x fun n s=>ztc n s lo hi h)=.val v h':=e
    cases mx with
    |some y=>exact(zab e).elim
    |none =>
      cases mu with
      |some y=>exact hmx.elim
      |none =>
        obtain⟨n,s,hq,e⟩:=ze7 (show asStr x (fun n s=>ztc n s lo hi h)=.val v h' from e)
        rw[hq]at hx
        unfold ztc at e
        obtain⟨l,hh,b1,b2,h1,h2,e⟩:=zda e
        rw[zlA]at e
        cases e
        obtain⟨bs,rfl,rfl,rfl⟩:=VR_str.1 hx
        have hrun:=zbR (P:=P) (w:=w) (isS:=false) (mx:=none) (b1.unit hlo) (b2.unit hhi) rfl h1 h2 (Nat.le_refl _) (fun _=>rfl)
        have hsz:bs.data.toList.length=bs.size:=rfl
        rw[hsz]at hrun h2
        have hc:(bs.extract l hh).data.toList=(bs.data.toList.drop l).take (hh-l):=by
          simp [ByteArray.data_extract]
        refine .same hr (u:=.string (bs.extract l hh)) ?_ (VR_str.2 ⟨_,rfl,?_,?_⟩)
        · have hund:=zeH htd
          simp [Instr.sliceAt,Instr.slice,run_underlying hund,hrun]
        · rw[hc];simp;show min _ _=Nat.sub hh l;have:(Nat.sub hh l)=hh-l:=rfl;have:=hsz;simp at this;omega
        · rw[hc,←zk2];rfl
  case slice el size by_ =>
    obtain⟨hund,ag,hsize⟩:=zbu htd
    have e:slSl size x lo hi mx h=.val v h':=e
    unfold slSl at e
    rcases zcR e with ⟨hq,e⟩|⟨b,off,len,cap,hq,e⟩<;>rw[hq]at hx
    · obtain rfl:=zbd.1 hx
      have fin:∀{l hh:Nat},(Instr.sliceBounds true 0 0 lu hu mu).run P w=.ok (l,hh,0) w→l≤hh→hh≤0→VOK P ρ h w (Instr.sliceAt t (.slice none 0 0) lu hu mu) .nilslice h:=by
        intro l hh hrun h1 h2
        have hl:l=0:=by omega
        have hh0:hh=0:=by omega
        subst hl;subst hh0
        exact .same hr (u:=.slice none 0 0) (by simp [Instr.sliceAt,Instr.slice,run_underlying hund,hrun,za0 hsize]) (zbd.2 rfl)
      unfold slNil at e
      cases mx with
      |none =>
        cases mu with
        |some y=>exact hmx.elim
        |none =>
          obtain⟨l,hh,b1,b2,h1,h2,e⟩:=zda (show bnds lo hi 0 0 (fun _ _=>.val .nilslice h)=.val v h' from e)
          cases e
          exact fin (zbR (b1.unit hlo) (b2.unit hhi) rfl h1 h2 (Nat.le_refl _) hno) h1 h2
      |some y =>
        cases mu with
        |none=>exact hmx.elim
        |some y' =>
          obtain⟨kd,m,hqy,hn,e⟩:=zbk (show intIdx y _=.val v h' from e)
          rw[hqy]at hmx
          obtain⟨hm0,e⟩:=za8 e
          obtain rfl:=zai.1 hm0
          obtain⟨l,hh,b1,b2,h1,h2,e⟩:=zda e
          cases e
          have bm:BU (some y') 0 0:=BI.unit (o:=some (.int kd 0)) ⟨kd,rfl,hn⟩ hmx
          exact fin (zbR (b1.unit hlo) (b2.unit hhi) bm h1 h2 (Nat.le_refl _) hno) h1 h2
    · obtain⟨B,o,N,c,ad,hb,rfl,hlc,had,hcap⟩:=zaN.1 hx
      have fin:∀{l hh m:Nat},(Instr.sliceBounds true len c lu hu mu).run P w=.ok (l,hh,m) w →
          (Instr.sliceAt t (.slice (some ad) len c) lu hu mu).run P w=.ok (.slice (some (if m=l then ad else ad.add (l*size))) (hh-l) (m-l)) w:=by
        intro l hh m hrun
        by_cases hml:m=l<;>simp [Instr.sliceAt,Instr.slice,run_underlying hund,hrun,za0 hsize,hml]
      have had0:∀{m:Nat},m≤c→ad=⟨B,o+off,none⟩∨m=0:=fun hm=>by
        rcases had with h|h
        · exact .inl h
        · exact .inr (by omega)
      have e:slHd b off len cap lo hi mx (Cp.rec (motive:=fun _=>H→RV) (fun c h=>slCap b off len c size lo hi mx h) (fun es h=>slUnk b off len es size lo hi mx h) cap) h=.val v h':=e
      rcases ztd e with ⟨rfl,rfl,kd,m,rfl,hn,hml,rfl,rfl⟩|e
      · cases lu with
        |some y=>exact hlo.elim
        |none =>
          cases mu with
          |some y=>exact hmx.elim
          |none =>
            have b2:BI (some (AV.int kd m)) len m:=⟨kd,rfl,hn⟩
            have f:=fin (zbR (P:=P) (w:=w) (isS:=true) (len:=len) (cap:=c) (l:=0) (hh:=m) (m:=c) (lo:=none) (mx:=none) rfl (b2.unit hhi) rfl (Nat.zero_le _) (Nat.le_trans hml hlc) (Nat.le_refl _) hno)
            refine .same hr f (zaN.2 ⟨B,o,N,c,_,hb,rfl,Nat.le_trans hml hlc,?_,hcap⟩)
            by_cases hc0:c=0
            · exact .inr hc0
            · rw[if_neg hc0,had.resolve_right hc0,Addr.add_none,Nat.zero_mul];exact .inl rfl
      cases cap with
      |kn c' =>
        have hcap:c=c':=hcap
        subst hcap
        have e:slCap b off len c size lo hi mx h=.val v h':=e
        unfold slCap at e
        cases mx with
        |none =>
          cases mu with
          |some y=>exact hmx.elim
          |none =>
            obtain⟨l,hh,b1,b2,h1,h2,e⟩:=zda (show bnds lo hi len c (fun l hh=>slTo b off l hh c size h)=.val v h' from e)
            obtain⟨rfl,hv⟩:=zhJ hb (had0 (Nat.le_refl _)) h1 h2 e
            exact .same hr (fin (zbR (b1.unit hlo) (b2.unit hhi) rfl h1 h2 (Nat.le_refl _) hno)) hv
        |some y =>
          cases mu with
          |none=>exact hmx.elim
          |some y' =>
            obtain⟨kd,m,hqy,hn,e⟩:=zbk (show intIdx y _=.val v h' from e)
            rw[hqy]at hmx
            obtain⟨hm0,e⟩:=za8 e
            have hm0:=zad.1 hm0
            obtain⟨l,hh,b1,b2,h1,h2,e⟩:=zda e
            have bm:BU (some y') c m:=BI.unit (o:=some (.int kd m)) ⟨kd,rfl,hn⟩ hmx
            obtain⟨rfl,hv⟩:=zhJ hb (had0 hm0) h1 h2 e
            exact .same hr (fin (zbR (b1.unit hlo) (b2.unit hhi) bm h1 h2 hm0 hno)) hv
      |un es =>
        have hcap:(o+off)+c*es=N:=hcap
        have e:slUnk b off len es size lo hi mx h=.val v h':=e
        unfold slUnk at e
        obtain⟨hes,e⟩:=za8 e
        obtain rfl:=zai.1 hes
        cases mx with
        |none =>
          cases mu with
          |some y=>exact hmx.elim
          |none =>
            obtain⟨l,hh,b1,b2,h1,h2,e⟩:=zda (show bnds lo hi len len (fun l hh=>forceN (Nat.add off (Nat.mul l es)) fun o=>forceN (Nat.sub hh l) fun n=>.val (.slice b o n (.un es)) h)=.val v h' from e)
            simp only[zak]at e
            cases e
            refine .same hr (fin (zbR (b1.unit hlo) (b2.unit hhi) rfl h1 (Nat.le_trans h2 hlc) (Nat.le_refl _) hno)) (zaN.2 ⟨B,o,N,c-l,_,hb,rfl,by show hh-l≤c-l;omega,?_,?_⟩)
            · by_cases hcl:c=l
              · exact .inr (by omega)
              · rw[if_neg hcl,had.resolve_right (by omega),Addr.add_none,Nat.add_assoc];exact .inl rfl
            · show o+(off+l*es)+(c-l)*es=N
              have:c*es=l*es+(c-l)*es:=by rw[←Nat.add_mul];congr 1;omega
              have:l*es+(c-l)*es=c*es:=this.symm
              omega
        |some y =>
          cases mu with
          |none=>exact hmx.elim
          |some y' =>
            obtain⟨kd,m,hqy,hn,e⟩:=zbk (show intIdx y _=.val v h' from e)
            rw[hqy]at hmx
            obtain⟨hm0,e⟩:=za8 e
            have hm0:=Nat.le_trans (zad.1 hm0) hlc
            obtain⟨l,hh,b1,b2,h1,h2,e⟩:=zda e
            have bm:BU (some y') c m:=BI.unit (o:=some (.int kd m)) ⟨kd,rfl,hn⟩ hmx
            obtain⟨rfl,hv⟩:=zhJ hb (had0 hm0) h1 h2 e
            exact .same hr (fin (zbR (b1.unit hlo) (b2.unit hhi) bm h1 h2 hm0 hno)) hv
  case array n el size ag =>
    obtain⟨hund,by_,hsize⟩:=zdu htd
    obtain⟨b,off,hq,e⟩:=zch (show asPtr x (fun b off=>slCap b off n n size lo hi mx h)=.val v h' from e)
    rw[hq]at hx
    obtain⟨B,o,N,hb,rfl⟩:=zea.1 hx
    have fin:∀{l hh m:Nat},(Instr.sliceBounds false n n lu hu mu).run P w=.ok (l,hh,m) w →
        (Instr.sliceAt t (.pointer (some ⟨B,o+off,none⟩)) lu hu mu).run P w=.ok (.slice (some (if m=l then⟨B,o+off,none⟩ else(⟨B,o+off,none⟩:Addr).add (l*size))) (hh-l) (m-l)) w:=by
      intro l hh m hrun
      by_cases hml:m=l<;>simp [Instr.sliceAt,Instr.sureAddr,run_underlying hund,hrun,za0 hsize,hml]
    unfold slCap at e
    cases mx with
    |none =>
      cases mu with
      |some y=>exact hmx.elim
      |none =>
        obtain⟨l,hh,b1,b2,h1,h2,e⟩:=zda (show bnds lo hi n n (fun l hh=>slTo b off l hh n size h)=.val v h' from e)
        obtain⟨rfl,hv⟩:=zhJ hb (.inl rfl) h1 h2 e
        exact .same hr (fin (zbR (b1.unit hlo) (b2.unit hhi) rfl h1 h2 (Nat.le_refl _) hno)) hv
    |some y =>
      cases mu with
      |none=>exact hmx.elim
      |some y' =>
        obtain⟨kd,m,hqy,hn,e⟩:=zbk (show intIdx y _=.val v h' from e)
        rw[hqy]at hmx
        obtain⟨hm0,e⟩:=za8 e
        have hm0:=zad.1 hm0
        obtain⟨l,hh,b1,b2,h1,h2,e⟩:=zda e
        have bm:BU (some y') n m:=BI.unit (o:=some (.int kd m)) ⟨kd,rfl,hn⟩ hmx
        obtain⟨rfl,hv⟩:=zhJ hb (.inl rfl) h1 h2 e
        exact .same hr (fin (zbR (b1.unit hlo) (b2.unit hhi) bm h1 h2 hm0 hno)) hv
end
end Go.Eng
namespace Go.Eng
set_option autoImplicit false
variable [Deep] [Env]
theorem zlE {α:Type} (n:Nat) (l:List α):lrep (n+1) l=l++lrep n l:=by
  show lapp l (lrep n l)=_
  rw[zcq]
theorem zfJ {α:Type} (l:List α):∀n:Nat,(lrep n l).length=n*l.length
  |0=>by rw[Nat.zero_mul];rfl
  |n+1=>by rw[zlE,List.length_append,zfJ l n,Nat.add_mul];omega
theorem zn4 {α:Type} (l:List α):∀(n i:Nat),i<n*l.length→(lrep n l)[i]?=l[i%l.length]?
  |0,i,h=>by simp at h
  |n+1,i,h=>by
    rw[zlE]
    have hpos:0<l.length:=by
      cases l with
      |nil=>simp at h
      |cons=>simp
    by_cases hi:i<l.length
    · rw[List.getElem?_append_left hi,Nat.mod_eq_of_lt hi]
    · have h2:(n+1)*l.length=n*l.length+l.length:=Nat.succ_mul ..
      have h3:i%l.length=(i-l.length)%l.length:=Nat.mod_eq_sub_mod (by omega)
      rw[List.getElem?_append_right (by omega),zn4 l n (i-l.length) (by omega),h3]
def zkU (n:Nat) (us:Array Value):List Value:=(List.range (n*us.size)).map (us[·%us.size]!)
theorem zfh (n:Nat) (us:Array Value):(Array.range (n*us.size)).map (us[·%us.size]!)=⟨zkU n us⟩:=by
  unfold zkU
  apply Array.ext'
  simp
theorem zcL (n:Nat) (us:Array Value):(zkU n us).length=n*us.size:=by simp [zkU]
theorem znO (n:Nat) (us:Array Value) (i:Nat) (h:i<n*us.size):(zkU n us)[i]?=us.toList[i%us.size]?:=by
  have hpos:0<us.size:=Nat.pos_of_ne_zero fun e=>by rw[e]at h;simp at h
  have hlt:=Nat.mod_lt i hpos
  simp only[zkU,List.getElem?_map,List.getElem?_range h,Option.map_some]
  rw[getElem!_pos us _ hlt,Array.getElem?_toList,Array.getElem?_eq_getElem hlt]
theorem zjJ {ρ:Ren} {l:List AV} {us:Array Value} (h:VL ρ l us.toList) (n:Nat):VL ρ (lrep n l) (zkU n us):=by
  have hlen:=h.length
  have hlen:us.size=l.length:=by simpa using hlen
  refine VL.mk (by rw[zfJ,zcL,hlen]) fun i a hi=>?_
  have hlt:i<n*l.length:=by
    have:=(List.getElem?_eq_some_iff.1 hi).1
    rwa [zfJ]at this
  rw[zn4 l n i hlt]at hi
  rw[znO n us i (by rw[hlen];exact hlt),hlen]
  exact h.get _ _ hi
theorem zj8 {us:Array Value} (h:∀u∈us.toList,u.oneCell'=true) (n:Nat):∀u∈zkU n us,u.oneCell'=true:=by
  intro u hu
  obtain⟨i,hi⟩:=List.mem_iff_getElem?.1 hu
  have hlt:i<n*us.size:=by
    have:=(List.getElem?_eq_some_iff.1 hi).1
    rwa [zcL]at this
  rw[znO n us i hlt]at hi
  exact h u (List.mem_of_getElem? hi)
theorem zog (off:Nat):∀(l:List Value) (k:Nat) (cs:Array Value),off+k+l.length≤cs.size →
    (l.zipIdx k).foldl (fun cs (x:Value×Nat)=>cs.setIfInBounds (off+x.2) x.1) cs=spl cs (off+k) l
  | [],k,cs,_=>by rw[zmv];rfl
  |v::l,k,cs,h=>by
    simp at h
    rw[List.zipIdx_cons,List.foldl_cons,zog off l (k+1) _ (by simp;omega)]
    apply Array.ext_getElem?
    intro m
    rw[zgx _ _ _ (by simp;omega),zgx _ _ _ (by simp;omega)]
    simp only[List.length_cons]
    by_cases hm:m=off+k
    · subst hm
      rw[if_neg (by omega),if_pos (by omega),Array.getElem?_setIfInBounds_self_of_lt (by omega)]
      simp
    · rw[Array.getElem?_setIfInBounds_ne (Ne.symm hm)]
      by_cases hm2:off+(k+1)≤m∧m<off+(k+1)+l.length
      · rw[if_pos hm2,if_pos (by omega)]
        obtain⟨q,hq⟩:∃q,m-(off+k)=q+1:=⟨m-(off+k)-1,by omega⟩
        rw[hq,show m-(off+(k+1))=q by omega]
        simp
      · rw[if_neg hm2,if_neg (by omega)]
theorem zqb (cs:List AV) (off:Nat) (l:List AV) (n:Nat):splice cs off l n=cs.take off++(l++cs.drop (off+n)):=by
  unfold splice
  rw[zcq,zcq,zkh,zkk];rfl
section
variable {P:Program} {ρ:Ren} {h h':H} {w:World} {v:AV} {fr:Fr} {a:Act} {call:Caller}
theorem zhu {place:Nat→Option (Nat×Nat)}:∀(parts:List (Nat×Operand)) (cs:List AV) (us:Array Value) (k:List AV→RV),VL ρ cs us.toList→(∀u∈us.toList,u.oneCell'=true) →
    (∀p∈parts,zc0 P ρ fr a p.2)→(zfs P place parts).f fr cs k=.val v h' →
    ∃cs' us',Instr.fill place us (parts.map fun p=>(p.1,a.eval p.2))=some us'∧VL ρ cs' us'.toList∧(∀u∈us'.toList,u.oneCell'=true)∧us'.size=us.size∧k cs'=.val v h'
  | [],cs,us,k,hv,ho,_,e=>⟨cs,us,rfl,hv,ho,rfl,e⟩
  |p::parts,cs,us,k,hv,ho,hp,e=>by
    have e:osome 28 (place p.1) (fun os=>forceV (ov P fr p.2) fun a=>cellsK a fun l =>
      ifB (Nat.beq (llen l) os.2) (ifB (Nat.ble (Nat.add os.1 os.2) (llen cs)) (forceL (splice cs os.1 l os.2) fun cs=>(zfs P place parts).f fr cs k) (.fail 28)) (.fail 28))=.val v h':=e
    obtain⟨⟨off,size⟩,hpl,e⟩:=zcA e
    rw[zaP]at e
    obtain⟨l,hl,e⟩:=zgR e
    obtain⟨h1,e⟩:=za8 e
    obtain⟨h2,e⟩:=za8 e
    have h1:=zai.1 h1
    have h2:=zad.1 h2
    rw[zbS]at h1 h2
    have h2:off+size≤cs.length:=h2
    have h1:l.length=size:=h1
    rw[za3,zqb]at e
    obtain⟨q1,q2⟩:=zcg (hp p (by simp)) hl
    have hsz:(a.eval p.2).cells.size=size:=by have:=q1.length;simp at this;omega
    have hus:us.size=cs.length:=by have:=hv.length;simpa using this
    have hsp:VL ρ (cs.take off++(l++cs.drop (off+size))) (spl us off (a.eval p.2).cells.toList).toList:=by
      unfold spl
      simp only[List.append_assoc]
      refine(hv.take off).append (q1.append ?_)
      have:(a.eval p.2).cells.toList.length=size:=by simpa using hsz
      rw[this]
      exact hv.drop _
    have hone:∀u∈(spl us off (a.eval p.2).cells.toList).toList,u.oneCell'=true:=by
      intro u hu
      unfold spl at hu
      simp only[List.mem_append]at hu
      rcases hu with (hu|hu)|hu
      · exact ho u (List.mem_of_mem_take hu)
      · exact q2 u hu
      · exact ho u (List.mem_of_mem_drop hu)
    obtain⟨cs',us',r1,r2,r3,r4,r5⟩:=zhu parts _ _ k hsp hone (fun x hx=>hp x (by simp [hx])) e
    refine⟨cs',us',?_,r2,r3,?_,r5⟩
    · show Instr.fill place us ((p.1,a.eval p.2)::parts.map fun p=>(p.1,a.eval p.2))=some us'
      unfold Instr.fill
      rw[hpl]
      have hc:¬((a.eval p.2).cells.size≠size∨off+(a.eval p.2).cells.size>us.size):=by rw[hsz,hus];omega
      have hc':((decide ((a.eval p.2).cells.size≠size))||decide (off+(a.eval p.2).cells.size>us.size))=false:=by
        rw[hsz,hus];simp;omega
      have hf:=zog off (a.eval p.2).cells.toList 0 us (by simp;omega)
      have hz:(a.eval p.2).cells.zipIdx.foldl (fun cs (x:Value×Nat)=>cs.setIfInBounds (off+x.2) x.1) us=spl us off (a.eval p.2).cells.toList:=by
        rw[←Array.foldl_toList]
        have:(a.eval p.2).cells.zipIdx.toList=(a.eval p.2).cells.toList.zipIdx 0:=by simp
        rw[this]
        exact hf
      simp only[hc']
      rw[if_neg (by simp)]
      rw[←r1]
      congr 1
    · rw[r4,zjO _ _ _ (by simp;omega)]
theorem zhV (parts:Array (Nat×Operand)):(parts.map fun(i,x)=>(i,a.eval x)).toList=parts.toList.map fun p=>(p.1,a.eval p.2):=by simp
theorem zln:∀{l:List Field} {fs:List FD},zhd P l=some fs→l.mapM (fun f=>(P.info? f.type).map fun i=>(f.offset,i.size))=some (fs.map fun d=>(d.off,d.size))
  | [],fs,h=>by unfold zhd at h;cases h;rfl
  |f::l,fs,h=>by
    unfold zhd at h
    split at h
    · rename_i x xs h1 h2
      cases h
      unfold fdOf at h1
      split at h1
      · rename_i s b a hs
        cases h1
        obtain⟨i,d,e1,_,e3,_⟩:=zbM hs
        simp [List.mapM_cons,e1,zln h2,e3]
      · cases h1
    · cases h
theorem zkw (fs:List FD):fieldPlace fs=fun i=>((fs.map fun d=>(d.off,d.size)).toArray)[i]?:=by
  funext i
  unfold fieldPlace
  rw[zb9]
  simp only[List.getElem?_toArray,List.getElem?_map]
  cases fs[i]?<;>rfl
theorem zup {t:TypeId} {parts:Array (Nat×Operand)} (hr:HR ρ h w) (hp:∀p∈parts.toList,zc0 P ρ fr a p.2) (e:(zg7 P t parts).f call fr h=.val v h') :
    VOK P ρ h w (Instr.build t (parts.map fun(i,x)=>(i,a.eval x))) v h':=by
  unfold zg7 at e
  cases hz:zaS P t with
  |none=>rw[hz]at e;exact(zab e).elim
  |some z =>
    rw[hz]at e
    obtain⟨i,u,h1,h2,h3,h4,h5⟩:=zec ρ hz
    obtain⟨q1,q2⟩:=zcg h3 (zdp h4)
    dsimp only at e
    cases htd:zaz P t<;>rw[htd]at e<;>first|exact(zab e).elim|skip
    case array n el size ag =>
      obtain⟨hund,by_,hsize⟩:=zdu htd
      obtain⟨ie,de,g1,_,g3,_⟩:=zbM hsize
      have e:(zfs P (fun i=>some (Nat.mul i size,size)) parts.toList).f fr (zaX z) (fun cs=>.val (.agg cs) h)=.val v h':=e
      obtain⟨cs',us',r1,r2,r3,r4,r5⟩:=zhu parts.toList _ u.cells _ q1 q2 hp e
      cases r5
      refine .same hr (u:=.agg us') ?_ (zfy.2 ⟨us'.toList,by simp,r2,r3⟩)
      refine run_build w t _ _ ?_
      unfold Program.built
      rw[h1,hund]
      simp only[h2,g1]
      rw[zhV,g3]
      exact r1
    case struct fs =>
      obtain⟨F,hund,hfs⟩:=zeG htd
      have e:(zfs P (fieldPlace fs) parts.toList).f fr (zaX z) (fun cs=>.val (.agg cs) h)=.val v h':=e
      obtain⟨cs',us',r1,r2,r3,r4,r5⟩:=zhu parts.toList _ u.cells _ q1 q2 hp e
      cases r5
      refine .same hr (u:=.agg us') ?_ (zfy.2 ⟨us'.toList,by simp,r2,r3⟩)
      refine run_build w t _ _ ?_
      unfold Program.built
      rw[h1,hund]
      simp only[h2,zln hfs]
      rw[zhV,←zkw]
      exact r1
end
end Go.Eng
namespace Go.Eng
set_option autoImplicit false
variable [Deep] [Env]
section
variable {P:Program} {ρ:Ren} {h h':H} {w:World} {v:AV} {fr:Fr} {a:Act} {call:Caller}
theorem zkG {t:TypeId} {len:Nat} {parts:Array (Nat×Operand)} (hr:HR ρ h w) (hn:ρ h.nx=none) (hp:∀p∈parts.toList,zc0 P ρ fr a p.2) (e:(zb4 P t len parts).f call fr h=.val v h') :
    VOK P ρ h w (Instr.buildSlice t len (parts.map fun(i,x)=>(i,a.eval x))) v h':=by
  unfold zb4 at e
  cases htd:zaz P t<;>rw[htd]at e<;>first|exact(zab e).elim|skip
  case slice el size by_ =>
    obtain⟨hund,ag,hsize⟩:=zbu htd
    dsimp only at e
    cases hz0:Nat.beq (Nat.mul len size) 0 with
    |true =>
      have hz:len*size=0:=zai.1 hz0
      rw[hz0,zac]at e
      cases hpl:parts.toList with
      |cons x y=>simp only[hpl]at e;exact(zab e).elim
      |nil =>
        simp only[hpl]at e
        obtain⟨hm,e⟩:=zcr e
        cases e
        have hpa:parts=#[]:=by simpa using hpl
        subst hpa
        have st:=zgf (e:=el) (us:=[]) hr hn hm VL.nil (by simp)
        refine⟨.slice (some ⟨w.heap.size,0,none⟩) len len,_,_,?_,zaN.2 ⟨_,_,_,len,_,Ren.add_same _ _ _,rfl,Nat.le_refl _,.inl rfl,rfl⟩,st⟩
        have e0:(Array.map (fun _=>(default:Value)) (Array.range 0))=⟨[]⟩:=by simp [Array.range]
        simp [Instr.buildSlice,run_underlying hund,za0 hsize,hz,Instr.fill,newRow]
        rw[e0]
    |false =>
      have hz:¬len*size=0:=zav.1 hz0
      rw[hz0,zah]at e
      cases hb:Nat.ble (Nat.mul len size) 16777216 with
      |false=>rw[hb]at e;exact(zab e).elim
      |true =>
        have hb':len*size≤16777216:=zad.1 hb
        rw[hb,zac]at e
        cases hzt:zaS P el with
        |none=>rw[hzt]at e;exact(zab e).elim
        |some z =>
          rw[hzt]at e
          obtain⟨i,u,h1,h2,h3,h4,h5⟩:=zec ρ hzt
          obtain⟨q1,q2⟩:=zcg h3 (zdp h4)
          have e:(zfs P (fun i=>some (Nat.mul i size,size)) parts.toList).f fr (lrep len (zaX z)) (fun cs=>newBlk h cs fun b h=>.val (.slice b 0 len (.kn len)) h)=.val v h':=e
          obtain⟨ie,de,g1,_,g3,_⟩:=zbM hsize
          rw[h1]at g1
          cases g1
          have hv:=zjJ q1 len
          obtain⟨cs',us',r1,r2,r3,r4,r5⟩:=zhu parts.toList _ ⟨zkU len u.cells⟩ _ hv (zj8 q2 len) hp e
          obtain⟨hm,r5⟩:=zcr r5
          cases r5
          have st:=zgf (e:=el) hr hn hm r2 r3
          refine⟨.slice (some ⟨w.heap.size,0,none⟩) len len,_,_,?_,zaN.2 ⟨_,_,_,len,_,Ren.add_same _ _ _,rfl,Nat.le_refl _,.inl rfl,rfl⟩,st⟩
          have:=run_buildSlice w t el len (parts.map fun(i,x)=>(i,a.eval x)) us' i u hund h1 h2 (by rw[g3];omega) (by rw[g3];exact hz)
            (by rw[zhV,←r1,←zfh,h5,g3];rfl)
          rw[this]
          rfl
theorem zgC {m b:Nat}:zh3 m b=true↔m*b≤140737488355328:=zad
theorem znV {n:Nat} (h:n≤9223372036854775807):nneg .i64 n=true:=zad.2 (show n+1≤9223372036854775808 by omega)
theorem zfB {n:Nat} (h:n≤9223372036854775807):IntKind.i64.wrap (n:Int)=n:=by
  rw[zly .i64 n (show n<18446744073709551616 by omega),zba (znV h)]
theorem zlC {t:TypeId} {l c:Operand} (hr:HR ρ h w) (hn:ρ h.nx=none) (hl:zc0 P ρ fr a l) (hc:zc0 P ρ fr a c) (e:(zeq P t l c).f call fr h=.val v h') :
    VOK P ρ h w (Instr.makeSlice t (a.eval l) (a.eval c)) v h':=by
  unfold zeq at e
  cases htd:zaz P t<;>rw[htd]at e<;>first|exact(zab e).elim|skip
  case slice el size bytes =>
    obtain⟨hund,ag,hsize⟩:=zbu htd
    dsimp only at e
    cases hzt:zaS P el with
    |none=>rw[hzt]at e;exact(zab e).elim
    |some z =>
      rw[hzt]at e
      obtain⟨i,u,h1,h2,h3,h4,h5⟩:=zec ρ hzt
      obtain⟨q1,q2⟩:=zcg h3 (zdp h4)
      obtain⟨kl,ln,hql,hnl,e⟩:=zbk (show intIdx (ov P fr l) (fun l=>intIdx ((zag P c).f fr) fun c =>
        ifB (Nat.ble l c) (ifB (Nat.beq bytes 0) (.fail 59) (ifB (zh3 c bytes) (forceL (lrep c (zaX z)) fun cs=>newBlk h cs fun b h=>.val (.slice b 0 l (.kn c)) h) (.fail 59))) (.fail 59))=.val v h' from e)
      obtain⟨kc,cn,hqc,hnc,e⟩:=zbk e
      obtain⟨hlc,e⟩:=za8 e
      obtain⟨hb0,e⟩:=zgJ e
      obtain⟨hroom,e⟩:=za8 e
      have hlc:=zad.1 hlc
      have hb0:=zav.1 hb0
      have hroom:=zgC.1 hroom
      rw[za3]at e
      obtain⟨hm,e⟩:=zcr e
      cases e
      have el_:=zoc hl hql hnl
      have ec_:=zoc hc hqc hnc
      have hcb:cn≤140737488355328:=Nat.le_trans (Nat.le_mul_of_pos_right cn (Nat.pos_of_ne_zero hb0)) hroom
      have hlb:ln*bytes≤140737488355328:=Nat.le_trans (Nat.mul_le_mul_right _ hlc) hroom
      obtain⟨ie,de,g1,_,g3,g4,_⟩:=zbM hsize
      rw[h1]at g1
      cases g1
      have st:=zgf (e:=el) hr hn hm (zjJ q1 cn) (zj8 q2 cn)
      refine⟨.slice (some ⟨w.heap.size,0,none⟩) ln cn,_,_,?_,zaN.2 ⟨_,_,_,cn,_,Ren.add_same _ _ _,rfl,hlc,.inl rfl,rfl⟩,st⟩
      rw[el_,ec_]
      have hrun:=run_make (P:=P) w t el i u hund h1 h2 kl kc (ln:Int) (cn:Int) (by omega) (by omega)
        (by rw [g4]; have : ((bytes : Int) * (cn : Int)) = ((cn * bytes : Nat) : Int) := by rw [Nat.mul_comm]; simp
            rw[this];omega) (by omega)
      simp only[Int.toNat_natCast]at hrun
      rw[hrun]
      have hrow:madeCells u.cells (cn*i.size)=⟨zkU cn u.cells⟩:=by
        rw[←zfh,h5]
        unfold madeCells
        rw[h5]
      rw[hrow]
      rfl
theorem ztQ {t:TypeId} {x:Operand} (hr:HR ρ h w) (hx:zc0 P ρ fr a x) (e:(zl0 P t x).f call fr h=.val v h'):VOK P ρ h w (Instr.makeInterface t (a.eval x)) v h':=by
  unfold zl0 at e
  have key:∀{d:TypeDesc},P.underlying t=some d→(∀ms,d≠.interface ms)→forceV (ov P fr x) (fun a=>RV.val (.iface t a) h)=RV.val v h'→VOK P ρ h w (Instr.makeInterface t (a.eval x)) v h':=by
    intro d hd hne e
    rw[zaP]at e
    cases e
    refine .same hr (u:=.iface t (a.eval x)) ?_ (by unfold VR;exact⟨_,rfl,hx⟩)
    cases d<;>first|(exact absurd rfl (hne _))|simp [Instr.makeInterface,run_underlying hd]
  cases htd:zaz P t<;>rw[htd]at e<;>first|exact(zab e).elim|skip
  · exact key (zjK htd) (by intro _ h;cases h) e
  · exact key (zgY htd) (by intro _ h;cases h) e
  · exact key (zeH htd) (by intro _ h;cases h) e
  · obtain⟨_,hd⟩:=zuO htd;exact key hd (by intro _ h;cases h) e
  · exact key (zbu htd).1 (by intro _ h;cases h) e
  · exact key (zdu htd).1 (by intro _ h;cases h) e
  · obtain⟨_,hd,_⟩:=zeG htd;exact key hd (by intro _ h;cases h) e
  · obtain⟨_,_,_,hd⟩:=zp4 htd;exact key hd (by intro _ h;cases h) e
  · exact key (zjc htd) (by intro _ h;cases h) e
theorem zq6 {fn : Fn} {first captured : Array Operand} (hr : HR ρ h w) (h1 : ∀ x ∈ first.toList, zc0 P ρ fr a x) (h2 : ∀ x ∈ captured.toList, zc0 P ρ fr a x) (e : (zrX P fn first captured).f call fr h = .val v h') :
    VOK P ρ h w (Instr.makeFunc fn (first.map a.eval) (captured.map a.eval)) v h':=by
  cases fn<;>first|exact(zab e).elim|skip
  case func f =>
    have e:(ogets P first.toList).f fr (fun l=>(ogets P captured.toList).f fr fun c=>.val (.func f l c) h)=.val v h':=e
    have e:=zga fr captured.toList _ (zga fr first.toList _ e)
    cases e
    refine .same hr (u:=.func (.func f) (first.map a.eval) (captured.map a.eval)) rfl (ziN.2 ⟨(first.map a.eval).toList,(captured.map a.eval).toList,rfl,?_,?_⟩)
    · rw[Array.toList_map];exact VL.ofMap _ h1
    · rw[Array.toList_map];exact VL.ofMap _ h2
end
end Go.Eng
namespace Go.Eng
set_option autoImplicit false
variable [Deep] [Env]
section
variable {P:Program} {ρ:Ren} {h h':H} {w:World} {v:AV} {fr:Fr} {a:Act} {call:Caller} {ts:Array TypeId} {ty t:TypeId} {us:Array Value} {x y:AV} {u u':Value}
theorem zbf {n:Nat} (e:mkLen n h=.val v h'):h'=h∧v=.int .i64 n∧n≤9223372036854775807:=by
  unfold mkLen at e
  obtain⟨h1,e⟩:=za8 e
  cases e
  exact⟨rfl,rfl,zad.1 h1⟩
theorem zeb {n:Nat} (h:n≤9223372036854775807):VR ρ (.int .i64 n) (goInt n):=by
  refine zbb.2 ⟨show n<18446744073709551616 by omega,?_⟩
  rw[zba (znV h)];rfl
theorem zgg {k:List (AV×AV)→RV} (e:zmT x h k=.val v h'):(x=.nilmap∧k []=.val v h')∨∃b es,x=.map b∧hget h b=.mp es∧k es=.val v h':=by
  cases x<;>first|exact(zab e).elim|exact .inl ⟨rfl,e⟩|skip
  rename_i b
  obtain⟨es,h1,h2⟩:=zq2 (show mpk (hget h b) k=.val v h' from e)
  exact .inr ⟨b,es,rfl,h1,h2⟩
theorem HR.map (hr:HR ρ h w) {b B:Nat} {es:List (AV×AV)} (he:ρ b=some (B,0,0)) (hb:hget h b=.mp es):∃(l:Array MapEntry) (clock:Nat),w.heap[B]?=some (.map l clock)∧MR ρ es l.toList:=by
  have:=hr.blk b B 0 0 he
  rw[hb]at this
  exact this
theorem zcx {B:Nat} {es:Array MapEntry} {clock:Nat} (hB:w.heap[B]?=some (.map es clock)):(getObj B).run P w=.ok (.map es clock) w:=by simp [getObj,Sem.run,hB]
theorem len_ok (hr:HR ρ h w) (ht:ts[0]?=some t) (hu:us[0]?=some u) (hx:VR ρ x u) (e:(zrj P t).f x h=.val v h'):VOK P ρ h w (Builtin.len_ ts ty us) v h':=by
  unfold zrj at e
  cases htd:zaz P t<;>rw[htd]at e<;>first|exact(zab e).elim|skip
  case str =>
    obtain⟨n,s,hq,e⟩:=ze7 (show asStr x (fun n _=>mkLen n h)=.val v h' from e)
    obtain⟨rfl,rfl,hn⟩:=zbf e
    rw[hq]at hx
    obtain⟨bs,rfl,rfl,rfl⟩:=VR_str.1 hx
    exact .same hr (u:=goInt bs.size) (by simp [Builtin.len_,ht,hu,run_underlying (zeH htd)]) (zeb hn)
  case slice el size by_ =>
    rcases zcR (show asSl x (mkLen 0 h) (fun _ _ n _=>mkLen n h)=.val v h' from e) with ⟨hq,e⟩|⟨b,off,len,cap,hq,e⟩<;>rw[hq]at hx<;>obtain⟨rfl,rfl,hn⟩:=zbf e
    · obtain rfl:=zbd.1 hx
      exact .same hr (u:=goInt 0) (by simp [Builtin.len_,ht,hu,run_underlying (zbu htd).1]) (zeb hn)
    · obtain⟨B,o,N,c,ad,hb,rfl,hlc,had,hcap⟩:=zaN.1 hx
      exact .same hr (u:=goInt len) (by simp [Builtin.len_,ht,hu,run_underlying (zbu htd).1]) (zeb hn)
  case array n el size ag =>
    obtain⟨rfl,rfl,hn⟩:=zbf (show mkLen n h=.val v h' from e)
    exact .same hr (u:=goInt n) (by simp [Builtin.len_,ht,hu,run_underlying (zdu htd).1]) (zeb hn)
  case map k el =>
    rcases zgg (show zmT x h (fun es=>forceN (llen es) fun n=>mkLen n h)=.val v h' from e) with ⟨hq,e⟩|⟨b,es,hq,hb,e⟩<;>rw[hq]at hx<;>rw[zak,zbS]at e<;>obtain⟨rfl,rfl,hn⟩:=zbf e
    · have hx:u=.map none:=by unfold VR at hx;exact hx
      subst hx
      exact .same hr (u:=goInt 0) (by simp [Builtin.len_,ht,hu,run_underlying (zjc htd)]) (zeb hn)
    · obtain⟨B,he,rfl⟩:=zjI.1 hx
      obtain⟨l,clock,h1,h2,_⟩:=hr.map he hb
      have hlen:es.length=l.size:=by have:=h2.length;simpa using this.symm
      refine .same hr (u:=goInt l.size) (by simp [Builtin.len_,ht,hu,run_underlying (zjc htd),zcx h1]) ?_
      rw[←hlen];exact zeb hn
theorem cap_ok (hr:HR ρ h w) (ht:ts[0]?=some t) (hu:us[0]?=some u) (hx:VR ρ x u) (e:(zvq P t).f x h=.val v h'):VOK P ρ h w (Builtin.cap_ ts ty us) v h':=by
  unfold zvq at e
  cases htd:zaz P t<;>rw[htd]at e<;>first|exact(zab e).elim|skip
  case slice el size by_ =>
    rcases zcR (show asSl x (mkLen 0 h) (fun _ _ _ c=>Cp.rec (motive:=fun _=>RV) (fun c=>mkLen c h) (fun _=>.fail 43) c)=.val v h' from e) with ⟨hq,e⟩|⟨b,off,len,cap,hq,e⟩<;>rw[hq]at hx
    · obtain⟨rfl,rfl,hn⟩:=zbf e
      obtain rfl:=zbd.1 hx
      exact .same hr (u:=goInt 0) (by simp [Builtin.cap_,ht,hu,run_underlying (zbu htd).1]) (zeb hn)
    · obtain⟨B,o,N,c,ad,hb,rfl,hlc,had,hcap⟩:=zaN.1 hx
      cases cap with
      |un s=>exact(zab e).elim
      |kn c' =>
        obtain rfl:c=c':=hcap
        obtain⟨rfl,rfl,hn⟩:=zbf (show mkLen c h=.val v h' from e)
        exact .same hr (u:=goInt c) (by simp [Builtin.cap_,ht,hu,run_underlying (zbu htd).1]) (zeb hn)
  case array n el size ag =>
    obtain⟨rfl,rfl,hn⟩:=zbf (show mkLen n h=.val v h' from e)
    exact .same hr (u:=goInt n) (by simp [Builtin.cap_,ht,hu,run_underlying (zdu htd).1]) (zeb hn)
theorem min_ok (hr:HR ρ h w) (hu:us.toList=[u,u']) (hx:VR ρ x u) (hy:VR ρ y u') (e:minA x y h=.val v h'):VOK P ρ h w (Builtin.min_ ts ty us) v h':=by
  cases x with
  |int k p =>
    have e:minV k p y h=.val v h':=e
    cases y with
    |int k' q =>
      have e1:ifB (keq k k') (mkI k (ifB (ltN k q p) q p) h) (.fail 47)=.val v h':=e
      obtain⟨hk,e2⟩:=za8 e1
      have hk:=(za1 k k').1 hk
      subst hk
      have e3:=(za5 k _ h).symm.trans e2
      cases e3
      obtain⟨hp,rfl⟩:=zbb.1 hx
      obtain⟨hq,rfl⟩:=zbb.1 hy
      refine .same hr (u:=.int k (if sgn k q<sgn k p then sgn k q else sgn k p)) (by simp [Builtin.min_,hu,Builtin.min2]) ?_
      have:=zo5 k q p hq hp
      rw[zbz,←this]
      by_cases hl:sgn k q<sgn k p
      · simp only[hl,decide_true,if_true];exact zbb.2 ⟨hq,rfl⟩
      · simp only[hl,decide_false,if_false,Bool.false_eq_true];exact zbb.2 ⟨hp,rfl⟩
    |_=>exact(zab e).elim
  |_=>exact(zab e).elim
end
end Go.Eng
namespace Go.Eng
set_option autoImplicit false
variable [Deep] [Env]
theorem zfw:∀(n:Nat) (l:List UInt8),n≤l.length→byteCells n (zaj l)=(l.take n).map (fun b=>AV.int .u8 b.toNat)
  |0,_,_=>rfl
  |n+1,[],h=>by simp at h
  |n+1,b::l,h=>by
    have e:byteCells (n+1) (zaj (b::l))=forceN (Nat.mod (zaj (b::l)) 256) fun c=>.int .u8 c::byteCells n (Nat.div (zaj (b::l)) 256):=rfl
    have hb:=b.toNat_lt
    have h1:Nat.mod (zaj (b::l)) 256=b.toNat:=by rw[zbl];show(b.toNat+256*zaj l)%256=_;omega
    have h2:Nat.div (zaj (b::l)) 256=zaj l:=by rw[zbl];show(b.toNat+256*zaj l)/256=_;omega
    rw[e,zak,h1,h2,zfw n l (by simpa using h)]
    rfl
section
variable {P:Program} {ρ:Ren} {h h':H} {w:World} {v:AV} {fr:Fr} {a:Act} {call:Caller} {ts:Array TypeId} {ty t:TypeId} {us:Array Value} {x y:AV} {u u':Value}
theorem zeL (bs:ByteArray) (size n:Nat):(Builtin.firstCells size n (.string bs)).run P w=.ok ⟨(bs.data.toList.take n).map fun b=>Value.int .u8 b.toNat⟩ w:=by
  simp only[Builtin.firstCells,Sem.run_pure]
  congr 1
  apply Array.ext'
  simp [ByteArray.data_extract]
theorem zr4 {size b off n len:Nat} {cap:Cp} {l:List AV} {vs:List Value} (hr:HR ρ h w) (hx:VR ρ (.slice b off len cap) u) (hv:VL ρ l vs) (ho:∀z∈vs,z.oneCell'=true) (hnl:n≤len)
    (hl:l.length=n*size) (e:zuf size b off n l h=.val v h') :
    n≤9223372036854775807∧v=.int .i64 n∧∃ad c' w',u=.slice (some ad) len c'∧(storeCells ad vs).run P w=.ok () w'∧St ρ ρ h h' w w':=by
  unfold zuf at e
  obtain⟨ro,sz,cs,hb,e⟩:=zbe e
  obtain⟨hro,e⟩:=zgJ e
  subst hro
  obtain⟨hfit,e⟩:=za8 e
  rw[zbi,zeI]at e
  obtain⟨rfl,rfl,hn⟩:=zbf e
  obtain⟨B,o,N,c',ad,he,rfl,hlc,had,hcap⟩:=zaN.1 hx
  have hfit:off+n*size≤sz:=zad.1 hfit
  obtain⟨w',h1,h2⟩:=zf0 (P:=P) hr he hb (by rw[hl];exact hfit) hv ho (by
    rcases had with h|h
    · exact .inl h
    · refine .inr (List.eq_nil_of_length_eq_zero ?_)
      rw[hl,show n=0 by omega,Nat.zero_mul])
  exact⟨hn,rfl,ad,c',w',rfl,h1,h2⟩
theorem zxh (hr:HR ρ h w) (ht:ts[0]?=some t) (hu:us[0]?=some u) (hu':us[1]?=some u') (hx:VR ρ x u) (hy:VR ρ y u') (e:(ziB P t).f x y h=.val v h'):VOK P ρ h w (Builtin.copy_ ts ty us) v h':=by
  unfold ziB at e
  cases htd:zaz P t<;>rw[htd]at e<;>first|exact(zab e).elim|skip
  case slice el size by_ =>
    obtain⟨hund,ag,hsize⟩:=zbu htd
    rcases zcR (show asSl x (cpNil y h) (fun b off len _=>cpSrc size b off len y h)=.val v h' from e) with ⟨hq,e⟩|⟨b,off,len,cap,hq,e⟩<;>rw[hq]at hx
    · obtain rfl:=zbd.1 hx
      have fin:(Builtin.copy_ ts ty us).run P w=.ok (goInt 0) w→mkLen 0 h=.val v h'→VOK P ρ h w (Builtin.copy_ ts ty us) v h':=by
        intro hrun e
        obtain⟨rfl,rfl,hn⟩:=zbf e
        exact .same hr hrun (zeb hn)
      cases y with
      |str n s =>
        obtain⟨bs,rfl,rfl,rfl⟩:=VR_str.1 hy
        refine fin ?_ e
        have:=zeL (P:=P) (w:=w) bs size 0
        simp [Builtin.copy_,ht,hu,hu',run_underlying hund,Builtin.lenOf,za0 hsize,this]
      |nilslice =>
        obtain rfl:=zbd.1 hy
        refine fin ?_ e
        simp [Builtin.copy_,ht,hu,hu',run_underlying hund,Builtin.lenOf,za0 hsize,Builtin.firstCells]
      |slice b' o' l' c' =>
        obtain⟨B,o,N,c,ad,hb,rfl,hlc,had,hcap⟩:=zaN.1 hy
        refine fin ?_ e
        have:(loadCells ad 0).run P w=.ok #[] w:=by simp [loadCells,loadCellsFrom]
        simp [Builtin.copy_,ht,hu,hu',run_underlying hund,Builtin.lenOf,za0 hsize,Builtin.firstCells,this]
      |_=>exact(zab e).elim
    · cases y with
      |str n s =>
        obtain⟨bs,rfl,rfl,rfl⟩:=VR_str.1 hy
        have e:ifB (Nat.beq size 1) (forceN (zjp bs.data.toList.length len) (fun n=>forceL (byteCells n (zaj bs.data.toList)) fun l=>zuf size b off n l h)) (.fail 45)=.val v h':=e
        obtain⟨h1s,e⟩:=za8 e
        obtain rfl:size=1:=zai.1 h1s
        rw[zak,za3,zeT,zfw _ _ (Nat.min_le_left ..)]at e
        have hb1:=zhz ρ (bs.data.toList.take (min bs.data.toList.length len))
        have hsz:bs.data.toList.length=bs.size:=rfl
        rw[hsz]at e hb1
        obtain⟨hn,rfl,ad,c,w',rfl,k1,k2⟩:=zr4 (P:=P) hr hx hb1 (by intro z hz;obtain⟨b,_,rfl⟩:=List.mem_map.1 hz;rfl) (Nat.min_le_right ..) (by simp) e
        refine⟨goInt ((min bs.size len:Nat):Int),ρ,w',?_,zeb hn,k2⟩
        have hmin:Nat.min bs.size len=min bs.size len:=rfl
        have hf:=zeL (P:=P) (w:=w) bs 1 (min bs.size len)
        simp only[Builtin.copy_,ht,hu,hu',Sem.run_bind,run_underlying hund,Result.andThen_ok,Builtin.lenOf,Sem.run_pure,za0 hsize,hmin,hf,k1]
      |nilslice =>
        obtain rfl:=zbd.1 hy
        obtain⟨rfl,rfl,hn⟩:=zbf (show mkLen 0 h=.val v h' from e)
        obtain⟨B,o,N,c,ad,hb,rfl,hlc,had,hcap⟩:=zaN.1 hx
        refine .same hr (u:=goInt 0) ?_ (zeb hn)
        simp [Builtin.copy_,ht,hu,hu',run_underlying hund,Builtin.lenOf,za0 hsize,Builtin.firstCells,storeCells]
      |slice b' off' len' cap' =>
        have e:forceN (zjp len' len) (fun n=>zed h b' fun _ sz' cs'=>ifB (Nat.ble (Nat.add off' (Nat.mul n size)) sz') (cgets cs' (Nat.mul n size) off' fun l=>zuf size b off n l h) (.fail 45))=.val v h':=e
        rw[zak,zeT]at e
        obtain⟨ro',sz',cs',hb',e⟩:=zbe e
        obtain⟨hfit',e⟩:=za8 e
        rw[zbL]at e
        obtain⟨B',o',N',c',ad',he',rfl,hlc',had',hcap'⟩:=zaN.1 hy
        have hfit':off'+(min len' len)*size≤sz':=zad.1 hfit'
        obtain⟨vs,g1,g2,g3,g4⟩:=zlF (P:=P) (n:=(min len' len)*size) hr he' hb' hfit' (by
          rcases had' with h|h
          · exact .inl h
          · exact .inr (by rw[show min len' len=0 by omega,Nat.zero_mul]))
        obtain⟨hn,rfl,ad,c,w',rfl,k1,k2⟩:=zr4 (P:=P) hr hx g2 g3 (Nat.min_le_right ..) (by simp) e
        refine⟨goInt ((min len' len:Nat):Int),ρ,w',?_,zeb hn,k2⟩
        have hmin:Nat.min len' len=min len' len:=rfl
        simp [Builtin.copy_,ht,hu,hu',run_underlying hund,Builtin.lenOf,za0 hsize,Builtin.firstCells,hmin,g1,k1]
      |_=>exact(zab e).elim
theorem zuh (hr:HR ρ h w) (ht:ts[0]?=some t) (hu:us[0]?=some u) (hx:VR ρ x u) (e:(ziF P t).f x h=.val v h'):VOK P ρ h w (Builtin.clear_ ts ty us) v h':=by
  unfold ziF at e
  cases htd:zaz P t<;>rw[htd]at e<;>first|exact(zab e).elim|skip
  case slice el size by_ =>
    obtain⟨hund,ag,hsize⟩:=zbu htd
    dsimp only at e
    cases hzt:zaS P el with
    |none=>rw[hzt]at e;exact(zab e).elim
    |some z =>
      rw[hzt]at e
      obtain⟨i,zu,h1,h2,h3,h4,h5⟩:=zec ρ hzt
      obtain⟨q1,q2⟩:=zcg h3 (zdp h4)
      obtain⟨ie,de,g1,_,g3,_⟩:=zbM hsize
      rw[h1]at g1
      cases g1
      rcases zcR (show asSl x (.val und h) (fun b off len _=>ifB (Nat.beq len 0) (.val und h) (forceL (lrep len (zaX z)) fun l=>zxm size b off len l h))=.val v h' from e) with ⟨hq,e⟩|⟨b,off,len,cap,hq,e⟩<;>rw[hq]at hx
      · obtain rfl:=zbd.1 hx
        cases e
        exact .same hr (u:=.tuple #[]) (by simp [Builtin.clear_,ht,hu,run_underlying hund]) zfx
      · obtain⟨B,o,N,c',ad,he,rfl,hlc,had,hcap⟩:=zaN.1 hx
        cases hl0:Nat.beq len 0 with
        |true =>
          obtain rfl:len=0:=zai.1 hl0
          rw[hl0,zac]at e
          cases e
          exact .same hr (u:=.tuple #[]) (by simp [Builtin.clear_,ht,hu,run_underlying hund]) zfx
        |false =>
          have hl0':=zav.1 hl0
          rw[hl0,zah,za3]at e
          unfold zxm at e
          obtain⟨ro,sz,cs,hb,e⟩:=zbe e
          obtain⟨hro,e⟩:=zgJ e
          subst hro
          obtain⟨hfit,e⟩:=za8 e
          rw[zbi,zeI]at e
          cases e
          have hfit:off+len*size≤sz:=zad.1 hfit
          have hlen:(lrep len (zaX z)).length=len*size:=by
            have:=(zjJ q1 len).length
            rw[zcL,h5,g3]at this
            exact this.symm
          obtain⟨w',k1,k2⟩:=zf0 (P:=P) hr he hb (by rw[hlen];exact hfit) (zjJ q1 len) (zj8 q2 len) (.inl (had.resolve_right (by omega)))
          refine⟨.tuple #[],ρ,w',?_,zfx,k2⟩
          have hz:Builtin.zeroCells zu.cells len=⟨zkU len zu.cells⟩:=zfh len zu.cells
          obtain⟨m,rfl⟩:∃m,len=m+1:=⟨len-1,by omega⟩
          simp [Builtin.clear_,ht,hu,run_underlying hund,zee h1 h2,hz,k1]
end
end Go.Eng
namespace Go.Eng
set_option autoImplicit false
variable [Deep] [Env]
section
variable {P:Program} {ρ:Ren} {h h':H} {w:World} {v:AV} {ts:Array TypeId} {ty t el:TypeId} {us:Array Value} {x y:AV} {u u':Value} {size bytes:Nat} {ag:Bool} {i:TypeInfo} {zu:Value}
def Src (P:Program) (w:World) (ts:Array TypeId) (zu:Value) (size:Nat) (u':Value) (n:Nat) (vs:List Value):Prop :=
  (∃t2 d,ts[1]?=some t2∧P.underlying t2=some d∧(d=.string∨∃e,d=.slice e)∧(Builtin.lenOf u').run P w=.ok n w∧∀w':World,w'.heap=w.heap→(Builtin.firstCells size n u').run P w'=.ok ⟨vs⟩ w') ∨
  (∃t2 k kd,ts[1]?=some t2∧P.underlying t2=some (.int k)∧u'=.int kd (n:Int)∧vs=zkU n zu.cells)
theorem zeg {ad:Addr} {len c n:Nat} {vs:List Value} {w':World} (S:Src P w ts zu size u' n vs) (hund:P.underlying t=some (.slice el)) (hsize:zcj P el=some (size,bytes,ag))
    (h1:P.info? el=some i) (h2:i.zero=some zu) (ht:ts[0]?=some t) (hu:us[0]?=some (.slice (some ad) len c)) (hu':us[1]?=some u') (hb:n*bytes≤140737488355328) (hb0:bytes≠0) (hzs:zu.cells.size=size)
    (hfit:len+n≤c) (hst:(storeCells (ad.add (len*size)) vs).run P w=.ok () w'):(Builtin.append_ ts ty us).run P w=.ok (.slice (some ad) (len+n) c) w':=by
  obtain⟨ie,de,g1,_,g3,g4,_⟩:=zbM hsize
  rw[h1]at g1
  cases g1
  rcases S with ⟨t2,d,a1,a2,a3,a4,a5⟩|⟨t2,k,kd,a1,a2,rfl,rfl⟩
  · have a5:=a5 w rfl
    rcases a3 with rfl|⟨e,rfl⟩<;>simp [Builtin.append_,ht,hu,hu',a1,run_underlying hund,run_underlying a2,za0 hsize,a4,a5,hfit,hst]
  · have hn:n≤140737488355328:=Nat.le_trans (Nat.le_mul_of_pos_right n (Nat.pos_of_ne_zero hb0)) hb
    have hw:=zfB (n:=n) (by omega)
    have n1:¬((n:Int)<0):=by omega
    have n2:¬(281474976710656<(n:Int)*(bytes:Int)):=by
      have:((n:Int)*(bytes:Int))=((n*bytes:Nat):Int):=by simp
      rw[this];omega
    by_cases hz:n*size=0
    · have hv:zkU n zu.cells=[]:=List.eq_nil_of_length_eq_zero (by rw[zcL,hzs];exact hz)
      rw[hv]at hst
      simp [Builtin.append_,ht,hu,hu',a1,run_underlying hund,run_underlying a2,za0 hsize,asInt,asIntOf,hw,zef h1,g4,n1,n2,hfit,hz,hst]
    · have hzc:Builtin.zeroCells zu.cells n=⟨zkU n zu.cells⟩:=zfh n zu.cells
      simp [Builtin.append_,ht,hu,hu',a1,run_underlying hund,run_underlying a2,za0 hsize,asInt,asIntOf,hw,zef h1,g4,n1,n2,hfit,hz,zee h1 h2,hzc,hst]
theorem zhO {vs:List Value} (S:Src P w ts zu size u' 0 vs) (hund:P.underlying t=some (.slice el)) (hsize:zcj P el=some (size,bytes,ag))
    (h1:P.info? el=some i) (ht:ts[0]?=some t) (hu:us[0]?=some (.slice none 0 0)) (hu':us[1]?=some u') :
    (Builtin.append_ ts ty us).run P w=.ok (.slice none 0 0) w:=by
  rcases S with ⟨t2,d,a1,a2,a3,a4,a5⟩|⟨t2,k,kd,a1,a2,rfl,rfl⟩
  · have a5:=a5 w rfl
    rcases a3 with rfl|⟨e,rfl⟩<;>simp [Builtin.append_,ht,hu,hu',a1,run_underlying hund,run_underlying a2,za0 hsize,a4,a5]
  · have hw:=zfB (n:=0) (by omega)
    simp at hw
    simp [Builtin.append_,ht,hu,hu',a1,run_underlying hund,run_underlying a2,za0 hsize,asInt,asIntOf,hw,zef h1]
theorem run_append_grow {base:Option Addr} {len c n:Nat} {vs olds:List Value} (S:Src P w ts zu size u' n vs) (hund:P.underlying t=some (.slice el)) (hsize:zcj P el=some (size,bytes,ag))
    (h1:P.info? el=some i) (h2:i.zero=some zu) (ht:ts[0]?=some t) (hu:us[0]?=some (.slice base len c)) (hu':us[1]?=some u') (hb:(len+n)*bytes≤140737488355328) (hb0:bytes≠0) (hs0:size≠0) (hzs:zu.cells.size=size)
    (hold:∀w':World,w'.heap=w.heap→(Builtin.firstCells size len (.slice base len c)).run P w'=.ok ⟨olds⟩ w') (hfit:c<len+n) (hz:n≠0) :
    (Builtin.append_ ts ty us).run P w=.ok (.slice (some ⟨w.heap.size,0,none⟩) (len+n) (grownCap w (len+n) c el)) { w.drew with heap:=w.drew.heap.push (.cells ⟨(olds++vs)++zkU (grownCap w (len+n) c el-(len+n)) zu.cells⟩ el) }:=by
  obtain⟨ie,de,g1,_,g3,g4,_⟩:=zbM hsize
  rw[h1]at g1
  cases g1
  have hnf:¬(len+n≤c):=by omega
  have hlen:len+n≤140737488355328:=Nat.le_trans (Nat.le_mul_of_pos_right _ (Nat.pos_of_ne_zero hb0)) hb
  have h63:¬(9223372036854775807<((len:Int)+(n:Int))):=by omega
  have h48:¬(281474976710656<Builtin.nextslicecap (len+n) c*bytes):=by have:=growslice_fits hfit hb;omega
  have hold':=hold w.drew rfl
  have hrest:Builtin.zeroCells zu.cells (grownCap w (len+n) c el-(len+n))=⟨zkU (grownCap w (len+n) c el-(len+n)) zu.cells⟩:=zfh _ _
  unfold grownCap at hrest
  rcases S with ⟨t2,d,a1,a2,a3,a4,a5⟩|⟨t2,k,kd,a1,a2,rfl,rfl⟩
  · have a5:=a5 w.drew rfl
    rcases a3 with rfl|⟨e,rfl⟩<;>(
      simp [Builtin.append_,ht,hu,hu',a1,run_underlying hund,run_underlying a2,za0 hsize,zef h1,g4,a4,a5,hnf,h63,h48,hold',Question.forced,zee h1 h2,hrest,newRow,grownCap,hb0]
      rfl)
  · have hn:n≤140737488355328:=by omega
    have hw:=zfB (n:=n) (by omega)
    have n1:¬((n:Int)<0):=by omega
    have hbn:n*bytes≤140737488355328:=Nat.le_trans (Nat.mul_le_mul_right _ (by omega)) hb
    have n2:¬(281474976710656<(n:Int)*(bytes:Int)):=by
      have:((n:Int)*(bytes:Int))=((n*bytes:Nat):Int):=by simp
      rw[this];omega
    have hz':¬n*size=0:=Nat.mul_ne_zero hz hs0
    have hzc:Builtin.zeroCells zu.cells n=⟨zkU n zu.cells⟩:=zfh n zu.cells
    simp [Builtin.append_,ht,hu,hu',a1,run_underlying hund,run_underlying a2,za0 hsize,asInt,asIntOf,hw,zef h1,g4,n1,n2,hnf,h63,h48,hold',Question.forced,zee h1 h2,hrest,newRow,grownCap,hb0,hz',hzc]
    rfl
end
end Go.Eng
