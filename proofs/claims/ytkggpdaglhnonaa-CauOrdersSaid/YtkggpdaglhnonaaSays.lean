/- What is proved: CauOrders, walked. Conditions: as each theorem says. -/
import Derived.Test.YtkggpdaglhnonaaLate
import Derived.Test.YtkggpdaglhnonaaCauB
set_option linter.unusedVariables false
set_option linter.unusedSimpArgs false
set_option linter.unusedSectionVars false
namespace Go.Plain
open Go.Eng
set_option autoImplicit false
theorem ztw (n:Nd):(zbm n).length=n.outs.length+n.locs.length:=by unfold zbm;rw[List.length_map,List.length_append]
theorem zum {l:List Nd} (h:∀n∈l,(zbm n).Nodup∧(∀q∈n.eqs,q.nm∈zbm n)∧∀s∈zbm n,∃q∈n.eqs,q.nm=s):zhf l=none↔(l.all fun n=>(zbU n).isSome)=true:=by
 rw[zjF,List.all_eq_true]
 refine⟨fun g n hn=>?_,fun g n hn=>?_⟩
 ·obtain⟨o,e⟩:=(zjm (h n hn)).2 (g n hn)
  rw[e];rfl
 ·exact(zjm (h n hn)).1 (Option.isSome_iff_exists.1 (g n hn))
end Go.Plain
namespace Go.Proofs.Ytkggpdaglhnonaa
open Go.Eng Go.Plain
set_option autoImplicit false
set_option maxRecDepth 100000
variable {nat:∀ [Deep],Nats}
@[go_sem] theorem flt_good10:zew Try.prog 33 false=true:=by kernel_rfl
theorem zoh {a b c d:Nat}:(eqB Try.prog 33).f (.agg [.int .i64 a,.int .i64 b]) (.agg [.int .i64 c,.int .i64 d])=oB (some (Nat.beq a c)) (oB (some (Nat.beq b d)) (some true) (some false) none) (some false) none:=by kernel_rfl
attribute [-go_sem] Go.Eng.wp_block in
set_option maxHeartbeats 16000000 in
theorem zja (U:Usual nat) (hk:∀ [Deep],nat 46=some zgv) (η:HN) (T:By) (hT:T.length≤9223372036854775807) :
  ∃v η',zaE Try.prog nat 17 [.str T.length (zaj T)] η v η'∧v=.bool true:=by
 refine zam (PT:=pl17) Try.func17 rfl (U 17 (by decide)) ok17 rfl ?_
 simp -implicitDefEqProofs(disch:=omega)only[go_sem,Go.Eng.wp_block]
 refine zaa ⟨_,_,zpG hk,?_⟩
 simp -implicitDefEqProofs(disch:=omega)only[go_sem,Go.Eng.wp_block,Bool.not_true]
 by_cases A1:2000<T.length
 ·simp -implicitDefEqProofs(disch:=omega)only[go_sem,Go.Eng.wp_block]
 simp -implicitDefEqProofs(disch:=omega)only[go_sem,Go.Eng.wp_block]
 refine zaa (zoE U hT (fun l v ls η2 rv rl E2 up=>?_) (fun η2 E2=>?_))
 rotate_left
 ·simp -implicitDefEqProofs(disch:=omega)only[go_sem,Go.Eng.wp_block,Bool.not_false]
 obtain⟨okl,hmd,hN0,hT0,hfew⟩:=up
 have hown:=zg4 l [] (0,0) hN0
 have hN:∀n∈l,(zbm n).length≤16385:=fun n hn=>Nat.le_trans (zwA (hown n hn)) (hfew n hn)
 have hca:=zum hown
 have okl':=okl
 obtain⟨hl,okn⟩:=okl'
 simp -implicitDefEqProofs(disch:=omega)only[go_sem,Go.Eng.wp_block,Bool.not_true]
 refine zaa (zsq U okl rv rl fun x4 η4 ls4 o4 r4 E4=>?_)
 clear rv rl
 obtain⟨lsl,ls6⟩:=zcl r4
 have rv:=zdk o4 ls6
 simp -implicitDefEqProofs(disch:=omega)only[go_sem,Go.Eng.wp_block]
 have ln:=fun η' e w=>zax (η':=η') rv lsl (by omega) e w
 obtain⟨I,hI⟩:∃I:Nat→FN→HN→Prop,∀m φ ζ,I m φ ζ↔∃i,m=l.length-i∧i≤l.length∧(φ 5=x4∧φ 6=.bool ((l.take i).all fun n=>(zbU n).isSome)∧φ 7=.int .i64 i)∧zaw η4.nx η4 ζ:=⟨_,fun _ _ _=>Iff.rfl⟩
 refine zaf I l.length ((hI _ _ _).2 ⟨0,rfl,Nat.zero_le _,⟨rfl,rfl,rfl⟩,.refl _ _⟩) ?_
 intro m φ ζ hi
 obtain⟨i,hm,hi,⟨p5,p6,p7⟩,EX⟩:=(hI _ _ _).1 hi
 have nX:=EX.1
 by_cases hlt:i<l.length
 ·obtain⟨hi',ri⟩:=zdj r4 i hlt
  obtain⟨b',off,cap,ro,row,rfl,hbv,hbn,hlen,hrow⟩:=rv.at hi'
  have hbz:ζ.f b'=_:=(EX.2 b' hbn).trans hbv
  have okd:=okn _ (List.getElem_mem hlt)
  have et:=List.take_succ_eq_append_getElem hlt
  generalize l[i]=d at *
  generalize ls4[i]=zd at *
  have ri':=ri
  obtain⟨y1,y2,y3,y4,rfl,-,r1,r2,r3,qs,rq,rqs⟩:=ri'
  have hsn:sV d.nm=.str d.nm.1 d.nm.2:=rfl
  rw[hsn]at ri hrow
  simp -implicitDefEqProofs(disch:=omega)only[zbH,go_sem,Go.Eng.wp_block,p5,p6,p7,ln,hbz,hrow]
  refine zaa (zoV U (zbI ri EX) okd fun y ζ5 ho E5=>?_)
  have n5:=E5.1
  have EX5:=zcn EX E5
  have eal:(l.take (i+1)).all (fun n=>(zbU n).isSome)=((l.take i).all (fun n=>(zbU n).isSome)&&(zbU d).isSome):=by rw[et,List.all_append];simp
  cases eo:zbU d with
  |none =>
   rw[eo]at ho eal
   have ho:y=.nilslice:=ho
   subst ho
   have eal:(l.take (i+1)).all (fun n=>(zbU n).isSome)=((l.take i).all (fun n=>(zbU n).isSome)&&false):=eal
   rw[Bool.and_false]at eal
   have i0:(none:Option (List S)).isSome=false:=rfl
   cases ea:(l.take i).all fun n=>(zbU n).isSome<;>(
    rw[ea]at p6
    simp -implicitDefEqProofs(disch:=omega)only[go_sem,Go.Eng.wp_block,p5,p6,p7,i0,Bool.not_false]
    exact⟨l.length-(i+1),by omega,(hI _ _ _).2 ⟨i+1,rfl,hlt,⟨by exact p5,by rw[eal];rfl,rfl⟩,EX5⟩⟩)
  |some o =>
   rw[eo]at ho eal
   have ho:zdt ζ.nx ζ5 y (strc o):=ho
   have i0:(some o).isSome=true:=rfl
   obtain⟨hor,hol⟩:=zoW eo
   have hoN:=zfj okd
   have hlen2:=ztw d
   rw[hlen2]at hol
   have ok2:=okd.2.2.1.1
   have ok3:=okd.2.2.2.1.1
   have lno:=fun η' e w=>zax (η':=η') ho.rd (zdg o) (by omega) e w
   have l2:=fun η' e w=>zax (η':=η') r2 (zbw _) (by omega) e w
   have l3:=fun η' e w=>zax (η':=η') r3 (zbw _) (by omega) e w
   have hb5:=(E5.2 _ (by omega)).trans hbz
   have g2:row.getD (off+i*6+2) und=y2:=(cell_at hrow 2 (by decide)).trans rfl
   have g3:row.getD (off+i*6+3) und=y3:=(cell_at hrow 3 (by decide)).trans rfl
   cases ea:(l.take i).all fun n=>(zbU n).isSome<;>(
    rw[ea]at p6 eal
    simp -implicitDefEqProofs(disch:=omega)only[go_sem,Go.Eng.wp_block,p5,p6,p7,i0,Bool.not_true,hb5,g2,g3,lno,l2,l3,hol]
    obtain⟨J,hJ⟩:∃J:Nat→FN→HN→Prop,∀m φ ζ',J m φ ζ'↔∃k,m=o.length-k∧k≤o.length∧(φ 5=.slice b' off ls4.length cap∧φ 6=.bool ((l.take (i+1)).all fun n=>(zbU n).isSome)∧φ 7=.int .i64 i∧φ 8=y∧φ 10=.int .i64 k)∧zaw ζ5.nx ζ5 ζ':=⟨_,fun _ _ _=>Iff.rfl⟩
    refine zaf J o.length ((hJ _ _ _).2 ⟨0,rfl,Nat.zero_le _,⟨by exact p5,by rw[eal];rfl,by exact p7,rfl,rfl⟩,.refl _ _⟩) ?_
    clear p5 p6 p7
    intro m φ ζ' hj
    obtain⟨k,hm',hk',⟨p5,p6,p7,p8,p10⟩,Ek⟩:=(hJ _ _ _).1 hj
    have nk:=Ek.1
    have EK:=zcn EX5 Ek
    have hbk:=(Ek.2 _ (by omega)).trans hb5
    by_cases hkt:k<o.length
    ·obtain⟨bo,hbo1,hbo2,rfl,-,hbo⟩:=ho.resolve_left (fun g=>by have:=congrArg List.length g.2;rw[zaA]at this;have:o.length=0:=this;omega)
     have hbok:=(Ek.2 _ hbo2).trans hbo
     have glo:=zaA o
     have gso:=zdw hkt
     simp only[zaA]at lno p8 hJ
     simp -implicitDefEqProofs(disch:=omega)only[go_sem,Go.Eng.wp_block,p5,p6,p7,p8,p10,hbk,hbok,hrow,glo,gso,lno]
     refine zbc (zjt U (zbI ri EK) okd o[k] fun ym ζ6 rm E6=>?_)
     have n6:=E6.1
     have hbk6:=(E6.2 _ (by omega)).trans hbk
     have hbok6:=(E6.2 _ (by omega)).trans hbok
     have hin:=hor k hkt
     have lM:(zbr d o[k]).length≤4294967296:=Nat.le_trans (zeV _) hoN
     generalize hM:zbr d o[k]=M at *
     have lnm:=fun η' e w=>zax (η':=η') rm.rd (zdg M) (by omega) e w
     simp -implicitDefEqProofs(disch:=omega)only[go_sem,Go.Eng.wp_block,p5,p6,p7,p8,p10,hbk,hbok,hrow,glo,gso,hbk6,hbok6]
     obtain⟨J2,hJ2⟩:∃J:Nat→FN→HN→Prop,∀m φ ζ',J m φ ζ'↔∃j,m=M.length-j∧j≤M.length∧(φ 5=.slice b' off ls4.length cap∧φ 6=.bool ((l.take (i+1)).all fun n=>(zbU n).isSome)∧φ 7=.int .i64 i∧φ 8=.slice bo 0 o.length (.un 1)∧φ 10=.int .i64 k∧φ 11=ym∧φ 12=.int .i64 j)∧ζ'=ζ6:=⟨_,fun _ _ _=>Iff.rfl⟩
     refine zaf J2 M.length ((hJ2 _ _ _).2 ⟨0,rfl,Nat.zero_le _,⟨by exact p5,by exact p6,by exact p7,by exact p8,by exact p10,rfl,rfl⟩,rfl⟩) ?_
     clear p5 p6 p7 p8 p10
     intro m φ ζ8 hj2
     obtain⟨j,hm2,hj2,⟨p5,p6,p7,p8,p10,p11,p12⟩,rfl⟩:=(hJ2 _ _ _).1 hj2
     by_cases hjt:j<M.length
     ·obtain⟨bm,rowm,hbm1,hbm2,rfl,hbm⟩:=rm.resolve_left (fun g=>by rw[g.2]at hjt;exact absurd hjt (Nat.not_lt_zero _))
      have glm:(strc M++rowm).length=M.length+rowm.length:=by rw[List.length_append,zaA]
      have gsm:=znF (row:=rowm) hjt
      have hmj:=hin _ (List.getElem_mem hjt)
      generalize M[j]=s at *
      simp -implicitDefEqProofs(disch:=omega)only[go_sem,Go.Eng.wp_block,p5,p6,p7,p8,p10,p11,p12,lnm]
      obtain⟨J3,hJ3⟩:∃J:Nat→FN→HN→Prop,∀m φ ζ',J m φ ζ'↔∃(q:Nat) (e:Option Nat),m=k-q∧q≤k∧(φ 5=.slice b' off ls4.length cap∧φ 6=.bool ((l.take (i+1)).all fun n=>(zbU n).isSome)∧φ 7=.int .i64 i∧φ 8=.slice bo 0 o.length (.un 1)∧φ 10=.int .i64 k∧φ 11=.slice bm 0 M.length (.un 1)∧φ 12=.int .i64 j∧φ 13=.int .i64 (zg6 e)∧φ 14=.int .i64 q)∧ζ'=ζ8∧(e=none→s∉o.take q)∧(∀x,e=some x→x<k):=⟨_,fun _ _ _=>Iff.rfl⟩
      refine zaf J3 k ((hJ3 _ _ _).2 ⟨0,none,rfl,Nat.zero_le _,⟨by exact p5,by exact p6,by exact p7,by exact p8,by exact p10,by exact p11,by exact p12,rfl,rfl⟩,rfl,fun _ h=>(by rw[List.take_zero]at h;cases h),fun _ h=>(by cases h)⟩) ?_
      clear p5 p6 p7 p8 p10 p11 p12
      intro m φ ζ9 hj3
      obtain⟨q,e,hm3,hq,⟨p5,p6,p7,p8,p10,p11,p12,p13,p14⟩,rfl,he1,he2⟩:=(hJ3 _ _ _).1 hj3
      by_cases hqt:q<k
      ·have hqo:q<o.length:=by omega
       have gsq:=zdw hqo
       have etq:=List.take_succ_eq_append_getElem hqo
       generalize o[q]=w at *
       have es:=zan w s
       by_cases ews:w=s
       ·rw[decide_eq_true ews]at es
        simp -implicitDefEqProofs(disch:=omega)only[go_sem,Go.Eng.wp_block,p5,p6,p7,p8,p10,p11,p12,p13,p14,hbok6,glo,gsq,hbm,glm,gsm,es]
        exact⟨k-(q+1),by omega,(hJ3 _ _ _).2 ⟨q+1,some q,rfl,hqt,⟨by exact p5,by exact p6,by exact p7,by exact p8,by exact p10,by exact p11,by exact p12,rfl,rfl⟩,rfl,fun h=>(by cases h),fun x h=>(by cases h;exact hqt)⟩⟩
       ·rw[decide_eq_false ews]at es
        simp -implicitDefEqProofs(disch:=omega)only[go_sem,Go.Eng.wp_block,p5,p6,p7,p8,p10,p11,p12,p13,p14,hbok6,glo,gsq,hbm,glm,gsm,es]
        refine⟨k-(q+1),by omega,(hJ3 _ _ _).2 ⟨q+1,e,rfl,hqt,⟨by exact p5,by exact p6,by exact p7,by exact p8,by exact p10,by exact p11,by exact p12,by exact p13,rfl⟩,rfl,fun h g=>?_,he2⟩⟩
        rw[etq]at g
        exact(List.mem_append.1 g).elim (he1 h) fun g=>ews (List.mem_singleton.1 g).symm
      ·obtain rfl:q=k:=by omega
       cases e with
       |none=>exact absurd hmj (he1 rfl)
       |some x =>
        have hx:=he2 x rfl
        have ee:zg6 (some x)=x:=rfl
        simp -implicitDefEqProofs(disch:=omega)only[go_sem,Go.Eng.wp_block,p5,p6,p7,p8,p10,p11,p12,p13,p14,ee]
        exact⟨M.length-(j+1),by omega,(hJ2 _ _ _).2 ⟨j+1,rfl,hjt,⟨by exact p5,by exact p6,by exact p7,by exact p8,by exact p10,by exact p11,rfl⟩,rfl⟩⟩
     ·obtain rfl:j=M.length:=by omega
      simp -implicitDefEqProofs(disch:=omega)only[go_sem,Go.Eng.wp_block,p5,p6,p7,p8,p10,p11,p12,lnm]
      exact⟨o.length-(k+1),by omega,(hJ _ _ _).2 ⟨k+1,rfl,hkt,⟨by exact p5,by exact p6,by exact p7,by exact p8,rfl⟩,zcn Ek E6⟩⟩
    ·obtain rfl:k=o.length:=by omega
     simp -implicitDefEqProofs(disch:=omega)only[go_sem,Go.Eng.wp_block,p5,p6,p7,p8,p10,lno]
     exact⟨l.length-(i+1),by omega,(hI _ _ _).2 ⟨i+1,rfl,hlt,⟨by exact p5,by exact p6,rfl⟩,EK⟩⟩)
 ·obtain rfl:i=l.length:=by omega
  rw[List.take_length]at p6
  simp -implicitDefEqProofs(disch:=omega)only[go_sem,Go.Eng.wp_block,p5,p6,p7,ln]
  refine zaa (zi9 U okl hN (rv.ext (base:=0) EX) (zaW (zce EX) EX.1 (fun _ h=>h) r4) fun η9 E9=>?_)
  cases ec:zhf l with
  |none =>
   have ea:=hca.1 ec
   have ez:(eqB Try.prog 33).f (.agg [.int .i64 0,.int .i64 0]) (.agg [.int .i64 0,.int .i64 0])=some true:=zoh
   have eb:(eqB Try.prog 4).f (.bool true) (.bool true)=some true:=zoq
   have cv:zxp none=[.int .i64 0,.int .i64 0]:=rfl
   simp -implicitDefEqProofs(disch:=omega)only[go_sem,Go.Eng.wp_block,p5,p6,p7,ea,cv,ez,eb]
  |some a =>
   have ea:(l.all fun n=>(zbU n).isSome)=false:=by
    cases e:l.all fun n=>(zbU n).isSome with
    |false=>rfl
    |true=>rw[hca.2 e]at ec;cases ec
   have ez:(eqB Try.prog 33).f (.agg [.int .i64 12,.int .i64 a]) (.agg [.int .i64 0,.int .i64 0])=some false:=by rw[zoh];rfl
   have eb:(eqB Try.prog 4).f (.bool false) (.bool false)=some true:=zoq
   have cv:zxp (some a)=[.int .i64 12,.int .i64 a]:=rfl
   simp -implicitDefEqProofs(disch:=omega)only[go_sem,Go.Eng.wp_block,p5,p6,p7,ea,cv,ez,eb]
end Go.Proofs.Ytkggpdaglhnonaa
