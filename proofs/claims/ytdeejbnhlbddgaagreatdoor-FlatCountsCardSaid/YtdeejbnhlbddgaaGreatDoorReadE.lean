/- What is proved: what the leaves of the cutting do. what the document's cutting does. Conditions: as each theorem says. -/
import Derived.Test.YtdeejbnhlbddgaaGreatDoorReadA
import Derived.Test.YtdeejbnhlbddgaaGreatDoorPlain
import Derived.Test.YtdeejbnhlbddgaaGreatDoorReadD
set_option linter.unusedVariables false
set_option linter.unusedSimpArgs false
set_option linter.unusedSectionVars false
namespace Go.Proofs.YtdeejbnhlbddgaaGreatDoor
open Go.Eng Go.Plain
set_option autoImplicit false
set_option maxRecDepth 100000
variable {nat:∀ [Deep],Nats} {η:HN} {Q:AV→HN→Prop}
theorem letter_then (U:Usual nat) {c:UInt8} (k:Q (.bool (letterB c)) η):∃v η',CallN Tryz.prog nat 59 [.int .u8 c.toNat] η v η'∧Q v η':=by
 refine call_of (PT:=pl59) Tryz.func59 rfl (U 59 (by decide)) ok59 rfl ?_
 have hc:=c.toNat_lt
 by_cases h1:97≤c.toNat
 ·by_cases h2:c.toNat≤122
  ·rw[show letterB c=true from decide_eq_true ⟨h1,h2⟩]at k
   simp -implicitDefEqProofs(disch:=omega)only[go_sem]
   exact k
  ·rw[show letterB c=false from decide_eq_false (fun g=>h2 g.2)]at k
   simp -implicitDefEqProofs(disch:=omega)only[go_sem]
   exact k
 ·rw[show letterB c=false from decide_eq_false (fun g=>h1 g.1)]at k
  simp -implicitDefEqProofs(disch:=omega)only[go_sem]
  exact k
theorem digit_then (U:Usual nat) {c:UInt8} (k:Q (.bool (digitB c)) η):∃v η',CallN Tryz.prog nat 60 [.int .u8 c.toNat] η v η'∧Q v η':=by
 refine call_of (PT:=pl60) Tryz.func60 rfl (U 60 (by decide)) ok60 rfl ?_
 have hc:=c.toNat_lt
 by_cases h1:48≤c.toNat
 ·by_cases h2:c.toNat≤57
  ·rw[show digitB c=true from decide_eq_true ⟨h1,h2⟩]at k
   simp -implicitDefEqProofs(disch:=omega)only[go_sem]
   exact k
  ·rw[show digitB c=false from decide_eq_false (fun g=>h2 g.2)]at k
   simp -implicitDefEqProofs(disch:=omega)only[go_sem]
   exact k
 ·rw[show digitB c=false from decide_eq_false (fun g=>h1 g.1)]at k
  simp -implicitDefEqProofs(disch:=omega)only[go_sem]
  exact k
set_option maxHeartbeats 4000000 in
theorem kept_then (U:Usual nat) (s:S) (k:∀η',ExtB η.nx η η'→Q (.bool (keptS s)) η'):∃v η',CallN Tryz.prog nat 61 [.str s.1 s.2] η v η'∧Q v η':=by
 refine call_of (PT:=pl61) Tryz.func61 rfl (U 61 (by decide)) ok61 rfl ?_
 simp -implicitDefEqProofs(disch:=omega)only[go_sem]
 have E0:ExtB η.nx η (η.new (.live false (keptL.map sV))):=.new (Nat.le_refl _)
 have c0:(η.new (.live false (keptL.map sV))).f η.nx=.live false (keptL.map sV):=if_pos rfl
 have e0:η.new (.live false (keptL.map sV))=η.new (.live false (keptL.map sV)):=rfl
 have li:(keptL.map sV).length=21:=rfl
 obtain⟨I,hI⟩:∃I:Nat→FN→HN→Prop,∀m φ ζ,I m φ ζ↔∃i,m=21-i∧i≤21∧(φ 0=.str s.1 s.2∧φ 3=.slice η.nx 0 21 (.kn 21)∧φ 4=.int .i64 i)∧ζ=η.new (.live false (keptL.map sV))∧∀j,j<i→decide (keptL.getD j (0,0)=s)=false:=⟨_,fun _ _ _=>Iff.rfl⟩
 refine wpN_loop I 21 ((hI _ _ _).2 ⟨0,rfl,Nat.zero_le _,⟨rfl,rfl,rfl⟩,rfl,fun _ h=>by omega⟩) ?_
 intro m φ ζ hi
 obtain⟨i,hm,hi,⟨p0,p3,p4⟩,rfl,hj⟩:=(hI _ _ _).1 hi
 by_cases hlt:i<21
 ·have gi:=strs_get keptL i hlt
  cases e:decide (keptL.getD i (0,0)=s) with
  |true =>
   simp -implicitDefEqProofs(disch:=omega)only[go_sem,p0,p3,p4,c0,li,gi,strEq_S,e]
   have:keptS s=true:=any_pos (i:=i) hlt e
   rw[this]at k
   exact k _ E0
  |false =>
   simp -implicitDefEqProofs(disch:=omega)only[go_sem,p0,p3,p4,c0,li,gi,strEq_S,e]
   refine⟨21-(i+1),by omega,(hI _ _ _).2 ⟨i+1,rfl,by omega,⟨p0,p3,rfl⟩,rfl,fun j hj'=>?_⟩⟩
   by_cases h:j=i
   ·subst h;exact e
   ·exact hj j (by omega)
 ·obtain rfl:i=21:=by omega
  simp -implicitDefEqProofs(disch:=omega)only[go_sem,p0,p3,p4]
  have:keptS s=false:=any_neg hj
  rw[this]at k
  exact k _ E0
set_option maxHeartbeats 8000000 in
theorem sign_then (U:Usual nat) {c:UInt8} {r:By} (hr:r.length≤16384) (k:∀v η',ExtB η.nx η η'→Q (.str (signL (c::r)) v) η'):∃v η',CallN Tryz.prog nat 63 [.str (c::r).length (codesL (c::r))] η v η'∧Q v η':=by
 refine call_of (PT:=pl63) Tryz.func63 rfl (U 63 (by decide)) ok63 rfl ?_
 have hc:=c.toNat_lt
 have hl:(c::r).length=r.length+1:=rfl
 generalize hcc:codesL (c::r)=cc at *
 rw[hl]
 have E0:ExtB η.nx η (η.new (.live false (twosL.map sV))):=.new (Nat.le_refl _)
 have c0:(η.new (.live false (twosL.map sV))).f η.nx=.live false (twosL.map sV):=if_pos rfl
 have li:(twosL.map sV).length=4:=rfl
 have a0:strAt cc 0=c.toNat:=by rw[←hcc];exact strAt_by (l:=c::r) (i:=0) (by simp)
 obtain⟨M,hM⟩:∃M:FN→HN→Prop,∀φ ζ,M φ ζ↔φ 0=.str (r.length+1) cc∧ζ=η.new (.live false (twosL.map sV))∧signL (c::r)=if onesL.any (fun x=>decide (x=c.toNat)) then 1 else 0:=⟨_,fun _ _=>Iff.rfl⟩
 refine wp_cut (M:=M) 3 _ _ _ ?_ ?_
 ·intro φ ζ hm
  obtain⟨p0,rfl,es⟩:=(hM _ _).1 hm
  rw[es]at k
  simp -implicitDefEqProofs(disch:=omega)only[tailC_s,tailC_z,go_sem,p0]
  obtain⟨I,hI⟩:∃I:Nat→FN→HN→Prop,∀m φ ζ,I m φ ζ↔∃i,m=12-i∧i≤12∧(φ 0=.str (r.length+1) cc∧φ 5=.str 12 19260828887342980396431845672∧φ 6=.int .i64 i)∧ζ=η.new (.live false (twosL.map sV))∧∀j,j<i→decide (onesL.getD j 0=c.toNat)=false:=⟨_,fun _ _ _=>Iff.rfl⟩
  refine wpN_loop I 12 ((hI _ _ _).2 ⟨0,rfl,Nat.zero_le _,⟨p0,rfl,rfl⟩,rfl,fun _ h=>by omega⟩) ?_
  intro m φ ζ hi
  obtain⟨i,hm,hi,⟨p0,p5,p6⟩,rfl,hj⟩:=(hI _ _ _).1 hi
  by_cases hlt:i<12
  ·have gi:=ones_at i hlt
   cases e:decide (onesL.getD i 0=c.toNat) with
   |true =>
    have e':=of_decide_eq_true e
    simp -implicitDefEqProofs(disch:=omega)only[go_sem,p0,p5,p6,a0,gi,e']
    rw[if_pos (anyN_pos (l:=onesL) (p:=fun x=>decide (x=c.toNat)) (i:=i) hlt e)]at k
    exact k _ _ E0
   |false =>
    have e':c.toNat≠onesL.getD i 0:=fun g=>of_decide_eq_false e g.symm
    simp -implicitDefEqProofs(disch:=omega)only[go_sem,p0,p5,p6,a0,gi,e']
    refine⟨12-(i+1),by omega,(hI _ _ _).2 ⟨i+1,rfl,by omega,⟨p0,p5,rfl⟩,rfl,fun j hj'=>?_⟩⟩
    by_cases h:j=i
    ·subst h;exact e
    ·exact hj j (by omega)
  ·obtain rfl:i=12:=by omega
   simp -implicitDefEqProofs(disch:=omega)only[go_sem,p0,p5,p6]
   rw[if_neg (by rw[anyN_neg (l:=onesL) (p:=fun x=>decide (x=c.toNat)) hj];decide)]at k
   exact k _ _ E0
 simp -implicitDefEqProofs(disch:=omega)only[go_sem]
 cases r with
 |nil =>
  obtain⟨I,hI⟩:∃I:Nat→FN→HN→Prop,∀m φ ζ,I m φ ζ↔∃i,m=4-i∧i≤4∧(φ 0=.str (0+1) cc∧φ 3=.slice η.nx 0 4 (.kn 4)∧φ 4=.int .i64 i)∧ζ=η.new (.live false (twosL.map sV)):=⟨_,fun _ _ _=>Iff.rfl⟩
  refine wpN_loop I 4 ((hI _ _ _).2 ⟨0,rfl,Nat.zero_le _,⟨rfl,rfl,rfl⟩,rfl⟩) ?_
  intro m φ ζ hi
  obtain⟨i,hm,hi,⟨p0,p3,p4⟩,rfl⟩:=(hI _ _ _).1 hi
  by_cases hlt:i<4
  ·simp -implicitDefEqProofs(disch:=omega)only[go_sem,p0,p3,p4]
   exact⟨4-(i+1),by omega,(hI _ _ _).2 ⟨i+1,rfl,by omega,⟨p0,p3,rfl⟩,rfl⟩⟩
  ·obtain rfl:i=4:=by omega
   simp -implicitDefEqProofs(disch:=omega)only[go_sem,p0,p3,p4]
   exact(hM _ _).2 ⟨p0,rfl,rfl⟩
 |cons dd r =>
  have hl2:(dd::r).length=r.length+1:=rfl
  rw[hl2]at hr
  have cut:strCut cc 0 2=(sS [c,dd]).2:=by rw[←hcc,strCut_by];rfl
  obtain⟨I,hI⟩:∃I:Nat→FN→HN→Prop,∀m φ ζ,I m φ ζ↔∃i,m=4-i∧i≤4∧(φ 0=.str (r.length+1+1) cc∧φ 3=.slice η.nx 0 4 (.kn 4)∧φ 4=.int .i64 i)∧ζ=η.new (.live false (twosL.map sV))∧∀j,j<i→decide (twosL.getD j (0,0)=sS [c,dd])=false:=⟨_,fun _ _ _=>Iff.rfl⟩
  refine wpN_loop I 4 ((hI _ _ _).2 ⟨0,rfl,Nat.zero_le _,⟨rfl,rfl,rfl⟩,rfl,fun _ h=>by omega⟩) ?_
  intro m φ ζ hi
  obtain⟨i,hm,hi,⟨p0,p3,p4⟩,rfl,hj⟩:=(hI _ _ _).1 hi
  by_cases hlt:i<4
  ·have gi:=strs_get twosL i hlt
   have se:strEq 2 (sS [c,dd]).2 (twosL.getD i (0,0)).1 (twosL.getD i (0,0)).2=decide (sS [c,dd]=twosL.getD i (0,0)):=strEq_S (sS [c,dd]) _
   cases e:decide (twosL.getD i (0,0)=sS [c,dd]) with
   |true =>
    have e':decide (sS [c,dd]=twosL.getD i (0,0))=true:=decide_eq_true (of_decide_eq_true e).symm
    simp -implicitDefEqProofs(disch:=omega)only[go_sem,p0,p3,p4,c0,li,gi,cut,se,e']
    have es:signL (c::dd::r)=2:=by
     show(if twosL.any (fun x=>decide (x=sS [c,dd])) then 2 else _)=2
     rw[if_pos (any_pos (l:=twosL) (p:=fun x=>decide (x=sS [c,dd])) (i:=i) hlt e)]
    rw[es]at k
    have e2:(twosL.getD i (0,0)).1=2:=by rw[of_decide_eq_true e];rfl
    rw[e2]
    exact k _ _ E0
   |false =>
    have e':decide (sS [c,dd]=twosL.getD i (0,0))=false:=decide_eq_false fun g=>of_decide_eq_false e g.symm
    simp -implicitDefEqProofs(disch:=omega)only[go_sem,p0,p3,p4,c0,li,gi,cut,se,e']
    refine⟨4-(i+1),by omega,(hI _ _ _).2 ⟨i+1,rfl,by omega,⟨p0,p3,rfl⟩,rfl,fun j hj'=>?_⟩⟩
    by_cases h:j=i
    ·subst h;exact e
    ·exact hj j (by omega)
  ·obtain rfl:i=4:=by omega
   simp -implicitDefEqProofs(disch:=omega)only[go_sem,p0,p3,p4]
   refine(hM _ _).2 ⟨p0,rfl,?_⟩
   show(if twosL.any (fun x=>decide (x=sS [c,dd])) then 2 else _)=_
   rw[if_neg (by rw[any_neg (l:=twosL) (p:=fun x=>decide (x=sS [c,dd])) hj];decide)]
set_option maxHeartbeats 4000000 in
theorem number_then (U:Usual nat) {s:By} (hs:s.length≤16384) (hd:∀c∈s,digitB c=true) (k:∀v,(numOk s=true→v=valL 0 s)→Q (.tup [.int .i64 v,.bool (numOk s)]) η):∃v η',CallN Tryz.prog nat 62 [.str s.length (codesL s)] η v η'∧Q v η':=by
 refine call_of (PT:=pl62) Tryz.func62 rfl (U 62 (by decide)) ok62 rfl ?_
 obtain⟨M,hM⟩:∃M:FN→HN→Prop,∀φ ζ,M φ ζ↔φ 0=.str s.length (codesL s)∧ζ=η∧s.length≤19∧¬(1<s.length∧s.head?=some 48):=⟨_,fun _ _=>Iff.rfl⟩
 refine wp_cut (M:=M) 2 _ _ _ ?_ ?_
 ·intro φ ζ hm
  obtain⟨p0,rfl,h19,hz⟩:=(hM _ _).1 hm
  simp -implicitDefEqProofs(disch:=omega)only[tailC_s,tailC_z,go_sem,p0]
  have b20:∀i,i≤s.length→valL 0 (s.take i)<10000000000000000000:=fun i hi=>by
   have h1:=valL_lt (s.take i) 0 (fun c hc=>hd c (List.mem_of_mem_take hc))
   rw[List.length_take,Nat.min_eq_left hi]at h1
   have h2:10 ^ i≤10 ^ 19:=Nat.pow_le_pow_right (by decide) (by omega)
   have h3:(10:Nat) ^ 19=10000000000000000000:=by decide
   omega
  obtain⟨I,hI⟩:∃I:Nat→FN→HN→Prop,∀m φ ζ',I m φ ζ'↔∃i,m=s.length-i∧i≤s.length∧(φ 0=.str s.length (codesL s)∧φ 4=.int .u64 (valL 0 (s.take i))∧φ 5=.int .i64 i)∧ζ'=ζ:=⟨_,fun _ _ _=>Iff.rfl⟩
  refine wpN_loop I s.length ((hI _ _ _).2 ⟨0,rfl,Nat.zero_le _,⟨p0,rfl,rfl⟩,rfl⟩) ?_
  intro m φ ζ' hi
  obtain⟨i,hm,hi,⟨p0,p4,p5⟩,rfl⟩:=(hI _ _ _).1 hi
  by_cases hlt:i<s.length
  ·have sa:=strAt_by (l:=s) hlt
   have dg:=of_decide_eq_true (hd _ (List.getElem_mem hlt))
   have bi:=b20 i hi
   have bj:=b20 (i+1) hlt
   have vs:valL 0 (s.take (i+1))=10*valL 0 (s.take i)+(s[i].toNat-48):=by rw[take_snoc hlt,valL_app]
   have u8:(s[i].toNat+(256-48))%256=s[i].toNat-48:=by omega
   simp -implicitDefEqProofs(disch:=omega)only[go_sem,p0,p4,p5,sa,u8]
   exact⟨s.length-(i+1),by omega,(hI _ _ _).2 ⟨i+1,rfl,by omega,⟨p0,by rw[vs];rfl,rfl⟩,rfl⟩⟩
  ·obtain rfl:i=s.length:=by omega
   have bi:=b20 _ hi
   rw[List.take_length]at p4 bi
   by_cases hv:valL 0 s<9223372036854775808
   ·have e:numOk s=true:=decide_eq_true ⟨hz,h19,hv⟩
    rw[e]at k
    simp -implicitDefEqProofs(disch:=omega)only[go_sem,p0,p4,p5]
    exact k _ fun _=>rfl
   ·have e:numOk s=false:=decide_eq_false fun g=>hv g.2.2
    rw[e]at k
    simp -implicitDefEqProofs(disch:=omega)only[go_sem,p0,p4,p5]
    exact k _ fun g=>by cases g
 ·by_cases h1:1<s.length
  ·obtain⟨c,r,rfl⟩:∃c r,s=c::r:=by
    cases s with
    |nil=>simp at h1
    |cons c r=>exact⟨c,r,rfl⟩
   have a0:strAt (codesL (c::r)) 0=c.toNat:=strAt_by (l:=c::r) (i:=0) (by simp)
   have hc:=c.toNat_lt
   generalize hl:(c::r).length=n at *
   by_cases h0:c.toNat=48
   ·have hcc:c=48:=UInt8.toNat_inj.1 h0
    have e:numOk (c::r)=false:=decide_eq_false fun g=>g.1 ⟨by omega,by rw[hcc];rfl⟩
    rw[e]at k
    simp -implicitDefEqProofs(disch:=omega)only[go_sem,a0,h0]
    exact k _ fun g=>by cases g
   ·by_cases h19:n≤19
    ·simp -implicitDefEqProofs(disch:=omega)only[go_sem,a0]
     exact(hM _ _).2 ⟨rfl,rfl,h19,fun g=>h0 (by have:=g.2;simp at this;rw[this];rfl)⟩
    ·have e:numOk (c::r)=false:=decide_eq_false fun g=>h19 (by omega)
     rw[e]at k
     simp -implicitDefEqProofs(disch:=omega)only[go_sem,a0]
     exact k _ fun g=>by cases g
  ·simp -implicitDefEqProofs(disch:=omega)only[go_sem]
   exact(hM _ _).2 ⟨rfl,rfl,by omega,fun g=>h1 g.1⟩
end Go.Proofs.YtdeejbnhlbddgaaGreatDoor
namespace Go.Proofs.YtdeejbnhlbddgaaGreatDoor
open Go.Eng Go.Plain
set_option autoImplicit false
set_option maxRecDepth 100000
variable {nat:∀ [Deep],Nats}
theorem cutR_w {f a:Nat} {c:UInt8} {r:By} {l:List Wd} (h:whiteB c=true):cutR (f+1) a (c::r) l=cutR f (a+1) r l:=by
 conv=>lhs;unfold cutR
 rw[if_pos h]
theorem cutR_r {f a:Nat} {c:UInt8} {r:By} {l:List Wd} (h:¬whiteB c=true) (g:remB c r=true):cutR (f+1) a (c::r) l=cutR f (a+spanL notNl (c::r)) ((c::r).drop (spanL notNl (c::r))) l:=by
 conv=>lhs;unfold cutR
 rw[if_neg h,if_pos g]
theorem cutR_n {f a:Nat} {c:UInt8} {r:By} {l:List Wd} (h:¬whiteB c=true) (g:¬remB c r=true) (e:wordL (c::r)=none):cutR (f+1) a (c::r) l=([],7,a):=by
 conv=>lhs;unfold cutR
 rw[if_neg h,if_neg g,e]
theorem cutR_s {f a k n v:Nat} {c:UInt8} {r:By} {l:List Wd} (h:¬whiteB c=true) (g:¬remB c r=true) (e:wordL (c::r)=some (k,n,v)):cutR (f+1) a (c::r) l=cutR f (a+n) ((c::r).drop n) (l++[⟨k,sS ((c::r).take n),v,a⟩]):=by
 conv=>lhs;unfold cutR
 rw[if_neg h,if_neg g,e]
set_option maxHeartbeats 16000000 in
theorem cut_spec (U:Usual nat):CutSpec nat:=by
 intro η T Q hT k
 refine call_of (PT:=pl34) Tryz.func34 rfl (U 34 (by decide)) ok34 rfl ?_
 by_cases hL:16384<T.length
 ·have eF:cutF T=([],2,T.length):=if_pos hL
  rw[eF]at k
  simp -implicitDefEqProofs(disch:=omega)only[go_sem]
  exact k _ _ (.inl ⟨rfl,.inl rfl⟩) (fun b g=>g.elim) (.new (Nat.le_refl _))
 have eF:cutF T=cutR T.length 0 T []:=if_neg hL
 rw[eF]at k
 have h40:∀x y:RES,(if¬(40:Nat)=0 then x else y)=x:=fun _ _=>if_pos (by decide)
 simp -implicitDefEqProofs(disch:=omega)only[go_sem,h40,repL_z]
 have E0:ExtB η.nx η ((η.new (.live false [.int .i64 0,.int .i64 0])).new (.live false [])):=extN (extN (.refl _ _))
 have c0:((η.new (.live false [.int .i64 0,.int .i64 0])).new (.live false [])).f η.nx=.live false [.int .i64 0,.int .i64 0]:=(if_neg (by show¬η.nx=η.nx+1;omega)).trans (if_pos rfl)
 have o0:OwnA 4 (η.nx+1) ((η.new (.live false [.int .i64 0,.int .i64 0])).new (.live false [])) (.slice (η.nx+1) 0 0 (.kn 0)) 0 []:=OwnA.new0 (η:=η.new (.live false [.int .i64 0,.int .i64 0]))
 have n0:((η.new (.live false [.int .i64 0,.int .i64 0])).new (.live false [])).nx=η.nx+2:=rfl
 generalize (η.new (.live false [.int .i64 0,.int .i64 0])).new (.live false [])=η0 at *
 have hlen:∀η':HN,lenN .str (.str T.length (codesL T)) η'=.ok (.int .i64 T.length) η':=fun η'=>by rw[lenN_str,lenI_at,if_pos (by omega)]
 obtain⟨I,hI⟩:∃I:Nat→FN→HN→Prop,∀m φ ζ,I m φ ζ↔∃a ws x,(φ 0=.str T.length (codesL T)∧φ 3=.ptr η.nx 0∧φ 4=x∧φ 5=.int .i64 a)∧a≤T.length∧T.length-a≤m∧OwnA 4 (η.nx+1) ζ x ws.length (ws.map Wd.cells).flatten∧ζ.f η.nx=.live false [.int .i64 0,.int .i64 0]∧ExtB η.nx η ζ ∧
   cutR m a (T.drop a) ws=cutR T.length 0 T []∧ws.length≤a∧η.nx+2≤ζ.nx:=⟨_,fun _ _ _=>Iff.rfl⟩
 refine wpN_loop I T.length ((hI _ _ _).2 ⟨0,[],_,⟨rfl,rfl,rfl,rfl⟩,Nat.zero_le _,Nat.sub_le _ _,o0,c0,E0,rfl,Nat.zero_le _,by omega⟩) ?_
 intro m φ ζ hi
 obtain⟨a,ws,x,⟨p0,p3,p4,p5⟩,ha,hm,ox,cx,Ex,wq,wl,nx⟩:=(hI _ _ _).1 hi
 clear hi c0 E0 o0
 by_cases hge:T.length≤a
 ·obtain rfl:a=T.length:=by omega
  rw[List.drop_length]at wq
  have w1:cutR m T.length [] ws=(ws++[endW T.length],0,0):=by cases m<;>rfl
  rw[w1]at wq
  rw[←wq]at k
  simp -implicitDefEqProofs(disch:=omega)only[go_sem,p0,p3,p4,p5,hlen,repL_s,repL_z,setsL_c]
  have o1:=own_keep (η':=ζ.new (.live false [.int .i64 0,.str 0 0,.int .i64 0,.int .i64 T.length])) ox (fun b _ hb=>if_neg (by omega)) (Nat.le_succ _)
  refine thenN_sep (by decide) o1 (RdA.lits (s:=4) (n:=1) rfl) (by decide) (by omega) (by show η.nx+1≤ζ.nx+1;omega) fun η2 o2 n2 k2=>?_
  have n2:η2.nx=ζ.nx+1+1:=n2
  have k2:∀b,b<ζ.nx→¬blkIs x b→η2.f b=ζ.f b:=fun b hb hc=>(k2 b (by show b<ζ.nx+1;omega) hc).trans (if_neg (by omega))
  have c2:η2.f η.nx=_:=(k2 _ (by omega) (fun g=>by have:=own_at ox g;omega)).trans cx
  have o2:OwnA 4 (η.nx+1) η2 (.slice (ζ.nx+1) 0 (ws.length+1) (.un 4)) ((ws++[endW T.length]).map Wd.cells).length ((ws++[endW T.length]).map Wd.cells).flatten:=by
   rw[List.map_append,List.map_cons,List.map_nil,flatten_snoc,List.length_append,List.length_map]
   exact o2
  simp -implicitDefEqProofs(disch:=omega)only[go_sem,p0,p3,p4,p5,c2]
  have hr:∀l∈(ws++[endW T.length]).map Wd.cells,l.length=4:=fun l hl=>by
   obtain⟨w,_,rfl⟩:=List.mem_map.1 hl
   rfl
  have o3:=own_keep (η':=η2.put η.nx (.live false [.int .i64 0,.int .i64 0])) o2 (fun b hb _=>if_neg (by omega)) (Nat.le_refl _)
  refine k _ _ (own_rdR o3 hr) (fun b g=>?_) ?_
  ·have:=own_at o3 (b:=b) g
   exact⟨by omega,this.2⟩
  ·refine ExtB.trans (η':=η2) ⟨by have:=Ex.1;omega,fun b hb=>(k2 b (by have:=Ex.1;omega) (fun g=>by have:=own_at ox g;omega)).trans (Ex.2 b hb)⟩ (.put (Nat.le_refl _))
 have hlt:a<T.length:=by omega
 obtain _|m:=m
 ·omega
 have hdr:T.drop a=T[a]::T.drop (a+1):=List.drop_eq_getElem_cons hlt
 have sa:strAt (codesL T) a=T[a].toNat:=strAt_by hlt
 have hc8:=T[a].toNat_lt
 rw[hdr]at wq
 generalize hcc:T[a]=c at *
 by_cases hw:whiteB c=true
 ·rw[cutR_w hw]at wq
  have hw':=of_decide_eq_true hw
  have done:∀φ',φ' 0=.str T.length (codesL T)→φ' 3=.ptr η.nx 0→φ' 4=x→φ' 5=.int .i64 (a+1)→∃m',m'<m+1∧I m' φ' ζ:=fun φ' r0 r3 r4 r5=>⟨m,Nat.lt_succ_self _,(hI _ _ _).2 ⟨a+1,ws,x,⟨r0,r3,r4,r5⟩,by omega,by omega,ox,cx,Ex,wq,by omega,nx⟩⟩
  rcases hw' with e|e|e|e
  ·simp -implicitDefEqProofs(disch:=omega)only[go_sem,p0,p3,p4,p5,hlen,sa,e]
   exact done _ p0 p3 p4 rfl
  ·simp -implicitDefEqProofs(disch:=omega)only[go_sem,p0,p3,p4,p5,hlen,sa,e]
   exact done _ p0 p3 p4 rfl
  ·simp -implicitDefEqProofs(disch:=omega)only[go_sem,p0,p3,p4,p5,hlen,sa,e]
   exact done _ p0 p3 p4 rfl
  ·simp -implicitDefEqProofs(disch:=omega)only[go_sem,p0,p3,p4,p5,hlen,sa,e]
   exact done _ p0 p3 p4 rfl
 have hw':=of_decide_eq_false (Bool.eq_false_iff.2 hw)
 have w1:c.toNat≠32:=fun e=>hw' (.inl e)
 have w2:c.toNat≠9:=fun e=>hw' (.inr (.inl e))
 have w3:c.toNat≠10:=fun e=>hw' (.inr (.inr (.inl e)))
 have w4:c.toNat≠13:=fun e=>hw' (.inr (.inr (.inr e)))
 by_cases hr:remB c (T.drop (a+1))=true
 ·rw[cutR_r hw hr,←hdr,List.drop_drop]at wq
  obtain⟨r1,r2⟩:=of_decide_eq_true hr
  have a1:a+1<T.length:=by
   rcases Nat.lt_or_ge (a+1) T.length with h|h
   ·exact h
   ·rw[List.drop_eq_nil_of_le h]at r2;cases r2
  have sb:strAt (codesL T) (a+1)=45:=by
   rw[List.drop_eq_getElem_cons a1]at r2
   rw[strAt_by a1]
   exact Option.some.inj r2
  have sp:0<spanL notNl (T.drop a):=by
   rw[hdr]
   exact spanL_pos (decide_eq_true (by omega))
  have sl:=spanL_le notNl (T.drop a)
  rw[List.length_drop]at sl
  simp -implicitDefEqProofs(disch:=omega)only[go_sem,p0,p3,p4,p5,hlen,sa,sb,r1]
  obtain⟨J,hJ⟩:∃J:Nat→FN→HN→Prop,∀m φ ζ',J m φ ζ'↔∃j,m=T.length-(a+j)∧a+j≤T.length∧(φ 0=.str T.length (codesL T)∧φ 3=.ptr η.nx 0∧φ 4=x∧φ 5=.int .i64 (a+j))∧ζ'=ζ∧j+spanL notNl (T.drop (a+j))=spanL notNl (T.drop a):=⟨_,fun _ _ _=>Iff.rfl⟩
  refine wpN_loop J (T.length-a) ((hJ _ _ _).2 ⟨0,rfl,by omega,⟨p0,p3,p4,p5⟩,rfl,Nat.zero_add _⟩) ?_
  intro m' φ' ζ' hj
  obtain⟨j,hm',hja,⟨s0,s3,s4,s5⟩,rfl,hsp⟩:=(hJ _ _ _).1 hj
  have done:∀φ',spanL notNl (T.drop (a+j))=0→φ' 0=.str T.length (codesL T)→φ' 3=.ptr η.nx 0→φ' 4=x→φ' 5=.int .i64 (a+j)→∃m',m'<m+1∧I m' φ' ζ':=fun φ' hz r0 r3 r4 r5=>by
   have:j=spanL notNl (T.drop a):=by omega
   rw[←this]at wq
   exact⟨m,Nat.lt_succ_self _,(hI _ _ _).2 ⟨a+j,ws,x,⟨r0,r3,r4,r5⟩,hja,by omega,ox,cx,Ex,wq,by omega,nx⟩⟩
  by_cases hjt:a+j<T.length
  ·have sj:=strAt_by hjt
   have h8:=(T[a+j]).toNat_lt
   by_cases hn:(T[a+j]).toNat=10
   ·simp -implicitDefEqProofs(disch:=omega)only[go_sem,s0,s3,s4,s5,hlen,sj,hn]
    exact done _ (spanL_end hjt (decide_eq_false (fun g=>g hn))) s0 s3 s4 s5
   ·simp -implicitDefEqProofs(disch:=omega)only[go_sem,s0,s3,s4,s5,hlen,sj,hn]
    have e1:=spanL_drop (ok:=notNl) hjt (decide_eq_true hn)
    exact⟨T.length-(a+(j+1)),by omega,(hJ _ _ _).2 ⟨j+1,rfl,by omega,⟨s0,s3,s4,rfl⟩,rfl,by rw[←hsp,e1,Nat.add_assoc a j 1];omega⟩⟩
  ·simp -implicitDefEqProofs(disch:=omega)only[go_sem,s0,s3,s4,s5,hlen]
   exact done _ (spanL_nil (by omega)) s0 s3 s4 s5
 have hnr:∀(c1:c.toNat=45) (h1:a+1<T.length),T[a+1].toNat≠45:=fun c1 h1 e=>hr (decide_eq_true ⟨c1,by rw[List.drop_eq_getElem_cons h1];exact congrArg some e⟩)
 obtain⟨M1,hM1⟩:∃M1:FN→HN→Prop,∀φ' ζ',M1 φ' ζ'↔ζ'=ζ∧φ' 0=.str T.length (codesL T)∧φ' 3=.ptr η.nx 0∧φ' 4=x∧φ' 5=.int .i64 a:=⟨_,fun _ _=>Iff.rfl⟩
 refine wp_cut (M:=M1) 1 _ _ _ ?_ ?_
 rotate_left
 ·simp -implicitDefEqProofs(disch:=omega)only[go_sem,p0,p3,p4,p5,hlen]
  exact(hM1 _ _).2 ⟨rfl,p0,p3,p4,p5⟩
 clear p0 p3 p4 p5 φ
 intro φ ζ' h1
 obtain⟨rfl,p0,p3,p4,p5⟩:=(hM1 _ _).1 h1
 clear h1
 simp -implicitDefEqProofs(disch:=omega)only[tailC_s,tailC_z]
 rw[Go.Eng.wp_block]
 obtain⟨M1b,hM1b⟩:∃M1b:FN→HN→Prop,∀φ' ζ'',M1b φ' ζ''↔ζ''=ζ'∧φ' 0=.str T.length (codesL T)∧φ' 3=.ptr η.nx 0∧φ' 4=x∧φ' 5=.int .i64 a∧φ' 6=.int .u8 c.toNat:=⟨_,fun _ _=>Iff.rfl⟩
 refine wp_cut (M:=M1b) 3 _ _ _ ?_ ?_
 rotate_left
 ·by_cases c1:c.toNat=45
  ·by_cases h1:a+1<T.length
   ·have sb:strAt (codesL T) (a+1)=T[a+1].toNat:=strAt_by h1
    have:=hnr c1 h1
    simp -implicitDefEqProofs(disch:=omega)only[go_sem,p0,p3,p4,p5,hlen,sa,c1,sb]
    exact(hM1b _ _).2 ⟨rfl,p0,p3,p4,p5,by rw[c1];rfl⟩
   ·simp -implicitDefEqProofs(disch:=omega)only[go_sem,p0,p3,p4,p5,hlen,sa,c1]
    exact(hM1b _ _).2 ⟨rfl,p0,p3,p4,p5,by rw[c1];rfl⟩
  ·simp -implicitDefEqProofs(disch:=omega)only[go_sem,p0,p3,p4,p5,hlen,sa]
   exact(hM1b _ _).2 ⟨rfl,p0,p3,p4,p5,rfl⟩
 clear p0 p3 p4 p5 φ
 intro φ ζ' h1
 obtain⟨rfl,p0,p3,p4,p5,p6⟩:=(hM1b _ _).1 h1
 clear h1
 simp -implicitDefEqProofs(disch:=omega)only[tailC_s,tailC_z]
 obtain⟨M2,hM2⟩:∃M2:FN→HN→Prop,∀φ' ζ'',M2 φ' ζ''↔∃c8 kd n N ok,(φ' 0=.str T.length (codesL T)∧φ' 3=.ptr η.nx 0∧φ' 4=x∧φ' 5=.int .i64 a∧φ' 7=.int .i64 n∧φ' 8=.ptr c8 0∧φ' 9=.bool ok)∧(ζ'.nx≤c8∧c8<ζ''.nx)∧ζ''.f c8=.live false [.int .i64 kd,.str 0 0,.int .i64 N,.int .i64 a]∧ExtB ζ'.nx ζ' ζ'' ∧
   (ok=true→wordL (c::T.drop (a+1))=some (kd,n,N))∧(ok=false→wordL (c::T.drop (a+1))=none):=⟨_,fun _ _=>Iff.rfl⟩
 refine wp_cut (M:=M2) 4 _ _ _ ?_ ?_
 ·intro φ' ζ'' h2
  obtain⟨c8,kd,n,N,ok,⟨p0,p3,p4,p5,p7,p8,p9⟩,⟨g1,g2⟩,d8,E2,ht,hf⟩:=(hM2 _ _).1 h2
  have n2:=E2.1
  have cx2:ζ''.f η.nx=_:=(E2.2 _ (by omega)).trans cx
  simp -implicitDefEqProofs(disch:=omega)only[tailC_s,tailC_z,go_sem,p9]
  cases ok with
  |false =>
   rw[cutR_n hw hr (hf rfl)]at wq
   rw[←wq]at k
   simp -implicitDefEqProofs(disch:=omega)only[go_sem,p0,p3,p4,p5,cx2]
   exact k _ _ (.inl ⟨rfl,.inl rfl⟩) (fun b g=>g.elim) ((Ex.trans (E2.mono Ex.1)).trans (.put (Nat.le_refl _)))
  |true =>
   have hwd:=ht rfl
   rw[cutR_s hw hr hwd,←hdr,List.drop_drop]at wq
   obtain⟨q1,q2,q3,q4,q5⟩:=wordL_ok hwd
   have hlen':(c::T.drop (a+1)).length=T.length-a:=by rw[←hdr,List.length_drop]
   rw[hlen']at q2
   have cutS:strCut (codesL T) a (a+n-a)=codesL ((T.drop a).take n):=by rw[Nat.add_sub_cancel_left];exact strCut_by T a n
   have ln:((T.drop a).take n).length=n:=by rw[List.length_take,List.length_drop];omega
   simp -implicitDefEqProofs(disch:=omega)only[go_sem,p0,p3,p4,p5,p7,p8,d8,cutS,repL_s,repL_z,setsL_c]
   have o1:=own_keep (η':=(ζ''.put c8 (.live false [.int .i64 kd,.str (a+n-a) (codesL ((T.drop a).take n)),.int .i64 N,.int .i64 a])).new (.live false [.int .i64 kd,.str (a+n-a) (codesL ((T.drop a).take n)),.int .i64 N,.int .i64 a])) ox (fun b _ hb=>by simp -implicitDefEqProofs(disch:=omega)only[go_sem];exact E2.2 b hb) (by show ζ'.nx≤ζ''.nx+1;omega)
   refine thenN_sep (by decide) o1 (RdA.lits (s:=4) (n:=1) rfl) (by decide) (by omega) (by show η.nx+1≤ζ''.nx+1;omega) fun η2 o2 n3 k2=>?_
   have n3:η2.nx=ζ''.nx+1+1:=n3
   have k2:∀b,b<ζ'.nx→¬blkIs x b→η2.f b=ζ'.f b:=fun b hb hc=>(k2 b (by show b<ζ''.nx+1;omega) hc).trans (by simp -implicitDefEqProofs(disch:=omega)only[go_sem];exact E2.2 b hb)
   have c2:η2.f η.nx=_:=(k2 _ (by omega) (fun g=>by have:=own_at ox g;omega)).trans cx
   have o2:OwnA 4 (η.nx+1) η2 (.slice (ζ''.nx+1) 0 (ws.length+1) (.un 4)) (ws++[(⟨kd,sS ((T.drop a).take n),N,a⟩:Wd)]).length ((ws++[(⟨kd,sS ((T.drop a).take n),N,a⟩:Wd)]).map Wd.cells).flatten:=by
    rw[List.map_append,List.map_cons,List.map_nil,flatten_snoc,List.length_append]
    have:sS ((T.drop a).take n)=(a+n-a,codesL ((T.drop a).take n)):=by
     unfold sS
     rw[ln,Nat.add_sub_cancel_left]
    rw[this]
    exact o2
   simp -implicitDefEqProofs(disch:=omega)only[go_sem,p0,p3,p4,p5,p7]
   refine⟨m,Nat.lt_succ_self _,(hI _ _ _).2 ⟨a+n,_,_,⟨p0,p3,rfl,rfl⟩,by omega,by omega,o2,c2,?_,wq,?_,by omega⟩⟩
   ·exact⟨by have:=Ex.1;omega,fun b hb=>(k2 b (by have:=Ex.1;omega) (fun g=>by have:=own_at ox g;omega)).trans (Ex.2 b hb)⟩
   ·rw[List.length_append];simp only[List.length_cons,List.length_nil];omega
 ·have hfull:c::T.drop (a+1)=T.drop a:=hdr.symm
  have hle:∀ok,spanL ok (T.drop a)≤T.length-a:=fun ok=>by have:=spanL_le ok (T.drop a);rw[List.length_drop]at this;exact this
  simp -implicitDefEqProofs(disch:=omega)only[go_sem,p0,p3,p4,p5,p6,hlen]
  have cc:(ζ'.new (.live false [.int .i64 0,.str 0 0,.int .i64 0,.int .i64 a])).f ζ'.nx=.live false [.int .i64 0,.str 0 0,.int .i64 0,.int .i64 a]:=if_pos rfl
  have nc:(ζ'.new (.live false [.int .i64 0,.str 0 0,.int .i64 0,.int .i64 a])).nx=ζ'.nx+1:=rfl
  have Ec:ExtB ζ'.nx ζ' (ζ'.new (.live false [.int .i64 0,.str 0 0,.int .i64 0,.int .i64 a])):=.new (Nat.le_refl _)
  generalize ζ'.new (.live false [.int .i64 0,.str 0 0,.int .i64 0,.int .i64 a])=ζ1 at *
  have fin:∀(φ':FN) (ζ2:HN) (kd n N:Nat) (ok:Bool),φ' 0=.str T.length (codesL T)→φ' 3=.ptr η.nx 0→φ' 4=x→φ' 5=.int .i64 a→φ' 7=.int .i64 n→φ' 8=.ptr ζ'.nx 0→φ' 9=.bool ok→ζ2.nx≥ζ1.nx →
    ζ2.f ζ'.nx=.live false [.int .i64 kd,.str 0 0,.int .i64 N,.int .i64 a]→(∀b,b<ζ'.nx→ζ2.f b=ζ'.f b)→(ok=true→wordL (c::T.drop (a+1))=some (kd,n,N))→(ok=false→wordL (c::T.drop (a+1))=none)→M2 φ' ζ2 :=
   fun φ' ζ2 kd n N ok q0 q3 q4 q5 q7 q8 q9 qn qc qk qt qf=>(hM2 _ _).2 ⟨ζ'.nx,kd,n,N,ok,⟨q0,q3,q4,q5,q7,q8,q9⟩,⟨Nat.le_refl _,by omega⟩,qc,⟨by omega,qk⟩,qt,qf⟩
  have ln:∀n,n≤T.length-a→((T.drop a).take n).length=n:=fun n hn=>by rw[List.length_take,List.length_drop];omega
  have cutS:∀n,strCut (codesL T) a (a+n-a)=codesL ((T.drop a).take n):=fun n=>by rw[Nat.add_sub_cancel_left];exact strCut_by T a n
  refine thenN_call (letter_then U ?_)
  cases hl:letterB c with
  |true =>
   simp -implicitDefEqProofs(disch:=omega)only[go_sem,p0,p3,p4,p5,p6,hlen]
   obtain⟨J,hJ⟩:∃J:Nat→FN→HN→Prop,∀m φ ζ2,J m φ ζ2↔∃j,m=T.length-(a+j)∧a+j≤T.length∧(φ 0=.str T.length (codesL T)∧φ 3=.ptr η.nx 0∧φ 4=x∧φ 5=.int .i64 a∧φ 7=.int .i64 j∧φ 8=.ptr ζ'.nx 0∧φ 9=.bool true)∧ζ2=ζ1∧j+spanL nameB (T.drop (a+j))=spanL nameB (T.drop a):=⟨_,fun _ _ _=>Iff.rfl⟩
   refine wpN_loop J (T.length-a) ((hJ _ _ _).2 ⟨0,rfl,by omega,⟨p0,p3,p4,p5,rfl,rfl,rfl⟩,rfl,Nat.zero_add _⟩) ?_
   clear p0 p3 p4 p5 p6
   intro m' φ' ζ2 hj
   obtain⟨j,hm',hja,⟨s0,s3,s4,s5,s7,s8,s9⟩,rfl,hsp⟩:=(hJ _ _ _).1 hj
   have done:spanL nameB (T.drop (a+j))=0→∀φ':FN,φ' 0=.str T.length (codesL T)→φ' 3=.ptr η.nx 0→φ' 4=x→φ' 5=.int .i64 a→φ' 7=.int .i64 j→φ' 8=.ptr ζ'.nx 0→∀(kd:Nat) (ζ3:HN),φ' 9=.bool (decide (j≤24))→ζ3.nx≥ζ2.nx→ζ3.f ζ'.nx=.live false [.int .i64 kd,.str 0 0,.int .i64 0,.int .i64 a]→(∀b,b<ζ'.nx→ζ3.f b=ζ'.f b)→kd=(if keptS (sS ((T.drop a).take j)) then 2 else 1)→M2 φ' ζ3:=by
    intro hz φ' r0 r3 r4 r5 r7 r8 kd ζ3 r9 rn rc rk rkd
    have e1:j=spanL nameB (T.drop a):=by omega
    have ew:wordL (c::T.drop (a+1))=if j≤24 then some (kd,j,0) else none:=by
     unfold wordL
     dsimp only
     rw[if_pos hl,hfull,←e1,rkd]
    refine fin φ' ζ3 kd j 0 _ r0 r3 r4 r5 r7 r8 r9 rn rc rk (fun g=>?_) (fun g=>?_)
    ·rw[ew,if_pos (of_decide_eq_true g)]
    ·rw[ew,if_neg (of_decide_eq_false g)]
   have cutJ:strCut (codesL T) a j=codesL ((T.drop a).take j):=strCut_by T a j
   have aj:a+j-a=j:=Nat.add_sub_cancel_left a j
   have sj':sS ((T.drop a).take j)=(j,codesL ((T.drop a).take j)):=by unfold sS;rw[ln j (by omega)]
   by_cases hjt:a+j<T.length
   ·have sj:=strAt_by hjt
    have h8:=(T[a+j]).toNat_lt
    simp -implicitDefEqProofs(disch:=omega)only[go_sem,s0,s3,s4,s5,s7,s8,s9,hlen,sj]
    refine thenN_call (letter_then U ?_)
    cases hl2:letterB T[a+j] with
    |true =>
     simp -implicitDefEqProofs(disch:=omega)only[go_sem,s0,s3,s4,s5,s7,s8,s9,hlen,sj]
     have e1:=spanL_drop (ok:=nameB) hjt (by unfold nameB;rw[hl2];rfl)
     exact⟨T.length-(a+(j+1)),by omega,(hJ _ _ _).2 ⟨j+1,rfl,by omega,⟨s0,s3,s4,s5,rfl,s8,s9⟩,rfl,by rw[←hsp,e1,Nat.add_assoc a j 1];omega⟩⟩
    |false =>
     simp -implicitDefEqProofs(disch:=omega)only[go_sem,s0,s3,s4,s5,s7,s8,s9,hlen,sj]
     refine thenN_call (digit_then U ?_)
     cases hd2:digitB T[a+j] with
     |true =>
      simp -implicitDefEqProofs(disch:=omega)only[go_sem,s0,s3,s4,s5,s7,s8,s9,hlen,sj]
      have e1:=spanL_drop (ok:=nameB) hjt (by unfold nameB;rw[hl2,hd2];rfl)
      exact⟨T.length-(a+(j+1)),by omega,(hJ _ _ _).2 ⟨j+1,rfl,by omega,⟨s0,s3,s4,s5,rfl,s8,s9⟩,rfl,by rw[←hsp,e1,Nat.add_assoc a j 1];omega⟩⟩
     |false =>
      by_cases hu:(T[a+j]).toNat=95
      ·simp -implicitDefEqProofs(disch:=omega)only[go_sem,s0,s3,s4,s5,s7,s8,s9,hlen,sj,hu]
       have e1:=spanL_drop (ok:=nameB) hjt (by unfold nameB;rw[decide_eq_true hu];simp)
       exact⟨T.length-(a+(j+1)),by omega,(hJ _ _ _).2 ⟨j+1,rfl,by omega,⟨s0,s3,s4,s5,rfl,s8,s9⟩,rfl,by rw[←hsp,e1,Nat.add_assoc a j 1];omega⟩⟩
      ·have ez:=spanL_end (ok:=nameB) hjt (by unfold nameB;rw[hl2,hd2,decide_eq_false hu];rfl)
       simp -implicitDefEqProofs(disch:=omega)only[go_sem,s0,s3,s4,s5,s7,s8,s9,hlen,cc,aj,cutJ,sj]
       refine thenN_call (kept_then U (j,codesL ((T.drop a).take j)) fun ζ3 x3=>?_)
       have c3:ζ3.f ζ'.nx=_:=(x3.2 _ (by show ζ'.nx<ζ2.nx;omega)).trans (if_pos rfl)
       have k3:∀b,b<ζ'.nx→ζ3.f b=ζ'.f b:=fun b hb=>(x3.2 b (by show b<ζ2.nx;omega)).trans ((if_neg (by omega)).trans (Ec.2 b hb))
       have n3:ζ2.nx≤ζ3.nx:=x3.1
       cases hk:keptS (j,codesL ((T.drop a).take j)) with
       |true =>
        by_cases h24:j≤24
        ·simp -implicitDefEqProofs(disch:=omega)only[go_sem,s0,s3,s4,s5,s7,s8,s9,hlen,c3]
         exact done ez _ (by exact s0) (by exact s3) (by exact s4) (by exact s5) (by exact s7) (by exact s8) 2 _ (by exact congrArg AV.bool (decide_eq_true h24).symm) (by exact n3) (by exact if_pos rfl) (by exact fun b hb=>(if_neg (by omega)).trans (k3 b hb)) (by rw[sj',hk];rfl)
        ·simp -implicitDefEqProofs(disch:=omega)only[go_sem,s0,s3,s4,s5,s7,s8,s9,hlen,c3]
         exact done ez _ (by exact s0) (by exact s3) (by exact s4) (by exact s5) (by exact s7) (by exact s8) 2 _ (by exact congrArg AV.bool (decide_eq_false h24).symm) (by exact n3) (by exact if_pos rfl) (by exact fun b hb=>(if_neg (by omega)).trans (k3 b hb)) (by rw[sj',hk];rfl)
       |false =>
        by_cases h24:j≤24
        ·simp -implicitDefEqProofs(disch:=omega)only[go_sem,s0,s3,s4,s5,s7,s8,s9,hlen,c3]
         exact done ez _ (by exact s0) (by exact s3) (by exact s4) (by exact s5) (by exact s7) (by exact s8) 1 _ (by exact congrArg AV.bool (decide_eq_true h24).symm) (by exact n3) (by exact c3) (by exact k3) (by rw[sj',hk];rfl)
        ·simp -implicitDefEqProofs(disch:=omega)only[go_sem,s0,s3,s4,s5,s7,s8,s9,hlen,c3]
         exact done ez _ (by exact s0) (by exact s3) (by exact s4) (by exact s5) (by exact s7) (by exact s8) 1 _ (by exact congrArg AV.bool (decide_eq_false h24).symm) (by exact n3) (by exact c3) (by exact k3) (by rw[sj',hk];rfl)
   ·have ez:=spanL_nil (ok:=nameB) (l:=T) (n:=a+j) (by omega)
    simp -implicitDefEqProofs(disch:=omega)only[go_sem,s0,s3,s4,s5,s7,s8,s9,hlen,cc,aj,cutJ]
    refine thenN_call (kept_then U (j,codesL ((T.drop a).take j)) fun ζ3 x3=>?_)
    have c3:ζ3.f ζ'.nx=_:=(x3.2 _ (by show ζ'.nx<ζ2.nx;omega)).trans (if_pos rfl)
    have k3:∀b,b<ζ'.nx→ζ3.f b=ζ'.f b:=fun b hb=>(x3.2 b (by show b<ζ2.nx;omega)).trans ((if_neg (by omega)).trans (Ec.2 b hb))
    have n3:ζ2.nx≤ζ3.nx:=x3.1
    cases hk:keptS (j,codesL ((T.drop a).take j)) with
    |true =>
     by_cases h24:j≤24
     ·simp -implicitDefEqProofs(disch:=omega)only[go_sem,s0,s3,s4,s5,s7,s8,s9,hlen,c3]
      exact done ez _ (by exact s0) (by exact s3) (by exact s4) (by exact s5) (by exact s7) (by exact s8) 2 _ (by exact congrArg AV.bool (decide_eq_true h24).symm) (by exact n3) (by exact if_pos rfl) (by exact fun b hb=>(if_neg (by omega)).trans (k3 b hb)) (by rw[sj',hk];rfl)
     ·simp -implicitDefEqProofs(disch:=omega)only[go_sem,s0,s3,s4,s5,s7,s8,s9,hlen,c3]
      exact done ez _ (by exact s0) (by exact s3) (by exact s4) (by exact s5) (by exact s7) (by exact s8) 2 _ (by exact congrArg AV.bool (decide_eq_false h24).symm) (by exact n3) (by exact if_pos rfl) (by exact fun b hb=>(if_neg (by omega)).trans (k3 b hb)) (by rw[sj',hk];rfl)
    |false =>
     by_cases h24:j≤24
     ·simp -implicitDefEqProofs(disch:=omega)only[go_sem,s0,s3,s4,s5,s7,s8,s9,hlen,c3]
      exact done ez _ (by exact s0) (by exact s3) (by exact s4) (by exact s5) (by exact s7) (by exact s8) 1 _ (by exact congrArg AV.bool (decide_eq_true h24).symm) (by exact n3) (by exact c3) (by exact k3) (by rw[sj',hk];rfl)
     ·simp -implicitDefEqProofs(disch:=omega)only[go_sem,s0,s3,s4,s5,s7,s8,s9,hlen,c3]
      exact done ez _ (by exact s0) (by exact s3) (by exact s4) (by exact s5) (by exact s7) (by exact s8) 1 _ (by exact congrArg AV.bool (decide_eq_false h24).symm) (by exact n3) (by exact c3) (by exact k3) (by rw[sj',hk];rfl)
  |false =>
   simp -implicitDefEqProofs(disch:=omega)only[go_sem,p0,p3,p4,p5,p6,hlen]
   refine thenN_call (digit_then U ?_)
   cases hd:digitB c with
   |true =>
    simp -implicitDefEqProofs(disch:=omega)only[go_sem,p0,p3,p4,p5,p6,hlen]
    obtain⟨J,hJ⟩:∃J:Nat→FN→HN→Prop,∀m φ ζ2,J m φ ζ2↔∃j,m=T.length-(a+j)∧a+j≤T.length∧(φ 0=.str T.length (codesL T)∧φ 3=.ptr η.nx 0∧φ 4=x∧φ 5=.int .i64 a∧φ 7=.int .i64 j∧φ 8=.ptr ζ'.nx 0)∧ζ2=ζ1∧j+spanL digitB (T.drop (a+j))=spanL digitB (T.drop a):=⟨_,fun _ _ _=>Iff.rfl⟩
    refine wpN_loop J (T.length-a) ((hJ _ _ _).2 ⟨0,rfl,by omega,⟨p0,p3,p4,p5,rfl,rfl⟩,rfl,Nat.zero_add _⟩) ?_
    clear p0 p3 p4 p5 p6
    intro m' φ' ζ2 hj
    obtain⟨j,hm',hja,⟨s0,s3,s4,s5,s7,s8⟩,rfl,hsp⟩:=(hJ _ _ _).1 hj
    have cutJ:strCut (codesL T) a j=codesL ((T.drop a).take j):=strCut_by T a j
    have aj:a+j-a=j:=Nat.add_sub_cancel_left a j
    have lj:((T.drop a).take j).length=j:=ln j (by omega)
    have sl:((T.drop a).take j).length≤16384:=by rw[lj];omega
    have done:spanL digitB (T.drop (a+j))=0→∀φ':FN,φ' 0=.str T.length (codesL T)→φ' 3=.ptr η.nx 0→φ' 4=x→φ' 5=.int .i64 a→φ' 7=.int .i64 j→φ' 8=.ptr ζ'.nx 0→∀(v:Nat) (ζ3:HN),φ' 9=.bool (numOk ((T.drop a).take j))→ζ3.nx≥ζ2.nx→ζ3.f ζ'.nx=.live false [.int .i64 3,.str 0 0,.int .i64 v,.int .i64 a]→(∀b,b<ζ'.nx→ζ3.f b=ζ'.f b)→(numOk ((T.drop a).take j)=true→v=valL 0 ((T.drop a).take j))→M2 φ' ζ3:=by
     intro hz φ' r0 r3 r4 r5 r7 r8 v ζ3 r9 rn rc rk rv
     have e1:j=spanL digitB (T.drop a):=by omega
     have ew:wordL (c::T.drop (a+1))=if numOk ((T.drop a).take j) then some (3,j,valL 0 ((T.drop a).take j)) else none:=by
      unfold wordL
      dsimp only
      rw[if_neg (by rw[hl];decide),if_pos hd,hfull,←e1]
     refine fin φ' ζ3 3 j v _ r0 r3 r4 r5 r7 r8 r9 rn rc rk (fun g=>?_) (fun g=>?_)
     ·rw[ew,if_pos g,rv g]
     ·rw[ew,if_neg (by rw[g];decide)]
    by_cases hjt:a+j<T.length
    ·have sj:=strAt_by hjt
     have h8:=(T[a+j]).toNat_lt
     simp -implicitDefEqProofs(disch:=omega)only[go_sem,s0,s3,s4,s5,s7,s8,hlen,sj]
     refine thenN_call (digit_then U ?_)
     cases hd2:digitB T[a+j] with
     |true =>
      simp -implicitDefEqProofs(disch:=omega)only[go_sem,s0,s3,s4,s5,s7,s8,hlen,sj]
      have e1:=spanL_drop (ok:=digitB) hjt hd2
      exact⟨T.length-(a+(j+1)),by omega,(hJ _ _ _).2 ⟨j+1,rfl,by omega,⟨s0,s3,s4,s5,rfl,s8⟩,rfl,by rw[←hsp,e1,Nat.add_assoc a j 1];omega⟩⟩
     |false =>
      have ez:=spanL_end (ok:=digitB) hjt hd2
      simp -implicitDefEqProofs(disch:=omega)only[go_sem,s0,s3,s4,s5,s7,s8,hlen,cc,aj,cutJ,sj]
      have hds:∀d∈(T.drop a).take j,digitB d=true:=by
       have e1:j=spanL digitB (T.drop a):=by omega
       rw[e1]
       exact spanL_all digitB _
      have nt:∀(Q:AV→HN→Prop) (ζ0:HN),(∀v,(numOk ((T.drop a).take j)=true→v=valL 0 ((T.drop a).take j))→Q (.tup [.int .i64 v,.bool (numOk ((T.drop a).take j))]) ζ0)→∃v η',CallN Tryz.prog nat 62 [.str j (codesL ((T.drop a).take j))] ζ0 v η'∧Q v η':=fun Q ζ0 kk=>by
       have:=number_then (nat:=nat) (η:=ζ0) (Q:=Q) U sl hds kk
       rw[lj]at this
       exact this
      refine thenN_call (nt _ _ fun v hv=>?_)
      simp -implicitDefEqProofs(disch:=omega)only[go_sem,s0,s3,s4,s5,s7,s8,hlen,cc]
      exact done ez _ (by exact s0) (by exact s3) (by exact s4) (by exact s5) (by exact s7) (by exact s8) v _ (by rfl) (by exact Nat.le_refl _) (by exact if_pos rfl) (by exact fun b hb=>(if_neg (by omega)).trans ((if_neg (by omega)).trans (Ec.2 b hb))) hv
    ·have ez:=spanL_nil (ok:=digitB) (l:=T) (n:=a+j) (by omega)
     simp -implicitDefEqProofs(disch:=omega)only[go_sem,s0,s3,s4,s5,s7,s8,hlen,cc,aj,cutJ]
     have hds:∀d∈(T.drop a).take j,digitB d=true:=by
      have e1:j=spanL digitB (T.drop a):=by omega
      rw[e1]
      exact spanL_all digitB _
     have nt:∀(Q:AV→HN→Prop) (ζ0:HN),(∀v,(numOk ((T.drop a).take j)=true→v=valL 0 ((T.drop a).take j))→Q (.tup [.int .i64 v,.bool (numOk ((T.drop a).take j))]) ζ0)→∃v η',CallN Tryz.prog nat 62 [.str j (codesL ((T.drop a).take j))] ζ0 v η'∧Q v η':=fun Q ζ0 kk=>by
      have:=number_then (nat:=nat) (η:=ζ0) (Q:=Q) U sl hds kk
      rw[lj]at this
      exact this
     refine thenN_call (nt _ _ fun v hv=>?_)
     simp -implicitDefEqProofs(disch:=omega)only[go_sem,s0,s3,s4,s5,s7,s8,hlen,cc]
     exact done ez _ (by exact s0) (by exact s3) (by exact s4) (by exact s5) (by exact s7) (by exact s8) v _ (by rfl) (by exact Nat.le_refl _) (by exact if_pos rfl) (by exact fun b hb=>(if_neg (by omega)).trans ((if_neg (by omega)).trans (Ec.2 b hb))) hv
   |false =>
    simp -implicitDefEqProofs(disch:=omega)only[go_sem,p0,p3,p4,p5,p6,hlen,cc]
    have cutA:strCut (codesL T) a (T.length-a)=codesL (c::T.drop (a+1)):=by rw[hfull,strCut_by];congr 1;exact List.take_of_length_le (by rw[List.length_drop];omega)
    have lenA:T.length-a=(c::T.drop (a+1)).length:=by rw[hfull,List.length_drop]
    rw[cutA,lenA]
    have sgl:=signL_le (c::T.drop (a+1))
    refine thenN_call (sign_then U (by rw[List.length_drop];omega) fun v ζ3 x3=>?_)
    have c3:ζ3.f ζ'.nx=_:=(x3.2 _ (by show ζ'.nx<ζ1.nx;omega)).trans (if_pos rfl)
    have k3:∀b,b<ζ'.nx→ζ3.f b=ζ'.f b:=fun b hb=>(x3.2 b (by show b<ζ1.nx;omega)).trans ((if_neg (by omega)).trans (Ec.2 b hb))
    have n3:ζ1.nx≤ζ3.nx:=x3.1
    have sgb:signL (c::T.drop (a+1))≤16384:=by rw[←lenA]at sgl;omega
    have ew:wordL (c::T.drop (a+1))=if signL (c::T.drop (a+1))=0 then none else some (4,signL (c::T.drop (a+1)),0):=by
     unfold wordL
     dsimp only
     rw[if_neg (by rw[hl];decide),if_neg (by rw[hd];decide)]
    by_cases hs0:signL (c::T.drop (a+1))=0
    ·rw[if_pos hs0]at ew
     rw[hs0]
     simp -implicitDefEqProofs(disch:=omega)only[go_sem,p0,p3,p4,p5,p6,hlen,c3]
     exact fin _ ζ3 4 0 0 false (by exact p0) (by exact p3) (by exact p4) (by exact p5) (by rfl) (by rfl) (by rfl) n3 c3 k3 (fun g=>by cases g) (fun _=>ew)
    ·rw[if_neg hs0]at ew
     simp -implicitDefEqProofs(disch:=omega)only[go_sem,p0,p3,p4,p5,p6,hlen,c3]
     exact fin _ ζ3 4 _ 0 true (by exact p0) (by exact p3) (by exact p4) (by exact p5) (by rfl) (by rfl) (by rfl) n3 c3 k3 (fun _=>ew) (fun g=>by cases g)
end Go.Proofs.YtdeejbnhlbddgaaGreatDoor
