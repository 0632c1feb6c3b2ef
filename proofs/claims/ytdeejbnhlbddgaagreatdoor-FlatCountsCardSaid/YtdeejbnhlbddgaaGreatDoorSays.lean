/- What is proved: FlatCounts, walked. Conditions: as each theorem says. -/
import Derived.Test.YtdeejbnhlbddgaaGreatDoorCauB
import Derived.Test.YtdeejbnhlbddgaaGreatDoorFcI
set_option linter.unusedVariables false
set_option linter.unusedSimpArgs false
set_option linter.unusedSectionVars false
namespace Go.Proofs.YtdeejbnhlbddgaaGreatDoor
open Go.Eng Go.Plain
set_option autoImplicit false
set_option maxRecDepth 100000
variable {nat:∀ [Deep],Nats}
attribute [local irreducible] wpN
@[go_sem] theorem opd_f_s0 {φ:FN}:opd φ (.const (.string ⟨#[110,111,100,101,32,110,97,40,120,58,32,105,110,116,41,32,114,101,116,117,114,110,115,32,40,121,58,32,105,110,116,41,59,32,108,101,116,32,121,32,61,32,120,59,32,116,101,108,32]⟩))=.str 49 1277547916292386015304687536697803707927429618713516791915404477863611978394917645124379749234258709095054200751288174:=rfl
@[go_sem] theorem opd_f_z {φ:FN}:opd φ (.const (.string ⟨#[48]⟩))=.str 1 48:=rfl
@[go_sem] theorem opd_f_pn {φ:FN}:opd φ (.const (.string ⟨#[32,43,32,110]⟩))=.str 4 1847601952:=rfl
def fb_pn:By:=[32,43,32,110]
theorem cf_pn:codesL fb_pn=1847601952:=by kernel_rfl
theorem lf_pn:fb_pn.length=4:=rfl
@[go_sem] theorem opd_f_px {φ:FN}:opd φ (.const (.string ⟨#[40,120,41]⟩))=.str 3 2717736:=rfl
def fb_px:By:=[40,120,41]
theorem cf_px:codesL fb_px=2717736:=by kernel_rfl
theorem lf_px:fb_px.length=3:=rfl
@[go_sem] theorem opd_f_nn {φ:FN}:opd φ (.const (.string ⟨#[110,111,100,101,32,110]⟩))=.str 6 121085419089774:=rfl
def fb_nn:By:=[110,111,100,101,32,110]
theorem cf_nn:codesL fb_nn=121085419089774:=by kernel_rfl
theorem lf_nn:fb_nn.length=6:=rfl
@[go_sem] theorem opd_f_hd {φ:FN}:opd φ (.const (.string ⟨#[40,120,58,32,105,110,116,41,32,114,101,116,117,114,110,115,32,40,121,58,32,105,110,116,41,59,32,108,101,116,32,121,32,61,32]⟩))=.str 35 244645580927798779256889762682621613746339029327401417727033170844658033462309713960:=rfl
def fb_hd:By:=[40,120,58,32,105,110,116,41,32,114,101,116,117,114,110,115,32,40,121,58,32,105,110,116,41,59,32,108,101,116,32,121,32,61,32]
theorem cf_hd:codesL fb_hd=244645580927798779256889762682621613746339029327401417727033170844658033462309713960:=by kernel_rfl
theorem lf_hd:fb_hd.length=35:=rfl
@[go_sem] theorem opd_f_tl {φ:FN}:opd φ (.const (.string ⟨#[59,32,116,101,108,32]⟩))=.str 6 35649930666043:=rfl
def fb_tl:By:=[59,32,116,101,108,32]
theorem cf_tl:codesL fb_tl=35649930666043:=by kernel_rfl
theorem lf_tl:fb_tl.length=6:=rfl
theorem catF {n v w:Nat} {x y:By} (hn:n=x.length) (hv:v=codesL x) (hw:w=codesL y):strCat n v w=codesL (x++y):=by
 subst hn hv hw
 exact cat_codes x y
theorem strF {n v:Nat} {x y:By} (hn:n=x.length) (hv:v=codesL x) (h:x=y):AV.str n v=.str y.length (codesL y):=by
 subst hn hv h;rfl
def chB (i:Nat):By:=[UInt8.ofNat (97+i)]
theorem chB_c {i:Nat} (h:i<20):97+i=codesL (chB i):=by
 show _=(UInt8.ofNat (97+i)).toNat+256*0
 rw[u8_of (by omega)];omega
theorem chB_l (i:Nat):(chB i).length=1:=rfl
theorem e_step (X:By) {p:Nat} (h:p<20):AV.str (X.length+4+1+3) (strCat (X.length+4+1) (strCat (X.length+4) (strCat X.length (codesL X) 1847601952) (97+p)) 2717736)=.str (X++fcCall p).length (codesL (X++fcCall p)) :=
 strF (x:=X++fb_pn++chB p++fb_px) (by simp only[List.length_append,lf_pn,chB_l,lf_px]) (catF (by simp only[List.length_append,lf_pn,chB_l]) (catF (by simp only[List.length_append,lf_pn]) (catF rfl rfl cf_pn.symm) (chB_c h)) cf_px.symm) (by simp only[List.append_assoc];rfl)
theorem s_step (X Y:By) {i:Nat} (h:i<20):AV.str (X.length+6+1+35+Y.length+6) (strCat (X.length+6+1+35+Y.length) (strCat (X.length+6+1+35) (strCat (X.length+6+1) (strCat (X.length+6) (strCat X.length (codesL X) 121085419089774) (97+i)) 244645580927798779256889762682621613746339029327401417727033170844658033462309713960) (codesL Y)) 35649930666043)=.str (X++(fcHead i++(Y++fcTel))).length (codesL (X++(fcHead i++(Y++fcTel)))) :=
 strF (x:=X++fb_nn++chB i++fb_hd++Y++fb_tl) (by simp only[List.length_append,lf_nn,chB_l,lf_hd,lf_tl]) (catF (by simp only[List.length_append,lf_nn,chB_l,lf_hd]) (catF (by simp only[List.length_append,lf_nn,chB_l,lf_hd]) (catF (by simp only[List.length_append,lf_nn,chB_l]) (catF (by simp only[List.length_append,lf_nn]) (catF rfl rfl cf_nn.symm) (chB_c h)) cf_hd.symm) rfl) cf_tl.symm) (by simp only[List.append_assoc];rfl)
theorem fcE_len (i:Nat):∀k,(fcE i k).length=1+8*k
 |0=>rfl
 |k+1=>by
  show(fcE i k++fcCall i).length=_
  rw[List.length_append,fcE_len]
  show 1+8*k+8=_
  omega
theorem fcS_len (t:Nat):∀n,(fcS t n).length=49+n*(49+8*t)
 |0=>by rw[Nat.zero_mul];rfl
 |n+1=>by
  show(fcS t n++(fcHead (n+1)++(fcE n t++fcTel))).length=_
  have h1:(fcHead (n+1)).length=42:=rfl
  have h2:fcTel.length=6:=rfl
  have h3:(n+1)*(49+8*t)=n*(49+8*t)+(49+8*t):=Nat.succ_mul _ _
  rw[List.length_append,List.length_append,List.length_append,fcS_len t n,fcE_len,h1,h2,h3]
  omega
theorem cntG_le (t:Nat):∀n,cntG t n≤1001
 |0=>by show 1≤1001;decide
 |n+1=>Nat.min_le_right _ _
theorem read_calm (U:Usual nat) {η:HN} {T:By} (hT:T.length≤9223372036854775807) (C:CalmN (parseF T).1) (he:(parseF T).2.1=0) (ha:(parseF T).2.2=0) {Q:AV→HN→Prop}
  (k:∀v ls η',RdR 6 η' v ls→rdNs tt η' (parseF T).1 ls→ExtB η.nx η η'→Q (.tup [v,.bool true]) η'):∃v η',CallN Tryz.prog nat 5 [.str T.length (codesL T)] η v η'∧Q v η':=by
 refine call_of (PT:=pl5) Tryz.func5 rfl (U 5 (by decide)) ok5 rfl ?_
 simp -implicitDefEqProofs(disch:=omega)only[go_sem]
 refine thenN_call (check6_calm U hT C he ha fun v ls η2 r1 r2 E2=>?_)
 have e3:ExtB η2.nx η2 (η2.new (.live false [.int .i64 0,.int .i64 0])):=extN (.refl _ _)
 simp -implicitDefEqProofs(disch:=omega)only[go_sem,repL_s,repL_z,setsL_c]
 exact k v ls _ (r1.ext (base:=0) e3) (rdNs_keep (keep_b e3) e3.1 (fun _ h=>h) r2) (extT E2 e3)
theorem fcount_then (U:Usual nat) {η:HN} {v:AV} {Q:AV→HN→Prop} {x:Nat} (h:∀Q':AV→HN→Prop,(∀η',ExtB η.nx η η'→Q' (.int .i64 x) η')→∃v' η',CallN Tryz.prog nat 11 [v] η v' η'∧Q' v' η') (k:∀η',ExtB η.nx η η'→Q (.int .i64 x) η'):∃v' η',CallN Tryz.prog nat 6 [v] η v' η'∧Q v' η':=by
 refine call_of (PT:=pl6) Tryz.func6 rfl (U 6 (by decide)) ok6 rfl ?_
 simp -implicitDefEqProofs(disch:=omega)only[go_sem]
 refine thenN_call (h _ fun η2 E2=>?_)
 simp -implicitDefEqProofs(disch:=omega)only[go_sem]
 exact k _ E2
set_option maxHeartbeats 8000000 in
theorem flatCounts_spec (U:Usual nat) (hk:∀ [Deep],nat 4=some trueNat) (η:HN) (n:Nat) (hn:n<18446744073709551616) (t:Nat) (ht:t<18446744073709551616) :
  ∃v η',CallN Tryz.prog nat 3 [.int .i64 n,.int .i64 t] η v η'∧v=.bool true:=by
 refine call_of (PT:=pl3) Tryz.func3 rfl (U 3 (by decide)) ok3 rfl ?_
 simp -implicitDefEqProofs(disch:=omega)only[go_sem]
 refine thenN_call ⟨_,_,callN_true hk,?_⟩
 simp -implicitDefEqProofs(disch:=omega)only[go_sem,Bool.not_true]
 by_cases A1:9223372036854775807<n
 ·have f1:=ltN_big A1 (m:=1) (by decide)
  simp -implicitDefEqProofs(disch:=omega)only[go_sem,f1]
 by_cases A2:n<1
 ·simp -implicitDefEqProofs(disch:=omega)only[go_sem]
 by_cases A3:12<n
 ·simp -implicitDefEqProofs(disch:=omega)only[go_sem]
 by_cases A4:9223372036854775807<t
 ·have f1:=ltN_big A4 (m:=1) (by decide)
  simp -implicitDefEqProofs(disch:=omega)only[go_sem,f1]
 by_cases A5:t<1
 ·simp -implicitDefEqProofs(disch:=omega)only[go_sem]
 by_cases A6:4<t
 ·simp -implicitDefEqProofs(disch:=omega)only[go_sem]
 simp -implicitDefEqProofs(disch:=omega)only[go_sem]
 obtain⟨I,hI⟩:∃I:Nat→FN→HN→Prop,∀m φ ζ,I m φ ζ↔∃p,m=n-(p+1)∧p+1≤n∧(φ 0=.int .i64 n∧φ 1=.int .i64 t∧φ 7=.int .i64 (p+1)∧φ 5=.str (fcS t p).length (codesL (fcS t p))∧φ 6=.int .i64 (cntG t p)):=⟨_,fun _ _ _=>Iff.rfl⟩
 refine wpN_loop I (n-1) ((hI _ _ _).2 ⟨0,rfl,by omega,rfl,rfl,rfl,rfl,rfl⟩) ?_
 intro m φ ζ hi
 obtain⟨p,hm,hp,p0,p1,p7,p5,p6⟩:=(hI _ _ _).1 hi
 have sl:(fcS t p).length≤1000:=by
  rw[fcS_len]
  have:p*(49+8*t)≤11*(49+8*4):=Nat.mul_le_mul (by omega) (by omega)
  omega
 have cl:=cntG_le t p
 by_cases hlt:p+1<n
 ·simp -implicitDefEqProofs(disch:=omega)only[go_sem,p0,p1,p5,p6,p7]
  obtain⟨J,hJ⟩:∃J:Nat→FN→HN→Prop,∀m φ ζ,J m φ ζ↔∃k,m=t-k∧k≤t∧(φ 0=.int .i64 n∧φ 1=.int .i64 t∧φ 7=.int .i64 (p+1)∧φ 5=.str (fcS t p).length (codesL (fcS t p))∧φ 6=.int .i64 (cntG t p)∧φ 8=.str (fcE p k).length (codesL (fcE p k))∧φ 9=.int .i64 k):=⟨_,fun _ _ _=>Iff.rfl⟩
  refine wpN_loop J t ((hJ _ _ _).2 ⟨0,rfl,Nat.zero_le _,by exact p0,by exact p1,by exact p7,by exact p5,by exact p6,rfl,rfl⟩) ?_
  clear p0 p1 p7 p5 p6
  intro m φ ζ hj
  obtain⟨k,hm',hk',p0,p1,p7,p5,p6,p8,p9⟩:=(hJ _ _ _).1 hj
  have el:=fcE_len p k
  by_cases hkt:k<t
  ·have sp:97+(p+1)-1=97+p:=by omega
   simp -implicitDefEqProofs(disch:=omega)only[go_sem,p0,p1,p5,p6,p7,p8,p9,repL_s,repL_z,setsL_c,sp]
   exact⟨t-(k+1),by omega,(hJ _ _ _).2 ⟨k+1,rfl,hkt,by exact p0,by exact p1,by exact p7,by exact p5,by exact p6,by exact e_step (fcE p k) (by omega),rfl⟩⟩
  ·obtain rfl:k=t:=by omega
   simp -implicitDefEqProofs(disch:=omega)only[go_sem,p0,p1,p5,p6,p7,p8,p9,repL_s,repL_z,setsL_c]
   have hmul:k*cntG k p≤4*1001:=Nat.mul_le_mul (by omega) cl
   have e1:(1+k*cntG k p%18446744073709551616)%18446744073709551616=1+k*cntG k p:=by omega
   have ec:cntG k (p+1)=min (1+k*cntG k p) 1001:=rfl
   have es:=s_step (fcS k p) (fcE p k) (i:=p+1) (by omega)
   rw[e1]
   by_cases hb:1000<1+k*cntG k p
   ·rw[Nat.min_eq_right (by omega)]at ec
    have hl:ltN .i64 1000 (1+k*cntG k p)=true:=by rw[ltN_i64 (by omega) (by omega)];exact decide_eq_true hb
    rw[hl]
    simp -implicitDefEqProofs(disch:=omega)only[go_sem,p0,p1,p5,p6,p7,p8,p9]
    exact⟨n-(p+1+1),by omega,(hI _ _ _).2 ⟨p+1,rfl,by omega,by exact p0,by exact p1,rfl,by exact es,by rw[ec];rfl⟩⟩
   ·rw[Nat.min_eq_left (by omega)]at ec
    have hl:ltN .i64 1000 (1+k*cntG k p)=false:=by rw[ltN_i64 (by omega) (by omega)];exact decide_eq_false hb
    rw[hl]
    simp -implicitDefEqProofs(disch:=omega)only[go_sem,p0,p1,p5,p6,p7,p8,p9]
    exact⟨n-(p+1+1),by omega,(hI _ _ _).2 ⟨p+1,rfl,by omega,by exact p0,by exact p1,rfl,by exact es,by rw[ec];rfl⟩⟩
 ·obtain rfl:n=p+1:=by omega
  obtain⟨C,he,ha,hcn,hco⟩:=fc_calm (fc_all t p (by omega) (by omega) (by omega))
  simp -implicitDefEqProofs(disch:=omega)only[go_sem,p0,p1,p5,p6,p7]
  refine thenN_call (read_calm U (by omega) C he ha fun v ls η2 r1 r2 E2=>?_)
  simp -implicitDefEqProofs(disch:=omega)only[go_sem,p0,p1,p6,p7]
  refine thenN_call (back_spec U C.ok r1 r2 fun x4 η4 ls4 o4 r4 E4=>?_)
  obtain⟨lsl,ls6⟩:=rdNs_len r4
  have rv:=own_rdR o4 ls6
  simp -implicitDefEqProofs(disch:=omega)only[go_sem,p0,p1,p6,p7]
  refine thenN_call (fcount_then U (fun Q' k'=>count_then U C.ok hco rv r4 k') fun η5 E5=>?_)
  rw[hcn]
  simp -implicitDefEqProofs(disch:=omega)only[go_sem,p0,p1,p6,p7]
  done
end Go.Proofs.YtdeejbnhlbddgaaGreatDoor
