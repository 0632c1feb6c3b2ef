/- What is proved: what turns trees of the document's into ones of the program's does. what turns declarations of the document's into ones of the program's does. what turns nodes of the document's into ones of the program's does. what the finding of a node, of a declaration, does. what joining declarations does. Conditions: as each theorem says. -/
import Derived.Test.YtdeejbnhlbddgaaGreatDoorReadD
import Derived.Test.YtdeejbnhlbddgaaGreatDoorPlain
import Derived.Test.YtdeejbnhlbddgaaGreatDoorWN
set_option linter.unusedVariables false
set_option linter.unusedSimpArgs false
set_option linter.unusedSectionVars false
namespace Go.Plain
open Go.Eng
set_option autoImplicit false
mutual
theorem Tr.ind {P:Tr→Prop} (h:∀op nm n a ks,(∀k∈ks,P k)→P (.mk op nm n a ks)):∀e,P e
 |.mk op nm n a ks=>h op nm n a ks (Tr.inds h ks)
theorem Tr.inds {P:Tr→Prop} (h:∀op nm n a ks,(∀k∈ks,P k)→P (.mk op nm n a ks)):∀(ks:List Tr),∀k∈ks,P k
 | [],k,hk=>by cases hk
 |a::r,k,hk=>by
  rcases List.mem_cons.1 hk with e|hk
  ·rw[e];exact Tr.ind h a
  ·exact Tr.inds h r k hk
end
abbrev tt:Nat→Prop:=fun _=>True
theorem rdEs_at {F:Nat→Prop} {η:HN}:∀{ks:List Tr} {ls:List (List AV)},rdEs F η ks ls→∀i (h:i<ks.length),∃h':i<ls.length,rdE F η ks[i] ls[i]
 |k::ks,_,h,0,hi=>by
  unfold rdEs at h
  obtain⟨l,r,rfl,h2,h3⟩:=h
  exact⟨Nat.succ_pos _,h2⟩
 |k::ks,_,h,i+1,hi=>by
  unfold rdEs at h
  obtain⟨l,r,rfl,h2,h3⟩:=h
  obtain⟨q,r⟩:=rdEs_at h3 i (by simpa using hi)
  exact⟨Nat.succ_lt_succ q,r⟩
theorem rdQs_at {F:Nat→Prop} {η:HN}:∀{ks:List Eqn} {ls:List (List AV)},rdQs F η ks ls→∀i (h:i<ks.length),∃h':i<ls.length,rdQ F η ks[i] ls[i]
 |k::ks,_,⟨l,r,e,h2,h3⟩,0,hi=>by subst e;exact⟨Nat.succ_pos _,h2⟩
 |k::ks,_,⟨l,r,e,h2,h3⟩,i+1,hi=>by
  subst e
  obtain⟨q,r⟩:=rdQs_at h3 i (by simpa using hi)
  exact⟨Nat.succ_lt_succ q,r⟩
theorem rdNs_at {F:Nat→Prop} {η:HN}:∀{ks:List Nd} {ls:List (List AV)},rdNs F η ks ls→∀i (h:i<ks.length),∃h':i<ls.length,rdN F η ks[i] ls[i]
 |k::ks,_,⟨l,r,e,h2,h3⟩,0,hi=>by subst e;exact⟨Nat.succ_pos _,h2⟩
 |k::ks,_,⟨l,r,e,h2,h3⟩,i+1,hi=>by
  subst e
  obtain⟨q,r⟩:=rdNs_at h3 i (by simpa using hi)
  exact⟨Nat.succ_lt_succ q,r⟩
theorem keep_b {η η':HN} {F:Nat→Prop} (x:ExtB η.nx η η'):KeepF F η η':=fun b _ hb=>x.2 b hb
end Go.Plain
namespace Go.Proofs.YtdeejbnhlbddgaaGreatDoor
open Go.Eng Go.Plain
set_option autoImplicit false
set_option maxRecDepth 100000
section
variable {P:Program} {C:Go.Eng.Spec} {all:List Oper} {K:FN→HN→Prop} {nx0:Nat} {ks:List DK} {r:List Oper} {j:Nat} {d:Option Nat} {φ:FN} {ηs:List HN} {rs:List RecN}
theorem dE_sep {s w base n m:Nat} {η:HN} {x y:AV} {l k:List AV} (hs:0<s) (hx:OwnA s base η x n l) (hy:RdA s η y m k) (hm:0<m) (hlen:(n+m)*w≤140737488355328) (hb:base≤η.nx)
  (h:∀η',OwnA s base η' (.slice η.nx 0 (n+m) (.un s)) (n+m) (l++k)→η'.nx=η.nx+1→(∀b,b<η.nx→¬blkIs x b→η'.f b=η.f b)→drawN P C all K nx0 ks r (j+1) (putN d (.slice η.nx 0 (n+m) (.un s)) φ) η' (η'::ηs) rs):dE P C all K nx0 ks r j d φ η ηs rs (apSrcN s w x y η):=by
 obtain⟨η',e,o,hn,hk⟩:=app_sep (w:=w) hs hx hy hm hlen hb
 rw[e]
 exact h η' o hn hk
end
variable {nat:∀ [Deep],Nats}
set_option maxHeartbeats 4000000 in
theorem backExpr_spec (U:Usual nat):∀(e:Tr),okE e→∀(η:HN) (z:List AV) (Q:AV→HN→Prop),rdE tt η e z→(∀z' η',rdE (rng η.nx η'.nx) η' e z'→ExtB η.nx η η'→Q (.agg z') η')→∃v η',CallN Tryz.prog nat 13 [.agg z] η v η'∧Q v η':=by
 refine Tr.ind fun op nm n a ks ih=>?_
 intro ok η z Q r k
 unfold okE at ok
 obtain⟨_,hkl,hks⟩:=ok
 have hks:=(okEs_iff _).1 hks
 unfold rdE at r
 obtain⟨y,rfl,-,ls,ry,rks⟩:=r
 have hll:=(rdEs_len rks).1
 refine call_of (PT:=pl13) Tryz.func13 rfl (U 13 (by decide)) ok13 rfl ?_
 simp -implicitDefEqProofs(disch:=omega)only[go_sem,sV]
 obtain⟨I,hI⟩:∃I:Nat→FN→HN→Prop,∀m φ ζ,I m φ ζ↔∃i x ls',m=ks.length-i∧i≤ks.length∧(φ 1=.ptr η.nx 0∧φ 2=.ptr (η.nx+1) 0∧φ 3=.ptr (η.nx+1+1) 0∧φ 4=.int .i64 i) ∧
   (ζ.f η.nx=.live false [.str op.1 op.2,.str nm.1 nm.2,.int .i64 n,.int .i64 a,y]∧ζ.f (η.nx+1)=.live false [.str 0 0,.str 0 0,.int .i64 0,.int .i64 0,.nilslice]∧ζ.f (η.nx+1+1)=.live false [.str op.1 op.2,.str nm.1 nm.2,.int .i64 n,.int .i64 a,x]) ∧
   OwnA 5 (η.nx+3) ζ x ls'.length ls'.flatten∧rdEs (fun b=>η.nx+3≤b∧b<ζ.nx∧¬blkIs x b) ζ (ks.take i) ls'∧ExtB η.nx η ζ∧η.nx+3≤ζ.nx:=⟨_,fun _ _ _=>Iff.rfl⟩
 refine wpN_loop I ks.length ((hI _ _ _).2 ⟨0,.nilslice,[],rfl,Nat.zero_le _,⟨rfl,rfl,rfl,rfl⟩,⟨by simp -implicitDefEqProofs(disch:=omega)only[go_sem],by simp -implicitDefEqProofs(disch:=omega)only[go_sem],by simp -implicitDefEqProofs(disch:=omega)only[go_sem]⟩,.nil,by rw[List.take_zero];unfold rdEs;rfl,extP (extN (extN (extN (.refl _ _)))) (by omega),by show η.nx+3≤η.nx+1+1+1;omega⟩) ?_
 intro m φ ζ hi
 obtain⟨i,x,ls',hm,hi,⟨p1,p2,p3,p4⟩,⟨c0,c1,c2⟩,ox,rx,Ex,nx⟩:=(hI _ _ _).1 hi
 have ln:=fun e=>(ry.ext (base:=0) Ex).len (e:=e) (y':=72) (η':=ζ) (by omega)
 have tl:(ks.take i).length=i:=by rw[List.length_take];omega
 have ls'l:ls'.length=i:=by rw[(rdEs_len rx).1,tl]
 by_cases hlt:i<ks.length
 ·obtain⟨hi',ri⟩:=rdEs_at rks i hlt
  obtain⟨b,off,cap,ro,row,rfl,hb,hbn,hlen,hrow⟩:=ry.at hi'
  have hbz:ζ.f b=_:=(Ex.2 b hbn).trans hb
  simp -implicitDefEqProofs(disch:=omega)only[go_sem,p1,p2,p3,p4,c0,c1,c2,hbz,hrow]
  refine dE_call (ih _ (List.getElem_mem hlt) (hks _ (List.getElem_mem hlt)) _ _ _ (rdE_keep (η:=η) (η':=ζ.at_ (ζ.nx+12)) (keep_b ⟨by show η.nx≤ζ.nx+12;omega,Ex.2⟩) (by show η.nx≤ζ.nx+12;omega) (fun _ h=>h) _ _ ri) fun z8 η8 r8 x8=>?_)
  have n8:ζ.nx+12≤η8.nx:=x8.1
  have k8:∀b,b<ζ.nx+12→η8.f b=ζ.f b:=x8.2
  have b8:η8.f b=_:=(k8 _ (by omega)).trans hbz
  have d0:η8.f η.nx=_:=(k8 _ (by omega)).trans c0
  have d1:η8.f (η.nx+1)=_:=(k8 _ (by omega)).trans c1
  have d2:η8.f (η.nx+1+1)=_:=(k8 _ (by omega)).trans c2
  obtain⟨g1,g2,g3,g4,g5,rfl⟩:=rdE_cells r8
  simp -implicitDefEqProofs(disch:=omega)only[go_sem,p1,p2,p3,p4,d0,d1,d2,b8,hrow,repL_s,repL_z,setsL_c]
  have kH:∀c,c≠ζ.nx+8→(((η8.at_ (ζ.nx+8)).new (.live false [.str g1.1 g1.2,.str g2.1 g2.2,.int .i64 g3,.int .i64 g4,g5])).at_ η8.nx).f c=η8.f c:=fun c hc=>if_neg hc
  have wH:(((η8.at_ (ζ.nx+8)).new (.live false [.str g1.1 g1.2,.str g2.1 g2.2,.int .i64 g3,.int .i64 g4,g5])).at_ η8.nx).f (ζ.nx+8)=.live false [.str g1.1 g1.2,.str g2.1 g2.2,.int .i64 g3,.int .i64 g4,g5]:=if_pos rfl
  have nH:(((η8.at_ (ζ.nx+8)).new (.live false [.str g1.1 g1.2,.str g2.1 g2.2,.int .i64 g3,.int .i64 g4,g5])).at_ η8.nx).nx=η8.nx:=rfl
  generalize ((η8.at_ (ζ.nx+8)).new (.live false [.str g1.1 g1.2,.str g2.1 g2.2,.int .i64 g3,.int .i64 g4,g5])).at_ η8.nx=ηH at *
  have oH:OwnA 5 (η.nx+3) ηH x ls'.length ls'.flatten:=own_keep ox (fun c _ hc=>(kH c (by omega)).trans (k8 c (by omega))) (by omega)
  have yH:RdA 5 ηH (.slice (ζ.nx+8) 0 1 (.kn 1)) 1 [.str g1.1 g1.2,.str g2.1 g2.2,.int .i64 g3,.int .i64 g4,g5]:=.inr ⟨ζ.nx+8,0,_,false,_,rfl,wH,by omega,Nat.le_refl _,rfl,rfl⟩
  have xl:∀c,blkIs x c→η.nx+3≤c∧c<ζ.nx:=fun c hc=>own_at ox hc
  refine dE_sep (by decide) oH yH (by decide) (by omega) (by omega) fun η9 o9 n9 k9=>?_
  have k9':∀c,c<ζ.nx→¬blkIs x c→η9.f c=ζ.f c:=fun c hc hx=>(k9 c (by omega) hx).trans ((kH c (by omega)).trans (k8 c (by omega)))
  have e0:η9.f η.nx=_:=(k9' _ (by omega) (fun g=>by have:=xl _ g;omega)).trans c0
  have e1:η9.f (η.nx+1)=_:=(k9' _ (by omega) (fun g=>by have:=xl _ g;omega)).trans c1
  have e2:η9.f (η.nx+1+1)=_:=(k9' _ (by omega) (fun g=>by have:=xl _ g;omega)).trans c2
  simp -implicitDefEqProofs(disch:=omega)only[go_sem,p1,p2,p3,p4,d0,d1,d2,e0,e1,e2,c0,c1,c2]
  refine⟨fun h=>absurd h (by decide),ks.length-(i+1),by omega,(hI _ _ _).2 ⟨i+1,.slice ηH.nx 0 (ls'.length+1) (.un 5),ls'++[[.str g1.1 g1.2,.str g2.1 g2.2,.int .i64 g3,.int .i64 g4,g5]],rfl,hlt,⟨by exact p1,by exact p2,by exact p3,rfl⟩,⟨(if_neg (by omega)).trans e0,(if_neg (by omega)).trans e1,if_pos rfl⟩,?_,?_,?_,?_⟩⟩
  ·have o10:=own_keep (η':=η9.put (η.nx+1+1) (.live false [.str op.1 op.2,.str nm.1 nm.2,.int .i64 n,.int .i64 a,.slice ηH.nx 0 (ls'.length+1) (.un 5)])) o9 (fun c hc _=>if_neg (by omega)) (Nat.le_refl _)
   rw[List.length_append,flatten_snoc]
   exact o10
  ·rw[List.take_succ_eq_append_getElem hlt]
   refine rdEs_app (rdEs_keep' (F:=fun b=>η.nx+3≤b∧b<ζ.nx∧¬blkIs x b) (η:=ζ) (fun c q hc=>(if_neg (by have:=q.1;omega)).trans (k9' c hc q.2.2)) (by show ζ.nx≤η9.nx;omega) (fun c q=>⟨q.1,by show c<η9.nx;have:=q.2.1;omega,fun g=>by have g:ηH.nx=c:=g;have:=q.2.1;omega⟩) rx) ?_
   exact rdE_keep (η:=η8) (fun c q hc=>(if_neg (by have:=q.1;have h1:ζ.nx+12≤c:=q.1;omega)).trans ((k9 c (by omega) (fun g=>by have:=xl _ g;have h1:ζ.nx+12≤c:=q.1;omega)).trans (kH c (by have h1:ζ.nx+12≤c:=q.1;omega)))) (by show η8.nx≤η9.nx;omega)
    (fun c q=>⟨by have h1:ζ.nx+12≤c:=q.1;omega,by show c<η9.nx;have:=q.2;omega,fun g=>by have g:ηH.nx=c:=g;have:=q.2;omega⟩) _ _ r8
  ·exact⟨by show η.nx≤η9.nx;omega,fun c hc=>(if_neg (by omega)).trans ((k9' c (by omega) (fun g=>by have:=xl _ g;omega)).trans (Ex.2 c hc))⟩
  ·show η.nx+3≤η9.nx;omega
 ·obtain rfl:i=ks.length:=by omega
  simp -implicitDefEqProofs(disch:=omega)only[go_sem,p1,p2,p3,p4,c0,c1,c2,ln]
  rw[List.take_length]at rx
  have T:rdE (fun b=>η.nx+3≤b∧b<ζ.nx) ζ (.mk op nm n a ks) _:=rdE_own ox rx (fun b q=>⟨q.1,q.2.1⟩) (fun b h1 h2=>⟨h1,h2⟩)
  exact k _ _ (rdE_mono (rdE_put T (fun q=>by have:=q.1;omega)) (fun b q=>⟨by have:=q.1;omega,q.2⟩)) (extP Ex (by omega))
end Go.Proofs.YtdeejbnhlbddgaaGreatDoor
namespace Go.Proofs.YtdeejbnhlbddgaaGreatDoor
open Go.Eng Go.Plain
set_option autoImplicit false
set_option maxRecDepth 100000
variable {nat:∀ [Deep],Nats}
theorem vr_at {η:HN} {y:AV} {l:List Vr} (h:RdR 5 η y (l.map Vr.cells)) {i:Nat} (hi:i<l.length) :
  ∃b off cap ro row,y=.slice b off l.length cap∧η.f b=.live ro row∧b<η.nx∧off+i*5+5≤row.length∧(row.drop (off+i*5)).take 5=l[i].cells:=by
 obtain⟨b,off,cap,ro,row,h1,h2,h3,h4,h5⟩:=h.at (i:=i) (by simpa using hi)
 rw[List.length_map]at h1
 exact⟨b,off,cap,ro,row,h1,h2,h3,h4,by rw[h5,List.getElem_map]⟩
theorem take_at {α:Type} {l:List α} {n k i:Nat} {a:List α} (h:(l.drop n).take k=a) (hi:i<k) (ha:i<a.length):l[n+i]?=some a[i]:=by
 have:((l.drop n).take k)[i]?=a[i]?:=by rw[h]
 rw[List.getElem?_take,if_pos hi,List.getElem?_drop,List.getElem?_eq_getElem ha]at this
 exact this
set_option maxHeartbeats 4000000 in
theorem backVars_spec (U:Usual nat) {l:List Vr} (ok:okVs l) {η:HN} {y:AV} (ry:RdR 5 η y (l.map Vr.cells)) {Q:AV→HN→Prop} (k:∀x η',OwnA 5 η.nx η' x l.length (l.map Vr.cells).flatten→ExtB η.nx η η'→Q x η') :
  ∃v η',CallN Tryz.prog nat 12 [y] η v η'∧Q v η':=by
 have hl:=ok.1
 refine call_of (PT:=pl12) Tryz.func12 rfl (U 12 (by decide)) ok12 rfl ?_
 simp -implicitDefEqProofs(disch:=omega)only[go_sem]
 obtain⟨I,hI⟩:∃I:Nat→FN→HN→Prop,∀m φ ζ,I m φ ζ↔∃i x,m=l.length-i∧i≤l.length∧(φ 0=y∧φ 2=.nilslice∧φ 3=x∧φ 4=.int .i64 i)∧OwnA 5 η.nx ζ x i ((l.take i).map Vr.cells).flatten∧ExtB η.nx η ζ:=⟨_,fun _ _ _=>Iff.rfl⟩
 refine wpN_loop I l.length ((hI _ _ _).2 ⟨0,.nilslice,rfl,Nat.zero_le _,⟨rfl,rfl,rfl,rfl⟩,.nil,.refl _ _⟩) ?_
 intro m φ ζ hi
 obtain⟨i,x,hm,hi,⟨p0,p2,p3,p4⟩,ox,Ex⟩:=(hI _ _ _).1 hi
 have ln:=fun e=>(ry.ext (base:=0) Ex).len (e:=e) (y':=56) (η':=ζ) (by rw[List.length_map];omega)
 rw[List.length_map]at ln
 have nx:=Ex.1
 by_cases hlt:i<l.length
 ·obtain⟨b,off,cap,ro,row,rfl,hb,hbn,hlen,hrow⟩:=vr_at ry hlt
  have hbz:ζ.f b=_:=(Ex.2 b hbn).trans hb
  obtain⟨v,hv⟩:∃v,v=l[i]:=⟨_,rfl⟩
  rw[←hv]at hrow
  have r0:row[off+i*5]?=some (.str v.nm.1 v.nm.2):=take_at (i:=0) hrow (by decide) (Nat.le_of_ble_eq_true rfl)
  have r1:row[off+i*5+1]?=some (.int .i64 v.kd):=take_at (i:=1) hrow (by decide) (Nat.le_of_ble_eq_true rfl)
  have r2:row[off+i*5+2]?=some (.str v.on.1 v.on.2):=take_at (i:=2) hrow (by decide) (Nat.le_of_ble_eq_true rfl)
  have r3:row[off+i*5+3]?=some (.bool v.nt):=take_at (i:=3) hrow (by decide) (Nat.le_of_ble_eq_true rfl)
  have r4:row[off+i*5+4]?=some (.int .i64 v.a):=take_at (i:=4) hrow (by decide) (Nat.le_of_ble_eq_true rfl)
  have g0:row.getD (off+i*5) und=.str v.nm.1 v.nm.2:=by rw[List.getD_eq_getElem?_getD,r0];rfl
  simp -implicitDefEqProofs(disch:=omega)only[go_sem,p0,p2,p3,p4,hbz,r0,r1,r2,r3,r4,g0,repL_s,repL_z,setsL_c]
  have kH:∀c,c≠ζ.nx+27→(((ζ.at_ (ζ.nx+27)).new (.live false [.str v.nm.1 v.nm.2,.int .i64 v.kd,.str v.on.1 v.on.2,.bool v.nt,.int .i64 v.a])).at_ (ζ.nx+30)).f c=ζ.f c:=fun c hc=>if_neg hc
  have wH:(((ζ.at_ (ζ.nx+27)).new (.live false [.str v.nm.1 v.nm.2,.int .i64 v.kd,.str v.on.1 v.on.2,.bool v.nt,.int .i64 v.a])).at_ (ζ.nx+30)).f (ζ.nx+27)=.live false [.str v.nm.1 v.nm.2,.int .i64 v.kd,.str v.on.1 v.on.2,.bool v.nt,.int .i64 v.a]:=if_pos rfl
  have nH:(((ζ.at_ (ζ.nx+27)).new (.live false [.str v.nm.1 v.nm.2,.int .i64 v.kd,.str v.on.1 v.on.2,.bool v.nt,.int .i64 v.a])).at_ (ζ.nx+30)).nx=ζ.nx+30:=rfl
  generalize ((ζ.at_ (ζ.nx+27)).new (.live false [.str v.nm.1 v.nm.2,.int .i64 v.kd,.str v.on.1 v.on.2,.bool v.nt,.int .i64 v.a])).at_ (ζ.nx+30)=ηH at *
  have oH:OwnA 5 η.nx ηH x i ((l.take i).map Vr.cells).flatten:=own_keep ox (fun c _ hc=>kH c (by omega)) (by omega)
  have yH:RdA 5 ηH (.slice (ζ.nx+27) 0 1 (.kn 1)) 1 v.cells:=.inr ⟨ζ.nx+27,0,_,false,_,rfl,wH,by omega,Nat.le_refl _,rfl,rfl⟩
  have xl:∀c,blkIs x c→η.nx≤c∧c<ζ.nx:=fun c hc=>own_at ox hc
  refine dE_sep (by decide) oH yH (by decide) (by omega) (by omega) fun η9 o9 n9 k9=>?_
  simp -implicitDefEqProofs(disch:=omega)only[go_sem,p0,p2,p3,p4]
  refine⟨l.length-(i+1),by omega,(hI _ _ _).2 ⟨i+1,_,rfl,hlt,⟨by exact p0,by exact p2,rfl,rfl⟩,?_,⟨by omega,fun c hc=>(k9 c (by omega) (fun g=>by have:=xl _ g;omega)).trans ((kH c (by omega)).trans (Ex.2 c hc))⟩⟩⟩
  have e:((l.take (i+1)).map Vr.cells).flatten=((l.take i).map Vr.cells).flatten++v.cells:=by
   rw[List.take_succ_eq_append_getElem hlt,List.map_append,List.map_cons,List.map_nil,flatten_snoc,hv]
  rw[e]
  exact o9
 ·obtain rfl:i=l.length:=by omega
  rw[List.take_length]at ox
  simp -implicitDefEqProofs(disch:=omega)only[go_sem,p0,p2,p3,p4,ln]
  exact k _ _ ox Ex
end Go.Proofs.YtdeejbnhlbddgaaGreatDoor
namespace Go.Proofs.YtdeejbnhlbddgaaGreatDoor
open Go.Eng Go.Plain
set_option autoImplicit false
set_option maxRecDepth 100000
variable {nat:∀ [Deep],Nats}
theorem take_sub {α:Type} {l:List α} {n k i m:Nat} {a:List α} (h:(l.drop n).take k=a) (hi:i+m≤k):(l.drop (n+i)).take m=(a.drop i).take m:=by
 rw[←h,List.drop_take,List.drop_drop,List.take_take,Nat.min_eq_left (by omega)]
theorem row_len {s:Nat} {η η':HN} {v:AV} {ls:List (List AV)} (r:RdR s η v ls) {n:Nat} (hn:ls.length=n) (h:n≤9223372036854775807) (e w:Nat):lenN (.slice e s w) v η'=.ok (.int .i64 n) η':=by
 subst hn
 exact r.len (η':=η') h
theorem okVs_ext {l:List Vr} {η η':HN} {y:AV} (r:RdR 5 η y (l.map Vr.cells)) (x:ExtB η.nx η η'):RdR 5 η' y (l.map Vr.cells):=r.ext (base:=0) x
set_option maxHeartbeats 16000000 in
theorem back_spec (U:Usual nat) {l:List Nd} (ok:okL l) {η:HN} {v:AV} {ls:List (List AV)} (rv:RdR 6 η v ls) (rl:rdNs tt η l ls) {Q:AV→HN→Prop}
  (k:∀x η' ls',OwnA 6 η.nx η' x ls'.length ls'.flatten→rdNs tt η' l ls'→ExtB η.nx η η'→Q x η'):∃v' η',CallN Tryz.prog nat 7 [v] η v' η'∧Q v' η':=by
 obtain⟨hl,okn⟩:=ok
 have lsl:=(rdNs_len rl).1
 refine call_of (PT:=pl7) Tryz.func7 rfl (U 7 (by decide)) ok7 rfl ?_
 simp -implicitDefEqProofs(disch:=omega)only[go_sem]
 obtain⟨I,hI⟩:∃I:Nat→FN→HN→Prop,∀m φ ζ,I m φ ζ↔∃i x ls',m=l.length-i∧i≤l.length∧(φ 0=v∧φ 3=x∧φ 4=.int .i64 i)∧OwnA 6 η.nx ζ x ls'.length ls'.flatten∧rdNs (fun b=>η.nx≤b∧b<ζ.nx∧¬blkIs x b) ζ (l.take i) ls'∧ExtB η.nx η ζ:=⟨_,fun _ _ _=>Iff.rfl⟩
 refine wpN_loop I l.length ((hI _ _ _).2 ⟨0,.nilslice,[],rfl,Nat.zero_le _,⟨rfl,rfl,rfl⟩,.nil,rfl,.refl _ _⟩) ?_
 intro m φ ζ hi
 obtain⟨i,x,ls',hm,hi,⟨p0,p3,p4⟩,ox,rx,Ex⟩:=(hI _ _ _).1 hi
 have nx:=Ex.1
 have ln:=fun e w=>row_len (η':=ζ) rv lsl (by omega) e w
 have tl:(l.take i).length=i:=by rw[List.length_take];omega
 have ls'l:ls'.length=i:=by rw[(rdNs_len rx).1,tl]
 by_cases hlt:i<l.length
 ·obtain⟨hi',ri⟩:=rdNs_at rl i hlt
  obtain⟨b,off,cap,ro,row,rfl,hb,hbn,hlen,hrow⟩:=rv.at hi'
  have okd:=okn _ (List.getElem_mem hlt)
  obtain⟨d,hd⟩:∃d,d=l[i]:=⟨_,rfl⟩
  rw[←hd]at ri okd
  obtain⟨ok0,ok1,ok2,ok3,ok4,ok5⟩:=okd
  obtain⟨y1,y2,y3,y4,ez,-,r1,r2,r3,qs,r4,r5⟩:=ri
  rw[ez]at hrow
  have hbz:ζ.f b=_:=(Ex.2 b hbn).trans hb
  have g0:row[off+i*6]?=some (.str d.nm.1 d.nm.2):=take_at (i:=0) hrow (by decide) (Nat.le_of_ble_eq_true rfl)
  have g1:row[off+i*6+1]?=some y1:=take_at (i:=1) hrow (by decide) (Nat.le_of_ble_eq_true rfl)
  have g2:row[off+i*6+2]?=some y2:=take_at (i:=2) hrow (by decide) (Nat.le_of_ble_eq_true rfl)
  have g3:row[off+i*6+3]?=some y3:=take_at (i:=3) hrow (by decide) (Nat.le_of_ble_eq_true rfl)
  have g4:row[off+i*6+4]?=some y4:=take_at (i:=4) hrow (by decide) (Nat.le_of_ble_eq_true rfl)
  have g5:row[off+i*6+5]?=some (.int .i64 d.a):=take_at (i:=5) hrow (by decide) (Nat.le_of_ble_eq_true rfl)
  have gz:row.getD (off+i*6) und=.str d.nm.1 d.nm.2:=by rw[List.getD_eq_getElem?_getD,g0];rfl
  have gy:∀j y,row[off+i*6+j]?=some y→row.getD (off+i*6+j) und=y:=fun j y e=>by rw[List.getD_eq_getElem?_getD,e];rfl
  simp -implicitDefEqProofs(disch:=omega)only[go_sem,p0,p3,p4,hbz,g0,g1,g2,g3,g4,g5,gz]
  have EZ:ExtB η.nx η (ζ.at_ (ζ.nx+31)):=⟨by show η.nx≤ζ.nx+31;omega,Ex.2⟩
  refine dE_call (backVars_spec U ok1 (okVs_ext r1 EZ) fun x1 η1 o1 E1=>?_)
  have n1:ζ.nx+31≤η1.nx:=E1.1
  have k1:∀c,c<ζ.nx+31→η1.f c=ζ.f c:=E1.2
  have b1:η1.f b=_:=(k1 _ (by omega)).trans hbz
  have EZ1:ExtB η.nx η η1:=⟨by omega,fun c hc=>(k1 c (by omega)).trans (Ex.2 c hc)⟩
  simp -implicitDefEqProofs(disch:=omega)only[go_sem,p0,p3,p4,hbz,b1,g0,g1,g2,g3,g4,g5,gz]
  refine dE_call (backVars_spec U ok2 (okVs_ext r2 EZ1) fun x2 η2 o2 E2=>?_)
  have n2:η1.nx≤η2.nx:=E2.1
  have k2:∀c,c<ζ.nx+31→η2.f c=ζ.f c:=fun c hc=>(E2.2 c (by omega)).trans (k1 c hc)
  have b2:η2.f b=_:=(k2 _ (by omega)).trans hbz
  have EZ2:ExtB η.nx η η2:=⟨by omega,fun c hc=>(k2 c (by omega)).trans (Ex.2 c hc)⟩
  simp -implicitDefEqProofs(disch:=omega)only[go_sem,p0,p3,p4,hbz,b1,b2,g0,g1,g2,g3,g4,g5,gz]
  refine dE_call (backVars_spec U ok3 (okVs_ext r3 EZ2) fun x3 η3 o3 E3=>?_)
  have n3:η2.nx≤η3.nx:=E3.1
  have k3:∀c,c<ζ.nx+31→η3.f c=ζ.f c:=fun c hc=>(E3.2 c (by omega)).trans (k2 c hc)
  have b3:η3.f b=_:=(k3 _ (by omega)).trans hbz
  simp -implicitDefEqProofs(disch:=omega)only[go_sem,p0,p3,p4,hbz,b1,b2,b3,g0,g1,g2,g3,g4,g5,gz,own_cells o1,own_cells o2,own_cells o3]
  have n3':ζ.nx+31≤η3.nx:=by omega
  have lq:=(rdQs_len r5).1
  obtain⟨J,hJ⟩:∃J:Nat→FN→HN→Prop,∀m φ ζ',J m φ ζ'↔∃j y qs',m=d.eqs.length-j∧j≤d.eqs.length∧(φ 0=.slice b off ls.length cap∧φ 3=x∧φ 4=.int .i64 i∧φ 5=.ptr (ζ.nx+29) 0∧φ 6=.int .i64 j)∧ζ'.f (ζ.nx+29)=.live false [.str d.nm.1 d.nm.2,x1,x2,x3,y,.int .i64 d.a] ∧
    OwnA 7 η3.nx ζ' y qs'.length qs'.flatten∧rdQs (fun c=>η3.nx≤c∧c<ζ'.nx∧¬blkIs y c) ζ' (d.eqs.take j) qs'∧(∀c,c<η3.nx→c≠ζ.nx+29→ζ'.f c=η3.f c)∧η3.nx≤ζ'.nx:=⟨_,fun _ _ _=>Iff.rfl⟩
  refine wpN_loop J d.eqs.length ((hJ _ _ _).2 ⟨0,.nilslice,[],rfl,Nat.zero_le _,⟨by exact p0,by exact p3,by exact p4,rfl,rfl⟩,if_pos rfl,.nil,rfl,fun c h1 h2=>(if_neg h2).trans (if_neg h2),Nat.le_refl _⟩) ?_
  intro m' φ' ζ' hj
  obtain⟨j,y,qs',hm',hj,⟨s0,s3,s4,s5,s6⟩,cj,oj,rj,kj,nj⟩:=(hJ _ _ _).1 hj
  have kz:∀c,c<ζ.nx+31→c≠ζ.nx+29→ζ'.f c=ζ.f c:=fun c h1 h2=>(kj c (by omega) h2).trans (k3 c h1)
  have bj:ζ'.f b=_:=(kz _ (by omega) (by omega)).trans hbz
  have lj:=fun e w=>row_len (η':=ζ') r4 lq (by omega) e w
  have tj:(d.eqs.take j).length=j:=by rw[List.length_take];omega
  have qs'l:qs'.length=j:=by rw[(rdQs_len rj).1,tj]
  have gz4:=gy 4 _ g4
  by_cases hlj:j<d.eqs.length
  ·obtain⟨hj',q1⟩:=rdQs_at r5 j hlj
   have okq:=ok5 _ (List.getElem_mem hlj)
   obtain⟨q,hq⟩:∃q,q=d.eqs[j]:=⟨_,rfl⟩
   rw[←hq]at q1 okq
   obtain⟨ze,eze,re⟩:=q1
   have lze:=rdE_len re
   obtain⟨b4,off4,cap4,ro4,row4,rfl,hb4,hbn4,hlen4,hrow4⟩:=r4.at hj'
   rw[eze]at hrow4
   obtain⟨f1,f2,f3,f4,f5,rfl⟩:=rdE_cells re
   have bz4:ζ'.f b4=_:=((kz _ (by omega) (by omega)).trans (Ex.2 b4 hbn4)).trans hb4
   have w0:row4[off4+j*7]?=some (.str q.nm.1 q.nm.2):=take_at (i:=0) hrow4 (by decide) (Nat.le_of_ble_eq_true rfl)
   have w6:row4[off4+j*7+6]?=some (.int .i64 q.a):=take_at (i:=6) hrow4 (by decide) (Nat.le_of_ble_eq_true rfl)
   have wz:row4.getD (off4+j*7) und=.str q.nm.1 q.nm.2:=by rw[List.getD_eq_getElem?_getD,w0];rfl
   have w1:(row4.drop (off4+j*7+1)).take 5=[.str f1.1 f1.2,.str f2.1 f2.2,.int .i64 f3,.int .i64 f4,f5]:=take_sub hrow4 (by decide)
   simp -implicitDefEqProofs(disch:=omega)only[go_sem,s0,s3,s4,s5,s6,cj,bj,gz4,g4,lj,bz4,w0,w1,w6,wz]
   have EQ:ExtB η.nx η (ζ'.at_ (ζ'.nx+35)):=⟨by show η.nx≤ζ'.nx+35;omega,fun c hc=>(kz c (by omega) (by omega)).trans (Ex.2 c hc)⟩
   refine dE_call (backExpr_spec U q.e okq.2 _ _ _ (rdE_keep (keep_b EQ) EQ.1 (fun _ h=>h) _ _ re) fun z6 η6 r6 x6=>?_)
   have n6:ζ'.nx+35≤η6.nx:=x6.1
   have k6:∀c,c<ζ'.nx+35→η6.f c=ζ'.f c:=x6.2
   have b6:η6.f b=_:=(k6 _ (by omega)).trans bj
   have b64:η6.f b4=_:=(k6 _ (by omega)).trans bz4
   have c6:η6.f (ζ.nx+29)=_:=(k6 _ (by omega)).trans cj
   obtain⟨h1,h2,h3,h4,h5,rfl⟩:=rdE_cells r6
   simp -implicitDefEqProofs(disch:=omega)only[go_sem,s0,s3,s4,s5,s6,cj,bj,gz4,g4,lj,bz4,w0,w1,w6,wz,b6,b64,c6,repL_s,repL_z,setsL_c]
   have kH:∀c,c≠ζ'.nx+31→(((η6.at_ (ζ'.nx+31)).new (.live false [.str q.nm.1 q.nm.2,.str h1.1 h1.2,.str h2.1 h2.2,.int .i64 h3,.int .i64 h4,h5,.int .i64 q.a])).at_ η6.nx).f c=η6.f c:=fun c hc=>if_neg hc
   have wH:(((η6.at_ (ζ'.nx+31)).new (.live false [.str q.nm.1 q.nm.2,.str h1.1 h1.2,.str h2.1 h2.2,.int .i64 h3,.int .i64 h4,h5,.int .i64 q.a])).at_ η6.nx).f (ζ'.nx+31)=(.live false [.str q.nm.1 q.nm.2,.str h1.1 h1.2,.str h2.1 h2.2,.int .i64 h3,.int .i64 h4,h5,.int .i64 q.a]):=if_pos rfl
   have nH:(((η6.at_ (ζ'.nx+31)).new (.live false [.str q.nm.1 q.nm.2,.str h1.1 h1.2,.str h2.1 h2.2,.int .i64 h3,.int .i64 h4,h5,.int .i64 q.a])).at_ η6.nx).nx=η6.nx:=rfl
   generalize ((η6.at_ (ζ'.nx+31)).new (.live false [.str q.nm.1 q.nm.2,.str h1.1 h1.2,.str h2.1 h2.2,.int .i64 h3,.int .i64 h4,h5,.int .i64 q.a])).at_ η6.nx=ηH at *
   have oH:OwnA 7 η3.nx ηH y qs'.length qs'.flatten:=own_keep oj (fun c _ hc=>(kH c (by omega)).trans (k6 c (by omega))) (by omega)
   have yH:RdA 7 ηH (.slice (ζ'.nx+31) 0 1 (.kn 1)) 1 [.str q.nm.1 q.nm.2,.str h1.1 h1.2,.str h2.1 h2.2,.int .i64 h3,.int .i64 h4,h5,.int .i64 q.a]:=.inr ⟨ζ'.nx+31,0,_,false,_,rfl,wH,by omega,Nat.le_refl _,rfl,rfl⟩
   have xl:∀c,blkIs y c→η3.nx≤c∧c<ζ'.nx:=fun c hc=>own_at oj hc
   refine dE_sep (by decide) oH yH (by decide) (by omega) (by omega) fun η9 o9 n9 k9=>?_
   have k9':∀c,c<ζ'.nx→¬blkIs y c→η9.f c=ζ'.f c:=fun c hc hx=>(k9 c (by omega) hx).trans ((kH c (by omega)).trans (k6 c (by omega)))
   have e5:η9.f (ζ.nx+29)=_:=(k9' _ (by omega) (fun g=>by have:=xl _ g;omega)).trans cj
   have e6:η9.f b=_:=(k9' _ (by omega) (fun g=>by have:=xl _ g;omega)).trans bj
   have e7:η9.f b4=_:=(k9' _ (by omega) (fun g=>by have:=xl _ g;omega)).trans bz4
   simp -implicitDefEqProofs(disch:=omega)only[go_sem,s0,s3,s4,s5,s6,cj,bj,gz4,g4,lj,bz4,w0,w1,w6,wz,b6,b64,c6,e5,e6,e7]
   refine⟨fun h=>absurd h (by decide),d.eqs.length-(j+1),by omega,(hJ _ _ _).2 ⟨j+1,.slice ηH.nx 0 (qs'.length+1) (.un 7),qs'++[[.str q.nm.1 q.nm.2,.str h1.1 h1.2,.str h2.1 h2.2,.int .i64 h3,.int .i64 h4,h5,.int .i64 q.a]],rfl,hlj,⟨by exact s0,by exact s3,by exact s4,by exact s5,rfl⟩,if_pos rfl,?_,?_,?_,?_⟩⟩
   ·have o10:=own_keep (η':=(η9.put (ζ.nx+29) (.live false [.str d.nm.1 d.nm.2,x1,x2,x3,.slice ηH.nx 0 (qs'.length+1) (.un 7),.int .i64 d.a]))) o9 (fun c hc _=>if_neg (by omega)) (Nat.le_refl _)
    rw[List.length_append,flatten_snoc]
    exact o10
   ·rw[List.take_succ_eq_append_getElem hlj,←hq]
    refine rdQs_app ⟨[.str h1.1 h1.2,.str h2.1 h2.2,.int .i64 h3,.int .i64 h4,h5],rfl,?_⟩ (rdQs_keep (F:=fun c=>η3.nx≤c∧c<ζ'.nx∧¬blkIs y c) (η:=ζ') (fun c q hc=>(if_neg (by have:=q.1;omega)).trans (k9' c hc q.2.2)) (by show ζ'.nx≤η9.nx;omega) (fun c q=>⟨q.1,by show c<η9.nx;have:=q.2.1;omega,fun g=>by have g:ηH.nx=c:=g;have:=q.2.1;omega⟩) rj)
    exact rdE_keep (η:=η6) (fun c q hc=>(if_neg (by have h1:ζ'.nx+35≤c:=q.1;omega)).trans ((k9 c (by omega) (fun g=>by have:=xl _ g;have h1:ζ'.nx+35≤c:=q.1;omega)).trans (kH c (by have h1:ζ'.nx+35≤c:=q.1;omega)))) (by show η6.nx≤η9.nx;omega)
     (fun c q=>⟨by have h1:ζ'.nx+35≤c:=q.1;omega,by show c<η9.nx;have:=q.2;omega,fun g=>by have g:ηH.nx=c:=g;have:=q.2;omega⟩) _ _ r6
   ·exact fun c h1 h2=>(if_neg h2).trans ((k9' c (by omega) (fun g=>by have:=xl _ g;omega)).trans (kj c h1 h2))
   ·show η3.nx≤η9.nx;omega
  ·obtain rfl:j=d.eqs.length:=by omega
   rw[List.take_length]at rj
   simp -implicitDefEqProofs(disch:=omega)only[go_sem,s0,s3,s4,s5,s6,cj,bj,gz4,g4,lj,repL_s,repL_z,setsL_c]
   have oN:OwnA 6 η.nx (ζ'.new (.live false [.str d.nm.1 d.nm.2,x1,x2,x3,y,.int .i64 d.a])) x ls'.length ls'.flatten:=own_keep ox (fun c h1 h2=>(if_neg (by omega)).trans (kz c (by omega) (by omega))) (by show ζ.nx≤ζ'.nx+1;omega)
   have xl:∀c,blkIs x c→η.nx≤c∧c<ζ.nx:=fun c hc=>own_at ox hc
   refine thenN_sep (by decide) oN (RdA.lits (s:=6) (n:=1) rfl) (by decide) (by omega) (by show η.nx≤ζ'.nx+1;omega) fun η9 o9 n9 k9=>?_
   have n9:η9.nx=ζ'.nx+1+1:=n9
   have k9:∀c,c<ζ'.nx→¬blkIs x c→η9.f c=ζ'.f c:=fun c hc hx=>(k9 c (by show c<ζ'.nx+1;omega) hx).trans (if_neg (by omega))
   simp -implicitDefEqProofs(disch:=omega)only[go_sem,s0,s3,s4,s5,s6]
   have k39:∀c,ζ.nx+31≤c→c<η3.nx→η9.f c=η3.f c:=fun c h1 h2=>(k9 c (by omega) (fun g=>by have:=xl _ g;omega)).trans (kj c h2 (by omega))
   have o1':OwnA 5 (ζ.nx+31) η9 x1 d.ins.length (d.ins.map Vr.cells).flatten:=own_keep o1 (fun c h1 h2=>(k39 c h1 (by omega)).trans ((E3.2 c (by omega)).trans (E2.2 c h2))) (by omega)
   have o2':OwnA 5 η1.nx η9 x2 d.outs.length (d.outs.map Vr.cells).flatten:=own_keep o2 (fun c h1 h2=>(k39 c (by omega) (by omega)).trans (E3.2 c h2)) (by omega)
   have o3':OwnA 5 η2.nx η9 x3 d.locs.length (d.locs.map Vr.cells).flatten:=own_keep o3 (fun c h1 h2=>k39 c (by omega) h2) (by omega)
   have o4':OwnA 7 η3.nx η9 y qs'.length qs'.flatten:=own_keep oj (fun c h1 h2=>k9 c h2 (fun g=>by have:=xl _ g;omega)) (by omega)
   refine⟨l.length-(i+1),by omega,(hI _ _ _).2 ⟨i+1,_,ls'++[[.str d.nm.1 d.nm.2,x1,x2,x3,y,.int .i64 d.a]],rfl,hlt,⟨by exact s0,rfl,rfl⟩,?_,?_,?_⟩⟩
   ·rw[List.length_append,flatten_snoc]
    exact o9
   ·rw[List.take_succ_eq_append_getElem hlt,←hd]
    refine rdNs_app ?_ (rdNs_keep (F:=fun b=>η.nx≤b∧b<ζ.nx∧¬blkIs x b) (η:=ζ) (fun c q hc=>(k9 c (by omega) q.2.2).trans (kz c (by omega) (by have:=q.2.1;omega))) (by omega) (fun c q=>⟨q.1,by have:=q.2.1;omega,fun g=>by have g:ζ'.nx+1=c:=g;have:=q.2.1;omega⟩) rx)
    have V1:=VS.of o1'
    have V2:=VS.of o2'
    have V3:=VS.of o3'
    have rg:∀lo c,ζ.nx+31≤lo→lo≤c→c<ζ'.nx→η.nx≤c∧c<η9.nx∧¬blkIs (.slice (ζ'.nx+1) 0 (ls'.length+1) (.un 6)) c:=fun lo c h1 h2 h3=>⟨by omega,by omega,fun g=>by have g:ζ'.nx+1=c:=g;omega⟩
    exact⟨x1,x2,x3,y,rfl,⟨fun c hc=>rg _ c (Nat.le_refl _) (own_at o1 hc).1 (by have:=(own_at o1 hc).2;omega),fun c hc=>rg _ c (by omega) (own_at o2 hc).1 (by have:=(own_at o2 hc).2;omega),fun c hc=>rg _ c (by omega) (own_at o3 hc).1 (by have:=(own_at o3 hc).2;omega),fun c hc=>rg _ c (by omega) (own_at oj hc).1 (own_at oj hc).2⟩,V1.2,V2.2,V3.2,qs',own_rdR o4' (rdQs_len rj).2,rdQs_keep (F:=fun c=>η3.nx≤c∧c<ζ'.nx∧¬blkIs y c) (η:=ζ') (fun c q hc=>k9 c hc (fun g=>by have:=xl _ g;have:=q.1;omega)) (by omega) (fun c q=>rg _ c (by omega) q.1 q.2.1) rj⟩
   ·exact⟨by omega,fun c hc=>(k9 c (by omega) (fun g=>by have:=xl _ g;omega)).trans ((kz c (by omega) (by omega)).trans (Ex.2 c hc))⟩
 ·obtain rfl:i=l.length:=by omega
  rw[List.take_length]at rx
  simp -implicitDefEqProofs(disch:=omega)only[go_sem,p0,p3,p4,ln]
  exact k _ _ _ ox (rdNs_keep (fun _ _ _=>rfl) (Nat.le_refl _) (fun _ _=>trivial) rx) Ex
end Go.Proofs.YtdeejbnhlbddgaaGreatDoor
namespace Go.Plain
open Go.Eng
set_option autoImplicit false
def ixL {α:Type} (p:α→Bool):List α→Nat→Option Nat
 | [],_=>none
 |a::r,i=>if p a then some i else ixL p r (i+1)
def encO (o:Option Nat):Nat:=match o with|some a=>a|none=>18446744073709551615
theorem ixL_lt {α:Type} {p:α→Bool}:∀{l:List α} {i j:Nat},ixL p l i=some j→i≤j∧j<i+l.length∧∃h:j-i<l.length,p l[j-i]=true
 | [],_,_,h=>by cases h
 |a::r,i,j,h=>by
  unfold ixL at h
  by_cases g:p a=true
  ·rw[if_pos g]at h
   cases h
   refine⟨Nat.le_refl _,by simp,?_⟩
   simp only[Nat.sub_self]
   exact⟨by simp,g⟩
  ·rw[if_neg g]at h
   obtain⟨h1,h2,h3,h4⟩:=ixL_lt h
   refine⟨by omega,by simp only[List.length_cons];omega,by simp only[List.length_cons];omega,?_⟩
   have e:j-i=(j-(i+1))+1:=by omega
   simp only[e,List.getElem_cons_succ]
   exact h4
theorem ixL_find {α:Type} (p:α→Bool):∀(l:List α) (i:Nat),(match ixL p l i with|some j=>l[j-i]?|none=>none)=l.find? p
 | [],_=>rfl
 |a::r,i=>by
  unfold ixL
  by_cases g:p a=true
  ·rw[if_pos g,List.find?_cons_of_pos g]
   simp
  ·rw[if_neg g,List.find?_cons_of_neg (by simpa using g),←ixL_find p r (i+1)]
   cases h:ixL p r (i+1) with
   |none=>rfl
   |some j =>
    have:=(ixL_lt h).1
    show(a::r)[j-i]?=r[j-(i+1)]?
    rw[show j-i=(j-(i+1))+1 by omega];rfl
theorem ixL_any {α:Type} (p:α→Bool):∀(l:List α) (i:Nat),(ixL p l i).isSome=l.any p
 | [],_=>rfl
 |a::r,i=>by
  unfold ixL
  rw[List.any_cons]
  by_cases g:p a=true
  ·rw[if_pos g,g];rfl
  ·rw[if_neg g,ixL_any p r (i+1),Bool.eq_false_iff.2 g,Bool.false_or]
theorem ixL_drop {α:Type} {p:α→Bool} {l:List α} {i:Nat} (h:i<l.length):ixL p (l.drop i) i=if p l[i] then some i else ixL p (l.drop (i+1)) (i+1):=by
 rw[List.drop_eq_getElem_cons h];rfl
end Go.Plain
namespace Go.Proofs.YtdeejbnhlbddgaaGreatDoor
open Go.Eng Go.Plain
set_option autoImplicit false
set_option maxRecDepth 100000
variable {nat:∀ [Deep],Nats}
def TellsN (nat:∀ [Deep],Nats) (η:HN) {α:Type} (l:List α) (ls:List (List AV)) (p:α→Bool) (f:FuncId) (caps:List AV):Prop :=
 ∀ζ,ExtB η.nx η ζ→∀i (h:i<l.length) (h':i<ls.length) (Q:AV→HN→Prop),(∀ζ',ExtB ζ.nx ζ ζ'→Q (.bool (p l[i])) ζ')→∃v ζ',CallN Tryz.prog nat f (.agg ls[i]::caps) ζ v ζ'∧Q v ζ'
theorem ixNode_spec (U:Usual nat) {α:Type} {l:List α} {ls:List (List AV)} {η:HN} {v:AV} (hl:ls.length=l.length) (hn:l.length≤4294967296) (rv:RdR 6 η v ls) {p:α→Bool} {f:FuncId} {caps:List AV}
  (hc:TellsN nat η l ls p f caps) {Q:AV→HN→Prop} (k:∀η',ExtB η.nx η η'→Q (.int .i64 (encO (ixL p l 0))) η'):∃v' η',CallN Tryz.prog nat 83 [v,.func f [] caps] η v' η'∧Q v' η':=by
 refine call_of (PT:=pl83) Tryz.func83 rfl (U 83 (by decide)) ok83 rfl ?_
 have ln:=fun η' e w=>row_len (η':=η') rv hl (by omega) e w
 simp -implicitDefEqProofs(disch:=omega)only[go_sem,ln]
 obtain⟨I,hI⟩:∃I:Nat→FN→HN→Prop,∀m φ ζ,I m φ ζ↔∃i,m=l.length-i∧i≤l.length∧(φ 0=v∧φ 1=.func f [] caps∧φ 7=.int .i64 l.length∧φ 8=.int .i64 i)∧ixL p (l.drop i) i=ixL p l 0∧ExtB η.nx η ζ:=⟨_,fun _ _ _=>Iff.rfl⟩
 refine wpN_loop I l.length ((hI _ _ _).2 ⟨0,rfl,Nat.zero_le _,⟨rfl,rfl,rfl,rfl⟩,rfl,.refl _ _⟩) ?_
 intro m φ ζ hi
 obtain⟨i,hm,hi,⟨p0,p1,p7,p8⟩,ex,Ex⟩:=(hI _ _ _).1 hi
 by_cases hlt:i<l.length
 ·obtain⟨b,off,cap,ro,row,rfl,hb,hbn,hlen,hrow⟩:=rv.at (i:=i) (by omega)
  have hbz:ζ.f b=_:=(Ex.2 b hbn).trans hb
  simp -implicitDefEqProofs(disch:=omega)only[go_sem,p0,p1,p7,p8,hbz,hrow]
  refine thenN_call (hc ζ Ex i hlt (by omega) _ fun ζ2 x2=>?_)
  rw[ixL_drop hlt]at ex
  cases e:p l[i] with
  |true =>
   rw[e,if_pos rfl]at ex
   rw[←ex]at k
   simp -implicitDefEqProofs(disch:=omega)only[go_sem,p0,p1,p7,p8]
   exact k _ (extT Ex x2)
  |false =>
   rw[e,if_neg (by decide)]at ex
   simp -implicitDefEqProofs(disch:=omega)only[go_sem,p0,p1,p7,p8]
   exact⟨l.length-(i+1),by omega,(hI _ _ _).2 ⟨i+1,rfl,hlt,⟨by exact p0,by exact p1,by exact p7,rfl⟩,ex,extT Ex x2⟩⟩
 ·obtain rfl:i=l.length:=by omega
  rw[List.drop_length]at ex
  rw[←ex]at k
  simp -implicitDefEqProofs(disch:=omega)only[go_sem,p0,p1,p7,p8]
  exact k _ Ex
end Go.Proofs.YtdeejbnhlbddgaaGreatDoor
namespace Go.Proofs.YtdeejbnhlbddgaaGreatDoor
open Go.Eng Go.Plain
set_option autoImplicit false
set_option maxRecDepth 100000
variable {nat:∀ [Deep],Nats}
def Parts (η:HN):List AV→List (List Vr)→Prop
 | [],[]=>True
 |y::ys,l::ll=>RdR 5 η y (l.map Vr.cells)∧Parts η ys ll
 |_,_=>False
end Go.Proofs.YtdeejbnhlbddgaaGreatDoor
