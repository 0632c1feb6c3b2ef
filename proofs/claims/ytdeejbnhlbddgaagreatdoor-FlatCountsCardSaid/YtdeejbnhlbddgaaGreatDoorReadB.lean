/- What is proved: what the reader of operators of level 0 does. what the reader of operators of level 1 does. what the reader of operators of level 2 does. what the reader of operators of level 3 does. what the reader of operators of level 4 does. the reader of an expression does as told, at every depth. Conditions: as each theorem says. -/
import Derived.Test.YtdeejbnhlbddgaaGreatDoorReadA
import Derived.Test.YtdeejbnhlbddgaaGreatDoorPlain
set_option linter.unusedVariables false
set_option linter.unusedSimpArgs false
set_option linter.unusedSectionVars false
namespace Go.Proofs.YtdeejbnhlbddgaaGreatDoor
open Go.Eng Go.Plain
set_option autoImplicit false
set_option maxRecDepth 100000
variable {nat:∀ [Deep],Nats} {L:List Wd} {d:Nat} {G:Option Fns}
set_option maxHeartbeats 4000000 in
theorem row0_spec (U:Usual nat) (FL:FnsLe G) (W:RowSpec nat L d 1 (rowF L G 4)):RowSpec nat L d 0 (rowF L G 5):=by
 intro η pb y p Q h k
 refine call_of (PT:=pl113) Tryz.func113 rfl (U 113 (by decide)) ok113 rfl ?_
 have hn:=h.hn
 simp -implicitDefEqProofs(disch:=omega)only[go_sem]
 obtain⟨η0,e0,h0,c0,o0,n0,X0⟩:∃η0,η0=((((((η.new (.live false [.str 0 0,.str 0 0,.int .i64 0,.int .i64 0,.nilslice])).new (.live false [.str 2 29295,.str 3 7499640])).new (.live false [.str 3 6581857])).new (.live false [.str 1 61,.str 2 15932,.str 1 60,.str 2 15676,.str 1 62,.str 2 15678])).new (.live false [.str 1 43,.str 1 45])).new (.live false [.str 1 42,.str 1 47,.str 3 6582125])).new (.live false [.slice (η.nx+1) 0 2 (.kn 2),.slice (η.nx+1+1) 0 1 (.kn 1),.slice (η.nx+1+1+1) 0 6 (.kn 6),.slice (η.nx+1+1+1+1) 0 2 (.kn 2),.slice (η.nx+1+1+1+1+1) 0 3 (.kn 3)])∧PA η0 pb y L d p∧η0.f η.nx=.live false [.str 0 0,.str 0 0,.int .i64 0,.int .i64 0,.nilslice]∧η0.f (η.nx+1)=.live false ([sOr,sXor].map sV)∧η0.nx=η.nx+7∧ExtX pb η η0 :=
  ⟨_,rfl,h.new.new.new.new.new.new.new,by simp -implicitDefEqProofs(disch:=omega)only[go_sem],by simp -implicitDefEqProofs(disch:=omega)only[go_sem];rfl,rfl,((((((ExtX.refl pb η).new.new).new).new).new).new).new⟩
 rw[←e0]
 refine thenN_call (W η0 pb y p _ h0 fun z1 η1 r1 h1 x1=>?_)
 have l1:=rdE_len r1
 have n1:=x1.1
 have c1:=(x1.2 η.nx (by omega) (by omega)).trans c0
 have o1:=(x1.2 (η.nx+1) (by omega) (by omega)).trans o0
 simp -implicitDefEqProofs(disch:=omega)only[go_sem,l1]
 obtain⟨η2,e2,h2,c2,n2,X2,B2⟩:=cell_new (w:=.live false z1) h1
 rw[←e2]
 obtain⟨I,hI⟩:∃I:Nat→FN→HN→Prop,∀m φ ζ,I m φ ζ↔∃a z q,(φ 0=.ptr pb 0∧φ 1=.int .i64 0∧φ 4=.ptr η.nx 0∧φ 5=.slice (η.nx+1) 0 2 (.kn 2)∧φ 6=.ptr η1.nx 0)∧PA ζ pb y L d q ∧
   ζ.f η.nx=.live false [.str 0 0,.str 0 0,.int .i64 0,.int .i64 0,.nilslice]∧ζ.f η1.nx=.live false z∧ζ.f (η.nx+1)=.live false ([sOr,sXor].map sV)∧rdE (fun b=>η0.nx≤b∧b<ζ.nx∧b≠η1.nx) ζ a z∧η2.nx≤ζ.nx∧ExtX pb η ζ ∧
   rowL L (rowF L G 4) [sOr,sXor] false m a q=rowF L G 5 p∧(q.e=0→L.length≤q.k+m):=⟨_,fun _ _ _=>Iff.rfl⟩
 refine wpN_loop I L.length ((hI _ _ _).2 ⟨_,z1,_,⟨rfl,rfl,rfl,rfl,rfl⟩,h2,(B2.2 _ (by omega)).trans c1,c2,(B2.2 _ (by omega)).trans o1,rdE_keep (fun b _ hb=>B2.2 b hb) B2.1 (fun b q=>⟨q.1,by have:=q.2;omega,by have:=q.2;omega⟩) _ _ r1,Nat.le_refl _,(X0.trans x1).trans X2,rfl,fun _=>Nat.le_add_left _ _⟩) ?_
 intro m φ ζ hi
 obtain⟨a,z,q,⟨p0,p1,p4,p5,p6⟩,hq,cq,dq,oq,rq,nq,Xq,wq,fq⟩:=(hI _ _ _).1 hi
 have hqn:=hq.hn
 simp -implicitDefEqProofs(disch:=omega)only[go_sem,p0]
 refine thenN_call (w_then U hq fun η3 x3=>?_)
 have hc:(wd L q).cells=[.int .i64 (wd L q).k,.str (wd L q).t.1 (wd L q).t.2,.int .i64 (wd L q).n,.int .i64 (wd L q).a]:=rfl
 rw[hc]
 simp -implicitDefEqProofs(disch:=omega)only[go_sem,p0]
 obtain⟨J,hJ⟩:∃J:Nat→FN→HN→Prop,∀m φ ζ',J m φ ζ'↔∃i,m=2-i∧i≤2∧(φ 0=.ptr pb 0∧φ 1=.int .i64 0∧φ 4=.ptr η.nx 0∧φ 5=.slice (η.nx+1) 0 2 (.kn 2)∧φ 6=.ptr η1.nx 0) ∧
   φ 7=.int .i64 (wd L q).a∧φ 8=.str (opAcc L [sOr,sXor] q i).1 (opAcc L [sOr,sXor] q i).2∧φ 9=.int .i64 i∧ExtB ζ.nx ζ ζ':=⟨_,fun _ _ _=>Iff.rfl⟩
 refine wpN_loop J 2 ((hJ _ _ _).2 ⟨0,rfl,Nat.zero_le _,⟨p0,p1,p4,p5,p6⟩,rfl,rfl,rfl,x3⟩) ?_
 intro m' φ' ζ' hj
 obtain⟨i,hm',hi',⟨s0,s1,s4,s5,s6⟩,s7,s8,s9,xj⟩:=(hJ _ _ _).1 hj
 have hj':=hq.extB xj
 have nj:=xj.1
 have oj:ζ'.f (η.nx+1)=_:=(xj.2 _ (by omega)).trans oq
 by_cases hlt:i<2
 ·have gi:=strs_get [sOr,sXor] i hlt
  have li:([sOr,sXor].map sV).length=2:=rfl
  simp -implicitDefEqProofs(disch:=omega)only[go_sem,s0,s1,s4,s5,s6,s7,s8,s9,oj,gi,li]
  refine thenN_call (is_then U hj' ([sOr,sXor].getD i (0,0)) fun η4 x4=>?_)
  have oj4:η4.f (η.nx+1)=_:=(x4.2 _ (by omega)).trans oj
  have acc:=opAcc_s (L:=L) (p:=q) (ops:=[sOr,sXor]) hlt
  cases e:isP L ([sOr,sXor].getD i (0,0)) q with
  |true =>
   rw[e,if_pos rfl]at acc
   simp -implicitDefEqProofs(disch:=omega)only[go_sem,s0,s1,s4,s5,s6,s7,s8,s9,oj4,gi,li]
   exact⟨2-(i+1),by omega,(hJ _ _ _).2 ⟨i+1,rfl,by omega,⟨s0,s1,s4,s5,s6⟩,s7,by rw[acc];rfl,rfl,xj.trans (x4.mono xj.1)⟩⟩
  |false =>
   rw[e,if_neg (by decide)]at acc
   simp -implicitDefEqProofs(disch:=omega)only[go_sem,s0,s1,s4,s5,s6,s7,s8,s9]
   exact⟨2-(i+1),by omega,(hJ _ _ _).2 ⟨i+1,rfl,by omega,⟨s0,s1,s4,s5,s6⟩,s7,by rw[acc];exact s8,rfl,xj.trans (x4.mono xj.1)⟩⟩
 obtain rfl:i=2:=by omega
 have acc:opAcc L [sOr,sXor] q 2=(opF L [sOr,sXor] q).getD (0,0):=opAcc_all
 rw[acc]at s8
 have cj:ζ'.f η.nx=_:=(xj.2 _ (by omega)).trans cq
 have dj:ζ'.f η1.nx=_:=(xj.2 _ (by omega)).trans dq
 have rj:=rdE_b rq xj
 have lq:=rdE_len rq
 cases e:opF L [sOr,sXor] q with
 |none =>
  rw[e]at s8
  have s8:φ' 8=.str 0 0:=s8
  have e0':strEq 0 0 0 0=true:=rfl
  simp -implicitDefEqProofs(disch:=omega)only[go_sem,s0,s1,s4,s5,s6,s7,s8,s9,e0',cj,dj,lq]
  have wq':rowL L (rowF L G 4) [sOr,sXor] false m a q=(a,q):=by
   cases m with
   |zero=>rfl
   |succ m=>unfold rowL;rw[e]
  rw[wq']at wq
  rw[←wq]at k
  exact k _ _ (rdE_mono (rdE_put rj (fun q=>by have:=q.1;omega)) (fun b q=>⟨by have:=q.1;omega,by have:=q.2.1;show b<ζ'.nx;omega⟩)) (hj'.putc (by omega) (h.fresh (Nat.le_refl _))) ((Xq.of xj).putN (Nat.le_refl _))
 |some op =>
  rw[e]at s8
  have s8:φ' 8=.str op.1 op.2:=s8
  obtain⟨eo,ei⟩:=opF_some e
  have e0':strEq op.1 op.2 0 0=false:=by
   revert op
   simp only[List.mem_cons,List.not_mem_nil,or_false]
   rintro op - - - ho -
   rcases ho with rfl|rfl<;>rfl
  obtain⟨he,hkk,_⟩:=isP_kind ei
  have hlt:=hq.k
  obtain _|m:=m
  ·have:=fq he;omega
  simp -implicitDefEqProofs(disch:=omega)only[go_sem,s0,s1,s4,s5,s6,s7,s8,s9,e0']
  refine thenN_call (part_then U hj' fun η5 h5 x5=>?_)
  simp -implicitDefEqProofs(disch:=omega)only[go_sem,s0,s1,s4,s5,s6,s7,s8,s9]
  refine thenN_call (eat_then op U h5 fun η6 h6 x6=>?_)
  simp -implicitDefEqProofs(disch:=omega)only[go_sem,s0,s1,s4,s5,s6,s7,s8,s9]
  refine thenN_call (W η6 pb y _ _ h6 fun z8 η8 r8 h8 x8=>?_)
  have n5:=x5.1
  have n6:=x6.1
  have n8:=x8.1
  have X8:=(x5.trans x6).trans x8
  have c8:η8.f η.nx=_:=(X8.2 _ (by omega) (by omega)).trans cj
  have d8:η8.f η1.nx=_:=(X8.2 _ (by omega) (by omega)).trans dj
  have o8:η8.f (η.nx+1)=_:=(X8.2 _ (by omega) (by omega)).trans oj
  have v8:=rdE_x rj X8 (fun q=>by have:=q.1;omega)
  have l8:=rdE_len r8
  have b8:=h8.hn
  obtain⟨f1,f2,f3,f4,f5,rfl⟩:=rdE_cells rq
  obtain⟨g1,g2,g3,g4,g5,rfl⟩:=rdE_cells r8
  simp -implicitDefEqProofs(disch:=omega)only[go_sem,s0,s1,s4,s5,s6,s7,s8,s9,c8,d8,repL_s,repL_z,setsL_c]
  have T:rdE (fun b=>η0.nx≤b∧b<η8.nx+1+1∧b≠η1.nx) (((η8.new (.live false [.str g1.1 g1.2,.str g2.1 g2.2,.int .i64 g3,.int .i64 g4,g5])).new (.live false [.str f1.1 f1.2,.str f2.1 f2.2,.int .i64 f3,.int .i64 f4,f5,.str g1.1 g1.2,.str g2.1 g2.2,.int .i64 g3,.int .i64 g4,g5])).put η1.nx (.live false [.str op.1 op.2,.str 0 0,.int .i64 0,.int .i64 (wd L q).a,.slice (η8.nx+1) 0 2 (.kn 2)]))
    (.mk op (0,0) 0 (wd L q).a [a,(rowF L G 4 (eatP L op q)).1]) [.str op.1 op.2,.str 0 0,.int .i64 0,.int .i64 (wd L q).a,.slice (η8.nx+1) 0 2 (.kn 2)] :=
   rdE_fin2 (nm:=(0,0)) (c:=η1.nx) (pb:=pb) v8 r8 (fun b q=>⟨⟨q.1,by have:=q.2.1;omega,q.2.2⟩,by have:=q.1;omega,q.2.2⟩) (fun b q=>⟨⟨by have:=q.1;omega,by have:=q.2;omega,by have:=q.1;omega⟩,by have:=q.1;omega,by have:=q.1;omega⟩)
    (fun b q1 q2 q3=>by simp -implicitDefEqProofs(disch:=omega)only[go_sem]) (by show η8.nx≤η8.nx+1+1;omega) (by simp -implicitDefEqProofs(disch:=omega)only[go_sem]) (by show η8.nx+1<η8.nx+1+1;omega) ⟨by omega,by omega,by omega⟩
  have H:=(h8.new (z:=.live false [.str g1.1 g1.2,.str g2.1 g2.2,.int .i64 g3,.int .i64 g4,g5])).new (z:=.live false [.str f1.1 f1.2,.str f2.1 f2.2,.int .i64 f3,.int .i64 f4,f5,.str g1.1 g1.2,.str g2.1 g2.2,.int .i64 g3,.int .i64 g4,g5])
  have H:=H.putc (c:=η1.nx) (z:=.live false [.str op.1 op.2,.str 0 0,.int .i64 0,.int .i64 (wd L q).a,.slice (η8.nx+1) 0 2 (.kn 2)]) (by omega) (fun g=>h.fresh (c:=η1.nx) (by omega) g)
  have XX:=((((Xq.of xj).trans X8).new (y:=.live false [.str g1.1 g1.2,.str g2.1 g2.2,.int .i64 g3,.int .i64 g4,g5])).new (y:=.live false [.str f1.1 f1.2,.str f2.1 f2.2,.int .i64 f3,.int .i64 f4,f5,.str g1.1 g1.2,.str g2.1 g2.2,.int .i64 g3,.int .i64 g4,g5])).putN (c:=η1.nx) (y:=.live false [.str op.1 op.2,.str 0 0,.int .i64 0,.int .i64 (wd L q).a,.slice (η8.nx+1) 0 2 (.kn 2)]) (by omega)
  have wq':rowL L (rowF L G 4) [sOr,sXor] false m (.mk op (0,0) 0 (wd L q).a [a,(rowF L G 4 (eatP L op q)).1]) (rowF L G 4 (eatP L op q)).2=rowF L G 5 p:=by
   rw[←wq]
   conv=>rhs;unfold rowL
   rw[e];rfl
  refine⟨m,Nat.lt_succ_self _,(hI _ _ _).2 ⟨_,_,_,⟨s0,s1,s4,s5,s6⟩,H,?_,if_pos rfl,?_,T,?_,XX,wq',fun e'=>?_⟩⟩
  ·simp -implicitDefEqProofs(disch:=omega)only[go_sem,c8]
  ·simp -implicitDefEqProofs(disch:=omega)only[go_sem,o8]
  ·show η2.nx≤η8.nx+1+1;omega
  ·have w1:LeP (eatP L op q) (rowF L G 4 (eatP L op q)).2:=rowF_le FL _ _
   have w2:=w1 e'
   have w3:=eatP_k ei w2.1
   have:=fq he
   omega
end Go.Proofs.YtdeejbnhlbddgaaGreatDoor
namespace Go.Proofs.YtdeejbnhlbddgaaGreatDoor
open Go.Eng Go.Plain
set_option autoImplicit false
set_option maxRecDepth 100000
variable {nat:∀ [Deep],Nats} {L:List Wd} {d:Nat} {G:Option Fns}
set_option maxHeartbeats 4000000 in
theorem row1_spec (U:Usual nat) (FL:FnsLe G) (W:RowSpec nat L d 2 (rowF L G 3)):RowSpec nat L d 1 (rowF L G 4):=by
 intro η pb y p Q h k
 refine call_of (PT:=pl113) Tryz.func113 rfl (U 113 (by decide)) ok113 rfl ?_
 have hn:=h.hn
 simp -implicitDefEqProofs(disch:=omega)only[go_sem]
 obtain⟨η0,e0,h0,c0,o0,n0,X0⟩:∃η0,η0=((((((η.new (.live false [.str 0 0,.str 0 0,.int .i64 0,.int .i64 0,.nilslice])).new (.live false [.str 2 29295,.str 3 7499640])).new (.live false [.str 3 6581857])).new (.live false [.str 1 61,.str 2 15932,.str 1 60,.str 2 15676,.str 1 62,.str 2 15678])).new (.live false [.str 1 43,.str 1 45])).new (.live false [.str 1 42,.str 1 47,.str 3 6582125])).new (.live false [.slice (η.nx+1) 0 2 (.kn 2),.slice (η.nx+1+1) 0 1 (.kn 1),.slice (η.nx+1+1+1) 0 6 (.kn 6),.slice (η.nx+1+1+1+1) 0 2 (.kn 2),.slice (η.nx+1+1+1+1+1) 0 3 (.kn 3)])∧PA η0 pb y L d p∧η0.f η.nx=.live false [.str 0 0,.str 0 0,.int .i64 0,.int .i64 0,.nilslice]∧η0.f (η.nx+1+1)=.live false ([sAnd].map sV)∧η0.nx=η.nx+7∧ExtX pb η η0 :=
  ⟨_,rfl,h.new.new.new.new.new.new.new,by simp -implicitDefEqProofs(disch:=omega)only[go_sem],by simp -implicitDefEqProofs(disch:=omega)only[go_sem];rfl,rfl,((((((ExtX.refl pb η).new.new).new).new).new).new).new⟩
 rw[←e0]
 refine thenN_call (W η0 pb y p _ h0 fun z1 η1 r1 h1 x1=>?_)
 have l1:=rdE_len r1
 have n1:=x1.1
 have c1:=(x1.2 η.nx (by omega) (by omega)).trans c0
 have o1:=(x1.2 (η.nx+1+1) (by omega) (by omega)).trans o0
 simp -implicitDefEqProofs(disch:=omega)only[go_sem,l1]
 obtain⟨η2,e2,h2,c2,n2,X2,B2⟩:=cell_new (w:=.live false z1) h1
 rw[←e2]
 obtain⟨I,hI⟩:∃I:Nat→FN→HN→Prop,∀m φ ζ,I m φ ζ↔∃a z q,(φ 0=.ptr pb 0∧φ 1=.int .i64 1∧φ 4=.ptr η.nx 0∧φ 5=.slice (η.nx+1+1) 0 1 (.kn 1)∧φ 6=.ptr η1.nx 0)∧PA ζ pb y L d q ∧
   ζ.f η.nx=.live false [.str 0 0,.str 0 0,.int .i64 0,.int .i64 0,.nilslice]∧ζ.f η1.nx=.live false z∧ζ.f (η.nx+1+1)=.live false ([sAnd].map sV)∧rdE (fun b=>η0.nx≤b∧b<ζ.nx∧b≠η1.nx) ζ a z∧η2.nx≤ζ.nx∧ExtX pb η ζ ∧
   rowL L (rowF L G 3) [sAnd] false m a q=rowF L G 4 p∧(q.e=0→L.length≤q.k+m):=⟨_,fun _ _ _=>Iff.rfl⟩
 refine wpN_loop I L.length ((hI _ _ _).2 ⟨_,z1,_,⟨rfl,rfl,rfl,rfl,rfl⟩,h2,(B2.2 _ (by omega)).trans c1,c2,(B2.2 _ (by omega)).trans o1,rdE_keep (fun b _ hb=>B2.2 b hb) B2.1 (fun b q=>⟨q.1,by have:=q.2;omega,by have:=q.2;omega⟩) _ _ r1,Nat.le_refl _,(X0.trans x1).trans X2,rfl,fun _=>Nat.le_add_left _ _⟩) ?_
 intro m φ ζ hi
 obtain⟨a,z,q,⟨p0,p1,p4,p5,p6⟩,hq,cq,dq,oq,rq,nq,Xq,wq,fq⟩:=(hI _ _ _).1 hi
 have hqn:=hq.hn
 simp -implicitDefEqProofs(disch:=omega)only[go_sem,p0]
 refine thenN_call (w_then U hq fun η3 x3=>?_)
 have hc:(wd L q).cells=[.int .i64 (wd L q).k,.str (wd L q).t.1 (wd L q).t.2,.int .i64 (wd L q).n,.int .i64 (wd L q).a]:=rfl
 rw[hc]
 simp -implicitDefEqProofs(disch:=omega)only[go_sem,p0]
 obtain⟨J,hJ⟩:∃J:Nat→FN→HN→Prop,∀m φ ζ',J m φ ζ'↔∃i,m=1-i∧i≤1∧(φ 0=.ptr pb 0∧φ 1=.int .i64 1∧φ 4=.ptr η.nx 0∧φ 5=.slice (η.nx+1+1) 0 1 (.kn 1)∧φ 6=.ptr η1.nx 0) ∧
   φ 7=.int .i64 (wd L q).a∧φ 8=.str (opAcc L [sAnd] q i).1 (opAcc L [sAnd] q i).2∧φ 9=.int .i64 i∧ExtB ζ.nx ζ ζ':=⟨_,fun _ _ _=>Iff.rfl⟩
 refine wpN_loop J 1 ((hJ _ _ _).2 ⟨0,rfl,Nat.zero_le _,⟨p0,p1,p4,p5,p6⟩,rfl,rfl,rfl,x3⟩) ?_
 intro m' φ' ζ' hj
 obtain⟨i,hm',hi',⟨s0,s1,s4,s5,s6⟩,s7,s8,s9,xj⟩:=(hJ _ _ _).1 hj
 have hj':=hq.extB xj
 have nj:=xj.1
 have oj:ζ'.f (η.nx+1+1)=_:=(xj.2 _ (by omega)).trans oq
 by_cases hlt:i<1
 ·have gi:=strs_get [sAnd] i hlt
  have li:([sAnd].map sV).length=1:=rfl
  simp -implicitDefEqProofs(disch:=omega)only[go_sem,s0,s1,s4,s5,s6,s7,s8,s9,oj,gi,li]
  refine thenN_call (is_then U hj' ([sAnd].getD i (0,0)) fun η4 x4=>?_)
  have oj4:η4.f (η.nx+1+1)=_:=(x4.2 _ (by omega)).trans oj
  have acc:=opAcc_s (L:=L) (p:=q) (ops:=[sAnd]) hlt
  cases e:isP L ([sAnd].getD i (0,0)) q with
  |true =>
   rw[e,if_pos rfl]at acc
   simp -implicitDefEqProofs(disch:=omega)only[go_sem,s0,s1,s4,s5,s6,s7,s8,s9,oj4,gi,li]
   exact⟨1-(i+1),by omega,(hJ _ _ _).2 ⟨i+1,rfl,by omega,⟨s0,s1,s4,s5,s6⟩,s7,by rw[acc];rfl,rfl,xj.trans (x4.mono xj.1)⟩⟩
  |false =>
   rw[e,if_neg (by decide)]at acc
   simp -implicitDefEqProofs(disch:=omega)only[go_sem,s0,s1,s4,s5,s6,s7,s8,s9]
   exact⟨1-(i+1),by omega,(hJ _ _ _).2 ⟨i+1,rfl,by omega,⟨s0,s1,s4,s5,s6⟩,s7,by rw[acc];exact s8,rfl,xj.trans (x4.mono xj.1)⟩⟩
 obtain rfl:i=1:=by omega
 have acc:opAcc L [sAnd] q 1=(opF L [sAnd] q).getD (0,0):=opAcc_all
 rw[acc]at s8
 have cj:ζ'.f η.nx=_:=(xj.2 _ (by omega)).trans cq
 have dj:ζ'.f η1.nx=_:=(xj.2 _ (by omega)).trans dq
 have rj:=rdE_b rq xj
 have lq:=rdE_len rq
 cases e:opF L [sAnd] q with
 |none =>
  rw[e]at s8
  have s8:φ' 8=.str 0 0:=s8
  have e0':strEq 0 0 0 0=true:=rfl
  simp -implicitDefEqProofs(disch:=omega)only[go_sem,s0,s1,s4,s5,s6,s7,s8,s9,e0',cj,dj,lq]
  have wq':rowL L (rowF L G 3) [sAnd] false m a q=(a,q):=by
   cases m with
   |zero=>rfl
   |succ m=>unfold rowL;rw[e]
  rw[wq']at wq
  rw[←wq]at k
  exact k _ _ (rdE_mono (rdE_put rj (fun q=>by have:=q.1;omega)) (fun b q=>⟨by have:=q.1;omega,by have:=q.2.1;show b<ζ'.nx;omega⟩)) (hj'.putc (by omega) (h.fresh (Nat.le_refl _))) ((Xq.of xj).putN (Nat.le_refl _))
 |some op =>
  rw[e]at s8
  have s8:φ' 8=.str op.1 op.2:=s8
  obtain⟨eo,ei⟩:=opF_some e
  have e0':strEq op.1 op.2 0 0=false:=by
   revert op
   simp only[List.mem_cons,List.not_mem_nil,or_false]
   rintro op - - - ho -
   obtain rfl:=ho<;>rfl
  obtain⟨he,hkk,_⟩:=isP_kind ei
  have hlt:=hq.k
  obtain _|m:=m
  ·have:=fq he;omega
  simp -implicitDefEqProofs(disch:=omega)only[go_sem,s0,s1,s4,s5,s6,s7,s8,s9,e0']
  refine thenN_call (part_then U hj' fun η5 h5 x5=>?_)
  simp -implicitDefEqProofs(disch:=omega)only[go_sem,s0,s1,s4,s5,s6,s7,s8,s9]
  refine thenN_call (eat_then op U h5 fun η6 h6 x6=>?_)
  simp -implicitDefEqProofs(disch:=omega)only[go_sem,s0,s1,s4,s5,s6,s7,s8,s9]
  refine thenN_call (W η6 pb y _ _ h6 fun z8 η8 r8 h8 x8=>?_)
  have n5:=x5.1
  have n6:=x6.1
  have n8:=x8.1
  have X8:=(x5.trans x6).trans x8
  have c8:η8.f η.nx=_:=(X8.2 _ (by omega) (by omega)).trans cj
  have d8:η8.f η1.nx=_:=(X8.2 _ (by omega) (by omega)).trans dj
  have o8:η8.f (η.nx+1+1)=_:=(X8.2 _ (by omega) (by omega)).trans oj
  have v8:=rdE_x rj X8 (fun q=>by have:=q.1;omega)
  have l8:=rdE_len r8
  have b8:=h8.hn
  obtain⟨f1,f2,f3,f4,f5,rfl⟩:=rdE_cells rq
  obtain⟨g1,g2,g3,g4,g5,rfl⟩:=rdE_cells r8
  simp -implicitDefEqProofs(disch:=omega)only[go_sem,s0,s1,s4,s5,s6,s7,s8,s9,c8,d8,repL_s,repL_z,setsL_c]
  have T:rdE (fun b=>η0.nx≤b∧b<η8.nx+1+1∧b≠η1.nx) (((η8.new (.live false [.str g1.1 g1.2,.str g2.1 g2.2,.int .i64 g3,.int .i64 g4,g5])).new (.live false [.str f1.1 f1.2,.str f2.1 f2.2,.int .i64 f3,.int .i64 f4,f5,.str g1.1 g1.2,.str g2.1 g2.2,.int .i64 g3,.int .i64 g4,g5])).put η1.nx (.live false [.str op.1 op.2,.str 0 0,.int .i64 0,.int .i64 (wd L q).a,.slice (η8.nx+1) 0 2 (.kn 2)]))
    (.mk op (0,0) 0 (wd L q).a [a,(rowF L G 3 (eatP L op q)).1]) [.str op.1 op.2,.str 0 0,.int .i64 0,.int .i64 (wd L q).a,.slice (η8.nx+1) 0 2 (.kn 2)] :=
   rdE_fin2 (nm:=(0,0)) (c:=η1.nx) (pb:=pb) v8 r8 (fun b q=>⟨⟨q.1,by have:=q.2.1;omega,q.2.2⟩,by have:=q.1;omega,q.2.2⟩) (fun b q=>⟨⟨by have:=q.1;omega,by have:=q.2;omega,by have:=q.1;omega⟩,by have:=q.1;omega,by have:=q.1;omega⟩)
    (fun b q1 q2 q3=>by simp -implicitDefEqProofs(disch:=omega)only[go_sem]) (by show η8.nx≤η8.nx+1+1;omega) (by simp -implicitDefEqProofs(disch:=omega)only[go_sem]) (by show η8.nx+1<η8.nx+1+1;omega) ⟨by omega,by omega,by omega⟩
  have H:=(h8.new (z:=.live false [.str g1.1 g1.2,.str g2.1 g2.2,.int .i64 g3,.int .i64 g4,g5])).new (z:=.live false [.str f1.1 f1.2,.str f2.1 f2.2,.int .i64 f3,.int .i64 f4,f5,.str g1.1 g1.2,.str g2.1 g2.2,.int .i64 g3,.int .i64 g4,g5])
  have H:=H.putc (c:=η1.nx) (z:=.live false [.str op.1 op.2,.str 0 0,.int .i64 0,.int .i64 (wd L q).a,.slice (η8.nx+1) 0 2 (.kn 2)]) (by omega) (fun g=>h.fresh (c:=η1.nx) (by omega) g)
  have XX:=((((Xq.of xj).trans X8).new (y:=.live false [.str g1.1 g1.2,.str g2.1 g2.2,.int .i64 g3,.int .i64 g4,g5])).new (y:=.live false [.str f1.1 f1.2,.str f2.1 f2.2,.int .i64 f3,.int .i64 f4,f5,.str g1.1 g1.2,.str g2.1 g2.2,.int .i64 g3,.int .i64 g4,g5])).putN (c:=η1.nx) (y:=.live false [.str op.1 op.2,.str 0 0,.int .i64 0,.int .i64 (wd L q).a,.slice (η8.nx+1) 0 2 (.kn 2)]) (by omega)
  have wq':rowL L (rowF L G 3) [sAnd] false m (.mk op (0,0) 0 (wd L q).a [a,(rowF L G 3 (eatP L op q)).1]) (rowF L G 3 (eatP L op q)).2=rowF L G 4 p:=by
   rw[←wq]
   conv=>rhs;unfold rowL
   rw[e];rfl
  refine⟨m,Nat.lt_succ_self _,(hI _ _ _).2 ⟨_,_,_,⟨s0,s1,s4,s5,s6⟩,H,?_,if_pos rfl,?_,T,?_,XX,wq',fun e'=>?_⟩⟩
  ·simp -implicitDefEqProofs(disch:=omega)only[go_sem,c8]
  ·simp -implicitDefEqProofs(disch:=omega)only[go_sem,o8]
  ·show η2.nx≤η8.nx+1+1;omega
  ·have w1:LeP (eatP L op q) (rowF L G 3 (eatP L op q)).2:=rowF_le FL _ _
   have w2:=w1 e'
   have w3:=eatP_k ei w2.1
   have:=fq he
   omega
end Go.Proofs.YtdeejbnhlbddgaaGreatDoor
namespace Go.Proofs.YtdeejbnhlbddgaaGreatDoor
open Go.Eng Go.Plain
set_option autoImplicit false
set_option maxRecDepth 100000
variable {nat:∀ [Deep],Nats} {L:List Wd} {d:Nat} {G:Option Fns}
set_option maxHeartbeats 4000000 in
theorem row2_spec (U:Usual nat) (W:RowSpec nat L d 3 (rowF L G 2)):RowSpec nat L d 2 (rowF L G 3):=by
 intro η pb y p Q h k
 refine call_of (PT:=pl113) Tryz.func113 rfl (U 113 (by decide)) ok113 rfl ?_
 have hn:=h.hn
 simp -implicitDefEqProofs(disch:=omega)only[go_sem]
 obtain⟨η0,e0,h0,c0,o0,n0,X0⟩:∃η0,η0=((((((η.new (.live false [.str 0 0,.str 0 0,.int .i64 0,.int .i64 0,.nilslice])).new (.live false [.str 2 29295,.str 3 7499640])).new (.live false [.str 3 6581857])).new (.live false [.str 1 61,.str 2 15932,.str 1 60,.str 2 15676,.str 1 62,.str 2 15678])).new (.live false [.str 1 43,.str 1 45])).new (.live false [.str 1 42,.str 1 47,.str 3 6582125])).new (.live false [.slice (η.nx+1) 0 2 (.kn 2),.slice (η.nx+1+1) 0 1 (.kn 1),.slice (η.nx+1+1+1) 0 6 (.kn 6),.slice (η.nx+1+1+1+1) 0 2 (.kn 2),.slice (η.nx+1+1+1+1+1) 0 3 (.kn 3)])∧PA η0 pb y L d p∧η0.f η.nx=.live false [.str 0 0,.str 0 0,.int .i64 0,.int .i64 0,.nilslice]∧η0.f (η.nx+1+1+1)=.live false ([sEq,sNe,sLt,sLe,sGt,sGe].map sV)∧η0.nx=η.nx+7∧ExtX pb η η0 :=
  ⟨_,rfl,h.new.new.new.new.new.new.new,by simp -implicitDefEqProofs(disch:=omega)only[go_sem],by simp -implicitDefEqProofs(disch:=omega)only[go_sem];rfl,rfl,((((((ExtX.refl pb η).new.new).new).new).new).new).new⟩
 rw[←e0]
 refine thenN_call (W η0 pb y p _ h0 fun z1 η1 r1 h1 x1=>?_)
 have l1:=rdE_len r1
 have n1:=x1.1
 have c1:=(x1.2 η.nx (by omega) (by omega)).trans c0
 have o1:=(x1.2 (η.nx+1+1+1) (by omega) (by omega)).trans o0
 simp -implicitDefEqProofs(disch:=omega)only[go_sem,l1]
 obtain⟨η2,e2,h2,c2,n2,X2,B2⟩:=cell_new (w:=.live false z1) h1
 rw[←e2]
 obtain⟨I,hI⟩:∃I:Nat→FN→HN→Prop,∀m φ ζ,I m φ ζ↔∃a z q,(φ 0=.ptr pb 0∧φ 1=.int .i64 2∧φ 4=.ptr η.nx 0∧φ 5=.slice (η.nx+1+1+1) 0 6 (.kn 6)∧φ 6=.ptr η1.nx 0)∧PA ζ pb y L d q ∧
   ζ.f η.nx=.live false [.str 0 0,.str 0 0,.int .i64 0,.int .i64 0,.nilslice]∧ζ.f η1.nx=.live false z∧ζ.f (η.nx+1+1+1)=.live false ([sEq,sNe,sLt,sLe,sGt,sGe].map sV)∧rdE (fun b=>η0.nx≤b∧b<ζ.nx∧b≠η1.nx) ζ a z∧η2.nx≤ζ.nx∧ExtX pb η ζ ∧
   rowL L (rowF L G 2) [sEq,sNe,sLt,sLe,sGt,sGe] true m a q=rowF L G 3 p∧(q.e=0→L.length≤q.k+m):=⟨_,fun _ _ _=>Iff.rfl⟩
 refine wpN_loop I L.length ((hI _ _ _).2 ⟨_,z1,_,⟨rfl,rfl,rfl,rfl,rfl⟩,h2,(B2.2 _ (by omega)).trans c1,c2,(B2.2 _ (by omega)).trans o1,rdE_keep (fun b _ hb=>B2.2 b hb) B2.1 (fun b q=>⟨q.1,by have:=q.2;omega,by have:=q.2;omega⟩) _ _ r1,Nat.le_refl _,(X0.trans x1).trans X2,rfl,fun _=>Nat.le_add_left _ _⟩) ?_
 intro m φ ζ hi
 obtain⟨a,z,q,⟨p0,p1,p4,p5,p6⟩,hq,cq,dq,oq,rq,nq,Xq,wq,fq⟩:=(hI _ _ _).1 hi
 have hqn:=hq.hn
 simp -implicitDefEqProofs(disch:=omega)only[go_sem,p0]
 refine thenN_call (w_then U hq fun η3 x3=>?_)
 have hc:(wd L q).cells=[.int .i64 (wd L q).k,.str (wd L q).t.1 (wd L q).t.2,.int .i64 (wd L q).n,.int .i64 (wd L q).a]:=rfl
 rw[hc]
 simp -implicitDefEqProofs(disch:=omega)only[go_sem,p0]
 obtain⟨J,hJ⟩:∃J:Nat→FN→HN→Prop,∀m φ ζ',J m φ ζ'↔∃i,m=6-i∧i≤6∧(φ 0=.ptr pb 0∧φ 1=.int .i64 2∧φ 4=.ptr η.nx 0∧φ 5=.slice (η.nx+1+1+1) 0 6 (.kn 6)∧φ 6=.ptr η1.nx 0) ∧
   φ 7=.int .i64 (wd L q).a∧φ 8=.str (opAcc L [sEq,sNe,sLt,sLe,sGt,sGe] q i).1 (opAcc L [sEq,sNe,sLt,sLe,sGt,sGe] q i).2∧φ 9=.int .i64 i∧ExtB ζ.nx ζ ζ':=⟨_,fun _ _ _=>Iff.rfl⟩
 refine wpN_loop J 6 ((hJ _ _ _).2 ⟨0,rfl,Nat.zero_le _,⟨p0,p1,p4,p5,p6⟩,rfl,rfl,rfl,x3⟩) ?_
 intro m' φ' ζ' hj
 obtain⟨i,hm',hi',⟨s0,s1,s4,s5,s6⟩,s7,s8,s9,xj⟩:=(hJ _ _ _).1 hj
 have hj':=hq.extB xj
 have nj:=xj.1
 have oj:ζ'.f (η.nx+1+1+1)=_:=(xj.2 _ (by omega)).trans oq
 by_cases hlt:i<6
 ·have gi:=strs_get [sEq,sNe,sLt,sLe,sGt,sGe] i hlt
  have li:([sEq,sNe,sLt,sLe,sGt,sGe].map sV).length=6:=rfl
  simp -implicitDefEqProofs(disch:=omega)only[go_sem,s0,s1,s4,s5,s6,s7,s8,s9,oj,gi,li]
  refine thenN_call (is_then U hj' ([sEq,sNe,sLt,sLe,sGt,sGe].getD i (0,0)) fun η4 x4=>?_)
  have oj4:η4.f (η.nx+1+1+1)=_:=(x4.2 _ (by omega)).trans oj
  have acc:=opAcc_s (L:=L) (p:=q) (ops:=[sEq,sNe,sLt,sLe,sGt,sGe]) hlt
  cases e:isP L ([sEq,sNe,sLt,sLe,sGt,sGe].getD i (0,0)) q with
  |true =>
   rw[e,if_pos rfl]at acc
   simp -implicitDefEqProofs(disch:=omega)only[go_sem,s0,s1,s4,s5,s6,s7,s8,s9,oj4,gi,li]
   exact⟨6-(i+1),by omega,(hJ _ _ _).2 ⟨i+1,rfl,by omega,⟨s0,s1,s4,s5,s6⟩,s7,by rw[acc];rfl,rfl,xj.trans (x4.mono xj.1)⟩⟩
  |false =>
   rw[e,if_neg (by decide)]at acc
   simp -implicitDefEqProofs(disch:=omega)only[go_sem,s0,s1,s4,s5,s6,s7,s8,s9]
   exact⟨6-(i+1),by omega,(hJ _ _ _).2 ⟨i+1,rfl,by omega,⟨s0,s1,s4,s5,s6⟩,s7,by rw[acc];exact s8,rfl,xj.trans (x4.mono xj.1)⟩⟩
 obtain rfl:i=6:=by omega
 have acc:opAcc L [sEq,sNe,sLt,sLe,sGt,sGe] q 6=(opF L [sEq,sNe,sLt,sLe,sGt,sGe] q).getD (0,0):=opAcc_all
 rw[acc]at s8
 have cj:ζ'.f η.nx=_:=(xj.2 _ (by omega)).trans cq
 have dj:ζ'.f η1.nx=_:=(xj.2 _ (by omega)).trans dq
 have rj:=rdE_b rq xj
 have lq:=rdE_len rq
 cases e:opF L [sEq,sNe,sLt,sLe,sGt,sGe] q with
 |none =>
  rw[e]at s8
  have s8:φ' 8=.str 0 0:=s8
  have e0':strEq 0 0 0 0=true:=rfl
  simp -implicitDefEqProofs(disch:=omega)only[go_sem,s0,s1,s4,s5,s6,s7,s8,s9,e0',cj,dj,lq]
  have wq':rowL L (rowF L G 2) [sEq,sNe,sLt,sLe,sGt,sGe] true m a q=(a,q):=by
   cases m with
   |zero=>rfl
   |succ m=>unfold rowL;rw[e]
  rw[wq']at wq
  rw[←wq]at k
  exact k _ _ (rdE_mono (rdE_put rj (fun q=>by have:=q.1;omega)) (fun b q=>⟨by have:=q.1;omega,by have:=q.2.1;show b<ζ'.nx;omega⟩)) (hj'.putc (by omega) (h.fresh (Nat.le_refl _))) ((Xq.of xj).putN (Nat.le_refl _))
 |some op =>
  rw[e]at s8
  have s8:φ' 8=.str op.1 op.2:=s8
  obtain⟨eo,ei⟩:=opF_some e
  have e0':strEq op.1 op.2 0 0=false:=by
   revert op
   simp only[List.mem_cons,List.not_mem_nil,or_false]
   rintro op - - - ho -
   rcases ho with rfl|rfl|rfl|rfl|rfl|rfl<;>rfl
  obtain⟨he,hkk,_⟩:=isP_kind ei
  have hlt:=hq.k
  obtain _|m:=m
  ·have:=fq he;omega
  simp -implicitDefEqProofs(disch:=omega)only[go_sem,s0,s1,s4,s5,s6,s7,s8,s9,e0']
  refine thenN_call (part_then U hj' fun η5 h5 x5=>?_)
  simp -implicitDefEqProofs(disch:=omega)only[go_sem,s0,s1,s4,s5,s6,s7,s8,s9]
  refine thenN_call (eat_then op U h5 fun η6 h6 x6=>?_)
  simp -implicitDefEqProofs(disch:=omega)only[go_sem,s0,s1,s4,s5,s6,s7,s8,s9]
  refine thenN_call (W η6 pb y _ _ h6 fun z8 η8 r8 h8 x8=>?_)
  have n5:=x5.1
  have n6:=x6.1
  have n8:=x8.1
  have X8:=(x5.trans x6).trans x8
  have c8:η8.f η.nx=_:=(X8.2 _ (by omega) (by omega)).trans cj
  have d8:η8.f η1.nx=_:=(X8.2 _ (by omega) (by omega)).trans dj
  have o8:η8.f (η.nx+1+1+1)=_:=(X8.2 _ (by omega) (by omega)).trans oj
  have v8:=rdE_x rj X8 (fun q=>by have:=q.1;omega)
  have l8:=rdE_len r8
  have b8:=h8.hn
  obtain⟨f1,f2,f3,f4,f5,rfl⟩:=rdE_cells rq
  obtain⟨g1,g2,g3,g4,g5,rfl⟩:=rdE_cells r8
  simp -implicitDefEqProofs(disch:=omega)only[go_sem,s0,s1,s4,s5,s6,s7,s8,s9,c8,d8,repL_s,repL_z,setsL_c]
  have T:rdE (fun b=>η0.nx≤b∧b<η8.nx+1+1∧b≠η1.nx) (((η8.new (.live false [.str g1.1 g1.2,.str g2.1 g2.2,.int .i64 g3,.int .i64 g4,g5])).new (.live false [.str f1.1 f1.2,.str f2.1 f2.2,.int .i64 f3,.int .i64 f4,f5,.str g1.1 g1.2,.str g2.1 g2.2,.int .i64 g3,.int .i64 g4,g5])).put η1.nx (.live false [.str op.1 op.2,.str 0 0,.int .i64 0,.int .i64 (wd L q).a,.slice (η8.nx+1) 0 2 (.kn 2)]))
    (.mk op (0,0) 0 (wd L q).a [a,(rowF L G 2 (eatP L op q)).1]) [.str op.1 op.2,.str 0 0,.int .i64 0,.int .i64 (wd L q).a,.slice (η8.nx+1) 0 2 (.kn 2)] :=
   rdE_fin2 (nm:=(0,0)) (c:=η1.nx) (pb:=pb) v8 r8 (fun b q=>⟨⟨q.1,by have:=q.2.1;omega,q.2.2⟩,by have:=q.1;omega,q.2.2⟩) (fun b q=>⟨⟨by have:=q.1;omega,by have:=q.2;omega,by have:=q.1;omega⟩,by have:=q.1;omega,by have:=q.1;omega⟩)
    (fun b q1 q2 q3=>by simp -implicitDefEqProofs(disch:=omega)only[go_sem]) (by show η8.nx≤η8.nx+1+1;omega) (by simp -implicitDefEqProofs(disch:=omega)only[go_sem]) (by show η8.nx+1<η8.nx+1+1;omega) ⟨by omega,by omega,by omega⟩
  have H:=(h8.new (z:=.live false [.str g1.1 g1.2,.str g2.1 g2.2,.int .i64 g3,.int .i64 g4,g5])).new (z:=.live false [.str f1.1 f1.2,.str f2.1 f2.2,.int .i64 f3,.int .i64 f4,f5,.str g1.1 g1.2,.str g2.1 g2.2,.int .i64 g3,.int .i64 g4,g5])
  have H:=H.putc (c:=η1.nx) (z:=.live false [.str op.1 op.2,.str 0 0,.int .i64 0,.int .i64 (wd L q).a,.slice (η8.nx+1) 0 2 (.kn 2)]) (by omega) (fun g=>h.fresh (c:=η1.nx) (by omega) g)
  have XX:=((((Xq.of xj).trans X8).new (y:=.live false [.str g1.1 g1.2,.str g2.1 g2.2,.int .i64 g3,.int .i64 g4,g5])).new (y:=.live false [.str f1.1 f1.2,.str f2.1 f2.2,.int .i64 f3,.int .i64 f4,f5,.str g1.1 g1.2,.str g2.1 g2.2,.int .i64 g3,.int .i64 g4,g5])).putN (c:=η1.nx) (y:=.live false [.str op.1 op.2,.str 0 0,.int .i64 0,.int .i64 (wd L q).a,.slice (η8.nx+1) 0 2 (.kn 2)]) (by omega)
  have wq':rowL L (rowF L G 2) [sEq,sNe,sLt,sLe,sGt,sGe] true (m+1) a q=(.mk op (0,0) 0 (wd L q).a [a,(rowF L G 2 (eatP L op q)).1],(rowF L G 2 (eatP L op q)).2):=by
   conv=>lhs;unfold rowL
   rw[e];rfl
  rw[wq']at wq
  rw[←wq]at k
  exact k _ _ (rdE_mono (rdE_put T (fun q=>by have:=q.1;omega)) (fun b q=>⟨by have:=q.1;omega,by have:=q.2.1;show b<η8.nx+1+1;omega⟩)) (H.putc (by omega) (h.fresh (Nat.le_refl _))) (XX.putN (Nat.le_refl _))
end Go.Proofs.YtdeejbnhlbddgaaGreatDoor
namespace Go.Proofs.YtdeejbnhlbddgaaGreatDoor
open Go.Eng Go.Plain
set_option autoImplicit false
set_option maxRecDepth 100000
variable {nat:∀ [Deep],Nats} {L:List Wd} {d:Nat} {G:Option Fns}
set_option maxHeartbeats 4000000 in
theorem row3_spec (U:Usual nat) (FL:FnsLe G) (W:RowSpec nat L d 4 (rowF L G 1)):RowSpec nat L d 3 (rowF L G 2):=by
 intro η pb y p Q h k
 refine call_of (PT:=pl113) Tryz.func113 rfl (U 113 (by decide)) ok113 rfl ?_
 have hn:=h.hn
 simp -implicitDefEqProofs(disch:=omega)only[go_sem]
 obtain⟨η0,e0,h0,c0,o0,n0,X0⟩:∃η0,η0=((((((η.new (.live false [.str 0 0,.str 0 0,.int .i64 0,.int .i64 0,.nilslice])).new (.live false [.str 2 29295,.str 3 7499640])).new (.live false [.str 3 6581857])).new (.live false [.str 1 61,.str 2 15932,.str 1 60,.str 2 15676,.str 1 62,.str 2 15678])).new (.live false [.str 1 43,.str 1 45])).new (.live false [.str 1 42,.str 1 47,.str 3 6582125])).new (.live false [.slice (η.nx+1) 0 2 (.kn 2),.slice (η.nx+1+1) 0 1 (.kn 1),.slice (η.nx+1+1+1) 0 6 (.kn 6),.slice (η.nx+1+1+1+1) 0 2 (.kn 2),.slice (η.nx+1+1+1+1+1) 0 3 (.kn 3)])∧PA η0 pb y L d p∧η0.f η.nx=.live false [.str 0 0,.str 0 0,.int .i64 0,.int .i64 0,.nilslice]∧η0.f (η.nx+1+1+1+1)=.live false ([sPlus,sMinus].map sV)∧η0.nx=η.nx+7∧ExtX pb η η0 :=
  ⟨_,rfl,h.new.new.new.new.new.new.new,by simp -implicitDefEqProofs(disch:=omega)only[go_sem],by simp -implicitDefEqProofs(disch:=omega)only[go_sem];rfl,rfl,((((((ExtX.refl pb η).new.new).new).new).new).new).new⟩
 rw[←e0]
 refine thenN_call (W η0 pb y p _ h0 fun z1 η1 r1 h1 x1=>?_)
 have l1:=rdE_len r1
 have n1:=x1.1
 have c1:=(x1.2 η.nx (by omega) (by omega)).trans c0
 have o1:=(x1.2 (η.nx+1+1+1+1) (by omega) (by omega)).trans o0
 simp -implicitDefEqProofs(disch:=omega)only[go_sem,l1]
 obtain⟨η2,e2,h2,c2,n2,X2,B2⟩:=cell_new (w:=.live false z1) h1
 rw[←e2]
 obtain⟨I,hI⟩:∃I:Nat→FN→HN→Prop,∀m φ ζ,I m φ ζ↔∃a z q,(φ 0=.ptr pb 0∧φ 1=.int .i64 3∧φ 4=.ptr η.nx 0∧φ 5=.slice (η.nx+1+1+1+1) 0 2 (.kn 2)∧φ 6=.ptr η1.nx 0)∧PA ζ pb y L d q ∧
   ζ.f η.nx=.live false [.str 0 0,.str 0 0,.int .i64 0,.int .i64 0,.nilslice]∧ζ.f η1.nx=.live false z∧ζ.f (η.nx+1+1+1+1)=.live false ([sPlus,sMinus].map sV)∧rdE (fun b=>η0.nx≤b∧b<ζ.nx∧b≠η1.nx) ζ a z∧η2.nx≤ζ.nx∧ExtX pb η ζ ∧
   rowL L (rowF L G 1) [sPlus,sMinus] false m a q=rowF L G 2 p∧(q.e=0→L.length≤q.k+m):=⟨_,fun _ _ _=>Iff.rfl⟩
 refine wpN_loop I L.length ((hI _ _ _).2 ⟨_,z1,_,⟨rfl,rfl,rfl,rfl,rfl⟩,h2,(B2.2 _ (by omega)).trans c1,c2,(B2.2 _ (by omega)).trans o1,rdE_keep (fun b _ hb=>B2.2 b hb) B2.1 (fun b q=>⟨q.1,by have:=q.2;omega,by have:=q.2;omega⟩) _ _ r1,Nat.le_refl _,(X0.trans x1).trans X2,rfl,fun _=>Nat.le_add_left _ _⟩) ?_
 intro m φ ζ hi
 obtain⟨a,z,q,⟨p0,p1,p4,p5,p6⟩,hq,cq,dq,oq,rq,nq,Xq,wq,fq⟩:=(hI _ _ _).1 hi
 have hqn:=hq.hn
 simp -implicitDefEqProofs(disch:=omega)only[go_sem,p0]
 refine thenN_call (w_then U hq fun η3 x3=>?_)
 have hc:(wd L q).cells=[.int .i64 (wd L q).k,.str (wd L q).t.1 (wd L q).t.2,.int .i64 (wd L q).n,.int .i64 (wd L q).a]:=rfl
 rw[hc]
 simp -implicitDefEqProofs(disch:=omega)only[go_sem,p0]
 obtain⟨J,hJ⟩:∃J:Nat→FN→HN→Prop,∀m φ ζ',J m φ ζ'↔∃i,m=2-i∧i≤2∧(φ 0=.ptr pb 0∧φ 1=.int .i64 3∧φ 4=.ptr η.nx 0∧φ 5=.slice (η.nx+1+1+1+1) 0 2 (.kn 2)∧φ 6=.ptr η1.nx 0) ∧
   φ 7=.int .i64 (wd L q).a∧φ 8=.str (opAcc L [sPlus,sMinus] q i).1 (opAcc L [sPlus,sMinus] q i).2∧φ 9=.int .i64 i∧ExtB ζ.nx ζ ζ':=⟨_,fun _ _ _=>Iff.rfl⟩
 refine wpN_loop J 2 ((hJ _ _ _).2 ⟨0,rfl,Nat.zero_le _,⟨p0,p1,p4,p5,p6⟩,rfl,rfl,rfl,x3⟩) ?_
 intro m' φ' ζ' hj
 obtain⟨i,hm',hi',⟨s0,s1,s4,s5,s6⟩,s7,s8,s9,xj⟩:=(hJ _ _ _).1 hj
 have hj':=hq.extB xj
 have nj:=xj.1
 have oj:ζ'.f (η.nx+1+1+1+1)=_:=(xj.2 _ (by omega)).trans oq
 by_cases hlt:i<2
 ·have gi:=strs_get [sPlus,sMinus] i hlt
  have li:([sPlus,sMinus].map sV).length=2:=rfl
  simp -implicitDefEqProofs(disch:=omega)only[go_sem,s0,s1,s4,s5,s6,s7,s8,s9,oj,gi,li]
  refine thenN_call (is_then U hj' ([sPlus,sMinus].getD i (0,0)) fun η4 x4=>?_)
  have oj4:η4.f (η.nx+1+1+1+1)=_:=(x4.2 _ (by omega)).trans oj
  have acc:=opAcc_s (L:=L) (p:=q) (ops:=[sPlus,sMinus]) hlt
  cases e:isP L ([sPlus,sMinus].getD i (0,0)) q with
  |true =>
   rw[e,if_pos rfl]at acc
   simp -implicitDefEqProofs(disch:=omega)only[go_sem,s0,s1,s4,s5,s6,s7,s8,s9,oj4,gi,li]
   exact⟨2-(i+1),by omega,(hJ _ _ _).2 ⟨i+1,rfl,by omega,⟨s0,s1,s4,s5,s6⟩,s7,by rw[acc];rfl,rfl,xj.trans (x4.mono xj.1)⟩⟩
  |false =>
   rw[e,if_neg (by decide)]at acc
   simp -implicitDefEqProofs(disch:=omega)only[go_sem,s0,s1,s4,s5,s6,s7,s8,s9]
   exact⟨2-(i+1),by omega,(hJ _ _ _).2 ⟨i+1,rfl,by omega,⟨s0,s1,s4,s5,s6⟩,s7,by rw[acc];exact s8,rfl,xj.trans (x4.mono xj.1)⟩⟩
 obtain rfl:i=2:=by omega
 have acc:opAcc L [sPlus,sMinus] q 2=(opF L [sPlus,sMinus] q).getD (0,0):=opAcc_all
 rw[acc]at s8
 have cj:ζ'.f η.nx=_:=(xj.2 _ (by omega)).trans cq
 have dj:ζ'.f η1.nx=_:=(xj.2 _ (by omega)).trans dq
 have rj:=rdE_b rq xj
 have lq:=rdE_len rq
 cases e:opF L [sPlus,sMinus] q with
 |none =>
  rw[e]at s8
  have s8:φ' 8=.str 0 0:=s8
  have e0':strEq 0 0 0 0=true:=rfl
  simp -implicitDefEqProofs(disch:=omega)only[go_sem,s0,s1,s4,s5,s6,s7,s8,s9,e0',cj,dj,lq]
  have wq':rowL L (rowF L G 1) [sPlus,sMinus] false m a q=(a,q):=by
   cases m with
   |zero=>rfl
   |succ m=>unfold rowL;rw[e]
  rw[wq']at wq
  rw[←wq]at k
  exact k _ _ (rdE_mono (rdE_put rj (fun q=>by have:=q.1;omega)) (fun b q=>⟨by have:=q.1;omega,by have:=q.2.1;show b<ζ'.nx;omega⟩)) (hj'.putc (by omega) (h.fresh (Nat.le_refl _))) ((Xq.of xj).putN (Nat.le_refl _))
 |some op =>
  rw[e]at s8
  have s8:φ' 8=.str op.1 op.2:=s8
  obtain⟨eo,ei⟩:=opF_some e
  have e0':strEq op.1 op.2 0 0=false:=by
   revert op
   simp only[List.mem_cons,List.not_mem_nil,or_false]
   rintro op - - - ho -
   rcases ho with rfl|rfl<;>rfl
  obtain⟨he,hkk,_⟩:=isP_kind ei
  have hlt:=hq.k
  obtain _|m:=m
  ·have:=fq he;omega
  simp -implicitDefEqProofs(disch:=omega)only[go_sem,s0,s1,s4,s5,s6,s7,s8,s9,e0']
  refine thenN_call (part_then U hj' fun η5 h5 x5=>?_)
  simp -implicitDefEqProofs(disch:=omega)only[go_sem,s0,s1,s4,s5,s6,s7,s8,s9]
  refine thenN_call (eat_then op U h5 fun η6 h6 x6=>?_)
  simp -implicitDefEqProofs(disch:=omega)only[go_sem,s0,s1,s4,s5,s6,s7,s8,s9]
  refine thenN_call (W η6 pb y _ _ h6 fun z8 η8 r8 h8 x8=>?_)
  have n5:=x5.1
  have n6:=x6.1
  have n8:=x8.1
  have X8:=(x5.trans x6).trans x8
  have c8:η8.f η.nx=_:=(X8.2 _ (by omega) (by omega)).trans cj
  have d8:η8.f η1.nx=_:=(X8.2 _ (by omega) (by omega)).trans dj
  have o8:η8.f (η.nx+1+1+1+1)=_:=(X8.2 _ (by omega) (by omega)).trans oj
  have v8:=rdE_x rj X8 (fun q=>by have:=q.1;omega)
  have l8:=rdE_len r8
  have b8:=h8.hn
  obtain⟨f1,f2,f3,f4,f5,rfl⟩:=rdE_cells rq
  obtain⟨g1,g2,g3,g4,g5,rfl⟩:=rdE_cells r8
  simp -implicitDefEqProofs(disch:=omega)only[go_sem,s0,s1,s4,s5,s6,s7,s8,s9,c8,d8,repL_s,repL_z,setsL_c]
  have T:rdE (fun b=>η0.nx≤b∧b<η8.nx+1+1∧b≠η1.nx) (((η8.new (.live false [.str g1.1 g1.2,.str g2.1 g2.2,.int .i64 g3,.int .i64 g4,g5])).new (.live false [.str f1.1 f1.2,.str f2.1 f2.2,.int .i64 f3,.int .i64 f4,f5,.str g1.1 g1.2,.str g2.1 g2.2,.int .i64 g3,.int .i64 g4,g5])).put η1.nx (.live false [.str op.1 op.2,.str 0 0,.int .i64 0,.int .i64 (wd L q).a,.slice (η8.nx+1) 0 2 (.kn 2)]))
    (.mk op (0,0) 0 (wd L q).a [a,(rowF L G 1 (eatP L op q)).1]) [.str op.1 op.2,.str 0 0,.int .i64 0,.int .i64 (wd L q).a,.slice (η8.nx+1) 0 2 (.kn 2)] :=
   rdE_fin2 (nm:=(0,0)) (c:=η1.nx) (pb:=pb) v8 r8 (fun b q=>⟨⟨q.1,by have:=q.2.1;omega,q.2.2⟩,by have:=q.1;omega,q.2.2⟩) (fun b q=>⟨⟨by have:=q.1;omega,by have:=q.2;omega,by have:=q.1;omega⟩,by have:=q.1;omega,by have:=q.1;omega⟩)
    (fun b q1 q2 q3=>by simp -implicitDefEqProofs(disch:=omega)only[go_sem]) (by show η8.nx≤η8.nx+1+1;omega) (by simp -implicitDefEqProofs(disch:=omega)only[go_sem]) (by show η8.nx+1<η8.nx+1+1;omega) ⟨by omega,by omega,by omega⟩
  have H:=(h8.new (z:=.live false [.str g1.1 g1.2,.str g2.1 g2.2,.int .i64 g3,.int .i64 g4,g5])).new (z:=.live false [.str f1.1 f1.2,.str f2.1 f2.2,.int .i64 f3,.int .i64 f4,f5,.str g1.1 g1.2,.str g2.1 g2.2,.int .i64 g3,.int .i64 g4,g5])
  have H:=H.putc (c:=η1.nx) (z:=.live false [.str op.1 op.2,.str 0 0,.int .i64 0,.int .i64 (wd L q).a,.slice (η8.nx+1) 0 2 (.kn 2)]) (by omega) (fun g=>h.fresh (c:=η1.nx) (by omega) g)
  have XX:=((((Xq.of xj).trans X8).new (y:=.live false [.str g1.1 g1.2,.str g2.1 g2.2,.int .i64 g3,.int .i64 g4,g5])).new (y:=.live false [.str f1.1 f1.2,.str f2.1 f2.2,.int .i64 f3,.int .i64 f4,f5,.str g1.1 g1.2,.str g2.1 g2.2,.int .i64 g3,.int .i64 g4,g5])).putN (c:=η1.nx) (y:=.live false [.str op.1 op.2,.str 0 0,.int .i64 0,.int .i64 (wd L q).a,.slice (η8.nx+1) 0 2 (.kn 2)]) (by omega)
  have wq':rowL L (rowF L G 1) [sPlus,sMinus] false m (.mk op (0,0) 0 (wd L q).a [a,(rowF L G 1 (eatP L op q)).1]) (rowF L G 1 (eatP L op q)).2=rowF L G 2 p:=by
   rw[←wq]
   conv=>rhs;unfold rowL
   rw[e];rfl
  refine⟨m,Nat.lt_succ_self _,(hI _ _ _).2 ⟨_,_,_,⟨s0,s1,s4,s5,s6⟩,H,?_,if_pos rfl,?_,T,?_,XX,wq',fun e'=>?_⟩⟩
  ·simp -implicitDefEqProofs(disch:=omega)only[go_sem,c8]
  ·simp -implicitDefEqProofs(disch:=omega)only[go_sem,o8]
  ·show η2.nx≤η8.nx+1+1;omega
  ·have w1:LeP (eatP L op q) (rowF L G 1 (eatP L op q)).2:=rowF_le FL _ _
   have w2:=w1 e'
   have w3:=eatP_k ei w2.1
   have:=fq he
   omega
end Go.Proofs.YtdeejbnhlbddgaaGreatDoor
namespace Go.Proofs.YtdeejbnhlbddgaaGreatDoor
open Go.Eng Go.Plain
set_option autoImplicit false
set_option maxRecDepth 100000
variable {nat:∀ [Deep],Nats} {L:List Wd} {d:Nat} {G:Option Fns}
set_option maxHeartbeats 4000000 in
theorem row4_spec (U:Usual nat) (FL:FnsLe G) (W:RowSpec nat L d 5 (rowF L G 0)):RowSpec nat L d 4 (rowF L G 1):=by
 intro η pb y p Q h k
 refine call_of (PT:=pl113) Tryz.func113 rfl (U 113 (by decide)) ok113 rfl ?_
 have hn:=h.hn
 simp -implicitDefEqProofs(disch:=omega)only[go_sem]
 obtain⟨η0,e0,h0,c0,o0,n0,X0⟩:∃η0,η0=((((((η.new (.live false [.str 0 0,.str 0 0,.int .i64 0,.int .i64 0,.nilslice])).new (.live false [.str 2 29295,.str 3 7499640])).new (.live false [.str 3 6581857])).new (.live false [.str 1 61,.str 2 15932,.str 1 60,.str 2 15676,.str 1 62,.str 2 15678])).new (.live false [.str 1 43,.str 1 45])).new (.live false [.str 1 42,.str 1 47,.str 3 6582125])).new (.live false [.slice (η.nx+1) 0 2 (.kn 2),.slice (η.nx+1+1) 0 1 (.kn 1),.slice (η.nx+1+1+1) 0 6 (.kn 6),.slice (η.nx+1+1+1+1) 0 2 (.kn 2),.slice (η.nx+1+1+1+1+1) 0 3 (.kn 3)])∧PA η0 pb y L d p∧η0.f η.nx=.live false [.str 0 0,.str 0 0,.int .i64 0,.int .i64 0,.nilslice]∧η0.f (η.nx+1+1+1+1+1)=.live false ([sTimes,sDiv,sMod].map sV)∧η0.nx=η.nx+7∧ExtX pb η η0 :=
  ⟨_,rfl,h.new.new.new.new.new.new.new,by simp -implicitDefEqProofs(disch:=omega)only[go_sem],by simp -implicitDefEqProofs(disch:=omega)only[go_sem];rfl,rfl,((((((ExtX.refl pb η).new.new).new).new).new).new).new⟩
 rw[←e0]
 refine thenN_call (W η0 pb y p _ h0 fun z1 η1 r1 h1 x1=>?_)
 have l1:=rdE_len r1
 have n1:=x1.1
 have c1:=(x1.2 η.nx (by omega) (by omega)).trans c0
 have o1:=(x1.2 (η.nx+1+1+1+1+1) (by omega) (by omega)).trans o0
 simp -implicitDefEqProofs(disch:=omega)only[go_sem,l1]
 obtain⟨η2,e2,h2,c2,n2,X2,B2⟩:=cell_new (w:=.live false z1) h1
 rw[←e2]
 obtain⟨I,hI⟩:∃I:Nat→FN→HN→Prop,∀m φ ζ,I m φ ζ↔∃a z q,(φ 0=.ptr pb 0∧φ 1=.int .i64 4∧φ 4=.ptr η.nx 0∧φ 5=.slice (η.nx+1+1+1+1+1) 0 3 (.kn 3)∧φ 6=.ptr η1.nx 0)∧PA ζ pb y L d q ∧
   ζ.f η.nx=.live false [.str 0 0,.str 0 0,.int .i64 0,.int .i64 0,.nilslice]∧ζ.f η1.nx=.live false z∧ζ.f (η.nx+1+1+1+1+1)=.live false ([sTimes,sDiv,sMod].map sV)∧rdE (fun b=>η0.nx≤b∧b<ζ.nx∧b≠η1.nx) ζ a z∧η2.nx≤ζ.nx∧ExtX pb η ζ ∧
   rowL L (rowF L G 0) [sTimes,sDiv,sMod] false m a q=rowF L G 1 p∧(q.e=0→L.length≤q.k+m):=⟨_,fun _ _ _=>Iff.rfl⟩
 refine wpN_loop I L.length ((hI _ _ _).2 ⟨_,z1,_,⟨rfl,rfl,rfl,rfl,rfl⟩,h2,(B2.2 _ (by omega)).trans c1,c2,(B2.2 _ (by omega)).trans o1,rdE_keep (fun b _ hb=>B2.2 b hb) B2.1 (fun b q=>⟨q.1,by have:=q.2;omega,by have:=q.2;omega⟩) _ _ r1,Nat.le_refl _,(X0.trans x1).trans X2,rfl,fun _=>Nat.le_add_left _ _⟩) ?_
 intro m φ ζ hi
 obtain⟨a,z,q,⟨p0,p1,p4,p5,p6⟩,hq,cq,dq,oq,rq,nq,Xq,wq,fq⟩:=(hI _ _ _).1 hi
 have hqn:=hq.hn
 simp -implicitDefEqProofs(disch:=omega)only[go_sem,p0]
 refine thenN_call (w_then U hq fun η3 x3=>?_)
 have hc:(wd L q).cells=[.int .i64 (wd L q).k,.str (wd L q).t.1 (wd L q).t.2,.int .i64 (wd L q).n,.int .i64 (wd L q).a]:=rfl
 rw[hc]
 simp -implicitDefEqProofs(disch:=omega)only[go_sem,p0]
 obtain⟨J,hJ⟩:∃J:Nat→FN→HN→Prop,∀m φ ζ',J m φ ζ'↔∃i,m=3-i∧i≤3∧(φ 0=.ptr pb 0∧φ 1=.int .i64 4∧φ 4=.ptr η.nx 0∧φ 5=.slice (η.nx+1+1+1+1+1) 0 3 (.kn 3)∧φ 6=.ptr η1.nx 0) ∧
   φ 7=.int .i64 (wd L q).a∧φ 8=.str (opAcc L [sTimes,sDiv,sMod] q i).1 (opAcc L [sTimes,sDiv,sMod] q i).2∧φ 9=.int .i64 i∧ExtB ζ.nx ζ ζ':=⟨_,fun _ _ _=>Iff.rfl⟩
 refine wpN_loop J 3 ((hJ _ _ _).2 ⟨0,rfl,Nat.zero_le _,⟨p0,p1,p4,p5,p6⟩,rfl,rfl,rfl,x3⟩) ?_
 intro m' φ' ζ' hj
 obtain⟨i,hm',hi',⟨s0,s1,s4,s5,s6⟩,s7,s8,s9,xj⟩:=(hJ _ _ _).1 hj
 have hj':=hq.extB xj
 have nj:=xj.1
 have oj:ζ'.f (η.nx+1+1+1+1+1)=_:=(xj.2 _ (by omega)).trans oq
 by_cases hlt:i<3
 ·have gi:=strs_get [sTimes,sDiv,sMod] i hlt
  have li:([sTimes,sDiv,sMod].map sV).length=3:=rfl
  simp -implicitDefEqProofs(disch:=omega)only[go_sem,s0,s1,s4,s5,s6,s7,s8,s9,oj,gi,li]
  refine thenN_call (is_then U hj' ([sTimes,sDiv,sMod].getD i (0,0)) fun η4 x4=>?_)
  have oj4:η4.f (η.nx+1+1+1+1+1)=_:=(x4.2 _ (by omega)).trans oj
  have acc:=opAcc_s (L:=L) (p:=q) (ops:=[sTimes,sDiv,sMod]) hlt
  cases e:isP L ([sTimes,sDiv,sMod].getD i (0,0)) q with
  |true =>
   rw[e,if_pos rfl]at acc
   simp -implicitDefEqProofs(disch:=omega)only[go_sem,s0,s1,s4,s5,s6,s7,s8,s9,oj4,gi,li]
   exact⟨3-(i+1),by omega,(hJ _ _ _).2 ⟨i+1,rfl,by omega,⟨s0,s1,s4,s5,s6⟩,s7,by rw[acc];rfl,rfl,xj.trans (x4.mono xj.1)⟩⟩
  |false =>
   rw[e,if_neg (by decide)]at acc
   simp -implicitDefEqProofs(disch:=omega)only[go_sem,s0,s1,s4,s5,s6,s7,s8,s9]
   exact⟨3-(i+1),by omega,(hJ _ _ _).2 ⟨i+1,rfl,by omega,⟨s0,s1,s4,s5,s6⟩,s7,by rw[acc];exact s8,rfl,xj.trans (x4.mono xj.1)⟩⟩
 obtain rfl:i=3:=by omega
 have acc:opAcc L [sTimes,sDiv,sMod] q 3=(opF L [sTimes,sDiv,sMod] q).getD (0,0):=opAcc_all
 rw[acc]at s8
 have cj:ζ'.f η.nx=_:=(xj.2 _ (by omega)).trans cq
 have dj:ζ'.f η1.nx=_:=(xj.2 _ (by omega)).trans dq
 have rj:=rdE_b rq xj
 have lq:=rdE_len rq
 cases e:opF L [sTimes,sDiv,sMod] q with
 |none =>
  rw[e]at s8
  have s8:φ' 8=.str 0 0:=s8
  have e0':strEq 0 0 0 0=true:=rfl
  simp -implicitDefEqProofs(disch:=omega)only[go_sem,s0,s1,s4,s5,s6,s7,s8,s9,e0',cj,dj,lq]
  have wq':rowL L (rowF L G 0) [sTimes,sDiv,sMod] false m a q=(a,q):=by
   cases m with
   |zero=>rfl
   |succ m=>unfold rowL;rw[e]
  rw[wq']at wq
  rw[←wq]at k
  exact k _ _ (rdE_mono (rdE_put rj (fun q=>by have:=q.1;omega)) (fun b q=>⟨by have:=q.1;omega,by have:=q.2.1;show b<ζ'.nx;omega⟩)) (hj'.putc (by omega) (h.fresh (Nat.le_refl _))) ((Xq.of xj).putN (Nat.le_refl _))
 |some op =>
  rw[e]at s8
  have s8:φ' 8=.str op.1 op.2:=s8
  obtain⟨eo,ei⟩:=opF_some e
  have e0':strEq op.1 op.2 0 0=false:=by
   revert op
   simp only[List.mem_cons,List.not_mem_nil,or_false]
   rintro op - - - ho -
   rcases ho with rfl|rfl|rfl<;>rfl
  obtain⟨he,hkk,_⟩:=isP_kind ei
  have hlt:=hq.k
  obtain _|m:=m
  ·have:=fq he;omega
  simp -implicitDefEqProofs(disch:=omega)only[go_sem,s0,s1,s4,s5,s6,s7,s8,s9,e0']
  refine thenN_call (part_then U hj' fun η5 h5 x5=>?_)
  simp -implicitDefEqProofs(disch:=omega)only[go_sem,s0,s1,s4,s5,s6,s7,s8,s9]
  refine thenN_call (eat_then op U h5 fun η6 h6 x6=>?_)
  simp -implicitDefEqProofs(disch:=omega)only[go_sem,s0,s1,s4,s5,s6,s7,s8,s9]
  refine thenN_call (W η6 pb y _ _ h6 fun z8 η8 r8 h8 x8=>?_)
  have n5:=x5.1
  have n6:=x6.1
  have n8:=x8.1
  have X8:=(x5.trans x6).trans x8
  have c8:η8.f η.nx=_:=(X8.2 _ (by omega) (by omega)).trans cj
  have d8:η8.f η1.nx=_:=(X8.2 _ (by omega) (by omega)).trans dj
  have o8:η8.f (η.nx+1+1+1+1+1)=_:=(X8.2 _ (by omega) (by omega)).trans oj
  have v8:=rdE_x rj X8 (fun q=>by have:=q.1;omega)
  have l8:=rdE_len r8
  have b8:=h8.hn
  obtain⟨f1,f2,f3,f4,f5,rfl⟩:=rdE_cells rq
  obtain⟨g1,g2,g3,g4,g5,rfl⟩:=rdE_cells r8
  simp -implicitDefEqProofs(disch:=omega)only[go_sem,s0,s1,s4,s5,s6,s7,s8,s9,c8,d8,repL_s,repL_z,setsL_c]
  have T:rdE (fun b=>η0.nx≤b∧b<η8.nx+1+1∧b≠η1.nx) (((η8.new (.live false [.str g1.1 g1.2,.str g2.1 g2.2,.int .i64 g3,.int .i64 g4,g5])).new (.live false [.str f1.1 f1.2,.str f2.1 f2.2,.int .i64 f3,.int .i64 f4,f5,.str g1.1 g1.2,.str g2.1 g2.2,.int .i64 g3,.int .i64 g4,g5])).put η1.nx (.live false [.str op.1 op.2,.str 0 0,.int .i64 0,.int .i64 (wd L q).a,.slice (η8.nx+1) 0 2 (.kn 2)]))
    (.mk op (0,0) 0 (wd L q).a [a,(rowF L G 0 (eatP L op q)).1]) [.str op.1 op.2,.str 0 0,.int .i64 0,.int .i64 (wd L q).a,.slice (η8.nx+1) 0 2 (.kn 2)] :=
   rdE_fin2 (nm:=(0,0)) (c:=η1.nx) (pb:=pb) v8 r8 (fun b q=>⟨⟨q.1,by have:=q.2.1;omega,q.2.2⟩,by have:=q.1;omega,q.2.2⟩) (fun b q=>⟨⟨by have:=q.1;omega,by have:=q.2;omega,by have:=q.1;omega⟩,by have:=q.1;omega,by have:=q.1;omega⟩)
    (fun b q1 q2 q3=>by simp -implicitDefEqProofs(disch:=omega)only[go_sem]) (by show η8.nx≤η8.nx+1+1;omega) (by simp -implicitDefEqProofs(disch:=omega)only[go_sem]) (by show η8.nx+1<η8.nx+1+1;omega) ⟨by omega,by omega,by omega⟩
  have H:=(h8.new (z:=.live false [.str g1.1 g1.2,.str g2.1 g2.2,.int .i64 g3,.int .i64 g4,g5])).new (z:=.live false [.str f1.1 f1.2,.str f2.1 f2.2,.int .i64 f3,.int .i64 f4,f5,.str g1.1 g1.2,.str g2.1 g2.2,.int .i64 g3,.int .i64 g4,g5])
  have H:=H.putc (c:=η1.nx) (z:=.live false [.str op.1 op.2,.str 0 0,.int .i64 0,.int .i64 (wd L q).a,.slice (η8.nx+1) 0 2 (.kn 2)]) (by omega) (fun g=>h.fresh (c:=η1.nx) (by omega) g)
  have XX:=((((Xq.of xj).trans X8).new (y:=.live false [.str g1.1 g1.2,.str g2.1 g2.2,.int .i64 g3,.int .i64 g4,g5])).new (y:=.live false [.str f1.1 f1.2,.str f2.1 f2.2,.int .i64 f3,.int .i64 f4,f5,.str g1.1 g1.2,.str g2.1 g2.2,.int .i64 g3,.int .i64 g4,g5])).putN (c:=η1.nx) (y:=.live false [.str op.1 op.2,.str 0 0,.int .i64 0,.int .i64 (wd L q).a,.slice (η8.nx+1) 0 2 (.kn 2)]) (by omega)
  have wq':rowL L (rowF L G 0) [sTimes,sDiv,sMod] false m (.mk op (0,0) 0 (wd L q).a [a,(rowF L G 0 (eatP L op q)).1]) (rowF L G 0 (eatP L op q)).2=rowF L G 1 p:=by
   rw[←wq]
   conv=>rhs;unfold rowL
   rw[e];rfl
  refine⟨m,Nat.lt_succ_self _,(hI _ _ _).2 ⟨_,_,_,⟨s0,s1,s4,s5,s6⟩,H,?_,if_pos rfl,?_,T,?_,XX,wq',fun e'=>?_⟩⟩
  ·simp -implicitDefEqProofs(disch:=omega)only[go_sem,c8]
  ·simp -implicitDefEqProofs(disch:=omega)only[go_sem,o8]
  ·show η2.nx≤η8.nx+1+1;omega
  ·have w1:LeP (eatP L op q) (rowF L G 0 (eatP L op q)).2:=rowF_le FL _ _
   have w2:=w1 e'
   have w3:=eatP_k ei w2.1
   have:=fq he
   omega
end Go.Proofs.YtdeejbnhlbddgaaGreatDoor
namespace Go.Proofs.YtdeejbnhlbddgaaGreatDoor
open Go.Eng Go.Plain
set_option autoImplicit false
set_option maxRecDepth 100000
variable {nat:∀ [Deep],Nats} {L:List Wd} {d:Nat} {G:Option Fns}
set_option maxHeartbeats 4000000 in
theorem row5_spec (U:Usual nat) (W:FnSpec nat 121 L d (fbyF L G)):RowSpec nat L d 5 (rowF L G 0):=by
 intro η pb y p Q h k
 refine call_of (PT:=pl113) Tryz.func113 rfl (U 113 (by decide)) ok113 rfl ?_
 have hn:=h.hn
 simp -implicitDefEqProofs(disch:=omega)only[go_sem]
 obtain⟨η0,e0,h0,c0,n0,X0,B0⟩:=cell_new (w:=.live false [.str 0 0,.str 0 0,.int .i64 0,.int .i64 0,.nilslice]) h
 rw[←e0]
 refine thenN_call (W η0 pb y p _ h0 fun z1 η1 r1 h1 x1=>?_)
 have l1:=rdE_len r1
 have n1:=x1.1
 have c1:=(x1.2 η.nx (by omega) (by omega)).trans c0
 simp -implicitDefEqProofs(disch:=omega)only[go_sem,l1,c1]
 exact k _ _ (rdE_mono (rdE_put r1 (fun q=>by have:=q.1;omega)) (fun b q=>⟨by have:=q.1;omega,q.2⟩)) (h1.putc (by omega) (h.fresh (Nat.le_refl _))) ((X0.trans x1).putN (Nat.le_refl _))
theorem lvl_ok (U:Usual nat):∀m:Nat,m≤30→DeepOK nat L (lvl L m) (30-m)
 |0,_=>rfl
 |m+1,hm=>by
  have D:=lvl_ok U m (by omega)
  have FL:=lvl_le (L:=L) m
  have P:=prim_spec U FL D (expr_spec U D) (inner_spec U D)
  have V:=un_spec U D P
  have B:=fby_spec U D (when_spec U D V)
  have A:=arrow_spec U D (row0_spec U FL (row1_spec U FL (row2_spec U (row3_spec U FL (row4_spec U FL (row5_spec U B))))))
  have e:30-m=30-(m+1)+1:=by omega
  rw[e]at A B V P
  exact⟨by omega,A,B,V,P⟩
theorem top_spec (U:Usual nat):FnSpec nat 69 L 0 (exprF L (lvl L 30)):=expr_spec U (lvl_ok U 30 (Nat.le_refl _))
end Go.Proofs.YtdeejbnhlbddgaaGreatDoor
