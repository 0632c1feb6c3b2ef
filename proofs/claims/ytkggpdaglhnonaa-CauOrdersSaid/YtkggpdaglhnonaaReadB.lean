/- What is proved: what the reader of operators of level 0 does. what the reader of operators of level 1 does. what the reader of operators of level 2 does. what the reader of operators of level 3 does. what the reader of operators of level 4 does. the reader of an expression does as told, at every depth. Conditions: as each theorem says. -/
import Derived.Test.YtkggpdaglhnonaaReadA
import Derived.Test.YtkggpdaglhnonaaPlain
set_option linter.unusedVariables false
set_option linter.unusedSimpArgs false
set_option linter.unusedSectionVars false
namespace Go.Proofs.Ytkggpdaglhnonaa
open Go.Eng Go.Plain
set_option autoImplicit false
set_option maxRecDepth 100000
variable {nat:∀ [Deep],Nats} {L:List Wd} {d:Nat} {G:Option Fns}
set_option maxHeartbeats 4000000 in
theorem zqu (U:Usual nat) (FL:zfa G) (W:zcZ nat L d 1 (zb2 L G 4)):zcZ nat L d 0 (zb2 L G 5):=by
 intro η pb y p Q h k
 refine zam (PT:=zlo) Try.func139 rfl (U 139 (by decide)) zoZ rfl ?_
 have hn:=h.hn
 simp -implicitDefEqProofs(disch:=omega)only[go_sem]
 obtain⟨η0,e0,h0,c0,o0,n0,X0⟩:∃η0,η0=((((((η.new (.live false [.str 0 0,.str 0 0,.int .i64 0,.int .i64 0,.nilslice])).new (.live false [.str 2 29295,.str 3 7499640])).new (.live false [.str 3 6581857])).new (.live false [.str 1 61,.str 2 15932,.str 1 60,.str 2 15676,.str 1 62,.str 2 15678])).new (.live false [.str 1 43,.str 1 45])).new (.live false [.str 1 42,.str 1 47,.str 3 6582125])).new (.live false [.slice (η.nx+1) 0 2 (.kn 2),.slice (η.nx+1+1) 0 1 (.kn 1),.slice (η.nx+1+1+1) 0 6 (.kn 6),.slice (η.nx+1+1+1+1) 0 2 (.kn 2),.slice (η.nx+1+1+1+1+1) 0 3 (.kn 3)])∧PA η0 pb y L d p∧η0.f η.nx=.live false [.str 0 0,.str 0 0,.int .i64 0,.int .i64 0,.nilslice]∧η0.f (η.nx+1)=.live false ([sOr,ziS].map sV)∧η0.nx=η.nx+7∧zaD pb η η0 :=
  ⟨_,rfl,h.new.new.new.new.new.new.new,by simp -implicitDefEqProofs(disch:=omega)only[go_sem],by simp -implicitDefEqProofs(disch:=omega)only[go_sem];rfl,rfl,((((((zaD.refl pb η).new.new).new).new).new).new).new⟩
 rw[←e0]
 refine zaa (W η0 pb y p _ h0 fun z1 η1 r1 h1 x1=>?_)
 have l1:=zaI r1
 have n1:=x1.1
 have c1:=(x1.2 η.nx (by omega) (by omega)).trans c0
 have o1:=(x1.2 (η.nx+1) (by omega) (by omega)).trans o0
 simp -implicitDefEqProofs(disch:=omega)only[go_sem,l1]
 obtain⟨η2,e2,h2,c2,n2,X2,B2⟩:=zaV (w:=.live false z1) h1
 rw[←e2]
 obtain⟨I,hI⟩:∃I:Nat→FN→HN→Prop,∀m φ ζ,I m φ ζ↔∃a z q,(φ 0=.ptr pb 0∧φ 1=.int .i64 0∧φ 4=.ptr η.nx 0∧φ 5=.slice (η.nx+1) 0 2 (.kn 2)∧φ 6=.ptr η1.nx 0)∧PA ζ pb y L d q ∧
   ζ.f η.nx=.live false [.str 0 0,.str 0 0,.int .i64 0,.int .i64 0,.nilslice]∧ζ.f η1.nx=.live false z∧ζ.f (η.nx+1)=.live false ([sOr,ziS].map sV)∧rdE (fun b=>η0.nx≤b∧b<ζ.nx∧b≠η1.nx) ζ a z∧η2.nx≤ζ.nx∧zaD pb η ζ ∧
   zff L (zb2 L G 4) [sOr,ziS] false m a q=zb2 L G 5 p∧(q.e=0→L.length≤q.k+m):=⟨_,fun _ _ _=>Iff.rfl⟩
 refine zaf I L.length ((hI _ _ _).2 ⟨_,z1,_,⟨rfl,rfl,rfl,rfl,rfl⟩,h2,(B2.2 _ (by omega)).trans c1,c2,(B2.2 _ (by omega)).trans o1,zaM (fun b _ hb=>B2.2 b hb) B2.1 (fun b q=>⟨q.1,by have:=q.2;omega,by have:=q.2;omega⟩) _ _ r1,Nat.le_refl _,(X0.trans x1).trans X2,rfl,fun _=>Nat.le_add_left _ _⟩) ?_
 intro m φ ζ hi
 obtain⟨a,z,q,⟨p0,p1,p4,p5,p6⟩,hq,cq,dq,oq,rq,nq,Xq,wq,fq⟩:=(hI _ _ _).1 hi
 have hqn:=hq.hn
 simp -implicitDefEqProofs(disch:=omega)only[go_sem,p0]
 refine zaa (zb0 U hq fun η3 x3=>?_)
 have hc:(wd L q).cells=[.int .i64 (wd L q).k,.str (wd L q).t.1 (wd L q).t.2,.int .i64 (wd L q).n,.int .i64 (wd L q).a]:=rfl
 rw[hc]
 simp -implicitDefEqProofs(disch:=omega)only[go_sem,p0]
 obtain⟨J,hJ⟩:∃J:Nat→FN→HN→Prop,∀m φ ζ',J m φ ζ'↔∃i,m=2-i∧i≤2∧(φ 0=.ptr pb 0∧φ 1=.int .i64 0∧φ 4=.ptr η.nx 0∧φ 5=.slice (η.nx+1) 0 2 (.kn 2)∧φ 6=.ptr η1.nx 0) ∧
   φ 7=.int .i64 (wd L q).a∧φ 8=.str (zd2 L [sOr,ziS] q i).1 (zd2 L [sOr,ziS] q i).2∧φ 9=.int .i64 i∧zaw ζ.nx ζ ζ':=⟨_,fun _ _ _=>Iff.rfl⟩
 refine zaf J 2 ((hJ _ _ _).2 ⟨0,rfl,Nat.zero_le _,⟨p0,p1,p4,p5,p6⟩,rfl,rfl,rfl,x3⟩) ?_
 intro m' φ' ζ' hj
 obtain⟨i,hm',hi',⟨s0,s1,s4,s5,s6⟩,s7,s8,s9,xj⟩:=(hJ _ _ _).1 hj
 have hj':=hq.extB xj
 have nj:=xj.1
 have oj:ζ'.f (η.nx+1)=_:=(xj.2 _ (by omega)).trans oq
 by_cases hlt:i<2
 ·have gi:=zdv [sOr,ziS] i hlt
  have li:([sOr,ziS].map sV).length=2:=rfl
  simp -implicitDefEqProofs(disch:=omega)only[go_sem,s0,s1,s4,s5,s6,s7,s8,s9,oj,gi,li]
  refine zaa (zbs U hj' ([sOr,ziS].getD i (0,0)) fun η4 x4=>?_)
  have oj4:η4.f (η.nx+1)=_:=(x4.2 _ (by omega)).trans oj
  have acc:=zh0 (L:=L) (p:=q) (ops:=[sOr,ziS]) hlt
  cases e:isP L ([sOr,ziS].getD i (0,0)) q with
  |true =>
   rw[e,if_pos rfl]at acc
   simp -implicitDefEqProofs(disch:=omega)only[go_sem,s0,s1,s4,s5,s6,s7,s8,s9,oj4,gi,li]
   exact⟨2-(i+1),by omega,(hJ _ _ _).2 ⟨i+1,rfl,by omega,⟨s0,s1,s4,s5,s6⟩,s7,by rw[acc];rfl,rfl,xj.trans (x4.mono xj.1)⟩⟩
  |false =>
   rw[e,if_neg (by decide)]at acc
   simp -implicitDefEqProofs(disch:=omega)only[go_sem,s0,s1,s4,s5,s6,s7,s8,s9]
   exact⟨2-(i+1),by omega,(hJ _ _ _).2 ⟨i+1,rfl,by omega,⟨s0,s1,s4,s5,s6⟩,s7,by rw[acc];exact s8,rfl,xj.trans (x4.mono xj.1)⟩⟩
 obtain rfl:i=2:=by omega
 have acc:zd2 L [sOr,ziS] q 2=(opF L [sOr,ziS] q).getD (0,0):=zeR
 rw[acc]at s8
 have cj:ζ'.f η.nx=_:=(xj.2 _ (by omega)).trans cq
 have dj:ζ'.f η1.nx=_:=(xj.2 _ (by omega)).trans dq
 have rj:=zhR rq xj
 have lq:=zaI rq
 cases e:opF L [sOr,ziS] q with
 |none =>
  rw[e]at s8
  have s8:φ' 8=.str 0 0:=s8
  have e0':zaC 0 0 0 0=true:=rfl
  simp -implicitDefEqProofs(disch:=omega)only[go_sem,s0,s1,s4,s5,s6,s7,s8,s9,e0',cj,dj,lq]
  have wq':zff L (zb2 L G 4) [sOr,ziS] false m a q=(a,q):=by
   cases m with
   |zero=>rfl
   |succ m=>unfold zff;rw[e]
  rw[wq']at wq
  rw[←wq]at k
  exact k _ _ (zbv (zbJ rj (fun q=>by have:=q.1;omega)) (fun b q=>⟨by have:=q.1;omega,by have:=q.2.1;show b<ζ'.nx;omega⟩)) (hj'.putc (by omega) (h.fresh (Nat.le_refl _))) ((Xq.of xj).putN (Nat.le_refl _))
 |some op =>
  rw[e]at s8
  have s8:φ' 8=.str op.1 op.2:=s8
  obtain⟨eo,ei⟩:=zfk e
  have e0':zaC op.1 op.2 0 0=false:=by
   revert op
   simp only[List.mem_cons,List.not_mem_nil,or_false]
   rintro op - - - ho -
   rcases ho with rfl|rfl<;>rfl
  obtain⟨he,hkk,_⟩:=zbW ei
  have hlt:=hq.k
  obtain _|m:=m
  ·have:=fq he;omega
  simp -implicitDefEqProofs(disch:=omega)only[go_sem,s0,s1,s4,s5,s6,s7,s8,s9,e0']
  refine zaa (za7 U hj' fun η5 h5 x5=>?_)
  simp -implicitDefEqProofs(disch:=omega)only[go_sem,s0,s1,s4,s5,s6,s7,s8,s9]
  refine zaa (zdG op U h5 fun η6 h6 x6=>?_)
  simp -implicitDefEqProofs(disch:=omega)only[go_sem,s0,s1,s4,s5,s6,s7,s8,s9]
  refine zaa (W η6 pb y _ _ h6 fun z8 η8 r8 h8 x8=>?_)
  have n5:=x5.1
  have n6:=x6.1
  have n8:=x8.1
  have X8:=(x5.trans x6).trans x8
  have c8:η8.f η.nx=_:=(X8.2 _ (by omega) (by omega)).trans cj
  have d8:η8.f η1.nx=_:=(X8.2 _ (by omega) (by omega)).trans dj
  have o8:η8.f (η.nx+1)=_:=(X8.2 _ (by omega) (by omega)).trans oj
  have v8:=zey rj X8 (fun q=>by have:=q.1;omega)
  have l8:=zaI r8
  have b8:=h8.hn
  obtain⟨f1,f2,f3,f4,f5,rfl⟩:=zaq rq
  obtain⟨g1,g2,g3,g4,g5,rfl⟩:=zaq r8
  simp -implicitDefEqProofs(disch:=omega)only[go_sem,s0,s1,s4,s5,s6,s7,s8,s9,c8,d8,zas,zar,zal]
  have T:rdE (fun b=>η0.nx≤b∧b<η8.nx+1+1∧b≠η1.nx) (((η8.new (.live false [.str g1.1 g1.2,.str g2.1 g2.2,.int .i64 g3,.int .i64 g4,g5])).new (.live false [.str f1.1 f1.2,.str f2.1 f2.2,.int .i64 f3,.int .i64 f4,f5,.str g1.1 g1.2,.str g2.1 g2.2,.int .i64 g3,.int .i64 g4,g5])).put η1.nx (.live false [.str op.1 op.2,.str 0 0,.int .i64 0,.int .i64 (wd L q).a,.slice (η8.nx+1) 0 2 (.kn 2)]))
    (.mk op (0,0) 0 (wd L q).a [a,(zb2 L G 4 (zdH L op q)).1]) [.str op.1 op.2,.str 0 0,.int .i64 0,.int .i64 (wd L q).a,.slice (η8.nx+1) 0 2 (.kn 2)] :=
   zdz (nm:=(0,0)) (c:=η1.nx) (pb:=pb) v8 r8 (fun b q=>⟨⟨q.1,by have:=q.2.1;omega,q.2.2⟩,by have:=q.1;omega,q.2.2⟩) (fun b q=>⟨⟨by have:=q.1;omega,by have:=q.2;omega,by have:=q.1;omega⟩,by have:=q.1;omega,by have:=q.1;omega⟩)
    (fun b q1 q2 q3=>by simp -implicitDefEqProofs(disch:=omega)only[go_sem]) (by show η8.nx≤η8.nx+1+1;omega) (by simp -implicitDefEqProofs(disch:=omega)only[go_sem]) (by show η8.nx+1<η8.nx+1+1;omega) ⟨by omega,by omega,by omega⟩
  have H:=(h8.new (z:=.live false [.str g1.1 g1.2,.str g2.1 g2.2,.int .i64 g3,.int .i64 g4,g5])).new (z:=.live false [.str f1.1 f1.2,.str f2.1 f2.2,.int .i64 f3,.int .i64 f4,f5,.str g1.1 g1.2,.str g2.1 g2.2,.int .i64 g3,.int .i64 g4,g5])
  have H:=H.putc (c:=η1.nx) (z:=.live false [.str op.1 op.2,.str 0 0,.int .i64 0,.int .i64 (wd L q).a,.slice (η8.nx+1) 0 2 (.kn 2)]) (by omega) (fun g=>h.fresh (c:=η1.nx) (by omega) g)
  have XX:=((((Xq.of xj).trans X8).new (y:=.live false [.str g1.1 g1.2,.str g2.1 g2.2,.int .i64 g3,.int .i64 g4,g5])).new (y:=.live false [.str f1.1 f1.2,.str f2.1 f2.2,.int .i64 f3,.int .i64 f4,f5,.str g1.1 g1.2,.str g2.1 g2.2,.int .i64 g3,.int .i64 g4,g5])).putN (c:=η1.nx) (y:=.live false [.str op.1 op.2,.str 0 0,.int .i64 0,.int .i64 (wd L q).a,.slice (η8.nx+1) 0 2 (.kn 2)]) (by omega)
  have wq':zff L (zb2 L G 4) [sOr,ziS] false m (.mk op (0,0) 0 (wd L q).a [a,(zb2 L G 4 (zdH L op q)).1]) (zb2 L G 4 (zdH L op q)).2=zb2 L G 5 p:=by
   rw[←wq]
   conv=>rhs;unfold zff
   rw[e];rfl
  refine⟨m,Nat.lt_succ_self _,(hI _ _ _).2 ⟨_,_,_,⟨s0,s1,s4,s5,s6⟩,H,?_,if_pos rfl,?_,T,?_,XX,wq',fun e'=>?_⟩⟩
  ·simp -implicitDefEqProofs(disch:=omega)only[go_sem,c8]
  ·simp -implicitDefEqProofs(disch:=omega)only[go_sem,o8]
  ·show η2.nx≤η8.nx+1+1;omega
  ·have w1:LeP (zdH L op q) (zb2 L G 4 (zdH L op q)).2:=zeN FL _ _
   have w2:=w1 e'
   have w3:=zlX ei w2.1
   have:=fq he
   omega
end Go.Proofs.Ytkggpdaglhnonaa
namespace Go.Proofs.Ytkggpdaglhnonaa
open Go.Eng Go.Plain
set_option autoImplicit false
set_option maxRecDepth 100000
variable {nat:∀ [Deep],Nats} {L:List Wd} {d:Nat} {G:Option Fns}
set_option maxHeartbeats 4000000 in
theorem zqt (U:Usual nat) (FL:zfa G) (W:zcZ nat L d 2 (zb2 L G 3)):zcZ nat L d 1 (zb2 L G 4):=by
 intro η pb y p Q h k
 refine zam (PT:=zlo) Try.func139 rfl (U 139 (by decide)) zoZ rfl ?_
 have hn:=h.hn
 simp -implicitDefEqProofs(disch:=omega)only[go_sem]
 obtain⟨η0,e0,h0,c0,o0,n0,X0⟩:∃η0,η0=((((((η.new (.live false [.str 0 0,.str 0 0,.int .i64 0,.int .i64 0,.nilslice])).new (.live false [.str 2 29295,.str 3 7499640])).new (.live false [.str 3 6581857])).new (.live false [.str 1 61,.str 2 15932,.str 1 60,.str 2 15676,.str 1 62,.str 2 15678])).new (.live false [.str 1 43,.str 1 45])).new (.live false [.str 1 42,.str 1 47,.str 3 6582125])).new (.live false [.slice (η.nx+1) 0 2 (.kn 2),.slice (η.nx+1+1) 0 1 (.kn 1),.slice (η.nx+1+1+1) 0 6 (.kn 6),.slice (η.nx+1+1+1+1) 0 2 (.kn 2),.slice (η.nx+1+1+1+1+1) 0 3 (.kn 3)])∧PA η0 pb y L d p∧η0.f η.nx=.live false [.str 0 0,.str 0 0,.int .i64 0,.int .i64 0,.nilslice]∧η0.f (η.nx+1+1)=.live false ([ziU].map sV)∧η0.nx=η.nx+7∧zaD pb η η0 :=
  ⟨_,rfl,h.new.new.new.new.new.new.new,by simp -implicitDefEqProofs(disch:=omega)only[go_sem],by simp -implicitDefEqProofs(disch:=omega)only[go_sem];rfl,rfl,((((((zaD.refl pb η).new.new).new).new).new).new).new⟩
 rw[←e0]
 refine zaa (W η0 pb y p _ h0 fun z1 η1 r1 h1 x1=>?_)
 have l1:=zaI r1
 have n1:=x1.1
 have c1:=(x1.2 η.nx (by omega) (by omega)).trans c0
 have o1:=(x1.2 (η.nx+1+1) (by omega) (by omega)).trans o0
 simp -implicitDefEqProofs(disch:=omega)only[go_sem,l1]
 obtain⟨η2,e2,h2,c2,n2,X2,B2⟩:=zaV (w:=.live false z1) h1
 rw[←e2]
 obtain⟨I,hI⟩:∃I:Nat→FN→HN→Prop,∀m φ ζ,I m φ ζ↔∃a z q,(φ 0=.ptr pb 0∧φ 1=.int .i64 1∧φ 4=.ptr η.nx 0∧φ 5=.slice (η.nx+1+1) 0 1 (.kn 1)∧φ 6=.ptr η1.nx 0)∧PA ζ pb y L d q ∧
   ζ.f η.nx=.live false [.str 0 0,.str 0 0,.int .i64 0,.int .i64 0,.nilslice]∧ζ.f η1.nx=.live false z∧ζ.f (η.nx+1+1)=.live false ([ziU].map sV)∧rdE (fun b=>η0.nx≤b∧b<ζ.nx∧b≠η1.nx) ζ a z∧η2.nx≤ζ.nx∧zaD pb η ζ ∧
   zff L (zb2 L G 3) [ziU] false m a q=zb2 L G 4 p∧(q.e=0→L.length≤q.k+m):=⟨_,fun _ _ _=>Iff.rfl⟩
 refine zaf I L.length ((hI _ _ _).2 ⟨_,z1,_,⟨rfl,rfl,rfl,rfl,rfl⟩,h2,(B2.2 _ (by omega)).trans c1,c2,(B2.2 _ (by omega)).trans o1,zaM (fun b _ hb=>B2.2 b hb) B2.1 (fun b q=>⟨q.1,by have:=q.2;omega,by have:=q.2;omega⟩) _ _ r1,Nat.le_refl _,(X0.trans x1).trans X2,rfl,fun _=>Nat.le_add_left _ _⟩) ?_
 intro m φ ζ hi
 obtain⟨a,z,q,⟨p0,p1,p4,p5,p6⟩,hq,cq,dq,oq,rq,nq,Xq,wq,fq⟩:=(hI _ _ _).1 hi
 have hqn:=hq.hn
 simp -implicitDefEqProofs(disch:=omega)only[go_sem,p0]
 refine zaa (zb0 U hq fun η3 x3=>?_)
 have hc:(wd L q).cells=[.int .i64 (wd L q).k,.str (wd L q).t.1 (wd L q).t.2,.int .i64 (wd L q).n,.int .i64 (wd L q).a]:=rfl
 rw[hc]
 simp -implicitDefEqProofs(disch:=omega)only[go_sem,p0]
 obtain⟨J,hJ⟩:∃J:Nat→FN→HN→Prop,∀m φ ζ',J m φ ζ'↔∃i,m=1-i∧i≤1∧(φ 0=.ptr pb 0∧φ 1=.int .i64 1∧φ 4=.ptr η.nx 0∧φ 5=.slice (η.nx+1+1) 0 1 (.kn 1)∧φ 6=.ptr η1.nx 0) ∧
   φ 7=.int .i64 (wd L q).a∧φ 8=.str (zd2 L [ziU] q i).1 (zd2 L [ziU] q i).2∧φ 9=.int .i64 i∧zaw ζ.nx ζ ζ':=⟨_,fun _ _ _=>Iff.rfl⟩
 refine zaf J 1 ((hJ _ _ _).2 ⟨0,rfl,Nat.zero_le _,⟨p0,p1,p4,p5,p6⟩,rfl,rfl,rfl,x3⟩) ?_
 intro m' φ' ζ' hj
 obtain⟨i,hm',hi',⟨s0,s1,s4,s5,s6⟩,s7,s8,s9,xj⟩:=(hJ _ _ _).1 hj
 have hj':=hq.extB xj
 have nj:=xj.1
 have oj:ζ'.f (η.nx+1+1)=_:=(xj.2 _ (by omega)).trans oq
 by_cases hlt:i<1
 ·have gi:=zdv [ziU] i hlt
  have li:([ziU].map sV).length=1:=rfl
  simp -implicitDefEqProofs(disch:=omega)only[go_sem,s0,s1,s4,s5,s6,s7,s8,s9,oj,gi,li]
  refine zaa (zbs U hj' ([ziU].getD i (0,0)) fun η4 x4=>?_)
  have oj4:η4.f (η.nx+1+1)=_:=(x4.2 _ (by omega)).trans oj
  have acc:=zh0 (L:=L) (p:=q) (ops:=[ziU]) hlt
  cases e:isP L ([ziU].getD i (0,0)) q with
  |true =>
   rw[e,if_pos rfl]at acc
   simp -implicitDefEqProofs(disch:=omega)only[go_sem,s0,s1,s4,s5,s6,s7,s8,s9,oj4,gi,li]
   exact⟨1-(i+1),by omega,(hJ _ _ _).2 ⟨i+1,rfl,by omega,⟨s0,s1,s4,s5,s6⟩,s7,by rw[acc];rfl,rfl,xj.trans (x4.mono xj.1)⟩⟩
  |false =>
   rw[e,if_neg (by decide)]at acc
   simp -implicitDefEqProofs(disch:=omega)only[go_sem,s0,s1,s4,s5,s6,s7,s8,s9]
   exact⟨1-(i+1),by omega,(hJ _ _ _).2 ⟨i+1,rfl,by omega,⟨s0,s1,s4,s5,s6⟩,s7,by rw[acc];exact s8,rfl,xj.trans (x4.mono xj.1)⟩⟩
 obtain rfl:i=1:=by omega
 have acc:zd2 L [ziU] q 1=(opF L [ziU] q).getD (0,0):=zeR
 rw[acc]at s8
 have cj:ζ'.f η.nx=_:=(xj.2 _ (by omega)).trans cq
 have dj:ζ'.f η1.nx=_:=(xj.2 _ (by omega)).trans dq
 have rj:=zhR rq xj
 have lq:=zaI rq
 cases e:opF L [ziU] q with
 |none =>
  rw[e]at s8
  have s8:φ' 8=.str 0 0:=s8
  have e0':zaC 0 0 0 0=true:=rfl
  simp -implicitDefEqProofs(disch:=omega)only[go_sem,s0,s1,s4,s5,s6,s7,s8,s9,e0',cj,dj,lq]
  have wq':zff L (zb2 L G 3) [ziU] false m a q=(a,q):=by
   cases m with
   |zero=>rfl
   |succ m=>unfold zff;rw[e]
  rw[wq']at wq
  rw[←wq]at k
  exact k _ _ (zbv (zbJ rj (fun q=>by have:=q.1;omega)) (fun b q=>⟨by have:=q.1;omega,by have:=q.2.1;show b<ζ'.nx;omega⟩)) (hj'.putc (by omega) (h.fresh (Nat.le_refl _))) ((Xq.of xj).putN (Nat.le_refl _))
 |some op =>
  rw[e]at s8
  have s8:φ' 8=.str op.1 op.2:=s8
  obtain⟨eo,ei⟩:=zfk e
  have e0':zaC op.1 op.2 0 0=false:=by
   revert op
   simp only[List.mem_cons,List.not_mem_nil,or_false]
   rintro op - - - ho -
   obtain rfl:=ho<;>rfl
  obtain⟨he,hkk,_⟩:=zbW ei
  have hlt:=hq.k
  obtain _|m:=m
  ·have:=fq he;omega
  simp -implicitDefEqProofs(disch:=omega)only[go_sem,s0,s1,s4,s5,s6,s7,s8,s9,e0']
  refine zaa (za7 U hj' fun η5 h5 x5=>?_)
  simp -implicitDefEqProofs(disch:=omega)only[go_sem,s0,s1,s4,s5,s6,s7,s8,s9]
  refine zaa (zdG op U h5 fun η6 h6 x6=>?_)
  simp -implicitDefEqProofs(disch:=omega)only[go_sem,s0,s1,s4,s5,s6,s7,s8,s9]
  refine zaa (W η6 pb y _ _ h6 fun z8 η8 r8 h8 x8=>?_)
  have n5:=x5.1
  have n6:=x6.1
  have n8:=x8.1
  have X8:=(x5.trans x6).trans x8
  have c8:η8.f η.nx=_:=(X8.2 _ (by omega) (by omega)).trans cj
  have d8:η8.f η1.nx=_:=(X8.2 _ (by omega) (by omega)).trans dj
  have o8:η8.f (η.nx+1+1)=_:=(X8.2 _ (by omega) (by omega)).trans oj
  have v8:=zey rj X8 (fun q=>by have:=q.1;omega)
  have l8:=zaI r8
  have b8:=h8.hn
  obtain⟨f1,f2,f3,f4,f5,rfl⟩:=zaq rq
  obtain⟨g1,g2,g3,g4,g5,rfl⟩:=zaq r8
  simp -implicitDefEqProofs(disch:=omega)only[go_sem,s0,s1,s4,s5,s6,s7,s8,s9,c8,d8,zas,zar,zal]
  have T:rdE (fun b=>η0.nx≤b∧b<η8.nx+1+1∧b≠η1.nx) (((η8.new (.live false [.str g1.1 g1.2,.str g2.1 g2.2,.int .i64 g3,.int .i64 g4,g5])).new (.live false [.str f1.1 f1.2,.str f2.1 f2.2,.int .i64 f3,.int .i64 f4,f5,.str g1.1 g1.2,.str g2.1 g2.2,.int .i64 g3,.int .i64 g4,g5])).put η1.nx (.live false [.str op.1 op.2,.str 0 0,.int .i64 0,.int .i64 (wd L q).a,.slice (η8.nx+1) 0 2 (.kn 2)]))
    (.mk op (0,0) 0 (wd L q).a [a,(zb2 L G 3 (zdH L op q)).1]) [.str op.1 op.2,.str 0 0,.int .i64 0,.int .i64 (wd L q).a,.slice (η8.nx+1) 0 2 (.kn 2)] :=
   zdz (nm:=(0,0)) (c:=η1.nx) (pb:=pb) v8 r8 (fun b q=>⟨⟨q.1,by have:=q.2.1;omega,q.2.2⟩,by have:=q.1;omega,q.2.2⟩) (fun b q=>⟨⟨by have:=q.1;omega,by have:=q.2;omega,by have:=q.1;omega⟩,by have:=q.1;omega,by have:=q.1;omega⟩)
    (fun b q1 q2 q3=>by simp -implicitDefEqProofs(disch:=omega)only[go_sem]) (by show η8.nx≤η8.nx+1+1;omega) (by simp -implicitDefEqProofs(disch:=omega)only[go_sem]) (by show η8.nx+1<η8.nx+1+1;omega) ⟨by omega,by omega,by omega⟩
  have H:=(h8.new (z:=.live false [.str g1.1 g1.2,.str g2.1 g2.2,.int .i64 g3,.int .i64 g4,g5])).new (z:=.live false [.str f1.1 f1.2,.str f2.1 f2.2,.int .i64 f3,.int .i64 f4,f5,.str g1.1 g1.2,.str g2.1 g2.2,.int .i64 g3,.int .i64 g4,g5])
  have H:=H.putc (c:=η1.nx) (z:=.live false [.str op.1 op.2,.str 0 0,.int .i64 0,.int .i64 (wd L q).a,.slice (η8.nx+1) 0 2 (.kn 2)]) (by omega) (fun g=>h.fresh (c:=η1.nx) (by omega) g)
  have XX:=((((Xq.of xj).trans X8).new (y:=.live false [.str g1.1 g1.2,.str g2.1 g2.2,.int .i64 g3,.int .i64 g4,g5])).new (y:=.live false [.str f1.1 f1.2,.str f2.1 f2.2,.int .i64 f3,.int .i64 f4,f5,.str g1.1 g1.2,.str g2.1 g2.2,.int .i64 g3,.int .i64 g4,g5])).putN (c:=η1.nx) (y:=.live false [.str op.1 op.2,.str 0 0,.int .i64 0,.int .i64 (wd L q).a,.slice (η8.nx+1) 0 2 (.kn 2)]) (by omega)
  have wq':zff L (zb2 L G 3) [ziU] false m (.mk op (0,0) 0 (wd L q).a [a,(zb2 L G 3 (zdH L op q)).1]) (zb2 L G 3 (zdH L op q)).2=zb2 L G 4 p:=by
   rw[←wq]
   conv=>rhs;unfold zff
   rw[e];rfl
  refine⟨m,Nat.lt_succ_self _,(hI _ _ _).2 ⟨_,_,_,⟨s0,s1,s4,s5,s6⟩,H,?_,if_pos rfl,?_,T,?_,XX,wq',fun e'=>?_⟩⟩
  ·simp -implicitDefEqProofs(disch:=omega)only[go_sem,c8]
  ·simp -implicitDefEqProofs(disch:=omega)only[go_sem,o8]
  ·show η2.nx≤η8.nx+1+1;omega
  ·have w1:LeP (zdH L op q) (zb2 L G 3 (zdH L op q)).2:=zeN FL _ _
   have w2:=w1 e'
   have w3:=zlX ei w2.1
   have:=fq he
   omega
end Go.Proofs.Ytkggpdaglhnonaa
namespace Go.Proofs.Ytkggpdaglhnonaa
open Go.Eng Go.Plain
set_option autoImplicit false
set_option maxRecDepth 100000
variable {nat:∀ [Deep],Nats} {L:List Wd} {d:Nat} {G:Option Fns}
set_option maxHeartbeats 4000000 in
theorem zqs (U:Usual nat) (W:zcZ nat L d 3 (zb2 L G 2)):zcZ nat L d 2 (zb2 L G 3):=by
 intro η pb y p Q h k
 refine zam (PT:=zlo) Try.func139 rfl (U 139 (by decide)) zoZ rfl ?_
 have hn:=h.hn
 simp -implicitDefEqProofs(disch:=omega)only[go_sem]
 obtain⟨η0,e0,h0,c0,o0,n0,X0⟩:∃η0,η0=((((((η.new (.live false [.str 0 0,.str 0 0,.int .i64 0,.int .i64 0,.nilslice])).new (.live false [.str 2 29295,.str 3 7499640])).new (.live false [.str 3 6581857])).new (.live false [.str 1 61,.str 2 15932,.str 1 60,.str 2 15676,.str 1 62,.str 2 15678])).new (.live false [.str 1 43,.str 1 45])).new (.live false [.str 1 42,.str 1 47,.str 3 6582125])).new (.live false [.slice (η.nx+1) 0 2 (.kn 2),.slice (η.nx+1+1) 0 1 (.kn 1),.slice (η.nx+1+1+1) 0 6 (.kn 6),.slice (η.nx+1+1+1+1) 0 2 (.kn 2),.slice (η.nx+1+1+1+1+1) 0 3 (.kn 3)])∧PA η0 pb y L d p∧η0.f η.nx=.live false [.str 0 0,.str 0 0,.int .i64 0,.int .i64 0,.nilslice]∧η0.f (η.nx+1+1+1)=.live false ([sEq,sNe,sLt,sLe,sGt,sGe].map sV)∧η0.nx=η.nx+7∧zaD pb η η0 :=
  ⟨_,rfl,h.new.new.new.new.new.new.new,by simp -implicitDefEqProofs(disch:=omega)only[go_sem],by simp -implicitDefEqProofs(disch:=omega)only[go_sem];rfl,rfl,((((((zaD.refl pb η).new.new).new).new).new).new).new⟩
 rw[←e0]
 refine zaa (W η0 pb y p _ h0 fun z1 η1 r1 h1 x1=>?_)
 have l1:=zaI r1
 have n1:=x1.1
 have c1:=(x1.2 η.nx (by omega) (by omega)).trans c0
 have o1:=(x1.2 (η.nx+1+1+1) (by omega) (by omega)).trans o0
 simp -implicitDefEqProofs(disch:=omega)only[go_sem,l1]
 obtain⟨η2,e2,h2,c2,n2,X2,B2⟩:=zaV (w:=.live false z1) h1
 rw[←e2]
 obtain⟨I,hI⟩:∃I:Nat→FN→HN→Prop,∀m φ ζ,I m φ ζ↔∃a z q,(φ 0=.ptr pb 0∧φ 1=.int .i64 2∧φ 4=.ptr η.nx 0∧φ 5=.slice (η.nx+1+1+1) 0 6 (.kn 6)∧φ 6=.ptr η1.nx 0)∧PA ζ pb y L d q ∧
   ζ.f η.nx=.live false [.str 0 0,.str 0 0,.int .i64 0,.int .i64 0,.nilslice]∧ζ.f η1.nx=.live false z∧ζ.f (η.nx+1+1+1)=.live false ([sEq,sNe,sLt,sLe,sGt,sGe].map sV)∧rdE (fun b=>η0.nx≤b∧b<ζ.nx∧b≠η1.nx) ζ a z∧η2.nx≤ζ.nx∧zaD pb η ζ ∧
   zff L (zb2 L G 2) [sEq,sNe,sLt,sLe,sGt,sGe] true m a q=zb2 L G 3 p∧(q.e=0→L.length≤q.k+m):=⟨_,fun _ _ _=>Iff.rfl⟩
 refine zaf I L.length ((hI _ _ _).2 ⟨_,z1,_,⟨rfl,rfl,rfl,rfl,rfl⟩,h2,(B2.2 _ (by omega)).trans c1,c2,(B2.2 _ (by omega)).trans o1,zaM (fun b _ hb=>B2.2 b hb) B2.1 (fun b q=>⟨q.1,by have:=q.2;omega,by have:=q.2;omega⟩) _ _ r1,Nat.le_refl _,(X0.trans x1).trans X2,rfl,fun _=>Nat.le_add_left _ _⟩) ?_
 intro m φ ζ hi
 obtain⟨a,z,q,⟨p0,p1,p4,p5,p6⟩,hq,cq,dq,oq,rq,nq,Xq,wq,fq⟩:=(hI _ _ _).1 hi
 have hqn:=hq.hn
 simp -implicitDefEqProofs(disch:=omega)only[go_sem,p0]
 refine zaa (zb0 U hq fun η3 x3=>?_)
 have hc:(wd L q).cells=[.int .i64 (wd L q).k,.str (wd L q).t.1 (wd L q).t.2,.int .i64 (wd L q).n,.int .i64 (wd L q).a]:=rfl
 rw[hc]
 simp -implicitDefEqProofs(disch:=omega)only[go_sem,p0]
 obtain⟨J,hJ⟩:∃J:Nat→FN→HN→Prop,∀m φ ζ',J m φ ζ'↔∃i,m=6-i∧i≤6∧(φ 0=.ptr pb 0∧φ 1=.int .i64 2∧φ 4=.ptr η.nx 0∧φ 5=.slice (η.nx+1+1+1) 0 6 (.kn 6)∧φ 6=.ptr η1.nx 0) ∧
   φ 7=.int .i64 (wd L q).a∧φ 8=.str (zd2 L [sEq,sNe,sLt,sLe,sGt,sGe] q i).1 (zd2 L [sEq,sNe,sLt,sLe,sGt,sGe] q i).2∧φ 9=.int .i64 i∧zaw ζ.nx ζ ζ':=⟨_,fun _ _ _=>Iff.rfl⟩
 refine zaf J 6 ((hJ _ _ _).2 ⟨0,rfl,Nat.zero_le _,⟨p0,p1,p4,p5,p6⟩,rfl,rfl,rfl,x3⟩) ?_
 intro m' φ' ζ' hj
 obtain⟨i,hm',hi',⟨s0,s1,s4,s5,s6⟩,s7,s8,s9,xj⟩:=(hJ _ _ _).1 hj
 have hj':=hq.extB xj
 have nj:=xj.1
 have oj:ζ'.f (η.nx+1+1+1)=_:=(xj.2 _ (by omega)).trans oq
 by_cases hlt:i<6
 ·have gi:=zdv [sEq,sNe,sLt,sLe,sGt,sGe] i hlt
  have li:([sEq,sNe,sLt,sLe,sGt,sGe].map sV).length=6:=rfl
  simp -implicitDefEqProofs(disch:=omega)only[go_sem,s0,s1,s4,s5,s6,s7,s8,s9,oj,gi,li]
  refine zaa (zbs U hj' ([sEq,sNe,sLt,sLe,sGt,sGe].getD i (0,0)) fun η4 x4=>?_)
  have oj4:η4.f (η.nx+1+1+1)=_:=(x4.2 _ (by omega)).trans oj
  have acc:=zh0 (L:=L) (p:=q) (ops:=[sEq,sNe,sLt,sLe,sGt,sGe]) hlt
  cases e:isP L ([sEq,sNe,sLt,sLe,sGt,sGe].getD i (0,0)) q with
  |true =>
   rw[e,if_pos rfl]at acc
   simp -implicitDefEqProofs(disch:=omega)only[go_sem,s0,s1,s4,s5,s6,s7,s8,s9,oj4,gi,li]
   exact⟨6-(i+1),by omega,(hJ _ _ _).2 ⟨i+1,rfl,by omega,⟨s0,s1,s4,s5,s6⟩,s7,by rw[acc];rfl,rfl,xj.trans (x4.mono xj.1)⟩⟩
  |false =>
   rw[e,if_neg (by decide)]at acc
   simp -implicitDefEqProofs(disch:=omega)only[go_sem,s0,s1,s4,s5,s6,s7,s8,s9]
   exact⟨6-(i+1),by omega,(hJ _ _ _).2 ⟨i+1,rfl,by omega,⟨s0,s1,s4,s5,s6⟩,s7,by rw[acc];exact s8,rfl,xj.trans (x4.mono xj.1)⟩⟩
 obtain rfl:i=6:=by omega
 have acc:zd2 L [sEq,sNe,sLt,sLe,sGt,sGe] q 6=(opF L [sEq,sNe,sLt,sLe,sGt,sGe] q).getD (0,0):=zeR
 rw[acc]at s8
 have cj:ζ'.f η.nx=_:=(xj.2 _ (by omega)).trans cq
 have dj:ζ'.f η1.nx=_:=(xj.2 _ (by omega)).trans dq
 have rj:=zhR rq xj
 have lq:=zaI rq
 cases e:opF L [sEq,sNe,sLt,sLe,sGt,sGe] q with
 |none =>
  rw[e]at s8
  have s8:φ' 8=.str 0 0:=s8
  have e0':zaC 0 0 0 0=true:=rfl
  simp -implicitDefEqProofs(disch:=omega)only[go_sem,s0,s1,s4,s5,s6,s7,s8,s9,e0',cj,dj,lq]
  have wq':zff L (zb2 L G 2) [sEq,sNe,sLt,sLe,sGt,sGe] true m a q=(a,q):=by
   cases m with
   |zero=>rfl
   |succ m=>unfold zff;rw[e]
  rw[wq']at wq
  rw[←wq]at k
  exact k _ _ (zbv (zbJ rj (fun q=>by have:=q.1;omega)) (fun b q=>⟨by have:=q.1;omega,by have:=q.2.1;show b<ζ'.nx;omega⟩)) (hj'.putc (by omega) (h.fresh (Nat.le_refl _))) ((Xq.of xj).putN (Nat.le_refl _))
 |some op =>
  rw[e]at s8
  have s8:φ' 8=.str op.1 op.2:=s8
  obtain⟨eo,ei⟩:=zfk e
  have e0':zaC op.1 op.2 0 0=false:=by
   revert op
   simp only[List.mem_cons,List.not_mem_nil,or_false]
   rintro op - - - ho -
   rcases ho with rfl|rfl|rfl|rfl|rfl|rfl<;>rfl
  obtain⟨he,hkk,_⟩:=zbW ei
  have hlt:=hq.k
  obtain _|m:=m
  ·have:=fq he;omega
  simp -implicitDefEqProofs(disch:=omega)only[go_sem,s0,s1,s4,s5,s6,s7,s8,s9,e0']
  refine zaa (za7 U hj' fun η5 h5 x5=>?_)
  simp -implicitDefEqProofs(disch:=omega)only[go_sem,s0,s1,s4,s5,s6,s7,s8,s9]
  refine zaa (zdG op U h5 fun η6 h6 x6=>?_)
  simp -implicitDefEqProofs(disch:=omega)only[go_sem,s0,s1,s4,s5,s6,s7,s8,s9]
  refine zaa (W η6 pb y _ _ h6 fun z8 η8 r8 h8 x8=>?_)
  have n5:=x5.1
  have n6:=x6.1
  have n8:=x8.1
  have X8:=(x5.trans x6).trans x8
  have c8:η8.f η.nx=_:=(X8.2 _ (by omega) (by omega)).trans cj
  have d8:η8.f η1.nx=_:=(X8.2 _ (by omega) (by omega)).trans dj
  have o8:η8.f (η.nx+1+1+1)=_:=(X8.2 _ (by omega) (by omega)).trans oj
  have v8:=zey rj X8 (fun q=>by have:=q.1;omega)
  have l8:=zaI r8
  have b8:=h8.hn
  obtain⟨f1,f2,f3,f4,f5,rfl⟩:=zaq rq
  obtain⟨g1,g2,g3,g4,g5,rfl⟩:=zaq r8
  simp -implicitDefEqProofs(disch:=omega)only[go_sem,s0,s1,s4,s5,s6,s7,s8,s9,c8,d8,zas,zar,zal]
  have T:rdE (fun b=>η0.nx≤b∧b<η8.nx+1+1∧b≠η1.nx) (((η8.new (.live false [.str g1.1 g1.2,.str g2.1 g2.2,.int .i64 g3,.int .i64 g4,g5])).new (.live false [.str f1.1 f1.2,.str f2.1 f2.2,.int .i64 f3,.int .i64 f4,f5,.str g1.1 g1.2,.str g2.1 g2.2,.int .i64 g3,.int .i64 g4,g5])).put η1.nx (.live false [.str op.1 op.2,.str 0 0,.int .i64 0,.int .i64 (wd L q).a,.slice (η8.nx+1) 0 2 (.kn 2)]))
    (.mk op (0,0) 0 (wd L q).a [a,(zb2 L G 2 (zdH L op q)).1]) [.str op.1 op.2,.str 0 0,.int .i64 0,.int .i64 (wd L q).a,.slice (η8.nx+1) 0 2 (.kn 2)] :=
   zdz (nm:=(0,0)) (c:=η1.nx) (pb:=pb) v8 r8 (fun b q=>⟨⟨q.1,by have:=q.2.1;omega,q.2.2⟩,by have:=q.1;omega,q.2.2⟩) (fun b q=>⟨⟨by have:=q.1;omega,by have:=q.2;omega,by have:=q.1;omega⟩,by have:=q.1;omega,by have:=q.1;omega⟩)
    (fun b q1 q2 q3=>by simp -implicitDefEqProofs(disch:=omega)only[go_sem]) (by show η8.nx≤η8.nx+1+1;omega) (by simp -implicitDefEqProofs(disch:=omega)only[go_sem]) (by show η8.nx+1<η8.nx+1+1;omega) ⟨by omega,by omega,by omega⟩
  have H:=(h8.new (z:=.live false [.str g1.1 g1.2,.str g2.1 g2.2,.int .i64 g3,.int .i64 g4,g5])).new (z:=.live false [.str f1.1 f1.2,.str f2.1 f2.2,.int .i64 f3,.int .i64 f4,f5,.str g1.1 g1.2,.str g2.1 g2.2,.int .i64 g3,.int .i64 g4,g5])
  have H:=H.putc (c:=η1.nx) (z:=.live false [.str op.1 op.2,.str 0 0,.int .i64 0,.int .i64 (wd L q).a,.slice (η8.nx+1) 0 2 (.kn 2)]) (by omega) (fun g=>h.fresh (c:=η1.nx) (by omega) g)
  have XX:=((((Xq.of xj).trans X8).new (y:=.live false [.str g1.1 g1.2,.str g2.1 g2.2,.int .i64 g3,.int .i64 g4,g5])).new (y:=.live false [.str f1.1 f1.2,.str f2.1 f2.2,.int .i64 f3,.int .i64 f4,f5,.str g1.1 g1.2,.str g2.1 g2.2,.int .i64 g3,.int .i64 g4,g5])).putN (c:=η1.nx) (y:=.live false [.str op.1 op.2,.str 0 0,.int .i64 0,.int .i64 (wd L q).a,.slice (η8.nx+1) 0 2 (.kn 2)]) (by omega)
  have wq':zff L (zb2 L G 2) [sEq,sNe,sLt,sLe,sGt,sGe] true (m+1) a q=(.mk op (0,0) 0 (wd L q).a [a,(zb2 L G 2 (zdH L op q)).1],(zb2 L G 2 (zdH L op q)).2):=by
   conv=>lhs;unfold zff
   rw[e];rfl
  rw[wq']at wq
  rw[←wq]at k
  exact k _ _ (zbv (zbJ T (fun q=>by have:=q.1;omega)) (fun b q=>⟨by have:=q.1;omega,by have:=q.2.1;show b<η8.nx+1+1;omega⟩)) (H.putc (by omega) (h.fresh (Nat.le_refl _))) (XX.putN (Nat.le_refl _))
end Go.Proofs.Ytkggpdaglhnonaa
namespace Go.Proofs.Ytkggpdaglhnonaa
open Go.Eng Go.Plain
set_option autoImplicit false
set_option maxRecDepth 100000
variable {nat:∀ [Deep],Nats} {L:List Wd} {d:Nat} {G:Option Fns}
set_option maxHeartbeats 4000000 in
theorem zqr (U:Usual nat) (FL:zfa G) (W:zcZ nat L d 4 (zb2 L G 1)):zcZ nat L d 3 (zb2 L G 2):=by
 intro η pb y p Q h k
 refine zam (PT:=zlo) Try.func139 rfl (U 139 (by decide)) zoZ rfl ?_
 have hn:=h.hn
 simp -implicitDefEqProofs(disch:=omega)only[go_sem]
 obtain⟨η0,e0,h0,c0,o0,n0,X0⟩:∃η0,η0=((((((η.new (.live false [.str 0 0,.str 0 0,.int .i64 0,.int .i64 0,.nilslice])).new (.live false [.str 2 29295,.str 3 7499640])).new (.live false [.str 3 6581857])).new (.live false [.str 1 61,.str 2 15932,.str 1 60,.str 2 15676,.str 1 62,.str 2 15678])).new (.live false [.str 1 43,.str 1 45])).new (.live false [.str 1 42,.str 1 47,.str 3 6582125])).new (.live false [.slice (η.nx+1) 0 2 (.kn 2),.slice (η.nx+1+1) 0 1 (.kn 1),.slice (η.nx+1+1+1) 0 6 (.kn 6),.slice (η.nx+1+1+1+1) 0 2 (.kn 2),.slice (η.nx+1+1+1+1+1) 0 3 (.kn 3)])∧PA η0 pb y L d p∧η0.f η.nx=.live false [.str 0 0,.str 0 0,.int .i64 0,.int .i64 0,.nilslice]∧η0.f (η.nx+1+1+1+1)=.live false ([zdM,zbO].map sV)∧η0.nx=η.nx+7∧zaD pb η η0 :=
  ⟨_,rfl,h.new.new.new.new.new.new.new,by simp -implicitDefEqProofs(disch:=omega)only[go_sem],by simp -implicitDefEqProofs(disch:=omega)only[go_sem];rfl,rfl,((((((zaD.refl pb η).new.new).new).new).new).new).new⟩
 rw[←e0]
 refine zaa (W η0 pb y p _ h0 fun z1 η1 r1 h1 x1=>?_)
 have l1:=zaI r1
 have n1:=x1.1
 have c1:=(x1.2 η.nx (by omega) (by omega)).trans c0
 have o1:=(x1.2 (η.nx+1+1+1+1) (by omega) (by omega)).trans o0
 simp -implicitDefEqProofs(disch:=omega)only[go_sem,l1]
 obtain⟨η2,e2,h2,c2,n2,X2,B2⟩:=zaV (w:=.live false z1) h1
 rw[←e2]
 obtain⟨I,hI⟩:∃I:Nat→FN→HN→Prop,∀m φ ζ,I m φ ζ↔∃a z q,(φ 0=.ptr pb 0∧φ 1=.int .i64 3∧φ 4=.ptr η.nx 0∧φ 5=.slice (η.nx+1+1+1+1) 0 2 (.kn 2)∧φ 6=.ptr η1.nx 0)∧PA ζ pb y L d q ∧
   ζ.f η.nx=.live false [.str 0 0,.str 0 0,.int .i64 0,.int .i64 0,.nilslice]∧ζ.f η1.nx=.live false z∧ζ.f (η.nx+1+1+1+1)=.live false ([zdM,zbO].map sV)∧rdE (fun b=>η0.nx≤b∧b<ζ.nx∧b≠η1.nx) ζ a z∧η2.nx≤ζ.nx∧zaD pb η ζ ∧
   zff L (zb2 L G 1) [zdM,zbO] false m a q=zb2 L G 2 p∧(q.e=0→L.length≤q.k+m):=⟨_,fun _ _ _=>Iff.rfl⟩
 refine zaf I L.length ((hI _ _ _).2 ⟨_,z1,_,⟨rfl,rfl,rfl,rfl,rfl⟩,h2,(B2.2 _ (by omega)).trans c1,c2,(B2.2 _ (by omega)).trans o1,zaM (fun b _ hb=>B2.2 b hb) B2.1 (fun b q=>⟨q.1,by have:=q.2;omega,by have:=q.2;omega⟩) _ _ r1,Nat.le_refl _,(X0.trans x1).trans X2,rfl,fun _=>Nat.le_add_left _ _⟩) ?_
 intro m φ ζ hi
 obtain⟨a,z,q,⟨p0,p1,p4,p5,p6⟩,hq,cq,dq,oq,rq,nq,Xq,wq,fq⟩:=(hI _ _ _).1 hi
 have hqn:=hq.hn
 simp -implicitDefEqProofs(disch:=omega)only[go_sem,p0]
 refine zaa (zb0 U hq fun η3 x3=>?_)
 have hc:(wd L q).cells=[.int .i64 (wd L q).k,.str (wd L q).t.1 (wd L q).t.2,.int .i64 (wd L q).n,.int .i64 (wd L q).a]:=rfl
 rw[hc]
 simp -implicitDefEqProofs(disch:=omega)only[go_sem,p0]
 obtain⟨J,hJ⟩:∃J:Nat→FN→HN→Prop,∀m φ ζ',J m φ ζ'↔∃i,m=2-i∧i≤2∧(φ 0=.ptr pb 0∧φ 1=.int .i64 3∧φ 4=.ptr η.nx 0∧φ 5=.slice (η.nx+1+1+1+1) 0 2 (.kn 2)∧φ 6=.ptr η1.nx 0) ∧
   φ 7=.int .i64 (wd L q).a∧φ 8=.str (zd2 L [zdM,zbO] q i).1 (zd2 L [zdM,zbO] q i).2∧φ 9=.int .i64 i∧zaw ζ.nx ζ ζ':=⟨_,fun _ _ _=>Iff.rfl⟩
 refine zaf J 2 ((hJ _ _ _).2 ⟨0,rfl,Nat.zero_le _,⟨p0,p1,p4,p5,p6⟩,rfl,rfl,rfl,x3⟩) ?_
 intro m' φ' ζ' hj
 obtain⟨i,hm',hi',⟨s0,s1,s4,s5,s6⟩,s7,s8,s9,xj⟩:=(hJ _ _ _).1 hj
 have hj':=hq.extB xj
 have nj:=xj.1
 have oj:ζ'.f (η.nx+1+1+1+1)=_:=(xj.2 _ (by omega)).trans oq
 by_cases hlt:i<2
 ·have gi:=zdv [zdM,zbO] i hlt
  have li:([zdM,zbO].map sV).length=2:=rfl
  simp -implicitDefEqProofs(disch:=omega)only[go_sem,s0,s1,s4,s5,s6,s7,s8,s9,oj,gi,li]
  refine zaa (zbs U hj' ([zdM,zbO].getD i (0,0)) fun η4 x4=>?_)
  have oj4:η4.f (η.nx+1+1+1+1)=_:=(x4.2 _ (by omega)).trans oj
  have acc:=zh0 (L:=L) (p:=q) (ops:=[zdM,zbO]) hlt
  cases e:isP L ([zdM,zbO].getD i (0,0)) q with
  |true =>
   rw[e,if_pos rfl]at acc
   simp -implicitDefEqProofs(disch:=omega)only[go_sem,s0,s1,s4,s5,s6,s7,s8,s9,oj4,gi,li]
   exact⟨2-(i+1),by omega,(hJ _ _ _).2 ⟨i+1,rfl,by omega,⟨s0,s1,s4,s5,s6⟩,s7,by rw[acc];rfl,rfl,xj.trans (x4.mono xj.1)⟩⟩
  |false =>
   rw[e,if_neg (by decide)]at acc
   simp -implicitDefEqProofs(disch:=omega)only[go_sem,s0,s1,s4,s5,s6,s7,s8,s9]
   exact⟨2-(i+1),by omega,(hJ _ _ _).2 ⟨i+1,rfl,by omega,⟨s0,s1,s4,s5,s6⟩,s7,by rw[acc];exact s8,rfl,xj.trans (x4.mono xj.1)⟩⟩
 obtain rfl:i=2:=by omega
 have acc:zd2 L [zdM,zbO] q 2=(opF L [zdM,zbO] q).getD (0,0):=zeR
 rw[acc]at s8
 have cj:ζ'.f η.nx=_:=(xj.2 _ (by omega)).trans cq
 have dj:ζ'.f η1.nx=_:=(xj.2 _ (by omega)).trans dq
 have rj:=zhR rq xj
 have lq:=zaI rq
 cases e:opF L [zdM,zbO] q with
 |none =>
  rw[e]at s8
  have s8:φ' 8=.str 0 0:=s8
  have e0':zaC 0 0 0 0=true:=rfl
  simp -implicitDefEqProofs(disch:=omega)only[go_sem,s0,s1,s4,s5,s6,s7,s8,s9,e0',cj,dj,lq]
  have wq':zff L (zb2 L G 1) [zdM,zbO] false m a q=(a,q):=by
   cases m with
   |zero=>rfl
   |succ m=>unfold zff;rw[e]
  rw[wq']at wq
  rw[←wq]at k
  exact k _ _ (zbv (zbJ rj (fun q=>by have:=q.1;omega)) (fun b q=>⟨by have:=q.1;omega,by have:=q.2.1;show b<ζ'.nx;omega⟩)) (hj'.putc (by omega) (h.fresh (Nat.le_refl _))) ((Xq.of xj).putN (Nat.le_refl _))
 |some op =>
  rw[e]at s8
  have s8:φ' 8=.str op.1 op.2:=s8
  obtain⟨eo,ei⟩:=zfk e
  have e0':zaC op.1 op.2 0 0=false:=by
   revert op
   simp only[List.mem_cons,List.not_mem_nil,or_false]
   rintro op - - - ho -
   rcases ho with rfl|rfl<;>rfl
  obtain⟨he,hkk,_⟩:=zbW ei
  have hlt:=hq.k
  obtain _|m:=m
  ·have:=fq he;omega
  simp -implicitDefEqProofs(disch:=omega)only[go_sem,s0,s1,s4,s5,s6,s7,s8,s9,e0']
  refine zaa (za7 U hj' fun η5 h5 x5=>?_)
  simp -implicitDefEqProofs(disch:=omega)only[go_sem,s0,s1,s4,s5,s6,s7,s8,s9]
  refine zaa (zdG op U h5 fun η6 h6 x6=>?_)
  simp -implicitDefEqProofs(disch:=omega)only[go_sem,s0,s1,s4,s5,s6,s7,s8,s9]
  refine zaa (W η6 pb y _ _ h6 fun z8 η8 r8 h8 x8=>?_)
  have n5:=x5.1
  have n6:=x6.1
  have n8:=x8.1
  have X8:=(x5.trans x6).trans x8
  have c8:η8.f η.nx=_:=(X8.2 _ (by omega) (by omega)).trans cj
  have d8:η8.f η1.nx=_:=(X8.2 _ (by omega) (by omega)).trans dj
  have o8:η8.f (η.nx+1+1+1+1)=_:=(X8.2 _ (by omega) (by omega)).trans oj
  have v8:=zey rj X8 (fun q=>by have:=q.1;omega)
  have l8:=zaI r8
  have b8:=h8.hn
  obtain⟨f1,f2,f3,f4,f5,rfl⟩:=zaq rq
  obtain⟨g1,g2,g3,g4,g5,rfl⟩:=zaq r8
  simp -implicitDefEqProofs(disch:=omega)only[go_sem,s0,s1,s4,s5,s6,s7,s8,s9,c8,d8,zas,zar,zal]
  have T:rdE (fun b=>η0.nx≤b∧b<η8.nx+1+1∧b≠η1.nx) (((η8.new (.live false [.str g1.1 g1.2,.str g2.1 g2.2,.int .i64 g3,.int .i64 g4,g5])).new (.live false [.str f1.1 f1.2,.str f2.1 f2.2,.int .i64 f3,.int .i64 f4,f5,.str g1.1 g1.2,.str g2.1 g2.2,.int .i64 g3,.int .i64 g4,g5])).put η1.nx (.live false [.str op.1 op.2,.str 0 0,.int .i64 0,.int .i64 (wd L q).a,.slice (η8.nx+1) 0 2 (.kn 2)]))
    (.mk op (0,0) 0 (wd L q).a [a,(zb2 L G 1 (zdH L op q)).1]) [.str op.1 op.2,.str 0 0,.int .i64 0,.int .i64 (wd L q).a,.slice (η8.nx+1) 0 2 (.kn 2)] :=
   zdz (nm:=(0,0)) (c:=η1.nx) (pb:=pb) v8 r8 (fun b q=>⟨⟨q.1,by have:=q.2.1;omega,q.2.2⟩,by have:=q.1;omega,q.2.2⟩) (fun b q=>⟨⟨by have:=q.1;omega,by have:=q.2;omega,by have:=q.1;omega⟩,by have:=q.1;omega,by have:=q.1;omega⟩)
    (fun b q1 q2 q3=>by simp -implicitDefEqProofs(disch:=omega)only[go_sem]) (by show η8.nx≤η8.nx+1+1;omega) (by simp -implicitDefEqProofs(disch:=omega)only[go_sem]) (by show η8.nx+1<η8.nx+1+1;omega) ⟨by omega,by omega,by omega⟩
  have H:=(h8.new (z:=.live false [.str g1.1 g1.2,.str g2.1 g2.2,.int .i64 g3,.int .i64 g4,g5])).new (z:=.live false [.str f1.1 f1.2,.str f2.1 f2.2,.int .i64 f3,.int .i64 f4,f5,.str g1.1 g1.2,.str g2.1 g2.2,.int .i64 g3,.int .i64 g4,g5])
  have H:=H.putc (c:=η1.nx) (z:=.live false [.str op.1 op.2,.str 0 0,.int .i64 0,.int .i64 (wd L q).a,.slice (η8.nx+1) 0 2 (.kn 2)]) (by omega) (fun g=>h.fresh (c:=η1.nx) (by omega) g)
  have XX:=((((Xq.of xj).trans X8).new (y:=.live false [.str g1.1 g1.2,.str g2.1 g2.2,.int .i64 g3,.int .i64 g4,g5])).new (y:=.live false [.str f1.1 f1.2,.str f2.1 f2.2,.int .i64 f3,.int .i64 f4,f5,.str g1.1 g1.2,.str g2.1 g2.2,.int .i64 g3,.int .i64 g4,g5])).putN (c:=η1.nx) (y:=.live false [.str op.1 op.2,.str 0 0,.int .i64 0,.int .i64 (wd L q).a,.slice (η8.nx+1) 0 2 (.kn 2)]) (by omega)
  have wq':zff L (zb2 L G 1) [zdM,zbO] false m (.mk op (0,0) 0 (wd L q).a [a,(zb2 L G 1 (zdH L op q)).1]) (zb2 L G 1 (zdH L op q)).2=zb2 L G 2 p:=by
   rw[←wq]
   conv=>rhs;unfold zff
   rw[e];rfl
  refine⟨m,Nat.lt_succ_self _,(hI _ _ _).2 ⟨_,_,_,⟨s0,s1,s4,s5,s6⟩,H,?_,if_pos rfl,?_,T,?_,XX,wq',fun e'=>?_⟩⟩
  ·simp -implicitDefEqProofs(disch:=omega)only[go_sem,c8]
  ·simp -implicitDefEqProofs(disch:=omega)only[go_sem,o8]
  ·show η2.nx≤η8.nx+1+1;omega
  ·have w1:LeP (zdH L op q) (zb2 L G 1 (zdH L op q)).2:=zeN FL _ _
   have w2:=w1 e'
   have w3:=zlX ei w2.1
   have:=fq he
   omega
end Go.Proofs.Ytkggpdaglhnonaa
namespace Go.Proofs.Ytkggpdaglhnonaa
open Go.Eng Go.Plain
set_option autoImplicit false
set_option maxRecDepth 100000
variable {nat:∀ [Deep],Nats} {L:List Wd} {d:Nat} {G:Option Fns}
set_option maxHeartbeats 4000000 in
theorem zqq (U:Usual nat) (FL:zfa G) (W:zcZ nat L d 5 (zb2 L G 0)):zcZ nat L d 4 (zb2 L G 1):=by
 intro η pb y p Q h k
 refine zam (PT:=zlo) Try.func139 rfl (U 139 (by decide)) zoZ rfl ?_
 have hn:=h.hn
 simp -implicitDefEqProofs(disch:=omega)only[go_sem]
 obtain⟨η0,e0,h0,c0,o0,n0,X0⟩:∃η0,η0=((((((η.new (.live false [.str 0 0,.str 0 0,.int .i64 0,.int .i64 0,.nilslice])).new (.live false [.str 2 29295,.str 3 7499640])).new (.live false [.str 3 6581857])).new (.live false [.str 1 61,.str 2 15932,.str 1 60,.str 2 15676,.str 1 62,.str 2 15678])).new (.live false [.str 1 43,.str 1 45])).new (.live false [.str 1 42,.str 1 47,.str 3 6582125])).new (.live false [.slice (η.nx+1) 0 2 (.kn 2),.slice (η.nx+1+1) 0 1 (.kn 1),.slice (η.nx+1+1+1) 0 6 (.kn 6),.slice (η.nx+1+1+1+1) 0 2 (.kn 2),.slice (η.nx+1+1+1+1+1) 0 3 (.kn 3)])∧PA η0 pb y L d p∧η0.f η.nx=.live false [.str 0 0,.str 0 0,.int .i64 0,.int .i64 0,.nilslice]∧η0.f (η.nx+1+1+1+1+1)=.live false ([zca,ziT,zhL].map sV)∧η0.nx=η.nx+7∧zaD pb η η0 :=
  ⟨_,rfl,h.new.new.new.new.new.new.new,by simp -implicitDefEqProofs(disch:=omega)only[go_sem],by simp -implicitDefEqProofs(disch:=omega)only[go_sem];rfl,rfl,((((((zaD.refl pb η).new.new).new).new).new).new).new⟩
 rw[←e0]
 refine zaa (W η0 pb y p _ h0 fun z1 η1 r1 h1 x1=>?_)
 have l1:=zaI r1
 have n1:=x1.1
 have c1:=(x1.2 η.nx (by omega) (by omega)).trans c0
 have o1:=(x1.2 (η.nx+1+1+1+1+1) (by omega) (by omega)).trans o0
 simp -implicitDefEqProofs(disch:=omega)only[go_sem,l1]
 obtain⟨η2,e2,h2,c2,n2,X2,B2⟩:=zaV (w:=.live false z1) h1
 rw[←e2]
 obtain⟨I,hI⟩:∃I:Nat→FN→HN→Prop,∀m φ ζ,I m φ ζ↔∃a z q,(φ 0=.ptr pb 0∧φ 1=.int .i64 4∧φ 4=.ptr η.nx 0∧φ 5=.slice (η.nx+1+1+1+1+1) 0 3 (.kn 3)∧φ 6=.ptr η1.nx 0)∧PA ζ pb y L d q ∧
   ζ.f η.nx=.live false [.str 0 0,.str 0 0,.int .i64 0,.int .i64 0,.nilslice]∧ζ.f η1.nx=.live false z∧ζ.f (η.nx+1+1+1+1+1)=.live false ([zca,ziT,zhL].map sV)∧rdE (fun b=>η0.nx≤b∧b<ζ.nx∧b≠η1.nx) ζ a z∧η2.nx≤ζ.nx∧zaD pb η ζ ∧
   zff L (zb2 L G 0) [zca,ziT,zhL] false m a q=zb2 L G 1 p∧(q.e=0→L.length≤q.k+m):=⟨_,fun _ _ _=>Iff.rfl⟩
 refine zaf I L.length ((hI _ _ _).2 ⟨_,z1,_,⟨rfl,rfl,rfl,rfl,rfl⟩,h2,(B2.2 _ (by omega)).trans c1,c2,(B2.2 _ (by omega)).trans o1,zaM (fun b _ hb=>B2.2 b hb) B2.1 (fun b q=>⟨q.1,by have:=q.2;omega,by have:=q.2;omega⟩) _ _ r1,Nat.le_refl _,(X0.trans x1).trans X2,rfl,fun _=>Nat.le_add_left _ _⟩) ?_
 intro m φ ζ hi
 obtain⟨a,z,q,⟨p0,p1,p4,p5,p6⟩,hq,cq,dq,oq,rq,nq,Xq,wq,fq⟩:=(hI _ _ _).1 hi
 have hqn:=hq.hn
 simp -implicitDefEqProofs(disch:=omega)only[go_sem,p0]
 refine zaa (zb0 U hq fun η3 x3=>?_)
 have hc:(wd L q).cells=[.int .i64 (wd L q).k,.str (wd L q).t.1 (wd L q).t.2,.int .i64 (wd L q).n,.int .i64 (wd L q).a]:=rfl
 rw[hc]
 simp -implicitDefEqProofs(disch:=omega)only[go_sem,p0]
 obtain⟨J,hJ⟩:∃J:Nat→FN→HN→Prop,∀m φ ζ',J m φ ζ'↔∃i,m=3-i∧i≤3∧(φ 0=.ptr pb 0∧φ 1=.int .i64 4∧φ 4=.ptr η.nx 0∧φ 5=.slice (η.nx+1+1+1+1+1) 0 3 (.kn 3)∧φ 6=.ptr η1.nx 0) ∧
   φ 7=.int .i64 (wd L q).a∧φ 8=.str (zd2 L [zca,ziT,zhL] q i).1 (zd2 L [zca,ziT,zhL] q i).2∧φ 9=.int .i64 i∧zaw ζ.nx ζ ζ':=⟨_,fun _ _ _=>Iff.rfl⟩
 refine zaf J 3 ((hJ _ _ _).2 ⟨0,rfl,Nat.zero_le _,⟨p0,p1,p4,p5,p6⟩,rfl,rfl,rfl,x3⟩) ?_
 intro m' φ' ζ' hj
 obtain⟨i,hm',hi',⟨s0,s1,s4,s5,s6⟩,s7,s8,s9,xj⟩:=(hJ _ _ _).1 hj
 have hj':=hq.extB xj
 have nj:=xj.1
 have oj:ζ'.f (η.nx+1+1+1+1+1)=_:=(xj.2 _ (by omega)).trans oq
 by_cases hlt:i<3
 ·have gi:=zdv [zca,ziT,zhL] i hlt
  have li:([zca,ziT,zhL].map sV).length=3:=rfl
  simp -implicitDefEqProofs(disch:=omega)only[go_sem,s0,s1,s4,s5,s6,s7,s8,s9,oj,gi,li]
  refine zaa (zbs U hj' ([zca,ziT,zhL].getD i (0,0)) fun η4 x4=>?_)
  have oj4:η4.f (η.nx+1+1+1+1+1)=_:=(x4.2 _ (by omega)).trans oj
  have acc:=zh0 (L:=L) (p:=q) (ops:=[zca,ziT,zhL]) hlt
  cases e:isP L ([zca,ziT,zhL].getD i (0,0)) q with
  |true =>
   rw[e,if_pos rfl]at acc
   simp -implicitDefEqProofs(disch:=omega)only[go_sem,s0,s1,s4,s5,s6,s7,s8,s9,oj4,gi,li]
   exact⟨3-(i+1),by omega,(hJ _ _ _).2 ⟨i+1,rfl,by omega,⟨s0,s1,s4,s5,s6⟩,s7,by rw[acc];rfl,rfl,xj.trans (x4.mono xj.1)⟩⟩
  |false =>
   rw[e,if_neg (by decide)]at acc
   simp -implicitDefEqProofs(disch:=omega)only[go_sem,s0,s1,s4,s5,s6,s7,s8,s9]
   exact⟨3-(i+1),by omega,(hJ _ _ _).2 ⟨i+1,rfl,by omega,⟨s0,s1,s4,s5,s6⟩,s7,by rw[acc];exact s8,rfl,xj.trans (x4.mono xj.1)⟩⟩
 obtain rfl:i=3:=by omega
 have acc:zd2 L [zca,ziT,zhL] q 3=(opF L [zca,ziT,zhL] q).getD (0,0):=zeR
 rw[acc]at s8
 have cj:ζ'.f η.nx=_:=(xj.2 _ (by omega)).trans cq
 have dj:ζ'.f η1.nx=_:=(xj.2 _ (by omega)).trans dq
 have rj:=zhR rq xj
 have lq:=zaI rq
 cases e:opF L [zca,ziT,zhL] q with
 |none =>
  rw[e]at s8
  have s8:φ' 8=.str 0 0:=s8
  have e0':zaC 0 0 0 0=true:=rfl
  simp -implicitDefEqProofs(disch:=omega)only[go_sem,s0,s1,s4,s5,s6,s7,s8,s9,e0',cj,dj,lq]
  have wq':zff L (zb2 L G 0) [zca,ziT,zhL] false m a q=(a,q):=by
   cases m with
   |zero=>rfl
   |succ m=>unfold zff;rw[e]
  rw[wq']at wq
  rw[←wq]at k
  exact k _ _ (zbv (zbJ rj (fun q=>by have:=q.1;omega)) (fun b q=>⟨by have:=q.1;omega,by have:=q.2.1;show b<ζ'.nx;omega⟩)) (hj'.putc (by omega) (h.fresh (Nat.le_refl _))) ((Xq.of xj).putN (Nat.le_refl _))
 |some op =>
  rw[e]at s8
  have s8:φ' 8=.str op.1 op.2:=s8
  obtain⟨eo,ei⟩:=zfk e
  have e0':zaC op.1 op.2 0 0=false:=by
   revert op
   simp only[List.mem_cons,List.not_mem_nil,or_false]
   rintro op - - - ho -
   rcases ho with rfl|rfl|rfl<;>rfl
  obtain⟨he,hkk,_⟩:=zbW ei
  have hlt:=hq.k
  obtain _|m:=m
  ·have:=fq he;omega
  simp -implicitDefEqProofs(disch:=omega)only[go_sem,s0,s1,s4,s5,s6,s7,s8,s9,e0']
  refine zaa (za7 U hj' fun η5 h5 x5=>?_)
  simp -implicitDefEqProofs(disch:=omega)only[go_sem,s0,s1,s4,s5,s6,s7,s8,s9]
  refine zaa (zdG op U h5 fun η6 h6 x6=>?_)
  simp -implicitDefEqProofs(disch:=omega)only[go_sem,s0,s1,s4,s5,s6,s7,s8,s9]
  refine zaa (W η6 pb y _ _ h6 fun z8 η8 r8 h8 x8=>?_)
  have n5:=x5.1
  have n6:=x6.1
  have n8:=x8.1
  have X8:=(x5.trans x6).trans x8
  have c8:η8.f η.nx=_:=(X8.2 _ (by omega) (by omega)).trans cj
  have d8:η8.f η1.nx=_:=(X8.2 _ (by omega) (by omega)).trans dj
  have o8:η8.f (η.nx+1+1+1+1+1)=_:=(X8.2 _ (by omega) (by omega)).trans oj
  have v8:=zey rj X8 (fun q=>by have:=q.1;omega)
  have l8:=zaI r8
  have b8:=h8.hn
  obtain⟨f1,f2,f3,f4,f5,rfl⟩:=zaq rq
  obtain⟨g1,g2,g3,g4,g5,rfl⟩:=zaq r8
  simp -implicitDefEqProofs(disch:=omega)only[go_sem,s0,s1,s4,s5,s6,s7,s8,s9,c8,d8,zas,zar,zal]
  have T:rdE (fun b=>η0.nx≤b∧b<η8.nx+1+1∧b≠η1.nx) (((η8.new (.live false [.str g1.1 g1.2,.str g2.1 g2.2,.int .i64 g3,.int .i64 g4,g5])).new (.live false [.str f1.1 f1.2,.str f2.1 f2.2,.int .i64 f3,.int .i64 f4,f5,.str g1.1 g1.2,.str g2.1 g2.2,.int .i64 g3,.int .i64 g4,g5])).put η1.nx (.live false [.str op.1 op.2,.str 0 0,.int .i64 0,.int .i64 (wd L q).a,.slice (η8.nx+1) 0 2 (.kn 2)]))
    (.mk op (0,0) 0 (wd L q).a [a,(zb2 L G 0 (zdH L op q)).1]) [.str op.1 op.2,.str 0 0,.int .i64 0,.int .i64 (wd L q).a,.slice (η8.nx+1) 0 2 (.kn 2)] :=
   zdz (nm:=(0,0)) (c:=η1.nx) (pb:=pb) v8 r8 (fun b q=>⟨⟨q.1,by have:=q.2.1;omega,q.2.2⟩,by have:=q.1;omega,q.2.2⟩) (fun b q=>⟨⟨by have:=q.1;omega,by have:=q.2;omega,by have:=q.1;omega⟩,by have:=q.1;omega,by have:=q.1;omega⟩)
    (fun b q1 q2 q3=>by simp -implicitDefEqProofs(disch:=omega)only[go_sem]) (by show η8.nx≤η8.nx+1+1;omega) (by simp -implicitDefEqProofs(disch:=omega)only[go_sem]) (by show η8.nx+1<η8.nx+1+1;omega) ⟨by omega,by omega,by omega⟩
  have H:=(h8.new (z:=.live false [.str g1.1 g1.2,.str g2.1 g2.2,.int .i64 g3,.int .i64 g4,g5])).new (z:=.live false [.str f1.1 f1.2,.str f2.1 f2.2,.int .i64 f3,.int .i64 f4,f5,.str g1.1 g1.2,.str g2.1 g2.2,.int .i64 g3,.int .i64 g4,g5])
  have H:=H.putc (c:=η1.nx) (z:=.live false [.str op.1 op.2,.str 0 0,.int .i64 0,.int .i64 (wd L q).a,.slice (η8.nx+1) 0 2 (.kn 2)]) (by omega) (fun g=>h.fresh (c:=η1.nx) (by omega) g)
  have XX:=((((Xq.of xj).trans X8).new (y:=.live false [.str g1.1 g1.2,.str g2.1 g2.2,.int .i64 g3,.int .i64 g4,g5])).new (y:=.live false [.str f1.1 f1.2,.str f2.1 f2.2,.int .i64 f3,.int .i64 f4,f5,.str g1.1 g1.2,.str g2.1 g2.2,.int .i64 g3,.int .i64 g4,g5])).putN (c:=η1.nx) (y:=.live false [.str op.1 op.2,.str 0 0,.int .i64 0,.int .i64 (wd L q).a,.slice (η8.nx+1) 0 2 (.kn 2)]) (by omega)
  have wq':zff L (zb2 L G 0) [zca,ziT,zhL] false m (.mk op (0,0) 0 (wd L q).a [a,(zb2 L G 0 (zdH L op q)).1]) (zb2 L G 0 (zdH L op q)).2=zb2 L G 1 p:=by
   rw[←wq]
   conv=>rhs;unfold zff
   rw[e];rfl
  refine⟨m,Nat.lt_succ_self _,(hI _ _ _).2 ⟨_,_,_,⟨s0,s1,s4,s5,s6⟩,H,?_,if_pos rfl,?_,T,?_,XX,wq',fun e'=>?_⟩⟩
  ·simp -implicitDefEqProofs(disch:=omega)only[go_sem,c8]
  ·simp -implicitDefEqProofs(disch:=omega)only[go_sem,o8]
  ·show η2.nx≤η8.nx+1+1;omega
  ·have w1:LeP (zdH L op q) (zb2 L G 0 (zdH L op q)).2:=zeN FL _ _
   have w2:=w1 e'
   have w3:=zlX ei w2.1
   have:=fq he
   omega
end Go.Proofs.Ytkggpdaglhnonaa
namespace Go.Proofs.Ytkggpdaglhnonaa
open Go.Eng Go.Plain
set_option autoImplicit false
set_option maxRecDepth 100000
variable {nat:∀ [Deep],Nats} {L:List Wd} {d:Nat} {G:Option Fns}
set_option maxHeartbeats 4000000 in
theorem zqp (U:Usual nat) (W:zcK nat 149 L d (zrQ L G)):zcZ nat L d 5 (zb2 L G 0):=by
 intro η pb y p Q h k
 refine zam (PT:=zlo) Try.func139 rfl (U 139 (by decide)) zoZ rfl ?_
 have hn:=h.hn
 simp -implicitDefEqProofs(disch:=omega)only[go_sem]
 obtain⟨η0,e0,h0,c0,n0,X0,B0⟩:=zaV (w:=.live false [.str 0 0,.str 0 0,.int .i64 0,.int .i64 0,.nilslice]) h
 rw[←e0]
 refine zaa (W η0 pb y p _ h0 fun z1 η1 r1 h1 x1=>?_)
 have l1:=zaI r1
 have n1:=x1.1
 have c1:=(x1.2 η.nx (by omega) (by omega)).trans c0
 simp -implicitDefEqProofs(disch:=omega)only[go_sem,l1,c1]
 exact k _ _ (zbv (zbJ r1 (fun q=>by have:=q.1;omega)) (fun b q=>⟨by have:=q.1;omega,q.2⟩)) (h1.putc (by omega) (h.fresh (Nat.le_refl _))) ((X0.trans x1).putN (Nat.le_refl _))
theorem zu5 (U:Usual nat):∀m:Nat,m≤30→zfz nat L (lvl L m) (30-m)
 |0,_=>rfl
 |m+1,hm=>by
  have D:=zu5 U m (by omega)
  have FL:=zjq (L:=L) m
  have P:=zqF U FL D (zlT U D) (zpk U D)
  have V:=zvG U D P
  have B:=zt0 U D (zpW U D V)
  have A:=zpI U D (zqu U FL (zqt U FL (zqs U (zqr U FL (zqq U FL (zqp U B))))))
  have e:30-m=30-(m+1)+1:=by omega
  rw[e]at A B V P
  exact⟨by omega,A,B,V,P⟩
theorem zsY (U:Usual nat):zcK nat 104 L 0 (zbD L (lvl L 30)):=zlT U (zu5 U 30 (Nat.le_refl _))
end Go.Proofs.Ytkggpdaglhnonaa
