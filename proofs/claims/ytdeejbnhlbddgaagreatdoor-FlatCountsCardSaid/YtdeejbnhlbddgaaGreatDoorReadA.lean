/- What is proved: what the leaves of the document's reader do. how trees are kept and made in a heap; what it is to go one deeper. what the reader of an expression, and of one deeper, does. what the reader of signs ahead does. what the reader of clocks behind does. what the reader of a name, a call, does. Conditions: as each theorem says. -/
import Derived.Test.YtdeejbnhlbddgaaGreatDoorFacts
import Derived.Test.YtdeejbnhlbddgaaGreatDoorPlain
set_option linter.unusedVariables false
set_option linter.unusedSimpArgs false
set_option linter.unusedSectionVars false
namespace Go.Proofs.YtdeejbnhlbddgaaGreatDoor
open Go.Eng Go.Plain
set_option autoImplicit false
set_option maxRecDepth 100000
variable {nat:∀ [Deep],Nats}
def Usual (nat:∀ [Deep],Nats):Prop:=∀f:Nat,f∉[4]→∀ [Deep],nat f=none
variable {η:HN} {pb:Nat} {y:AV} {L:List Wd} {d:Nat} {p:PS} {Q:AV→HN→Prop}
theorem w_then (U:Usual nat) (h:PA η pb y L d p) (k:∀η',ExtB η.nx η η'→Q (.agg (wd L p).cells) η'):∃v η',CallN Tryz.prog nat 35 [.ptr pb 0] η v η'∧Q v η':=by
 refine call_of (PT:=pl35) Tryz.func35 rfl (U 35 (by decide)) ok35 rfl ?_
 obtain⟨b,off,cap,ro,row,rfl,h2,h3,h4,h5,h6⟩:=h.row
 have hb:=h.hb
 have hn:=h.hn
 have hk:=h.k
 have hg:=h.g.2.1
 have hc:(wd L p).cells=[.int .i64 (wd L p).k,.str (wd L p).t.1 (wd L p).t.2,.int .i64 (wd L p).n,.int .i64 (wd L p).a]:=rfl
 rw[hc]at k h6
 simp -implicitDefEqProofs(disch:=omega)only[go_sem,hb,h2,h6]
 refine k _ ?_
 exact .new (Nat.le_refl _)
theorem ltN_big {n m:Nat} (h:9223372036854775807<n) (hm:m<9223372036854775808):ltN .i64 n m=true:=by
 have h1:nneg .i64 n=false:=by
  cases hq:nneg .i64 n with
  |false=>rfl
  |true=>exact absurd (ble_true.1 hq) (by show¬Nat.succ n≤9223372036854775808;omega)
 have h2:nneg .i64 m=true:=ble_true.2 (show Nat.succ m≤9223372036854775808 by omega)
 unfold ltN
 rw[h1,h2];rfl
theorem fail_then (U:Usual nat) (h:PA η pb y L d p) {er:Nat} (he:0<er∧er<8) (k:∀η',PA η' pb y L d (failP L er p)→ExtX pb η η'→Q (.tup []) η'):∃v η',CallN Tryz.prog nat 36 [.ptr pb 0,.int .i64 er] η v η'∧Q v η':=by
 refine call_of (PT:=pl36) Tryz.func36 rfl (U 36 (by decide)) ok36 rfl ?_
 have hb:=h.hb
 have hn:=h.hn
 have h7:=h.e
 by_cases h0:p.e=0
 ·rw[h0]at hb
  simp -implicitDefEqProofs(disch:=omega)only[go_sem,hb]
  refine thenN_call (w_then U h fun η1 x1=>?_)
  have hb1:η1.f pb=_:=(x1.2 pb hn).trans hb
  have hc:(wd L p).cells=[.int .i64 (wd L p).k,.str (wd L p).t.1 (wd L p).t.2,.int .i64 (wd L p).n,.int .i64 (wd L p).a]:=rfl
  rw[hc]
  simp -implicitDefEqProofs(disch:=omega)only[go_sem,hb1]
  have e:failP L er p={ p with e:=er,b:=(wd L p).a }:=if_pos h0
  have X:ExtX pb η (η1.put pb (.live false [y,.int .i64 p.k,.int .i64 er,.int .i64 (wd L p).a,.int .i64 d,.int .i64 p.parts,.int .i64 p.names])):=((ExtX.refl pb η).of x1).put
  refine k _ ?_ X
  rw[e]
  exact h.put X (if_pos rfl) h.k he.2 (h.g.2.2.2 _ (wd_mem h.k)).2.2 h.q h.n
 ·simp -implicitDefEqProofs(disch:=omega)only[go_sem,hb]
  refine k _ ?_ (.refl _ _)
  rw[show failP L er p=p from if_neg h0]
  exact h
theorem is_then (U:Usual nat) (h:PA η pb y L d p) (s:S) (k:∀η',ExtB η.nx η η'→Q (.bool (isP L s p)) η'):∃v η',CallN Tryz.prog nat 97 [.ptr pb 0,.str s.1 s.2] η v η'∧Q v η':=by
 refine call_of (PT:=pl97) Tryz.func97 rfl (U 97 (by decide)) ok97 rfl ?_
 have hb:=h.hb
 have hn:=h.hn
 have h7:=h.e
 have hc:(wd L p).cells=[.int .i64 (wd L p).k,.str (wd L p).t.1 (wd L p).t.2,.int .i64 (wd L p).n,.int .i64 (wd L p).a]:=rfl
 have hk5:=(h.g.2.2.2 _ (wd_mem h.k)).1
 simp -implicitDefEqProofs(disch:=omega)only[go_sem]
 refine thenN_call (w_then U h fun η1 x1=>?_)
 have hb1:η1.f pb=_:=(x1.2 pb hn).trans hb
 have h1:=h.extB x1
 rw[hc]
 by_cases h0:p.e=0
 ·rw[h0]at hb1
  by_cases h2:(wd L p).k=2
  ·rw[h2]
   simp -implicitDefEqProofs(disch:=omega)only[go_sem,hb1]
   refine thenN_call (w_then U h1 fun η2 x2=>?_)
   rw[hc]
   simp -implicitDefEqProofs(disch:=omega)only[go_sem,strEq_S]
   have e:isP L s p=decide ((wd L p).t=s):=by unfold isP;simp [h0,h2]
   rw[←e]
   exact k _ (x1.trans (x2.mono x1.1))
  ·by_cases h4:(wd L p).k=4
   ·rw[h4]
    simp -implicitDefEqProofs(disch:=omega)only[go_sem,hb1]
    refine thenN_call (w_then U h1 fun η2 x2=>?_)
    rw[hc]
    simp -implicitDefEqProofs(disch:=omega)only[go_sem,strEq_S]
    have e:isP L s p=decide ((wd L p).t=s):=by unfold isP;simp [h0,h4]
    rw[←e]
    exact k _ (x1.trans (x2.mono x1.1))
   ·simp -implicitDefEqProofs(disch:=omega)only[go_sem,hb1]
    have e:isP L s p=false:=decide_eq_false (by omega)
    rw[←e]
    exact k _ x1
 ·have e:isP L s p=false:=decide_eq_false (by omega)
  rw[e]at k
  by_cases h2:(wd L p).k=2
  ·rw[h2]
   simp -implicitDefEqProofs(disch:=omega)only[go_sem,hb1]
   exact k _ x1
  ·simp -implicitDefEqProofs(disch:=omega)only[go_sem,hb1]
   exact k _ x1
theorem isP_lt {s:S} (h:PA η pb y L d p) (e:isP L s p=true):p.k+1<L.length:=adv_lt h.g h.k (by have:=(isP_kind e).2.1;omega)
theorem take_then (U:Usual nat) (h:PA η pb y L d p) (s:S) (k:∀η',PA η' pb y L d (takeP L s p)→ExtX pb η η'→Q (.bool (isP L s p)) η'):∃v η',CallN Tryz.prog nat 67 [.ptr pb 0,.str s.1 s.2] η v η'∧Q v η':=by
 refine call_of (PT:=pl67) Tryz.func67 rfl (U 67 (by decide)) ok67 rfl ?_
 have hb:=h.hb
 have hn:=h.hn
 have hg:=h.g.2.1
 have hk:=h.k
 simp -implicitDefEqProofs(disch:=omega)only[go_sem]
 refine thenN_call (is_then U h s fun η1 x1=>?_)
 have hb1:η1.f pb=_:=(x1.2 pb hn).trans hb
 unfold takeP at k
 cases e:isP L s p with
 |true =>
  rw[e]at k
  simp -implicitDefEqProofs(disch:=omega)only[go_sem,hb1]
  have X:ExtX pb η (η1.put pb (.live false [y,.int .i64 (p.k+1),.int .i64 p.e,.int .i64 p.b,.int .i64 d,.int .i64 p.parts,.int .i64 p.names])):=((ExtX.refl pb η).of x1).put
  refine k _ ?_ X
  exact h.put (p':=adv p) X (if_pos rfl) (isP_lt h e) h.e h.b h.q h.n
 |false =>
  rw[e]at k
  simp -implicitDefEqProofs(disch:=omega)only[go_sem,hb1]
  exact k _ (h.extB x1) ((ExtX.refl pb η).of x1)
theorem want_then (U:Usual nat) (h:PA η pb y L d p) (s:S) (k:∀η',PA η' pb y L d (wantP L s p)→ExtX pb η η'→Q (.tup []) η'):∃v η',CallN Tryz.prog nat 64 [.ptr pb 0,.str s.1 s.2] η v η'∧Q v η':=by
 refine call_of (PT:=pl64) Tryz.func64 rfl (U 64 (by decide)) ok64 rfl ?_
 simp -implicitDefEqProofs(disch:=omega)only[go_sem]
 refine thenN_call (take_then U h s fun η1 h1 x1=>?_)
 unfold wantP at k
 unfold takeP at h1
 cases e:isP L s p with
 |true =>
  rw[e]at k h1
  simp -implicitDefEqProofs(disch:=omega)only[go_sem]
  exact k _ h1 x1
 |false =>
  rw[e]at k h1
  simp -implicitDefEqProofs(disch:=omega)only[go_sem]
  refine thenN_call (fail_then U h1 (er:=7) (by omega) fun η2 h2 x2=>?_)
  simp -implicitDefEqProofs(disch:=omega)only[go_sem]
  exact k _ h2 (x1.trans x2)
theorem name_then (U:Usual nat) (h:PA η pb y L d p) (k:∀η',PA η' pb y L d (nameP L p).2→ExtX pb η η'→Q (sV (nameP L p).1) η'):∃v η',CallN Tryz.prog nat 65 [.ptr pb 0] η v η'∧Q v η':=by
 refine call_of (PT:=pl65) Tryz.func65 rfl (U 65 (by decide)) ok65 rfl ?_
 have hb:=h.hb
 have hn:=h.hn
 have hg:=h.g.2.1
 have hk:=h.k
 have h7:=h.e
 have hc:(wd L p).cells=[.int .i64 (wd L p).k,.str (wd L p).t.1 (wd L p).t.2,.int .i64 (wd L p).n,.int .i64 (wd L p).a]:=rfl
 have hk5:=(h.g.2.2.2 _ (wd_mem h.k)).1
 unfold nameP at k
 by_cases h0:p.e=0
 ·have hb0:=hb
  rw[h0]at hb0
  simp -implicitDefEqProofs(disch:=omega)only[go_sem,hb0]
  refine thenN_call (w_then U h fun η1 x1=>?_)
  have hb1:η1.f pb=_:=(x1.2 pb hn).trans hb
  have h1:=h.extB x1
  rw[hc]
  by_cases h2:(wd L p).k=1
  ·rw[if_pos ⟨h0,h2⟩]at k
   rw[h2]
   obtain⟨b,off,cap,ro,row,rfl,r2,r3,r4,r5,r6⟩:=h1.row
   rw[hc]at r6
   have r7:row[off+p.k*4+1]?=some (.str (wd L p).t.1 (wd L p).t.2):=by
    have:=congrArg (fun l=>l[1]?) r6
    simpa [List.getElem?_take,List.getElem?_drop] using this
   have r8:off+p.k*4+1<row.length:=by omega
   have r9:row.getD (off+(p.k+1-1)*4+1) und=.str (wd L p).t.1 (wd L p).t.2:=by
    rw[Nat.add_sub_cancel,List.getD_eq_getElem?_getD,r7];rfl
   simp -implicitDefEqProofs(disch:=omega)only[go_sem,hb1,r2,r9]
   have X:ExtX pb η (η1.put pb (.live false [.slice b off L.length cap,.int .i64 (p.k+1),.int .i64 p.e,.int .i64 p.b,.int .i64 d,.int .i64 p.parts,.int .i64 p.names])):=((ExtX.refl pb η).of x1).put
   refine k _ ?_ X
   exact h.put (p':=adv p) X (if_pos rfl) (adv_lt h.g h.k (by omega)) h.e h.b h.q h.n
  ·rw[if_neg (fun q=>h2 q.2)]at k
   simp -implicitDefEqProofs(disch:=omega)only[go_sem]
   refine thenN_call (fail_then U h1 (er:=7) (by omega) fun η2 h3 x2=>?_)
   simp -implicitDefEqProofs(disch:=omega)only[go_sem]
   exact k _ h3 (((ExtX.refl pb η).of x1).trans x2)
 ·rw[if_neg (fun q=>h0 q.1)]at k
  simp -implicitDefEqProofs(disch:=omega)only[go_sem,hb]
  refine thenN_call (fail_then U h (er:=7) (by omega) fun η2 h3 x2=>?_)
  simp -implicitDefEqProofs(disch:=omega)only[go_sem]
  exact k _ h3 x2
theorem part_then (U:Usual nat) (h:PA η pb y L d p) (k:∀η',PA η' pb y L d (partP L p)→ExtX pb η η'→Q (.tup []) η'):∃v η',CallN Tryz.prog nat 114 [.ptr pb 0] η v η'∧Q v η':=by
 refine call_of (PT:=pl114) Tryz.func114 rfl (U 114 (by decide)) ok114 rfl ?_
 have hb:=h.hb
 have hn:=h.hn
 have h7:=h.e
 have hq:=h.q
 have fin:∀(q:PS) (η1:HN),q.parts=p.parts→partQ L p=q→PA η1 pb y L d q→ExtX pb η η1→Q (.tup []) (η1.put pb (.live false [y,.int .i64 q.k,.int .i64 q.e,.int .i64 q.b,.int .i64 d,.int .i64 ((p.parts+1)%18446744073709551616),.int .i64 q.names])):=by
  intro q η1 e1 e2 h1 x1
  refine k _ ?_ x1.put
  have e3:partP L p={ q with parts:=(p.parts+1)%18446744073709551616 }:=by unfold partP;rw[e2]
  rw[e3]
  exact h1.put ((ExtX.refl pb η1).put) (if_pos rfl) h1.k h1.e h1.b (Nat.mod_lt _ (by omega)) h1.n
 by_cases h0:p.e=0
 ·have hb0:=hb
  rw[h0]at hb0
  by_cases h3:300≤p.parts
  ·by_cases h4:p.parts<9223372036854775808
   ·simp -implicitDefEqProofs(disch:=omega)only[go_sem,hb0]
    refine thenN_call (fail_then U h (er:=2) (by omega) fun η2 h3' x2=>?_)
    have hb2:=h3'.hb
    have e5:(failP L 2 p).parts=p.parts:=by unfold failP;rw[if_pos h0]
    rw[e5]at hb2
    simp -implicitDefEqProofs(disch:=omega)only[go_sem,hb2]
    have:=fin _ _ e5 (if_pos ⟨h0,h3,h4⟩) h3' x2
    rw[mod_64 (show p.parts+1<_ by omega)]at this
    exact this
   ·have hlt:=ltN_big (n:=p.parts) (m:=300) (by omega) (by omega)
    simp -implicitDefEqProofs(disch:=omega)only[go_sem,hb0,hlt]
    have:=fin _ _ rfl (if_neg (fun q=>h4 q.2.2)) h (.refl _ _)
    rw[h0]at this
    exact this
  ·simp -implicitDefEqProofs(disch:=omega)only[go_sem,hb0]
   have:=fin _ _ rfl (if_neg (fun q=>h3 q.2.1)) h (.refl _ _)
   rw[h0,mod_64 (show p.parts+1<_ by omega)]at this
   exact this
 ·simp -implicitDefEqProofs(disch:=omega)only[go_sem,hb]
  exact fin _ _ rfl (if_neg (fun q=>h0 q.1)) h (.refl _ _)
theorem in_then (U:Usual nat) (h:PA η pb y L d p) (hd:d≤30) (k0:p.e≠0→PA η pb y L d p→Q (.bool false) η) (k1:p.e=0→d=30→∀η',PA η' pb y L d (failP L 2 p)→ExtX pb η η'→Q (.bool false) η') (k2:p.e=0→d<30→∀η',PA η' pb y L (d+1) p→ExtX pb η η'→Q (.bool true) η'):∃v η',CallN Tryz.prog nat 99 [.ptr pb 0] η v η'∧Q v η':=by
 refine call_of (PT:=pl99) Tryz.func99 rfl (U 99 (by decide)) ok99 rfl ?_
 have hb:=h.hb
 have hn:=h.hn
 have h7:=h.e
 by_cases h0:p.e=0
 ·have hb0:=hb
  rw[h0]at hb0
  by_cases h3:d=30
  ·subst h3
   simp -implicitDefEqProofs(disch:=omega)only[go_sem,hb0]
   refine thenN_call (fail_then U h (er:=2) (by omega) fun η2 h3 x2=>?_)
   simp -implicitDefEqProofs(disch:=omega)only[go_sem]
   exact k1 h0 rfl _ h3 x2
  ·simp -implicitDefEqProofs(disch:=omega)only[go_sem,hb0]
   have X:ExtX pb η (η.put pb (.live false [y,.int .i64 p.k,.int .i64 0,.int .i64 p.b,.int .i64 (d+1),.int .i64 p.parts,.int .i64 p.names])):=(ExtX.refl pb η).put
   exact k2 h0 (by omega) _ (h.put X (by rw[h0];exact if_pos rfl) h.k h.e h.b h.q h.n) X
 ·simp -implicitDefEqProofs(disch:=omega)only[go_sem,hb]
  exact k0 h0 h
end Go.Proofs.YtdeejbnhlbddgaaGreatDoor
namespace Go.Proofs.YtdeejbnhlbddgaaGreatDoor
open Go.Eng Go.Plain
set_option autoImplicit false
set_option maxRecDepth 100000
variable {nat:∀ [Deep],Nats} {η η':HN} {pb:Nat} {y:AV} {L:List Wd} {d:Nat} {p:PS} {Q:AV→HN→Prop} {F G:Nat→Prop} {e:Tr} {z:List AV}
theorem rdE_x (r:rdE F η e z) (x:ExtX pb η η') (hp:¬F pb):rdE F η' e z:=rdE_keep (fun b hF hb=>x.2 b hb (fun e=>hp (e▸hF))) x.1 (fun _ h=>h) _ _ r
theorem rdE_b (r:rdE F η e z) (x:ExtB η.nx η η'):rdE F η' e z:=rdE_keep (fun b _ hb=>x.2 b hb) x.1 (fun _ h=>h) _ _ r
theorem rdE_put {c:Nat} {w:BN} (r:rdE F η e z) (hc:¬F c):rdE F (η.put c w) e z:=rdE_keep (η:=η) (η':=η.put c w) (fun b hF _=>by show(if b=c then w else η.f b)=η.f b;exact if_neg (fun q:b=c=>hc (q▸hF))) (Nat.le_refl _) (fun _ h=>h) _ _ r
theorem rdE_new {w:BN} (r:rdE F η e z):rdE F (η.new w) e z:=rdE_b r (.new (Nat.le_refl _))
theorem rdE_mono (r:rdE F η e z) (h:∀b,F b→G b):rdE G η e z:=rdE_keep (fun _ _ _=>rfl) (Nat.le_refl _) h _ _ r
theorem rdE_cells (r:rdE F η e z):∃(a b:S) (c d:Nat) (y:AV),z=[.str a.1 a.2,.str b.1 b.2,.int .i64 c,.int .i64 d,y]:=by
 cases e with
 |mk op nm n a ks =>
  unfold rdE at r
  obtain⟨y,rfl,_⟩:=r
  exact⟨op,nm,n,a,y,rfl⟩
theorem rdE_0:rdE F η E0 [.str 0 0,.str 0 0,.int .i64 0,.int .i64 0,.nilslice]:=by
 unfold E0 rdE
 exact⟨.nilslice,rfl,fun _ h=>h.elim,[],.inl ⟨rfl,.inl rfl⟩,by unfold rdEs;rfl⟩
theorem rdE_leaf {op nm:S} {n a:Nat}:rdE F η (.mk op nm n a []) [.str op.1 op.2,.str nm.1 nm.2,.int .i64 n,.int .i64 a,.nilslice]:=by
 unfold rdE
 exact⟨.nilslice,rfl,fun _ h=>h.elim,[],.inl ⟨rfl,.inl rfl⟩,by unfold rdEs;rfl⟩
theorem rdE_node {op nm:S} {n a b m:Nat} {cap:Cp} {ks:List Tr} {ls:List (List AV)} {row:List AV} (hF:F b) (hb:η.f b=.live false row) (hr:row=ls.flatten) (hm:m=ls.length) (hn:b<η.nx) (h:rdEs F η ks ls) :
  rdE F η (.mk op nm n a ks) [.str op.1 op.2,.str nm.1 nm.2,.int .i64 n,.int .i64 a,.slice b 0 m cap]:=by
 subst hr
 subst hm
 unfold rdE
 exact⟨_,rfl,fun c hc=>by obtain rfl:b=c:=hc;exact hF,ls,RdR.blk ls hb hn (rdEs_len h).2,h⟩
theorem rdEs1 {e1:Tr} {z1:List AV} (h1:rdE F η e1 z1):rdEs F η [e1] [z1]:=by
 unfold rdEs;exact⟨z1,[],rfl,h1,by unfold rdEs;rfl⟩
theorem rdEs2 {e1 e2:Tr} {z1 z2:List AV} (h1:rdE F η e1 z1) (h2:rdE F η e2 z2):rdEs F η [e1,e2] [z1,z2]:=by
 unfold rdEs;exact⟨z1,[z2],rfl,h1,rdEs1 h2⟩
theorem rdEs3 {e1 e2 e3:Tr} {z1 z2 z3:List AV} (h1:rdE F η e1 z1) (h2:rdE F η e2 z2) (h3:rdE F η e3 z3):rdEs F η [e1,e2,e3] [z1,z2,z3]:=by
 unfold rdEs;exact⟨z1,[z2,z3],rfl,h1,rdEs2 h2 h3⟩
theorem cell_new {w:BN} (h:PA η pb y L d p):∃η1,η1=η.new w∧PA η1 pb y L d p∧η1.f η.nx=w∧η1.nx=η.nx+1∧ExtX pb η η1∧ExtB η.nx η η1:=⟨_,rfl,h.new,if_pos rfl,rfl,(ExtX.refl _ _).new,.new (Nat.le_refl _)⟩
def FnSpec (nat:∀ [Deep],Nats) (f:FuncId) (L:List Wd) (d:Nat) (φ:PS→Tr×PS):Prop :=
 ∀(η:HN) (pb:Nat) (y:AV) (p:PS) (Q:AV→HN→Prop),PA η pb y L d p→(∀z η',rdE (rng η.nx η'.nx) η' (φ p).1 z→PA η' pb y L d (φ p).2→ExtX pb η η'→Q (.agg z) η')→∃v η',CallN Tryz.prog nat f [.ptr pb 0] η v η'∧Q v η'
def RowSpec (nat:∀ [Deep],Nats) (L:List Wd) (d lv:Nat) (φ:PS→Tr×PS):Prop :=
 ∀(η:HN) (pb:Nat) (y:AV) (p:PS) (Q:AV→HN→Prop),PA η pb y L d p→(∀z η',rdE (rng η.nx η'.nx) η' (φ p).1 z→PA η' pb y L d (φ p).2→ExtX pb η η'→Q (.agg z) η')→∃v η',CallN Tryz.prog nat 113 [.ptr pb 0,.int .i64 lv] η v η'∧Q v η'
def DeepF (nat:∀ [Deep],Nats) (L:List Wd) (d:Nat) (F:Fns):Prop:=FnSpec nat 100 L (d+1) F.arrow∧FnSpec nat 121 L (d+1) F.fby∧FnSpec nat 132 L (d+1) F.un∧FnSpec nat 135 L (d+1) F.prim
def DeepOK (nat:∀ [Deep],Nats) (L:List Wd) (G:Option Fns) (d:Nat):Prop:=match G with|none=>d=30|some F=>d<30∧DeepF nat L d F
theorem inG_then {G:Option Fns} (U:Usual nat) (D:DeepOK nat L G d) (h:PA η pb y L d p) (k0:inn G p=none→∀η',PA η' pb y L d (outn L G p)→ExtX pb η η'→Q (.bool false) η')
  (k1:∀F,inn G p=some F→DeepF nat L d F→∀η',PA η' pb y L (d+1) p→ExtX pb η η'→Q (.bool true) η'):∃v η',CallN Tryz.prog nat 99 [.ptr pb 0] η v η'∧Q v η':=by
 have hd:d≤30:=by
  cases G with
  |none=>exact Nat.le_of_eq D
  |some F=>exact Nat.le_of_lt D.1
 refine in_then U h hd (fun h0 h1=>?_) (fun h0 h3 η' h1 x1=>?_) (fun h0 h3 η' h1 x1=>?_)
 ·have e1:inn G p=none:=if_neg h0
  have e2:outn L G p=p:=by
   unfold outn
   cases G with
   |none=>exact if_neg h0
   |some F=>rfl
  refine k0 e1 η ?_ (.refl _ _)
  rw[e2];exact h1
 ·cases G with
  |none=>exact k0 (by unfold inn;rw[if_pos h0]) η' h1 x1
  |some F=>exact absurd h3 (by have:=D.1;omega)
 ·cases G with
  |none =>
   have:d=30:=D
   omega
  |some F=>exact k1 F (by unfold inn;rw[if_pos h0]) D.2 η' h1 x1
theorem rdE_far {c:Nat} (r:rdE F η e z) (hk:∀b,b<η.nx→b≠pb→b≠c→η'.f b=η.f b) (hn:η.nx≤η'.nx) (p1:∀b,F b→G b∧b≠pb∧b≠c):rdE G η' e z :=
 rdE_keep (fun b hF hb=>hk b hb (p1 b hF).2.1 (p1 b hF).2.2) hn (fun b hF=>(p1 b hF).1) _ _ r
theorem rdE_fin1 {c b:Nat} {F1:Nat→Prop} {e1:Tr} {z1:List AV} {op nm:S} {n a:Nat} {cap:Cp} (r1:rdE F1 η e1 z1) (p1:∀b,F1 b→G b∧b≠pb∧b≠c)
  (hk:∀b,b<η.nx→b≠pb→b≠c→η'.f b=η.f b) (hn:η.nx≤η'.nx) (hb:η'.f b=.live false z1) (hbn:b<η'.nx) (hG:G b) :
  rdE G η' (.mk op nm n a [e1]) [.str op.1 op.2,.str nm.1 nm.2,.int .i64 n,.int .i64 a,.slice b 0 1 cap] :=
 rdE_node (ls:=[z1]) hG hb (by simp) rfl hbn (rdEs1 (rdE_far r1 hk hn p1))
theorem rdE_fin2 {c b:Nat} {F1 F2:Nat→Prop} {e1 e2:Tr} {z1 z2:List AV} {op nm:S} {n a:Nat} {cap:Cp} (r1:rdE F1 η e1 z1) (r2:rdE F2 η e2 z2) (p1:∀b,F1 b→G b∧b≠pb∧b≠c) (p2:∀b,F2 b→G b∧b≠pb∧b≠c)
  (hk:∀b,b<η.nx→b≠pb→b≠c→η'.f b=η.f b) (hn:η.nx≤η'.nx) (hb:η'.f b=.live false (z1++z2)) (hbn:b<η'.nx) (hG:G b) :
  rdE G η' (.mk op nm n a [e1,e2]) [.str op.1 op.2,.str nm.1 nm.2,.int .i64 n,.int .i64 a,.slice b 0 2 cap] :=
 rdE_node (ls:=[z1,z2]) hG hb (by simp) rfl hbn (rdEs2 (rdE_far r1 hk hn p1) (rdE_far r2 hk hn p2))
theorem rdE_fin3 {c b:Nat} {F1 F2 F3:Nat→Prop} {e1 e2 e3:Tr} {z1 z2 z3:List AV} {op nm:S} {n a:Nat} {cap:Cp} (r1:rdE F1 η e1 z1) (r2:rdE F2 η e2 z2) (r3:rdE F3 η e3 z3) (p1:∀b,F1 b→G b∧b≠pb∧b≠c) (p2:∀b,F2 b→G b∧b≠pb∧b≠c) (p3:∀b,F3 b→G b∧b≠pb∧b≠c)
  (hk:∀b,b<η.nx→b≠pb→b≠c→η'.f b=η.f b) (hn:η.nx≤η'.nx) (hb:η'.f b=.live false (z1++(z2++z3))) (hbn:b<η'.nx) (hG:G b) :
  rdE G η' (.mk op nm n a [e1,e2,e3]) [.str op.1 op.2,.str nm.1 nm.2,.int .i64 n,.int .i64 a,.slice b 0 3 cap] :=
 rdE_node (ls:=[z1,z2,z3]) hG hb (by simp) rfl hbn (rdEs3 (rdE_far r1 hk hn p1) (rdE_far r2 hk hn p2) (rdE_far r3 hk hn p3))
theorem own_keep {s lo n:Nat} {x:AV} {l:List AV} (o:OwnA s lo η x n l) (hk:∀b,lo≤b→b<η.nx→η'.f b=η.f b) (hn:η.nx≤η'.nx):OwnA s lo η' x n l:=by
 obtain⟨q0,q|⟨c,q1,q2,q3⟩⟩:=o
 ·exact⟨q0,.inl q⟩
 ·refine⟨q0,.inr ⟨c,q1,by omega,?_⟩⟩
  rw[hk c q1 q2];exact q3
theorem own_at {s lo n b:Nat} {x:AV} {l:List AV} (o:OwnA s lo η x n l) (hb:blkIs x b):lo≤b∧b<η.nx:=by
 obtain⟨_,⟨rfl,_⟩|⟨c,h1,h2,⟨rfl,_⟩|⟨rfl,_⟩⟩⟩:=o
 ·exact hb.elim
 ·obtain rfl:c=b:=hb;exact⟨h1,h2⟩
 ·obtain rfl:c=b:=hb;exact⟨h1,h2⟩
theorem own_rdR {s lo:Nat} {x:AV} {ls:List (List AV)} (o:OwnA s lo η x ls.length ls.flatten) (hl:∀l∈ls,l.length=s):RdR s η x ls:=by
 obtain⟨q0,⟨rfl,q⟩|⟨c,q1,q2,⟨rfl,q3,_⟩|⟨rfl,q3⟩⟩⟩:=o
 ·exact .inl ⟨List.eq_nil_of_length_eq_zero q,.inl rfl⟩
 ·exact .inl ⟨List.eq_nil_of_length_eq_zero q3,.inr ⟨_,_,_,rfl⟩⟩
 ·exact RdR.blk ls q3 q2 hl
theorem flatten_snoc {α:Type} (ls:List (List α)) (l:List α):(ls++[l]).flatten=ls.flatten++l:=by
 rw[List.flatten_append];simp
theorem rdEs_keep' {ks:List Tr} {ls:List (List AV)} (hk:∀b,F b→b<η.nx→η'.f b=η.f b) (hn:η.nx≤η'.nx) (hG:∀b,F b→G b) (r:rdEs F η ks ls):rdEs G η' ks ls:=rdEs_keep hk hn hG _ _ r
theorem rdE_own {lo:Nat} {op nm:S} {n a:Nat} {x:AV} {ks:List Tr} {ls:List (List AV)} (o:OwnA 5 lo η x ls.length ls.flatten) (r:rdEs F η ks ls) (h1:∀b,F b→G b) (h2:∀b,lo≤b→b<η.nx→G b) :
  rdE G η (.mk op nm n a ks) [.str op.1 op.2,.str nm.1 nm.2,.int .i64 n,.int .i64 a,x]:=by
 unfold rdE
 exact⟨x,rfl,fun b hb=>h2 b (own_at o hb).1 (own_at o hb).2,ls,own_rdR o (rdEs_len r).2,rdEs_keep' (fun _ _ _=>rfl) (Nat.le_refl _) h1 r⟩
section
variable {C:Go.Eng.Spec} {dd:Option Nat} {φ:FN}
theorem thenN_sep {s w base n m:Nat} {η0:HN} {x y:AV} {l k:List AV} {kk:FN→HN→Prop} (hs:0<s) (hx:OwnA s base η x n l) (hy:RdA s η y m k) (hm:0<m) (hlen:(n+m)*w≤140737488355328) (hb:base≤η.nx)
  (h:∀η',OwnA s base η' (.slice η.nx 0 (n+m) (.un s)) (n+m) (l++k)→η'.nx=η.nx+1→(∀b,b<η.nx→¬blkIs x b→η'.f b=η.f b)→kk (putN dd (.slice η.nx 0 (n+m) (.un s)) φ) η'):thenN C (apSrcN s w x y η) η0 dd kk φ:=by
 obtain⟨η',e,o,hn,hk⟩:=app_sep (w:=w) hs hx hy hm hlen hb
 rw[e]
 exact h η' o hn hk
end
end Go.Proofs.YtdeejbnhlbddgaaGreatDoor
namespace Go.Proofs.YtdeejbnhlbddgaaGreatDoor
open Go.Eng Go.Plain
set_option autoImplicit false
set_option maxRecDepth 100000
variable {nat:∀ [Deep],Nats} {L:List Wd} {d:Nat} {G:Option Fns}
theorem deep_le (D:DeepOK nat L G d):d≤30:=by
 cases G with
 |none=>exact Nat.le_of_eq D
 |some F=>exact Nat.le_of_lt D.1
theorem expr_spec (U:Usual nat) (D:DeepOK nat L G d):FnSpec nat 69 L d (exprF L G):=by
 intro η pb y p Q h k
 have hd:=deep_le D
 refine call_of (PT:=pl69) Tryz.func69 rfl (U 69 (by decide)) ok69 rfl ?_
 have hn:=h.hn
 simp -implicitDefEqProofs(disch:=omega)only[go_sem]
 obtain⟨η0,e0,h0,c0,n0,X0,B0⟩:=cell_new (w:=.live false [.str 0 0,.str 0 0,.int .i64 0,.int .i64 0,.nilslice]) h
 rw[←e0]
 refine thenN_call (inG_then U D h0 (fun i1 η1 h1 x1=>?_) (fun F i1 D1 η1 h1 x1=>?_))
 ·have c1:=(x1.2 η.nx (by omega) (by omega)).trans c0
  simp -implicitDefEqProofs(disch:=omega)only[go_sem,c1]
  have e:exprF L G p=(E0,outn L G p):=by unfold exprF goIn;rw[i1]
  rw[e]at k
  exact k _ _ rdE_0 (h1.putc (by omega) (h.fresh (Nat.le_refl _))) ((X0.trans x1).putN (Nat.le_refl _))
 ·have c1:=(x1.2 η.nx (by omega) (by omega)).trans c0
  simp -implicitDefEqProofs(disch:=omega)only[go_sem]
  refine thenN_call (D1.1 η1 pb y p _ h1 fun z2 η2 r2 h2 x2=>?_)
  have l2:=rdE_len r2
  have n1:=x1.1
  have n2:=x2.1
  have c2:=(x2.2 η.nx (by omega) (by omega)).trans c1
  have b2:=h2.hb
  have m2:=h2.hn
  simp -implicitDefEqProofs(disch:=omega)only[go_sem,l2,b2,c2]
  have e:exprF L G p=F.arrow p:=by unfold exprF goIn;rw[i1]
  rw[e]at k
  refine k _ _ (rdE_mono (rdE_put (rdE_put (rdE_new r2) (fun q=>by have:=q.1;omega)) (fun q=>by have:=q.1;omega)) (fun b q=>⟨by have:=q.1;omega,by have:=q.2;show b<η2.nx+1;omega⟩)) ?_ ?_
  ·exact(h2.new.setd (d':=d)).putc (by omega) (h.fresh (Nat.le_refl _))
  ·exact((((X0.trans x1).trans x2).new).put).putN (Nat.le_refl _)
theorem inner_spec (U:Usual nat) (D:DeepOK nat L G d):FnSpec nat 136 L d (innerF L G):=by
 intro η pb y p Q h k
 have hd:=deep_le D
 refine call_of (PT:=pl136) Tryz.func136 rfl (U 136 (by decide)) ok136 rfl ?_
 have hn:=h.hn
 simp -implicitDefEqProofs(disch:=omega)only[go_sem]
 obtain⟨η0,e0,h0,c0,n0,X0,B0⟩:=cell_new (w:=.live false [.str 0 0,.str 0 0,.int .i64 0,.int .i64 0,.nilslice]) h
 rw[←e0]
 refine thenN_call (inG_then U D h0 (fun i1 η1 h1 x1=>?_) (fun F i1 D1 η1 h1 x1=>?_))
 ·have c1:=(x1.2 η.nx (by omega) (by omega)).trans c0
  simp -implicitDefEqProofs(disch:=omega)only[go_sem,c1]
  have e:innerF L G p=(E0,outn L G p):=by unfold innerF goIn;rw[i1]
  rw[e]at k
  exact k _ _ rdE_0 (h1.putc (by omega) (h.fresh (Nat.le_refl _))) ((X0.trans x1).putN (Nat.le_refl _))
 ·have c1:=(x1.2 η.nx (by omega) (by omega)).trans c0
  simp -implicitDefEqProofs(disch:=omega)only[go_sem]
  refine thenN_call (D1.2.2.2 η1 pb y p _ h1 fun z2 η2 r2 h2 x2=>?_)
  have l2:=rdE_len r2
  have n1:=x1.1
  have n2:=x2.1
  have c2:=(x2.2 η.nx (by omega) (by omega)).trans c1
  have b2:=h2.hb
  have m2:=h2.hn
  simp -implicitDefEqProofs(disch:=omega)only[go_sem,l2,b2,c2]
  have e:innerF L G p=F.prim p:=by unfold innerF goIn;rw[i1]
  rw[e]at k
  refine k _ _ (rdE_mono (rdE_put (rdE_put (rdE_new r2) (fun q=>by have:=q.1;omega)) (fun q=>by have:=q.1;omega)) (fun b q=>⟨by have:=q.1;omega,by have:=q.2;show b<η2.nx+1;omega⟩)) ?_ ?_
  ·exact(h2.new.setd (d':=d)).putc (by omega) (h.fresh (Nat.le_refl _))
  ·exact((((X0.trans x1).trans x2).new).put).putN (Nat.le_refl _)
theorem eat_then {η:HN} {pb:Nat} {y:AV} {p:PS} (s:S) {Q:AV→HN→Prop} (U:Usual nat) (h:PA η pb y L d (partP L p)) (k:∀η',PA η' pb y L d (eatP L s p)→ExtX pb η η'→Q (.bool (isP L s (partP L p))) η'):∃v η',CallN Tryz.prog nat 67 [.ptr pb 0,.str s.1 s.2] η v η'∧Q v η':=take_then U h s k
theorem fby_spec (U:Usual nat) (D:DeepOK nat L G d) (W:FnSpec nat 126 L d (whenF L G)):FnSpec nat 121 L d (fbyF L G):=by
 intro η pb y p Q h k
 have hd:=deep_le D
 refine call_of (PT:=pl121) Tryz.func121 rfl (U 121 (by decide)) ok121 rfl ?_
 have hn:=h.hn
 simp -implicitDefEqProofs(disch:=omega)only[go_sem]
 obtain⟨η0,e0,h0,c0,n0,X0,B0⟩:=cell_new (w:=.live false [.str 0 0,.str 0 0,.int .i64 0,.int .i64 0,.nilslice]) h
 rw[←e0]
 refine thenN_call (W η0 pb y p _ h0 fun z1 η1 r1 h1 x1=>?_)
 have l1:=rdE_len r1
 have n1:=x1.1
 have c1:=(x1.2 η.nx (by omega) (by omega)).trans c0
 simp -implicitDefEqProofs(disch:=omega)only[go_sem,l1]
 obtain⟨η2,e2,h2,c2,n2,X2,B2⟩:=cell_new (w:=.live false z1) h1
 rw[←e2]
 refine thenN_call (w_then U h2 fun η3 x3=>?_)
 have hc:(wd L (whenF L G p).2).cells=[.int .i64 (wd L (whenF L G p).2).k,.str (wd L (whenF L G p).2).t.1 (wd L (whenF L G p).2).t.2,.int .i64 (wd L (whenF L G p).2).n,.int .i64 (wd L (whenF L G p).2).a]:=rfl
 rw[hc]
 simp -implicitDefEqProofs(disch:=omega)only[go_sem]
 refine thenN_call (is_then U (h2.extB x3) sFby fun η4 x4=>?_)
 have n3:=x3.1
 have n4:=x4.1
 have x34:=x3.trans (x4.mono x3.1)
 have h4:=h2.extB x34
 have c4:η4.f η.nx=_:=(x34.2 _ (by omega)).trans (((B2.2 _ (by omega))).trans c1)
 have d4:η4.f η1.nx=_:=(x34.2 _ (by omega)).trans c2
 have X4:ExtX pb η1 η4:=X2.of x34
 have r4:=rdE_x r1 X4 (fun q=>by have:=q.1;omega)
 unfold fbyF at k
 dsimp only at k
 cases e:isP L sFby (whenF L G p).2 with
 |false =>
  rw[e]at k
  simp -implicitDefEqProofs(disch:=omega)only[go_sem,c4,d4,l1]
  refine k _ _ (rdE_mono (rdE_put r4 (fun q=>by have:=q.1;omega)) (fun b q=>⟨by have:=q.1;omega,by have:=q.2;show b<η4.nx;omega⟩)) (h4.putc (by omega) (h.fresh (Nat.le_refl _))) (((X0.trans x1).trans X4).putN (Nat.le_refl _))
 |true =>
  rw[e]at k
  simp -implicitDefEqProofs(disch:=omega)only[go_sem]
  refine thenN_call (part_then U h4 fun η5 h5 x5=>?_)
  simp -implicitDefEqProofs(disch:=omega)only[go_sem]
  refine thenN_call (eat_then sFby U h5 fun η6 h6 x6=>?_)
  simp -implicitDefEqProofs(disch:=omega)only[go_sem]
  refine thenN_call (inG_then U D h6 (fun i7 η7 h7 x7=>?_) (fun F i7 D7 η7 h7 x7=>?_))
  ·have n5:=x5.1
   have n6:=x6.1
   have c7:η7.f η.nx=_:=(((x5.trans x6).trans x7).2 _ (by omega) (by omega)).trans c4
   simp -implicitDefEqProofs(disch:=omega)only[go_sem,c7]
   unfold goIn at k
   rw[if_pos rfl,i7]at k
   exact k _ _ rdE_0 (h7.putc (by omega) (h.fresh (Nat.le_refl _))) ((((((X0.trans x1).trans X4).trans x5).trans x6).trans x7).putN (Nat.le_refl _))
  ·have n5:=x5.1
   have n6:=x6.1
   have n7:=x7.1
   have X7:=(x5.trans x6).trans x7
   simp -implicitDefEqProofs(disch:=omega)only[go_sem]
   refine thenN_call (D7.2.1 η7 pb y _ _ h7 fun z8 η8 r8 h8 x8=>?_)
   have n8:=x8.1
   have X8:=X7.trans x8
   have c8:η8.f η.nx=_:=(X8.2 _ (by omega) (by omega)).trans c4
   have d8:η8.f η1.nx=_:=(X8.2 _ (by omega) (by omega)).trans d4
   have b8:=h8.hb
   have m8:=h8.hn
   have l8:=rdE_len r8
   have s1:=rdE_x r4 X8 (fun q=>by have:=q.1;omega)
   obtain⟨a1,a2,a3,a4,a5,rfl⟩:=rdE_cells r1
   obtain⟨f1,f2,f3,f4,f5,rfl⟩:=rdE_cells r8
   simp -implicitDefEqProofs(disch:=omega)only[go_sem,l8,b8,c8,d8,repL_s,repL_z,setsL_c]
   unfold goIn at k
   rw[if_pos rfl,i7]at k
   refine k _ _ (rdE_fin2 (c:=η.nx) (pb:=pb) s1 r8 (fun b q=>⟨⟨by have:=q.1;omega,by have:=q.2;show b<η8.nx+1+1;omega⟩,by have:=q.1;omega,by have:=q.1;omega⟩) (fun b q=>⟨⟨by have:=q.1;omega,by have:=q.2;show b<η8.nx+1+1;omega⟩,by have:=q.1;omega,by have:=q.1;omega⟩)
    (fun b q1 q2 q3=>by simp -implicitDefEqProofs(disch:=omega)only[go_sem]) (by show η8.nx≤η8.nx+1+1;omega) (by simp -implicitDefEqProofs(disch:=omega)only[go_sem]) (by show η8.nx+1<η8.nx+1+1;omega) ⟨by omega,by show η8.nx+1<η8.nx+1+1;omega⟩) ?_ ?_
   ·exact(h8.new.setd (d':=d)).new.putc (by omega) (h.fresh (Nat.le_refl _))
   ·exact(((((X0.trans x1).trans X4).trans X8).new.put).new).putN (Nat.le_refl _)
theorem arrow_spec (U:Usual nat) (D:DeepOK nat L G d) (W:RowSpec nat L d 0 (rowF L G 5)):FnSpec nat 100 L d (arrowF L G):=by
 intro η pb y p Q h k
 have hd:=deep_le D
 refine call_of (PT:=pl100) Tryz.func100 rfl (U 100 (by decide)) ok100 rfl ?_
 have hn:=h.hn
 simp -implicitDefEqProofs(disch:=omega)only[go_sem]
 obtain⟨η0,e0,h0,c0,n0,X0,B0⟩:=cell_new (w:=.live false [.str 0 0,.str 0 0,.int .i64 0,.int .i64 0,.nilslice]) h
 rw[←e0]
 refine thenN_call (W η0 pb y p _ h0 fun z1 η1 r1 h1 x1=>?_)
 have l1:=rdE_len r1
 have n1:=x1.1
 have c1:=(x1.2 η.nx (by omega) (by omega)).trans c0
 simp -implicitDefEqProofs(disch:=omega)only[go_sem,l1]
 obtain⟨η2,e2,h2,c2,n2,X2,B2⟩:=cell_new (w:=.live false z1) h1
 rw[←e2]
 refine thenN_call (w_then U h2 fun η3 x3=>?_)
 have hc:(wd L (rowF L G 5 p).2).cells=[.int .i64 (wd L (rowF L G 5 p).2).k,.str (wd L (rowF L G 5 p).2).t.1 (wd L (rowF L G 5 p).2).t.2,.int .i64 (wd L (rowF L G 5 p).2).n,.int .i64 (wd L (rowF L G 5 p).2).a]:=rfl
 rw[hc]
 simp -implicitDefEqProofs(disch:=omega)only[go_sem]
 refine thenN_call (is_then U (h2.extB x3) sArrow fun η4 x4=>?_)
 have n3:=x3.1
 have n4:=x4.1
 have x34:=x3.trans (x4.mono x3.1)
 have h4:=h2.extB x34
 have c4:η4.f η.nx=_:=(x34.2 _ (by omega)).trans (((B2.2 _ (by omega))).trans c1)
 have d4:η4.f η1.nx=_:=(x34.2 _ (by omega)).trans c2
 have X4:ExtX pb η1 η4:=X2.of x34
 have r4:=rdE_x r1 X4 (fun q=>by have:=q.1;omega)
 unfold arrowF at k
 dsimp only at k
 cases e:isP L sArrow (rowF L G 5 p).2 with
 |false =>
  rw[e]at k
  simp -implicitDefEqProofs(disch:=omega)only[go_sem,c4,d4,l1]
  refine k _ _ (rdE_mono (rdE_put r4 (fun q=>by have:=q.1;omega)) (fun b q=>⟨by have:=q.1;omega,by have:=q.2;show b<η4.nx;omega⟩)) (h4.putc (by omega) (h.fresh (Nat.le_refl _))) (((X0.trans x1).trans X4).putN (Nat.le_refl _))
 |true =>
  rw[e]at k
  simp -implicitDefEqProofs(disch:=omega)only[go_sem]
  refine thenN_call (part_then U h4 fun η5 h5 x5=>?_)
  simp -implicitDefEqProofs(disch:=omega)only[go_sem]
  refine thenN_call (eat_then sArrow U h5 fun η6 h6 x6=>?_)
  simp -implicitDefEqProofs(disch:=omega)only[go_sem]
  refine thenN_call (inG_then U D h6 (fun i7 η7 h7 x7=>?_) (fun F i7 D7 η7 h7 x7=>?_))
  ·have n5:=x5.1
   have n6:=x6.1
   have c7:η7.f η.nx=_:=(((x5.trans x6).trans x7).2 _ (by omega) (by omega)).trans c4
   simp -implicitDefEqProofs(disch:=omega)only[go_sem,c7]
   unfold goIn at k
   rw[if_pos rfl,i7]at k
   exact k _ _ rdE_0 (h7.putc (by omega) (h.fresh (Nat.le_refl _))) ((((((X0.trans x1).trans X4).trans x5).trans x6).trans x7).putN (Nat.le_refl _))
  ·have n5:=x5.1
   have n6:=x6.1
   have n7:=x7.1
   have X7:=(x5.trans x6).trans x7
   simp -implicitDefEqProofs(disch:=omega)only[go_sem]
   refine thenN_call (D7.1 η7 pb y _ _ h7 fun z8 η8 r8 h8 x8=>?_)
   have n8:=x8.1
   have X8:=X7.trans x8
   have c8:η8.f η.nx=_:=(X8.2 _ (by omega) (by omega)).trans c4
   have d8:η8.f η1.nx=_:=(X8.2 _ (by omega) (by omega)).trans d4
   have b8:=h8.hb
   have m8:=h8.hn
   have l8:=rdE_len r8
   have s1:=rdE_x r4 X8 (fun q=>by have:=q.1;omega)
   obtain⟨a1,a2,a3,a4,a5,rfl⟩:=rdE_cells r1
   obtain⟨f1,f2,f3,f4,f5,rfl⟩:=rdE_cells r8
   simp -implicitDefEqProofs(disch:=omega)only[go_sem,l8,b8,c8,d8,repL_s,repL_z,setsL_c]
   unfold goIn at k
   rw[if_pos rfl,i7]at k
   refine k _ _ (rdE_fin2 (c:=η.nx) (pb:=pb) s1 r8 (fun b q=>⟨⟨by have:=q.1;omega,by have:=q.2;show b<η8.nx+1+1;omega⟩,by have:=q.1;omega,by have:=q.1;omega⟩) (fun b q=>⟨⟨by have:=q.1;omega,by have:=q.2;show b<η8.nx+1+1;omega⟩,by have:=q.1;omega,by have:=q.1;omega⟩)
    (fun b q1 q2 q3=>by simp -implicitDefEqProofs(disch:=omega)only[go_sem]) (by show η8.nx≤η8.nx+1+1;omega) (by simp -implicitDefEqProofs(disch:=omega)only[go_sem]) (by show η8.nx+1<η8.nx+1+1;omega) ⟨by omega,by show η8.nx+1<η8.nx+1+1;omega⟩) ?_ ?_
   ·exact(h8.new.setd (d':=d)).new.putc (by omega) (h.fresh (Nat.le_refl _))
   ·exact(((((X0.trans x1).trans X4).trans X8).new.put).new).putN (Nat.le_refl _)
end Go.Proofs.YtdeejbnhlbddgaaGreatDoor
namespace Go.Proofs.YtdeejbnhlbddgaaGreatDoor
open Go.Eng Go.Plain
set_option autoImplicit false
set_option maxRecDepth 100000
variable {nat:∀ [Deep],Nats} {L:List Wd} {d:Nat} {G:Option Fns}
set_option maxHeartbeats 4000000 in
theorem un_spec (U:Usual nat) (D:DeepOK nat L G d) (W:FnSpec nat 135 L d (primF L G)):FnSpec nat 132 L d (unF L G):=by
 intro η pb y p Q h k
 have hd:=deep_le D
 refine call_of (PT:=pl132) Tryz.func132 rfl (U 132 (by decide)) ok132 rfl ?_
 have hn:=h.hn
 simp -implicitDefEqProofs(disch:=omega)only[go_sem]
 obtain⟨η0,e0,h0,c0,n0,X0,B0⟩:=cell_new (w:=.live false [.str 0 0,.str 0 0,.int .i64 0,.int .i64 0,.nilslice]) h
 rw[←e0]
 refine thenN_call (w_then U h0 fun η1 x1=>?_)
 have hc:(wd L p).cells=[.int .i64 (wd L p).k,.str (wd L p).t.1 (wd L p).t.2,.int .i64 (wd L p).n,.int .i64 (wd L p).a]:=rfl
 rw[hc]
 have h1:=h0.extB x1
 have n1:=x1.1
 have c1:η1.f η.nx=_:=(x1.2 _ (by omega)).trans c0
 have X1:=X0.of x1
 simp -implicitDefEqProofs(disch:=omega)only[go_sem]
 unfold unF at k
 refine thenN_call (is_then U h1 sNot fun η2 x2=>?_)
 have n2:=x2.1
 have h2:=h1.extB x2
 have X2:=X1.of x2
 have c2:η2.f η.nx=_:=(x2.2 _ (by omega)).trans c1
 cases e2:isP L sNot p with
 |true =>
  rw[e2,if_pos rfl]at k
  simp -implicitDefEqProofs(disch:=omega)only[go_sem]
  have e0':strEq 3 7630702 0 0=false:=rfl
  simp -implicitDefEqProofs(disch:=omega)only[go_sem,e0']
  refine thenN_call (part_then U h2 fun η5 h5 x5=>?_)
  have n5:=x5.1
  have c5:η5.f η.nx=_:=(x5.2 _ (by omega) (by omega)).trans c2
  have b5:=h5.hb
  have m5:=h5.hn
  have q5:=h5.e
  have k5:=h5.k
  have g5:=h5.g.2.1
  unfold unGo at k
  by_cases z5:(partP L p).e=0
  ·rw[if_pos z5]at k
   rw[z5]at b5
   simp -implicitDefEqProofs(disch:=omega)only[go_sem,b5]
   have w5:(wd L p).k≠0:=by have:=(isP_kind e2).2.1;omega
   have a5:(partP L p).k=p.k:=by
    unfold partP partQ failP
    split<;>(try split)<;>rfl
   have h6:PA (η5.put pb (.live false [y,.int .i64 ((partP L p).k+1),.int .i64 0,.int .i64 (partP L p).b,.int .i64 d,.int .i64 (partP L p).parts,.int .i64 (partP L p).names])) pb y L d (adv (partP L p)) :=
    h5.put (p':=adv (partP L p)) (ExtX.refl pb η5).put (by rw[←z5];exact if_pos rfl) (by show(partP L p).k+1<_;rw[a5];exact adv_lt h.g h.k w5) h5.e h5.b h5.q h5.n
   have c6:(η5.put pb (.live false [y,.int .i64 ((partP L p).k+1),.int .i64 0,.int .i64 (partP L p).b,.int .i64 d,.int .i64 (partP L p).parts,.int .i64 (partP L p).names])).f η.nx=_:=(if_neg (by omega)).trans c5
   have X6:ExtX pb η (η5.put pb (.live false [y,.int .i64 ((partP L p).k+1),.int .i64 0,.int .i64 (partP L p).b,.int .i64 d,.int .i64 (partP L p).parts,.int .i64 (partP L p).names])):=(X2.trans x5).put
   have n6:(η5.put pb (.live false [y,.int .i64 ((partP L p).k+1),.int .i64 0,.int .i64 (partP L p).b,.int .i64 d,.int .i64 (partP L p).parts,.int .i64 (partP L p).names])).nx=η5.nx:=rfl
   generalize η5.put pb (.live false [y,.int .i64 ((partP L p).k+1),.int .i64 0,.int .i64 (partP L p).b,.int .i64 d,.int .i64 (partP L p).parts,.int .i64 (partP L p).names])=η6 at *
   refine thenN_call (inG_then U D h6 (fun i7 η7 h7 x7=>?_) (fun F i7 D7 η7 h7 x7=>?_))
   ·have c7:η7.f η.nx=_:=(x7.2 _ (by omega) (by omega)).trans c6
    simp -implicitDefEqProofs(disch:=omega)only[go_sem,c7]
    unfold goIn at k
    rw[i7]at k
    exact k _ _ rdE_0 (h7.putc (by omega) (h.fresh (Nat.le_refl _))) ((X6.trans x7).putN (Nat.le_refl _))
   ·have n7:=x7.1
    simp -implicitDefEqProofs(disch:=omega)only[go_sem]
    refine thenN_call (D7.2.2.1 η7 pb y _ _ h7 fun z8 η8 r8 h8 x8=>?_)
    have n8:=x8.1
    have X8:=x7.trans x8
    have c8:η8.f η.nx=_:=(X8.2 _ (by omega) (by omega)).trans c6
    have b8:=h8.hb
    have m8:=h8.hn
    have l8:=rdE_len r8
    obtain⟨f1,f2,f3,f4,f5,rfl⟩:=rdE_cells r8
    simp -implicitDefEqProofs(disch:=omega)only[go_sem,l8,b8,c8,repL_s,repL_z,setsL_c]
    unfold goIn at k
    rw[i7]at k
    refine k _ _ (rdE_fin1 (c:=η.nx) (pb:=pb) r8 (fun b q=>⟨⟨by have:=q.1;omega,by have:=q.2;show b<η8.nx+1+1;omega⟩,by have:=q.1;omega,by have:=q.1;omega⟩)
     (fun b q1 q2 q3=>by simp -implicitDefEqProofs(disch:=omega)only[go_sem]) (by show η8.nx≤η8.nx+1+1;omega) (by simp -implicitDefEqProofs(disch:=omega)only[go_sem]) (by show η8.nx+1<η8.nx+1+1;omega) ⟨by omega,by show η8.nx+1<η8.nx+1+1;omega⟩) ?_ ?_
    ·exact(h8.new.setd (d':=d)).new.putc (by omega) (h.fresh (Nat.le_refl _))
    ·exact(((X6.trans X8).new.put).new).putN (Nat.le_refl _)
  ·rw[if_neg z5]at k
   simp -implicitDefEqProofs(disch:=omega)only[go_sem,b5,c5]
   exact k _ _ rdE_0 (h5.putc (by omega) (h.fresh (Nat.le_refl _))) ((X2.trans x5).putN (Nat.le_refl _))
 |false =>
  rw[e2,if_neg (by decide)]at k
  simp -implicitDefEqProofs(disch:=omega)only[go_sem]
  refine thenN_call (is_then U h2 sMinus fun η3 x3=>?_)
  have n3:=x3.1
  have h3:=h2.extB x3
  have X3:=X2.of x3
  have c3:η3.f η.nx=_:=(x3.2 _ (by omega)).trans c2
  cases e3:isP L sMinus p with
  |true =>
   rw[e3,if_pos rfl]at k
   simp -implicitDefEqProofs(disch:=omega)only[go_sem]
   have e0':strEq 3 6776174 0 0=false:=rfl
   simp -implicitDefEqProofs(disch:=omega)only[go_sem,e0']
   refine thenN_call (part_then U h3 fun η5 h5 x5=>?_)
   have n5:=x5.1
   have c5:η5.f η.nx=_:=(x5.2 _ (by omega) (by omega)).trans c3
   have b5:=h5.hb
   have m5:=h5.hn
   have q5:=h5.e
   have k5:=h5.k
   have g5:=h5.g.2.1
   unfold unGo at k
   by_cases z5:(partP L p).e=0
   ·rw[if_pos z5]at k
    rw[z5]at b5
    simp -implicitDefEqProofs(disch:=omega)only[go_sem,b5]
    have w5:(wd L p).k≠0:=by have:=(isP_kind e3).2.1;omega
    have a5:(partP L p).k=p.k:=by
     unfold partP partQ failP
     split<;>(try split)<;>rfl
    have h6:PA (η5.put pb (.live false [y,.int .i64 ((partP L p).k+1),.int .i64 0,.int .i64 (partP L p).b,.int .i64 d,.int .i64 (partP L p).parts,.int .i64 (partP L p).names])) pb y L d (adv (partP L p)) :=
     h5.put (p':=adv (partP L p)) (ExtX.refl pb η5).put (by rw[←z5];exact if_pos rfl) (by show(partP L p).k+1<_;rw[a5];exact adv_lt h.g h.k w5) h5.e h5.b h5.q h5.n
    have c6:(η5.put pb (.live false [y,.int .i64 ((partP L p).k+1),.int .i64 0,.int .i64 (partP L p).b,.int .i64 d,.int .i64 (partP L p).parts,.int .i64 (partP L p).names])).f η.nx=_:=(if_neg (by omega)).trans c5
    have X6:ExtX pb η (η5.put pb (.live false [y,.int .i64 ((partP L p).k+1),.int .i64 0,.int .i64 (partP L p).b,.int .i64 d,.int .i64 (partP L p).parts,.int .i64 (partP L p).names])):=(X3.trans x5).put
    have n6:(η5.put pb (.live false [y,.int .i64 ((partP L p).k+1),.int .i64 0,.int .i64 (partP L p).b,.int .i64 d,.int .i64 (partP L p).parts,.int .i64 (partP L p).names])).nx=η5.nx:=rfl
    generalize η5.put pb (.live false [y,.int .i64 ((partP L p).k+1),.int .i64 0,.int .i64 (partP L p).b,.int .i64 d,.int .i64 (partP L p).parts,.int .i64 (partP L p).names])=η6 at *
    refine thenN_call (inG_then U D h6 (fun i7 η7 h7 x7=>?_) (fun F i7 D7 η7 h7 x7=>?_))
    ·have c7:η7.f η.nx=_:=(x7.2 _ (by omega) (by omega)).trans c6
     simp -implicitDefEqProofs(disch:=omega)only[go_sem,c7]
     unfold goIn at k
     rw[i7]at k
     exact k _ _ rdE_0 (h7.putc (by omega) (h.fresh (Nat.le_refl _))) ((X6.trans x7).putN (Nat.le_refl _))
    ·have n7:=x7.1
     simp -implicitDefEqProofs(disch:=omega)only[go_sem]
     refine thenN_call (D7.2.2.1 η7 pb y _ _ h7 fun z8 η8 r8 h8 x8=>?_)
     have n8:=x8.1
     have X8:=x7.trans x8
     have c8:η8.f η.nx=_:=(X8.2 _ (by omega) (by omega)).trans c6
     have b8:=h8.hb
     have m8:=h8.hn
     have l8:=rdE_len r8
     obtain⟨f1,f2,f3,f4,f5,rfl⟩:=rdE_cells r8
     simp -implicitDefEqProofs(disch:=omega)only[go_sem,l8,b8,c8,repL_s,repL_z,setsL_c]
     unfold goIn at k
     rw[i7]at k
     refine k _ _ (rdE_fin1 (c:=η.nx) (pb:=pb) r8 (fun b q=>⟨⟨by have:=q.1;omega,by have:=q.2;show b<η8.nx+1+1;omega⟩,by have:=q.1;omega,by have:=q.1;omega⟩)
      (fun b q1 q2 q3=>by simp -implicitDefEqProofs(disch:=omega)only[go_sem]) (by show η8.nx≤η8.nx+1+1;omega) (by simp -implicitDefEqProofs(disch:=omega)only[go_sem]) (by show η8.nx+1<η8.nx+1+1;omega) ⟨by omega,by show η8.nx+1<η8.nx+1+1;omega⟩) ?_ ?_
     ·exact(h8.new.setd (d':=d)).new.putc (by omega) (h.fresh (Nat.le_refl _))
     ·exact(((X6.trans X8).new.put).new).putN (Nat.le_refl _)
   ·rw[if_neg z5]at k
    simp -implicitDefEqProofs(disch:=omega)only[go_sem,b5,c5]
    exact k _ _ rdE_0 (h5.putc (by omega) (h.fresh (Nat.le_refl _))) ((X3.trans x5).putN (Nat.le_refl _))
  |false =>
   rw[e3,if_neg (by decide)]at k
   simp -implicitDefEqProofs(disch:=omega)only[go_sem]
   refine thenN_call (is_then U h3 sPre fun η4 x4=>?_)
   have n4:=x4.1
   have h4:=h3.extB x4
   have X4:=X3.of x4
   have c4:η4.f η.nx=_:=(x4.2 _ (by omega)).trans c3
   cases e4:isP L sPre p with
   |true =>
    rw[e4,if_pos rfl]at k
    simp -implicitDefEqProofs(disch:=omega)only[go_sem]
    have e0':strEq 3 6648432 0 0=false:=rfl
    simp -implicitDefEqProofs(disch:=omega)only[go_sem,e0']
    refine thenN_call (part_then U h4 fun η5 h5 x5=>?_)
    have n5:=x5.1
    have c5:η5.f η.nx=_:=(x5.2 _ (by omega) (by omega)).trans c4
    have b5:=h5.hb
    have m5:=h5.hn
    have q5:=h5.e
    have k5:=h5.k
    have g5:=h5.g.2.1
    unfold unGo at k
    by_cases z5:(partP L p).e=0
    ·rw[if_pos z5]at k
     rw[z5]at b5
     simp -implicitDefEqProofs(disch:=omega)only[go_sem,b5]
     have w5:(wd L p).k≠0:=by have:=(isP_kind e4).2.1;omega
     have a5:(partP L p).k=p.k:=by
      unfold partP partQ failP
      split<;>(try split)<;>rfl
     have h6:PA (η5.put pb (.live false [y,.int .i64 ((partP L p).k+1),.int .i64 0,.int .i64 (partP L p).b,.int .i64 d,.int .i64 (partP L p).parts,.int .i64 (partP L p).names])) pb y L d (adv (partP L p)) :=
      h5.put (p':=adv (partP L p)) (ExtX.refl pb η5).put (by rw[←z5];exact if_pos rfl) (by show(partP L p).k+1<_;rw[a5];exact adv_lt h.g h.k w5) h5.e h5.b h5.q h5.n
     have c6:(η5.put pb (.live false [y,.int .i64 ((partP L p).k+1),.int .i64 0,.int .i64 (partP L p).b,.int .i64 d,.int .i64 (partP L p).parts,.int .i64 (partP L p).names])).f η.nx=_:=(if_neg (by omega)).trans c5
     have X6:ExtX pb η (η5.put pb (.live false [y,.int .i64 ((partP L p).k+1),.int .i64 0,.int .i64 (partP L p).b,.int .i64 d,.int .i64 (partP L p).parts,.int .i64 (partP L p).names])):=(X4.trans x5).put
     have n6:(η5.put pb (.live false [y,.int .i64 ((partP L p).k+1),.int .i64 0,.int .i64 (partP L p).b,.int .i64 d,.int .i64 (partP L p).parts,.int .i64 (partP L p).names])).nx=η5.nx:=rfl
     generalize η5.put pb (.live false [y,.int .i64 ((partP L p).k+1),.int .i64 0,.int .i64 (partP L p).b,.int .i64 d,.int .i64 (partP L p).parts,.int .i64 (partP L p).names])=η6 at *
     refine thenN_call (inG_then U D h6 (fun i7 η7 h7 x7=>?_) (fun F i7 D7 η7 h7 x7=>?_))
     ·have c7:η7.f η.nx=_:=(x7.2 _ (by omega) (by omega)).trans c6
      simp -implicitDefEqProofs(disch:=omega)only[go_sem,c7]
      unfold goIn at k
      rw[i7]at k
      exact k _ _ rdE_0 (h7.putc (by omega) (h.fresh (Nat.le_refl _))) ((X6.trans x7).putN (Nat.le_refl _))
     ·have n7:=x7.1
      simp -implicitDefEqProofs(disch:=omega)only[go_sem]
      refine thenN_call (D7.2.2.1 η7 pb y _ _ h7 fun z8 η8 r8 h8 x8=>?_)
      have n8:=x8.1
      have X8:=x7.trans x8
      have c8:η8.f η.nx=_:=(X8.2 _ (by omega) (by omega)).trans c6
      have b8:=h8.hb
      have m8:=h8.hn
      have l8:=rdE_len r8
      obtain⟨f1,f2,f3,f4,f5,rfl⟩:=rdE_cells r8
      simp -implicitDefEqProofs(disch:=omega)only[go_sem,l8,b8,c8,repL_s,repL_z,setsL_c]
      unfold goIn at k
      rw[i7]at k
      refine k _ _ (rdE_fin1 (c:=η.nx) (pb:=pb) r8 (fun b q=>⟨⟨by have:=q.1;omega,by have:=q.2;show b<η8.nx+1+1;omega⟩,by have:=q.1;omega,by have:=q.1;omega⟩)
       (fun b q1 q2 q3=>by simp -implicitDefEqProofs(disch:=omega)only[go_sem]) (by show η8.nx≤η8.nx+1+1;omega) (by simp -implicitDefEqProofs(disch:=omega)only[go_sem]) (by show η8.nx+1<η8.nx+1+1;omega) ⟨by omega,by show η8.nx+1<η8.nx+1+1;omega⟩) ?_ ?_
      ·exact(h8.new.setd (d':=d)).new.putc (by omega) (h.fresh (Nat.le_refl _))
      ·exact(((X6.trans X8).new.put).new).putN (Nat.le_refl _)
    ·rw[if_neg z5]at k
     simp -implicitDefEqProofs(disch:=omega)only[go_sem,b5,c5]
     exact k _ _ rdE_0 (h5.putc (by omega) (h.fresh (Nat.le_refl _))) ((X4.trans x5).putN (Nat.le_refl _))
   |false =>
    rw[e4,if_neg (by decide)]at k
    simp -implicitDefEqProofs(disch:=omega)only[go_sem]
    have e0':strEq 0 0 0 0=true:=rfl
    simp -implicitDefEqProofs(disch:=omega)only[go_sem,e0']
    refine thenN_call (W η4 pb y p _ h4 fun z5 η5 r5 h5 x5=>?_)
    have l5:=rdE_len r5
    have n5:=x5.1
    have c5:η5.f η.nx=_:=(x5.2 _ (by omega) (by omega)).trans c4
    simp -implicitDefEqProofs(disch:=omega)only[go_sem,c5,l5]
    exact k _ _ (rdE_mono (rdE_put r5 (fun q=>by have:=q.1;omega)) (fun b q=>⟨by have:=q.1;omega,q.2⟩)) (h5.putc (by omega) (h.fresh (Nat.le_refl _))) ((X4.trans x5).putN (Nat.le_refl _))
end Go.Proofs.YtdeejbnhlbddgaaGreatDoor
namespace Go.Proofs.YtdeejbnhlbddgaaGreatDoor
open Go.Eng Go.Plain
set_option autoImplicit false
set_option maxRecDepth 100000
variable {nat:∀ [Deep],Nats} {L:List Wd} {d:Nat} {G:Option Fns}
set_option maxHeartbeats 4000000 in
theorem when_spec (U:Usual nat) (D:DeepOK nat L G d) (W:FnSpec nat 132 L d (unF L G)):FnSpec nat 126 L d (whenF L G):=by
 intro η pb y p Q h k
 have hd:=deep_le D
 refine call_of (PT:=pl126) Tryz.func126 rfl (U 126 (by decide)) ok126 rfl ?_
 have hn:=h.hn
 simp -implicitDefEqProofs(disch:=omega)only[go_sem]
 obtain⟨η0,e0,h0,c0,n0,X0,B0⟩:=cell_new (w:=.live false [.str 0 0,.str 0 0,.int .i64 0,.int .i64 0,.nilslice]) h
 rw[←e0]
 refine thenN_call (W η0 pb y p _ h0 fun z1 η1 r1 h1 x1=>?_)
 have l1:=rdE_len r1
 have n1:=x1.1
 have c1:=(x1.2 η.nx (by omega) (by omega)).trans c0
 simp -implicitDefEqProofs(disch:=omega)only[go_sem,l1]
 obtain⟨η2,e2,h2,c2,n2,X2,B2⟩:=cell_new (w:=.live false z1) h1
 rw[←e2]
 obtain⟨I,hI⟩:∃I:Nat→FN→HN→Prop,∀m φ ζ,I m φ ζ↔∃a z q,φ 0=.ptr pb 0∧φ 2=.ptr η.nx 0∧φ 3=.ptr η1.nx 0∧PA ζ pb y L d q ∧
   ζ.f η.nx=.live false [.str 0 0,.str 0 0,.int .i64 0,.int .i64 0,.nilslice]∧ζ.f η1.nx=.live false z∧rdE (fun b=>η0.nx≤b∧b<ζ.nx∧b≠η1.nx) ζ a z∧η2.nx≤ζ.nx∧ExtX pb η ζ ∧
   whenL L m a q=whenF L G p∧(q.e=0→L.length≤q.k+m):=⟨_,fun _ _ _=>Iff.rfl⟩
 refine wpN_loop I L.length ((hI _ _ _).2 ⟨_,z1,_,rfl,rfl,rfl,h2,?_,c2,rdE_keep (fun b _ hb=>B2.2 b hb) B2.1 (fun b q=>⟨q.1,by have:=q.2;omega,by have:=q.2;omega⟩) _ _ r1,Nat.le_refl _,(X0.trans x1).trans X2,rfl,fun _=>Nat.le_add_left _ _⟩) ?_
 ·exact(B2.2 _ (by omega)).trans c1
 intro m φ ζ hi
 obtain⟨a,z,q,p0,p2,p3,hq,cq,dq,rq,nq,Xq,wq,fq⟩:=(hI _ _ _).1 hi
 have lq:=rdE_len rq
 have hqn:=hq.hn
 simp -implicitDefEqProofs(disch:=omega)only[go_sem,p0]
 refine thenN_call (is_then U hq sWhen fun η3 x3=>?_)
 have h3:=hq.extB x3
 have n3:=x3.1
 have c3:η3.f η.nx=_:=(x3.2 _ (by omega)).trans cq
 have d3:η3.f η1.nx=_:=(x3.2 _ (by omega)).trans dq
 have r3:=rdE_b rq x3
 cases e:isP L sWhen q with
 |false =>
  simp -implicitDefEqProofs(disch:=omega)only[go_sem,p0,p2,p3,c3,d3,lq]
  rw[whenL_stop e]at wq
  rw[←wq]at k
  exact k _ _ (rdE_mono (rdE_put r3 (fun q=>by have:=q.1;omega)) (fun b q=>⟨by have:=q.1;omega,by have:=q.2.1;show b<η3.nx;omega⟩)) (h3.putc (by omega) (h.fresh (Nat.le_refl _))) ((Xq.of x3).putN (Nat.le_refl _))
 |true =>
  obtain⟨he,hkk,_⟩:=isP_kind e
  have hlt:=hq.k
  obtain _|m:=m
  ·have:=fq he;omega
  have wq':whenL L m (.mk sWhen (whenS L q).1.2 (whenS L q).1.1 (wd L q).a [a]) (whenS L q).2=whenF L G p:=by
   rw[←wq]
   conv=>rhs;unfold whenL
   rw[e];rfl
  have fq':(whenS L q).2.e=0→L.length≤(whenS L q).2.k+m:=fun e'=>by
   have:=whenS_k e e'
   have:=fq he
   omega
  simp -implicitDefEqProofs(disch:=omega)only[go_sem,p0]
  refine thenN_call (w_then U h3 fun η4 x4=>?_)
  have hc:(wd L q).cells=[.int .i64 (wd L q).k,.str (wd L q).t.1 (wd L q).t.2,.int .i64 (wd L q).n,.int .i64 (wd L q).a]:=rfl
  rw[hc]
  simp -implicitDefEqProofs(disch:=omega)only[go_sem,p0]
  refine thenN_call (part_then U (h3.extB x4) fun η5 h5 x5=>?_)
  simp -implicitDefEqProofs(disch:=omega)only[go_sem,p0]
  refine thenN_call (eat_then sWhen U h5 fun η6 h6 x6=>?_)
  simp -implicitDefEqProofs(disch:=omega)only[go_sem,p0]
  refine thenN_call (take_then U h6 sNot fun η7 h7 x7=>?_)
  have n4:=x4.1
  have n5:=x5.1
  have n6:=x6.1
  have n7:=x7.1
  cases e7:isP L sNot (eatP L sWhen q) with
  |true =>
   simp -implicitDefEqProofs(disch:=omega)only[go_sem,p0]
   refine thenN_call (name_then U h7 fun η8 h8 x8=>?_)
   have n8:=x8.1
   have X8:=((x5.trans x6).trans x7).trans x8
   have X38:ExtX pb η3 η8:=⟨by omega,fun b hb hc=>(X8.2 b (by omega) hc).trans (x4.2 b hb)⟩
   have c8:η8.f η.nx=_:=(X38.2 _ (by omega) (by omega)).trans c3
   have d8:η8.f η1.nx=_:=(X38.2 _ (by omega) (by omega)).trans d3
   have r8:=rdE_x r3 X38 (fun q=>by have:=q.1;omega)
   obtain⟨f1,f2,f3,f4,f5,rfl⟩:=rdE_cells r8
   simp -implicitDefEqProofs(disch:=omega)only[go_sem,p0,p2,p3,c8,d8,repL_s,repL_z,setsL_c,sV]
   refine⟨m,Nat.lt_succ_self _,(hI _ _ _).2 ⟨_,_,_,p0,p2,p3,(h8.new).putc (by omega) (fun g=>h.fresh (c:=η1.nx) (by omega) g),?_,if_pos rfl,?_,?_,?_,wq',fq'⟩⟩
   ·simp -implicitDefEqProofs(disch:=omega)only[go_sem,c8]
   ·have e9:(whenS L q).1.1=0:=by show(if isP L sNot (eatP L sWhen q)=true then 0 else 1)=0;rw[e7];rfl
    rw[e9]
    exact rdE_fin1 (c:=η1.nx) (pb:=pb) r8 (fun b q=>⟨⟨q.1,by have:=q.2.1;show b<η8.nx+1;omega,q.2.2⟩,by have:=q.1;omega,q.2.2⟩)
     (fun b q1 q2 q3=>by simp -implicitDefEqProofs(disch:=omega)only[go_sem]) (by show η8.nx≤η8.nx+1;omega) (by simp -implicitDefEqProofs(disch:=omega)only[go_sem]) (by show η8.nx<η8.nx+1;omega) ⟨by omega,by show η8.nx<η8.nx+1;omega,by omega⟩
   ·show η2.nx≤η8.nx+1;omega
   ·exact(((Xq.of x3).trans X38).new).putN (by omega)
  |false =>
   simp -implicitDefEqProofs(disch:=omega)only[go_sem,p0]
   refine thenN_call (name_then U h7 fun η8 h8 x8=>?_)
   have n8:=x8.1
   have X8:=((x5.trans x6).trans x7).trans x8
   have X38:ExtX pb η3 η8:=⟨by omega,fun b hb hc=>(X8.2 b (by omega) hc).trans (x4.2 b hb)⟩
   have c8:η8.f η.nx=_:=(X38.2 _ (by omega) (by omega)).trans c3
   have d8:η8.f η1.nx=_:=(X38.2 _ (by omega) (by omega)).trans d3
   have r8:=rdE_x r3 X38 (fun q=>by have:=q.1;omega)
   obtain⟨f1,f2,f3,f4,f5,rfl⟩:=rdE_cells r8
   simp -implicitDefEqProofs(disch:=omega)only[go_sem,p0,p2,p3,c8,d8,repL_s,repL_z,setsL_c,sV]
   refine⟨m,Nat.lt_succ_self _,(hI _ _ _).2 ⟨_,_,_,p0,p2,p3,(h8.new).putc (by omega) (fun g=>h.fresh (c:=η1.nx) (by omega) g),?_,if_pos rfl,?_,?_,?_,wq',fq'⟩⟩
   ·simp -implicitDefEqProofs(disch:=omega)only[go_sem,c8]
   ·have e9:(whenS L q).1.1=1:=by show(if isP L sNot (eatP L sWhen q)=true then 0 else 1)=1;rw[e7];rfl
    rw[e9]
    exact rdE_fin1 (c:=η1.nx) (pb:=pb) r8 (fun b q=>⟨⟨q.1,by have:=q.2.1;show b<η8.nx+1;omega,q.2.2⟩,by have:=q.1;omega,q.2.2⟩)
     (fun b q1 q2 q3=>by simp -implicitDefEqProofs(disch:=omega)only[go_sem]) (by show η8.nx≤η8.nx+1;omega) (by simp -implicitDefEqProofs(disch:=omega)only[go_sem]) (by show η8.nx<η8.nx+1;omega) ⟨by omega,by show η8.nx<η8.nx+1;omega,by omega⟩
   ·show η2.nx≤η8.nx+1;omega
   ·exact(((Xq.of x3).trans X38).new).putN (by omega)
end Go.Proofs.YtdeejbnhlbddgaaGreatDoor
namespace Go.Proofs.YtdeejbnhlbddgaaGreatDoor
open Go.Eng Go.Plain
set_option autoImplicit false
set_option maxRecDepth 100000
variable {nat:∀ [Deep],Nats} {L:List Wd} {d:Nat} {G:Option Fns}
set_option maxHeartbeats 8000000 in
theorem prim_spec (U:Usual nat) (FL:FnsLe G) (D:DeepOK nat L G d) (E:FnSpec nat 69 L d (exprF L G)) (I:FnSpec nat 136 L d (innerF L G)):FnSpec nat 135 L d (primF L G):=by
 intro η pb y p Q h k
 have hd:=deep_le D
 refine call_of (PT:=pl135) Tryz.func135 rfl (U 135 (by decide)) ok135 rfl ?_
 have hn:=h.hn
 have hc:(wd L p).cells=[.int .i64 (wd L p).k,.str (wd L p).t.1 (wd L p).t.2,.int .i64 (wd L p).n,.int .i64 (wd L p).a]:=rfl
 have hk5:=(h.g.2.2.2 _ (wd_mem h.k)).1
 obtain⟨M,hM⟩:∃M:FN→HN→Prop,∀φ ζ,M φ ζ↔φ 0=.ptr pb 0∧φ 2=.ptr η.nx 0∧(∃c3,η.nx<c3∧c3<ζ.nx∧φ 3=.ptr c3 0∧ζ.f c3=.live false (wd L p).cells)∧PA ζ pb y L d (primQ L p) ∧
   ζ.f η.nx=.live false [.str 0 0,.str 0 0,.int .i64 0,.int .i64 0,.nilslice]∧ExtX pb η ζ∧primF L G p=restF L G (wd L p) (primQ L p):=⟨_,fun _ _=>Iff.rfl⟩
 refine wp_cut (M:=M) 4 _ _ _ ?_ ?_
 ·intro φ ζ hm
  obtain⟨p0,p2,⟨c3,g1,g2,p3,dq⟩,hq,cq,Xq,eq⟩:=(hM _ _).1 hm
  rw[eq]at k
  rw[hc]at dq
  have hcq:primF L G p=restF L G (wd L p) (primQ L p):=eq
  have kq:(primQ L p).k=p.k:=primQ_k
  have wq:wd L (primQ L p)=wd L p:=by unfold wd;rw[kq]
  generalize hqq:primQ L p=q at *
  have hqn:=hq.hn
  have hqb:=hq.hb
  have hq7:=hq.e
  have hqg:=hq.g.2.1
  have hqk:=hq.k
  have cy:¬blkIs y η.nx:=h.fresh (Nat.le_refl _)
  simp -implicitDefEqProofs(disch:=omega)only[tailC_s,tailC_z]
  obtain⟨M2,hM2⟩:∃M2:FN→HN→Prop,∀φ ζ,M2 φ ζ↔φ 0=.ptr pb 0∧φ 2=.ptr η.nx 0∧φ 3=.ptr c3 0∧c3<ζ.nx∧ζ.f c3=.live false [.int .i64 (wd L p).k,.str (wd L p).t.1 (wd L p).t.2,.int .i64 (wd L p).n,.int .i64 (wd L p).a]∧PA ζ pb y L d q ∧
    ζ.f η.nx=.live false [.str 0 0,.str 0 0,.int .i64 0,.int .i64 0,.nilslice]∧ExtX pb η ζ∧restF L G (wd L p) q=varF L G (wd L p).a q:=⟨_,fun _ _=>Iff.rfl⟩
  refine wp_cut (M:=M2) 1 _ _ _ ?_ ?_
  ·intro φ ζ hm
   clear cq dq Xq hq hqn hqb g2 p0 p2 p3
   obtain⟨p0,p2,p3,g2,dq,hq,cq,Xq,eR⟩:=(hM2 _ _).1 hm
   have hqn:=hq.hn
   rw[eR]at k
   simp -implicitDefEqProofs(disch:=omega)only[tailC_s,tailC_z]
   obtain⟨M3,hM3⟩:∃M3:FN→HN→Prop,∀φ ζ,M3 φ ζ↔∃c12 lo x l ls q',φ 0=.ptr pb 0∧φ 2=.ptr η.nx 0∧φ 12=.ptr c12 0∧(η.nx<c12∧c12<lo∧lo≤ζ.nx)∧PA ζ pb y L d q'∧ζ.f η.nx=.live false [.str 0 0,.str 0 0,.int .i64 0,.int .i64 0,.nilslice] ∧
     ζ.f c12=.live false [.str 4 1819042147,.str (nameP L q).1.1 (nameP L q).1.2,.int .i64 0,.int .i64 (wd L p).a,x]∧OwnA 5 lo ζ x ls.length ls.flatten∧rdEs (fun b=>lo≤b∧b<ζ.nx∧¬blkIs x b) ζ l ls∧ExtX pb η ζ ∧
     varF L G (wd L p).a q=(.mk sCall (nameP L q).1 0 (wd L p).a l,wantP L sRp q'):=⟨_,fun _ _=>Iff.rfl⟩
   refine wp_cut (M:=M3) 5 _ _ _ ?_ ?_
   ·intro φ ζ hm
    obtain⟨c12,lo,x,l,ls,q',p0,p2,p12,⟨g1,g2,g3⟩,hq,cq,dq,oq,rq,Xq,eV⟩:=(hM3 _ _).1 hm
    rw[eV]at k
    have hqn:=hq.hn
    simp -implicitDefEqProofs(disch:=omega)only[go_sem,p0]
    refine thenN_call (want_then U hq sRp fun η4 h4 x4=>?_)
    have n4:=x4.1
    have c4:η4.f η.nx=_:=(x4.2 _ (by omega) (by omega)).trans cq
    have d4:η4.f c12=_:=(x4.2 _ (by omega) (by omega)).trans dq
    have o4:=own_keep oq (fun b hb hc=>x4.2 b hc (by omega)) n4
    have r4:=rdEs_keep' (G:=fun b=>lo≤b∧b<ζ.nx∧¬blkIs x b) (fun b q hc=>x4.2 b hc (by have:=q.1;omega)) n4 (fun _ h=>h) rq
    simp -implicitDefEqProofs(disch:=omega)only[go_sem,p0,p2,p12,c4,d4]
    have T:rdE (fun b=>lo≤b∧b<η4.nx) η4 (.mk sCall (nameP L q).1 0 (wd L p).a l) _:=rdE_own o4 r4 (fun b q=>⟨q.1,by have:=q.2.1;omega⟩) (fun b h1 h2=>⟨h1,h2⟩)
    exact k _ _ (rdE_mono (rdE_put T (fun q=>by have:=q.1;omega)) (fun b q=>⟨by have:=q.1;omega,q.2⟩)) (h4.putc (by omega) cy) ((Xq.trans x4).putN (Nat.le_refl _))
   simp -implicitDefEqProofs(disch:=omega)only[go_sem,p0]
   refine thenN_call (name_then U hq fun η4 h4 x4=>?_)
   have n4:=x4.1
   simp -implicitDefEqProofs(disch:=omega)only[go_sem,p0]
   refine thenN_call (take_then U h4 sLp fun η5 h5 x5=>?_)
   have n5:=x5.1
   have X5:=x4.trans x5
   have c5:η5.f η.nx=_:=(X5.2 _ (by omega) (by omega)).trans cq
   have d5:η5.f c3=_:=(X5.2 _ (by omega) (by omega)).trans dq
   unfold takeP at h5
   cases e5:isP L sLp (nameP L q).2 with
   |false =>
    rw[e5,if_neg (by decide)]at h5
    have eV:varF L G (wd L p).a q=(.mk sVar (nameP L q).1 0 (wd L p).a [],(nameP L q).2):=if_neg (by rw[e5];decide)
    rw[eV]at k
    simp -implicitDefEqProofs(disch:=omega)only[go_sem,p0,p2,p3,c5,d5,sV]
    exact k _ _ (rdE_leaf (op:=sVar)) (h5.putc (by omega) cy) ((Xq.trans X5).putN (Nat.le_refl _))
   |true =>
   rw[e5,if_pos rfl]at h5
   have eV:varF L G (wd L p).a q=callF L G (wd L p).a (nameP L q).1 (adv (nameP L q).2):=if_pos e5
   simp -implicitDefEqProofs(disch:=omega)only[go_sem,p0,p2,p3,c5,d5,sV]
   obtain⟨η6,e6,h6,c6,n6,X6,B6⟩:=cell_new (w:=.live false [.str 4 1819042147,.str (nameP L q).1.1 (nameP L q).1.2,.int .i64 0,.int .i64 (wd L p).a,.nilslice]) h5
   rw[←e6]
   refine thenN_call (take_then U h6 sRp fun η7 h7 x7=>?_)
   have n7:=x7.1
   have c7:η7.f η.nx=_:=(x7.2 _ (by omega) (by omega)).trans ((B6.2 _ (by omega)).trans c5)
   have d7:η7.f η5.nx=_:=(x7.2 _ (by omega) (by omega)).trans c6
   have X7:=((Xq.trans X5).trans X6).trans x7
   unfold takeP at h7
   cases e7:isP L sRp (adv (nameP L q).2) with
   |true =>
    rw[e7,if_pos rfl]at h7
    have eV2:varF L G (wd L p).a q=(.mk sCall (nameP L q).1 0 (wd L p).a [],adv (adv (nameP L q).2)):=eV.trans (if_pos e7)
    rw[eV2]at k
    simp -implicitDefEqProofs(disch:=omega)only[go_sem,p0,p2,p3,c7,d7]
    exact k _ _ (rdE_leaf (op:=sCall)) (h7.putc (by omega) cy) (X7.putN (Nat.le_refl _))
   |false =>
   rw[e7,if_neg (by decide)]at h7
   have eV2:varF L G (wd L p).a q=(.mk sCall (nameP L q).1 0 (wd L p).a (argsF L G L.length [] (adv (nameP L q).2)).1,wantP L sRp (argsF L G L.length [] (adv (nameP L q).2)).2):=eV.trans (if_neg (by rw[e7];decide))
   simp -implicitDefEqProofs(disch:=omega)only[go_sem,p0,p2,p3]
   obtain⟨J,hJ⟩:∃J:Nat→FN→HN→Prop,∀m φ ζ,J m φ ζ↔∃x l ls q',(φ 0=.ptr pb 0∧φ 2=.ptr η.nx 0∧φ 12=.ptr η5.nx 0)∧η6.nx≤ζ.nx∧PA ζ pb y L d q'∧ζ.f η.nx=.live false [.str 0 0,.str 0 0,.int .i64 0,.int .i64 0,.nilslice] ∧
     ζ.f η5.nx=.live false [.str 4 1819042147,.str (nameP L q).1.1 (nameP L q).1.2,.int .i64 0,.int .i64 (wd L p).a,x]∧OwnA 5 η6.nx ζ x ls.length ls.flatten∧rdEs (fun b=>η6.nx≤b∧b<ζ.nx∧¬blkIs x b) ζ l ls∧ExtX pb η ζ ∧
     argsF L G m l q'=argsF L G L.length [] (adv (nameP L q).2)∧(q'.e=0→L.length≤q'.k+m)∧ls.length+m≤L.length:=⟨_,fun _ _ _=>Iff.rfl⟩
   refine wpN_loop J L.length ((hJ _ _ _).2 ⟨.nilslice,[],[],_,⟨p0,p2,rfl⟩,n7,h7,c7,d7,.nil,by unfold rdEs;rfl,X7,rfl,fun _=>Nat.le_add_left _ _,by simp⟩) ?_
   intro m φ ζ hj
   obtain⟨x,l,ls,q',⟨p0,p2,p12⟩,g3,hq,cq,dq,oq,rq,Xq,wq,fq,bq⟩:=(hJ _ _ _).1 hj
   have hqb:=hq.hb
   have hqn:=hq.hn
   have hq7:=hq.e
   have hqk:=hq.k
   have hqg:=hq.g.2.1
   by_cases z0:q'.e=0
   ·obtain _|m:=m
    ·have:=fq z0;omega
    have w1:argsF L G (m+1) l q'=if isP L sComma (exprF L G q').2 then argsF L G m (l++[(exprF L G q').1]) (adv (exprF L G q').2) else(l++[(exprF L G q').1],(exprF L G q').2):=if_pos z0
    rw[z0]at hqb
    simp -implicitDefEqProofs(disch:=omega)only[go_sem,p0,hqb]
    refine thenN_call (E ζ pb y _ _ hq fun z8 η8 r8 h8 x8=>?_)
    have n8:=x8.1
    have l8:=rdE_len r8
    have c8:η8.f η.nx=_:=(x8.2 _ (by omega) (by omega)).trans cq
    have d8:η8.f η5.nx=_:=(x8.2 _ (by omega) (by omega)).trans dq
    have o8:=own_keep oq (fun b hb hc=>x8.2 b hc (by omega)) n8
    have s8:=rdEs_keep' (G:=fun b=>η6.nx≤b∧b<ζ.nx∧¬blkIs x b) (fun b q hc=>x8.2 b hc (by have:=q.1;omega)) n8 (fun _ h=>h) rq
    have hx8:∀b,blkIs x b→b<ζ.nx:=fun b hb=>(own_at oq hb).2
    obtain⟨a1,a2,a3,a4,a5,rfl⟩:=rdE_cells r8
    simp -implicitDefEqProofs(disch:=omega)only[go_sem,p0,p2,p12,d8,repL_s,repL_z,setsL_c]
    have o9:OwnA 5 η6.nx ((η8.new (.live false [.str a1.1 a1.2,.str a2.1 a2.2,.int .i64 a3,.int .i64 a4,a5])).new (.live false [.str a1.1 a1.2,.str a2.1 a2.2,.int .i64 a3,.int .i64 a4,a5])) x ls.length ls.flatten:=own_keep o8 (fun b _ hc=>by simp -implicitDefEqProofs(disch:=omega)only[go_sem]) (by show η8.nx≤η8.nx+1+1;omega)
    refine thenN_sep (by decide) o9 (RdA.lits (s:=5) (n:=1) rfl) (by decide) (by omega) (by show η6.nx≤η8.nx+1+1;omega) fun η9 o9 n9 k9=>?_
    have n9:η9.nx=η8.nx+1+1+1:=n9
    have k9:∀b,b<η8.nx→¬blkIs x b→η9.f b=η8.f b:=fun b hb hc=>(k9 b (by show b<η8.nx+1+1;omega) hc).trans (by simp -implicitDefEqProofs(disch:=omega)only[go_sem])
    have c9:η9.f η.nx=_:=(k9 _ (by omega) (fun g=>by have:=own_at oq g;omega)).trans c8
    have d9:η9.f η5.nx=_:=(k9 _ (by omega) (fun g=>by have:=own_at oq g;omega)).trans d8
    have X9:ExtX pb η η9:=⟨by have:=Xq.1;omega,fun b hb hc=>(k9 b (by have:=Xq.1;omega) (fun g=>by have:=own_at oq g;omega)).trans ((Xq.trans x8).2 b hb hc)⟩
    have h9:PA η9 pb y L d (exprF L G q').2:=by
     have yl:∀b,blkIs y b→b<η.nx:=fun b hb=>Nat.lt_of_not_le fun g=>h.fresh g hb
     exact⟨(k9 pb h8.hn (fun g=>by have:=own_at oq g;omega)).trans h8.hb,by have:=h8.hn;omega,RdR.keep (F:=fun b=>b<η.nx) h8.hy yl (fun b hb hc=>k9 b hc (fun g=>by have:=own_at oq g;omega)) (by omega),h8.hp,h8.g,h8.k,h8.e,h8.b,h8.q,h8.n⟩
    have r9:rdEs (fun b=>η6.nx≤b∧b<η9.nx∧b≠η8.nx+1+1) η9 (l++[(exprF L G q').1]) (ls++[[.str a1.1 a1.2,.str a2.1 a2.2,.int .i64 a3,.int .i64 a4,a5]]):=by
     refine rdEs_app (rdEs_keep' (fun b q hc=>k9 b hc q.2.2) (by omega) (fun b q=>⟨q.1,by have:=q.2.1;omega,by have:=q.2.1;omega⟩) s8) ?_
     exact rdE_keep (fun b q hc=>k9 b hc (fun g=>by have:=hx8 b g;have:=q.1;omega)) (by omega) (fun b q=>⟨by have:=q.1;omega,by have:=q.2;omega,by have:=q.2;omega⟩) _ _ r8
    simp -implicitDefEqProofs(disch:=omega)only[go_sem,p0,p2,p12,d9]
    have h10:PA (η9.put η5.nx (.live false [.str 4 1819042147,.str (nameP L q).1.1 (nameP L q).1.2,.int .i64 0,.int .i64 (wd L p).a,.slice (η8.nx+1+1) 0 (ls.length+1) (.un 5)])) pb y L d (exprF L G q').2:=h9.putc (by omega) (h.fresh (by omega))
    refine thenN_call (take_then U h10 sComma fun η11 h11 x11=>?_)
    have n11:η9.nx≤η11.nx:=x11.1
    have X11:ExtX pb η η11:=(X9.putN (by omega)).trans x11
    have c11:η11.f η.nx=.live false [.str 0 0,.str 0 0,.int .i64 0,.int .i64 0,.nilslice]:=(x11.2 _ (by show η.nx<η9.nx;omega) (by omega)).trans ((if_neg (by omega)).trans c9)
    have d11:η11.f η5.nx=.live false [.str 4 1819042147,.str (nameP L q).1.1 (nameP L q).1.2,.int .i64 0,.int .i64 (wd L p).a,.slice (η8.nx+1+1) 0 (ls.length+1) (.un 5)]:=(x11.2 _ (by show η5.nx<η9.nx;omega) (by omega)).trans (if_pos rfl)
    have o11:OwnA 5 η6.nx η11 (.slice (η8.nx+1+1) 0 (ls.length+1) (.un 5)) (ls++[[.str a1.1 a1.2,.str a2.1 a2.2,.int .i64 a3,.int .i64 a4,a5]]).length (ls++[[.str a1.1 a1.2,.str a2.1 a2.2,.int .i64 a3,.int .i64 a4,a5]]).flatten:=by
     rw[flatten_snoc,List.length_append]
     exact own_keep o9 (fun b hb hc=>(x11.2 b hc (by omega)).trans (if_neg (by omega))) n11
    have r11:rdEs (fun b=>η6.nx≤b∧b<η11.nx∧¬blkIs (.slice (η8.nx+1+1) 0 (ls.length+1) (.un 5)) b) η11 (l++[(exprF L G q').1]) (ls++[[.str a1.1 a1.2,.str a2.1 a2.2,.int .i64 a3,.int .i64 a4,a5]]) :=
     rdEs_keep' (η:=η9) (η':=η11) (fun b q hc=>(x11.2 b hc (by have:=q.1;omega)).trans (if_neg (by have:=q.1;omega))) n11 (fun b q=>⟨q.1,by have:=q.2.1;omega,fun g=>q.2.2 (by have:η8.nx+1+1=b:=g;omega)⟩) r9
    unfold takeP at h11
    cases e11:isP L sComma (exprF L G q').2 with
    |true =>
     rw[e11,if_pos rfl]at h11 w1
     simp -implicitDefEqProofs(disch:=omega)only[go_sem,p0,p2,p12]
     refine⟨m,Nat.lt_succ_self _,(hJ _ _ _).2 ⟨_,_,_,_,⟨p0,p2,p12⟩,by omega,h11,c11,d11,o11,r11,X11,by rw[←wq,w1],fun e'=>?_,by rw[List.length_append];simp only[List.length_cons,List.length_nil];omega⟩⟩
     have w2:LeP q' (exprF L G q').2:=exprF_le FL q'
     have w3:=w2 e'
     have:=fq z0
     show L.length≤(exprF L G q').2.k+1+m
     omega
    |false =>
     rw[e11,if_neg (by decide)]at h11 w1
     simp -implicitDefEqProofs(disch:=omega)only[go_sem,p0,p2,p12]
     exact(hM3 _ _).2 ⟨_,_,_,_,_,_,p0,p2,p12,⟨by omega,by omega,by omega⟩,h11,c11,d11,o11,r11,X11,by rw[eV2,←wq,w1]⟩
   ·simp -implicitDefEqProofs(disch:=omega)only[go_sem,p0,p2,p12,hqb]
    rw[argsF_bad z0]at wq
    exact(hM3 _ _).2 ⟨_,_,_,_,_,_,p0,p2,p12,⟨by omega,by omega,g3⟩,hq,cq,dq,oq,rq,Xq,by rw[eV2,←wq]⟩
  by_cases e0:q.e=0
  ·have hqb0:=hqb
   rw[e0]at hqb0
   by_cases k3:(wd L p).k=3
   ·have eR:restF L G (wd L p) q=(.mk sInt (0,0) (wd L p).n (wd L p).a [],adv q):=if_pos ⟨e0,k3⟩
    rw[eR]at k
    rw[k3]at dq
    simp -implicitDefEqProofs(disch:=omega)only[go_sem,p0,p2,p3,hqb0,dq,cq]
    have A:PA (ζ.put pb (.live false [y,.int .i64 (q.k+1),.int .i64 0,.int .i64 q.b,.int .i64 d,.int .i64 q.parts,.int .i64 q.names])) pb y L d (adv q) :=
     hq.put (p':=adv q) (ExtX.refl pb ζ).put (by rw[←e0];exact if_pos rfl) (adv_lt h.g hqk (by rw[wq];omega)) hq.e hq.b hq.q hq.n
    exact k _ _ (rdE_leaf (op:=sInt) (nm:=(0,0))) (A.putc (by omega) cy) (Xq.put.putN (Nat.le_refl _))
   simp -implicitDefEqProofs(disch:=omega)only[go_sem,p0,p2,p3,hqb0,dq,cq]
   refine thenN_call (take_then U hq sTrue fun η4 h4 x4=>?_)
   have n4:=x4.1
   have c4:η4.f η.nx=_:=(x4.2 _ (by omega) (by omega)).trans cq
   have d4:η4.f c3=_:=(x4.2 _ (by omega) (by omega)).trans dq
   have X4:=Xq.trans x4
   unfold takeP at h4
   cases e4:isP L sTrue q with
   |true =>
    rw[e4,if_pos rfl]at h4
    have eR:restF L G (wd L p) q=(.mk sBool (0,0) 1 (wd L p).a [],adv q):=by unfold restF;rw[if_neg (fun z=>k3 z.2),if_pos e4]
    rw[eR]at k
    simp -implicitDefEqProofs(disch:=omega)only[go_sem,p0,p2,p3,c4,d4]
    exact k _ _ (rdE_leaf (op:=sBool) (nm:=(0,0))) (h4.putc (by omega) cy) (X4.putN (Nat.le_refl _))
   |false =>
   rw[e4,if_neg (by decide)]at h4
   simp -implicitDefEqProofs(disch:=omega)only[go_sem,p0,p2,p3]
   refine thenN_call (take_then U h4 sFalse fun η5 h5 x5=>?_)
   have n5:=x5.1
   have c5:η5.f η.nx=_:=(x5.2 _ (by omega) (by omega)).trans c4
   have d5:η5.f c3=_:=(x5.2 _ (by omega) (by omega)).trans d4
   have X5:=X4.trans x5
   unfold takeP at h5
   cases e5:isP L sFalse q with
   |true =>
    rw[e5,if_pos rfl]at h5
    have eR:restF L G (wd L p) q=(.mk sBool (0,0) 0 (wd L p).a [],adv q):=by unfold restF;rw[if_neg (fun z=>k3 z.2),if_neg (by rw[e4];decide),if_pos e5]
    rw[eR]at k
    simp -implicitDefEqProofs(disch:=omega)only[go_sem,p0,p2,p3,c5,d5]
    exact k _ _ (rdE_leaf (op:=sBool) (nm:=(0,0))) (h5.putc (by omega) cy) (X5.putN (Nat.le_refl _))
   |false =>
   rw[e5,if_neg (by decide)]at h5
   simp -implicitDefEqProofs(disch:=omega)only[go_sem,p0,p2,p3]
   refine thenN_call (take_then U h5 sIf fun η6 h6 x6=>?_)
   have n6:=x6.1
   have c6:η6.f η.nx=_:=(x6.2 _ (by omega) (by omega)).trans c5
   have d6:η6.f c3=_:=(x6.2 _ (by omega) (by omega)).trans d5
   have X6:=X5.trans x6
   unfold takeP at h6
   cases e6:isP L sIf q with
   |true =>
    rw[e6,if_pos rfl]at h6
    have eR:restF L G (wd L p) q=ifF L G (wd L p).a (adv q):=by unfold restF;rw[if_neg (fun z=>k3 z.2),if_neg (by rw[e4];decide),if_neg (by rw[e5];decide),if_pos e6]
    rw[eR]at k
    simp -implicitDefEqProofs(disch:=omega)only[go_sem,p0,p2,p3]
    refine thenN_call (E η6 pb y _ _ h6 fun z7 η7 r7 h7 x7=>?_)
    have n7:=x7.1
    have l7:=rdE_len r7
    have c7:η7.f η.nx=_:=(x7.2 _ (by omega) (by omega)).trans c6
    have d7:η7.f c3=_:=(x7.2 _ (by omega) (by omega)).trans d6
    simp -implicitDefEqProofs(disch:=omega)only[go_sem,p0,l7]
    obtain⟨η8,e8,h8,f8,n8,X8,B8⟩:=cell_new (w:=.live false z7) h7
    rw[←e8]
    refine thenN_call (want_then U h8 sThen fun η9 h9 x9=>?_)
    have n9:=x9.1
    simp -implicitDefEqProofs(disch:=omega)only[go_sem,p0]
    refine thenN_call (E η9 pb y _ _ h9 fun z10 η10 r10 h10 x10=>?_)
    have n10:=x10.1
    have l10:=rdE_len r10
    have Xa:=(X8.trans x9).trans x10
    have c10:η10.f η.nx=_:=(Xa.2 _ (by omega) (by omega)).trans c7
    have d10:η10.f c3=_:=(Xa.2 _ (by omega) (by omega)).trans d7
    have f10:η10.f η7.nx=_:=((x9.trans x10).2 _ (by omega) (by omega)).trans f8
    have s10:=rdE_x r7 Xa (fun q=>by have:=q.1;omega)
    simp -implicitDefEqProofs(disch:=omega)only[go_sem,p0,l10]
    obtain⟨η11,e11,h11,g11,n11,X11,B11⟩:=cell_new (w:=.live false z10) h10
    rw[←e11]
    refine thenN_call (want_then U h11 sElse fun η12 h12 x12=>?_)
    have n12:=x12.1
    simp -implicitDefEqProofs(disch:=omega)only[go_sem,p0]
    refine thenN_call (E η12 pb y _ _ h12 fun z13 η13 r13 h13 x13=>?_)
    have n13:=x13.1
    have l13:=rdE_len r13
    have Xb:=(X11.trans x12).trans x13
    have c13:η13.f η.nx=_:=(Xb.2 _ (by omega) (by omega)).trans c10
    have d13:η13.f c3=_:=(Xb.2 _ (by omega) (by omega)).trans d10
    have f13:η13.f η7.nx=_:=(Xb.2 _ (by omega) (by omega)).trans f10
    have g13:η13.f η10.nx=_:=((x12.trans x13).2 _ (by omega) (by omega)).trans g11
    have s13:=rdE_x s10 Xb (fun q=>by have:=q.1;omega)
    have t13:=rdE_x r10 Xb (fun q=>by have:=q.1;omega)
    obtain⟨a1,a2,a3,a4,a5,rfl⟩:=rdE_cells r7
    obtain⟨b1,b2,b3,b4,b5,rfl⟩:=rdE_cells r10
    obtain⟨i1,i2,i3,i4,i5,rfl⟩:=rdE_cells r13
    simp -implicitDefEqProofs(disch:=omega)only[go_sem,p0,p2,p3,c13,d13,f13,g13,l13,repL_s,repL_z,setsL_c]
    refine k _ _ (rdE_fin3 (op:=sIf) (nm:=(0,0)) (c:=η.nx) (pb:=pb) s13 t13 r13 (fun b q=>⟨⟨by have:=q.1;omega,by have:=q.2;show b<η13.nx+1+1;omega⟩,by have:=q.1;omega,by have:=q.1;omega⟩) (fun b q=>⟨⟨by have:=q.1;omega,by have:=q.2;show b<η13.nx+1+1;omega⟩,by have:=q.1;omega,by have:=q.1;omega⟩) (fun b q=>⟨⟨by have:=q.1;omega,by have:=q.2;show b<η13.nx+1+1;omega⟩,by have:=q.1;omega,by have:=q.1;omega⟩)
     (fun b q1 q2 q3=>by simp -implicitDefEqProofs(disch:=omega)only[go_sem]) (by show η13.nx≤η13.nx+1+1;omega) (by simp -implicitDefEqProofs(disch:=omega)only[go_sem]) (by show η13.nx+1<η13.nx+1+1;omega) ⟨by omega,by show η13.nx+1<η13.nx+1+1;omega⟩) ?_ ?_
    ·exact h13.new.new.putc (by omega) cy
    ·exact((((X6.trans x7).trans Xa).trans Xb).new.new).putN (Nat.le_refl _)
   |false =>
   rw[e6,if_neg (by decide)]at h6
   simp -implicitDefEqProofs(disch:=omega)only[go_sem,p0,p2,p3]
   refine thenN_call (take_then U h6 sMerge fun η7 h7 x7=>?_)
   have n7:=x7.1
   have c7:η7.f η.nx=_:=(x7.2 _ (by omega) (by omega)).trans c6
   have d7:η7.f c3=_:=(x7.2 _ (by omega) (by omega)).trans d6
   have X7:=X6.trans x7
   unfold takeP at h7
   cases e7:isP L sMerge q with
   |true =>
    rw[e7,if_pos rfl]at h7
    have eR:restF L G (wd L p) q=mergeF L G (wd L p).a (adv q):=by unfold restF;rw[if_neg (fun z=>k3 z.2),if_neg (by rw[e4];decide),if_neg (by rw[e5];decide),if_neg (by rw[e6];decide),if_pos e7]
    rw[eR]at k
    simp -implicitDefEqProofs(disch:=omega)only[go_sem,p0,p2,p3]
    refine thenN_call (name_then U h7 fun η8 h8 x8=>?_)
    have n8:=x8.1
    simp -implicitDefEqProofs(disch:=omega)only[go_sem,p0,p2,p3]
    refine thenN_call (I η8 pb y _ _ h8 fun z9 η9 r9 h9 x9=>?_)
    have n9:=x9.1
    have l9:=rdE_len r9
    simp -implicitDefEqProofs(disch:=omega)only[go_sem,p0,l9]
    obtain⟨η10,e10,h10,f10,n10,X10,B10⟩:=cell_new (w:=.live false z9) h9
    rw[←e10]
    refine thenN_call (I η10 pb y _ _ h10 fun z11 η11 r11 h11 x11=>?_)
    have n11:=x11.1
    have Xa:=X10.trans x11
    have Xb:=(x8.trans x9).trans Xa
    have c11:η11.f η.nx=_:=(Xb.2 _ (by omega) (by omega)).trans c7
    have d11:η11.f c3=_:=(Xb.2 _ (by omega) (by omega)).trans d7
    have f11:η11.f η9.nx=_:=(x11.2 _ (by omega) (by omega)).trans f10
    have l11:=rdE_len r11
    have s11:=rdE_x r9 Xa (fun q=>by have:=q.1;omega)
    obtain⟨a1,a2,a3,a4,a5,rfl⟩:=rdE_cells r9
    obtain⟨b1,b2,b3,b4,b5,rfl⟩:=rdE_cells r11
    simp -implicitDefEqProofs(disch:=omega)only[go_sem,p0,p2,p3,c11,d11,f11,l11,repL_s,repL_z,setsL_c,sV]
    refine k _ _ (rdE_fin2 (op:=sMerge) (c:=η.nx) (pb:=pb) s11 r11 (fun b q=>⟨⟨by have:=q.1;omega,by have:=q.2;show b<η11.nx+1+1;omega⟩,by have:=q.1;omega,by have:=q.1;omega⟩) (fun b q=>⟨⟨by have:=q.1;omega,by have:=q.2;show b<η11.nx+1+1;omega⟩,by have:=q.1;omega,by have:=q.1;omega⟩)
     (fun b q1 q2 q3=>by simp -implicitDefEqProofs(disch:=omega)only[go_sem]) (by show η11.nx≤η11.nx+1+1;omega) (by simp -implicitDefEqProofs(disch:=omega)only[go_sem]) (by show η11.nx+1<η11.nx+1+1;omega) ⟨by omega,by show η11.nx+1<η11.nx+1+1;omega⟩) ?_ ?_
    ·exact h11.new.new.putc (by omega) cy
    ·exact((X7.trans Xb).new.new).putN (Nat.le_refl _)
   |false =>
   rw[e7,if_neg (by decide)]at h7
   have eR:restF L G (wd L p) q=varF L G (wd L p).a q:=by unfold restF;rw[if_neg (fun z=>k3 z.2),if_neg (by rw[e4];decide),if_neg (by rw[e5];decide),if_neg (by rw[e6];decide),if_neg (by rw[e7];decide)]
   simp -implicitDefEqProofs(disch:=omega)only[go_sem,p0,p2,p3]
   exact(hM2 _ _).2 ⟨p0,p2,p3,by omega,d7,h7,c7,X7,eR⟩
  ·have eR:restF L G (wd L p) q=varF L G (wd L p).a q:=by unfold restF;rw[if_neg (fun z=>e0 z.1),if_neg (by rw[isP_bad e0];decide),if_neg (by rw[isP_bad e0];decide),if_neg (by rw[isP_bad e0];decide),if_neg (by rw[isP_bad e0];decide)]
   simp -implicitDefEqProofs(disch:=omega)only[go_sem,p0,p2,p3,hqb]
   exact(hM2 _ _).2 ⟨p0,p2,p3,g2,dq,hq,cq,Xq,eR⟩
 ·simp -implicitDefEqProofs(disch:=omega)only[go_sem]
  obtain⟨η0,e0,h0,c0,n0,X0,B0⟩:=cell_new (w:=.live false [.str 0 0,.str 0 0,.int .i64 0,.int .i64 0,.nilslice]) h
  rw[←e0]
  refine thenN_call (w_then U h0 fun η1 x1=>?_)
  have n1:=x1.1
  have h1:=h0.extB x1
  have c1:η1.f η.nx=_:=(x1.2 η.nx (by omega)).trans c0
  rw[hc]
  simp -implicitDefEqProofs(disch:=omega)only[go_sem]
  obtain⟨η2,e2,h2,c2,n2,X2,B2⟩:=cell_new (w:=.live false [.int .i64 (wd L p).k,.str (wd L p).t.1 (wd L p).t.2,.int .i64 (wd L p).n,.int .i64 (wd L p).a]) h1
  rw[←e2]
  refine thenN_call (take_then U h2 sLp fun η3 h3 x3=>?_)
  have n3:=x3.1
  have c3:η3.f η.nx=_:=(x3.2 _ (by omega) (by omega)).trans ((B2.2 _ (by omega)).trans c1)
  have d3:η3.f η1.nx=_:=(x3.2 _ (by omega) (by omega)).trans c2
  have X3:ExtX pb η η3:=((X0.of x1).trans X2).trans x3
  unfold takeP at h3
  cases e:isP L sLp p with
  |true =>
   rw[e,if_pos rfl]at h3
   have eF:primF L G p=((exprF L G (adv p)).1,wantP L sRp (exprF L G (adv p)).2):=if_pos e
   rw[eF]at k
   simp -implicitDefEqProofs(disch:=omega)only[go_sem]
   refine thenN_call (E η3 pb y _ _ h3 fun z4 η4 r4 h4 x4=>?_)
   have n4:=x4.1
   have l4:=rdE_len r4
   have c4:η4.f η.nx=_:=(x4.2 _ (by omega) (by omega)).trans c3
   simp -implicitDefEqProofs(disch:=omega)only[go_sem,l4]
   obtain⟨η5,e5,h5,c5,n5,X5,B5⟩:=cell_new (w:=.live false z4) h4
   rw[←e5]
   refine thenN_call (want_then U h5 sRp fun η6 h6 x6=>?_)
   have n6:=x6.1
   have c6:η6.f η.nx=_:=(x6.2 _ (by omega) (by omega)).trans ((B5.2 _ (by omega)).trans c4)
   have d6:η6.f η4.nx=_:=(x6.2 _ (by omega) (by omega)).trans c5
   simp -implicitDefEqProofs(disch:=omega)only[go_sem,c6,d6,l4]
   exact k _ _ (rdE_mono (rdE_put (rdE_x r4 (X5.trans x6) (fun q=>by have:=q.1;omega)) (fun q=>by have:=q.1;omega)) (fun b q=>⟨by have:=q.1;omega,by have:=q.2;show b<η6.nx;omega⟩)) (h6.putc (by omega) (h.fresh (Nat.le_refl _))) ((((X3.trans x4).trans X5).trans x6).putN (Nat.le_refl _))
  |false =>
   rw[e,if_neg (by decide)]at h3
   have eF:primF L G p=restF L G (wd L p) (primQ L p):=if_neg (by rw[e];decide)
   by_cases k1:(wd L p).k=1
   ·have eQ:primQ L p=partP L p:=if_pos (.inl k1)
    rw[k1]at d3
    simp -implicitDefEqProofs(disch:=omega)only[go_sem,d3]
    refine thenN_call (part_then U h3 fun η4 h4 x4=>?_)
    have n4:=x4.1
    simp -implicitDefEqProofs(disch:=omega)only[go_sem]
    exact(hM _ _).2 ⟨rfl,rfl,⟨η1.nx,by omega,by omega,rfl,by rw[hc,k1];exact(x4.2 _ (by omega) (by omega)).trans d3⟩,by rw[eQ];exact h4,(x4.2 _ (by omega) (by omega)).trans c3,X3.trans x4,eF⟩
   by_cases k3:(wd L p).k=3
   ·have eQ:primQ L p=partP L p:=if_pos (.inr (.inl k3))
    rw[k3]at d3
    simp -implicitDefEqProofs(disch:=omega)only[go_sem,d3]
    refine thenN_call (part_then U h3 fun η4 h4 x4=>?_)
    have n4:=x4.1
    simp -implicitDefEqProofs(disch:=omega)only[go_sem]
    exact(hM _ _).2 ⟨rfl,rfl,⟨η1.nx,by omega,by omega,rfl,by rw[hc,k3];exact(x4.2 _ (by omega) (by omega)).trans d3⟩,by rw[eQ];exact h4,(x4.2 _ (by omega) (by omega)).trans c3,X3.trans x4,eF⟩
   simp -implicitDefEqProofs(disch:=omega)only[go_sem,d3]
   refine thenN_call (is_then U h3 sTrue fun η4 x4=>?_)
   have n4:=x4.1
   have h4:=h3.extB x4
   have c4:η4.f η.nx=_:=(x4.2 _ (by omega)).trans c3
   have d4:η4.f η1.nx=_:=(x4.2 _ (by omega)).trans d3
   have X4:=X3.of x4
   cases e4:isP L sTrue p with
   |true =>
    have eQ:primQ L p=partP L p:=if_pos (.inr (.inr (.inl e4)))
    simp -implicitDefEqProofs(disch:=omega)only[go_sem]
    refine thenN_call (part_then U h4 fun η8 h8 x8=>?_)
    have n8:=x8.1
    simp -implicitDefEqProofs(disch:=omega)only[go_sem]
    exact(hM _ _).2 ⟨rfl,rfl,⟨η1.nx,by omega,by omega,rfl,by rw[hc];exact(x8.2 _ (by omega) (by omega)).trans d4⟩,by rw[eQ];exact h8,(x8.2 _ (by omega) (by omega)).trans c4,X4.trans x8,eF⟩
   |false =>
   simp -implicitDefEqProofs(disch:=omega)only[go_sem]
   refine thenN_call (is_then U h4 sFalse fun η5 x5=>?_)
   have n5:=x5.1
   have h5:=h4.extB x5
   have c5:η5.f η.nx=_:=(x5.2 _ (by omega)).trans c4
   have d5:η5.f η1.nx=_:=(x5.2 _ (by omega)).trans d4
   have X5:=X4.of x5
   cases e5:isP L sFalse p with
   |true =>
    have eQ:primQ L p=partP L p:=if_pos (.inr (.inr (.inr (.inl e5))))
    simp -implicitDefEqProofs(disch:=omega)only[go_sem]
    refine thenN_call (part_then U h5 fun η8 h8 x8=>?_)
    have n8:=x8.1
    simp -implicitDefEqProofs(disch:=omega)only[go_sem]
    exact(hM _ _).2 ⟨rfl,rfl,⟨η1.nx,by omega,by omega,rfl,by rw[hc];exact(x8.2 _ (by omega) (by omega)).trans d5⟩,by rw[eQ];exact h8,(x8.2 _ (by omega) (by omega)).trans c5,X5.trans x8,eF⟩
   |false =>
   simp -implicitDefEqProofs(disch:=omega)only[go_sem]
   refine thenN_call (is_then U h5 sIf fun η6 x6=>?_)
   have n6:=x6.1
   have h6:=h5.extB x6
   have c6:η6.f η.nx=_:=(x6.2 _ (by omega)).trans c5
   have d6:η6.f η1.nx=_:=(x6.2 _ (by omega)).trans d5
   have X6:=X5.of x6
   cases e6:isP L sIf p with
   |true =>
    have eQ:primQ L p=partP L p:=if_pos (.inr (.inr (.inr (.inr (.inl e6)))))
    simp -implicitDefEqProofs(disch:=omega)only[go_sem]
    refine thenN_call (part_then U h6 fun η8 h8 x8=>?_)
    have n8:=x8.1
    simp -implicitDefEqProofs(disch:=omega)only[go_sem]
    exact(hM _ _).2 ⟨rfl,rfl,⟨η1.nx,by omega,by omega,rfl,by rw[hc];exact(x8.2 _ (by omega) (by omega)).trans d6⟩,by rw[eQ];exact h8,(x8.2 _ (by omega) (by omega)).trans c6,X6.trans x8,eF⟩
   |false =>
   simp -implicitDefEqProofs(disch:=omega)only[go_sem]
   refine thenN_call (is_then U h6 sMerge fun η7 x7=>?_)
   have n7:=x7.1
   have h7:=h6.extB x7
   have c7:η7.f η.nx=_:=(x7.2 _ (by omega)).trans c6
   have d7:η7.f η1.nx=_:=(x7.2 _ (by omega)).trans d6
   have X7:=X6.of x7
   cases e7:isP L sMerge p with
   |true =>
    have eQ:primQ L p=partP L p:=if_pos (.inr (.inr (.inr (.inr (.inr (e7))))))
    simp -implicitDefEqProofs(disch:=omega)only[go_sem]
    refine thenN_call (part_then U h7 fun η8 h8 x8=>?_)
    have n8:=x8.1
    simp -implicitDefEqProofs(disch:=omega)only[go_sem]
    exact(hM _ _).2 ⟨rfl,rfl,⟨η1.nx,by omega,by omega,rfl,by rw[hc];exact(x8.2 _ (by omega) (by omega)).trans d7⟩,by rw[eQ];exact h8,(x8.2 _ (by omega) (by omega)).trans c7,X7.trans x8,eF⟩
   |false =>
   simp -implicitDefEqProofs(disch:=omega)only[go_sem]
   have eQ:primQ L p=p:=if_neg (by rw[e4,e5,e6,e7];simp [k1,k3])
   exact(hM _ _).2 ⟨rfl,rfl,⟨η1.nx,by omega,by omega,rfl,by rw[hc];exact d7⟩,by rw[eQ];exact h7,c7,X7,eF⟩
end Go.Proofs.YtdeejbnhlbddgaaGreatDoor
